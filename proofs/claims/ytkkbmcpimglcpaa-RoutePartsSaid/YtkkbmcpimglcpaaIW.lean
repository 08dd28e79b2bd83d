/- smap: SmapInverts -/
import Derived.Test.YtkkbmcpimglcpaaPlain
import Derived.Test.YtkkbmcpimglcpaaH
import Derived.Test.YtkkbmcpimglcpaaQ
namespace Go.Proofs.Ytkkbmcpimglcpaa
open Go.RowKit

theorem sameB_self (l : List Rg) : sameB l l = true := by simp [sameB]
/-- the contracts that the laws of this layer call, from whatever world on that lies behind w -/
structure Has (A : Option Addr) (n c : Nat) (l : List Rg) (w : World) : Prop where
  hn : n ≤ maxLen
  rd : Rd w w.heap.size 3 A n (rgs l)
theorem Has.at_ {A : Option Addr} {n c : Nat} {l : List Rg} {w W : World} (h : Has A n c l w) (hb : Below w.heap.size w W) : Rd W W.heap.size 3 A n (rgs l) := (h.rd.below hb).more hb.size
theorem Has.to {A : Option Addr} {n c : Nat} {l : List Rg} {w W : World} (h : Has A n c l w) (hb : Below w.heap.size w W) : Has A n c l W := ⟨h.hn, h.at_ hb⟩
section
variable {A : Option Addr} {n c : Nat} {l : List Rg} {w W : World}
theorem Has.right (h : Has A n c l w) (hb : Below w.heap.size w W) : Calls Try.prog 14 #[.slice A n c] W (On w W (.bool (rightM l))) := calls_on hb (right_any A n c l W h.hn (fun _ => h.at_ hb) h.rd.rlen)
theorem Has.rright (h : Has A n c l w) (hb : Below w.heap.size w W) : Calls Try.prog 11 #[.slice A n c] W (On w W (.bool (rightM l))) := calls_on hb (rright_any A n c l W h.hn (fun _ => h.at_ hb) h.rd.rlen)
theorem Has.rec_ (h : Has A n c l w) (hb : Below w.heap.size w W) (at_ off : Int) : Calls Try.prog 19 #[.slice A n c, .int .i64 at_, .int .i64 off] W (On w W (.tuple #[.int .i64 (recS l at_ off).1, .bool (recS l at_ off).2])) := calls_on hb (rec_any A n c l at_ off W h.hn (fun _ => h.at_ hb) h.rd.rlen)
theorem Has.rrec (h : Has A n c l w) (hb : Below w.heap.size w W) (hr : rightM l = true) (at_ off : Int) : Calls Try.prog 20 #[.slice A n c, .int .i64 at_, .int .i64 off] W (On w W (.int .i64 (recD l at_ off))) := calls_on hb (rrec_any A n c l at_ off W (h.at_ hb) hr)
theorem Has.same (h : Has A n c l w) {w' : World} {A' : Option Addr} {n' c' : Nat} {l' : List Rg} (h' : Has A' n' c' l' w') (hb : Below w.heap.size w W) (hb' : Below w'.heap.size w' W) : Calls Try.prog 21 #[.slice A n c, .slice A' n' c'] W (On w W (.bool (sameB l l'))) :=
  calls_on hb (same_any A A' n n' c c' l l' W h.hn h'.hn (fun _ => h.at_ hb) (fun _ => h'.at_ hb') h.rd.rlen h'.rd.rlen)
/-- a map comes out, in memory of its own -/
abbrev Gets (w W : World) (m : Nat) (l' : List Rg) (e : Ending) (w' : World) : Prop := ∃ A' c', e = .returned (.slice A' m c') ∧ Has A' m c' l' w' ∧ Below w.heap.size w w' ∧ w.heap.size ≤ w'.heap.size ∧ Below W.heap.size W w'
theorem Has.inv (h : Has A n c l w) (hb : Below w.heap.size w W) : Calls Try.prog 18 #[.slice A n c] W (Gets w W (if rightM l then n else 0) (if rightM l then invM l else [])) :=
  (inv_any A n c l W h.hn (fun _ => h.at_ hb) h.rd.rlen).mono fun e w' ⟨v, m, he, ho, hb'⟩ => by
    have hm : (if rightM l then n else 0) = m := by
      have h1 := ho.1
      rw [rgs_len] at h1
      have h2 := invM_length l
      have h3 := h.rd.rlen
      split at h1 <;> simp_all <;> omega
    obtain ⟨A', c', rfl, h1, h2, _, h3⟩ := own_form ho
    rw [hm]
    exact ⟨A', c', he, ⟨Nat.le_trans h1 h2, h3⟩, hb.trans (hb'.mono hb.size), Nat.le_trans hb.size hb'.size, hb'⟩
theorem Has.rinv (h : Has A n c l w) (hb : Below w.heap.size w W) (hr : rightM l = true) : Calls Try.prog 22 #[.slice A n c] W (Gets w W n (invM l)) :=
  (rinv_any A n c l W (h.at_ hb) hr).mono fun e w' ⟨v, he, ho, hb'⟩ => by
    obtain ⟨A', c', rfl, h1, h2, _, h3⟩ := own_form ho
    exact ⟨A', c', he, ⟨Nat.le_trans h1 h2, h3⟩, hb.trans (hb'.mono hb.size), Nat.le_trans hb.size hb'.size, hb'⟩
theorem live_on (hb : Below w.heap.size w W) : Calls Try.prog 9 #[] W (On w W (.bool true)) := calls_on hb (live23_any W)
end

set_option maxRecDepth 100000 in
set_option maxHeartbeats 4000000 in
theorem inverts_any (A : Option Addr) (n c : Nat) (l : List Rg) (at_ off : Int) (w : World) (hn : n ≤ maxLen) (hrd : Rd w w.heap.size 3 A n (rgs l)) :
    Calls Try.prog 4 #[.slice A n c, .int .i64 at_, .int .i64 off] w fun e w' => e = .returned (.bool true) ∧ Below w.heap.size w w' := by
  have HM : Has A n c l w := ⟨hn, hrd⟩
  have hl := hrd.rlen
  unfold maxLen at hn
  clear hrd
  by_cases h60 : n ≤ 60
  · cases hr : rightM l with
    | false =>
      have hrec : recS l at_ off = (0, false) := by unfold recS; rw [hr]; rfl
      have hRC := fun W (hb : Below w.heap.size w W) => HM.rec_ hb at_ off
      have hIN := fun W (hb : Below w.heap.size w W) => HM.inv hb
      have hRR := fun W (hb : Below w.heap.size w W) => HM.rright hb
      simp only [hrec] at hRC
      simp only [hr, Bool.false_eq_true, if_false] at hIN hRR
      have HRC := Lib.hid hRC
      have HIN := Lib.hid hIN
      have HRR := Lib.hid hRR
      clear hrec hRC hIN hRR hr hl HM
      go_enter Try.func4, Try.ntmps4
      go_wp2_with (first
        | (go_at_call 18; ((with_reducible refine (HIN.out _ (by repeat (first | with_reducible exact Below.refl _ _ | with_reducible assumption | (with_reducible refine below_drewN ?_ _) | (with_reducible refine Below.drew ?_) | (with_reducible refine Below.alloc ?_ ?_ _; rotate_left; focus (first | with_reducible assumption | omega | (simp; done) | (simp; omega))) | (with_reducible refine Below.setCell ?_ ?_ _; rotate_left; focus (first | with_reducible assumption | omega | (simp; done) | (simp; omega)))))).mono ?_); rintro e w1 ⟨A', c', rfl, _, hb1, hz1, hx1⟩))
        | (go_at_call 19; ((with_reducible refine (HRC.out _ (by repeat (first | with_reducible exact Below.refl _ _ | with_reducible assumption | (with_reducible refine below_drewN ?_ _) | (with_reducible refine Below.drew ?_) | (with_reducible refine Below.alloc ?_ ?_ _; rotate_left; focus (first | with_reducible assumption | omega | (simp; done) | (simp; omega))) | (with_reducible refine Below.setCell ?_ ?_ _; rotate_left; focus (first | with_reducible assumption | omega | (simp; done) | (simp; omega)))))).mono ?_); rintro e w2 ⟨rfl, hb2, hz2, hx2⟩))
        | (go_at_call 11; ((with_reducible refine (HRR.out _ (by repeat (first | with_reducible exact Below.refl _ _ | with_reducible assumption | (with_reducible refine below_drewN ?_ _) | (with_reducible refine Below.drew ?_) | (with_reducible refine Below.alloc ?_ ?_ _; rotate_left; focus (first | with_reducible assumption | omega | (simp; done) | (simp; omega))) | (with_reducible refine Below.setCell ?_ ?_ _; rotate_left; focus (first | with_reducible assumption | omega | (simp; done) | (simp; omega)))))).mono ?_); rintro e w3 ⟨rfl, hb3, hz3, hx3⟩))
        | (go_at_call 9; ((with_reducible refine (live_on (w := w) (by repeat (first | with_reducible exact Below.refl _ _ | with_reducible assumption | (with_reducible refine below_drewN ?_ _) | (with_reducible refine Below.drew ?_) | (with_reducible refine Below.alloc ?_ ?_ _; rotate_left; focus (first | with_reducible assumption | omega | (simp; done) | (simp; omega))) | (with_reducible refine Below.setCell ?_ ?_ _; rotate_left; focus (first | with_reducible assumption | omega | (simp; done) | (simp; omega)))))).mono ?_); rintro e w4 ⟨rfl, hb4, hz4, hx4⟩)))
      go_ret
      exact ⟨rfl, hb4⟩
    | true =>
      have hag := rec_agree at_ off hr
      have hRC := fun W (hb : Below w.heap.size w W) => HM.rec_ hb at_ off
      have hRD := fun W (hb : Below w.heap.size w W) => HM.rrec hb hr at_ off
      have hIN := fun W (hb : Below w.heap.size w W) => HM.inv hb
      have hRI := fun W (hb : Below w.heap.size w W) => HM.rinv hb hr
      have hRR := fun W (hb : Below w.heap.size w W) => HM.rright hb
      simp only [hr, if_true] at hIN hRR
      generalize recD l at_ off = d at hag hRD
      generalize recS l at_ off = q at hag hRC
      obtain ⟨N, B⟩ := q
      simp only at hag hRC
      have HRI := Lib.hid hRI
      have HRC := Lib.hid hRC
      have HRD := Lib.hid hRD
      have HIN := Lib.hid hIN
      have HRR := Lib.hid hRR
      have HRT := Lib.hid hr
      clear hRC hRD hIN hRR hRI hr hl
      have hd : (0 ≤ d ∧ B = true ∧ N = d) ∨ (d < 0 ∧ B = false ∧ N = 0) := by
        obtain ⟨h1, h2⟩ := hag
        by_cases h : 0 ≤ d
        · exact .inl ⟨h, by rw [h1]; exact decide_eq_true h, by omega⟩
        · exact .inr ⟨by omega, by rw [h1]; exact decide_eq_false h, by omega⟩
      clear hag
      rcases hd with ⟨hd, rfl, rfl⟩ | ⟨hd, rfl, rfl⟩
      all_goals
        go_enter Try.func4, Try.ntmps4
        go_wp2_with (first
          | (go_at_call 18; ((with_reducible refine (HIN.out _ (by repeat (first | with_reducible exact Below.refl _ _ | with_reducible assumption | (with_reducible refine below_drewN ?_ _) | (with_reducible refine Below.drew ?_) | (with_reducible refine Below.alloc ?_ ?_ _; rotate_left; focus (first | with_reducible assumption | omega | (simp; done) | (simp; omega))) | (with_reducible refine Below.setCell ?_ ?_ _; rotate_left; focus (first | with_reducible assumption | omega | (simp; done) | (simp; omega)))))).mono ?_); rintro e w1 ⟨A', c', rfl, HW, hb1, hz1, hx1⟩))
          | (go_at_call 19; ((with_reducible refine (HRC.out _ (by repeat (first | with_reducible exact Below.refl _ _ | with_reducible assumption | (with_reducible refine below_drewN ?_ _) | (with_reducible refine Below.drew ?_) | (with_reducible refine Below.alloc ?_ ?_ _; rotate_left; focus (first | with_reducible assumption | omega | (simp; done) | (simp; omega))) | (with_reducible refine Below.setCell ?_ ?_ _; rotate_left; focus (first | with_reducible assumption | omega | (simp; done) | (simp; omega)))))).mono ?_); rintro e w2 ⟨rfl, hb2, hz2, b12⟩))
          | (go_at_call 11; ((with_reducible refine (HRR.out _ (by repeat (first | with_reducible exact Below.refl _ _ | with_reducible assumption | (with_reducible refine below_drewN ?_ _) | (with_reducible refine Below.drew ?_) | (with_reducible refine Below.alloc ?_ ?_ _; rotate_left; focus (first | with_reducible assumption | omega | (simp; done) | (simp; omega))) | (with_reducible refine Below.setCell ?_ ?_ _; rotate_left; focus (first | with_reducible assumption | omega | (simp; done) | (simp; omega)))))).mono ?_); rintro e w3 ⟨rfl, hb3, hz3, hx3⟩; have b13 := b12.trans (hx3.mono b12.size)))
          | (go_at_call 20; ((with_reducible refine (HRD.out _ (by repeat (first | with_reducible exact Below.refl _ _ | with_reducible assumption | (with_reducible refine below_drewN ?_ _) | (with_reducible refine Below.drew ?_) | (with_reducible refine Below.alloc ?_ ?_ _; rotate_left; focus (first | with_reducible assumption | omega | (simp; done) | (simp; omega))) | (with_reducible refine Below.setCell ?_ ?_ _; rotate_left; focus (first | with_reducible assumption | omega | (simp; done) | (simp; omega)))))).mono ?_); rintro e w4 ⟨rfl, hb4, hz4, hx4⟩; have b14 := b13.trans (hx4.mono b13.size)))
          | (go_at_call 22; ((with_reducible refine (HRI.out _ (by repeat (first | with_reducible exact Below.refl _ _ | with_reducible assumption | (with_reducible refine below_drewN ?_ _) | (with_reducible refine Below.drew ?_) | (with_reducible refine Below.alloc ?_ ?_ _; rotate_left; focus (first | with_reducible assumption | omega | (simp; done) | (simp; omega))) | (with_reducible refine Below.setCell ?_ ?_ _; rotate_left; focus (first | with_reducible assumption | omega | (simp; done) | (simp; omega)))))).mono ?_); rintro e w5 ⟨A5, c5, rfl, HV, hb5, hz5, hx5⟩; have b15 := b14.trans (hx5.mono b14.size)))
          | (go_at_call 21; have hsm := HW.same HV b15 (Below.refl _ _); rw [sameB_self] at hsm; ((with_reducible refine hsm.mono ?_); rintro e w6 ⟨rfl, b16, hz6, hx6⟩; clear hsm)))
        have HWL := Lib.hid HW.rd.rlen
        have HW1 := HW.rd
        go_loopw [11, 12] (fun v i wr => ∃ k : Nat, k ≤ n ∧ i = .int .i64 k ∧ v = .bool (lowB ((invM l).take k)) ∧ Below w1.heap.size w1 wr ∧ w1.heap.size ≤ wr.heap.size) (fun _ i _ => n - (intOf i).toNat)
        case atStart => exact ⟨0, by omega, rfl, rfl, b16, hz6⟩
        case round =>
          obtain ⟨k, hk, rfl, rfl, hbr, hzr⟩ := hrel
          by_cases hkn : k < n
          · obtain ⟨b, o, rfl, hbB, _⟩ := HW1.2 (by omega)
            obtain ⟨r, hx⟩ : ∃ r, (invM l)[k]? = some r := ⟨_, List.getElem?_eq_getElem (by have := HWL.out; omega)⟩
            obtain ⟨hc0, hc1, hc2, hb⟩ := (HW1.below hbr).rg hx
            have hsn := lowB_snoc hx
            have HS := Lib.hid hsn
            clear hx hsn
            cases hlow : lowB ((invM l).take k) with
            | false =>
              rw [hlow] at HS
              go_wp2
              go_roundw
              case rel => exact ⟨k + 1, by omega, by go_num, by rw [HS.out]; simp, hbr, hzr⟩
              case measure => simp [intOf]; omega
            | true =>
              rw [hlow] at HS
              by_cases hle : r.at_ ≤ 1073741824
              all_goals
                go_wp2
                go_roundw
                case rel => exact ⟨k + 1, by omega, by go_num, by rw [HS.out]; simp [hle], hbr, hzr⟩
                case measure => simp [intOf]; omega
          · obtain rfl : n = k := by omega
            have hbw : Below w.heap.size w wr := hb1.trans (hbr.mono hz1)
            rw [List.take_of_length_le (by rw [HWL.out]; omega)]
            cases hlow : lowB (invM l) with
            | false =>
              go_wp2_with (go_at_call 9; ((with_reducible refine (live_on (w := w) (by repeat (first | with_reducible exact Below.refl _ _ | with_reducible assumption | (with_reducible refine below_drewN ?_ _) | (with_reducible refine Below.drew ?_) | (with_reducible refine Below.alloc ?_ ?_ _; rotate_left; focus (first | with_reducible assumption | omega | (simp; done) | (simp; omega))) | (with_reducible refine Below.setCell ?_ ?_ _; rotate_left; focus (first | with_reducible assumption | omega | (simp; done) | (simp; omega)))))).mono ?_); rintro e w8 ⟨rfl, hb8, hz8, hx8⟩))
              go_ret
              exact ⟨rfl, hb8⟩
            | true =>
              have hi2 := fun W (hb : Below w1.heap.size w1 W) => HW.inv hb
              simp only [invM_right HRT.out (lowB_spec hlow), if_true, invM_invM] at hi2
              have HI2 := Lib.hid hi2
              clear hi2
              go_wp2_with (first
                | (go_at_call 18; ((with_reducible refine (HI2.out _ (by repeat (first | with_reducible exact Below.refl _ _ | with_reducible assumption | (with_reducible refine below_drewN ?_ _) | (with_reducible refine Below.drew ?_) | (with_reducible refine Below.alloc ?_ ?_ _; rotate_left; focus (first | with_reducible assumption | omega | (simp; done) | (simp; omega))) | (with_reducible refine Below.setCell ?_ ?_ _; rotate_left; focus (first | with_reducible assumption | omega | (simp; done) | (simp; omega)))))).mono ?_); rintro e w7 ⟨A7, c7, rfl, H7, hb7, hz7, hx7⟩; have hb7' := hb1.trans (hb7.mono hz1)))
                | (go_at_call 21; have hsm := H7.same HM (Below.refl _ _) hb7'; rw [sameB_self] at hsm; ((with_reducible refine hsm.mono ?_); rintro e w9 ⟨rfl, hb9, hz9, hx9⟩; clear hsm; have hb9' := hb7'.trans (hb9.mono hb7'.size)))
                | (go_at_call 9; ((with_reducible refine (live_on (w := w) (by repeat (first | with_reducible exact Below.refl _ _ | with_reducible assumption | (with_reducible refine below_drewN ?_ _) | (with_reducible refine Below.drew ?_) | (with_reducible refine Below.alloc ?_ ?_ _; rotate_left; focus (first | with_reducible assumption | omega | (simp; done) | (simp; omega))) | (with_reducible refine Below.setCell ?_ ?_ _; rotate_left; focus (first | with_reducible assumption | omega | (simp; done) | (simp; omega)))))).mono ?_); rintro e w8 ⟨rfl, hb8, hz8, hx8⟩)))
              go_ret
              exact ⟨rfl, hb8⟩
  · clear hl HM
    go_enter Try.func4, Try.ntmps4
    go_wp2_with (go_at_call 9; ((with_reducible refine (live_on (w := w) (by repeat (first | with_reducible exact Below.refl _ _ | with_reducible assumption | (with_reducible refine below_drewN ?_ _) | (with_reducible refine Below.drew ?_) | (with_reducible refine Below.alloc ?_ ?_ _; rotate_left; focus (first | with_reducible assumption | omega | (simp; done) | (simp; omega))) | (with_reducible refine Below.setCell ?_ ?_ _; rotate_left; focus (first | with_reducible assumption | omega | (simp; done) | (simp; omega)))))).mono ?_); rintro e w4 ⟨rfl, hb4, hz4, hx4⟩))
    go_ret
    exact ⟨rfl, hb4⟩
end Go.Proofs.Ytkkbmcpimglcpaa
