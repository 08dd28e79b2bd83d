/- utf: the reference's Decode; Count; Same; Encode, both -/
import Derived.Test.YtlfofgefpjihlaaI
namespace Go.Proofs.Ytlfofgefpjihlaa
open Go.RowKit

set_option maxHeartbeats 1000000 in
theorem rdecode_any (A : Option Addr) (N c : Nat) (bs : List Int) (w : World) (hN : N ≤ 100000) (hc : N ≤ c) (hr : Rd w w.heap.size 1 A N (u8s bs)) (hb : ∀ x ∈ bs, 0 ≤ x ∧ x ≤ 255) :
    Calls Try.prog 18 #[.slice A N c] w (DecSays (decS bs) w) := by
  have hl : bs.length = N := by simpa using hr.1
  have HL := Lib.hid hl
  have HB := Lib.hid hb
  clear hl hb
  go_enter Try.func18, Try.ntmps18
  go_wp2
  go_loopw [5, 6] (fun v i wr => ∃ (k f : Nat) (acc : List Int), k ≤ N ∧ i = .int .i64 k ∧ N + 1 ≤ k + f ∧ acc.length ≤ k ∧ Hid (dec bs f k acc = decS bs) ∧ wr.ownsRow w.heap.size 21 1 v acc.length (i32s acc) ∧ Below w.heap.size w wr) (fun _ i _ => N - (intOf i).toNat)
  case atStart => exact ⟨0, N + 1, [], by omega, rfl, by omega, by simp, by rw [← HL.out]; exact rfl, World.ownsRow_nil _ _ _ _, Below.refl _ _⟩
  case round =>
    obtain ⟨k, f, acc, hk, rfl, hf, hak, hD, hown, hbr⟩ := hrel
    by_cases hkN : k < N
    · have hne := rnext_any A N c k bs wr (by omega) hkN hc ((hr.below hbr).more hbr.size) HB.out
      have her := nextS_err (bs := bs) (at_ := k) (by have := HL.out; omega)
      have hok := nextS_ok (bs := bs) (at_ := k) HB.out
      have hd1 := dec_ok (bs := bs) (f := f - 1) (k := k) (acc := acc) (by have := HL.out; omega)
      have hd2 := dec_err (bs := bs) (f := f - 1) (k := k) (acc := acc) (by have := HL.out; omega)
      rw [show f - 1 + 1 = f by omega] at hd1 hd2
      generalize nextS bs k = p at *
      obtain ⟨r, n, er⟩ := p
      have HD1 := Lib.hid hd1
      have HD2 := Lib.hid hd2
      have HOK := Lib.hid hok
      clear hd1 hd2 hok
      rcases her with her | her
      · simp only at her
        subst her
        have hnn : 1 ≤ n ∧ k + n ≤ N := by have := HOK.out rfl; have := HL.out; simp only at *; omega
        have hne' : Calls Try.prog 14 #[.slice A N c, .int .i64 k] wr (RefSays (r, n) wr) := hne
        have HNE := Lib.hid hne'
        clear hne hne'
        have t1 : ((n : Int) == 0) = false := by simp; omega
        have hbw := hbr.size
        go_wp2_with (first | (go_at_call 14; refine HNE.out.mono ?_; rintro e w1 ⟨rfl, hb1⟩; have hown1 := own_below hown hb1; have hbr1 := hbr.trans (hb1.mono hbr.size); have hbw1 := hbr1.size) | (at_builtin; ((with_reducible refine app_one Try.underlying36 info_i32 rfl (by decide) _ w.heap.size _ acc.length _ hown1 (by unfold maxLen; omega) (by omega) hbw1 _ rfl (by simp [Value.oneCell']) rfl _ _ rfl rfl rfl ?_); intro g cap w2 hown2 hgr2 _ _)))
        have hbr2 := below_own hbr1 hown1 hgr2 hbw1 (Nat.le_refl _)
        clear hown hown1 hgr2
        go_roundw
        case rel => exact ⟨k + n, f - 1, acc ++ [r], by omega, by go_num, by omega, by simp; omega, (HD1.out (by simp)).symm.trans hD, by simpa [i32s] using hown2, hbr2⟩
        case measure => simp [intOf]; omega
      · simp only at her
        subst her
        have hne' : Calls Try.prog 14 #[.slice A N c, .int .i64 k] wr (RefSays (0, 0) wr) := hne
        have HNE := Lib.hid hne'
        clear hne hne'
        go_wp2_with (go_at_call 14; refine HNE.out.mono ?_; rintro e w1 ⟨rfl, hb1⟩)
        refine bodyPost_ret (results_tmp3 rfl _ _ _) rfl ?_
        have hd := (HD2.out (by simp)).symm.trans hD
        rw [← hd]
        exact ⟨_, rfl, World.ownsRow_nil _ _ _ _, hbr.trans (hb1.mono hbr.size)⟩
    · go_wp2
      refine bodyPost_ret (results_tmp3 rfl _ _ _) rfl ?_
      have hd := (dec_end (f := f) (acc := acc) (by rw [HL.out]; exact hkN)).symm.trans hD
      rw [← hd]
      exact ⟨_, rfl, hown, hbr⟩

set_option maxHeartbeats 400000 in
theorem count_any (A : Option Addr) (N c : Nat) (bs : List Int) (w : World) (hN : N ≤ 100000) (hc : N ≤ c) (hr : Rd w w.heap.size 1 A N (u8s bs)) (hb : ∀ x ∈ bs, 0 ≤ x ∧ x ≤ 255) :
    Calls Try.prog 19 #[.slice A N c] w fun e w' => e = .returned (.tuple #[.int .i64 (decS bs).1.length, .bool ((decS bs).2.2 == 0)]) ∧ Below w.heap.size w w' := by
  have hd := decode_any A N c bs w hN hc hr hb
  generalize decS bs = p at *
  have HD := Lib.hid hd
  clear hd hb hr
  go_enter Try.func19, Try.ntmps19
  go_wp2_with (go_at_call 16; refine HD.out.mono ?_; rintro e w1 ⟨v, rfl, hown, hb1⟩; obtain ⟨A1, c1, rfl, _, _, _, hr1⟩ := own_form hown)
  go_ret2
  exact ⟨rfl, hb1⟩

theorem Rd.rune {w : World} {B b o N : Nat} {bs : List Int} {k : Nat} {x : Int} (hr : Rd w B 1 (some ⟨b, o, none⟩) N (i32s bs)) (hx : bs[k]? = some x) : w.cell? ⟨b, o + k, none⟩ = some (.int .i32 x) ∧ b < B := by
  have hl : k < N := by
    have := hr.1; simp at this
    obtain ⟨hlt, _⟩ := List.getElem?_eq_some_iff.1 hx
    omega
  obtain ⟨b', o', e, hb, hc⟩ := hr.2 (by omega)
  injection e with e; injection e with e1 e2
  subst e1; subst e2
  exact ⟨hc k _ (by rw [List.getElem?_map, hx]; rfl), hb⟩

theorem take_step {l1 l2 : List Int} {k : Nat} {x : Int} (h : Hid (l1.take k = l2.take k)) (h1 : l1[k]? = some x) (h2 : l2[k]? = some x) : Hid (l1.take (k + 1) = l2.take (k + 1)) := by
  show _ = _
  rw [List.take_add_one, List.take_add_one, h1, h2, h.out]

set_option maxHeartbeats 1000000 in
theorem same_any (A1 A2 : Option Addr) (n1 n2 c1 c2 : Nat) (l1 l2 : List Int) (w : World) (B1 B2 : Nat) (hn : n1 ≤ 1000000) (hn2 : n2 ≤ 1000000) (h1 : Rd w B1 1 A1 n1 (i32s l1)) (h2 : Rd w B2 1 A2 n2 (i32s l2)) :
    Calls Try.prog 17 #[.slice A1 n1 c1, .slice A2 n2 c2] w fun e w' => e = .returned (.bool (l1 == l2)) ∧ Below w.heap.size w w' := by
  have hl1 : l1.length = n1 := by simpa using h1.1
  have hl2 : l2.length = n2 := by simpa using h2.1
  by_cases hnn : n1 = n2
  · subst hnn
    have HL1 := Lib.hid hl1
    have HL2 := Lib.hid hl2
    clear hl1 hl2
    go_enter Try.func17, Try.ntmps17
    go_wp2
    go_loopw [5] (fun i wr => ∃ k : Nat, k ≤ n1 ∧ i = .int .i64 k ∧ Hid (l1.take k = l2.take k) ∧ (∃ q, wr = w.drewN q)) (fun i _ => n1 - (intOf i).toNat)
    case atStart => exact ⟨0, by omega, rfl, rfl, 0, rfl⟩
    case round =>
      obtain ⟨k, hk, rfl, hI, q, rfl⟩ := hrel
      by_cases hkn : k < n1
      · obtain ⟨b1, o1, rfl, _, _⟩ := h1.2 (by omega)
        obtain ⟨b2, o2, rfl, _, _⟩ := h2.2 (by omega)
        obtain ⟨x, hx⟩ : ∃ x, l1[k]? = some x := ⟨_, List.getElem?_eq_getElem (by have := HL1.out; omega)⟩
        obtain ⟨y, hy⟩ : ∃ y, l2[k]? = some y := ⟨_, List.getElem?_eq_getElem (by have := HL2.out; omega)⟩
        have hcx := (h1.rune hx).1
        have hcy := (h2.rune hy).1
        have HX := Lib.hid hx
        have HY := Lib.hid hy
        clear hx hy
        go_wp2_with fail
        go_quiet (fail)
        go_wp2
        · go_ret
          have hne : x ≠ y := by simpa using ‹(x != y) = true›
          exact ⟨ret_bool (by symm; rw [beq_eq_false_iff_ne]; rintro rfl; exact hne (Option.some.inj (HX.out.symm.trans HY.out))), below_drewN (below_drewN (Below.refl _ _) _) _⟩
        · go_roundw
          case rel =>
            have he : x = y := by simpa using ‹(x != y) = false›
            exact ⟨k + 1, by omega, by go_num, take_step hI HX.out (he ▸ HY.out), q + _, rfl⟩
          case measure => simp [intOf]; omega
      · go_wp2
        go_ret
        obtain rfl : n1 = k := by omega
        have := hI.out
        rw [List.take_of_length_le (by rw [HL1.out]; omega), List.take_of_length_le (by rw [HL2.out]; omega)] at this
        exact ⟨ret_bool (by simp [this]), below_drewN (Below.refl _ _) _⟩
  · have t1 : ((n1 : Int) != (n2 : Int)) = true := by simp; omega
    go_enter Try.func17, Try.ntmps17
    go_wp2
    go_ret
    exact ⟨ret_bool (by symm; rw [beq_eq_false_iff_ne]; rintro rfl; omega), Below.refl _ _⟩

def firstBad : List Int → Nat → Option Nat
  | [], _ => none
  | r :: t, k => if right r then firstBad t (k + 1) else some k
theorem firstBad_yes {l : List Int} {k : Nat} {x : Int} (hx : l[k]? = some x) (h : right x = true) : firstBad (l.drop k) k = firstBad (l.drop (k + 1)) (k + 1) := by
  rw [drop_get hx, firstBad, if_pos h]
theorem firstBad_no {l : List Int} {k : Nat} {x : Int} (hx : l[k]? = some x) (h : right x = false) : firstBad (l.drop k) k = some k := by
  rw [drop_get hx, firstBad, h]; rfl
theorem firstBad_end {l : List Int} {k : Nat} (hk : l.length ≤ k) : firstBad (l.drop k) k = none := by
  rw [List.drop_of_length_le hk]; rfl
theorem firstBad_all : ∀ (l : List Int) (k : Nat), firstBad l k = none → ∀ x ∈ l, right x = true := by
  intro l
  induction l with
  | nil => intro k _ x hx; cases hx
  | cons r t ih =>
    intro k h x hx
    rw [firstBad] at h
    by_cases hr : right r = true
    · rw [if_pos hr] at h
      rcases List.mem_cons.1 hx with rfl | hx
      · exact hr
      · exact ih _ h x hx
    · rw [if_neg hr] at h; cases h
def badAt (l : List Int) : Int := match firstBad l 0 with | some k => k | none => -1

def encAll (l : List Int) : List Int := l.flatMap enc
def encS (l : List Int) : List Int × Nat × Int := match firstBad l 0 with | some k => ([], k, 11) | none => (encAll l, 0, 0)
theorem encAll_snoc {l : List Int} {k : Nat} {x : Int} (hx : l[k]? = some x) : encAll (l.take (k + 1)) = encAll (l.take k) ++ enc x := by
  rw [List.take_add_one, hx]; simp [encAll]
theorem enc_len_le (x : Int) : (enc x).length ≤ 4 := by
  unfold enc; repeat' split
  all_goals simp
theorem encAll_len (l : List Int) : (encAll l).length ≤ 4 * l.length := by
  unfold encAll
  induction l with
  | nil => simp
  | cons x l ih => have := enc_len_le x; simp only [List.flatMap_cons, List.length_append, List.length_cons]; omega

def EncSays (p : List Int × Nat × Int) (w : World) (e : Ending) (w' : World) : Prop :=
  ∃ v, e = .returned (.tuple #[v, .int .i64 p.2.1, .int .i64 p.2.2]) ∧ w'.ownsRow w.heap.size 5 1 v p.1.length (u8s p.1) ∧ Below w.heap.size w w'

set_option maxHeartbeats 400000 in
theorem closure_any (r : Int) (w : World) :
    Calls Try.prog 28 #[.int .i32 r] w fun e w' => e = .returned (.bool (!right r)) ∧ w = w' := by
  go_enter Try.func28, Try.ntmps28
  go_wp2_with (go_at_call 10; refine (right_any _ _).mono ?_; rintro e w' ⟨rfl, rfl⟩)
  go_ret
  exact ⟨rfl, rfl⟩

set_option maxHeartbeats 1000000 in
theorem index_any (A : Option Addr) (N c : Nat) (l : List Int) (w : World) (B : Nat) (hN : N ≤ 100000) (hr : Rd w B 1 A N (i32s l)) :
    Calls Try.prog 27 #[.slice A N c, .func (.func 28) #[] #[]] w fun e w' => e = .returned (.int .i64 (badAt l)) ∧ w = w' := by
  have hl : l.length = N := by simpa using hr.1
  have HL := Lib.hid hl
  clear hl
  go_enter Try.func27, Try.ntmps27
  go_wp2
  go_loop [8] (fun i => ∃ k : Nat, k ≤ N ∧ i = .int .i64 k ∧ Hid (firstBad (l.drop k) k = firstBad l 0)) (fun i => N - (intOf i).toNat)
  case atStart => exact ⟨0, by omega, rfl, rfl⟩
  case round =>
    obtain ⟨k, hk, rfl, hI⟩ := hrel
    by_cases hkn : k < N
    · obtain ⟨b1, o1, rfl, _, _⟩ := hr.2 (by omega)
      obtain ⟨x, hx⟩ : ∃ x, l[k]? = some x := ⟨_, List.getElem?_eq_getElem (by have := HL.out; omega)⟩
      have hcx := (hr.rune hx).1
      have HX := Lib.hid hx
      clear hx
      by_cases hrx : right x = true
      · have HR := Lib.hid hrx
        clear hrx
        go_wp2_with (go_at_call 28; refine (closure_any _ _).mono ?_; rw [HR.out]; rintro e w' ⟨rfl, rfl⟩)
        go_round
        case rel => exact ⟨k + 1, by omega, by go_num, (firstBad_yes HX.out HR.out).symm.trans hI⟩
        case measure => simp [intOf]; omega
      · have hrx : right x = false := by simpa using hrx
        have HR := Lib.hid hrx
        clear hrx
        go_wp2_with (go_at_call 28; refine (closure_any _ _).mono ?_; rw [HR.out]; rintro e w' ⟨rfl, rfl⟩)
        go_ret
        have := (firstBad_no HX.out HR.out).symm.trans hI
        exact ⟨ret_int (by unfold badAt; rw [← this]), rfl⟩
    · go_wp2
      go_ret
      have := (firstBad_end (l := l) (k := k) (by rw [HL.out]; omega)).symm.trans hI
      exact ⟨ret_int (by unfold badAt; rw [← this]), rfl⟩
end Go.Proofs.Ytlfofgefpjihlaa
