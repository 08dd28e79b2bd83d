/- utf: the reference's Next -/
import Derived.Test.YtlfofgefpjihlaaG
import Derived.Deep.QuietTactic
import Derived.BigQuiet
namespace Go.Proofs.Ytlfofgefpjihlaa
open Go.RowKit

def refOf (p : Int × Nat × Int) : Int × Nat := if p.2.2 = 0 then (p.1, p.2.1) else (0, 0)
/-- the reference's trial at n bytes -/
def okS (bs : List Int) (at_ : Nat) (x : Int) (n : Nat) : Prop :=
  right (guessF (x - headOf n) ((bs.drop (at_ + 1)).take (n - 1))) = true ∧ enc (guessF (x - headOf n) ((bs.drop (at_ + 1)).take (n - 1))) = x :: (bs.drop (at_ + 1)).take (n - 1)

theorem many_le (x : Int) : many x ≤ 4 := by
  unfold many; repeat' split
  all_goals omega

theorem ok_yes {bs : List Int} {at_ n : Nat} {x : Int} (hx : bs[at_]? = some x) (h0 : 0 ≤ x) (h1 : 1 ≤ n) (h4 : n ≤ 4) (hl : at_ + n ≤ bs.length) (h : okS bs at_ x n) :
    refOf (nextS bs at_) = (guessF (x - headOf n) ((bs.drop (at_ + 1)).take (n - 1)), n) := by
  have hlen : ((bs.drop (at_ + 1)).take (n - 1)).length = n - 1 := by rw [List.length_take, List.length_drop]; omega
  obtain ⟨hm, he⟩ := (ok_iff n x _ h1 h4 h0 hlen).1 h
  unfold nextS
  rw [drop_get hx]
  simp only
  rw [hm, if_neg (by rw [List.length_drop]; omega), he]
  rfl

theorem ok_no {bs : List Int} {at_ : Nat} {x : Int} (hx : bs[at_]? = some x) (h0 : 0 ≤ x) (h : ∀ n, 1 ≤ n → n ≤ 4 → at_ + n ≤ bs.length → ¬ okS bs at_ x n) :
    refOf (nextS bs at_) = (0, 0) := by
  have hlt := (List.getElem?_eq_some_iff.1 hx).1
  unfold nextS
  rw [drop_get hx]
  simp only
  by_cases hm : many x = 0 ∨ (bs.drop (at_ + 1)).length + 1 < many x
  · rw [if_pos hm]; rfl
  · rw [if_neg hm]
    rw [List.length_drop] at hm
    have hlen : ((bs.drop (at_ + 1)).take (many x - 1)).length = many x - 1 := by rw [List.length_take, List.length_drop]; omega
    have hn := h (many x) (by omega) (many_le x) (by omega)
    unfold okS at hn
    rw [ok_iff (many x) x _ (by omega) (many_le x) h0 hlen] at hn
    unfold nextOf
    by_cases ha : ((bs.drop (at_ + 1)).take (many x - 1)).all (fun x => x / 64 == 2) = true
    · rw [nextOf_all ha] at hn
      rw [if_pos ha]
      have hu : ∀ c ∈ (bs.drop (at_ + 1)).take (many x - 1), c / 64 = 2 := by simpa using ha
      rw [guess_fold _ _ hu] at hn
      split
      · rename_i hq; rw [if_pos hq] at hn; exact absurd ⟨rfl, rfl⟩ hn
      · rfl
    · rw [if_neg ha]; rfl

theorem ba_eq {a b : ByteArray} (h : (a.toList == b.toList) = true) : a = b := by
  have h1 : a.toList = b.toList := by simpa using h
  have e : ∀ c : ByteArray, c.data.toList = c.toList := fun c => (ByteArray.toList_eq c).symm
  have : a.data.toList = b.data.toList := by rw [e, e, h1]
  cases a; cases b
  simp at this
  exact congrArg _ this
def RefSays (p : Int × Nat) (w : World) (e : Ending) (w' : World) : Prop :=
  e = .returned (.tuple #[.int .i32 p.1, .int .i64 p.2]) ∧ Below w.heap.size w w'

set_option maxHeartbeats 1000000 in
theorem rnext_any (A : Option Addr) (N c : Nat) (at_ : Nat) (bs : List Int) (w : World) (hN : N ≤ 1000000) (hlt : at_ < N) (hc : N ≤ c) (hr : Rd w w.heap.size 1 A N (u8s bs)) (hb : ∀ x ∈ bs, 0 ≤ x ∧ x ≤ 255) :
    Calls Try.prog 14 #[.slice A N c, .int .i64 at_] w (RefSays (refOf (nextS bs at_)) w) := by
  obtain ⟨b, o, rfl, hbB, hcell⟩ := hr.2 (by omega)
  have hl : bs.length = N := by simpa using hr.1
  have hx : bs[at_]? = some (bs[at_]'(by omega)) := List.getElem?_eq_getElem (by omega)
  generalize (bs[at_]'(by omega)) = x at hx
  have hx0 := hb x (List.mem_of_getElem? hx)
  have HX := Lib.hid hx
  have HB := Lib.hid hb
  clear hb hx hcell
  go_enter Try.func14, Try.ntmps14
  go_wp2
  go_loopw [6] (fun i wr => ∃ k : Nat, k ≤ 4 ∧ i = .int .i64 ((k : Int) + 1) ∧ at_ + k ≤ N ∧ (∀ n, 1 ≤ n → n ≤ k → ¬ okS bs at_ x n) ∧ Below w.heap.size w wr) (fun i _ => 5 - (intOf i).toNat)
  case atStart => exact ⟨0, by omega, rfl, by omega, by intro n h1 h2; omega, Below.refl _ _⟩
  case round =>
    obtain ⟨k, hk, rfl, hkN, hno, hbr⟩ := hrel
    have HNO := Lib.hid hno
    clear hno
    by_cases hk4 : k = 4
    · subst hk4
      go_wp2
      go_ret2
      exact ⟨by rw [ok_no HX.out hx0.1 (fun n h1 h2 _ => HNO.out n h1 h2)]; rfl, hbr⟩
    by_cases hkn : at_ + k = N
    · go_wp2
      go_ret2
      exact ⟨by rw [ok_no HX.out hx0.1 (fun n h1 h2 h3 => HNO.out n h1 (by omega))]; rfl, hbr⟩
    have hrw : Rd wr wr.heap.size 1 (some ⟨b, o, none⟩) N (u8s bs) := (hr.below hbr).more hbr.size
    have hgu := fun i hi => guess_at i b o N c at_ (k + 1) bs x wr hN hrw HB.out HX.out (by omega) (by omega) (by omega) hi
    have hgb := guess_bd (x - headOf (k + 1)) ((bs.drop (at_ + 1)).take (k + 1 - 1)) (by have := headOf_bd (k + 1); omega) (fun c hc => HB.out c (List.mem_of_mem_drop (List.mem_of_mem_take hc))) (by rw [List.length_take]; omega)
    have hok : okS bs at_ x (k + 1) = (right (guessF (x - headOf (k + 1)) ((bs.drop (at_ + 1)).take (k + 1 - 1))) = true ∧ enc (guessF (x - headOf (k + 1)) ((bs.drop (at_ + 1)).take (k + 1 - 1))) = x :: (bs.drop (at_ + 1)).take (k + 1 - 1)) := rfl
    have hyes := ok_yes (n := k + 1) HX.out hx0.1 (by omega) (by omega) (by omega)
    generalize guessF (x - headOf (k + 1)) ((bs.drop (at_ + 1)).take (k + 1 - 1)) = g at *
    have HOK := Lib.hid hok
    have HYES := Lib.hid hyes
    have HGU := Lib.hid hgu
    clear hok hyes hgu
    have hskip : ¬ okS bs at_ x (k + 1) → ∀ n, 1 ≤ n → n ≤ k + 1 → ¬ okS bs at_ x n := fun h n h1 h2 => by
      rcases Nat.lt_or_ge k n with h3 | h3
      · obtain rfl : n = k + 1 := by omega
        exact h
      · exact HNO.out n h1 h3
    have HS := Lib.hid hskip
    clear hskip
    by_cases hg : right g = true
    · have hgb' := right_bd hg
      have hby := fun W => bytes_any g W hg
      have e1 : IntKind.i32.wrap g = g := IntWalk.i32_in _ (by omega)
      have HBY := Lib.hid hby
      have HEB := Lib.hid (enc_byte hg)
      have HG := Lib.hid hg
      clear hby hg
      have hcat : c ≠ at_ := by omega
      have e5 : at_ + (k + 1) - at_ = k + 1 := by omega
      have e6 : ((at_ : Int) + ((k : Int) + 1)).toNat = at_ + (k + 1) := by omega
      go_wp2_with (first | (go_at_call 26; refine (HGU.out _ (by omega)).mono ?_; rintro e w' ⟨rfl, rfl⟩) | (go_at_call 9; refine (rright_any _ _).mono ?_; rw [HG.out]; rintro e w' ⟨rfl, rfl⟩) | (go_at_call 12; refine (HBY.out _).mono ?_; rintro e w1 ⟨b1, o1, c1, rfl, hr1, hb1⟩))
      clear HBY HGU
      have hbr1 := hbr.trans (hb1.mono hbr.size)
      have hbr1 : Below w.heap.size w w1 := hbr1
      have cv1 : ∀ j, (convert 22 9 (.slice (some ⟨b1, o1, none⟩) (enc g).length c1)).run Try.prog (w1.drewN j) = .ok (.string (strOf (enc g))) (w1.drewN j) := fun j => run_conv_str _ _ _ _ Try.underlying22 Try.underlying5 Try.underlying9 _ _ _ _ _ (hr1.drewN j)
      have hr2 : Rd w1 wr.heap.size 1 (some ⟨b, o + at_, none⟩) (k + 1) (u8s ((bs.drop at_).take (k + 1))) := by
        have := (hrw.below hb1).cut (k := at_) (m := at_ + (k + 1)) (by omega) (by omega)
        rw [e5] at this
        simpa [u8s, List.map_take, List.map_drop] using this
      have cv2 : ∀ j, (convert 22 9 (.slice (some ⟨b, o + at_, none⟩) (k + 1) (c - at_))).run Try.prog (w1.drewN j) = .ok (.string (strOf ((bs.drop at_).take (k + 1)))) (w1.drewN j) := fun j => run_conv_str _ _ _ _ Try.underlying22 Try.underlying5 Try.underlying9 _ _ _ _ _ (hr2.drewN j)
      have htk : (bs.drop at_).take (k + 1) = x :: (bs.drop (at_ + 1)).take (k + 1 - 1) := by rw [drop_get HX.out]; simp
      have hin : strOf (enc g) = strOf ((bs.drop at_).take (k + 1)) ↔ enc g = (bs.drop at_).take (k + 1) :=
        ⟨fun h => strOf_inj HEB.out (fun c hc => HB.out c (List.mem_of_mem_drop (List.mem_of_mem_take hc))) h, fun h => by rw [h]⟩
      rw [← htk] at HOK
      have htl : ((bs.drop at_).take (k + 1)).length = k + 1 := by rw [List.length_take, List.length_drop]; omega
      clear htk hr1 hr2 hrw hb1
      generalize hs2 : (bs.drop at_).take (k + 1) = l2 at *
      clear hs2
      generalize enc g = l1 at *
      have HIN := Lib.hid hin
      have HTL := Lib.hid htl
      clear hin htl
      by_cases hln : l1.length = k + 1
      · have t1 : ((l1.length : Int) == (k : Int) + 1) = true := by simp; omega
        have HLN := Lib.hid hln
        clear hln
        by_cases hst : ((strOf l1).toList == (strOf l2).toList) = true
        · go_quiet (fail)
          go_wp2
          go_ret2
          have hll := HIN.out.1 (ba_eq hst)
          exact ⟨by rw [HYES.out (by rw [HOK.out]; exact ⟨HG.out, hll⟩)]; rfl, below_drewN hbr1 _⟩
        · have hst' : ((strOf l1).toList == (strOf l2).toList) = false := by simpa using hst
          clear hst
          go_quiet (fail)
          go_wp2
          go_roundw
          case rel => exact ⟨k + 1, by omega, by go_num, by omega, HS.out (by rw [HOK.out]; rintro ⟨_, rfl⟩; simp at hst'), below_drewN hbr1 _⟩
          case measure => simp [intOf]; omega
      · have t1 : ((l1.length : Int) == (k : Int) + 1) = false := by simp; omega
        go_quiet (fail)
        go_wp2
        go_roundw
        case rel => exact ⟨k + 1, by omega, by go_num, by omega, HS.out (by rw [HOK.out]; rintro ⟨_, rfl⟩; exact hln HTL.out), below_drewN hbr1 _⟩
        case measure => simp [intOf]; omega
    · have hg' : right g = false := by simpa using hg
      have hgr : g < 0 ∨ 1114111 < g ∨ (0 ≤ g ∧ g ≤ 1114111) := by omega
      have HG := Lib.hid hg'
      clear hg hg'
      rcases hgr with h | h | h
      all_goals
        go_wp2_with (first | (go_at_call 26; refine (HGU.out _ (by omega)).mono ?_; rintro e w' ⟨rfl, rfl⟩) | (go_at_call 9; refine (rright_any _ _).mono ?_; rw [HG.out]; rintro e w' ⟨rfl, rfl⟩))
        go_roundw
        case rel => exact ⟨k + 1, by omega, by go_num, by omega, HS.out (by rw [HOK.out, HG.out]; simp), hbr⟩
        case measure => simp [intOf]; omega
end Go.Proofs.Ytlfofgefpjihlaa
