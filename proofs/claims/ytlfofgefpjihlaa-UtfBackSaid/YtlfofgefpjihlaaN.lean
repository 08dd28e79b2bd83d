/- utf: the laws' contracts: UtfNext, UtfDecodes, UtfBack -/
import Derived.Test.YtlfofgefpjihlaaM
namespace Go.Proofs.Ytlfofgefpjihlaa
open Go.RowKit

theorem Truly.of {w w1 w' : World} {e : Ending} (h : Truly w1 e w') (hb : Below w.heap.size w w1) : Truly w e w' := ⟨h.1, hb.trans (h.2.mono hb.size)⟩

set_option maxHeartbeats 1000000 in
theorem unext_any (A : Option Addr) (n c : Nat) (bs : List Int) (at_ : Int) (w : World) (hn : n ≤ maxLen) (hc : n ≤ c) (h : n ≤ 2000 → Rd w w.heap.size 1 A n (u8s bs)) (hb : ∀ x ∈ bs, 0 ≤ x ∧ x ≤ 255) :
    Calls Try.prog 4 #[.slice A n c, .int .i64 at_] w (Truly w) := by
  unfold maxLen at hn
  by_cases hn2 : 2000 < n
  · clear h
    go_enter Try.func4, Try.ntmps4
    go_wp2_with (go_at_call 7; refine (live_any _).mono ?_; rintro e w' ⟨rfl, hb⟩)
    go_ret
    exact ⟨rfl, hb⟩
  have hr := h (by omega)
  have hl : bs.length = n := by simpa using hr.1
  clear h
  by_cases ho : at_ < 0 ∨ (n : Int) ≤ at_
  · have hx := fun W => next_out A n c at_ W (by omega) ho
    have HX := Lib.hid hx
    clear hx hb hr hl
    rcases ho with ho | ho
    all_goals
      go_enter Try.func4, Try.ntmps4
      go_wp2_with (first | (go_at_call 13; refine (HX.out _).mono ?_; rintro e w1 ⟨rfl, rfl⟩) | (go_at_call 7; refine (live_any _).mono ?_; rintro e w' ⟨rfl, hb⟩))
      all_goals go_ret
      all_goals exact ⟨rfl, hb⟩
  obtain ⟨k, rfl⟩ := Int.eq_ofNat_of_zero_le (a := at_) (by omega)
  have hk : k < n := by omega
  have hx := next_any A n c k bs w (by omega) hk hc hr hb
  have hy := fun W (hB : Below w.heap.size w W) => rnext_any A n c k bs W (by omega) hk hc ((hr.below hB).more hB.size) hb
  have her := nextS_err' (bs := bs) (at_ := k) (by omega)
  have hok := nextS_ok (bs := bs) (at_ := k) hb
  have HL := Lib.hid hl
  clear hr hb hl
  by_cases h0 : (nextS bs k).2.2 = 0
  · have hp := (hok h0).2.2.1
    have hre : refOf (nextS bs k) = ((nextS bs k).1, (nextS bs k).2.1) := by unfold refOf; rw [if_pos h0]
    rw [hre] at hy
    have h1 : nextS bs k = ((nextS bs k).1, (nextS bs k).2.1, 0) := by rw [← h0]
    generalize (nextS bs k).1 = r at *
    generalize (nextS bs k).2.1 = m at *
    rw [h1] at hx
    clear h1 hre hok her h0
    have t1 : ((m : Int) == 0) = false := by simp; omega
    have HX := Lib.hid hx
    have HY := Lib.hid hy
    clear hx hy
    go_enter Try.func4, Try.ntmps4
    go_wp2_with (first | (go_at_call 13; refine HX.out.mono ?_; rintro e w1 ⟨rfl, hb1⟩) | (go_at_call 14; refine (HY.out _ hb1).mono ?_; rintro e w2 ⟨rfl, hb2⟩) | (go_at_call 7; refine (live_any _).mono ?_; rintro e w' ⟨rfl, hb⟩))
    go_ret
    exact Truly.of ⟨rfl, hb⟩ (hb1.trans (hb2.mono hb1.size))
  · have h1 := her h0
    rw [h1] at hx hy
    have hy' : ∀ W, Below w.heap.size w W → Calls Try.prog 14 #[.slice A n c, .int .i64 k] W (RefSays (0, 0) W) := hy
    clear h1 hok her h0
    have HX := Lib.hid hx
    have HY := Lib.hid hy'
    clear hx hy hy'
    go_enter Try.func4, Try.ntmps4
    go_wp2_with (first | (go_at_call 13; refine HX.out.mono ?_; rintro e w1 ⟨rfl, hb1⟩) | (go_at_call 14; refine (HY.out _ hb1).mono ?_; rintro e w2 ⟨rfl, hb2⟩) | (go_at_call 7; refine (live_any _).mono ?_; rintro e w' ⟨rfl, hb⟩))
    go_ret
    exact Truly.of ⟨rfl, hb⟩ (hb1.trans (hb2.mono hb1.size))

set_option maxHeartbeats 1000000 in
theorem decodes_any (A1 A2 : Option Addr) (n1 c1 n2 c2 : Nat) (bs l : List Int) (w : World) (hn1 : n1 ≤ maxLen) (hc1 : n1 ≤ c1) (hn2 : n2 ≤ maxLen) (h1 : n1 ≤ 2000 → Rd w w.heap.size 1 A1 n1 (u8s bs)) (h2 : n2 ≤ 500 → Rd w w.heap.size 1 A2 n2 (i32s l)) (hb : ∀ x ∈ bs, 0 ≤ x ∧ x ≤ 255) :
    Calls Try.prog 6 #[.slice A1 n1 c1, .slice A2 n2 c2] w (Truly w) := by
  unfold maxLen at hn1 hn2
  by_cases hbig : 2000 < n1 ∨ 500 < n2
  · clear h1 h2
    rcases hbig with hbig | hbig
    all_goals
      go_enter Try.func6, Try.ntmps6
      go_wp2_with (go_at_call 7; refine (live_any _).mono ?_; rintro e w' ⟨rfl, hb⟩)
      all_goals go_ret
      all_goals exact ⟨rfl, hb⟩
  have hr1 := h1 (by omega)
  have hr2 := h2 (by omega)
  clear h1 h2
  have hd := fun W (hB : Below w.heap.size w W) => decode_any A1 n1 c1 bs W (by omega) hc1 ((hr1.below hB).more hB.size) hb
  have hrd := fun W (hB : Below w.heap.size w W) => rdecode_any A1 n1 c1 bs W (by omega) hc1 ((hr1.below hB).more hB.size) hb
  have hct := fun W (hB : Below w.heap.size w W) => count_any A1 n1 c1 bs W (by omega) hc1 ((hr1.below hB).more hB.size) hb
  have hen := fun W (hB : Below w.heap.size w W) => encode_any A2 n2 c2 l W (by omega) ((hr2.below hB).more hB.size)
  have hre := fun W (hB : Below w.heap.size w W) => rencode_any A2 n2 c2 l W (by omega) ((hr2.below hB).more hB.size)
  have hlen := fun h => (decS_back hb h).2.2
  have hl1 : bs.length = n1 := by simpa using hr1.1
  have hplen : (decS bs).1.length ≤ 2000 := by
    by_cases h0 : (decS bs).2.2 = 0
    · have := hlen h0; omega
    · have := decS_len bs; omega
  generalize hp : decS bs = p at *
  generalize encS l = q at *
  obtain ⟨y, i, e⟩ := p
  obtain ⟨u, k, f⟩ := q
  simp only at hplen
  have HD := Lib.hid hd
  have HRD := Lib.hid hrd
  have HCT := Lib.hid hct
  have HEN := Lib.hid hen
  have HRE := Lib.hid hre
  clear hd hrd hct hen hre hlen hl1 hp hr1 hr2 hb
  go_enter Try.func6, Try.ntmps6
  go_wp2_with fail
  refine (HD.out _ (Below.refl _ _)).mono ?_
  rintro e' w1 ⟨v1, rfl, hown1, hb1⟩
  obtain ⟨B1, d1, rfl, _, _, _, hq1⟩ := own_form hown1
  go_wp2_with fail
  refine (HRD.out _ hb1).mono ?_
  rintro e' w2 ⟨v2, rfl, hown2, hb2⟩
  obtain ⟨B2, d2, rfl, _, _, _, hq2⟩ := own_form hown2
  have hb2' := hb1.trans (hb2.mono hb1.size)
  go_wp2_with fail
  refine (HCT.out _ hb2').mono ?_
  rintro e' w3 ⟨rfl, hb3⟩
  have hb3' := hb2'.trans (hb3.mono hb2'.size)
  have hs := same_any B1 B2 y.length y.length d1 d2 y y w3 _ _ (by omega) (by omega) ((hq1.below hb2).below (hb3.mono hb2.size)) (hq2.below hb3)
  rw [beq_self_eq_true] at hs
  have HS := Lib.hid hs
  clear hs
  go_wp2_with fail
  refine HS.out.mono ?_
  rintro e' w4 ⟨rfl, hb4⟩
  have hb4' := hb3'.trans (hb4.mono hb3'.size)
  go_wp2_with fail
  refine (HEN.out _ hb4').mono ?_
  rintro e' w5 ⟨v5, rfl, hown5, hb5⟩
  obtain ⟨B5, d5, rfl, _, _, _, hq5⟩ := own_form hown5
  have hb5' := hb4'.trans (hb5.mono hb4'.size)
  go_wp2_with fail
  refine (HRE.out _ hb5').mono ?_
  rintro e' w6 ⟨v6, rfl, hown6, hb6⟩
  obtain ⟨B6, d6, rfl, _, _, _, hq6⟩ := own_form hown6
  have hb6' := hb5'.trans (hb6.mono hb5'.size)
  have cv5 : (convert 22 9 (.slice B5 u.length d5)).run Try.prog w6 = .ok (.string (strOf u)) w6 := conv_own (hq5.below hb6)
  have cv6 : (convert 22 9 (.slice B6 u.length d6)).run Try.prog w6 = .ok (.string (strOf u)) w6 := conv_own hq6
  go_wp2_with (go_at_call 7; refine (live_any _).mono ?_; rintro e w' ⟨rfl, hb⟩)
  go_ret
  exact Truly.of ⟨rfl, hb⟩ hb6'
end Go.Proofs.Ytlfofgefpjihlaa
