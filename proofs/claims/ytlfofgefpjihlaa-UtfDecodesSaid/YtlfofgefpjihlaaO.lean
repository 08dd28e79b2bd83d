/- utf: the law's contract: UtfBack -/
import Derived.Test.YtlfofgefpjihlaaN
namespace Go.Proofs.Ytlfofgefpjihlaa
open Go.RowKit

set_option maxHeartbeats 2000000 in
theorem back_any (A1 A2 : Option Addr) (n1 c1 n2 c2 : Nat) (bs l : List Int) (w : World) (hn1 : n1 ≤ maxLen) (hc1 : n1 ≤ c1) (hn2 : n2 ≤ maxLen) (h1 : n1 ≤ 2000 → Rd w w.heap.size 1 A1 n1 (u8s bs)) (h2 : n2 ≤ 500 → Rd w w.heap.size 1 A2 n2 (i32s l)) (hb : ∀ x ∈ bs, 0 ≤ x ∧ x ≤ 255) :
    Calls Try.prog 5 #[.slice A1 n1 c1, .slice A2 n2 c2] w (Truly w) := by
  unfold maxLen at hn1 hn2
  by_cases hbig : 2000 < n1 ∨ 500 < n2
  · clear h1 h2
    rcases hbig with hbig | hbig
    all_goals
      go_enter Try.func5, Try.ntmps5
      go_wp2_with (go_at_call 7; refine (live_any _).mono ?_; rintro e w' ⟨rfl, hb⟩)
      all_goals go_ret
      all_goals exact ⟨rfl, hb⟩
  have hr1 := h1 (by omega)
  have hr2 := h2 (by omega)
  clear h1 h2
  have hl1 : bs.length = n1 := by simpa using hr1.1
  have hl2 : l.length = n2 := by simpa using hr2.1
  have hd := fun W (hB : Below w.heap.size w W) => decode_any A1 n1 c1 bs W (by omega) hc1 ((hr1.below hB).more hB.size) hb
  have hen := fun W (hB : Below w.heap.size w W) => encode_any A2 n2 c2 l W (by omega) ((hr2.below hB).more hB.size)
  have hdb := decS_back hb
  have hcb := fun W (hB : Below w.heap.size w W) => conv_own (c := c1) (hr1.below hB)
  have HD := Lib.hid hd
  have HEN := Lib.hid hen
  have HDB := Lib.hid hdb
  have HCB := Lib.hid hcb
  have HR2 := Lib.hid hr2
  have HL1 := Lib.hid hl1
  have HL2 := Lib.hid hl2
  clear hd hen hdb hcb hr1 hr2 hl1 hl2 hb
  -- what the second half comes to
  by_cases he : (encS l).2.2 = 0
  · obtain ⟨hall, heq⟩ := encS_zero he
    rw [heq] at HEN
    have hde := fun A c W h1 h2 => decode_any A (encAll l).length c (encAll l) W (by have := encAll_len l; have := HL2.out; omega) h1 h2 (encAll_byte hall)
    rw [decS_enc hall] at hde
    have HDE := Lib.hid hde
    clear hde he heq hall
    by_cases h0 : (decS bs).2.2 = 0
    · obtain ⟨g1, g2, g3⟩ := HDB.out h0
      have hq := encS_ok g1
      rw [g2] at hq
      have hde : decS bs = ((decS bs).1, (decS bs).2.1, 0) := by rw [← h0]
      have hen2 := fun A c W h => encode_any A (decS bs).1.length c (decS bs).1 W (by have := HL1.out; omega) h
      rw [hq] at hen2
      rw [hde] at HD
      generalize (decS bs).1 = y at *
      generalize (decS bs).2.1 = i at *
      have HEN2 := Lib.hid hen2
      have HG := Lib.hid g3
      clear hen2 hq hde g1 g2 g3 h0 HDB
      go_enter Try.func5, Try.ntmps5
      go_wp2_with fail
      refine (HEN.out _ (Below.refl _ _)).mono ?_
      rintro e' w1 ⟨v1, rfl, hown1, hb1⟩
      obtain ⟨B1, d1, rfl, hd1, _, _, hq1⟩ := own_form hown1
      go_wp2_with fail
      refine (HDE.out B1 d1 w1 hd1 hq1).mono ?_
      rintro e' w2 ⟨v2, rfl, hown2, hb2⟩
      obtain ⟨B2, d2, rfl, _, _, _, hq2⟩ := own_form hown2
      have hb2' := hb1.trans (hb2.mono hb1.size)
      have hs := same_any B2 A2 l.length n2 d2 c2 l l w2 _ _ (by have := HL2.out; omega) (by omega) hq2 (HR2.out.below hb2')
      rw [beq_self_eq_true] at hs
      have HS := Lib.hid hs
      clear hs
      go_wp2_with fail
      refine HS.out.mono ?_
      rintro e' w3 ⟨rfl, hb3⟩
      have hb3' := hb2'.trans (hb3.mono hb2'.size)
      go_wp2_with fail
      refine (HD.out _ hb3').mono ?_
      rintro e' w4 ⟨v4, rfl, hown4, hb4⟩
      obtain ⟨B4, d4, rfl, _, _, _, hq4⟩ := own_form hown4
      have hb4' := hb3'.trans (hb4.mono hb3'.size)
      go_wp2_with fail
      refine (HEN2.out B4 d4 w4 hq4).mono ?_
      rintro e' w5 ⟨v5, rfl, hown5, hb5⟩
      obtain ⟨B5, d5, rfl, _, _, _, hq5⟩ := own_form hown5
      have hb5' := hb4'.trans (hb5.mono hb4'.size)
      have cv5 : (convert 22 9 (.slice B5 bs.length d5)).run Try.prog w5 = .ok (.string (strOf bs)) w5 := conv_own hq5
      have cv6 : (convert 22 9 (.slice A1 n1 c1)).run Try.prog w5 = .ok (.string (strOf bs)) w5 := HCB.out _ hb5'
      go_wp2_with (go_at_call 7; refine (live_any _).mono ?_; rintro e w' ⟨rfl, hb⟩)
      go_ret
      exact Truly.of ⟨rfl, hb⟩ hb5'
    · have t1 : ((decS bs).2.2 == 0) = false := by simpa using h0
      generalize decS bs = p at *
      clear h0 HDB
      go_enter Try.func5, Try.ntmps5
      go_wp2_with fail
      refine (HEN.out _ (Below.refl _ _)).mono ?_
      rintro e' w1 ⟨v1, rfl, hown1, hb1⟩
      obtain ⟨B1, d1, rfl, hd1, _, _, hq1⟩ := own_form hown1
      go_wp2_with fail
      refine (HDE.out B1 d1 w1 hd1 hq1).mono ?_
      rintro e' w2 ⟨v2, rfl, hown2, hb2⟩
      obtain ⟨B2, d2, rfl, _, _, _, hq2⟩ := own_form hown2
      have hb2' := hb1.trans (hb2.mono hb1.size)
      have hs := same_any B2 A2 l.length n2 d2 c2 l l w2 _ _ (by have := HL2.out; omega) (by omega) hq2 (HR2.out.below hb2')
      rw [beq_self_eq_true] at hs
      have HS := Lib.hid hs
      clear hs
      go_wp2_with fail
      refine HS.out.mono ?_
      rintro e' w3 ⟨rfl, hb3⟩
      have hb3' := hb2'.trans (hb3.mono hb2'.size)
      go_wp2_with fail
      refine (HD.out _ hb3').mono ?_
      rintro e' w4 ⟨v4, rfl, hown4, hb4⟩
      have hb4' := hb3'.trans (hb4.mono hb3'.size)
      go_wp2_with (go_at_call 7; refine (live_any _).mono ?_; rintro e w' ⟨rfl, hb⟩)
      go_ret
      exact Truly.of ⟨rfl, hb⟩ hb4'
  · have t0 : ((encS l).2.2 == 0) = false := by simpa using he
    generalize encS l = q at *
    clear he
    by_cases h0 : (decS bs).2.2 = 0
    · obtain ⟨g1, g2, g3⟩ := HDB.out h0
      have hq := encS_ok g1
      rw [g2] at hq
      have hde : decS bs = ((decS bs).1, (decS bs).2.1, 0) := by rw [← h0]
      have hen2 := fun A c W h => encode_any A (decS bs).1.length c (decS bs).1 W (by have := HL1.out; omega) h
      rw [hq] at hen2
      rw [hde] at HD
      generalize (decS bs).1 = y at *
      generalize (decS bs).2.1 = i at *
      have HEN2 := Lib.hid hen2
      have HG := Lib.hid g3
      clear hen2 hq hde g1 g2 g3 h0 HDB
      go_enter Try.func5, Try.ntmps5
      go_wp2_with fail
      refine (HEN.out _ (Below.refl _ _)).mono ?_
      rintro e' w3 ⟨v1, rfl, hown1, hb3'⟩
      go_wp2_with fail
      refine (HD.out _ hb3').mono ?_
      rintro e' w4 ⟨v4, rfl, hown4, hb4⟩
      obtain ⟨B4, d4, rfl, _, _, _, hq4⟩ := own_form hown4
      have hb4' := hb3'.trans (hb4.mono hb3'.size)
      go_wp2_with fail
      refine (HEN2.out B4 d4 w4 hq4).mono ?_
      rintro e' w5 ⟨v5, rfl, hown5, hb5⟩
      obtain ⟨B5, d5, rfl, _, _, _, hq5⟩ := own_form hown5
      have hb5' := hb4'.trans (hb5.mono hb4'.size)
      have cv5 : (convert 22 9 (.slice B5 bs.length d5)).run Try.prog w5 = .ok (.string (strOf bs)) w5 := conv_own hq5
      have cv6 : (convert 22 9 (.slice A1 n1 c1)).run Try.prog w5 = .ok (.string (strOf bs)) w5 := HCB.out _ hb5'
      go_wp2_with (go_at_call 7; refine (live_any _).mono ?_; rintro e w' ⟨rfl, hb⟩)
      go_ret
      exact Truly.of ⟨rfl, hb⟩ hb5'
    · have t1 : ((decS bs).2.2 == 0) = false := by simpa using h0
      generalize decS bs = p at *
      clear h0 HDB
      go_enter Try.func5, Try.ntmps5
      go_wp2_with fail
      refine (HEN.out _ (Below.refl _ _)).mono ?_
      rintro e' w3 ⟨v1, rfl, hown1, hb3'⟩
      go_wp2_with fail
      refine (HD.out _ hb3').mono ?_
      rintro e' w4 ⟨v4, rfl, hown4, hb4⟩
      have hb4' := hb3'.trans (hb4.mono hb3'.size)
      go_wp2_with (go_at_call 7; refine (live_any _).mono ?_; rintro e w' ⟨rfl, hb⟩)
      go_ret
      exact Truly.of ⟨rfl, hb⟩ hb4'
end Go.Proofs.Ytlfofgefpjihlaa
