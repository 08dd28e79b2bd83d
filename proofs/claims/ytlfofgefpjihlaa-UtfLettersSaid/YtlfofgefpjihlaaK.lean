/- utf: Encode, both -/
import Derived.Test.YtlfofgefpjihlaaJ
namespace Go.Proofs.Ytlfofgefpjihlaa
open Go.RowKit

set_option maxHeartbeats 1000000 in
theorem encode_any (A : Option Addr) (N c : Nat) (l : List Int) (w : World) (hN : N ≤ 100000) (hr : Rd w w.heap.size 1 A N (i32s l)) :
    Calls Try.prog 15 #[.slice A N c] w (EncSays (encS l) w) := by
  have hl : l.length = N := by simpa using hr.1
  have HL := Lib.hid hl
  clear hl
  have hix := fun W h => index_any A N c l W w.heap.size hN h
  unfold encS
  cases hb : firstBad l 0 with
  | some k =>
    have hbad : badAt l = k := by unfold badAt; rw [hb]
    rw [hbad] at hix
    have HI := Lib.hid (hix w hr)
    clear hix hb hbad
    go_enter Try.func15, Try.ntmps15
    go_wp2_with (go_at_call 27; refine HI.out.mono ?_; rintro e w' ⟨rfl, rfl⟩)
    refine bodyPost_ret (results_tmp3 rfl _ _ _) rfl ?_
    exact ⟨_, rfl, World.ownsRow_nil _ _ _ _, Below.refl _ _⟩
  | none =>
    have hbad : badAt l = -1 := by unfold badAt; rw [hb]
    have HR := Lib.hid (firstBad_all l 0 hb)
    rw [hbad] at hix
    have HI := Lib.hid (hix w hr)
    clear hix hb hbad
    go_enter Try.func15, Try.ntmps15
    go_wp2_with (go_at_call 27; refine HI.out.mono ?_; rintro e w' ⟨rfl, rfl⟩)
    go_loopw [6, 16] (fun v i wr => ∃ k : Nat, k ≤ N ∧ i = .int .i64 k ∧ wr.ownsRow w.heap.size 5 1 v (encAll (l.take k)).length (u8s (encAll (l.take k))) ∧ Below w.heap.size w wr) (fun _ i _ => N - (intOf i).toNat)
    case atStart => exact ⟨0, by omega, rfl, by simpa [encAll, u8s] using World.ownsRow_nil _ _ _ _, Below.refl _ _⟩
    case round =>
      obtain ⟨k, hk, rfl, hown, hbr⟩ := hrel
      by_cases hkn : k < N
      · obtain ⟨b1, o1, rfl, hb1, _⟩ := hr.2 (by omega)
        obtain ⟨x, hx⟩ : ∃ x, l[k]? = some x := ⟨_, List.getElem?_eq_getElem (by have := HL.out; omega)⟩
        have hcx : wr.cell? ⟨b1, o1 + k, none⟩ = some (.int .i32 x) := (hbr.cell (p := ⟨b1, _, none⟩) hb1).trans (hr.rune hx).1
        have hrx := HR.out x (List.mem_of_getElem? hx)
        have hlen := encAll_len (l.take k)
        have hlk : (l.take k).length ≤ k := List.length_take_le _ _
        have ht := tail_any _ _ _ w.heap.size x wr hbr.size hrx hown (by omega)
        have hsn := encAll_snoc hx
        have HT := Lib.hid ht
        have HS := Lib.hid hsn
        clear hx hrx ht hsn
        go_wp2_with (go_at_call 21; refine HT.out.mono ?_; rintro e w1 ⟨v1, rfl, hown1, hgr1, _⟩)
        have hbr1 := below_own hbr hown hgr1 hbr.size (Nat.le_refl _)
        clear hown hgr1
        go_roundw
        case rel => exact ⟨k + 1, by omega, by go_num, by rw [HS.out, List.length_append]; simpa [u8s] using hown1, hbr1⟩
        case measure => simp [intOf]; omega
      · obtain rfl : N = k := by omega
        go_wp2
        refine bodyPost_ret (results_tmp3 rfl _ _ _) rfl ?_
        rw [List.take_of_length_le (by rw [HL.out]; omega)] at hown
        exact ⟨_, rfl, hown, hbr⟩

set_option maxHeartbeats 1000000 in
theorem rencode_any (A : Option Addr) (N c : Nat) (l : List Int) (w : World) (hN : N ≤ 100000) (hr : Rd w w.heap.size 1 A N (i32s l)) :
    Calls Try.prog 20 #[.slice A N c] w (EncSays (encS l) w) := by
  have hl : l.length = N := by simpa using hr.1
  have HL := Lib.hid hl
  clear hl
  go_enter Try.func20, Try.ntmps20
  go_wp2
  go_loopw [5, 6] (fun v i wr => ∃ k : Nat, k ≤ N ∧ i = .int .i64 k ∧ Hid (firstBad (l.drop k) k = firstBad l 0) ∧ wr.ownsRow w.heap.size 5 1 v (encAll (l.take k)).length (u8s (encAll (l.take k))) ∧ Below w.heap.size w wr) (fun _ i _ => N - (intOf i).toNat)
  case atStart => exact ⟨0, by omega, rfl, rfl, by simpa [encAll, u8s] using World.ownsRow_nil _ _ _ _, Below.refl _ _⟩
  case round =>
    obtain ⟨k, hk, rfl, hI, hown, hbr⟩ := hrel
    by_cases hkn : k < N
    · obtain ⟨b1, o1, rfl, hb1, _⟩ := hr.2 (by omega)
      obtain ⟨x, hx⟩ : ∃ x, l[k]? = some x := ⟨_, List.getElem?_eq_getElem (by have := HL.out; omega)⟩
      have hcx : wr.cell? ⟨b1, o1 + k, none⟩ = some (.int .i32 x) := (hbr.cell (p := ⟨b1, _, none⟩) hb1).trans (hr.rune hx).1
      have HX := Lib.hid hx
      by_cases hrx : right x = true
      · have hlen := encAll_len (l.take k)
        have hlk : (l.take k).length ≤ k := List.length_take_le _ _
        have hel := enc_len_le x
        have hsn := encAll_snoc hx
        have hby := bytes_any x wr hrx
        have HR := Lib.hid hrx
        have HS := Lib.hid hsn
        have HBY := Lib.hid hby
        clear hx hrx hsn hby
        have hbw := hbr.size
        go_wp2_with (first | (go_at_call 9; refine (rright_any _ _).mono ?_; rw [HR.out]; rintro e w' ⟨rfl, rfl⟩) | (go_at_call 12; refine HBY.out.mono ?_; rintro e w1 ⟨b2, o2, c2, rfl, hr2, hb2⟩; have hown1 := own_below hown hb2; have hbr1 := hbr.trans (hb2.mono hbr.size); have hbw1 := hbr1.size) | (at_builtin; ((with_reducible refine app_rd Try.underlying22 info_u8 rfl (by decide) _ w.heap.size _ _ _ hown1 _ _ _ _ _ hr2 (by simp) (by simp [Value.oneCell']) (by unfold maxLen; omega) (by omega) hbw1 rfl _ _ rfl rfl rfl ?_); intro v3 w3 hown3 hgr3 _)))
        have hbr3 := below_own hbr1 hown1 hgr3 hbw1 (Nat.le_refl _)
        clear hown hown1 hgr3
        go_roundw
        case rel => exact ⟨k + 1, by omega, by go_num, (firstBad_yes HX.out HR.out).symm.trans hI, by rw [HS.out, List.length_append]; simpa [u8s] using hown3, hbr3⟩
        case measure => simp [intOf]; omega
      · have hrx : right x = false := by simpa using hrx
        have HR := Lib.hid hrx
        clear hrx hx
        go_wp2_with (go_at_call 9; refine (rright_any _ _).mono ?_; rw [HR.out]; rintro e w' ⟨rfl, rfl⟩)
        refine bodyPost_ret (results_tmp3 rfl _ _ _) rfl ?_
        have := (firstBad_no HX.out HR.out).symm.trans hI
        unfold encS; rw [← this]
        exact ⟨_, rfl, World.ownsRow_nil _ _ _ _, hbr⟩
    · obtain rfl : N = k := by omega
      go_wp2
      refine bodyPost_ret (results_tmp3 rfl _ _ _) rfl ?_
      have := (firstBad_end (l := l) (k := N) (by rw [HL.out]; omega)).symm.trans hI
      unfold encS; rw [← this]
      rw [List.take_of_length_le (by rw [HL.out]; omega)] at hown
      exact ⟨_, rfl, hown, hbr⟩
end Go.Proofs.Ytlfofgefpjihlaa
