/- utf: live; the laws' contracts -/
import Derived.Test.YtlfofgefpjihlaaK
import Derived.Lib.SmallJoins
namespace Go.Proofs.Ytlfofgefpjihlaa
open Go.RowKit

/-- true is returned, and what was there is as it was -/
def Truly (w : World) (e : Ending) (w' : World) : Prop := e = .returned (.bool true) ∧ Below w.heap.size w w'

theorem conv_own {w : World} {A : Option Addr} {n c B : Nat} {bs : List Int} (h : Rd w B 1 A n (u8s bs)) : (convert 22 9 (.slice A n c)).run Try.prog w = .ok (.string (strOf bs)) w :=
  run_conv_str _ _ _ _ Try.underlying22 Try.underlying5 Try.underlying9 _ _ _ _ _ h

theorem rd_new (l : List Int) (w : World) : Rd (w.alloc (.cells (u8s l).toArray 5)) (w.alloc (.cells (u8s l).toArray 5)).heap.size 1 (some ⟨w.heap.size, 0, none⟩) l.length (u8s l) := by
  refine ⟨by simp, fun _ => ⟨_, _, rfl, by simp, fun j u hu => ?_⟩⟩
  rw [cell_of_row _ _ _ _ _ _ (heap_alloc_new w _)]
  simpa using hu

theorem strOf_size (l : List Int) : (strOf l).size = l.length := by simp [strOf, ByteArray.size]
theorem str_app (a b : List Int) : ((strOf (a ++ b)).toList == (strOf a ++ strOf b).toList) = true := by
  rw [beq_iff_eq, ByteArray.toList_eq, ByteArray.toList_eq, Joins.data_append]
  simp [strOf]

set_option maxHeartbeats 1000000 in
theorem live_any (w : World) : Calls Try.prog 7 #[] w (Truly w) := by
  have hp := fun W => put_yes none 0 0 [] 8364 W (by decide) (Rd.nil_ _ _ _ _) (by simp) (by simp) (by omega)
  have hn := fun (W : World) h => next_any (some ⟨W.heap.size, 0, none⟩) 2 2 0 [192, 128] (W.alloc (.cells #[.int .u8 192, .int .u8 128] 5)) (by omega) (by omega) (by omega) h (by simp)
  have he : enc 8364 = [226, 130, 172] := by decide
  have hnx : nextS [192, 128] 0 = (0, 0, 11) := by decide
  have hlen : len 8364 = 3 := by decide
  rw [he] at hp
  rw [hnx] at hn
  have HP := Lib.hid hp
  have HN := Lib.hid hn
  clear hp hn he hnx
  go_enter Try.func7, Try.ntmps7
  go_wp2_with (first | (go_at_call 8; refine (HP.out _).mono ?_; rintro e w1 ⟨v1, rfl, hown, hb⟩; obtain ⟨A1, c1, rfl, _, _, _, hr1⟩ := own_form hown) | (go_at_call 13; refine (HN.out _ (rd_new [192, 128] w1)).mono ?_; rintro e w2 ⟨rfl, hb2⟩; have cv1 : (convert 22 9 (.slice A1 3 c1)).run Try.prog w2 = .ok (.string (strOf [226, 130, 172])) w2 := conv_own (c := c1) (((hr1.alloc (Nat.le_refl _) _).below (hb2.mono (by simp)) : Rd w2 w1.heap.size 1 A1 3 (u8s [226, 130, 172]))); have cv2 : (convert 22 9 (.slice (some ⟨w2.heap.size, 0, none⟩) 3 3)).run Try.prog (w2.alloc (.cells #[.int .u8 226, .int .u8 130, .int .u8 172] 5)) = .ok (.string (strOf [226, 130, 172])) (w2.alloc (.cells #[.int .u8 226, .int .u8 130, .int .u8 172] 5)) := conv_own (c := 3) (rd_new [226, 130, 172] w2)) | (go_at_call 11; refine (len_any _ _).mono ?_; rw [hlen]; rintro e w' ⟨rfl, rfl⟩))
  go_ret
  have hb3 : Below w.heap.size w w2 := hb.trans ((((Below.refl _ w1).alloc (Nat.le_refl _) _).trans (hb2.mono (by simp))).mono hb.size)
  exact ⟨rfl, hb3.alloc hb3.size _⟩

set_option maxHeartbeats 1000000 in
theorem letters_any (r : Int) (A : Option Addr) (n c : Nat) (bs : List Int) (w : World) (hn : n ≤ maxLen) (hA : A = none → n = 0) (h : n ≤ 200 → Rd w w.heap.size 1 A n (u8s bs)) :
    Calls Try.prog 3 #[.int .i32 r, .slice A n c] w (Truly w) := by
  unfold maxLen at hn
  by_cases hn2 : 200 < n
  · clear h hA
    go_enter Try.func3, Try.ntmps3
    go_wp2_with (go_at_call 7; refine (live_any _).mono ?_; rintro e w' ⟨rfl, hb⟩)
    go_ret
    exact ⟨rfl, hb⟩
  have hr := h (by omega)
  clear h
  by_cases hrr : right r = true
  · have hp := put_yes A n c (u8s bs) r w hrr hr hA (by simp [Value.oneCell']) (by omega)
    have hby := fun W => bytes_any r W hrr
    have hlen := enc_len hrr
    have hl : bs.length = n := by simpa using hr.1
    have hs : ¬ 9223372036854775807 < (strOf bs).size + (strOf (enc r)).size := by rw [strOf_size, strOf_size, hl]; have := enc_len_le r; omega
    have he : ((strOf (bs ++ enc r)).toList == (strOf bs ++ strOf (enc r)).toList) = true := str_app _ _
    clear hl
    have HP := Lib.hid hp
    have HBY := Lib.hid hby
    have HR := Lib.hid hrr
    have HLE := Lib.hid hlen
    have HHR := Lib.hid hr
    clear hp hby hrr hlen hA hr
    go_enter Try.func3, Try.ntmps3
    go_wp2_with (first | (go_at_call 8; refine HP.out.mono ?_; rintro e w1 ⟨v1, rfl, hown, hb⟩; obtain ⟨A1, c1, rfl, _, _, _, hr1⟩ := own_form hown) | (go_at_call 9; refine (rright_any _ _).mono ?_; rw [HR.out]; rintro e w' ⟨rfl, rfl⟩) | (go_at_call 10; refine (right_any _ _).mono ?_; rw [HR.out]; rintro e w' ⟨rfl, rfl⟩) | (go_at_call 12; refine (HBY.out _).mono ?_; rintro e w2 ⟨b2, o2, c2, rfl, hr2, hb2⟩; have hbb := hb.trans (hb2.mono hb.size); have cv1 := conv_own (c := c1) ((show Rd w1 w1.heap.size 1 A1 (n + (enc r).length) (u8s (bs ++ enc r)) from by simpa [u8s] using hr1).below hb2); have cv2 := conv_own (c := c) (HHR.out.below hbb); have cv3 := conv_own (c := c2) hr2) | (go_at_call 11; refine (len_any _ _).mono ?_; rw [← HLE.out]; rintro e w' ⟨rfl, rfl⟩) | (go_at_call 7; refine (live_any _).mono ?_; rintro e w' ⟨rfl, hb3⟩))
    go_ret
    exact ⟨rfl, hbb.trans (hb3.mono hbb.size)⟩
  · have hrr : right r = false := by simpa using hrr
    have hp := fun b => put_no b r w hrr
    have hlen : len r = 0 := by unfold len; rw [hrr]; rfl
    have HP := Lib.hid hp
    have HR := Lib.hid hrr
    have HLE := Lib.hid hlen
    clear hp hrr hlen hr hA
    go_enter Try.func3, Try.ntmps3
    go_wp2_with (first | (go_at_call 8; refine (HP.out _).mono ?_; rintro e w1 ⟨rfl, rfl⟩) | (go_at_call 9; refine (rright_any _ _).mono ?_; rw [HR.out]; rintro e w' ⟨rfl, rfl⟩) | (go_at_call 10; refine (right_any _ _).mono ?_; rw [HR.out]; rintro e w' ⟨rfl, rfl⟩) | (go_at_call 11; refine (len_any _ _).mono ?_; rw [HLE.out]; rintro e w' ⟨rfl, rfl⟩) | (go_at_call 7; refine (live_any _).mono ?_; rintro e w' ⟨rfl, hb⟩))
    go_ret
    exact ⟨rfl, hb⟩
end Go.Proofs.Ytlfofgefpjihlaa
