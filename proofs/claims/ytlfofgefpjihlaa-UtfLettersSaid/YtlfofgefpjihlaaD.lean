/- utf: tail of any letter; Put; the reference's Bytes -/
import Derived.Test.YtlfofgefpjihlaaC
namespace Go.Proofs.Ytlfofgefpjihlaa
open Go.RowKit

theorem right_bd {r : Int} (h : right r = true) : 0 ≤ r ∧ r ≤ 1114111 := by simp [right] at h; omega
theorem enc_len {r : Int} (h : right r = true) : (enc r).length = len r := by
  unfold enc len; rw [if_pos h]; repeat' split
  all_goals rfl
theorem len_le (r : Int) : len r ≤ 4 := by unfold len; repeat' split
                                           all_goals omega
theorem enc_byte {r : Int} (h : right r = true) : ∀ x ∈ enc r, 0 ≤ x ∧ x ≤ 255 := by
  have := right_bd h
  unfold enc
  repeat' split
  all_goals simp
  all_goals omega

theorem tail_any (v : Value) (n : Nat) (xs : List Value) (base : Nat) (r : Int) (w : World) (hb : base ≤ w.heap.size) (h : right r = true) (hown : w.ownsRow base 5 1 v n xs) (hn : n ≤ 1000000) :
    Calls Try.prog 21 #[v, .int .i32 r] w (Tailed base v n xs (enc r) w) := by
  have hbd := right_bd h
  by_cases h1 : r ≤ 127
  · rw [show enc r = [r] by simp [enc, h1]]
    exact tail_1 v n xs base r w hb (by simp [len, h, h1]) hbd.1 h1 hown hn
  by_cases h2 : r ≤ 2047
  · rw [show enc r = [192 + r / 64, 128 + r % 64] by simp [enc, h1, h2]]
    exact tail_2 v n xs base r w hb (by simp [len, h, h1, h2]) (by omega) h2 hown hn
  by_cases h3 : r ≤ 65535
  · rw [show enc r = [224 + r / 4096, 128 + r / 64 % 64, 128 + r % 64] by simp [enc, h1, h2, h3]]
    exact tail_3 v n xs base r w hb (by simp [len, h, h1, h2, h3]) (by omega) h3 hown hn
  · rw [show enc r = [240 + r / 262144, 128 + r / 4096 % 64, 128 + r / 64 % 64, 128 + r % 64] by simp [enc, h1, h2, h3]]
    exact tail_4 v n xs base r w hb (by simp [len, h, h1, h2, h3]) (by omega) hbd.2 hown hn

set_option maxHeartbeats 400000 in
theorem put_no (b : Value) (r : Int) (w : World) (h : right r = false) :
    Calls Try.prog 8 #[b, .int .i32 r] w fun e w' => e = .returned (.tuple #[.slice none 0 0, .int .i64 11]) ∧ w = w' := by
  go_enter Try.func8, Try.ntmps8
  go_wp2_with (go_at_call 10; refine (right_any _ _).mono ?_; rw [h]; rintro e w' ⟨rfl, rfl⟩)
  go_ret2
  exact ⟨rfl, rfl⟩

def PutYes (n : Nat) (xs : List Value) (l : List Int) (w : World) (e : Ending) (w' : World) : Prop :=
  ∃ v, e = .returned (.tuple #[v, .int .i64 0]) ∧ w'.ownsRow w.heap.size 5 1 v (n + l.length) (xs ++ u8s l) ∧ Below w.heap.size w w'

set_option maxHeartbeats 400000 in
theorem put_yes (A : Option Addr) (n c : Nat) (xs : List Value) (r : Int) (w : World) (h : right r = true) (hr : Rd w w.heap.size 1 A n xs) (hA : A = none → n = 0) (h1 : ∀ u ∈ xs, u.oneCell' = true) (hn : n ≤ 1000000) :
    Calls Try.prog 8 #[.slice A n c, .int .i32 r] w (PutYes n xs (enc r) w) := by
  have ht := fun v w' hb hown => tail_any v n xs w.heap.size r w' hb h hown hn
  have hc := clone_u8 A n c xs w hr hA h1 hn
  clear hA h1 hr
  have H := Lib.hid hc
  clear hc
  have HT := Lib.hid ht
  clear ht
  go_enter Try.func8, Try.ntmps8
  go_wp2_with (first
    | (go_at_call 10; refine (right_any _ _).mono ?_; rw [h]; rintro e w' ⟨rfl, rfl⟩)
    | (go_at_call 22; refine H.out.mono ?_; rintro e w1 ⟨v1, rfl, hown, hb⟩; have hsz := hb.size)
    | (go_at_call 21; refine (HT.out _ _ hsz hown).mono ?_; rintro e w2 ⟨v2, rfl, hown2, hgr, hat⟩))
  refine bodyPost_ret (results_tmp2 rfl _ _ _) rfl ?_
  exact ⟨_, rfl, hown2, hb.grown hgr hsz (own_ge hown)⟩

/-- a new slice of bytes -/
def BytesNew (l : List Int) (w : World) (e : Ending) (w' : World) : Prop :=
  ∃ b o c, e = .returned (.slice (some ⟨b, o, none⟩) l.length c) ∧ Rd w' w'.heap.size 1 (some ⟨b, o, none⟩) l.length (u8s l) ∧ Below w.heap.size w w'

theorem bytes_lit {l l' : List Int} {w : World} {n c : Nat} (h : l = l') (hn : l'.length = n) : BytesNew l w (.returned (.slice (some ⟨w.heap.size, 0, none⟩) n c)) (w.alloc (.cells (u8s l').toArray 5)) := by
  subst h; subst hn
  refine ⟨_, _, _, rfl, ⟨by simp, fun _ => ⟨_, _, rfl, by simp, fun j u hu => ?_⟩⟩, (Below.refl _ _).alloc (Nat.le_refl _) _⟩
  rw [cell_of_row _ _ _ _ _ _ (heap_alloc_new w _)]
  simpa using hu

set_option maxHeartbeats 1000000 in
theorem bytes_any (r : Int) (w : World) (h : right r = true) :
    Calls Try.prog 12 #[.int .i32 r] w (BytesNew (enc r) w) := by
  have hbd := right_bd h
  clear h
  go_enter Try.func12, Try.ntmps12
  go_wp2
  · go_ret
    exact bytes_lit (l' := [r]) (by have : r ≤ 127 := by omega
                                    simp [enc, this]) rfl
  · go_ret
    exact bytes_lit (l' := [192 + r / 64, 128 + r % 64]) (by have : r ≤ 2047 := by omega
                                                             have : ¬ r ≤ 127 := by omega
                                                             simp [enc, *]) rfl
  · go_ret
    exact bytes_lit (l' := [224 + r / 4096, 128 + r / 64 % 64, 128 + r % 64]) (by have : r ≤ 65535 := by omega
                                                                                  have : ¬ r ≤ 2047 := by omega
                                                                                  have : ¬ r ≤ 127 := by omega
                                                                                  simp [enc, *]) rfl
  · go_ret
    exact bytes_lit (l' := [240 + r / 262144, 128 + r / 4096 % 64, 128 + r / 64 % 64, 128 + r % 64]) (by have : ¬ r ≤ 65535 := by omega
                                                                                                         have : ¬ r ≤ 2047 := by omega
                                                                                                         have : ¬ r ≤ 127 := by omega
                                                                                                         simp [enc, *]) rfl
end Go.Proofs.Ytlfofgefpjihlaa
