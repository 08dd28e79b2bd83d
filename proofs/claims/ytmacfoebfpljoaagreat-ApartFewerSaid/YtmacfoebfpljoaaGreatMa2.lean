/- merged texts: Hb Hd He Hf -/
import Derived.Test.YtmacfoebfpljoaaGreatMa1
set_option maxRecDepth 100000
set_option maxHeartbeats 16000000
namespace Go.Proofs.YtmacfoebfpljoaaGreat
open Go.RowKit
set_option linter.unusedVariables false
theorem name_any (s : ByteArray) (w : World) (hs : s.size ≤ maxLen) : Calls Tryz.prog 145 #[.string s] w (AnyB w) := by
 unfold maxLen at hs
 go_enter Tryz.func145, Tryz.ntmps145
 go_wp2
 go_loop [3] (fun j => ∃ k : Nat, k ≤ s.size ∧ j = .int .i64 k) (fun j => s.size - (intOf j).toNat)
 case atStart => exact ⟨0, by omega, rfl⟩
 case round =>
  obtain ⟨k, hk, rfl⟩ := hrel
  by_cases hlt : k < s.size
  ·have e3 : (k : Int) < s.size := by omega
   go_wp2
   all_goals first
    | (go_round
       case rel => exact ⟨k + 1, by omega, by go_num⟩
       case measure => simp [intOf]; omega)
    | (go_ret
       exact ⟨⟨_, rfl⟩, Below.refl _ _⟩)
  ·obtain rfl : k = s.size := by omega
   go_wp2
   all_goals go_ret
   all_goals exact ⟨⟨_, rfl⟩, Below.refl _ _⟩
theorem has10_any (A : Option Addr) (n c : Nat) (l : List ByteArray) (s : ByteArray) (w : World) (h : Rd w w.heap.size 1 A n (strs l)) (hn : n ≤ maxLen) : Calls Tryz.prog 151 #[.slice A n c, .string s] w (AnyB w) := by
 unfold maxLen at hn
 have H := Lib.hid h
 clear h
 go_enter Tryz.func151, Tryz.ntmps151
 go_wp2
 go_loop [5] (fun j => ∃ k : Nat, k ≤ n ∧ j = .int .i64 k) (fun j => n - (intOf j).toNat)
 case atStart => exact ⟨0, by omega, rfl⟩
 case round =>
  obtain ⟨k, hk, rfl⟩ := hrel
  by_cases hlt : k < n
  ·have e3 : (k : Int) < n := by omega
   obtain ⟨b, o, u, rfl, hb, hu, hc⟩ := H.out.at1 hlt
   unfold strs at hu
   rw [List.getElem?_map] at hu
   obtain ⟨x, -, hx⟩ := Option.map_eq_some_iff.1 hu
   subst hx
   clear hu
   go_wp2
   all_goals first
    | (go_round
       case rel => exact ⟨k + 1, by omega, by go_num⟩
       case measure => simp [intOf]; omega)
    | (go_ret
       exact ⟨⟨_, rfl⟩, Below.refl _ _⟩)
  ·obtain rfl : k = n := by omega
   go_wp2
   all_goals go_ret
   all_goals exact ⟨⟨_, rfl⟩, Below.refl _ _⟩
def CutOut (n : Nat) (w : World) (e : Ending) (w' : World) : Prop := ∃ x y b, e = .returned (.tuple #[.string x, .string y, .bool b]) ∧ x.size ≤ n ∧ y.size ≤ n ∧ Below w.heap.size w w'
theorem cut10_any (s : ByteArray) (w : World) (hs : s.size ≤ maxLen) : Calls Tryz.prog 185 #[.string s] w (CutOut s.size w) := by
 unfold maxLen at hs
 go_enter Tryz.func185, Tryz.ntmps185
 go_wp2
 go_loop [5] (fun j => ∃ k : Nat, k ≤ s.size ∧ j = .int .i64 k) (fun j => s.size - (intOf j).toNat)
 case atStart => exact ⟨0, by omega, rfl⟩
 case round =>
  obtain ⟨k, hk, rfl⟩ := hrel
  by_cases hlt : k < s.size
  ·have e3 : (k : Int) < s.size := by omega
   have e4 : IntKind.i64.wrap ((k : Int) + 1) = ((k + 1 : Nat) : Int) := by rw [IntWalk.i64_in _ (by omega)]; omega
   by_cases hc : ((s[k].toNat : Int) == 61) = true
   ·have hx : (s.extract 0 k).size ≤ s.size := by rw [ByteArray.size_extract]; omega
    have hy : (s.extract (k + 1) s.size).size ≤ s.size := by rw [ByteArray.size_extract]; omega
    have HXY := Lib.hid (show (s.extract 0 k).size ≤ s.size ∧ (s.extract (k + 1) s.size).size ≤ s.size from ⟨hx, hy⟩)
    clear hx hy
    have f1 : (0 : Int) ≤ (k : Int) + 1 := by omega
    have f2 : (k : Int) + 1 ≤ s.size := by omega
    go_upto_region 5 with fail
    refine wp_normal ?_
    refine wp_region_held_drew (S := fun _ => True) (by kernel_rfl) trivial (fun hHeld => ?_)
    (refine tkH 0 ?_; refine tkH 1 ?_; refine tkH 2 ?_; refine tkH 3 ?_; refine tkH 4 ?_; refine tkH 5 ?_; refine tkH 6 ?_; refine tkH 7 ?_; refine tkH 8 ?_; refine tkH 9 ?_)
    refine wpAnyH_done (by kernel_rfl) ?_ _
    go_wp2
    exact bodyPost_ret (v := .tuple #[.string (s.extract 0 k), .string (s.extract (k + 1) s.size), .bool true]) (by simp [results, Tryz.results185, go_sem]) rfl ⟨_, _, _, rfl, HXY.out.1, HXY.out.2, belowA⟩
   ·have hc2 : ((s[k].toNat : Int) == 61) = false := by simpa using hc
    clear hc
    go_wp2
    go_round
    case rel => exact ⟨k + 1, by omega, by go_num⟩
    case measure => simp [intOf]; omega
  ·obtain rfl : k = s.size := by omega
   go_wp2
   exact bodyPost_ret (v := .tuple #[.string s, .string ByteArray.empty, .bool false]) (by simp [results, Tryz.results185, go_sem]; rfl) rfl ⟨_, _, _, rfl, by omega, by simp, Below.refl _ _⟩
theorem join_any (A : Option Addr) (n c : Nat) (l : List ByteArray) (w : World) (h : Rd w w.heap.size 1 A n (strs l)) (hl : szs l ≤ 1000000) : Calls Tryz.prog 188 #[.slice A n c] w fun e w' => (∃ s : ByteArray, e = .returned (.string s) ∧ s.size ≤ szs l) ∧ Below w.heap.size w w' := by
 have hn : l.length = n := by have := h.1; simpa [strs] using this
 have hn2 := szs_len l
 have H := Lib.hid h
 have HN := Lib.hid hn
 have hn3 : n ≤ 1000000 := by omega
 clear h hn
 go_enter Tryz.func188, Tryz.ntmps188
 go_wp2
 go_loop [3, 4] (fun t j => ∃ (k : Nat) (x : ByteArray), k ≤ n ∧ j = .int .i64 k ∧ t = .string x ∧ x.size ≤ szs (l.take k)) (fun _ j => n - (intOf j).toNat)
 case atStart => exact ⟨0, ByteArray.empty, by omega, rfl, rfl, by simp⟩
 case round =>
  obtain ⟨k, x, hk, rfl, rfl, hx⟩ := hrel
  by_cases hlt : k < n
  ·have e3 : (k : Int) < n := by omega
   obtain ⟨y, hy⟩ : ∃ y, l[k]? = some y := ⟨_, List.getElem?_eq_getElem (by have := HN.out; omega)⟩
   obtain ⟨b, o, u, rfl, hb, hu, hc⟩ := H.out.at1 hlt
   unfold strs at hu
   rw [List.getElem?_map, hy] at hu
   injection hu with hu
   subst hu
   have hts : szs (l.take (k + 1)) = szs (l.take k) + (y.size + 1) := by rw [List.take_add_one, hy, Option.toList_some, szs_append, szs_one]
   have htl : szs (l.take (k + 1)) ≤ szs l := by
    have h1 := List.take_append_drop (k + 1) l
    have h2 := szs_append (l.take (k + 1)) (l.drop (k + 1))
    rw [h1] at h2
    omega
   have HTS := Lib.hid hts
   have hxb : x.size + y.size + 1 ≤ 1000000 := by omega
   clear hy hts
   by_cases h0 : (0 : Int) < k
   ·go_wp2
    go_round
    case rel => exact ⟨k + 1, _, by omega, by go_num, rfl, by rw [HTS.out, ByteArray.size_append, ByteArray.size_append]; show x.size + 1 + y.size ≤ _; omega⟩
    case measure => simp [intOf]; omega
   ·go_wp2
    go_round
    case rel => exact ⟨k + 1, _, by omega, by go_num, rfl, by rw [HTS.out, ByteArray.size_append]; omega⟩
    case measure => simp [intOf]; omega
  ·obtain rfl : k = n := by omega
   go_wp2
   go_ret
   exact ⟨⟨x, rfl, Nat.le_trans hx (by rw [List.take_of_length_le (by have := HN.out; omega)]; exact Nat.le_refl _)⟩, Below.refl _ _⟩
theorem conv_one (v : Int) (w : World) : (convert 360 9 (.slice (some ⟨w.heap.size, 0, none⟩) 1 1)).run Tryz.prog (w.alloc (.cells #[.int .u8 v] 5)) = .ok (.string (strOf [v])) (w.alloc (.cells #[.int .u8 v] 5)) :=
 run_conv_str _ _ _ _ Tryz.underlying360 Tryz.underlying5 Tryz.underlying9 _ _ _ (w.heap.size + 1) [v] (rd_bk (Bk.new w _ _) rfl rfl (by simp))
theorem pow_step {x i : Nat} (h : x < 10 ^ (20 - i)) (hi : i < 20) : x / 10 < 10 ^ (20 - (i + 1)) := by
 rw [Nat.div_lt_iff_lt_mul (by omega)]
 have e : 20 - i = 20 - (i + 1) + 1 := by omega
 rw [e, Nat.pow_succ] at h
 exact h
def StrOut (n : Nat) (w : World) (e : Ending) (w' : World) : Prop := ∃ s : ByteArray, e = .returned (.string s) ∧ s.size ≤ n ∧ Below w.heap.size w w'
theorem digits_any (x : Nat) (w : World) (hx : x < 18446744073709551616) : Calls Tryz.prog 234 #[.int .u64 x] w (StrOut 20 w) := by
 have hp : x < 10 ^ (20 - 0) := by simp; omega
 have HP := Lib.hid hp
 clear hp
 go_enter Tryz.func234, Tryz.ntmps234
 go_wp2
 go_loopw [0, 3, 4] (fun x t j wr => ∃ (k y : Nat) (s : ByteArray), k ≤ 20 ∧ y < 18446744073709551616 ∧ x = .int .u64 y ∧ j = .int .i64 k ∧ t = .string s ∧ s.size ≤ k ∧ Hid (y < 10 ^ (20 - k)) ∧ Below w.heap.size w wr) (fun _ _ j _ => 21 - (intOf j).toNat)
 case atStart => exact ⟨0, x, ByteArray.empty, by omega, hx, rfl, rfl, rfl, by simp, HP, Below.refl _ _⟩
 case round =>
  obtain ⟨k, y, s, hk, hy, rfl, rfl, rfl, hs, hI, hbr⟩ := hrel
  have hzz := hbr.size
  by_cases hgo : k = 0 ∨ 0 < y
  ·have hk20 : k < 20 := by
    rcases Nat.lt_or_ge k 20 with h | h
    ·exact h
    ·have h1 := hI.out
     rw [show 20 - k = 0 by omega] at h1
     simp at h1
     omega
   have hst := pow_step hI.out hk20
   have HST := Lib.hid hst
   have hcv := fun v => conv_one v wr
   have hcat : ¬ 9223372036854775807 < 1 + s.size := by omega
   clear hst
   by_cases h0 : k = 0
   ·subst h0
    go_wp2
    go_roundw
    case rel => exact ⟨1, y / 10, _, by omega, by omega, rfl, rfl, rfl, by rw [ByteArray.size_append]; show 1 + s.size ≤ 1; omega, HST, belowA⟩
    case measure => simp [intOf]
   ·have h1 : ((k : Int) == 0) = false := beq_false_of_ne (by omega)
    have h2 : (0 : Int) < y := by omega
    go_wp2
    go_roundw
    case rel => exact ⟨k + 1, y / 10, _, by omega, by omega, rfl, by go_num, rfl, by rw [ByteArray.size_append]; show 1 + s.size ≤ k + 1; omega, HST, belowA⟩
    case measure => simp [intOf]; omega
  ·have h1 : ((k : Int) == 0) = false := beq_false_of_ne (by omega)
   have h2 : ¬ (0 : Int) < y := by omega
   go_wp2
   go_ret
   exact ⟨s, rfl, by omega, hbr⟩
theorem show_any (n : Int) (w : World) (h : -9223372036854775808 ≤ n ∧ n ≤ 9223372036854775807) : Calls Tryz.prog 230 #[.int .i64 n] w (StrOut 21 w) := by
 by_cases h0 : n < 0
 ·obtain ⟨m, hm⟩ : ∃ m : Nat, (m : Int) = -n := ⟨(-n).toNat, by omega⟩
  have hd := digits_any m w (by omega)
  have e1 : IntKind.i64.wrap (n + 1) = n + 1 := IntWalk.i64_in _ (by omega)
  rw [show (m : Int) = -(n + 1) + 1 by omega] at hd
  have HD := Lib.hid hd
  clear hd hm
  go_enter Tryz.func230, Tryz.ntmps230
  go_wp2_with (go_at_call 234; fail)
  refine HD.out.mono ?_
  rintro e w1 ⟨s, rfl, hs, hb⟩
  have hcat : ¬ 9223372036854775807 < 1 + s.size := by omega
  go_wp2
  go_ret
  exact ⟨_, rfl, by rw [ByteArray.size_append]; show 1 + s.size ≤ 21; omega, hb⟩
 ·obtain ⟨m, rfl⟩ : ∃ m : Nat, n = (m : Int) := ⟨n.toNat, by omega⟩
  have hd := digits_any m w (by omega)
  have HD := Lib.hid hd
  have e2 : (m : Int) < 18446744073709551616 := by omega
  clear hd h
  go_enter Tryz.func230, Tryz.ntmps230
  go_wp2_with (go_at_call 234; fail)
  refine HD.out.mono ?_
  rintro e w1 ⟨s, rfl, hs, hb⟩
  go_wp2
  go_ret
  exact ⟨_, rfl, by omega, hb⟩
theorem u64_bd (x : Int) : 0 ≤ IntKind.u64.wrap x ∧ IntKind.u64.wrap x ≤ 18446744073709551615 := by
 simp only [IntKind.wrap_u64]
 omega
theorem i64_bdw (x : Int) : -9223372036854775808 ≤ IntKind.i64.wrap x ∧ IntKind.i64.wrap x ≤ 9223372036854775807 := by
 simp only [IntKind.wrap_i64]
 omega
theorem w64_bd (x : Int) : -9223372036854775808 ≤ wrap64 x ∧ wrap64 x ≤ 9223372036854775807 := by
 unfold wrap64
 omega
def NumOut (w : World) (e : Ending) (w' : World) : Prop := (∃ (n : Int) (b : Bool), e = .returned (.tuple #[.int .i64 n, .bool b])) ∧ Below w.heap.size w w'
theorem num_any (s : ByteArray) (w : World) (hs : s.size ≤ maxLen) : Calls Tryz.prog 217 #[.string s] w (NumOut w) := by
 unfold maxLen at hs
 by_cases hsz : s.size = 0 ∨ 20 < s.size
 ·rcases hsz with h | h
  ·have h1 : ((s.size : Int) == 0) = true := by simp [h]
   go_enter Tryz.func217, Tryz.ntmps217
   go_wp2
   exact bodyPost_ret (v := .tuple #[.int .i64 0, .bool false]) (by simp [results, Tryz.results217, go_sem]) rfl ⟨⟨_, _, rfl⟩, belowA⟩
  ·have h1 : ((s.size : Int) == 0) = false := beq_false_of_ne (by omega)
   have h2 : (20 : Int) < s.size := by omega
   go_enter Tryz.func217, Tryz.ntmps217
   go_wp2
   exact bodyPost_ret (v := .tuple #[.int .i64 0, .bool false]) (by simp [results, Tryz.results217, go_sem]) rfl ⟨⟨_, _, rfl⟩, belowA⟩
 have h1 : ((s.size : Int) == 0) = false := beq_false_of_ne (by omega)
 have h2 : ¬ (20 : Int) < s.size := by omega
 have hpos : 0 < s.size := by omega
 have hs20 : s.size ≤ 20 := by omega
 clear hsz hs
 go_enter Tryz.func217, Tryz.ntmps217
 go_wp2
 go_loop [4, 5] (fun x j => ∃ (k : Nat) (y : Int), k ≤ s.size ∧ j = .int .i64 k ∧ x = .int .u64 y ∧ 0 ≤ y ∧ y ≤ 18446744073709551615) (fun _ j => s.size - (intOf j).toNat)
 case atStart => exact ⟨0, 0, by omega, rfl, rfl, by omega, by omega⟩
 case round =>
  obtain ⟨k, y, hk, rfl, rfl, hy1, hy2⟩ := hrel
  by_cases hlt : k < s.size
  ·have e3 : (k : Int) < s.size := by omega
   go_wp2
   all_goals first
    | (go_round
       case rel => exact ⟨k + 1, _, by omega, by go_num, rfl, by first | exact (u64_bd _).1 | omega, by first | exact (u64_bd _).2 | omega⟩
       case measure => simp [intOf]; omega)
    | (exact bodyPost_ret (v := .tuple #[.int .i64 0, .bool false]) (by simp [results, Tryz.results217, go_sem]) rfl ⟨⟨_, _, rfl⟩, belowA⟩)
  ·obtain rfl : k = s.size := by omega
   go_wp2_with (go_at_call 230; (refine (show_any _ _ (by first | exact w64_bd _ | exact i64_bdw _ | omega)).mono ?_); rintro e w1 ⟨x, rfl, hx, hb⟩)
   all_goals first
    | (refine bodyPost_ret (v := .tuple #[.int .i64 0, .bool false]) ?_ rfl ⟨⟨_, _, rfl⟩, belowA⟩; (simp [results, Tryz.results217, go_sem]; done))
    | (refine bodyPost_ret (v := .tuple #[.int .i64 (wrap64 (IntKind.u64.wrap (-y))), .bool true]) ?_ rfl ⟨⟨_, _, rfl⟩, belowA⟩; (simp [results, Tryz.results217, go_sem]; done))
    | (refine bodyPost_ret (v := .tuple #[.int .i64 (wrap64 y), .bool true]) ?_ rfl ⟨⟨_, _, rfl⟩, belowA⟩; (simp [results, Tryz.results217, go_sem]; done))
def ValOut (w : World) (e : Ending) (w' : World) : Prop := (∃ n : Int, e = .returned (.int .i64 n) ∧ -1 ≤ n ∧ n ≤ 999) ∧ Below w.heap.size w w'
theorem value_any (s : ByteArray) (w : World) (hs : s.size ≤ maxLen) : Calls Tryz.prog 186 #[.string s] w (ValOut w) := by
 go_enter Tryz.func186, Tryz.ntmps186
 go_wp2_with (go_at_call 217; (refine (num_any s _ hs).mono ?_); rintro e w1 ⟨⟨n, b, rfl⟩, hb⟩)
 all_goals go_ret
 all_goals exact ⟨⟨_, rfl, by omega, by omega⟩, belowA⟩
def smallB (c : Int) : Bool := decide (97 ≤ c ∧ c ≤ 122)
def digitB (c : Int) : Bool := decide (48 ≤ c ∧ c ≤ 57)
theorem small_any (c : Int) (w : World) : Calls Tryz.prog 190 #[.int .u8 c] w fun e w' => e = .returned (.bool (smallB c)) ∧ Below w.heap.size w w' := by
 go_enter Tryz.func190, Tryz.ntmps190
 go_wp2
 all_goals go_ret
 all_goals exact ⟨ret_bool (by rw [Bool.eq_iff_iff]; simp [smallB]; try omega), belowA⟩
theorem digit_any (c : Int) (w : World) : Calls Tryz.prog 191 #[.int .u8 c] w fun e w' => e = .returned (.bool (digitB c)) ∧ Below w.heap.size w w' := by
 go_enter Tryz.func191, Tryz.ntmps191
 go_wp2
 all_goals go_ret
 all_goals exact ⟨ret_bool (by rw [Bool.eq_iff_iff]; simp [digitB]; try omega), belowA⟩
def PlaceOut (w : World) (e : Ending) (w' : World) : Prop := (∃ (n k : Int), e = .returned (.tuple #[.int .i64 n, .int .i64 k]) ∧ k ≠ 0) ∧ Below w.heap.size w w'
theorem wrong_any (s : ByteArray) (at_ : Int) (w : World) (hs : s.size ≤ maxLen) : Calls Tryz.prog 221 #[.string s, .int .i64 at_] w (PlaceOut w) := by
 unfold maxLen at hs
 go_enter Tryz.func221, Tryz.ntmps221
 go_wp2
 ·exact bodyPost_ret (v := .tuple #[.int .i64 s.size, .int .i64 5]) (by simp [results, Tryz.results221, go_sem]) rfl ⟨⟨_, _, rfl, by omega⟩, belowA⟩
 ·exact bodyPost_ret (v := .tuple #[.int .i64 at_, .int .i64 2]) (by simp [results, Tryz.results221, go_sem]) rfl ⟨⟨_, _, rfl, by omega⟩, belowA⟩
/-- a number and the place behind it, or -1 -/
def NbOut (n at_ : Nat) (w : World) (e : Ending) (w' : World) : Prop := (∃ (x : Int) (k : Nat), e = .returned (.tuple #[.int .i64 x, .int .i64 k]) ∧ -1 ≤ x ∧ x ≤ 99 ∧ at_ ≤ k ∧ k ≤ n + 1 ∧ (0 ≤ x → k ≤ n)) ∧ Below w.heap.size w w'
theorem sub48 (c : Nat) (h : digitB (c : Int) = true) : IntKind.u8.wrap ((c : Int) - 48) = (c : Int) - 48 ∧ 48 ≤ (c : Int) ∧ (c : Int) ≤ 57 := by
 unfold digitB at h
 have h := of_decide_eq_true h
 rw [IntKind.wrap_u8]
 omega
theorem number_any (s : ByteArray) (at_ : Nat) (w : World) (hs : s.size ≤ 10000000) (ha : at_ ≤ s.size + 1) : Calls Tryz.prog 220 #[.string s, .int .i64 at_] w (NbOut s.size at_ w) := by
 by_cases h0 : s.size ≤ at_
 ·have e1 : (s.size : Int) ≤ at_ := by omega
  go_enter Tryz.func220, Tryz.ntmps220
  go_wp2
  exact bodyPost_ret (v := .tuple #[.int .i64 (-1), .int .i64 at_]) (by simp [results, Tryz.results220, go_sem]) rfl ⟨⟨_, _, rfl, by omega, by omega, by omega, by omega, by omega⟩, belowA⟩
 have hlt : at_ < s.size := by omega
 have e1 : ¬ (s.size : Int) ≤ at_ := by omega
 have e1' : (at_ : Int) < s.size := by omega
 have hdg := fun W (hb : Below w.heap.size w W) (c : Int) => calls_on hb (digit_any c W)
 have HDG := Lib.hid hdg
 clear hdg h0
 go_enter Tryz.func220, Tryz.ntmps220
 go_wp2_with (go_at_call 191; fail)
 refine (HDG.out _ (Below.refl _ _) _).mono ?_
 rintro e w1 ⟨rfl, hb1, hz1, -⟩
 cases hd0 : digitB (s[at_].toNat : Int) with
 | false =>
   go_wp2
   exact bodyPost_ret (v := .tuple #[.int .i64 (-1), .int .i64 at_]) (by simp [results, Tryz.results220, go_sem]) rfl ⟨⟨_, _, rfl, by omega, by omega, by omega, by omega, by omega⟩, belowA⟩
 | true =>
   obtain ⟨q0, q1, q2⟩ := sub48 _ hd0
   by_cases h1 : at_ + 1 < s.size
   ·have e2 : (at_ : Int) + 1 < s.size := by omega
    go_wp2_with (go_at_call 191; fail)
    refine (HDG.out _ hb1 _).mono ?_
    rintro e w2 ⟨rfl, hb2, hz2, -⟩
    cases hd1 : digitB (s[at_ + 1].toNat : Int) with
    | false =>
      go_wp2
      exact bodyPost_ret (v := .tuple #[.int .i64 ((s[at_].toNat : Int) - 48), .int .i64 ((at_ + 1 : Nat) : Int)]) (by simp [results, Tryz.results220, go_sem]) rfl ⟨⟨_, _, rfl, by omega, by omega, by omega, by omega, by omega⟩, belowA⟩
    | true =>
      obtain ⟨r0, r1, r2⟩ := sub48 _ hd1
      by_cases hz : (s[at_].toNat : Int) = 48
      ·have hz2' : ((s[at_].toNat : Int) - 48 == 0) = true := by rw [beq_iff_eq]; omega
       clear hz
       go_wp2
       exact bodyPost_ret (v := .tuple #[.int .i64 (-1), .int .i64 ((at_ + 1 : Nat) : Int)]) (by simp [results, Tryz.results220, go_sem]) rfl ⟨⟨_, _, rfl, by omega, by omega, by omega, by omega, by omega⟩, belowA⟩
      ·have hz2' : ((s[at_].toNat : Int) - 48 == 0) = false := beq_false_of_ne (by omega)
       by_cases h2 : at_ + 2 < s.size
       ·have e3 : (at_ : Int) + 1 + 1 < s.size := by omega
        have e4 : (0 : Int) ≤ (at_ : Int) + 1 + 1 := by omega
        have e5 : ((at_ : Int) + 1 + 1).toNat = at_ + 1 + 1 := by omega
        go_wp2_with (go_at_call 191; fail)
        refine (HDG.out _ hb2 _).mono ?_
        rintro e w3 ⟨rfl, hb3, hz3, -⟩
        cases hd2 : digitB (s[at_ + 1 + 1].toNat : Int) with
        | true =>
          go_wp2
          exact bodyPost_ret (v := .tuple #[.int .i64 (-1), .int .i64 ((at_ + 1 + 1 : Nat) : Int)]) (by simp [results, Tryz.results220, go_sem]) rfl ⟨⟨_, _, rfl, by omega, by omega, by omega, by omega, by omega⟩, belowA⟩
        | false =>
          go_wp2
          exact bodyPost_ret (v := .tuple #[.int .i64 (10 * ((s[at_].toNat : Int) - 48) + ((s[at_ + 1].toNat : Int) - 48)), .int .i64 ((at_ + 1 + 1 : Nat) : Int)]) (by simp [results, Tryz.results220, go_sem]) rfl ⟨⟨_, _, rfl, by omega, by omega, by omega, by omega, by omega⟩, belowA⟩
       ·have e3 : ¬ (at_ : Int) + 1 + 1 < s.size := by omega
        go_wp2
        exact bodyPost_ret (v := .tuple #[.int .i64 (10 * ((s[at_].toNat : Int) - 48) + ((s[at_ + 1].toNat : Int) - 48)), .int .i64 ((at_ + 1 + 1 : Nat) : Int)]) (by simp [results, Tryz.results220, go_sem]) rfl ⟨⟨_, _, rfl, by omega, by omega, by omega, by omega, by omega⟩, belowA⟩
   ·have e2 : ¬ (at_ : Int) + 1 < s.size := by omega
    go_wp2
    exact bodyPost_ret (v := .tuple #[.int .i64 ((s[at_].toNat : Int) - 48), .int .i64 ((at_ + 1 : Nat) : Int)]) (by simp [results, Tryz.results220, go_sem]) rfl ⟨⟨_, _, rfl, by omega, by omega, by omega, by omega, by omega⟩, belowA⟩
/-- a sign -/
structure Sg where
 (k at_ lo hi : Int)
 name : ByteArray
deriving Inhabited
def Sg.cells (s : Sg) : List Value := [.int .i64 s.k, .int .i64 s.at_, .int .i64 s.lo, .int .i64 s.hi, .string s.name]
abbrev encS (s : Sg) : Value := .agg #[.int .i64 s.k, .int .i64 s.at_, .int .i64 s.lo, .int .i64 s.hi, .string s.name]
def Sg.Ok (s : Sg) : Prop := 1 ≤ s.k ∧ s.k ≤ 5 ∧ s.name.size ≤ 12 ∧ 0 ≤ s.lo ∧ s.lo ≤ 20 ∧ -1 ≤ s.hi ∧ s.hi ≤ 20 ∧ (s.k = 5 → s.hi ≠ 0)
def SgOut (n at_ : Nat) (w : World) (e : Ending) (w' : World) : Prop := (∃ (g : Sg) (q er : Int), e = .returned (.tuple #[encS g, .int .i64 q, .int .i64 er]) ∧ (er = 0 → g.Ok ∧ (at_ : Int) < q ∧ q ≤ n)) ∧ Below w.heap.size w w'
abbrev zeroS : Array Value := #[.int .i64 0, .int .i64 0, .int .i64 0, .int .i64 0, .string { data := #[] }]
theorem bk5 {w : World} {b : Nat} {t : TypeId} {x0 x1 x2 x3 x4 : Value} (k : Bk w b t #[x0, x1, x2, x3, x4]) : w.cell? ⟨b, 0, none⟩ = some x0 ∧ w.cell? ⟨b, 1, none⟩ = some x1 ∧ w.cell? ⟨b, 2, none⟩ = some x2 ∧ w.cell? ⟨b, 3, none⟩ = some x3 ∧ w.cell? ⟨b, 4, none⟩ = some x4 :=
 ⟨k.cell 0, k.cell 1, k.cell 2, k.cell 3, k.cell 4⟩
theorem count_any (s : ByteArray) (at_ : Nat) (w : World) (hs : s.size ≤ 10000000) (ha : at_ < s.size) : Calls Tryz.prog 192 #[.string s, .int .i64 at_] w (SgOut s.size at_ w) := by
 have hsm : s.size ≤ maxLen := by unfold maxLen; omega
 have hnb := fun W => number_any s (at_ + 1) W hs (by omega)
 have HNB := Lib.hid hnb
 have hwr := fun W x => wrong_any s x W hsm
 have HWR := Lib.hid hwr
 clear hnb hwr hsm
 go_enter Tryz.func192, Tryz.ntmps192
 go_wp2_with (go_at_call 220; fail)
 have kr : Bk ((w.alloc (.cells zeroS 189)).alloc (.cells #[.int .i64 5, .int .i64 at_, .int .i64 0, .int .i64 0, .string { data := #[] }] 189)) w.heap.size 189 zeroS := (Bk.new w _ _).alloc _
 have kx : Bk ((w.alloc (.cells zeroS 189)).alloc (.cells #[.int .i64 5, .int .i64 at_, .int .i64 0, .int .i64 0, .string { data := #[] }] 189)) (w.heap.size + 1) 189 #[.int .i64 5, .int .i64 at_, .int .i64 0, .int .i64 0, .string { data := #[] }] := Bk.made _ _ (by simp)
 have hb0 : Below w.heap.size w ((w.alloc (.cells zeroS 189)).alloc (.cells #[.int .i64 5, .int .i64 at_, .int .i64 0, .int .i64 0, .string { data := #[] }] 189)) := belowA
 generalize (w.alloc (.cells zeroS 189)).alloc (.cells #[.int .i64 5, .int .i64 at_, .int .i64 0, .int .i64 0, .string { data := #[] }] 189) = w0 at *
 have hn0 := HNB.out w0
 rw [show ((at_ + 1 : Nat) : Int) = (at_ : Int) + 1 by omega] at hn0
 refine hn0.mono ?_
 clear hn0
 rintro e w1 ⟨⟨x, k, rfl, hx1, hx2, hk1, hk2, hk3⟩, hb1⟩
 have kr1 := kr.ext hb1
 have kx1 := kx.ext hb1
 have hb01 := hb0.trans (hb1.mono hb0.size)
 have hz1 := hb01.size
 have hl1 := def_lt' kr1
 have hl2 := def_lt' kx1
 clear kr kx hb0 hb1 HNB
 by_cases hneg : x < 0
 ·go_wp2_with (go_at_call 221; fail)
  refine (HWR.out w1 _).mono ?_
  rintro e w2 ⟨⟨n2, er, rfl, her⟩, hb2⟩
  have kr2 := kr1.ext hb2
  have kx2 := kx1.ext hb2
  have hb02 := hb01.trans (hb2.mono hz1)
  obtain ⟨x0, x1, x2, x3, x4⟩ := bk5 kx2
  obtain ⟨y0, y1, y2, y3, y4⟩ := bk5 kr2
  have rf := kr2.frozen; have rl := def_lt' kr2
  go_wp2
  have kz : Bk (((((w2.setCell ⟨w.heap.size, 0, none⟩ (.int .i64 5)).setCell ⟨w.heap.size, 1, none⟩ (.int .i64 at_)).setCell ⟨w.heap.size, 2, none⟩ (.int .i64 0)).setCell ⟨w.heap.size, 3, none⟩ (.int .i64 0)).setCell ⟨w.heap.size, 4, none⟩ (.string { data := #[] })) w.heap.size 189 #[.int .i64 5, .int .i64 at_, .int .i64 0, .int .i64 0, .string { data := #[] }] := ((((kr2.set_ 0 _).set_ 1 _).set_ 2 _).set_ 3 _).set_ 4 _
  obtain ⟨q0, q1, q2, q3, q4⟩ := bk5 kz
  have hbz : Below w.heap.size w (((((w2.setCell ⟨w.heap.size, 0, none⟩ (.int .i64 5)).setCell ⟨w.heap.size, 1, none⟩ (.int .i64 at_)).setCell ⟨w.heap.size, 2, none⟩ (.int .i64 0)).setCell ⟨w.heap.size, 3, none⟩ (.int .i64 0)).setCell ⟨w.heap.size, 4, none⟩ (.string { data := #[] })) := belowA
  exact bodyPost_ret (v := .tuple #[encS (⟨5, at_, 0, 0, { data := #[] }⟩ : Sg), .int .i64 (n2), .int .i64 (er)]) (by simp [results, Tryz.results192, go_sem, q0, q1, q2, q3, q4]) rfl ⟨⟨⟨5, at_, 0, 0, { data := #[] }⟩, n2, er, rfl, fun h => absurd h her⟩, hbz⟩
 have hk4 := hk3 (by omega)
 by_cases hbig : 20 < x
 ·have hneg' : ¬ x < 0 := hneg
  obtain ⟨x0, x1, x2, x3, x4⟩ := bk5 kx1
  obtain ⟨y0, y1, y2, y3, y4⟩ := bk5 kr1
  have rf := kr1.frozen; have rl := def_lt' kr1
  go_wp2
  have kz : Bk (((((w1.setCell ⟨w.heap.size, 0, none⟩ (.int .i64 5)).setCell ⟨w.heap.size, 1, none⟩ (.int .i64 at_)).setCell ⟨w.heap.size, 2, none⟩ (.int .i64 0)).setCell ⟨w.heap.size, 3, none⟩ (.int .i64 0)).setCell ⟨w.heap.size, 4, none⟩ (.string { data := #[] })) w.heap.size 189 #[.int .i64 5, .int .i64 at_, .int .i64 0, .int .i64 0, .string { data := #[] }] := ((((kr1.set_ 0 _).set_ 1 _).set_ 2 _).set_ 3 _).set_ 4 _
  obtain ⟨q0, q1, q2, q3, q4⟩ := bk5 kz
  have hbz : Below w.heap.size w (((((w1.setCell ⟨w.heap.size, 0, none⟩ (.int .i64 5)).setCell ⟨w.heap.size, 1, none⟩ (.int .i64 at_)).setCell ⟨w.heap.size, 2, none⟩ (.int .i64 0)).setCell ⟨w.heap.size, 3, none⟩ (.int .i64 0)).setCell ⟨w.heap.size, 4, none⟩ (.string { data := #[] })) := belowA
  exact bodyPost_ret (v := .tuple #[encS (⟨5, at_, 0, 0, { data := #[] }⟩ : Sg), .int .i64 ((at_ : Int) + 1), .int .i64 (3)]) (by simp [results, Tryz.results192, go_sem, q0, q1, q2, q3, q4]) rfl ⟨⟨⟨5, at_, 0, 0, { data := #[] }⟩, (at_ : Int) + 1, 3, rfl, fun h => absurd h (by omega)⟩, hbz⟩
 by_cases hzz : x = 0 ∧ ∃ h : k < s.size, s[k].toNat = 125
 ·obtain ⟨rfl, hlt, hc⟩ := hzz
  have hc2 : ((s[k].toNat : Int) == 125) = true := by rw [beq_iff_eq]; omega
  have e4 : (k : Int) < s.size := by omega
  clear hc
  obtain ⟨x0, x1, x2, x3, x4⟩ := bk5 kx1
  obtain ⟨y0, y1, y2, y3, y4⟩ := bk5 kr1
  have rf := kr1.frozen; have rl := def_lt' kr1
  go_wp2
  have kz : Bk (((((w1.setCell ⟨w.heap.size, 0, none⟩ (.int .i64 5)).setCell ⟨w.heap.size, 1, none⟩ (.int .i64 at_)).setCell ⟨w.heap.size, 2, none⟩ (.int .i64 0)).setCell ⟨w.heap.size, 3, none⟩ (.int .i64 0)).setCell ⟨w.heap.size, 4, none⟩ (.string { data := #[] })) w.heap.size 189 #[.int .i64 5, .int .i64 at_, .int .i64 0, .int .i64 0, .string { data := #[] }] := ((((kr1.set_ 0 _).set_ 1 _).set_ 2 _).set_ 3 _).set_ 4 _
  obtain ⟨q0, q1, q2, q3, q4⟩ := bk5 kz
  have hbz : Below w.heap.size w (((((w1.setCell ⟨w.heap.size, 0, none⟩ (.int .i64 5)).setCell ⟨w.heap.size, 1, none⟩ (.int .i64 at_)).setCell ⟨w.heap.size, 2, none⟩ (.int .i64 0)).setCell ⟨w.heap.size, 3, none⟩ (.int .i64 0)).setCell ⟨w.heap.size, 4, none⟩ (.string { data := #[] })) := belowA
  exact bodyPost_ret (v := .tuple #[encS (⟨5, at_, 0, 0, { data := #[] }⟩ : Sg), .int .i64 ((at_ : Int) + 1), .int .i64 (3)]) (by simp [results, Tryz.results192, go_sem, q0, q1, q2, q3, q4]) rfl ⟨⟨⟨5, at_, 0, 0, { data := #[] }⟩, (at_ : Int) + 1, 3, rfl, fun h => absurd h (by omega)⟩, hbz⟩
 have hx20 : x ≤ 20 := by omega
 have g20 : ¬ 20 < x := hbig
 have gneg : ¬ x < 0 := hneg
 by_cases hcm : ∃ h : k < s.size, s[k].toNat = 44
 ·obtain ⟨hlt, hc⟩ := hcm
  have hc44 : ((s[k].toNat : Int) == 44) = true := by rw [beq_iff_eq]; omega
  have hc125 : ((s[k].toNat : Int) == 125) = false := beq_false_of_ne (by omega)
  have e4 : (k : Int) < s.size := by omega
  clear hc hzz
  by_cases hq : ∃ h : k + 1 < s.size, s[k + 1].toNat = 125
  ·obtain ⟨hlt2, hd⟩ := hq
   have hd125 : ((s[k + 1].toNat : Int) == 125) = true := by rw [beq_iff_eq]; omega
   have hd125' : ((s[k + 1].toNat : Int) != 125) = false := by rw [bne, hd125]; rfl
   have e5 : (k : Int) + 1 < s.size := by omega
   have e6 : (0 : Int) ≤ (k : Int) + 1 := by omega
   clear hd
   cases hx0 : (x == 0)
   all_goals
    obtain ⟨u0, u1, u2, u3, u4⟩ := bk5 kx1
    have uf := kx1.frozen
    go_upto_region 26 with fail
    have kr3 : Bk (((w1.setCell ⟨w.heap.size + 1, 2, none⟩ (.int .i64 x)).setCell ⟨w.heap.size + 1, 3, none⟩ (.int .i64 x)).setCell ⟨w.heap.size + 1, 3, none⟩ (.int .i64 (-1))) w.heap.size 189 zeroS := (((kr1.far (p := ⟨w.heap.size + 1, 2, none⟩) (by simp) (.int .i64 x)).far (p := ⟨w.heap.size + 1, 3, none⟩) (by simp) (.int .i64 x)).far (p := ⟨w.heap.size + 1, 3, none⟩) (by simp) (.int .i64 (-1)))
    have kx3 : Bk (((w1.setCell ⟨w.heap.size + 1, 2, none⟩ (.int .i64 x)).setCell ⟨w.heap.size + 1, 3, none⟩ (.int .i64 x)).setCell ⟨w.heap.size + 1, 3, none⟩ (.int .i64 (-1))) (w.heap.size + 1) 189 #[.int .i64 5, .int .i64 at_, .int .i64 x, .int .i64 (-1), .string { data := #[] }] := (((kx1.set_ 2 (.int .i64 x)).set_ 3 (.int .i64 x)).set_ 3 (.int .i64 (-1)))
    have hb3 : Below w.heap.size w (((w1.setCell ⟨w.heap.size + 1, 2, none⟩ (.int .i64 x)).setCell ⟨w.heap.size + 1, 3, none⟩ (.int .i64 x)).setCell ⟨w.heap.size + 1, 3, none⟩ (.int .i64 (-1))) := belowA
    generalize (((w1.setCell ⟨w.heap.size + 1, 2, none⟩ (.int .i64 x)).setCell ⟨w.heap.size + 1, 3, none⟩ (.int .i64 x)).setCell ⟨w.heap.size + 1, 3, none⟩ (.int .i64 (-1))) = w3 at *
    clear u0 u1 u2 u3 u4
    have hz3 := hb3.size
    obtain ⟨x0, x1, x2, x3, x4⟩ := bk5 kx3
    obtain ⟨y0, y1, y2, y3, y4⟩ := bk5 kr3
    have rf := kr3.frozen; have rl := def_lt' kr3
    go_wp2
    have kz : Bk (((((w3.setCell ⟨w.heap.size, 0, none⟩ (.int .i64 5)).setCell ⟨w.heap.size, 1, none⟩ (.int .i64 at_)).setCell ⟨w.heap.size, 2, none⟩ (.int .i64 x)).setCell ⟨w.heap.size, 3, none⟩ (.int .i64 (-1))).setCell ⟨w.heap.size, 4, none⟩ (.string { data := #[] })) w.heap.size 189 #[.int .i64 5, .int .i64 at_, .int .i64 x, .int .i64 (-1), .string { data := #[] }] := ((((kr3.set_ 0 _).set_ 1 _).set_ 2 _).set_ 3 _).set_ 4 _
    obtain ⟨q0, q1, q2, q3, q4⟩ := bk5 kz
    have hbz : Below w.heap.size w (((((w3.setCell ⟨w.heap.size, 0, none⟩ (.int .i64 5)).setCell ⟨w.heap.size, 1, none⟩ (.int .i64 at_)).setCell ⟨w.heap.size, 2, none⟩ (.int .i64 x)).setCell ⟨w.heap.size, 3, none⟩ (.int .i64 (-1))).setCell ⟨w.heap.size, 4, none⟩ (.string { data := #[] })) := belowA
    exact bodyPost_ret (v := .tuple #[encS (⟨5, at_, x, (-1), { data := #[] }⟩ : Sg), .int .i64 ((k : Int) + 1 + 1), .int .i64 (0)]) (by simp [results, Tryz.results192, go_sem, q0, q1, q2, q3, q4]) rfl ⟨⟨⟨5, at_, x, (-1), { data := #[] }⟩, (k : Int) + 1 + 1, 0, rfl, fun _ => ⟨⟨by show (1 : Int) ≤ 5; omega, by show (5 : Int) ≤ 5; omega, by show (0 : Nat) ≤ 12; omega, by show 0 ≤ x; omega, by show x ≤ 20; omega, by show -1 ≤ (-1); omega, by show (-1) ≤ 20; omega, fun _ => by show (-1) ≠ 0; omega⟩, by omega, by omega⟩⟩, hbz⟩
  ·have hnb := fun W => number_any s (k + 1) W hs (by omega)
   have HNB := Lib.hid hnb
   clear hnb
   have hB : (∃ h : k + 1 < s.size, ((s[k + 1].toNat : Int) == 125) = false ∧ ((s[k + 1].toNat : Int) != 125) = true) ∨ ¬ k + 1 < s.size := by
    by_cases h : k + 1 < s.size
    ·have h2 : ((s[k + 1].toNat : Int) == 125) = false := beq_false_of_ne (fun e => hq ⟨h, by omega⟩)
     exact .inl ⟨h, h2, by rw [bne, h2]; rfl⟩
    ·exact .inr h
   clear hq
   rcases hB with ⟨hlt2, hd125, hd125'⟩ | hge
   case' inl =>
    have e5 : (k : Int) + 1 < s.size := by omega
    have e6 : (0 : Int) ≤ (k : Int) + 1 := by omega
   case' inr =>
    have e5 : ¬ (k : Int) + 1 < s.size := by omega
   all_goals
    cases hx0 : (x == 0)
    all_goals
     obtain ⟨u0, u1, u2, u3, u4⟩ := bk5 kx1
     have uf := kx1.frozen
     go_wp2_with (go_at_call 220; fail)
     have kr3 : Bk (((w1.setCell ⟨w.heap.size + 1, 2, none⟩ (.int .i64 x)).setCell ⟨w.heap.size + 1, 3, none⟩ (.int .i64 x)).setCell ⟨w.heap.size + 1, 3, none⟩ (.int .i64 (-1))) w.heap.size 189 zeroS := (((kr1.far (p := ⟨w.heap.size + 1, 2, none⟩) (by simp) (.int .i64 x)).far (p := ⟨w.heap.size + 1, 3, none⟩) (by simp) (.int .i64 x)).far (p := ⟨w.heap.size + 1, 3, none⟩) (by simp) (.int .i64 (-1)))
     have kx3 : Bk (((w1.setCell ⟨w.heap.size + 1, 2, none⟩ (.int .i64 x)).setCell ⟨w.heap.size + 1, 3, none⟩ (.int .i64 x)).setCell ⟨w.heap.size + 1, 3, none⟩ (.int .i64 (-1))) (w.heap.size + 1) 189 #[.int .i64 5, .int .i64 at_, .int .i64 x, .int .i64 (-1), .string { data := #[] }] := (((kx1.set_ 2 (.int .i64 x)).set_ 3 (.int .i64 x)).set_ 3 (.int .i64 (-1)))
     have hb3 : Below w.heap.size w (((w1.setCell ⟨w.heap.size + 1, 2, none⟩ (.int .i64 x)).setCell ⟨w.heap.size + 1, 3, none⟩ (.int .i64 x)).setCell ⟨w.heap.size + 1, 3, none⟩ (.int .i64 (-1))) := belowA
     generalize (((w1.setCell ⟨w.heap.size + 1, 2, none⟩ (.int .i64 x)).setCell ⟨w.heap.size + 1, 3, none⟩ (.int .i64 x)).setCell ⟨w.heap.size + 1, 3, none⟩ (.int .i64 (-1))) = w3 at *
     clear u0 u1 u2 u3 u4
     have hz3 := hb3.size
     have hn3 := HNB.out w3
     rw [show ((k + 1 : Nat) : Int) = (k : Int) + 1 by omega] at hn3
     refine hn3.mono ?_
     clear hn3
     rintro e w4 ⟨⟨m, en, rfl, hm1, hm2, hen1, hen2, hen3⟩, hb4⟩
     have kr4 := kr3.ext hb4
     have kx4 := kx3.ext hb4
     have hb04 := hb3.trans (hb4.mono hz3)
     have hz4 := hb04.size
     have hl4 := def_lt' kx4
     by_cases m0 : m < 0
     ·go_wp2_with (go_at_call 221; fail)
      refine (HWR.out w4 _).mono ?_
      rintro e w8 ⟨⟨n8, er, rfl, her⟩, hb8⟩
      have hb08 := (show Below w.heap.size w w4 from belowA).trans (hb8.mono (by have := def_lt' kr4; omega))
      have kr8 := kr4.ext hb8
      have kx8 := kx4.ext hb8
      obtain ⟨x0, x1, x2, x3, x4⟩ := bk5 kx8
      obtain ⟨y0, y1, y2, y3, y4⟩ := bk5 kr8
      have rf := kr8.frozen; have rl := def_lt' kr8
      go_wp2
      have kz : Bk (((((w8.setCell ⟨w.heap.size, 0, none⟩ (.int .i64 5)).setCell ⟨w.heap.size, 1, none⟩ (.int .i64 at_)).setCell ⟨w.heap.size, 2, none⟩ (.int .i64 x)).setCell ⟨w.heap.size, 3, none⟩ (.int .i64 (-1))).setCell ⟨w.heap.size, 4, none⟩ (.string { data := #[] })) w.heap.size 189 #[.int .i64 5, .int .i64 at_, .int .i64 x, .int .i64 (-1), .string { data := #[] }] := ((((kr8.set_ 0 _).set_ 1 _).set_ 2 _).set_ 3 _).set_ 4 _
      obtain ⟨q0, q1, q2, q3, q4⟩ := bk5 kz
      have hbz : Below w.heap.size w (((((w8.setCell ⟨w.heap.size, 0, none⟩ (.int .i64 5)).setCell ⟨w.heap.size, 1, none⟩ (.int .i64 at_)).setCell ⟨w.heap.size, 2, none⟩ (.int .i64 x)).setCell ⟨w.heap.size, 3, none⟩ (.int .i64 (-1))).setCell ⟨w.heap.size, 4, none⟩ (.string { data := #[] })) := belowA
      exact bodyPost_ret (v := .tuple #[encS (⟨5, at_, x, (-1), { data := #[] }⟩ : Sg), .int .i64 (n8), .int .i64 (er)]) (by simp [results, Tryz.results192, go_sem, q0, q1, q2, q3, q4]) rfl ⟨⟨⟨5, at_, x, (-1), { data := #[] }⟩, n8, er, rfl, fun h => absurd h her⟩, hbz⟩
     by_cases m1 : m < 1
     ·obtain ⟨x0, x1, x2, x3, x4⟩ := bk5 kx4
      obtain ⟨y0, y1, y2, y3, y4⟩ := bk5 kr4
      have rf := kr4.frozen; have rl := def_lt' kr4
      go_wp2
      have kz : Bk (((((w4.setCell ⟨w.heap.size, 0, none⟩ (.int .i64 5)).setCell ⟨w.heap.size, 1, none⟩ (.int .i64 at_)).setCell ⟨w.heap.size, 2, none⟩ (.int .i64 x)).setCell ⟨w.heap.size, 3, none⟩ (.int .i64 (-1))).setCell ⟨w.heap.size, 4, none⟩ (.string { data := #[] })) w.heap.size 189 #[.int .i64 5, .int .i64 at_, .int .i64 x, .int .i64 (-1), .string { data := #[] }] := ((((kr4.set_ 0 _).set_ 1 _).set_ 2 _).set_ 3 _).set_ 4 _
      obtain ⟨q0, q1, q2, q3, q4⟩ := bk5 kz
      have hbz : Below w.heap.size w (((((w4.setCell ⟨w.heap.size, 0, none⟩ (.int .i64 5)).setCell ⟨w.heap.size, 1, none⟩ (.int .i64 at_)).setCell ⟨w.heap.size, 2, none⟩ (.int .i64 x)).setCell ⟨w.heap.size, 3, none⟩ (.int .i64 (-1))).setCell ⟨w.heap.size, 4, none⟩ (.string { data := #[] })) := belowA
      exact bodyPost_ret (v := .tuple #[encS (⟨5, at_, x, (-1), { data := #[] }⟩ : Sg), .int .i64 ((k : Int) + 1), .int .i64 (3)]) (by simp [results, Tryz.results192, go_sem, q0, q1, q2, q3, q4]) rfl ⟨⟨⟨5, at_, x, (-1), { data := #[] }⟩, (k : Int) + 1, 3, rfl, fun h => absurd h (by omega)⟩, hbz⟩
     by_cases m2 : 20 < m
     ·obtain ⟨x0, x1, x2, x3, x4⟩ := bk5 kx4
      obtain ⟨y0, y1, y2, y3, y4⟩ := bk5 kr4
      have rf := kr4.frozen; have rl := def_lt' kr4
      go_wp2
      have kz : Bk (((((w4.setCell ⟨w.heap.size, 0, none⟩ (.int .i64 5)).setCell ⟨w.heap.size, 1, none⟩ (.int .i64 at_)).setCell ⟨w.heap.size, 2, none⟩ (.int .i64 x)).setCell ⟨w.heap.size, 3, none⟩ (.int .i64 (-1))).setCell ⟨w.heap.size, 4, none⟩ (.string { data := #[] })) w.heap.size 189 #[.int .i64 5, .int .i64 at_, .int .i64 x, .int .i64 (-1), .string { data := #[] }] := ((((kr4.set_ 0 _).set_ 1 _).set_ 2 _).set_ 3 _).set_ 4 _
      obtain ⟨q0, q1, q2, q3, q4⟩ := bk5 kz
      have hbz : Below w.heap.size w (((((w4.setCell ⟨w.heap.size, 0, none⟩ (.int .i64 5)).setCell ⟨w.heap.size, 1, none⟩ (.int .i64 at_)).setCell ⟨w.heap.size, 2, none⟩ (.int .i64 x)).setCell ⟨w.heap.size, 3, none⟩ (.int .i64 (-1))).setCell ⟨w.heap.size, 4, none⟩ (.string { data := #[] })) := belowA
      exact bodyPost_ret (v := .tuple #[encS (⟨5, at_, x, (-1), { data := #[] }⟩ : Sg), .int .i64 ((k : Int) + 1), .int .i64 (3)]) (by simp [results, Tryz.results192, go_sem, q0, q1, q2, q3, q4]) rfl ⟨⟨⟨5, at_, x, (-1), { data := #[] }⟩, (k : Int) + 1, 3, rfl, fun h => absurd h (by omega)⟩, hbz⟩
     by_cases m3 : m < x
     ·obtain ⟨x0, x1, x2, x3, x4⟩ := bk5 kx4
      obtain ⟨y0, y1, y2, y3, y4⟩ := bk5 kr4
      have rf := kr4.frozen; have rl := def_lt' kr4
      go_wp2
      have kz : Bk (((((w4.setCell ⟨w.heap.size, 0, none⟩ (.int .i64 5)).setCell ⟨w.heap.size, 1, none⟩ (.int .i64 at_)).setCell ⟨w.heap.size, 2, none⟩ (.int .i64 x)).setCell ⟨w.heap.size, 3, none⟩ (.int .i64 (-1))).setCell ⟨w.heap.size, 4, none⟩ (.string { data := #[] })) w.heap.size 189 #[.int .i64 5, .int .i64 at_, .int .i64 x, .int .i64 (-1), .string { data := #[] }] := ((((kr4.set_ 0 _).set_ 1 _).set_ 2 _).set_ 3 _).set_ 4 _
      obtain ⟨q0, q1, q2, q3, q4⟩ := bk5 kz
      have hbz : Below w.heap.size w (((((w4.setCell ⟨w.heap.size, 0, none⟩ (.int .i64 5)).setCell ⟨w.heap.size, 1, none⟩ (.int .i64 at_)).setCell ⟨w.heap.size, 2, none⟩ (.int .i64 x)).setCell ⟨w.heap.size, 3, none⟩ (.int .i64 (-1))).setCell ⟨w.heap.size, 4, none⟩ (.string { data := #[] })) := belowA
      exact bodyPost_ret (v := .tuple #[encS (⟨5, at_, x, (-1), { data := #[] }⟩ : Sg), .int .i64 ((k : Int) + 1), .int .i64 (3)]) (by simp [results, Tryz.results192, go_sem, q0, q1, q2, q3, q4]) rfl ⟨⟨⟨5, at_, x, (-1), { data := #[] }⟩, (k : Int) + 1, 3, rfl, fun h => absurd h (by omega)⟩, hbz⟩
     have hen4 := hen3 (by omega)
     obtain ⟨v0, v1, v2, v3, v4⟩ := bk5 kx4
     have vf := kx4.frozen
     have kr5 : Bk (w4.setCell ⟨w.heap.size + 1, 3, none⟩ (.int .i64 m)) w.heap.size 189 zeroS := kr4.far (p := ⟨w.heap.size + 1, 3, none⟩) (by simp) _
     have kx5 : Bk (w4.setCell ⟨w.heap.size + 1, 3, none⟩ (.int .i64 m)) (w.heap.size + 1) 189 #[.int .i64 5, .int .i64 at_, .int .i64 x, .int .i64 m, .string { data := #[] }] := kx4.set_ 3 _
     have hb5 : Below w.heap.size w (w4.setCell ⟨w.heap.size + 1, 3, none⟩ (.int .i64 m)) := belowA
     have hD : (∃ h : en < s.size, ((s[en].toNat : Int) == 125) = true ∧ ((s[en].toNat : Int) != 125) = false) ∨ ((∃ h : en < s.size, ((s[en].toNat : Int) == 125) = false ∧ ((s[en].toNat : Int) != 125) = true) ∨ ¬ en < s.size) := by
      by_cases h : en < s.size
      ·cases h3 : ((s[en].toNat : Int) == 125) with
       | true => exact .inl ⟨h, h3, by rw [bne, h3]; rfl⟩
       | false => exact .inr (.inl ⟨h, h3, by rw [bne, h3]; rfl⟩)
      ·exact .inr (.inr h)
     rcases hD with ⟨hlt5, hd5, hd5'⟩ | hD
     ·first
      | (exfalso; omega)
      | (have e7 : (en : Int) < s.size := by omega
         go_upto_region 26 with fail
         generalize w4.setCell ⟨w.heap.size + 1, 3, none⟩ (.int .i64 m) = w5 at *
         have hz5 := hb5.size
         clear v0 v1 v2 v3 v4
         obtain ⟨x0, x1, x2, x3, x4⟩ := bk5 kx5
         obtain ⟨y0, y1, y2, y3, y4⟩ := bk5 kr5
         have rf := kr5.frozen; have rl := def_lt' kr5
         go_wp2
         have kz : Bk (((((w5.setCell ⟨w.heap.size, 0, none⟩ (.int .i64 5)).setCell ⟨w.heap.size, 1, none⟩ (.int .i64 at_)).setCell ⟨w.heap.size, 2, none⟩ (.int .i64 x)).setCell ⟨w.heap.size, 3, none⟩ (.int .i64 m)).setCell ⟨w.heap.size, 4, none⟩ (.string { data := #[] })) w.heap.size 189 #[.int .i64 5, .int .i64 at_, .int .i64 x, .int .i64 m, .string { data := #[] }] := ((((kr5.set_ 0 _).set_ 1 _).set_ 2 _).set_ 3 _).set_ 4 _
         obtain ⟨q0, q1, q2, q3, q4⟩ := bk5 kz
         have hbz : Below w.heap.size w (((((w5.setCell ⟨w.heap.size, 0, none⟩ (.int .i64 5)).setCell ⟨w.heap.size, 1, none⟩ (.int .i64 at_)).setCell ⟨w.heap.size, 2, none⟩ (.int .i64 x)).setCell ⟨w.heap.size, 3, none⟩ (.int .i64 m)).setCell ⟨w.heap.size, 4, none⟩ (.string { data := #[] })) := belowA
         exact bodyPost_ret (v := .tuple #[encS (⟨5, at_, x, m, { data := #[] }⟩ : Sg), .int .i64 ((en : Int) + 1), .int .i64 (0)]) (by simp [results, Tryz.results192, go_sem, q0, q1, q2, q3, q4]) rfl ⟨⟨⟨5, at_, x, m, { data := #[] }⟩, (en : Int) + 1, 0, rfl, fun _ => ⟨⟨by show (1 : Int) ≤ 5; omega, by show (5 : Int) ≤ 5; omega, by show (0 : Nat) ≤ 12; omega, by show 0 ≤ x; omega, by show x ≤ 20; omega, by show -1 ≤ m; omega, by show m ≤ 20; omega, fun _ => by show m ≠ 0; omega⟩, by omega, by omega⟩⟩, hbz⟩)
     rcases hD with ⟨hlt5, hd5, hd5'⟩ | hge5
     case' inl =>
      have e7 : (en : Int) < s.size := by omega
      try (exfalso; omega)
     case' inr => have e7 : ¬ (en : Int) < s.size := by omega
     all_goals
      go_wp2_with (go_at_call 221; fail)
      generalize w4.setCell ⟨w.heap.size + 1, 3, none⟩ (.int .i64 m) = w5 at *
      have hz5 := hb5.size
      clear v0 v1 v2 v3 v4
      refine (HWR.out w5 _).mono ?_
      rintro e w8 ⟨⟨n8, er, rfl, her⟩, hb8⟩
      have hb08 := (show Below w.heap.size w w5 from belowA).trans (hb8.mono (by have := def_lt' kr5; omega))
      have kr8 := kr5.ext hb8
      have kx8 := kx5.ext hb8
      obtain ⟨x0, x1, x2, x3, x4⟩ := bk5 kx8
      obtain ⟨y0, y1, y2, y3, y4⟩ := bk5 kr8
      have rf := kr8.frozen; have rl := def_lt' kr8
      go_wp2
      have kz : Bk (((((w8.setCell ⟨w.heap.size, 0, none⟩ (.int .i64 5)).setCell ⟨w.heap.size, 1, none⟩ (.int .i64 at_)).setCell ⟨w.heap.size, 2, none⟩ (.int .i64 x)).setCell ⟨w.heap.size, 3, none⟩ (.int .i64 m)).setCell ⟨w.heap.size, 4, none⟩ (.string { data := #[] })) w.heap.size 189 #[.int .i64 5, .int .i64 at_, .int .i64 x, .int .i64 m, .string { data := #[] }] := ((((kr8.set_ 0 _).set_ 1 _).set_ 2 _).set_ 3 _).set_ 4 _
      obtain ⟨q0, q1, q2, q3, q4⟩ := bk5 kz
      have hbz : Below w.heap.size w (((((w8.setCell ⟨w.heap.size, 0, none⟩ (.int .i64 5)).setCell ⟨w.heap.size, 1, none⟩ (.int .i64 at_)).setCell ⟨w.heap.size, 2, none⟩ (.int .i64 x)).setCell ⟨w.heap.size, 3, none⟩ (.int .i64 m)).setCell ⟨w.heap.size, 4, none⟩ (.string { data := #[] })) := belowA
      exact bodyPost_ret (v := .tuple #[encS (⟨5, at_, x, m, { data := #[] }⟩ : Sg), .int .i64 (n8), .int .i64 (er)]) (by simp [results, Tryz.results192, go_sem, q0, q1, q2, q3, q4]) rfl ⟨⟨⟨5, at_, x, m, { data := #[] }⟩, n8, er, rfl, fun h => absurd h her⟩, hbz⟩
 ·have hB : (∃ h : k < s.size, ((s[k].toNat : Int) == 44) = false ∧ ((s[k].toNat : Int) == 125) = true ∧ ((s[k].toNat : Int) != 125) = false) ∨ ((∃ h : k < s.size, ((s[k].toNat : Int) == 44) = false ∧ ((s[k].toNat : Int) == 125) = false ∧ ((s[k].toNat : Int) != 125) = true) ∨ ¬ k < s.size) := by
   by_cases h : k < s.size
   ·have h2 : ((s[k].toNat : Int) == 44) = false := beq_false_of_ne (fun e => hcm ⟨h, by omega⟩)
    cases h3 : ((s[k].toNat : Int) == 125) with
    | true => exact .inl ⟨h, h2, h3, by rw [bne, h3]; rfl⟩
    | false => exact .inr (.inl ⟨h, h2, h3, by rw [bne, h3]; rfl⟩)
   ·exact .inr (.inr h)
  clear hcm
  rcases hB with ⟨hlt, hc44, hc125, hc125'⟩ | hB
  ·have e4 : (k : Int) < s.size := by omega
   have hxn : x ≠ 0 := fun e => hzz ⟨e, hlt, by rw [beq_iff_eq] at hc125; omega⟩
   have hx0 : (x == 0) = false := beq_false_of_ne hxn
   clear hzz
   obtain ⟨u0, u1, u2, u3, u4⟩ := bk5 kx1
   have uf := kx1.frozen
   go_upto_region 26 with fail
   have kr3 : Bk ((w1.setCell ⟨w.heap.size + 1, 2, none⟩ (.int .i64 x)).setCell ⟨w.heap.size + 1, 3, none⟩ (.int .i64 x)) w.heap.size 189 zeroS := ((kr1.far (p := ⟨w.heap.size + 1, 2, none⟩) (by simp) (.int .i64 x)).far (p := ⟨w.heap.size + 1, 3, none⟩) (by simp) (.int .i64 x))
   have kx3 : Bk ((w1.setCell ⟨w.heap.size + 1, 2, none⟩ (.int .i64 x)).setCell ⟨w.heap.size + 1, 3, none⟩ (.int .i64 x)) (w.heap.size + 1) 189 #[.int .i64 5, .int .i64 at_, .int .i64 x, .int .i64 x, .string { data := #[] }] := ((kx1.set_ 2 (.int .i64 x)).set_ 3 (.int .i64 x))
   have hb3 : Below w.heap.size w ((w1.setCell ⟨w.heap.size + 1, 2, none⟩ (.int .i64 x)).setCell ⟨w.heap.size + 1, 3, none⟩ (.int .i64 x)) := belowA
   generalize ((w1.setCell ⟨w.heap.size + 1, 2, none⟩ (.int .i64 x)).setCell ⟨w.heap.size + 1, 3, none⟩ (.int .i64 x)) = w3 at *
   clear u0 u1 u2 u3 u4
   have hz3 := hb3.size
   obtain ⟨x0, x1, x2, x3, x4⟩ := bk5 kx3
   obtain ⟨y0, y1, y2, y3, y4⟩ := bk5 kr3
   have rf := kr3.frozen; have rl := def_lt' kr3
   go_wp2
   have kz : Bk (((((w3.setCell ⟨w.heap.size, 0, none⟩ (.int .i64 5)).setCell ⟨w.heap.size, 1, none⟩ (.int .i64 at_)).setCell ⟨w.heap.size, 2, none⟩ (.int .i64 x)).setCell ⟨w.heap.size, 3, none⟩ (.int .i64 x)).setCell ⟨w.heap.size, 4, none⟩ (.string { data := #[] })) w.heap.size 189 #[.int .i64 5, .int .i64 at_, .int .i64 x, .int .i64 x, .string { data := #[] }] := ((((kr3.set_ 0 _).set_ 1 _).set_ 2 _).set_ 3 _).set_ 4 _
   obtain ⟨q0, q1, q2, q3, q4⟩ := bk5 kz
   have hbz : Below w.heap.size w (((((w3.setCell ⟨w.heap.size, 0, none⟩ (.int .i64 5)).setCell ⟨w.heap.size, 1, none⟩ (.int .i64 at_)).setCell ⟨w.heap.size, 2, none⟩ (.int .i64 x)).setCell ⟨w.heap.size, 3, none⟩ (.int .i64 x)).setCell ⟨w.heap.size, 4, none⟩ (.string { data := #[] })) := belowA
   exact bodyPost_ret (v := .tuple #[encS (⟨5, at_, x, x, { data := #[] }⟩ : Sg), .int .i64 ((k : Int) + 1), .int .i64 (0)]) (by simp [results, Tryz.results192, go_sem, q0, q1, q2, q3, q4]) rfl ⟨⟨⟨5, at_, x, x, { data := #[] }⟩, (k : Int) + 1, 0, rfl, fun _ => ⟨⟨by show (1 : Int) ≤ 5; omega, by show (5 : Int) ≤ 5; omega, by show (0 : Nat) ≤ 12; omega, by show 0 ≤ x; omega, by show x ≤ 20; omega, by show -1 ≤ x; omega, by show x ≤ 20; omega, fun _ => by show x ≠ 0; omega⟩, by omega, by omega⟩⟩, hbz⟩
  clear hzz
  rcases hB with ⟨hlt, hc44, hc125, hc125'⟩ | hge
  case' inl => have e4 : (k : Int) < s.size := by omega
  case' inr => have e4 : ¬ (k : Int) < s.size := by omega
  all_goals
   cases hx0 : (x == 0)
   all_goals
    obtain ⟨u0, u1, u2, u3, u4⟩ := bk5 kx1
    have uf := kx1.frozen
    go_wp2_with (go_at_call 221; fail)
    have kr3 : Bk ((w1.setCell ⟨w.heap.size + 1, 2, none⟩ (.int .i64 x)).setCell ⟨w.heap.size + 1, 3, none⟩ (.int .i64 x)) w.heap.size 189 zeroS := ((kr1.far (p := ⟨w.heap.size + 1, 2, none⟩) (by simp) (.int .i64 x)).far (p := ⟨w.heap.size + 1, 3, none⟩) (by simp) (.int .i64 x))
    have kx3 : Bk ((w1.setCell ⟨w.heap.size + 1, 2, none⟩ (.int .i64 x)).setCell ⟨w.heap.size + 1, 3, none⟩ (.int .i64 x)) (w.heap.size + 1) 189 #[.int .i64 5, .int .i64 at_, .int .i64 x, .int .i64 x, .string { data := #[] }] := ((kx1.set_ 2 (.int .i64 x)).set_ 3 (.int .i64 x))
    have hb3 : Below w.heap.size w ((w1.setCell ⟨w.heap.size + 1, 2, none⟩ (.int .i64 x)).setCell ⟨w.heap.size + 1, 3, none⟩ (.int .i64 x)) := belowA
    generalize ((w1.setCell ⟨w.heap.size + 1, 2, none⟩ (.int .i64 x)).setCell ⟨w.heap.size + 1, 3, none⟩ (.int .i64 x)) = w3 at *
    clear u0 u1 u2 u3 u4
    have hz3 := hb3.size
    refine (HWR.out w3 _).mono ?_
    rintro e w8 ⟨⟨n8, er, rfl, her⟩, hb8⟩
    have hb08 := (show Below w.heap.size w w3 from belowA).trans (hb8.mono (by have := def_lt' kr3; omega))
    have kr8 := kr3.ext hb8
    have kx8 := kx3.ext hb8
    obtain ⟨x0, x1, x2, x3, x4⟩ := bk5 kx8
    obtain ⟨y0, y1, y2, y3, y4⟩ := bk5 kr8
    have rf := kr8.frozen; have rl := def_lt' kr8
    go_wp2
    have kz : Bk (((((w8.setCell ⟨w.heap.size, 0, none⟩ (.int .i64 5)).setCell ⟨w.heap.size, 1, none⟩ (.int .i64 at_)).setCell ⟨w.heap.size, 2, none⟩ (.int .i64 x)).setCell ⟨w.heap.size, 3, none⟩ (.int .i64 x)).setCell ⟨w.heap.size, 4, none⟩ (.string { data := #[] })) w.heap.size 189 #[.int .i64 5, .int .i64 at_, .int .i64 x, .int .i64 x, .string { data := #[] }] := ((((kr8.set_ 0 _).set_ 1 _).set_ 2 _).set_ 3 _).set_ 4 _
    obtain ⟨q0, q1, q2, q3, q4⟩ := bk5 kz
    have hbz : Below w.heap.size w (((((w8.setCell ⟨w.heap.size, 0, none⟩ (.int .i64 5)).setCell ⟨w.heap.size, 1, none⟩ (.int .i64 at_)).setCell ⟨w.heap.size, 2, none⟩ (.int .i64 x)).setCell ⟨w.heap.size, 3, none⟩ (.int .i64 x)).setCell ⟨w.heap.size, 4, none⟩ (.string { data := #[] })) := belowA
    exact bodyPost_ret (v := .tuple #[encS (⟨5, at_, x, x, { data := #[] }⟩ : Sg), .int .i64 (n8), .int .i64 (er)]) (by simp [results, Tryz.results192, go_sem, q0, q1, q2, q3, q4]) rfl ⟨⟨⟨5, at_, x, x, { data := #[] }⟩, n8, er, rfl, fun h => absurd h her⟩, hbz⟩
theorem one_any (s : ByteArray) (at_ : Nat) (w : World) (hs : s.size ≤ 10000000) (ha : at_ < s.size) : Calls Tryz.prog 149 #[.string s, .int .i64 at_] w (SgOut s.size at_ w) := by
 have ha1 : (at_ : Int) < s.size := by omega
 have hsm := fun W (hb : Below w.heap.size w W) (c : Int) => calls_on hb (small_any c W)
 have hdg := fun W (hb : Below w.heap.size w W) (c : Int) => calls_on hb (digit_any c W)
 have HSM := Lib.hid hsm
 have HDG := Lib.hid hdg
 have hct := fun W => count_any s at_ W hs ha
 have HCT := Lib.hid hct
 clear hsm hdg hct
 go_enter Tryz.func149, Tryz.ntmps149
 go_wp2_with (go_at_call 190; fail)
 have kr := Bk.new w 189 zeroS
 have hb0 : Below w.heap.size w (w.alloc (.cells zeroS 189)) := belowA
 generalize w.alloc (.cells zeroS 189) = w0 at *
 refine (HSM.out w0 hb0 _).mono ?_
 rintro e w1 ⟨rfl, hb01, hz1, hb1⟩
 have kr1 := kr.ext hb1
 have hl1 := def_lt' kr1
 clear kr hb0 hb1
 cases hsb : smallB (s[at_].toNat : Int) with
 | false =>
   clear HSM HDG
   by_cases h40 : ((s[at_].toNat : Int) == 40) = true
   ·obtain ⟨y0, y1, y2, y3, y4⟩ := bk5 kr1
    have rf := kr1.frozen; have rl := def_lt' kr1
    go_wp2
    have kz : Bk (((((w1.setCell ⟨w.heap.size, 0, none⟩ (.int .i64 2)).setCell ⟨w.heap.size, 1, none⟩ (.int .i64 at_)).setCell ⟨w.heap.size, 2, none⟩ (.int .i64 0)).setCell ⟨w.heap.size, 3, none⟩ (.int .i64 0)).setCell ⟨w.heap.size, 4, none⟩ (.string { data := #[] })) w.heap.size 189 #[.int .i64 2, .int .i64 at_, .int .i64 0, .int .i64 0, .string { data := #[] }] := ((((kr1.set_ 0 _).set_ 1 _).set_ 2 _).set_ 3 _).set_ 4 _
    obtain ⟨q0, q1, q2, q3, q4⟩ := bk5 kz
    have hbz : Below w.heap.size w (((((w1.setCell ⟨w.heap.size, 0, none⟩ (.int .i64 2)).setCell ⟨w.heap.size, 1, none⟩ (.int .i64 at_)).setCell ⟨w.heap.size, 2, none⟩ (.int .i64 0)).setCell ⟨w.heap.size, 3, none⟩ (.int .i64 0)).setCell ⟨w.heap.size, 4, none⟩ (.string { data := #[] })) := belowA
    exact bodyPost_ret (v := .tuple #[encS (⟨2, at_, 0, 0, { data := #[] }⟩ : Sg), .int .i64 ((at_ : Int) + 1), .int .i64 (0)]) (by simp [results, Tryz.results149, go_sem, q0, q1, q2, q3, q4]) rfl ⟨⟨⟨2, at_, 0, 0, { data := #[] }⟩, (at_ : Int) + 1, 0, rfl, fun _ => ⟨⟨by show (1 : Int) ≤ 2; omega, by show (2 : Int) ≤ 5; omega, by show (0 : Nat) ≤ 12; omega, by show (0 : Int) ≤ 0; omega, by show (0 : Int) ≤ 20; omega, by show (-1 : Int) ≤ 0; omega, by show (0 : Int) ≤ 20; omega, fun h => by first | (exfalso; revert h; show (2 : Int) = 5 → False; omega) | (show (0 : Int) ≠ 0; omega)⟩, by omega, by omega⟩⟩, hbz⟩
   replace h40 : ((s[at_].toNat : Int) == 40) = false := by simpa using h40
   by_cases h41 : ((s[at_].toNat : Int) == 41) = true
   ·obtain ⟨y0, y1, y2, y3, y4⟩ := bk5 kr1
    have rf := kr1.frozen; have rl := def_lt' kr1
    go_wp2
    have kz : Bk (((((w1.setCell ⟨w.heap.size, 0, none⟩ (.int .i64 3)).setCell ⟨w.heap.size, 1, none⟩ (.int .i64 at_)).setCell ⟨w.heap.size, 2, none⟩ (.int .i64 0)).setCell ⟨w.heap.size, 3, none⟩ (.int .i64 0)).setCell ⟨w.heap.size, 4, none⟩ (.string { data := #[] })) w.heap.size 189 #[.int .i64 3, .int .i64 at_, .int .i64 0, .int .i64 0, .string { data := #[] }] := ((((kr1.set_ 0 _).set_ 1 _).set_ 2 _).set_ 3 _).set_ 4 _
    obtain ⟨q0, q1, q2, q3, q4⟩ := bk5 kz
    have hbz : Below w.heap.size w (((((w1.setCell ⟨w.heap.size, 0, none⟩ (.int .i64 3)).setCell ⟨w.heap.size, 1, none⟩ (.int .i64 at_)).setCell ⟨w.heap.size, 2, none⟩ (.int .i64 0)).setCell ⟨w.heap.size, 3, none⟩ (.int .i64 0)).setCell ⟨w.heap.size, 4, none⟩ (.string { data := #[] })) := belowA
    exact bodyPost_ret (v := .tuple #[encS (⟨3, at_, 0, 0, { data := #[] }⟩ : Sg), .int .i64 ((at_ : Int) + 1), .int .i64 (0)]) (by simp [results, Tryz.results149, go_sem, q0, q1, q2, q3, q4]) rfl ⟨⟨⟨3, at_, 0, 0, { data := #[] }⟩, (at_ : Int) + 1, 0, rfl, fun _ => ⟨⟨by show (1 : Int) ≤ 3; omega, by show (3 : Int) ≤ 5; omega, by show (0 : Nat) ≤ 12; omega, by show (0 : Int) ≤ 0; omega, by show (0 : Int) ≤ 20; omega, by show (-1 : Int) ≤ 0; omega, by show (0 : Int) ≤ 20; omega, fun h => by first | (exfalso; revert h; show (3 : Int) = 5 → False; omega) | (show (0 : Int) ≠ 0; omega)⟩, by omega, by omega⟩⟩, hbz⟩
   replace h41 : ((s[at_].toNat : Int) == 41) = false := by simpa using h41
   by_cases h124 : ((s[at_].toNat : Int) == 124) = true
   ·obtain ⟨y0, y1, y2, y3, y4⟩ := bk5 kr1
    have rf := kr1.frozen; have rl := def_lt' kr1
    go_wp2
    have kz : Bk (((((w1.setCell ⟨w.heap.size, 0, none⟩ (.int .i64 4)).setCell ⟨w.heap.size, 1, none⟩ (.int .i64 at_)).setCell ⟨w.heap.size, 2, none⟩ (.int .i64 0)).setCell ⟨w.heap.size, 3, none⟩ (.int .i64 0)).setCell ⟨w.heap.size, 4, none⟩ (.string { data := #[] })) w.heap.size 189 #[.int .i64 4, .int .i64 at_, .int .i64 0, .int .i64 0, .string { data := #[] }] := ((((kr1.set_ 0 _).set_ 1 _).set_ 2 _).set_ 3 _).set_ 4 _
    obtain ⟨q0, q1, q2, q3, q4⟩ := bk5 kz
    have hbz : Below w.heap.size w (((((w1.setCell ⟨w.heap.size, 0, none⟩ (.int .i64 4)).setCell ⟨w.heap.size, 1, none⟩ (.int .i64 at_)).setCell ⟨w.heap.size, 2, none⟩ (.int .i64 0)).setCell ⟨w.heap.size, 3, none⟩ (.int .i64 0)).setCell ⟨w.heap.size, 4, none⟩ (.string { data := #[] })) := belowA
    exact bodyPost_ret (v := .tuple #[encS (⟨4, at_, 0, 0, { data := #[] }⟩ : Sg), .int .i64 ((at_ : Int) + 1), .int .i64 (0)]) (by simp [results, Tryz.results149, go_sem, q0, q1, q2, q3, q4]) rfl ⟨⟨⟨4, at_, 0, 0, { data := #[] }⟩, (at_ : Int) + 1, 0, rfl, fun _ => ⟨⟨by show (1 : Int) ≤ 4; omega, by show (4 : Int) ≤ 5; omega, by show (0 : Nat) ≤ 12; omega, by show (0 : Int) ≤ 0; omega, by show (0 : Int) ≤ 20; omega, by show (-1 : Int) ≤ 0; omega, by show (0 : Int) ≤ 20; omega, fun h => by first | (exfalso; revert h; show (4 : Int) = 5 → False; omega) | (show (0 : Int) ≠ 0; omega)⟩, by omega, by omega⟩⟩, hbz⟩
   replace h124 : ((s[at_].toNat : Int) == 124) = false := by simpa using h124
   by_cases h42 : ((s[at_].toNat : Int) == 42) = true
   ·obtain ⟨y0, y1, y2, y3, y4⟩ := bk5 kr1
    have rf := kr1.frozen; have rl := def_lt' kr1
    go_wp2
    have kz : Bk (((((w1.setCell ⟨w.heap.size, 0, none⟩ (.int .i64 5)).setCell ⟨w.heap.size, 1, none⟩ (.int .i64 at_)).setCell ⟨w.heap.size, 2, none⟩ (.int .i64 0)).setCell ⟨w.heap.size, 3, none⟩ (.int .i64 (-1))).setCell ⟨w.heap.size, 4, none⟩ (.string { data := #[] })) w.heap.size 189 #[.int .i64 5, .int .i64 at_, .int .i64 0, .int .i64 (-1), .string { data := #[] }] := ((((kr1.set_ 0 _).set_ 1 _).set_ 2 _).set_ 3 _).set_ 4 _
    obtain ⟨q0, q1, q2, q3, q4⟩ := bk5 kz
    have hbz : Below w.heap.size w (((((w1.setCell ⟨w.heap.size, 0, none⟩ (.int .i64 5)).setCell ⟨w.heap.size, 1, none⟩ (.int .i64 at_)).setCell ⟨w.heap.size, 2, none⟩ (.int .i64 0)).setCell ⟨w.heap.size, 3, none⟩ (.int .i64 (-1))).setCell ⟨w.heap.size, 4, none⟩ (.string { data := #[] })) := belowA
    exact bodyPost_ret (v := .tuple #[encS (⟨5, at_, 0, (-1), { data := #[] }⟩ : Sg), .int .i64 ((at_ : Int) + 1), .int .i64 (0)]) (by simp [results, Tryz.results149, go_sem, q0, q1, q2, q3, q4]) rfl ⟨⟨⟨5, at_, 0, (-1), { data := #[] }⟩, (at_ : Int) + 1, 0, rfl, fun _ => ⟨⟨by show (1 : Int) ≤ 5; omega, by show (5 : Int) ≤ 5; omega, by show (0 : Nat) ≤ 12; omega, by show (0 : Int) ≤ 0; omega, by show (0 : Int) ≤ 20; omega, by show (-1 : Int) ≤ (-1); omega, by show ((-1) : Int) ≤ 20; omega, fun h => by first | (exfalso; revert h; show (5 : Int) = 5 → False; omega) | (show ((-1) : Int) ≠ 0; omega)⟩, by omega, by omega⟩⟩, hbz⟩
   replace h42 : ((s[at_].toNat : Int) == 42) = false := by simpa using h42
   by_cases h43 : ((s[at_].toNat : Int) == 43) = true
   ·obtain ⟨y0, y1, y2, y3, y4⟩ := bk5 kr1
    have rf := kr1.frozen; have rl := def_lt' kr1
    go_wp2
    have kz : Bk (((((w1.setCell ⟨w.heap.size, 0, none⟩ (.int .i64 5)).setCell ⟨w.heap.size, 1, none⟩ (.int .i64 at_)).setCell ⟨w.heap.size, 2, none⟩ (.int .i64 1)).setCell ⟨w.heap.size, 3, none⟩ (.int .i64 (-1))).setCell ⟨w.heap.size, 4, none⟩ (.string { data := #[] })) w.heap.size 189 #[.int .i64 5, .int .i64 at_, .int .i64 1, .int .i64 (-1), .string { data := #[] }] := ((((kr1.set_ 0 _).set_ 1 _).set_ 2 _).set_ 3 _).set_ 4 _
    obtain ⟨q0, q1, q2, q3, q4⟩ := bk5 kz
    have hbz : Below w.heap.size w (((((w1.setCell ⟨w.heap.size, 0, none⟩ (.int .i64 5)).setCell ⟨w.heap.size, 1, none⟩ (.int .i64 at_)).setCell ⟨w.heap.size, 2, none⟩ (.int .i64 1)).setCell ⟨w.heap.size, 3, none⟩ (.int .i64 (-1))).setCell ⟨w.heap.size, 4, none⟩ (.string { data := #[] })) := belowA
    exact bodyPost_ret (v := .tuple #[encS (⟨5, at_, 1, (-1), { data := #[] }⟩ : Sg), .int .i64 ((at_ : Int) + 1), .int .i64 (0)]) (by simp [results, Tryz.results149, go_sem, q0, q1, q2, q3, q4]) rfl ⟨⟨⟨5, at_, 1, (-1), { data := #[] }⟩, (at_ : Int) + 1, 0, rfl, fun _ => ⟨⟨by show (1 : Int) ≤ 5; omega, by show (5 : Int) ≤ 5; omega, by show (0 : Nat) ≤ 12; omega, by show (0 : Int) ≤ 1; omega, by show (1 : Int) ≤ 20; omega, by show (-1 : Int) ≤ (-1); omega, by show ((-1) : Int) ≤ 20; omega, fun h => by first | (exfalso; revert h; show (5 : Int) = 5 → False; omega) | (show ((-1) : Int) ≠ 0; omega)⟩, by omega, by omega⟩⟩, hbz⟩
   replace h43 : ((s[at_].toNat : Int) == 43) = false := by simpa using h43
   by_cases h63 : ((s[at_].toNat : Int) == 63) = true
   ·obtain ⟨y0, y1, y2, y3, y4⟩ := bk5 kr1
    have rf := kr1.frozen; have rl := def_lt' kr1
    go_wp2
    have kz : Bk (((((w1.setCell ⟨w.heap.size, 0, none⟩ (.int .i64 5)).setCell ⟨w.heap.size, 1, none⟩ (.int .i64 at_)).setCell ⟨w.heap.size, 2, none⟩ (.int .i64 0)).setCell ⟨w.heap.size, 3, none⟩ (.int .i64 1)).setCell ⟨w.heap.size, 4, none⟩ (.string { data := #[] })) w.heap.size 189 #[.int .i64 5, .int .i64 at_, .int .i64 0, .int .i64 1, .string { data := #[] }] := ((((kr1.set_ 0 _).set_ 1 _).set_ 2 _).set_ 3 _).set_ 4 _
    obtain ⟨q0, q1, q2, q3, q4⟩ := bk5 kz
    have hbz : Below w.heap.size w (((((w1.setCell ⟨w.heap.size, 0, none⟩ (.int .i64 5)).setCell ⟨w.heap.size, 1, none⟩ (.int .i64 at_)).setCell ⟨w.heap.size, 2, none⟩ (.int .i64 0)).setCell ⟨w.heap.size, 3, none⟩ (.int .i64 1)).setCell ⟨w.heap.size, 4, none⟩ (.string { data := #[] })) := belowA
    exact bodyPost_ret (v := .tuple #[encS (⟨5, at_, 0, 1, { data := #[] }⟩ : Sg), .int .i64 ((at_ : Int) + 1), .int .i64 (0)]) (by simp [results, Tryz.results149, go_sem, q0, q1, q2, q3, q4]) rfl ⟨⟨⟨5, at_, 0, 1, { data := #[] }⟩, (at_ : Int) + 1, 0, rfl, fun _ => ⟨⟨by show (1 : Int) ≤ 5; omega, by show (5 : Int) ≤ 5; omega, by show (0 : Nat) ≤ 12; omega, by show (0 : Int) ≤ 0; omega, by show (0 : Int) ≤ 20; omega, by show (-1 : Int) ≤ 1; omega, by show (1 : Int) ≤ 20; omega, fun h => by first | (exfalso; revert h; show (5 : Int) = 5 → False; omega) | (show (1 : Int) ≠ 0; omega)⟩, by omega, by omega⟩⟩, hbz⟩
   replace h63 : ((s[at_].toNat : Int) == 63) = false := by simpa using h63
   by_cases h123 : ((s[at_].toNat : Int) == 123) = true
   ·go_wp2_with (go_at_call 192; fail)
    refine (HCT.out w1).mono ?_
    rintro e w2 ⟨⟨⟨gk, ga, gl, gh, gn⟩, q, er, rfl, hok⟩, hb2⟩
    have kr2 := kr1.ext hb2
    have hb02 := hb01.trans (hb2.mono hz1)
    obtain ⟨y0, y1, y2, y3, y4⟩ := bk5 kr2
    have rf := kr2.frozen; have rl := def_lt' kr2
    go_wp2
    have kz : Bk (((((w2.setCell ⟨w.heap.size, 0, none⟩ (.int .i64 gk)).setCell ⟨w.heap.size, 1, none⟩ (.int .i64 ga)).setCell ⟨w.heap.size, 2, none⟩ (.int .i64 gl)).setCell ⟨w.heap.size, 3, none⟩ (.int .i64 gh)).setCell ⟨w.heap.size, 4, none⟩ (.string gn)) w.heap.size 189 #[.int .i64 gk, .int .i64 ga, .int .i64 gl, .int .i64 gh, .string gn] := ((((kr2.set_ 0 _).set_ 1 _).set_ 2 _).set_ 3 _).set_ 4 _
    obtain ⟨q0, q1, q2, q3, q4⟩ := bk5 kz
    have hbz : Below w.heap.size w (((((w2.setCell ⟨w.heap.size, 0, none⟩ (.int .i64 gk)).setCell ⟨w.heap.size, 1, none⟩ (.int .i64 ga)).setCell ⟨w.heap.size, 2, none⟩ (.int .i64 gl)).setCell ⟨w.heap.size, 3, none⟩ (.int .i64 gh)).setCell ⟨w.heap.size, 4, none⟩ (.string gn)) := belowA
    exact bodyPost_ret (v := .tuple #[encS (⟨gk, ga, gl, gh, gn⟩ : Sg), .int .i64 (q), .int .i64 (er)]) (by simp [results, Tryz.results149, go_sem, q0, q1, q2, q3, q4]) rfl ⟨⟨⟨gk, ga, gl, gh, gn⟩, q, er, rfl, hok⟩, hbz⟩
   replace h123 : ((s[at_].toNat : Int) == 123) = false := by simpa using h123
   obtain ⟨y0, y1, y2, y3, y4⟩ := bk5 kr1
   have rf := kr1.frozen; have rl := def_lt' kr1
   go_wp2
   have kz : Bk (((((w1.setCell ⟨w.heap.size, 0, none⟩ (.int .i64 0)).setCell ⟨w.heap.size, 1, none⟩ (.int .i64 0)).setCell ⟨w.heap.size, 2, none⟩ (.int .i64 0)).setCell ⟨w.heap.size, 3, none⟩ (.int .i64 0)).setCell ⟨w.heap.size, 4, none⟩ (.string { data := #[] })) w.heap.size 189 #[.int .i64 0, .int .i64 0, .int .i64 0, .int .i64 0, .string { data := #[] }] := ((((kr1.set_ 0 _).set_ 1 _).set_ 2 _).set_ 3 _).set_ 4 _
   obtain ⟨q0, q1, q2, q3, q4⟩ := bk5 kz
   have hbz : Below w.heap.size w (((((w1.setCell ⟨w.heap.size, 0, none⟩ (.int .i64 0)).setCell ⟨w.heap.size, 1, none⟩ (.int .i64 0)).setCell ⟨w.heap.size, 2, none⟩ (.int .i64 0)).setCell ⟨w.heap.size, 3, none⟩ (.int .i64 0)).setCell ⟨w.heap.size, 4, none⟩ (.string { data := #[] })) := belowA
   exact bodyPost_ret (v := .tuple #[encS (⟨0, 0, 0, 0, { data := #[] }⟩ : Sg), .int .i64 ((at_ : Int)), .int .i64 (2)]) (by simp [results, Tryz.results149, go_sem, q0, q1, q2, q3, q4]) rfl ⟨⟨⟨0, 0, 0, 0, { data := #[] }⟩, (at_ : Int), 2, rfl, fun h => absurd h (by omega)⟩, hbz⟩
 | true =>
   go_wp2
   go_loopw [8] (fun j wr => ∃ k : Nat, at_ ≤ k ∧ k ≤ at_ + 12 ∧ k ≤ s.size ∧ j = .int .i64 k ∧ Below w.heap.size w wr ∧ Bk wr w.heap.size 189 zeroS) (fun j _ => s.size - (intOf j).toNat)
   case atStart => exact ⟨at_, by omega, by omega, by omega, rfl, hb01, kr1⟩
   case round =>
    clear kr1 hb01 hz1 hl1
    obtain ⟨k, hk1, hk2, hk3, rfl, hbr, kr⟩ := hrel
    have hz := hbr.size
    by_cases hlt : k < s.size
    ·have e3 : (k : Int) < s.size := by omega
     go_wp2_with (go_at_call 190; fail)
     refine (HSM.out wr hbr _).mono ?_
     rintro e w2 ⟨rfl, hb02, hz2, hb2⟩
     have kr2 := kr.ext hb2
     cases hs2 : smallB (s[k].toNat : Int) with
     | true =>
       by_cases h12 : k = at_ + 12
       ·have h12' : ((k : Int) - at_ == 12) = true := by rw [beq_iff_eq]; omega
        clear h12
        obtain ⟨y0, y1, y2, y3, y4⟩ := bk5 kr2
        have rf := kr2.frozen; have rl := def_lt' kr2
        go_wp2
        have kz : Bk (((((w2.setCell ⟨w.heap.size, 0, none⟩ (.int .i64 0)).setCell ⟨w.heap.size, 1, none⟩ (.int .i64 0)).setCell ⟨w.heap.size, 2, none⟩ (.int .i64 0)).setCell ⟨w.heap.size, 3, none⟩ (.int .i64 0)).setCell ⟨w.heap.size, 4, none⟩ (.string { data := #[] })) w.heap.size 189 #[.int .i64 0, .int .i64 0, .int .i64 0, .int .i64 0, .string { data := #[] }] := ((((kr2.set_ 0 _).set_ 1 _).set_ 2 _).set_ 3 _).set_ 4 _
        obtain ⟨q0, q1, q2, q3, q4⟩ := bk5 kz
        have hbz : Below w.heap.size w (((((w2.setCell ⟨w.heap.size, 0, none⟩ (.int .i64 0)).setCell ⟨w.heap.size, 1, none⟩ (.int .i64 0)).setCell ⟨w.heap.size, 2, none⟩ (.int .i64 0)).setCell ⟨w.heap.size, 3, none⟩ (.int .i64 0)).setCell ⟨w.heap.size, 4, none⟩ (.string { data := #[] })) := belowA
        exact bodyPost_ret (v := .tuple #[encS (⟨0, 0, 0, 0, { data := #[] }⟩ : Sg), .int .i64 ((k : Int)), .int .i64 (2)]) (by simp [results, Tryz.results149, go_sem, q0, q1, q2, q3, q4]) rfl ⟨⟨⟨0, 0, 0, 0, { data := #[] }⟩, (k : Int), 2, rfl, fun h => absurd h (by omega)⟩, hbz⟩
       have h12' : ((k : Int) - at_ == 12) = false := beq_false_of_ne (by omega)
       go_wp2
       go_roundw
       case rel => exact ⟨k + 1, by omega, by omega, by omega, by go_num, hb02, kr2⟩
       case measure => simp [intOf]; omega
     | false =>
       have hne : k ≠ at_ := by
        rintro rfl
        rw [hsb] at hs2
        cases hs2
       go_wp2_with (go_at_call 191; fail)
       refine (HDG.out w2 hb02 _).mono ?_
       rintro e w3 ⟨rfl, hb03, hz3, hb3⟩
       have kr3 := kr2.ext hb3
       cases hd2 : digitB (s[k].toNat : Int) with
       | true =>
         by_cases h12 : k = at_ + 12
         ·have h12' : ((k : Int) - at_ == 12) = true := by rw [beq_iff_eq]; omega
          clear h12
          obtain ⟨y0, y1, y2, y3, y4⟩ := bk5 kr3
          have rf := kr3.frozen; have rl := def_lt' kr3
          go_wp2
          have kz : Bk (((((w3.setCell ⟨w.heap.size, 0, none⟩ (.int .i64 0)).setCell ⟨w.heap.size, 1, none⟩ (.int .i64 0)).setCell ⟨w.heap.size, 2, none⟩ (.int .i64 0)).setCell ⟨w.heap.size, 3, none⟩ (.int .i64 0)).setCell ⟨w.heap.size, 4, none⟩ (.string { data := #[] })) w.heap.size 189 #[.int .i64 0, .int .i64 0, .int .i64 0, .int .i64 0, .string { data := #[] }] := ((((kr3.set_ 0 _).set_ 1 _).set_ 2 _).set_ 3 _).set_ 4 _
          obtain ⟨q0, q1, q2, q3, q4⟩ := bk5 kz
          have hbz : Below w.heap.size w (((((w3.setCell ⟨w.heap.size, 0, none⟩ (.int .i64 0)).setCell ⟨w.heap.size, 1, none⟩ (.int .i64 0)).setCell ⟨w.heap.size, 2, none⟩ (.int .i64 0)).setCell ⟨w.heap.size, 3, none⟩ (.int .i64 0)).setCell ⟨w.heap.size, 4, none⟩ (.string { data := #[] })) := belowA
          exact bodyPost_ret (v := .tuple #[encS (⟨0, 0, 0, 0, { data := #[] }⟩ : Sg), .int .i64 ((k : Int)), .int .i64 (2)]) (by simp [results, Tryz.results149, go_sem, q0, q1, q2, q3, q4]) rfl ⟨⟨⟨0, 0, 0, 0, { data := #[] }⟩, (k : Int), 2, rfl, fun h => absurd h (by omega)⟩, hbz⟩
         have h12' : ((k : Int) - at_ == 12) = false := beq_false_of_ne (by omega)
         go_wp2
         go_roundw
         case rel => exact ⟨k + 1, by omega, by omega, by omega, by go_num, hb03, kr3⟩
         case measure => simp [intOf]; omega
       | false =>
         have hex : (s.extract at_ k).size ≤ 12 := by rw [ByteArray.size_extract]; omega
         have HEX := Lib.hid hex
         have f1 : (at_ : Int) ≤ k := by omega
         have f2 : (k : Int) ≤ s.size := by omega
         clear hex
         obtain ⟨y0, y1, y2, y3, y4⟩ := bk5 kr3
         have rf := kr3.frozen; have rl := def_lt' kr3
         go_wp2
         have kz : Bk (((((w3.setCell ⟨w.heap.size, 0, none⟩ (.int .i64 1)).setCell ⟨w.heap.size, 1, none⟩ (.int .i64 at_)).setCell ⟨w.heap.size, 2, none⟩ (.int .i64 0)).setCell ⟨w.heap.size, 3, none⟩ (.int .i64 0)).setCell ⟨w.heap.size, 4, none⟩ (.string (s.extract at_ k))) w.heap.size 189 #[.int .i64 1, .int .i64 at_, .int .i64 0, .int .i64 0, .string (s.extract at_ k)] := ((((kr3.set_ 0 _).set_ 1 _).set_ 2 _).set_ 3 _).set_ 4 _
         obtain ⟨q0, q1, q2, q3, q4⟩ := bk5 kz
         have hbz : Below w.heap.size w (((((w3.setCell ⟨w.heap.size, 0, none⟩ (.int .i64 1)).setCell ⟨w.heap.size, 1, none⟩ (.int .i64 at_)).setCell ⟨w.heap.size, 2, none⟩ (.int .i64 0)).setCell ⟨w.heap.size, 3, none⟩ (.int .i64 0)).setCell ⟨w.heap.size, 4, none⟩ (.string (s.extract at_ k))) := belowA
         exact bodyPost_ret (v := .tuple #[encS (⟨1, at_, 0, 0, (s.extract at_ k)⟩ : Sg), .int .i64 ((k : Int)), .int .i64 (0)]) (by simp [results, Tryz.results149, go_sem, q0, q1, q2, q3, q4]) rfl ⟨⟨⟨1, at_, 0, 0, (s.extract at_ k)⟩, (k : Int), 0, rfl, fun _ => ⟨⟨by show (1 : Int) ≤ 1; omega, by show (1 : Int) ≤ 5; omega, HEX.out, by show (0 : Int) ≤ 0; omega, by show (0 : Int) ≤ 20; omega, by show (-1 : Int) ≤ 0; omega, by show (0 : Int) ≤ 20; omega, fun h => by exfalso; revert h; show (1 : Int) = 5 → False; omega⟩, by omega, by omega⟩⟩, hbz⟩
    ·have e3 : ¬ (k : Int) < s.size := by omega
     have hex : (s.extract at_ k).size ≤ 12 := by rw [ByteArray.size_extract]; omega
     have HEX := Lib.hid hex
     have f1 : (at_ : Int) ≤ k := by omega
     have f2 : (k : Int) ≤ s.size := by omega
     clear hex
     obtain ⟨y0, y1, y2, y3, y4⟩ := bk5 kr
     have rf := kr.frozen; have rl := def_lt' kr
     go_wp2
     have kz : Bk (((((wr.setCell ⟨w.heap.size, 0, none⟩ (.int .i64 1)).setCell ⟨w.heap.size, 1, none⟩ (.int .i64 at_)).setCell ⟨w.heap.size, 2, none⟩ (.int .i64 0)).setCell ⟨w.heap.size, 3, none⟩ (.int .i64 0)).setCell ⟨w.heap.size, 4, none⟩ (.string (s.extract at_ k))) w.heap.size 189 #[.int .i64 1, .int .i64 at_, .int .i64 0, .int .i64 0, .string (s.extract at_ k)] := ((((kr.set_ 0 _).set_ 1 _).set_ 2 _).set_ 3 _).set_ 4 _
     obtain ⟨q0, q1, q2, q3, q4⟩ := bk5 kz
     have hbz : Below w.heap.size w (((((wr.setCell ⟨w.heap.size, 0, none⟩ (.int .i64 1)).setCell ⟨w.heap.size, 1, none⟩ (.int .i64 at_)).setCell ⟨w.heap.size, 2, none⟩ (.int .i64 0)).setCell ⟨w.heap.size, 3, none⟩ (.int .i64 0)).setCell ⟨w.heap.size, 4, none⟩ (.string (s.extract at_ k))) := belowA
     exact bodyPost_ret (v := .tuple #[encS (⟨1, at_, 0, 0, (s.extract at_ k)⟩ : Sg), .int .i64 ((k : Int)), .int .i64 (0)]) (by simp [results, Tryz.results149, go_sem, q0, q1, q2, q3, q4]) rfl ⟨⟨⟨1, at_, 0, 0, (s.extract at_ k)⟩, (k : Int), 0, rfl, fun _ => ⟨⟨by show (1 : Int) ≤ 1; omega, by show (1 : Int) ≤ 5; omega, HEX.out, by show (0 : Int) ≤ 0; omega, by show (0 : Int) ≤ 20; omega, by show (-1 : Int) ≤ 0; omega, by show (0 : Int) ≤ 20; omega, fun h => by exfalso; revert h; show (1 : Int) = 5 → False; omega⟩, by omega, by omega⟩⟩, hbz⟩
end Go.Proofs.YtmacfoebfpljoaaGreat
