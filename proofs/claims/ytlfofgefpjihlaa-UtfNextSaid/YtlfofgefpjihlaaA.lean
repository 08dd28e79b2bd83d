/- utf: small contracts: Right, Len, many, head -/
import Derived.Test.YtlfofgefpjihlaaRows
import Derived.Test.YtlfofgefpjihlaaW
namespace Go.Proofs.Ytlfofgefpjihlaa
open Go.RowKit

def right (r : Int) : Bool := decide (0 ≤ r ∧ r ≤ 1114111 ∧ (r < 55296 ∨ 57343 < r))

set_option maxHeartbeats 400000 in
theorem right_any (r : Int) (w : World) :
    Calls Try.prog 10 #[.int .i32 r] w fun e w' => e = .returned (.bool (right r)) ∧ w = w' := by
  go_enter Try.func10, Try.ntmps10
  go_wp2
  all_goals go_ret
  all_goals exact ⟨ret_bool (by rw [Bool.eq_iff_iff]; simp [right]; try omega), rfl⟩

set_option maxHeartbeats 400000 in
theorem rright_any (r : Int) (w : World) :
    Calls Try.prog 9 #[.int .i32 r] w fun e w' => e = .returned (.bool (right r)) ∧ w = w' := by
  go_enter Try.func9, Try.ntmps9
  go_wp2
  all_goals go_ret
  all_goals exact ⟨ret_bool (by rw [Bool.eq_iff_iff]; simp [right]; try omega), rfl⟩

def len (r : Int) : Nat := if right r then (if r ≤ 127 then 1 else if r ≤ 2047 then 2 else if r ≤ 65535 then 3 else 4) else 0

set_option maxHeartbeats 400000 in
theorem len_any (r : Int) (w : World) :
    Calls Try.prog 11 #[.int .i32 r] w fun e w' => e = .returned (.int .i64 (len r)) ∧ w = w' := by
  go_enter Try.func11, Try.ntmps11
  go_wp2_with (go_at_call 10; refine (right_any _ _).mono ?_; rintro e w' ⟨rfl, rfl⟩)
  all_goals go_ret
  all_goals refine ⟨ret_int ?_, rfl⟩
  all_goals simp_all [len]
  all_goals repeat' split
  all_goals first | rfl | omega

def many (c : Int) : Nat := if c < 128 then 1 else if c / 32 = 6 then 2 else if c / 16 = 14 then 3 else if c / 8 = 30 then 4 else 0

set_option maxHeartbeats 400000 in
theorem many_any (c : Int) (w : World) :
    Calls Try.prog 23 #[.int .u8 c] w fun e w' => e = .returned (.int .i64 (many c)) ∧ w = w' := by
  go_enter Try.func23, Try.ntmps23
  go_wp2
  all_goals go_ret
  all_goals refine ⟨ret_int ?_, rfl⟩
  all_goals (simp_all [many])
  all_goals repeat' split
  all_goals first | rfl | omega

def headOf : Nat → Int | 1 => 0 | 2 => 192 | 3 => 224 | 4 => 240 | _ => 0

set_option maxHeartbeats 400000 in
theorem head_any (n : Nat) (w : World) (h : 1 ≤ n) (h2 : n ≤ 4) :
    Calls Try.prog 24 #[.int .i64 n] w fun e w' => e = .returned (.int .u8 (headOf n)) ∧ w = w' := by
  obtain rfl | rfl | rfl | rfl : n = 1 ∨ n = 2 ∨ n = 3 ∨ n = 4 := by omega
  all_goals go_enter Try.func24, Try.ntmps24
  all_goals go_wp2
  all_goals go_ret
  all_goals refine ⟨ret_int ?_, rfl⟩
  all_goals rfl
end Go.Proofs.Ytlfofgefpjihlaa
