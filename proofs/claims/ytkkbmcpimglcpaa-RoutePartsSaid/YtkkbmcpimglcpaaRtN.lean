/- route: of nil nothing; At -/
import Derived.Test.YtkkbmcpimglcpaaRtM
namespace Go.Proofs.Ytkkbmcpimglcpaa
open Go.RowKit

section
variable (w : World)
set_option maxHeartbeats 400000 in
theorem nlen : Calls Try.prog 29 #[.pointer none] w fun e W' => e = .returned (.int .i64 0) ∧ w = W' := by
  go_enter Try.func29, Try.ntmps29
  go_wp2
  go_ret
  exact ⟨rfl, rfl⟩
set_option maxHeartbeats 400000 in
theorem nof : Calls Try.prog 28 #[.pointer none, .int .i64 0] w fun e W' => e = .returned (.tuple #[.int .i64 0, .bool false]) ∧ w = W' := by
  go_enter Try.func28, Try.ntmps28
  go_wp2_with (go_at_call 29; refine (nlen _).mono ?_; rintro e w1 ⟨rfl, rfl⟩)
  go_ret2
  exact ⟨rfl, rfl⟩
set_option maxHeartbeats 400000 in
theorem nat_ : Calls Try.prog 30 #[.pointer none, .int .i64 0] w fun e W' => e = .returned (.slice none 0 0) ∧ w = W' := by
  go_enter Try.func30, Try.ntmps30
  go_wp2_with (go_at_call 29; refine (nlen _).mono ?_; rintro e w1 ⟨rfl, rfl⟩)
  go_ret
  exact ⟨rfl, rfl⟩
set_option maxHeartbeats 400000 in
theorem nadd : Calls Try.prog 25 #[.pointer none, .slice none 0 0] w fun e W' => e = .returned (.int .i64 10) ∧ w = W' := by
  go_enter Try.func25, Try.ntmps25
  go_wp2
  go_ret
  exact ⟨rfl, rfl⟩
set_option maxHeartbeats 400000 in
theorem nmirror : Calls Try.prog 26 #[.pointer none, .slice none 0 0, .int .i64 0] w fun e W' => e = .returned (.int .i64 10) ∧ w = W' := by
  go_enter Try.func26, Try.ntmps26
  go_wp2
  go_ret
  exact ⟨rfl, rfl⟩
set_option maxHeartbeats 400000 in
theorem nfrom : Calls Try.prog 32 #[.pointer none, .int .i64 0] w fun e W' => e = .returned (.pointer none) ∧ Below w.heap.size w W' := by
  go_enter Try.func32, Try.ntmps32
  go_wp2
  go_ret
  exact ⟨rfl, by repeat (first | with_reducible exact Below.refl _ _ | with_reducible assumption | (with_reducible refine below_drewN ?_ _) | (with_reducible refine Below.drew ?_) | (with_reducible refine Below.alloc ?_ ?_ _; rotate_left; focus (first | with_reducible assumption | omega | (simp; done) | (simp; omega))) | (with_reducible refine Below.setCell ?_ ?_ _; rotate_left; focus (first | with_reducible assumption | omega | (simp; done) | (simp; omega))))⟩
set_option maxHeartbeats 400000 in
theorem ntell (p side : Int) : Calls Try.prog 27 #[.pointer none, .int .i64 p, .int .i64 side] w fun e W' => e = .returned (.tuple #[.agg #[.int .i64 0, .bool false, .bool false, .int .i64 0, .int .i64 0], .int .i64 10]) ∧ Below w.heap.size w W' := by
  go_enter Try.func27, Try.ntmps27
  go_wp2
  refine bodyPost_ret (v := .tuple #[.agg #[.int .i64 0, .bool false, .bool false, .int .i64 0, .int .i64 0], .int .i64 10]) (by simp [results, Try.results27, go_sem]) rfl ⟨rfl, by repeat (first | with_reducible exact Below.refl _ _ | with_reducible assumption | (with_reducible refine below_drewN ?_ _) | (with_reducible refine Below.drew ?_) | (with_reducible refine Below.alloc ?_ ?_ _; rotate_left; focus (first | with_reducible assumption | omega | (simp; done) | (simp; omega))) | (with_reducible refine Below.setCell ?_ ?_ _; rotate_left; focus (first | with_reducible assumption | omega | (simp; done) | (simp; omega))))⟩
set_option maxHeartbeats 400000 in
theorem nposition : Calls Try.prog 31 #[.pointer none, .int .i64 1, .int .i64 1] w fun e W' => e = .returned (.int .i64 0) ∧ Below w.heap.size w W' := by
  have ht := ntell w 1 1
  have HT := Lib.hid ht
  clear ht
  go_enter Try.func31, Try.ntmps31
  go_wp2_with (go_at_call 27; refine HT.out.mono ?_; rintro e w1 ⟨rfl, hb1⟩)
  go_ret
  exact ⟨rfl, hb1.alloc hb1.size _⟩
end
end Go.Proofs.Ytkkbmcpimglcpaa
