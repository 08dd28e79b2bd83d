/- smap: SmapTells whole -/
import Derived.Test.YtkkbmcpimglcpaaJ
namespace Go.Proofs.Ytkkbmcpimglcpaa
open Go.RowKit

theorem tells_any (A : Option Addr) (n c : Nat) (l : List Rg) (p side : Int) (w : World) (hn : n ≤ maxLen) (hrd : Rd w w.heap.size 3 A n (rgs l)) :
    Calls Try.prog 3 #[.slice A n c, .int .i64 p, .int .i64 side] w fun e w' => e = .returned (.bool true) ∧ Below w.heap.size w w' := by
  by_cases h60 : n ≤ 60
  · cases hr : rightM l with
    | false =>
      exact tells_way A n c l p side w h60 hrd 0 0 0 1 false false false (decide (0 ≤ p ∧ p ≤ 1099511627776)) hr rfl (by unfold tellS; rw [hr]; rfl) (by simp) (.inl (by simp))
    | true =>
      by_cases hp : 0 ≤ p ∧ p ≤ 1099511627776
      · exact tells_way A n c l p side w h60 hrd _ _ _ 0 _ _ true true hr (decide_eq_true hp) (by unfold tellS; rw [hr, if_pos rfl, if_pos hp]; rfl) (fun _ _ => rfl) (.inr (.inr ⟨rfl, rfl, hp.1, hp.2, rfl⟩))
      · exact tells_way A n c l p side w h60 hrd 0 0 0 3 false false true false hr (decide_eq_false hp) (by unfold tellS; rw [hr, if_pos rfl, if_neg hp]; rfl) (by simp) (.inr (.inl (by simp)))
  · unfold maxLen at hn
    have hLV := fun W (hb : Below w.heap.size w W) => calls_on hb (live23_any W)
    have HLV := Lib.hid hLV
    clear hLV hrd
    go_enter Try.func3, Try.ntmps3
    go_wp2_with (go_at_call 9; ((with_reducible refine (HLV.out _ (by repeat (first | with_reducible exact Below.refl _ _ | with_reducible assumption | (with_reducible refine below_drewN ?_ _) | (with_reducible refine Below.drew ?_) | (with_reducible refine Below.alloc ?_ ?_ _; rotate_left; first | with_reducible assumption | omega | (simp; done) | (simp; omega)) | (with_reducible refine Below.setCell ?_ ?_ _; rotate_left; first | with_reducible assumption | omega | (simp; done) | (simp; omega))))).mono ?_); rintro e w8 ⟨rfl, hb8, hz8, hx8⟩))
    go_ret
    exact ⟨rfl, hb8⟩
end Go.Proofs.Ytkkbmcpimglcpaa
