/- step: Same of steps -/
import Derived.Test.YtmacfoebfpljoaaStB
import Derived.Test.YtmacfoebfpljoaaQ
import Derived.Test.YtmacfoebfpljoaaP
namespace Go.Proofs.Ytmacfoebfpljoaa
open Go.RowKit

def eight (k f t g h i m v k2 f2 t2 g2 h2 i2 m2 v2 : Int) : Bool := decide (k = k2 ∧ f = f2 ∧ t = t2 ∧ g = g2 ∧ h = h2 ∧ i = i2 ∧ m = m2 ∧ v = v2)

set_option maxRecDepth 100000 in
set_option maxHeartbeats 4000000 in
theorem ssame_any (k f t g h i m v k2 f2 t2 g2 h2 i2 m2 v2 : Int) (A A' A2 A2' : Option Addr) (n n' n2 n2' c c' c2 c2' : Nat) (tb sb : Bool) (w : World)
    (hT : ∀ W, Below w.heap.size w W → Calls Try.prog 82 #[.slice A n c, .slice A2 n2 c2] W (On w W (.bool tb)))
    (hS : ∀ W, Below w.heap.size w W → Calls Try.prog 83 #[.slice A' n' c', .slice A2' n2' c2'] W (On w W (.bool sb))) :
    Calls Try.prog 81 #[.agg #[.int .i64 k, .int .i64 f, .int .i64 t, .int .i64 g, .int .i64 h, .int .i64 i, .int .i64 m, .int .i64 v, .slice A n c, .slice A' n' c'], .agg #[.int .i64 k2, .int .i64 f2, .int .i64 t2, .int .i64 g2, .int .i64 h2, .int .i64 i2, .int .i64 m2, .int .i64 v2, .slice A2 n2 c2, .slice A2' n2' c2']] w fun e w' => e = .returned (.bool (eight k f t g h i m v k2 f2 t2 g2 h2 i2 m2 v2 && tb && sb)) ∧ Below w.heap.size w w' := by
  have HT := Lib.hid hT
  have HS := Lib.hid hS
  clear hT hS
  by_cases e0 : k = k2
  rotate_left
  · have he : eight k f t g h i m v k2 f2 t2 g2 h2 i2 m2 v2 = false := by
      unfold eight
      exact decide_eq_false (fun hh => e0 hh.1)
    rw [he, Bool.false_and, Bool.false_and]
    clear he HT HS
    go_enter Try.func81, Try.ntmps81
    go_wp2
    go_ret
    exact ⟨rfl, by repeat (first | with_reducible exact Below.refl _ _ | with_reducible assumption | (with_reducible refine below_drewN ?_ _) | (with_reducible refine Below.drew ?_) | (with_reducible refine Below.alloc ?_ ?_ _; rotate_left; focus (first | with_reducible assumption | omega | (simp; done) | (simp; omega))) | (with_reducible refine Below.setCell ?_ ?_ _; rotate_left; focus (first | with_reducible assumption | omega | (simp; done) | (simp; omega))))⟩
  subst e0
  by_cases e1 : f = f2
  rotate_left
  · have he : eight k f t g h i m v k f2 t2 g2 h2 i2 m2 v2 = false := by
      unfold eight
      exact decide_eq_false (fun hh => e1 hh.2.1)
    rw [he, Bool.false_and, Bool.false_and]
    clear he HT HS
    go_enter Try.func81, Try.ntmps81
    go_wp2
    go_ret
    exact ⟨rfl, by repeat (first | with_reducible exact Below.refl _ _ | with_reducible assumption | (with_reducible refine below_drewN ?_ _) | (with_reducible refine Below.drew ?_) | (with_reducible refine Below.alloc ?_ ?_ _; rotate_left; focus (first | with_reducible assumption | omega | (simp; done) | (simp; omega))) | (with_reducible refine Below.setCell ?_ ?_ _; rotate_left; focus (first | with_reducible assumption | omega | (simp; done) | (simp; omega))))⟩
  subst e1
  by_cases e2 : t = t2
  rotate_left
  · have he : eight k f t g h i m v k f t2 g2 h2 i2 m2 v2 = false := by
      unfold eight
      exact decide_eq_false (fun hh => e2 hh.2.2.1)
    rw [he, Bool.false_and, Bool.false_and]
    clear he HT HS
    go_enter Try.func81, Try.ntmps81
    go_wp2
    go_ret
    exact ⟨rfl, by repeat (first | with_reducible exact Below.refl _ _ | with_reducible assumption | (with_reducible refine below_drewN ?_ _) | (with_reducible refine Below.drew ?_) | (with_reducible refine Below.alloc ?_ ?_ _; rotate_left; focus (first | with_reducible assumption | omega | (simp; done) | (simp; omega))) | (with_reducible refine Below.setCell ?_ ?_ _; rotate_left; focus (first | with_reducible assumption | omega | (simp; done) | (simp; omega))))⟩
  subst e2
  by_cases e3 : g = g2
  rotate_left
  · have he : eight k f t g h i m v k f t g2 h2 i2 m2 v2 = false := by
      unfold eight
      exact decide_eq_false (fun hh => e3 hh.2.2.2.1)
    rw [he, Bool.false_and, Bool.false_and]
    clear he HT HS
    go_enter Try.func81, Try.ntmps81
    go_wp2
    go_ret
    exact ⟨rfl, by repeat (first | with_reducible exact Below.refl _ _ | with_reducible assumption | (with_reducible refine below_drewN ?_ _) | (with_reducible refine Below.drew ?_) | (with_reducible refine Below.alloc ?_ ?_ _; rotate_left; focus (first | with_reducible assumption | omega | (simp; done) | (simp; omega))) | (with_reducible refine Below.setCell ?_ ?_ _; rotate_left; focus (first | with_reducible assumption | omega | (simp; done) | (simp; omega))))⟩
  subst e3
  by_cases e4 : h = h2
  rotate_left
  · have he : eight k f t g h i m v k f t g h2 i2 m2 v2 = false := by
      unfold eight
      exact decide_eq_false (fun hh => e4 hh.2.2.2.2.1)
    rw [he, Bool.false_and, Bool.false_and]
    clear he HT HS
    go_enter Try.func81, Try.ntmps81
    go_wp2
    go_ret
    exact ⟨rfl, by repeat (first | with_reducible exact Below.refl _ _ | with_reducible assumption | (with_reducible refine below_drewN ?_ _) | (with_reducible refine Below.drew ?_) | (with_reducible refine Below.alloc ?_ ?_ _; rotate_left; focus (first | with_reducible assumption | omega | (simp; done) | (simp; omega))) | (with_reducible refine Below.setCell ?_ ?_ _; rotate_left; focus (first | with_reducible assumption | omega | (simp; done) | (simp; omega))))⟩
  subst e4
  by_cases e5 : i = i2
  rotate_left
  · have he : eight k f t g h i m v k f t g h i2 m2 v2 = false := by
      unfold eight
      exact decide_eq_false (fun hh => e5 hh.2.2.2.2.2.1)
    rw [he, Bool.false_and, Bool.false_and]
    clear he HT HS
    go_enter Try.func81, Try.ntmps81
    go_wp2
    go_ret
    exact ⟨rfl, by repeat (first | with_reducible exact Below.refl _ _ | with_reducible assumption | (with_reducible refine below_drewN ?_ _) | (with_reducible refine Below.drew ?_) | (with_reducible refine Below.alloc ?_ ?_ _; rotate_left; focus (first | with_reducible assumption | omega | (simp; done) | (simp; omega))) | (with_reducible refine Below.setCell ?_ ?_ _; rotate_left; focus (first | with_reducible assumption | omega | (simp; done) | (simp; omega))))⟩
  subst e5
  by_cases e6 : m = m2
  rotate_left
  · have he : eight k f t g h i m v k f t g h i m2 v2 = false := by
      unfold eight
      exact decide_eq_false (fun hh => e6 hh.2.2.2.2.2.2.1)
    rw [he, Bool.false_and, Bool.false_and]
    clear he HT HS
    go_enter Try.func81, Try.ntmps81
    go_wp2
    go_ret
    exact ⟨rfl, by repeat (first | with_reducible exact Below.refl _ _ | with_reducible assumption | (with_reducible refine below_drewN ?_ _) | (with_reducible refine Below.drew ?_) | (with_reducible refine Below.alloc ?_ ?_ _; rotate_left; focus (first | with_reducible assumption | omega | (simp; done) | (simp; omega))) | (with_reducible refine Below.setCell ?_ ?_ _; rotate_left; focus (first | with_reducible assumption | omega | (simp; done) | (simp; omega))))⟩
  subst e6
  by_cases e7 : v = v2
  rotate_left
  · have he : eight k f t g h i m v k f t g h i m v2 = false := by
      unfold eight
      exact decide_eq_false (fun hh => e7 hh.2.2.2.2.2.2.2)
    rw [he, Bool.false_and, Bool.false_and]
    clear he HT HS
    go_enter Try.func81, Try.ntmps81
    go_wp2
    go_ret
    exact ⟨rfl, by repeat (first | with_reducible exact Below.refl _ _ | with_reducible assumption | (with_reducible refine below_drewN ?_ _) | (with_reducible refine Below.drew ?_) | (with_reducible refine Below.alloc ?_ ?_ _; rotate_left; focus (first | with_reducible assumption | omega | (simp; done) | (simp; omega))) | (with_reducible refine Below.setCell ?_ ?_ _; rotate_left; focus (first | with_reducible assumption | omega | (simp; done) | (simp; omega))))⟩
  subst e7
  · have he : eight k f t g h i m v k f t g h i m v = true := by unfold eight; exact decide_eq_true ⟨rfl, rfl, rfl, rfl, rfl, rfl, rfl, rfl⟩
    rw [he, Bool.true_and]
    clear he
    cases tb with
    | false =>
      rw [Bool.false_and]
      clear HS
      go_enter Try.func81, Try.ntmps81
      go_wp2_with (go_at_call 82; (refine (HT.out _ (by repeat (first | with_reducible exact Below.refl _ _ | with_reducible assumption | (with_reducible refine below_drewN ?_ _) | (with_reducible refine Below.drew ?_) | (with_reducible refine Below.alloc ?_ ?_ _; rotate_left; focus (first | with_reducible assumption | omega | (simp; done) | (simp; omega))) | (with_reducible refine Below.setCell ?_ ?_ _; rotate_left; focus (first | with_reducible assumption | omega | (simp; done) | (simp; omega)))))).mono ?_); rintro e w1 ⟨rfl, hb1, hz1, _⟩)
      go_ret
      exact ⟨rfl, hb1⟩
    | true =>
      rw [Bool.true_and]
      cases sb
      all_goals
        go_enter Try.func81, Try.ntmps81
        go_wp2_with (first
          | (go_at_call 82; (refine (HT.out _ (by repeat (first | with_reducible exact Below.refl _ _ | with_reducible assumption | (with_reducible refine below_drewN ?_ _) | (with_reducible refine Below.drew ?_) | (with_reducible refine Below.alloc ?_ ?_ _; rotate_left; focus (first | with_reducible assumption | omega | (simp; done) | (simp; omega))) | (with_reducible refine Below.setCell ?_ ?_ _; rotate_left; focus (first | with_reducible assumption | omega | (simp; done) | (simp; omega)))))).mono ?_); rintro e w1 ⟨rfl, hb1, hz1, hx1⟩; have k2 := Bk.ext (b := w.heap.size) (t := 41) (cs := #[.int .i64 k, .int .i64 f, .int .i64 t, .int .i64 g, .int .i64 h, .int .i64 i, .int .i64 m, .int .i64 v, .slice A n c, .slice A' n' c']) ((Bk.new w _ _).alloc _) hx1; have k3 := Bk.ext (b := w.heap.size + 1) (t := 41) (cs := #[.int .i64 k, .int .i64 f, .int .i64 t, .int .i64 g, .int .i64 h, .int .i64 i, .int .i64 m, .int .i64 v, .slice A2 n2 c2, .slice A2' n2' c2']) (Bk.made _ _ (by simp)) hx1; have d2 := k2.cell 9; have d3 := k3.cell 9; have l2 := def_lt' k2; have l3 := def_lt' k3; dsimp at d2 d3)
          | (go_at_call 83; (refine (HS.out _ hb1).mono ?_); rintro e w2 ⟨rfl, hb2, hz2, _⟩))
        go_ret
        exact ⟨rfl, hb2⟩
end Go.Proofs.Ytmacfoebfpljoaa
