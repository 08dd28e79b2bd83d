/- step: of, Shape -/
import Derived.Test.YtmacfoebfpljoaaStD
namespace Go.Proofs.Ytmacfoebfpljoaa
open Go.RowKit

def boxes (f t : Int) : Bool := decide (0 ≤ f ∧ f ≤ t ∧ t ≤ 1073741824)

set_option maxRecDepth 100000 in
set_option maxHeartbeats 2000000 in
theorem of1 (f t g h i m v : Int) (A A' : Option Addr) (n n' c c' : Nat) (w : World) :
    Calls Try.prog 49 #[.agg #[.int .i64 1, .int .i64 f, .int .i64 t, .int .i64 g, .int .i64 h, .int .i64 i, .int .i64 m, .int .i64 v, .slice A n c, .slice A' n' c']] w fun e w' => e = .returned (.iface 115 (.agg #[.int .i64 1, .int .i64 f, .int .i64 t, .int .i64 g, .int .i64 h, .int .i64 i, .int .i64 m, .int .i64 v, .slice A n c, .slice A' n' c'])) ∧ Below w.heap.size w w' := by
  go_enter Try.func49, Try.ntmps49
  go_wp2
  go_ret
  exact ⟨rfl, by repeat (first | with_reducible exact Below.refl _ _ | with_reducible assumption | (with_reducible refine below_drewN ?_ _) | (with_reducible refine Below.drew ?_) | (with_reducible refine Below.alloc ?_ ?_ _; rotate_left; focus (first | with_reducible assumption | omega | (simp; done) | (simp; omega))) | (with_reducible refine Below.setCell ?_ ?_ _; rotate_left; focus (first | with_reducible assumption | omega | (simp; done) | (simp; omega))))⟩

set_option maxRecDepth 100000 in
set_option maxHeartbeats 2000000 in
theorem of2 (f t g h i m v : Int) (A A' : Option Addr) (n n' c c' : Nat) (w : World) :
    Calls Try.prog 49 #[.agg #[.int .i64 2, .int .i64 f, .int .i64 t, .int .i64 g, .int .i64 h, .int .i64 i, .int .i64 m, .int .i64 v, .slice A n c, .slice A' n' c']] w fun e w' => e = .returned (.iface 116 (.agg #[.int .i64 2, .int .i64 f, .int .i64 t, .int .i64 g, .int .i64 h, .int .i64 i, .int .i64 m, .int .i64 v, .slice A n c, .slice A' n' c'])) ∧ Below w.heap.size w w' := by
  go_enter Try.func49, Try.ntmps49
  go_wp2
  go_ret
  exact ⟨rfl, by repeat (first | with_reducible exact Below.refl _ _ | with_reducible assumption | (with_reducible refine below_drewN ?_ _) | (with_reducible refine Below.drew ?_) | (with_reducible refine Below.alloc ?_ ?_ _; rotate_left; focus (first | with_reducible assumption | omega | (simp; done) | (simp; omega))) | (with_reducible refine Below.setCell ?_ ?_ _; rotate_left; focus (first | with_reducible assumption | omega | (simp; done) | (simp; omega))))⟩

set_option maxRecDepth 100000 in
set_option maxHeartbeats 2000000 in
theorem of3 (k : Int) (hk : k = 3 ∨ k = 4) (f t g h i m v : Int) (A A' : Option Addr) (n n' c c' : Nat) (w : World) :
    Calls Try.prog 49 #[.agg #[.int .i64 k, .int .i64 f, .int .i64 t, .int .i64 g, .int .i64 h, .int .i64 i, .int .i64 m, .int .i64 v, .slice A n c, .slice A' n' c']] w fun e w' => e = .returned (.iface 117 (.agg #[.int .i64 k, .int .i64 f, .int .i64 t, .int .i64 g, .int .i64 h, .int .i64 i, .int .i64 m, .int .i64 v, .slice A n c, .slice A' n' c'])) ∧ Below w.heap.size w w' := by
  rcases hk with rfl | rfl
  all_goals
    go_enter Try.func49, Try.ntmps49
    go_wp2
    go_ret
    exact ⟨rfl, by repeat (first | with_reducible exact Below.refl _ _ | with_reducible assumption | (with_reducible refine below_drewN ?_ _) | (with_reducible refine Below.drew ?_) | (with_reducible refine Below.alloc ?_ ?_ _; rotate_left; focus (first | with_reducible assumption | omega | (simp; done) | (simp; omega))) | (with_reducible refine Below.setCell ?_ ?_ _; rotate_left; focus (first | with_reducible assumption | omega | (simp; done) | (simp; omega))))⟩

set_option maxRecDepth 100000 in
set_option maxHeartbeats 2000000 in
theorem of5 (f t g h i m v : Int) (A A' : Option Addr) (n n' c c' : Nat) (w : World) :
    Calls Try.prog 49 #[.agg #[.int .i64 5, .int .i64 f, .int .i64 t, .int .i64 g, .int .i64 h, .int .i64 i, .int .i64 m, .int .i64 v, .slice A n c, .slice A' n' c']] w fun e w' => e = .returned (.iface 118 (.agg #[.int .i64 5, .int .i64 f, .int .i64 t, .int .i64 g, .int .i64 h, .int .i64 i, .int .i64 m, .int .i64 v, .slice A n c, .slice A' n' c'])) ∧ Below w.heap.size w w' := by
  go_enter Try.func49, Try.ntmps49
  go_wp2
  go_ret
  exact ⟨rfl, by repeat (first | with_reducible exact Below.refl _ _ | with_reducible assumption | (with_reducible refine below_drewN ?_ _) | (with_reducible refine Below.drew ?_) | (with_reducible refine Below.alloc ?_ ?_ _; rotate_left; focus (first | with_reducible assumption | omega | (simp; done) | (simp; omega))) | (with_reducible refine Below.setCell ?_ ?_ _; rotate_left; focus (first | with_reducible assumption | omega | (simp; done) | (simp; omega))))⟩

set_option maxRecDepth 100000 in
set_option maxHeartbeats 2000000 in
theorem of0 (k : Int) (hk : k < 1 ∨ 5 < k) (f t g h i m v : Int) (A A' : Option Addr) (n n' c c' : Nat) (w : World) :
    Calls Try.prog 49 #[.agg #[.int .i64 k, .int .i64 f, .int .i64 t, .int .i64 g, .int .i64 h, .int .i64 i, .int .i64 m, .int .i64 v, .slice A n c, .slice A' n' c']] w fun e w' => e = .returned .nilIface ∧ Below w.heap.size w w' := by
  have e1 : (k == 1) = false := by simp; omega
  have e2 : (k == 2) = false := by simp; omega
  have e3 : (k == 3) = false := by simp; omega
  have e4 : (k == 4) = false := by simp; omega
  have e5 : (k == 5) = false := by simp; omega
  clear hk
  go_enter Try.func49, Try.ntmps49
  go_wp2
  go_ret
  exact ⟨rfl, by repeat (first | with_reducible exact Below.refl _ _ | with_reducible assumption | (with_reducible refine below_drewN ?_ _) | (with_reducible refine Below.drew ?_) | (with_reducible refine Below.alloc ?_ ?_ _; rotate_left; focus (first | with_reducible assumption | omega | (simp; done) | (simp; omega))) | (with_reducible refine Below.setCell ?_ ?_ _; rotate_left; focus (first | with_reducible assumption | omega | (simp; done) | (simp; omega))))⟩

set_option maxRecDepth 100000 in
set_option maxHeartbeats 2000000 in
theorem shape_1 (f t g h i m v : Int) (A A' : Option Addr) (n n' c c' : Nat) (w : World) (sl : List Tok) (hn : n ≤ maxLen) (hn' : n' ≤ maxLen) (hrd : Rd w w.heap.size 12 A n (toks sl)) :
    Calls Try.prog 37 #[.agg #[.int .i64 1, .int .i64 f, .int .i64 t, .int .i64 g, .int .i64 h, .int .i64 i, .int .i64 m, .int .i64 v, .slice A n c, .slice A' n' c']] w fun e w' => e = .returned (.bool (boxes f t && sh1 g h i m v n n')) ∧ Below w.heap.size w w' := by
  have ho := fun W (hb : Below w.heap.size w W) => calls_on hb (of1 f t g h i m v A A' n n' c c' W)
  have hs := fun W (hb : Below w.heap.size w W) => calls_on hb (shape1_any 1 f t g h i m v A A' n n' c c' W sl hn hn' ((hrd.below hb).more hb.size))
  have HO := Lib.hid ho
  have HS := Lib.hid hs
  clear ho hs hrd
  have hm : ∀ w, (method 269 115 (.agg #[.int .i64 1, .int .i64 f, .int .i64 t, .int .i64 g, .int .i64 h, .int .i64 i, .int .i64 m, .int .i64 v, .slice A n c, .slice A' n' c']) "stet/step.shape").run Try.prog w = .ok (79, .agg #[.int .i64 1, .int .i64 f, .int .i64 t, .int .i64 g, .int .i64 h, .int .i64 i, .int .i64 m, .int .i64 v, .slice A n c, .slice A' n' c']) w := fun _ => by kernel_rfl
  go_enter Try.func37, Try.ntmps37
  go_wp2_with (first
    | (go_at_call 49; (refine (HO.out _ (by repeat (first | with_reducible exact Below.refl _ _ | with_reducible assumption | (with_reducible refine below_drewN ?_ _) | (with_reducible refine Below.drew ?_) | (with_reducible refine Below.alloc ?_ ?_ _; rotate_left; focus (first | with_reducible assumption | omega | (simp; done) | (simp; omega))) | (with_reducible refine Below.setCell ?_ ?_ _; rotate_left; focus (first | with_reducible assumption | omega | (simp; done) | (simp; omega)))))).mono ?_); rintro e w1 ⟨rfl, hb1, hz1, hx1⟩; have k1 := (Bk.new w 41 #[.int .i64 1, .int .i64 f, .int .i64 t, .int .i64 g, .int .i64 h, .int .i64 i, .int .i64 m, .int .i64 v, .slice A n c, .slice A' n' c']).ext hx1; have d1 := k1.cell 1; have d2 := k1.cell 2; have l1 := def_lt' k1; dsimp at d1 d2)
    | (go_at_call 79; (refine (HS.out _ hb1).mono ?_); rintro e w2 ⟨rfl, hb2, hz2, hx2⟩))
  all_goals go_ret
  all_goals first
    | exact ⟨ret_bool (by rw [show boxes f t = true from decide_eq_true (by omega), Bool.true_and]), hb2⟩
    | exact ⟨ret_bool (by rw [show boxes f t = false from decide_eq_false (by omega), Bool.false_and]), hb1⟩

set_option maxRecDepth 100000 in
set_option maxHeartbeats 2000000 in
theorem shape_2 (f t g h i m v : Int) (A A' : Option Addr) (n n' c c' : Nat) (w : World) (hn : n ≤ maxLen) :
    Calls Try.prog 37 #[.agg #[.int .i64 2, .int .i64 f, .int .i64 t, .int .i64 g, .int .i64 h, .int .i64 i, .int .i64 m, .int .i64 v, .slice A n c, .slice A' n' c']] w fun e w' => e = .returned (.bool (boxes f t && sh2 f t g h i m v n n')) ∧ Below w.heap.size w w' := by
  have ho := fun W (hb : Below w.heap.size w W) => calls_on hb (of2 f t g h i m v A A' n n' c c' W)
  have hs := fun W (hb : Below w.heap.size w W) => calls_on hb (shape2_any 2 f t g h i m v A A' n n' c c' W hn)
  have HO := Lib.hid ho
  have HS := Lib.hid hs
  clear ho hs 
  have hm : ∀ w, (method 269 116 (.agg #[.int .i64 2, .int .i64 f, .int .i64 t, .int .i64 g, .int .i64 h, .int .i64 i, .int .i64 m, .int .i64 v, .slice A n c, .slice A' n' c']) "stet/step.shape").run Try.prog w = .ok (88, .agg #[.int .i64 2, .int .i64 f, .int .i64 t, .int .i64 g, .int .i64 h, .int .i64 i, .int .i64 m, .int .i64 v, .slice A n c, .slice A' n' c']) w := fun _ => by kernel_rfl
  go_enter Try.func37, Try.ntmps37
  go_wp2_with (first
    | (go_at_call 49; (refine (HO.out _ (by repeat (first | with_reducible exact Below.refl _ _ | with_reducible assumption | (with_reducible refine below_drewN ?_ _) | (with_reducible refine Below.drew ?_) | (with_reducible refine Below.alloc ?_ ?_ _; rotate_left; focus (first | with_reducible assumption | omega | (simp; done) | (simp; omega))) | (with_reducible refine Below.setCell ?_ ?_ _; rotate_left; focus (first | with_reducible assumption | omega | (simp; done) | (simp; omega)))))).mono ?_); rintro e w1 ⟨rfl, hb1, hz1, hx1⟩; have k1 := (Bk.new w 41 #[.int .i64 2, .int .i64 f, .int .i64 t, .int .i64 g, .int .i64 h, .int .i64 i, .int .i64 m, .int .i64 v, .slice A n c, .slice A' n' c']).ext hx1; have d1 := k1.cell 1; have d2 := k1.cell 2; have l1 := def_lt' k1; dsimp at d1 d2)
    | (go_at_call 88; (refine (HS.out _ hb1).mono ?_); rintro e w2 ⟨rfl, hb2, hz2, hx2⟩))
  all_goals go_ret
  all_goals first
    | exact ⟨ret_bool (by rw [show boxes f t = true from decide_eq_true (by omega), Bool.true_and]), hb2⟩
    | exact ⟨ret_bool (by rw [show boxes f t = false from decide_eq_false (by omega), Bool.false_and]), hb1⟩

set_option maxRecDepth 100000 in
set_option maxHeartbeats 2000000 in
theorem shape_3 (k : Int) (hk : k = 3 ∨ k = 4) (f t g h i m v : Int) (A A' : Option Addr) (n n' c c' : Nat) (w : World) (hn : n ≤ maxLen) (hn' : n' ≤ maxLen) :
    Calls Try.prog 37 #[.agg #[.int .i64 k, .int .i64 f, .int .i64 t, .int .i64 g, .int .i64 h, .int .i64 i, .int .i64 m, .int .i64 v, .slice A n c, .slice A' n' c']] w fun e w' => e = .returned (.bool (boxes f t && sh3 g h i n n')) ∧ Below w.heap.size w w' := by
  have ho := fun W (hb : Below w.heap.size w W) => calls_on hb (of3 k hk f t g h i m v A A' n n' c c' W)
  have hs := fun W (hb : Below w.heap.size w W) => calls_on hb (shape3_any k f t g h i m v A A' n n' c c' W hn hn')
  have HO := Lib.hid ho
  have HS := Lib.hid hs
  clear ho hs 
  have hm : ∀ w, (method 269 117 (.agg #[.int .i64 k, .int .i64 f, .int .i64 t, .int .i64 g, .int .i64 h, .int .i64 i, .int .i64 m, .int .i64 v, .slice A n c, .slice A' n' c']) "stet/step.shape").run Try.prog w = .ok (93, .agg #[.int .i64 k, .int .i64 f, .int .i64 t, .int .i64 g, .int .i64 h, .int .i64 i, .int .i64 m, .int .i64 v, .slice A n c, .slice A' n' c']) w := fun _ => by kernel_rfl
  go_enter Try.func37, Try.ntmps37
  go_wp2_with (first
    | (go_at_call 49; (refine (HO.out _ (by repeat (first | with_reducible exact Below.refl _ _ | with_reducible assumption | (with_reducible refine below_drewN ?_ _) | (with_reducible refine Below.drew ?_) | (with_reducible refine Below.alloc ?_ ?_ _; rotate_left; focus (first | with_reducible assumption | omega | (simp; done) | (simp; omega))) | (with_reducible refine Below.setCell ?_ ?_ _; rotate_left; focus (first | with_reducible assumption | omega | (simp; done) | (simp; omega)))))).mono ?_); rintro e w1 ⟨rfl, hb1, hz1, hx1⟩; have k1 := (Bk.new w 41 #[.int .i64 k, .int .i64 f, .int .i64 t, .int .i64 g, .int .i64 h, .int .i64 i, .int .i64 m, .int .i64 v, .slice A n c, .slice A' n' c']).ext hx1; have d1 := k1.cell 1; have d2 := k1.cell 2; have l1 := def_lt' k1; dsimp at d1 d2)
    | (go_at_call 93; (refine (HS.out _ hb1).mono ?_); rintro e w2 ⟨rfl, hb2, hz2, hx2⟩))
  all_goals go_ret
  all_goals first
    | exact ⟨ret_bool (by rw [show boxes f t = true from decide_eq_true (by omega), Bool.true_and]), hb2⟩
    | exact ⟨ret_bool (by rw [show boxes f t = false from decide_eq_false (by omega), Bool.false_and]), hb1⟩

set_option maxRecDepth 100000 in
set_option maxHeartbeats 2000000 in
theorem shape_5 (f t g h i m v : Int) (A A' : Option Addr) (n n' c c' : Nat) (w : World) (st : List Mk) (hn : n ≤ maxLen) (hn' : n' ≤ maxLen) (hrd : Rd w w.heap.size 8 A' n' (mks st)) :
    Calls Try.prog 37 #[.agg #[.int .i64 5, .int .i64 f, .int .i64 t, .int .i64 g, .int .i64 h, .int .i64 i, .int .i64 m, .int .i64 v, .slice A n c, .slice A' n' c']] w fun e w' => e = .returned (.bool (boxes f t && sh5 f t g h i m v n n')) ∧ Below w.heap.size w w' := by
  have ho := fun W (hb : Below w.heap.size w W) => calls_on hb (of5 f t g h i m v A A' n n' c c' W)
  have hs := fun W (hb : Below w.heap.size w W) (h0 : 0 ≤ f) (h1 : f ≤ t) (h2 : t ≤ 1073741824) => calls_on hb (shape5_any 5 f t g h i m v A A' n n' c c' W st hn hn' ((hrd.below hb).more hb.size) h0 h2 h1)
  have HO := Lib.hid ho
  have HS := Lib.hid hs
  clear ho hs hrd
  have hm : ∀ w, (method 269 118 (.agg #[.int .i64 5, .int .i64 f, .int .i64 t, .int .i64 g, .int .i64 h, .int .i64 i, .int .i64 m, .int .i64 v, .slice A n c, .slice A' n' c']) "stet/step.shape").run Try.prog w = .ok (98, .agg #[.int .i64 5, .int .i64 f, .int .i64 t, .int .i64 g, .int .i64 h, .int .i64 i, .int .i64 m, .int .i64 v, .slice A n c, .slice A' n' c']) w := fun _ => by kernel_rfl
  go_enter Try.func37, Try.ntmps37
  go_wp2_with (first
    | (go_at_call 49; (refine (HO.out _ (by repeat (first | with_reducible exact Below.refl _ _ | with_reducible assumption | (with_reducible refine below_drewN ?_ _) | (with_reducible refine Below.drew ?_) | (with_reducible refine Below.alloc ?_ ?_ _; rotate_left; focus (first | with_reducible assumption | omega | (simp; done) | (simp; omega))) | (with_reducible refine Below.setCell ?_ ?_ _; rotate_left; focus (first | with_reducible assumption | omega | (simp; done) | (simp; omega)))))).mono ?_); rintro e w1 ⟨rfl, hb1, hz1, hx1⟩; have k1 := (Bk.new w 41 #[.int .i64 5, .int .i64 f, .int .i64 t, .int .i64 g, .int .i64 h, .int .i64 i, .int .i64 m, .int .i64 v, .slice A n c, .slice A' n' c']).ext hx1; have d1 := k1.cell 1; have d2 := k1.cell 2; have l1 := def_lt' k1; dsimp at d1 d2)
    | (go_at_call 98; (refine (HS.out _ hb1 (by assumption) (by assumption) (by assumption)).mono ?_); rintro e w2 ⟨rfl, hb2, hz2, hx2⟩))
  all_goals go_ret
  all_goals first
    | exact ⟨ret_bool (by rw [show boxes f t = true from decide_eq_true (by omega), Bool.true_and]), hb2⟩
    | exact ⟨ret_bool (by rw [show boxes f t = false from decide_eq_false (by omega), Bool.false_and]), hb1⟩

set_option maxRecDepth 100000 in
set_option maxHeartbeats 2000000 in
theorem shape_0 (k : Int) (hk : k < 1 ∨ 5 < k) (f t g h i m v : Int) (A A' : Option Addr) (n n' c c' : Nat) (w : World) :
    Calls Try.prog 37 #[.agg #[.int .i64 k, .int .i64 f, .int .i64 t, .int .i64 g, .int .i64 h, .int .i64 i, .int .i64 m, .int .i64 v, .slice A n c, .slice A' n' c']] w fun e w' => e = .returned (.bool false) ∧ Below w.heap.size w w' := by
  have ho := fun W (hb : Below w.heap.size w W) => calls_on hb (of0 k hk f t g h i m v A A' n n' c c' W)
  have HO := Lib.hid ho
  clear ho hk
  go_enter Try.func37, Try.ntmps37
  go_wp2_with (go_at_call 49; (refine (HO.out _ (by repeat (first | with_reducible exact Below.refl _ _ | with_reducible assumption | (with_reducible refine below_drewN ?_ _) | (with_reducible refine Below.drew ?_) | (with_reducible refine Below.alloc ?_ ?_ _; rotate_left; focus (first | with_reducible assumption | omega | (simp; done) | (simp; omega))) | (with_reducible refine Below.setCell ?_ ?_ _; rotate_left; focus (first | with_reducible assumption | omega | (simp; done) | (simp; omega)))))).mono ?_); rintro e w1 ⟨rfl, hb1, hz1, hx1⟩)
  go_ret
  exact ⟨rfl, hb1⟩

/-- which steps' shapes are right -/
def shB (k f t g h i m v : Int) (n n' : Nat) : Bool :=
  boxes f t && (if k = 1 then sh1 g h i m v n n' else if k = 2 then sh2 f t g h i m v n n' else if k = 3 ∨ k = 4 then sh3 g h i n n' else if k = 5 then sh5 f t g h i m v n n' else false)
theorem shape_any (k f t g h i m v : Int) (A A' : Option Addr) (n n' c c' : Nat) (w : World) (sl : List Tok) (st : List Mk) (hn : n ≤ maxLen) (hn' : n' ≤ maxLen) (hrd : Rd w w.heap.size 12 A n (toks sl)) (hrd' : Rd w w.heap.size 8 A' n' (mks st)) :
    Calls Try.prog 37 #[.agg #[.int .i64 k, .int .i64 f, .int .i64 t, .int .i64 g, .int .i64 h, .int .i64 i, .int .i64 m, .int .i64 v, .slice A n c, .slice A' n' c']] w fun e w' => e = .returned (.bool (shB k f t g h i m v n n')) ∧ Below w.heap.size w w' := by
  unfold shB
  by_cases h1 : k = 1
  · subst h1; exact shape_1 f t g h i m v A A' n n' c c' w sl hn hn' hrd
  rw [if_neg h1]
  by_cases h2 : k = 2
  · subst h2; exact shape_2 f t g h i m v A A' n n' c c' w hn
  rw [if_neg h2]
  by_cases h3 : k = 3 ∨ k = 4
  · rw [if_pos h3]; exact shape_3 k h3 f t g h i m v A A' n n' c c' w hn hn'
  rw [if_neg h3]
  by_cases h5 : k = 5
  · subst h5; exact shape_5 f t g h i m v A A' n n' c c' w st hn hn' hrd'
  rw [if_neg h5, Bool.and_false]
  exact shape_0 k (by omega) f t g h i m v A A' n n' c c' w
end Go.Proofs.Ytmacfoebfpljoaa
