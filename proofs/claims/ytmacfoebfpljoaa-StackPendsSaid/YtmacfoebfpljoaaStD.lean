/- step: the shapes of each kind -/
import Derived.Test.YtmacfoebfpljoaaStC
namespace Go.Proofs.Ytmacfoebfpljoaa
open Go.RowKit

theorem eqmk_nil (A' : Option Addr) (n' c' : Nat) (w : World) (hn : n' ≤ maxLen) : Calls Try.prog 83 #[.slice A' n' c', .slice none 0 0] w fun e w' => e = .returned (.bool (decide (n' = 0))) ∧ Below w.heap.size w w' := by
  have h := eqmk_any A' none n' 0 c' 0 (List.replicate n' default) [] w hn (fun e => by subst e; exact Rd.nil_ _ _ _ _) (fun _ => Rd.nil_ _ _ _ _) (by simp) rfl
  refine h.mono fun e w' ⟨h1, h2⟩ => ⟨?_, h2⟩
  rw [h1]
  refine ret_bool (decide_eq_decide.2 ?_)
  cases n' <;> simp [List.replicate_succ]
theorem tsame_nil (A : Option Addr) (n c : Nat) (w : World) (hn : n ≤ maxLen) : Calls Try.prog 82 #[.slice A n c, .slice none 0 0] w fun e w' => e = .returned (.bool (decide (n = 0))) ∧ Below w.heap.size w w' := by
  have h := tsame_any A none n 0 c 0 (List.replicate n default) [] w hn (fun e => by subst e; exact Rd.nil_ _ _ _ _) (fun _ => Rd.nil_ _ _ _ _) (by simp) rfl
  refine h.mono fun e w' ⟨h1, h2⟩ => ⟨?_, h2⟩
  rw [h1]
  refine ret_bool (decide_eq_decide.2 ?_)
  cases n <;> simp [List.replicate_succ]
theorem tsame_self (A : Option Addr) (n c : Nat) (sl : List Tok) (w : World) (hn : n ≤ maxLen) (h : Rd w w.heap.size 12 A n (toks sl)) : Calls Try.prog 82 #[.slice A n c, .slice A n c] w fun e w' => e = .returned (.bool true) ∧ Below w.heap.size w w' := by
  have hh := tsame_any A A n n c c sl sl w hn (fun _ => h) (fun _ => h) h.tlen h.tlen
  exact hh.mono fun e w' ⟨h1, h2⟩ => ⟨by rw [h1]; exact ret_bool (decide_eq_true rfl), h2⟩
theorem eqmk_self (A : Option Addr) (n c : Nat) (st : List Mk) (w : World) (hn : n ≤ maxLen) (h : Rd w w.heap.size 8 A n (mks st)) : Calls Try.prog 83 #[.slice A n c, .slice A n c] w fun e w' => e = .returned (.bool true) ∧ Below w.heap.size w w' := by
  have hh := eqmk_any A A n n c c st st w hn (fun _ => h) (fun _ => h) h.mlen h.mlen
  exact hh.mono fun e w' ⟨h1, h2⟩ => ⟨by rw [h1]; exact ret_bool (decide_eq_true rfl), h2⟩

def sh1 (g h i m v : Int) (n n' : Nat) : Bool := decide (g = 0 ∧ h = 0 ∧ i = 0 ∧ m = 0 ∧ v = 0 ∧ n' = 0 ∧ n ≤ 20000)
def sh2 (f t g h i m v : Int) (n n' : Nat) : Bool := decide (f ≤ g ∧ g ≤ h ∧ h ≤ t ∧ 0 ≤ i ∧ i ≤ n ∧ n ≤ 20000 ∧ m = 0 ∧ v = 0 ∧ n' = 0)
def sh3 (g h i : Int) (n n' : Nat) : Bool := decide (g = 0 ∧ h = 0 ∧ i = 0 ∧ n = 0 ∧ n' = 0)
def sh5 (f t g h i m v : Int) (n n' : Nat) : Bool := decide (g = 0 ∧ h = 0 ∧ i = 0 ∧ m = 0 ∧ v = 0 ∧ n = 0 ∧ (n' : Int) = t - f ∧ n' ≤ 20000)

set_option maxRecDepth 100000 in
set_option maxHeartbeats 2000000 in
theorem shape1_any (k f t g h i m v : Int) (A A' : Option Addr) (n n' c c' : Nat) (w : World) (sl : List Tok) (hn : n ≤ maxLen) (hn' : n' ≤ maxLen) (hrd : Rd w w.heap.size 12 A n (toks sl)) :
    Calls Try.prog 79 #[.agg #[.int .i64 k, .int .i64 f, .int .i64 t, .int .i64 g, .int .i64 h, .int .i64 i, .int .i64 m, .int .i64 v, .slice A n c, .slice A' n' c']] w fun e w' => e = .returned (.bool (sh1 g h i m v n n')) ∧ Below w.heap.size w w' := by
  have hs := fun W (hb : Below w.heap.size w W) => ssame_any k f t g h i m v k f t 0 0 0 0 0 A A' A none n n' n 0 c c' c 0 true (decide (n' = 0)) W
    (fun W' hb' => calls_on hb' (tsame_self A n c sl W' hn ((hrd.below (hb.trans (hb'.mono hb.size))).more (Nat.le_trans hb.size hb'.size)))) (fun W' hb' => calls_on hb' (eqmk_nil A' n' c' W' hn'))
  obtain ⟨b, hb⟩ : ∃ b, (eight k f t g h i m v k f t 0 0 0 0 0 && true && decide (n' = 0)) = b := ⟨_, rfl⟩
  rw [hb] at hs
  have hres : sh1 g h i m v n n' = (b && decide (n ≤ 20000)) := by
    rw [← hb]
    unfold sh1 eight
    rw [Bool.eq_iff_iff]
    simp
    omega
  rw [hres]
  have HS := Lib.hid hs
  unfold maxLen at hn
  clear hs hb hres hrd
  cases b
  all_goals
    go_enter Try.func79, Try.ntmps79
    go_wp2_with (go_at_call 81; (refine (HS.out _ (by repeat (first | with_reducible exact Below.refl _ _ | with_reducible assumption | (with_reducible refine below_drewN ?_ _) | (with_reducible refine Below.drew ?_) | (with_reducible refine Below.alloc ?_ ?_ _; rotate_left; focus (first | with_reducible assumption | omega | (simp; done) | (simp; omega))) | (with_reducible refine Below.setCell ?_ ?_ _; rotate_left; focus (first | with_reducible assumption | omega | (simp; done) | (simp; omega)))))).mono ?_); rintro e w1 ⟨rfl, hb1⟩; have hb2 : Below w.heap.size w w1 := Below.trans (by repeat (first | with_reducible exact Below.refl _ _ | with_reducible assumption | (with_reducible refine below_drewN ?_ _) | (with_reducible refine Below.drew ?_) | (with_reducible refine Below.alloc ?_ ?_ _; rotate_left; focus (first | with_reducible assumption | omega | (simp; done) | (simp; omega))) | (with_reducible refine Below.setCell ?_ ?_ _; rotate_left; focus (first | with_reducible assumption | omega | (simp; done) | (simp; omega))))) (hb1.mono (by simp)); have k1 := (Bk.new w 115 #[.int .i64 k, .int .i64 f, .int .i64 t, .int .i64 g, .int .i64 h, .int .i64 i, .int .i64 m, .int .i64 v, .slice A n c, .slice A' n' c']).ext hb1; have d8 := k1.cell 8; dsimp at d8)
    go_ret
    exact ⟨ret_bool (by rw [Bool.eq_iff_iff]; simp <;> omega), hb2⟩

set_option maxRecDepth 100000 in
set_option maxHeartbeats 2000000 in
theorem shape2_any (k f t g h i m v : Int) (A A' : Option Addr) (n n' c c' : Nat) (w : World) (hn : n ≤ maxLen) :
    Calls Try.prog 88 #[.agg #[.int .i64 k, .int .i64 f, .int .i64 t, .int .i64 g, .int .i64 h, .int .i64 i, .int .i64 m, .int .i64 v, .slice A n c, .slice A' n' c']] w fun e w' => e = .returned (.bool (sh2 f t g h i m v n n')) ∧ Below w.heap.size w w' := by
  unfold maxLen at hn
  go_enter Try.func88, Try.ntmps88
  go_wp2
  all_goals go_ret
  all_goals exact ⟨ret_bool (by rw [Bool.eq_iff_iff]; simp [sh2]; try omega), by repeat (first | with_reducible exact Below.refl _ _ | with_reducible assumption | (with_reducible refine below_drewN ?_ _) | (with_reducible refine Below.drew ?_) | (with_reducible refine Below.alloc ?_ ?_ _; rotate_left; focus (first | with_reducible assumption | omega | (simp; done) | (simp; omega))) | (with_reducible refine Below.setCell ?_ ?_ _; rotate_left; focus (first | with_reducible assumption | omega | (simp; done) | (simp; omega))))⟩

set_option maxRecDepth 100000 in
set_option maxHeartbeats 2000000 in
theorem shape3_any (k f t g h i m v : Int) (A A' : Option Addr) (n n' c c' : Nat) (w : World) (hn : n ≤ maxLen) (hn' : n' ≤ maxLen) :
    Calls Try.prog 93 #[.agg #[.int .i64 k, .int .i64 f, .int .i64 t, .int .i64 g, .int .i64 h, .int .i64 i, .int .i64 m, .int .i64 v, .slice A n c, .slice A' n' c']] w fun e w' => e = .returned (.bool (sh3 g h i n n')) ∧ Below w.heap.size w w' := by
  have hs := fun W (hb : Below w.heap.size w W) => ssame_any k f t g h i m v k f t 0 0 0 m v A A' none none n n' 0 0 c c' 0 0 (decide (n = 0)) (decide (n' = 0)) W
    (fun W' hb' => calls_on hb' (tsame_nil A n c W' hn)) (fun W' hb' => calls_on hb' (eqmk_nil A' n' c' W' hn'))
  have hres : sh3 g h i n n' = (eight k f t g h i m v k f t 0 0 0 m v && decide (n = 0) && decide (n' = 0)) := by
    unfold sh3 eight
    rw [Bool.eq_iff_iff]
    simp
    omega
  rw [← hres] at hs
  have HS := Lib.hid hs
  clear hs hres
  generalize sh3 g h i n n' = b at *
  go_enter Try.func93, Try.ntmps93
  go_wp2_with (go_at_call 81; (refine (HS.out _ (by repeat (first | with_reducible exact Below.refl _ _ | with_reducible assumption | (with_reducible refine below_drewN ?_ _) | (with_reducible refine Below.drew ?_) | (with_reducible refine Below.alloc ?_ ?_ _; rotate_left; focus (first | with_reducible assumption | omega | (simp; done) | (simp; omega))) | (with_reducible refine Below.setCell ?_ ?_ _; rotate_left; focus (first | with_reducible assumption | omega | (simp; done) | (simp; omega)))))).mono ?_); rintro e w1 ⟨rfl, hb1⟩; have hb2 : Below w.heap.size w w1 := Below.trans (by repeat (first | with_reducible exact Below.refl _ _ | with_reducible assumption | (with_reducible refine below_drewN ?_ _) | (with_reducible refine Below.drew ?_) | (with_reducible refine Below.alloc ?_ ?_ _; rotate_left; focus (first | with_reducible assumption | omega | (simp; done) | (simp; omega))) | (with_reducible refine Below.setCell ?_ ?_ _; rotate_left; focus (first | with_reducible assumption | omega | (simp; done) | (simp; omega))))) (hb1.mono (by simp)))
  go_ret
  exact ⟨rfl, hb2⟩

set_option maxRecDepth 100000 in
set_option maxHeartbeats 2000000 in
theorem shape5_any (k f t g h i m v : Int) (A A' : Option Addr) (n n' c c' : Nat) (w : World) (st : List Mk) (hn : n ≤ maxLen) (hn' : n' ≤ maxLen) (hrd : Rd w w.heap.size 8 A' n' (mks st)) (hf : 0 ≤ f) (ht : t ≤ 1073741824) (hft : f ≤ t) :
    Calls Try.prog 98 #[.agg #[.int .i64 k, .int .i64 f, .int .i64 t, .int .i64 g, .int .i64 h, .int .i64 i, .int .i64 m, .int .i64 v, .slice A n c, .slice A' n' c']] w fun e w' => e = .returned (.bool (sh5 f t g h i m v n n')) ∧ Below w.heap.size w w' := by
  have hs := fun W (hb : Below w.heap.size w W) => ssame_any k f t g h i m v k f t 0 0 0 0 0 A A' none A' n n' 0 n' c c' 0 c' (decide (n = 0)) true W
    (fun W' hb' => calls_on hb' (tsame_nil A n c W' hn)) (fun W' hb' => calls_on hb' (eqmk_self A' n' c' st W' hn' ((hrd.below (hb.trans (hb'.mono hb.size))).more (Nat.le_trans hb.size hb'.size))))
  obtain ⟨b, hb⟩ : ∃ b, (eight k f t g h i m v k f t 0 0 0 0 0 && decide (n = 0) && true) = b := ⟨_, rfl⟩
  rw [hb] at hs
  have hres : sh5 f t g h i m v n n' = (b && decide ((n' : Int) = t - f) && decide (n' ≤ 20000)) := by
    rw [← hb]
    unfold sh5 eight
    rw [Bool.eq_iff_iff]
    simp
    omega
  rw [hres]
  have HS := Lib.hid hs
  unfold maxLen at hn'
  have e0 : IntKind.i64.wrap (t - f) = t - f := IntWalk.i64_in _ (by omega)
  clear hs hb hres hrd
  have hc : (((n' : Int) == t - f) = true ∧ decide ((n' : Int) = t - f) = true) ∨ (((n' : Int) == t - f) = false ∧ decide ((n' : Int) = t - f) = false) := by
    by_cases h1 : (n' : Int) = t - f
    · exact .inl ⟨by simpa using h1, decide_eq_true h1⟩
    · exact .inr ⟨by simpa using h1, decide_eq_false h1⟩
  rcases hc with ⟨g1, g3⟩ | ⟨g1, g3⟩
  all_goals
    rw [g3]
    clear g3
    cases b
    all_goals
      go_enter Try.func98, Try.ntmps98
      go_wp2_with (go_at_call 81; (refine (HS.out _ (by repeat (first | with_reducible exact Below.refl _ _ | with_reducible assumption | (with_reducible refine below_drewN ?_ _) | (with_reducible refine Below.drew ?_) | (with_reducible refine Below.alloc ?_ ?_ _; rotate_left; focus (first | with_reducible assumption | omega | (simp; done) | (simp; omega))) | (with_reducible refine Below.setCell ?_ ?_ _; rotate_left; focus (first | with_reducible assumption | omega | (simp; done) | (simp; omega)))))).mono ?_); rintro e w1 ⟨rfl, hb1⟩; have hb2 : Below w.heap.size w w1 := Below.trans (by repeat (first | with_reducible exact Below.refl _ _ | with_reducible assumption | (with_reducible refine below_drewN ?_ _) | (with_reducible refine Below.drew ?_) | (with_reducible refine Below.alloc ?_ ?_ _; rotate_left; focus (first | with_reducible assumption | omega | (simp; done) | (simp; omega))) | (with_reducible refine Below.setCell ?_ ?_ _; rotate_left; focus (first | with_reducible assumption | omega | (simp; done) | (simp; omega))))) (hb1.mono (by simp)); have k1 := (Bk.new w 118 #[.int .i64 k, .int .i64 f, .int .i64 t, .int .i64 g, .int .i64 h, .int .i64 i, .int .i64 m, .int .i64 v, .slice A n c, .slice A' n' c']).ext hb1; have d1 := k1.cell 1; have d2 := k1.cell 2; have d9 := k1.cell 9; dsimp at d1 d2 d9)
      go_ret
      exact ⟨ret_bool (by rw [Bool.eq_iff_iff]; simp <;> omega), hb2⟩
end Go.Proofs.Ytmacfoebfpljoaa
