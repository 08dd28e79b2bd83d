/- step: Map, whose result is new -/
import Derived.Test.YtmacfoebfpljoaaStG
namespace Go.Proofs.Ytmacfoebfpljoaa
open Go.RowKit

/-- a map comes out -/
abbrev Maps2 (w : World) (l : List Rg) (e : Ending) (w' : World) : Prop := ∃ A2 c2, e = .returned (.slice A2 l.length c2) ∧ Rd w' w'.heap.size 3 A2 l.length (rgs l) ∧ ((A2 = none → l.length = 0) ∧ ∀ a, A2 = some a → w.heap.size ≤ a.block) ∧ Below w.heap.size w w'
theorem maps_niln (w w' : World) (hb : Below w.heap.size w w') : Maps2 w [] (.returned (.slice none 0 0)) w' := ⟨none, 0, rfl, Rd.nil_ _ _ _ _, ⟨fun _ => rfl, fun _ e => by cases e⟩, hb⟩

set_option maxRecDepth 100000 in
set_option maxHeartbeats 1000000 in
theorem ranges_1n (k : Int) (f t g h i m v : Int) (A A' : Option Addr) (n n' c c' : Nat) (w : World) (hb : 0 ≤ f ∧ f ≤ t ∧ t ≤ 1073741824) :
    Calls Try.prog 77 #[.agg #[.int .i64 k, .int .i64 f, .int .i64 t, .int .i64 g, .int .i64 h, .int .i64 i, .int .i64 m, .int .i64 v, .slice A n c, .slice A' n' c']] w (Maps2 w [⟨f, t - f, n⟩]) := by
  have e0 : IntKind.i64.wrap (t - f) = t - f := IntWalk.i64_in _ (by omega)
  clear hb
  go_enter Try.func77, Try.ntmps77
  go_wp2
  go_ret
  exact ⟨_, _, rfl, rd_new _ #[.int .i64 f, .int .i64 (t - f), .int .i64 (n : Int)] 1 3 (by simp) rfl, ⟨by simp, by intro a e; injection e with e; subst e; simp⟩, by repeat (first | with_reducible exact Below.refl _ _ | with_reducible assumption | (with_reducible refine below_drewN ?_ _) | (with_reducible refine Below.drew ?_) | (with_reducible refine Below.alloc ?_ ?_ _; rotate_left; focus (first | with_reducible assumption | omega | (simp; done) | (simp; omega))) | (with_reducible refine Below.setCell ?_ ?_ _; rotate_left; focus (first | with_reducible assumption | omega | (simp; done) | (simp; omega))))⟩

set_option maxRecDepth 100000 in
set_option maxHeartbeats 1000000 in
theorem ranges_2n (f t g h i m v : Int) (A A' : Option Addr) (n n' c c' : Nat) (w : World) (hb : 0 ≤ f ∧ f ≤ t ∧ t ≤ 1073741824) (hg : f ≤ g ∧ g ≤ h ∧ h ≤ t ∧ 0 ≤ i ∧ i ≤ n) (hn : n ≤ 20000) :
    Calls Try.prog 86 #[.agg #[.int .i64 2, .int .i64 f, .int .i64 t, .int .i64 g, .int .i64 h, .int .i64 i, .int .i64 m, .int .i64 v, .slice A n c, .slice A' n' c']] w (Maps2 w (mapS 2 f t g h i n)) := by
  by_cases hgh : g = h
  · subst hgh
    have hr := fun W (hb' : Below w.heap.size w W) => ranges_1n 2 f t g g i m v A A' n n' c c' W hb
    have HR := Lib.hid hr
    have e : mapS 2 f t g g i n = [⟨f, t - f, n⟩] := by unfold mapS; rw [if_pos (.inr ⟨rfl, rfl⟩)]
    rw [e]
    clear hr e hb hg
    go_enter Try.func86, Try.ntmps86
    go_wp2_with (go_at_call 77; (refine (HR.out _ (by repeat (first | with_reducible exact Below.refl _ _ | with_reducible assumption | (with_reducible refine below_drewN ?_ _) | (with_reducible refine Below.drew ?_) | (with_reducible refine Below.alloc ?_ ?_ _; rotate_left; focus (first | with_reducible assumption | omega | (simp; done) | (simp; omega))) | (with_reducible refine Below.setCell ?_ ?_ _; rotate_left; focus (first | with_reducible assumption | omega | (simp; done) | (simp; omega)))))).mono ?_); rintro e w1 ⟨A2, c2, rfl, h1, h2, h3⟩)
    go_ret
    exact ⟨_, _, rfl, h1, ⟨h2.1, fun a e => Nat.le_trans (by simp) (h2.2 a e)⟩, Below.trans (by repeat (first | with_reducible exact Below.refl _ _ | with_reducible assumption | (with_reducible refine below_drewN ?_ _) | (with_reducible refine Below.drew ?_) | (with_reducible refine Below.alloc ?_ ?_ _; rotate_left; focus (first | with_reducible assumption | omega | (simp; done) | (simp; omega))) | (with_reducible refine Below.setCell ?_ ?_ _; rotate_left; focus (first | with_reducible assumption | omega | (simp; done) | (simp; omega))))) (h3.mono (by simp))⟩
  · have e : mapS 2 f t g h i n = [⟨f, g - f, i⟩, ⟨h, t - h, n - i⟩] := by unfold mapS; rw [if_neg (by omega), if_pos rfl]
    rw [e]
    have e1 : (g == h) = false := by simpa using hgh
    have e2 : IntKind.i64.wrap (g - f) = g - f := IntWalk.i64_in _ (by omega)
    have e3 : IntKind.i64.wrap (t - h) = t - h := IntWalk.i64_in _ (by omega)
    have e4 : IntKind.i64.wrap ((n : Int) - i) = n - i := IntWalk.i64_in _ (by omega)
    clear e hb hg hgh
    go_enter Try.func86, Try.ntmps86
    go_wp2
    go_ret
    exact ⟨_, _, rfl, rd_new _ #[.int .i64 f, .int .i64 (g - f), .int .i64 i, .int .i64 h, .int .i64 (t - h), .int .i64 ((n : Int) - i)] 2 3 (by simp) rfl, ⟨by simp, by intro a e; injection e with e; subst e; simp⟩, by repeat (first | with_reducible exact Below.refl _ _ | with_reducible assumption | (with_reducible refine below_drewN ?_ _) | (with_reducible refine Below.drew ?_) | (with_reducible refine Below.alloc ?_ ?_ _; rotate_left; focus (first | with_reducible assumption | omega | (simp; done) | (simp; omega))) | (with_reducible refine Below.setCell ?_ ?_ _; rotate_left; focus (first | with_reducible assumption | omega | (simp; done) | (simp; omega))))⟩

theorem ranges_3n (k : Int) (f t g h i m v : Int) (A A' : Option Addr) (n n' c c' : Nat) (w : World) :
    Calls Try.prog 91 #[.agg #[.int .i64 k, .int .i64 f, .int .i64 t, .int .i64 g, .int .i64 h, .int .i64 i, .int .i64 m, .int .i64 v, .slice A n c, .slice A' n' c']] w (Maps2 w []) := by
  go_enter Try.func91, Try.ntmps91
  go_wp2
  go_ret
  exact maps_niln _ _ (by repeat (first | with_reducible exact Below.refl _ _ | with_reducible assumption | (with_reducible refine below_drewN ?_ _) | (with_reducible refine Below.drew ?_) | (with_reducible refine Below.alloc ?_ ?_ _; rotate_left; focus (first | with_reducible assumption | omega | (simp; done) | (simp; omega))) | (with_reducible refine Below.setCell ?_ ?_ _; rotate_left; focus (first | with_reducible assumption | omega | (simp; done) | (simp; omega)))))
theorem ranges_5n (k : Int) (f t g h i m v : Int) (A A' : Option Addr) (n n' c c' : Nat) (w : World) :
    Calls Try.prog 96 #[.agg #[.int .i64 k, .int .i64 f, .int .i64 t, .int .i64 g, .int .i64 h, .int .i64 i, .int .i64 m, .int .i64 v, .slice A n c, .slice A' n' c']] w (Maps2 w []) := by
  go_enter Try.func96, Try.ntmps96
  go_wp2
  go_ret
  exact maps_niln _ _ (by repeat (first | with_reducible exact Below.refl _ _ | with_reducible assumption | (with_reducible refine below_drewN ?_ _) | (with_reducible refine Below.drew ?_) | (with_reducible refine Below.alloc ?_ ?_ _; rotate_left; focus (first | with_reducible assumption | omega | (simp; done) | (simp; omega))) | (with_reducible refine Below.setCell ?_ ?_ _; rotate_left; focus (first | with_reducible assumption | omega | (simp; done) | (simp; omega)))))

set_option maxRecDepth 100000 in
set_option maxHeartbeats 2000000 in
theorem map_anyn (k f t g h i m v : Int) (A A' : Option Addr) (n n' c c' : Nat) (w : World) (sl : List Tok) (st : List Mk) (hn : n ≤ maxLen) (hn' : n' ≤ maxLen) (hrd : Rd w w.heap.size 12 A n (toks sl)) (hrd' : Rd w w.heap.size 8 A' n' (mks st)) :
    Calls Try.prog 40 #[.agg #[.int .i64 k, .int .i64 f, .int .i64 t, .int .i64 g, .int .i64 h, .int .i64 i, .int .i64 m, .int .i64 v, .slice A n c, .slice A' n' c']] w (Maps2 w (mapB k f t g h i m v n n')) := by
  have hs := fun W (hb : Below w.heap.size w W) => calls_on hb (shape_any k f t g h i m v A A' n n' c c' W sl st hn hn' ((hrd.below hb).more hb.size) ((hrd'.below hb).more hb.size))
  unfold mapB
  cases hsh : shB k f t g h i m v n n' with
  | false =>
    rw [hsh] at hs
    have HS := Lib.hid hs
    clear hs hrd hrd' hsh
    simp only [Bool.false_eq_true, if_false]
    go_enter Try.func40, Try.ntmps40
    go_wp2_with (go_at_call 37; (refine (HS.out _ (by repeat (first | with_reducible exact Below.refl _ _ | with_reducible assumption | (with_reducible refine below_drewN ?_ _) | (with_reducible refine Below.drew ?_) | (with_reducible refine Below.alloc ?_ ?_ _; rotate_left; focus (first | with_reducible assumption | omega | (simp; done) | (simp; omega))) | (with_reducible refine Below.setCell ?_ ?_ _; rotate_left; focus (first | with_reducible assumption | omega | (simp; done) | (simp; omega)))))).mono ?_); rintro e w1 ⟨rfl, hb1, hz1, hx1⟩)
    go_ret
    exact maps_niln _ _ hb1
  | true =>
    rw [hsh] at hs
    have HS := Lib.hid hs
    simp only [if_true]
    unfold shB at hsh
    rw [Bool.and_eq_true] at hsh
    obtain ⟨hbx, hsh⟩ := hsh
    have hbx : 0 ≤ f ∧ f ≤ t ∧ t ≤ 1073741824 := by simpa [boxes] using hbx
    clear hs hrd hrd'
    by_cases k1 : k = 1
    · subst k1
      have ho := fun W (hb : Below w.heap.size w W) => calls_on hb (of1 f t g h i m v A A' n n' c c' W)
      have hr := fun W => ranges_1n 1 f t g h i m v A A' n n' c c' W hbx
      have e : mapS 1 f t g h i n = [⟨f, t - f, n⟩] := by unfold mapS; rw [if_pos (.inl rfl)]
      rw [e]
      have HO := Lib.hid ho
      have HR := Lib.hid hr
      have hm : ∀ w, (method 269 115 (.agg #[.int .i64 1, .int .i64 f, .int .i64 t, .int .i64 g, .int .i64 h, .int .i64 i, .int .i64 m, .int .i64 v, .slice A n c, .slice A' n' c']) "stet/step.ranges").run Try.prog w = .ok (77, .agg #[.int .i64 1, .int .i64 f, .int .i64 t, .int .i64 g, .int .i64 h, .int .i64 i, .int .i64 m, .int .i64 v, .slice A n c, .slice A' n' c']) w := fun _ => by kernel_rfl
      clear ho hr e hsh
      go_enter Try.func40, Try.ntmps40
      go_wp2_with (first
        | (go_at_call 37; (refine (HS.out _ (by repeat (first | with_reducible exact Below.refl _ _ | with_reducible assumption | (with_reducible refine below_drewN ?_ _) | (with_reducible refine Below.drew ?_) | (with_reducible refine Below.alloc ?_ ?_ _; rotate_left; focus (first | with_reducible assumption | omega | (simp; done) | (simp; omega))) | (with_reducible refine Below.setCell ?_ ?_ _; rotate_left; focus (first | with_reducible assumption | omega | (simp; done) | (simp; omega)))))).mono ?_); rintro e w1 ⟨rfl, hb1, hz1, hx1⟩; have kb := (Bk.new w 41 #[.int .i64 1, .int .i64 f, .int .i64 t, .int .i64 g, .int .i64 h, .int .i64 i, .int .i64 m, .int .i64 v, .slice A n c, .slice A' n' c']).ext hx1; have lb := def_lt' kb; have d0 := kb.cell 0; have d1 := kb.cell 1; have d2 := kb.cell 2; have d3 := kb.cell 3; have d4 := kb.cell 4; have d5 := kb.cell 5; have d6 := kb.cell 6; have d7 := kb.cell 7; have d8 := kb.cell 8; have d9 := kb.cell 9; dsimp at d0 d1 d2 d3 d4 d5 d6 d7 d8 d9)
        | (go_at_call 49; (refine (HO.out _ hb1).mono ?_); rintro e w2 ⟨rfl, hb2, hz2, hx2⟩)
        | (go_at_call 77; (refine (HR.out _).mono ?_); rintro e w3 ⟨A2, c2, rfl, h1, h2, h3⟩))
      go_ret
      exact ⟨_, _, rfl, h1, ⟨h2.1, fun a e => Nat.le_trans hz2 (h2.2 a e)⟩, hb2.trans (h3.mono hz2)⟩
    by_cases k2 : k = 2
    · subst k2
      rw [if_neg (by omega), if_pos rfl] at hsh
      have hsh2 : f ≤ g ∧ g ≤ h ∧ h ≤ t ∧ 0 ≤ i ∧ i ≤ n ∧ n ≤ 20000 ∧ m = 0 ∧ v = 0 ∧ n' = 0 := by simpa [sh2] using hsh
      have ho := fun W (hb : Below w.heap.size w W) => calls_on hb (of2 f t g h i m v A A' n n' c c' W)
      have hr := fun W => ranges_2n f t g h i m v A A' n n' c c' W hbx ⟨hsh2.1, hsh2.2.1, hsh2.2.2.1, hsh2.2.2.2.1, hsh2.2.2.2.2.1⟩ hsh2.2.2.2.2.2.1
      have HO := Lib.hid ho
      have HR := Lib.hid hr
      have hm : ∀ w, (method 269 116 (.agg #[.int .i64 2, .int .i64 f, .int .i64 t, .int .i64 g, .int .i64 h, .int .i64 i, .int .i64 m, .int .i64 v, .slice A n c, .slice A' n' c']) "stet/step.ranges").run Try.prog w = .ok (86, .agg #[.int .i64 2, .int .i64 f, .int .i64 t, .int .i64 g, .int .i64 h, .int .i64 i, .int .i64 m, .int .i64 v, .slice A n c, .slice A' n' c']) w := fun _ => by kernel_rfl
      clear ho hr hsh hsh2 k1
      go_enter Try.func40, Try.ntmps40
      go_wp2_with (first
        | (go_at_call 37; (refine (HS.out _ (by repeat (first | with_reducible exact Below.refl _ _ | with_reducible assumption | (with_reducible refine below_drewN ?_ _) | (with_reducible refine Below.drew ?_) | (with_reducible refine Below.alloc ?_ ?_ _; rotate_left; focus (first | with_reducible assumption | omega | (simp; done) | (simp; omega))) | (with_reducible refine Below.setCell ?_ ?_ _; rotate_left; focus (first | with_reducible assumption | omega | (simp; done) | (simp; omega)))))).mono ?_); rintro e w1 ⟨rfl, hb1, hz1, hx1⟩; have kb := (Bk.new w 41 #[.int .i64 2, .int .i64 f, .int .i64 t, .int .i64 g, .int .i64 h, .int .i64 i, .int .i64 m, .int .i64 v, .slice A n c, .slice A' n' c']).ext hx1; have lb := def_lt' kb; have d0 := kb.cell 0; have d1 := kb.cell 1; have d2 := kb.cell 2; have d3 := kb.cell 3; have d4 := kb.cell 4; have d5 := kb.cell 5; have d6 := kb.cell 6; have d7 := kb.cell 7; have d8 := kb.cell 8; have d9 := kb.cell 9; dsimp at d0 d1 d2 d3 d4 d5 d6 d7 d8 d9)
        | (go_at_call 49; (refine (HO.out _ hb1).mono ?_); rintro e w2 ⟨rfl, hb2, hz2, hx2⟩)
        | (go_at_call 86; (refine (HR.out _).mono ?_); rintro e w3 ⟨A2, c2, rfl, h1, h2, h3⟩))
      go_ret
      exact ⟨_, _, rfl, h1, ⟨h2.1, fun a e => Nat.le_trans hz2 (h2.2 a e)⟩, hb2.trans (h3.mono hz2)⟩
    have e : mapS k f t g h i n = [] := by unfold mapS; rw [if_neg (by omega), if_neg k2]
    rw [e]
    rw [if_neg k1, if_neg k2] at hsh
    by_cases k3 : k = 3 ∨ k = 4
    · have ho := fun W (hb : Below w.heap.size w W) => calls_on hb (of3 k k3 f t g h i m v A A' n n' c c' W)
      have hr := fun W => ranges_3n k f t g h i m v A A' n n' c c' W
      have HO := Lib.hid ho
      have HR := Lib.hid hr
      have hm : ∀ w, (method 269 117 (.agg #[.int .i64 k, .int .i64 f, .int .i64 t, .int .i64 g, .int .i64 h, .int .i64 i, .int .i64 m, .int .i64 v, .slice A n c, .slice A' n' c']) "stet/step.ranges").run Try.prog w = .ok (91, .agg #[.int .i64 k, .int .i64 f, .int .i64 t, .int .i64 g, .int .i64 h, .int .i64 i, .int .i64 m, .int .i64 v, .slice A n c, .slice A' n' c']) w := fun _ => by kernel_rfl
      clear ho hr hsh k1 k2 k3 e
      go_enter Try.func40, Try.ntmps40
      go_wp2_with (first
        | (go_at_call 37; (refine (HS.out _ (by repeat (first | with_reducible exact Below.refl _ _ | with_reducible assumption | (with_reducible refine below_drewN ?_ _) | (with_reducible refine Below.drew ?_) | (with_reducible refine Below.alloc ?_ ?_ _; rotate_left; focus (first | with_reducible assumption | omega | (simp; done) | (simp; omega))) | (with_reducible refine Below.setCell ?_ ?_ _; rotate_left; focus (first | with_reducible assumption | omega | (simp; done) | (simp; omega)))))).mono ?_); rintro e w1 ⟨rfl, hb1, hz1, hx1⟩; have kb := (Bk.new w 41 #[.int .i64 k, .int .i64 f, .int .i64 t, .int .i64 g, .int .i64 h, .int .i64 i, .int .i64 m, .int .i64 v, .slice A n c, .slice A' n' c']).ext hx1; have lb := def_lt' kb; have d0 := kb.cell 0; have d1 := kb.cell 1; have d2 := kb.cell 2; have d3 := kb.cell 3; have d4 := kb.cell 4; have d5 := kb.cell 5; have d6 := kb.cell 6; have d7 := kb.cell 7; have d8 := kb.cell 8; have d9 := kb.cell 9; dsimp at d0 d1 d2 d3 d4 d5 d6 d7 d8 d9)
        | (go_at_call 49; (refine (HO.out _ hb1).mono ?_); rintro e w2 ⟨rfl, hb2, hz2, hx2⟩)
        | (go_at_call 91; (refine (HR.out _).mono ?_); rintro e w3 ⟨A2, c2, rfl, h1, h2, h3⟩))
      go_ret
      exact ⟨_, _, rfl, h1, ⟨h2.1, fun a e => Nat.le_trans hz2 (h2.2 a e)⟩, hb2.trans (h3.mono hz2)⟩
    rw [if_neg k3] at hsh
    have k5 : k = 5 := by
      by_cases k5 : k = 5
      · exact k5
      · rw [if_neg k5] at hsh; cases hsh
    subst k5
    have ho := fun W (hb : Below w.heap.size w W) => calls_on hb (of5 f t g h i m v A A' n n' c c' W)
    have hr := fun W => ranges_5n 5 f t g h i m v A A' n n' c c' W
    have HO := Lib.hid ho
    have HR := Lib.hid hr
    have hm : ∀ w, (method 269 118 (.agg #[.int .i64 5, .int .i64 f, .int .i64 t, .int .i64 g, .int .i64 h, .int .i64 i, .int .i64 m, .int .i64 v, .slice A n c, .slice A' n' c']) "stet/step.ranges").run Try.prog w = .ok (96, .agg #[.int .i64 5, .int .i64 f, .int .i64 t, .int .i64 g, .int .i64 h, .int .i64 i, .int .i64 m, .int .i64 v, .slice A n c, .slice A' n' c']) w := fun _ => by kernel_rfl
    clear ho hr hsh k1 k2 k3 e
    go_enter Try.func40, Try.ntmps40
    go_wp2_with (first
      | (go_at_call 37; (refine (HS.out _ (by repeat (first | with_reducible exact Below.refl _ _ | with_reducible assumption | (with_reducible refine below_drewN ?_ _) | (with_reducible refine Below.drew ?_) | (with_reducible refine Below.alloc ?_ ?_ _; rotate_left; focus (first | with_reducible assumption | omega | (simp; done) | (simp; omega))) | (with_reducible refine Below.setCell ?_ ?_ _; rotate_left; focus (first | with_reducible assumption | omega | (simp; done) | (simp; omega)))))).mono ?_); rintro e w1 ⟨rfl, hb1, hz1, hx1⟩; have kb := (Bk.new w 41 #[.int .i64 5, .int .i64 f, .int .i64 t, .int .i64 g, .int .i64 h, .int .i64 i, .int .i64 m, .int .i64 v, .slice A n c, .slice A' n' c']).ext hx1; have lb := def_lt' kb; have d0 := kb.cell 0; have d1 := kb.cell 1; have d2 := kb.cell 2; have d3 := kb.cell 3; have d4 := kb.cell 4; have d5 := kb.cell 5; have d6 := kb.cell 6; have d7 := kb.cell 7; have d8 := kb.cell 8; have d9 := kb.cell 9; dsimp at d0 d1 d2 d3 d4 d5 d6 d7 d8 d9)
      | (go_at_call 49; (refine (HO.out _ hb1).mono ?_); rintro e w2 ⟨rfl, hb2, hz2, hx2⟩)
      | (go_at_call 96; (refine (HR.out _).mono ?_); rintro e w3 ⟨A2, c2, rfl, h1, h2, h3⟩))
    go_ret
    exact ⟨_, _, rfl, h1, ⟨h2.1, fun a e => Nat.le_trans hz2 (h2.2 a e)⟩, hb2.trans (h3.mono hz2)⟩
end Go.Proofs.Ytmacfoebfpljoaa
