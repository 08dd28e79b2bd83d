/- chain: what is owned, by its types; own, whose lists are owned -/
import Derived.Test.YtmacfoebfpljoaaCj
namespace Go.Proofs.Ytmacfoebfpljoaa
open Go.RowKit

section
variable {w w' : World} {base base' size size' n n' : Nat} {e e' : TypeId} {v v' : Value} {xs xs' : List Value}
theorem own_grow (h : w.ownsRow base e size v n xs) {row : Option Nat} (hg : w.grownBy w' row) (hne : ∀ g, row = some g → v.ownBlock ≠ some g) : w'.ownsRow base e size v n xs := by
  obtain ⟨h1, h2⟩ := h
  refine ⟨h1, ?_⟩
  rcases h2 with h2 | ⟨g, cap, cur, hv, hb, hh, r⟩
  · exact .inl h2
  · refine .inr ⟨g, cap, cur, hv, hb, (hg.block g (def_lt' hh) (fun e => hne g e.symm (by rw [hv]; rfl))).trans hh, r⟩
theorem own_type (h1 : w.ownsRow base e size v n xs) (h2 : w.ownsRow base' e' size' v' n' xs') (hne : e ≠ e') : ∀ g, v'.ownBlock = some g → v.ownBlock ≠ some g := by
  intro g hg' hg
  rcases h1.2 with ⟨rfl, _⟩ | ⟨a, cap, cur, rfl, _, hh, _⟩
  · simp [Value.ownBlock] at hg
  · rcases h2.2 with ⟨rfl, _⟩ | ⟨a', cap', cur', rfl, _, hh', _⟩
    · simp [Value.ownBlock] at hg'
    · simp [Value.ownBlock] at hg hg'
      subst hg; subst hg'
      rw [hh] at hh'
      injection hh' with hh'
      injection hh' with _ h3
      exact hne h3
theorem own_len (h : w.ownsRow base e size v n xs) : xs.length = n * size := h.1
end
theorem own_none {w : World} {base size n c : Nat} {e : TypeId} {A : Option Addr} {xs : List Value} (h : w.ownsRow base e size (.slice A n c) n xs) : A = none → n = 0 := by
  rintro rfl
  rcases h.2 with ⟨e1, _⟩ | ⟨g, cap, cur, e1, _⟩
  · injection e1
  · injection e1 with e1
    cases e1
/-- a step whose lists are owned -/
structure StH.Own (w : World) (base : Nat) (s : StH) : Prop where
  o : w.ownsRow base 91 12 (.slice s.A s.n s.c) s.n (toks s.x.sl)
  o' : w.ownsRow base 89 8 (.slice s.A' s.n' s.c') s.n' (mks s.x.st)
  n : s.n ≤ 1000000
  n' : s.n' ≤ 1000000
section
variable {w w' : World} {base : Nat} {s : StH}
theorem StH.Own.in_ (h : s.Own w base) : s.In w w.heap.size := by
  exact ⟨Rd.of_own h.o, Rd.of_own h.o', h.n, h.n', own_none h.o, own_none h.o'⟩
theorem StH.Own.below (h : s.Own w base) (hb : Below w.heap.size w w') : s.Own w' base := ⟨own_below h.o hb, own_below h.o' hb, h.n, h.n'⟩
theorem StH.Own.base_ {base' : Nat} (h : s.Own w base) (hb : base' ≤ base) : s.Own w base' := ⟨own_base h.o hb, own_base h.o' hb, h.n, h.n'⟩
/-- kept where a row of another kind grows -/
theorem StH.Own.grow (h : s.Own w base) {b2 size2 n2 : Nat} {e2 : TypeId} {v2 : Value} {xs2 : List Value} (hr : w.ownsRow b2 e2 size2 v2 n2 xs2) (hg : w.grownBy w' v2.ownBlock) (h1 : 91 ≠ e2) (h2 : 89 ≠ e2) : s.Own w' base :=
  ⟨own_grow h.o hg (own_type h.o hr h1), own_grow h.o' hg (own_type h.o' hr h2), h.n, h.n'⟩
/-- kept where a block of another kind is written -/
theorem StH.Own.grown (h : s.Own w base) {b : Nat} {t : TypeId} {cs : Array Value} (hk : Bk w b t cs) (hg : w.grownBy w' (some b)) (h1 : 91 ≠ t) (h2 : 89 ≠ t) : s.Own w' base :=
  ⟨own_grow h.o hg (fun g e => by injection e with e; subst e; exact own_ne h.o hk h1), own_grow h.o' hg (fun g e => by injection e with e; subst e; exact own_ne h.o' hk h2), h.n, h.n'⟩
end
/-- a group whose steps are owned -/
structure GrH.Own (w : World) (base : Nat) (g : GrH) : Prop where
  o : w.ownsRow base 41 10 (.slice g.A g.n g.c) g.n (sts g.L)
  l : ∀ s ∈ g.L, s.Own w base
  n : g.n ≤ 1000000
section
variable {w w' : World} {base : Nat} {g : GrH}
theorem GrH.Own.in_ (h : g.Own w base) : g.In w w.heap.size := by
  exact ⟨⟨Rd.of_own h.o, fun s hs => (h.l s hs).in_⟩, h.n, own_none h.o⟩
theorem GrH.Own.below (h : g.Own w base) (hb : Below w.heap.size w w') : g.Own w' base := ⟨own_below h.o hb, fun s hs => (h.l s hs).below hb, h.n⟩
theorem GrH.Own.base_ {base' : Nat} (h : g.Own w base) (hb : base' ≤ base) : g.Own w base' := ⟨own_base h.o hb, fun s hs => (h.l s hs).base_ hb, h.n⟩
theorem GrH.Own.grow (h : g.Own w base) {b2 size2 n2 : Nat} {e2 : TypeId} {v2 : Value} {xs2 : List Value} (hr : w.ownsRow b2 e2 size2 v2 n2 xs2) (hg : w.grownBy w' v2.ownBlock) (h0 : 41 ≠ e2) (h1 : 91 ≠ e2) (h2 : 89 ≠ e2) : g.Own w' base :=
  ⟨own_grow h.o hg (own_type h.o hr h0), fun s hs => (h.l s hs).grow hr hg h1 h2, h.n⟩
theorem GrH.Own.grown (h : g.Own w base) {b : Nat} {t : TypeId} {cs : Array Value} (hk : Bk w b t cs) (hg : w.grownBy w' (some b)) (h0 : 41 ≠ t) (h1 : 91 ≠ t) (h2 : 89 ≠ t) : g.Own w' base :=
  ⟨own_grow h.o hg (fun x e => by injection e with e; subst e; exact own_ne h.o hk h0), fun s hs => (h.l s hs).grown hk hg h1 h2, h.n⟩
end

/-- a list comes out, owned -/
def ListOwn (t : TypeId) (size n : Nat) (xs : List Value) (w W : World) (e : Ending) (w' : World) : Prop := ∃ A c, e = .returned (.slice A n c) ∧ w'.ownsRow W.heap.size t size (.slice A n c) n xs ∧ Below w.heap.size w w' ∧ Below W.heap.size W w'
theorem list_own {size n : Nat} {t : TypeId} {xs : List Value} {w W : World} {e : Ending} {w' : World} (hb : Below w.heap.size w W) (h : Cloned t size n xs W e w') : ListOwn t size n xs w W e w' := by
  obtain ⟨v, rfl, ho, hb2⟩ := h
  obtain ⟨A, c, rfl, _, _, h3, h4⟩ := own_form ho
  exact ⟨A, c, rfl, ho, hb.trans (hb2.mono hb.size), hb2⟩
/-- a step comes out, like another, its lists owned -/
def StepOwn (x : StC) (w : World) (e : Ending) (w' : World) : Prop := ∃ A n c A' n' c', e = .returned (.agg (stp x.k x.f x.t x.g x.h x.i x.m x.v A n c A' n' c')) ∧ (StH.mk A n c A' n' c' x).Own w' w.heap.size ∧ Below w.heap.size w w'
theorem set10_own {W : World} {b : Nat} {cs : Array Value} (hk : Bk W b 41 cs) {base size nn : Nat} {e : TypeId} {vv : Value} {xs : List Value} (ho : W.ownsRow base e size vv nn xs) (hne : e ≠ 41) (k f t g h i m v : Int) (A : Option Addr) (n c : Nat) (A' : Option Addr) (n' c' : Nat) : (set10 W b k f t g h i m v A n c A' n' c').ownsRow base e size vv nn xs :=
  own_grow ho (set10_gr (row := some b) (World.grownBy.refl W _) (.inl rfl) k f t g h i m v A n c A' n' c') (fun x e => by injection e with e; subst e; exact own_ne ho hk hne)

set_option maxRecDepth 100000 in
set_option maxHeartbeats 4000000 in
theorem own_any2 (x : StC) (A : Option Addr) (n c : Nat) (A' : Option Addr) (n' c' : Nat) (w : World) (h : (StH.mk A n c A' n' c' x).In w w.heap.size) :
    Calls Try.prog 25 #[.agg (stp x.k x.f x.t x.g x.h x.i x.m x.v A n c A' n' c')] w (StepOwn x w) := by
  have h1 := fun W (hb : Below w.heap.size w W) => (clone_tok A n c x.sl W ((h.rd.below hb).more hb.size) h.A h.n).mono fun _ _ => list_own hb
  have h2 := fun W (hb : Below w.heap.size w W) => (clone_mk A' n' c' x.st W ((h.rd'.below hb).more hb.size) h.A' h.n').mono fun _ _ => list_own hb
  have H1 := Lib.hid h1
  have H2 := Lib.hid h2
  have hn1 := h.n
  have hn2 := h.n'
  obtain ⟨xk, xf, xt, xg, xh, xi, xm, xv, sl, st⟩ := x
  simp only at *
  clear h h1 h2
  have k1 : Bk ((w.alloc (.cells (stp xk xf xt xg xh xi xm xv A n c A' n' c') 41)).alloc (.cells (stp 0 0 0 0 0 0 0 0 none 0 0 none 0 0) 41)) w.heap.size 41 (stp xk xf xt xg xh xi xm xv A n c A' n' c') := (Bk.new w _ _).alloc _
  have k2 : Bk ((w.alloc (.cells (stp xk xf xt xg xh xi xm xv A n c A' n' c') 41)).alloc (.cells (stp 0 0 0 0 0 0 0 0 none 0 0 none 0 0) 41)) (w.heap.size + 1) 41 (stp 0 0 0 0 0 0 0 0 none 0 0 none 0 0) := Bk.made _ _ (by simp)
  have hb0 : Below w.heap.size w ((w.alloc (.cells (stp xk xf xt xg xh xi xm xv A n c A' n' c') 41)).alloc (.cells (stp 0 0 0 0 0 0 0 0 none 0 0 none 0 0) 41)) := by repeat (first | with_reducible exact Below.refl _ _ | with_reducible assumption | (with_reducible refine below_drewN ?_ _) | (with_reducible refine Below.drew ?_) | (with_reducible refine Below.alloc ?_ ?_ _; rotate_left; focus (first | with_reducible assumption | omega | (simp; done) | (simp; omega))) | (with_reducible refine Below.setCell ?_ ?_ _; rotate_left; focus (first | with_reducible assumption | omega | (simp; done) | (simp; omega))))
  go_enter Try.func25, Try.ntmps25
  go_upto_region 1 with fail
  have k2 : Bk ((w.alloc (.cells (stp xk xf xt xg xh xi xm xv A n c A' n' c') 41)).alloc (.cells #[.int .i64 0, .int .i64 0, .int .i64 0, .int .i64 0, .int .i64 0, .int .i64 0, .int .i64 0, .int .i64 0, .slice none 0 0, .slice none 0 0] 41)) (w.heap.size + 1) 41 (stp 0 0 0 0 0 0 0 0 none 0 0 none 0 0) := k2
  generalize (w.alloc (.cells (stp xk xf xt xg xh xi xm xv A n c A' n' c') 41)).alloc (.cells #[.int .i64 0, .int .i64 0, .int .i64 0, .int .i64 0, .int .i64 0, .int .i64 0, .int .i64 0, .int .i64 0, .slice none 0 0, .slice none 0 0] 41) = w0 at *
  have hF : ∀ w', Bk w' w.heap.size 41 (stp xk xf xt xg xh xi xm xv A n c A' n' c') → w'.cell? ⟨w.heap.size, 8, none⟩ = some (.slice A n c) ∧ w'.cell? ⟨w.heap.size, 9, none⟩ = some (.slice A' n' c') := fun w' h => ⟨h.cell 8, h.cell 9⟩
  have HF := Lib.hid hF
  have hz0 := hb0.size
  clear hF
  refine wp_normal ?_
  refine region_L (S := fun w' => Bk w' w.heap.size 41 (stp xk xf xt xg xh xi xm xv A n c A' n' c')) [7, 8, 9] (by kernel_rfl) k1.drew (fun hHeld => ?_)
  (refine takeL_if (i := 0) (oi := _) (v := ?_) (by simp only [List.getElem?_toArray, List.getElem?_cons_zero]; rfl) (by kernel_rfl) (by kernel_rfl) (by kernel_rfl) (fun _ _ _ h => h) (by rfl) ?_ (by assumption) ?_; rotate_left; (focus ((intro w hSw; (try have hSw := HF.out _ hSw); (try dsimp only at hSw); go_simp); try exact rfl)); simp only [Act.put, List.setIfInBounds_toArray, List.set_cons_zero, List.set_cons_succ]; refine takeL_if (i := 1) (oi := _) (v := ?_) (by simp only [List.getElem?_toArray, List.getElem?_cons_succ, List.getElem?_cons_zero]; rfl) (by kernel_rfl) (by kernel_rfl) (by kernel_rfl) (fun _ _ _ h => h) (by rfl) ?_ (by assumption) ?_; rotate_left; (focus ((intro w hSw; (try have hSw := HF.out _ hSw); (try dsimp only at hSw); go_simp); try exact rfl)); simp only [Act.put, List.setIfInBounds_toArray, List.set_cons_zero, List.set_cons_succ]; refine takeL_if (i := 3) (oi := _) (v := ?_) (by simp only [List.getElem?_toArray, List.getElem?_cons_succ, List.getElem?_cons_zero]; rfl) (by kernel_rfl) (by kernel_rfl) (by kernel_rfl) (fun _ _ _ h => h) (by rfl) ?_ (by assumption) ?_; rotate_left; (focus ((intro w hSw; (try have hSw := HF.out _ hSw); (try dsimp only at hSw); go_simp); try exact rfl)); simp only [Act.put, List.setIfInBounds_toArray, List.set_cons_zero, List.set_cons_succ]; refine takeL_if (i := 4) (oi := _) (v := ?_) (by simp only [List.getElem?_toArray, List.getElem?_cons_succ, List.getElem?_cons_zero]; rfl) (by kernel_rfl) (by kernel_rfl) (by kernel_rfl) (fun _ _ _ h => h) (by rfl) ?_ (by assumption) ?_; rotate_left; (focus ((intro w hSw; (try have hSw := HF.out _ hSw); (try dsimp only at hSw); go_simp); try exact rfl)); simp only [Act.put, List.setIfInBounds_toArray, List.set_cons_zero, List.set_cons_succ])
  refine anyL_ready (rs := [2]) (by kernel_rfl) (by simp) ?_; refine (ReadyL.cons (o := _) (by simp only [List.getElem?_toArray, List.getElem?_cons_succ, List.getElem?_cons_zero]; rfl) (fun K hK => ?_) ReadyL.nil)
  go_simp
  go_at_call 41
  refine (H1.out _ hb0.drew).mono ?_
  rintro e w1 ⟨A2, c2, rfl, r1, b1, b1'⟩
  have x1 : Bk w1 w.heap.size 41 (stp xk xf xt xg xh xi xm xv A n c A' n' c') := k1.drew.ext b1'
  have y1 : Bk w1 (w.heap.size + 1) 41 (stp 0 0 0 0 0 0 0 0 none 0 0 none 0 0) := k2.drew.ext b1'
  refine hK.out _ _ x1 (fun hHeld => ?_)
  clear hK K; (try simp only [Act.put, List.setIfInBounds_toArray, List.set_cons_zero, List.set_cons_succ])
  (refine takeL_if (i := 6) (oi := _) (v := ?_) (by simp only [List.getElem?_toArray, List.getElem?_cons_succ, List.getElem?_cons_zero]; rfl) (by kernel_rfl) (by kernel_rfl) (by kernel_rfl) (fun _ _ _ h => h) (by rfl) ?_ (by assumption) ?_; rotate_left; (focus ((intro w hSw; (try have hSw := HF.out _ hSw); (try dsimp only at hSw); go_simp); try exact rfl)); simp only [Act.put, List.setIfInBounds_toArray, List.set_cons_zero, List.set_cons_succ])
  refine anyL_ready (rs := [5]) (by kernel_rfl) (by simp) ?_; refine (ReadyL.cons (o := _) (by simp only [List.getElem?_toArray, List.getElem?_cons_succ, List.getElem?_cons_zero]; rfl) (fun K hK => ?_) ReadyL.nil)
  go_simp
  go_at_call 42
  refine (H2.out _ b1).mono ?_
  rintro e w2 ⟨A2', c2', rfl, r2, b2, b2'⟩
  have x2 := x1.ext b2'
  have y2 := y1.ext b2'
  have r1' := own_below r1 b2'
  refine hK.out _ _ x2 (fun hHeld => ?_)
  clear hK K; (try simp only [Act.put, List.setIfInBounds_toArray, List.set_cons_zero, List.set_cons_succ])
  have f1 := x2.frozen; have f2 := y2.frozen; have l1 := def_lt' x2; have l2 := def_lt' y2
  have p0 := x2.cell 0; have p1 := x2.cell 1; have p2 := x2.cell 2; have p3 := x2.cell 3; have p4 := x2.cell 4; have p5 := x2.cell 5; have p6 := x2.cell 6; have p7 := x2.cell 7; have p8 := x2.cell 8; have p9 := x2.cell 9
  have q0 := y2.cell 0; have q1 := y2.cell 1; have q2 := y2.cell 2; have q3 := y2.cell 3; have q4 := y2.cell 4; have q5 := y2.cell 5; have q6 := y2.cell 6; have q7 := y2.cell 7; have q8 := y2.cell 8; have q9 := y2.cell 9
  dsimp [stp] at p0 p1 p2 p3 p4 p5 p6 p7 p8 p9 q0 q1 q2 q3 q4 q5 q6 q7 q8 q9
  refine anyL_late (i := 7) (o := _) (by kernel_rfl) (by kernel_rfl) (by simp only [List.getElem?_toArray, List.getElem?_cons_succ, List.getElem?_cons_zero]; rfl) (fun K hK => ?_)
  go_simp
  refine hK.out _ _ ?_
  clear hK K; (try simp only [Act.put, List.setIfInBounds_toArray, List.set_cons_zero, List.set_cons_succ])
  refine anyL_late (i := 8) (o := _) (by kernel_rfl) (by kernel_rfl) (by simp only [List.getElem?_toArray, List.getElem?_cons_succ, List.getElem?_cons_zero]; rfl) (fun K hK => ?_)
  go_simp
  refine hK.out _ _ ?_
  clear hK K; (try simp only [Act.put, List.setIfInBounds_toArray, List.set_cons_zero, List.set_cons_succ])
  refine anyL_late (i := 9) (o := _) (by kernel_rfl) (by kernel_rfl) (by simp only [List.getElem?_toArray, List.getElem?_cons_succ, List.getElem?_cons_zero]; rfl) (fun K hK => ?_)
  go_simp
  refine hK.out _ _ ?_
  clear hK K; (try simp only [Act.put, List.setIfInBounds_toArray, List.set_cons_zero, List.set_cons_succ])
  refine anyL_done (by kernel_rfl) ?_
  go_wp2
  have y := stp_set ((y2.far (p := ⟨w.heap.size, 8, none⟩) (by simp <;> omega) (.slice A2 n c2)).far (p := ⟨w.heap.size, 9, none⟩) (by simp <;> omega) (.slice A2' n' c2')) xk xf xt xg xh xi xm xv A2 n c2 A2' n' c2'
  have hz01 : w0.heap.size ≤ w1.heap.size := by have := b1'.size; simpa using this
  have hx8 : Bk (w2.setCell ⟨w.heap.size, 8, none⟩ (.slice A2 n c2)) w.heap.size 41 _ := x2.set_ 8 _
  have ra := ownsRow_setCell_other (ownsRow_setCell_other r1' (own_ne r1' x2 (by decide)) (a := ⟨w.heap.size, 8, none⟩) (.slice A2 n c2)) (own_ne (ownsRow_setCell_other r1' (own_ne r1' x2 (by decide)) (a := ⟨w.heap.size, 8, none⟩) (.slice A2 n c2)) hx8 (by decide)) (a := ⟨w.heap.size, 9, none⟩) (.slice A2' n' c2')
  have rb := ownsRow_setCell_other (ownsRow_setCell_other r2 (own_ne r2 x2 (by decide)) (a := ⟨w.heap.size, 8, none⟩) (.slice A2 n c2)) (own_ne (ownsRow_setCell_other r2 (own_ne r2 x2 (by decide)) (a := ⟨w.heap.size, 8, none⟩) (.slice A2 n c2)) hx8 (by decide)) (a := ⟨w.heap.size, 9, none⟩) (.slice A2' n' c2')
  have y29 := (y2.far (p := ⟨w.heap.size, 8, none⟩) (by simp <;> omega) (.slice A2 n c2)).far (p := ⟨w.heap.size, 9, none⟩) (by simp <;> omega) (.slice A2' n' c2')
  have ra2 := own_base (set10_own y29 ra (by decide) xk xf xt xg xh xi xm xv A2 n c2 A2' n' c2') (show w.heap.size ≤ w0.drew.heap.size by simpa using hz0)
  have rb2 := own_base (set10_own y29 rb (by decide) xk xf xt xg xh xi xm xv A2 n c2 A2' n' c2') (Nat.le_trans hz0 hz01)
  have hbe : Below w.heap.size w (set10 ((w2.setCell ⟨w.heap.size, 8, none⟩ (.slice A2 n c2)).setCell ⟨w.heap.size, 9, none⟩ (.slice A2' n' c2')) (w.heap.size + 1) xk xf xt xg xh xi xm xv A2 n c2 A2' n' c2') := by repeat (first | with_reducible exact Below.refl _ _ | with_reducible assumption | (with_reducible refine below_drewN ?_ _) | (with_reducible refine Below.drew ?_) | (with_reducible refine Below.alloc ?_ ?_ _; rotate_left; focus (first | with_reducible assumption | omega | (simp; done) | (simp; omega))) | (with_reducible refine Below.setCell ?_ ?_ _; rotate_left; focus (first | with_reducible assumption | omega | (simp; done) | (simp; omega))))
  have RA := Lib.hid ra2
  have RB := Lib.hid rb2
  have HBE := Lib.hid hbe
  clear ra rb ra2 rb2 hbe y29 hx8 r1 r1' r2
  have q0 := y.cell 0; have q1 := y.cell 1; have q2 := y.cell 2; have q3 := y.cell 3; have q4 := y.cell 4; have q5 := y.cell 5; have q6 := y.cell 6; have q7 := y.cell 7; have q8 := y.cell 8; have q9 := y.cell 9
  dsimp [stp] at q0 q1 q2 q3 q4 q5 q6 q7 q8 q9
  refine bodyPost_ret (v := .agg (stp xk xf xt xg xh xi xm xv A2 n c2 A2' n' c2')) (by simp [results, Try.results25, go_sem, q0, q1, q2, q3, q4, q5, q6, q7, q8, q9]) rfl ⟨A2, n, c2, A2', n', c2', rfl, ⟨RA.out, RB.out, hn1, hn2⟩, HBE.out⟩
end Go.Proofs.Ytmacfoebfpljoaa
