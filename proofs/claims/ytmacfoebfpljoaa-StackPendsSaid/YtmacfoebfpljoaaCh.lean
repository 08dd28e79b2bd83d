/- shift: kind -/
import Derived.Test.YtmacfoebfpljoaaCg
namespace Go.Proofs.Ytmacfoebfpljoaa
open Go.RowKit

/-- the ten cells of a step -/
abbrev stp (k f t g h i m v : Int) (A : Option Addr) (n c : Nat) (A' : Option Addr) (n' c' : Nat) : Array Value := #[.int .i64 k, .int .i64 f, .int .i64 t, .int .i64 g, .int .i64 h, .int .i64 i, .int .i64 m, .int .i64 v, .slice A n c, .slice A' n' c']
/-- nothing is written but blocks a and b -/
def Grown2 (a b : Nat) (w w' : World) : Prop := ∃ w1 w2, w.grownBy w1 (some b) ∧ w1.grownBy w2 (some a) ∧ w2.grownBy w' (some b)
theorem Grown2.bk {a b x : Nat} {w w' : World} {t : TypeId} {cs : Array Value} (h : Grown2 a b w w') (hk : Bk w x t cs) (ha : x ≠ a) (hb : x ≠ b) : Bk w' x t cs := by
  obtain ⟨w1, w2, h1, h2, h3⟩ := h
  exact ((hk.grown h1 (fun e => hb (by injection e with e; exact e.symm))).grown h2 (fun e => ha (by injection e with e; exact e.symm))).grown h3 (fun e => hb (by injection e with e; exact e.symm))
theorem Grown2.drewN {a b : Nat} {w w' : World} (h : Grown2 a b w w') (n : Nat) : Grown2 a b w (w'.drewN n) := by
  obtain ⟨w1, w2, h1, h2, h3⟩ := h
  exact ⟨w1, w2, h1, h2, gr_drewN h3 n⟩
theorem Grown2.below {a b B : Nat} {w w' : World} (h : Grown2 a b w w') (hB : B ≤ w.heap.size) (ha : B ≤ a) (hb : B ≤ b) : Below B w w' := by
  obtain ⟨w1, w2, h1, h2, h3⟩ := h
  have g1 := gr_below h1 hB (fun _ e => by injection e with e; omega)
  have g2 := gr_below h2 (Nat.le_trans hB g1.size) (fun _ e => by injection e with e; omega)
  have g3 := gr_below h3 (Nat.le_trans hB (g1.trans g2).size) (fun _ e => by injection e with e; omega)
  exact (g1.trans g2).trans g3
/-- what kind says -/
def KindS (T : Int → Int → Pl × Int) (x : StC) (f' t' e : Int) (bs bl bo : Nat) (A : Option Addr) (n c : Nat) (A' : Option Addr) (n' c' : Nat) (w : World) (en : Ending) (w' : World) : Prop :=
  ∃ rb b2 t2 g2 h2, en = .returned (.bool rb) ∧ Grown2 bs bo w w' ∧ Shf w' bs bl b2 ∧ Bk w' bo 41 (stp x.k f' t2 g2 h2 x.i x.m x.v A n c A' n' c') ∧
    kindB T x f' t' e = if (rb && !b2) = true then some { x with f := f', t := t2, g := g2, h := h2 } else none

set_option maxRecDepth 100000 in
set_option maxHeartbeats 2000000 in
theorem kind_34 (T : Int → Int → Pl × Int) (bl bs bx bo : Nat) (x : StC) (f' t' e : Int) (A : Option Addr) (n c : Nat) (A' : Option Addr) (n' c' : Nat) (A2 : Option Addr) (n2 c2 : Nat) (A2' : Option Addr) (n2' c2' : Nat) (w : World) (hk : Shf w bs bl false)
    (hx : Bk w bx 41 (stp x.k x.f x.t x.g x.h x.i x.m x.v A n c A' n' c')) (ho : Bk w bo 41 (stp x.k f' t' x.g x.h x.i x.m x.v A2 n2 c2 A2' n2' c2')) (h34 : x.k = 3 ∨ x.k = 4) :
    Calls Try.prog 51 #[.pointer (some ⟨bs, 0, none⟩), .pointer (some ⟨bx, 0, none⟩), .pointer (some ⟨bo, 0, none⟩), .int .i64 e] w (KindS T x f' t' e bs bl bo A2 n2 c2 A2' n2' c2' w) := by
  have hv : kindB T x f' t' e = if f' < e then some { x with f := f', t := t', g := x.g, h := x.h } else none := by
    unfold kindB
    rw [if_neg (by omega), if_pos h34]
  have hg : Grown2 bs bo w w := ⟨w, w, World.grownBy.refl _ _, World.grownBy.refl _ _, World.grownBy.refl _ _⟩
  have HVV := Lib.hid hv
  obtain ⟨xk, xf, xt, xg, xh, xi, xm, xv, sl, st⟩ := x
  simp only at *
  have x0 := hx.cell 0
  have o1 := ho.cell 1
  dsimp [stp] at x0 o1
  have HV : Hid ((f' < e ∧ decide (f' < e) = true) ∨ (¬ f' < e ∧ decide (f' < e) = false)) := Lib.hid (by by_cases h : f' < e <;> simp [h])
  clear hv
  rcases h34 with rfl | rfl
  all_goals
    go_enter Try.func51, Try.ntmps51
    go_wp2
    go_ret
    exact ⟨decide (f' < e), false, t', xg, xh, rfl, hg, hk, ho, by rw [HVV.out]; simp⟩

set_option maxRecDepth 100000 in
set_option maxHeartbeats 2000000 in
theorem kind_1 (T : Int → Int → Pl × Int) (bl bs bx bo : Nat) (x : StC) (f' t' e : Int) (A : Option Addr) (n c : Nat) (A' : Option Addr) (n' c' : Nat) (A2 : Option Addr) (n2 c2 : Nat) (A2' : Option Addr) (n2' c2' : Nat) (w : World) (hk : Shf w bs bl false)
    (hx : Bk w bx 41 (stp x.k x.f x.t x.g x.h x.i x.m x.v A n c A' n' c')) (ho : Bk w bo 41 (stp x.k f' t' x.g x.h x.i x.m x.v A2 n2 c2 A2' n2' c2')) (h1 : x.k = 1) :
    Calls Try.prog 51 #[.pointer (some ⟨bs, 0, none⟩), .pointer (some ⟨bx, 0, none⟩), .pointer (some ⟨bo, 0, none⟩), .int .i64 e] w (KindS T x f' t' e bs bl bo A2 n2 c2 A2' n2' c2' w) := by
  have hv : kindB T x f' t' e = some { x with f := f', t := t', g := x.g, h := x.h } := by
    unfold kindB
    rw [if_neg (by omega), if_neg (by omega), if_neg (by omega)]
  have hg : Grown2 bs bo w w := ⟨w, w, World.grownBy.refl _ _, World.grownBy.refl _ _, World.grownBy.refl _ _⟩
  have HVV := Lib.hid hv
  obtain ⟨xk, xf, xt, xg, xh, xi, xm, xv, sl, st⟩ := x
  simp only at *
  have x0 := hx.cell 0
  dsimp [stp] at x0
  clear hv
  subst h1
  go_enter Try.func51, Try.ntmps51
  go_wp2
  go_ret
  exact ⟨true, false, t', xg, xh, rfl, hg, hk, ho, by rw [HVV.out]; simp⟩

set_option maxRecDepth 100000 in
set_option maxHeartbeats 4000000 in
theorem kind_2 (T : Int → Int → Pl × Int) (bl B bs bx bo : Nat) (x : StC) (f' t' e : Int) (A : Option Addr) (n c : Nat) (A' : Option Addr) (n' c' : Nat) (A2 : Option Addr) (n2 c2 : Nat) (A2' : Option Addr) (n2' c2' : Nat) (w : World) (hT : Tells T bl B w) (hBs : B ≤ bs) (hk : Shf w bs bl false) (hsx : bs ≠ bx) (hso : bs ≠ bo) (hxo : bo ≠ bx)
    (hx : Bk w bx 41 (stp x.k x.f x.t x.g x.h x.i x.m x.v A n c A' n' c')) (ho : Bk w bo 41 (stp x.k f' t' x.g x.h x.i x.m x.v A2 n2 c2 A2' n2' c2')) (h2 : x.k = 2) :
    Calls Try.prog 51 #[.pointer (some ⟨bs, 0, none⟩), .pointer (some ⟨bx, 0, none⟩), .pointer (some ⟨bo, 0, none⟩), .int .i64 e] w (KindS T x f' t' e bs bl bo A2 n2 c2 A2' n2' c2' w) := by
  have hat := fun W (b : Bool) (p s : Int) (hg : w.grownBy W (some bs)) (hk : Shf W bs bl b) => at_any T bl B bs b p s W (hT.ext (gr_below hg hT.1 (fun _ e => by injection e with e; omega))) hk
  have hv : kindB T x f' t' e = if (T x.g (-1)).2 = 0 ∧ (T x.h 1).2 = 0 ∧ f' ≤ (T x.g (-1)).1.pos ∧ (T x.g (-1)).1.pos ≤ (T x.h 1).1.pos ∧ (T x.h 1).1.pos ≤ e then some { x with f := f', t := t', g := (T x.g (-1)).1.pos, h := (T x.h 1).1.pos } else none := by
    unfold kindB
    rw [if_pos h2]
  have HVV := Lib.hid hv
  obtain ⟨xk, xf, xt, xg, xh, xi, xm, xv, sl, st⟩ := x
  simp only at *
  have hat1 := fun W b => hat W b xg (-1)
  have hat2 := fun W b => hat W b xh 1
  obtain ⟨⟨⟨g1, gg, gi, gr, go⟩, ge⟩, hX⟩ : ∃ y, T xg (-1) = y := ⟨_, rfl⟩
  obtain ⟨⟨⟨h1, hg, hi, hr, ho'⟩, he⟩, hY⟩ : ∃ y, T xh 1 = y := ⟨_, rfl⟩
  rw [hX] at hat1
  rw [hY] at hat2
  rw [hX, hY] at hv
  simp only [Pl.val] at hat1 hat2 hv
  have HA1 := Lib.hid hat1
  have HA2 := Lib.hid hat2
  have HV := Lib.hid hv
  have x0 := hx.cell 0
  dsimp [stp] at x0
  have hlx := def_lt' hx
  have hlo := def_lt' ho
  clear hv hat hat1 hat2 HVV hX hY
  subst h2
  go_enter Try.func51, Try.ntmps51
  go_upto_region 6 with fail
  have hF : ∀ w', Bk w' bx 41 (stp 2 xf xt xg xh xi xm xv A n c A' n' c') → w'.cell? ⟨bx, 3, none⟩ = some (.int .i64 xg) ∧ w'.cell? ⟨bx, 4, none⟩ = some (.int .i64 xh) := fun w' hb => ⟨hb.cell 3, hb.cell 4⟩
  have HF := Lib.hid hF
  clear hF
  refine wp_normal ?_
  refine wp_region_held_drew (S := fun w' => Bk w' bx 41 (stp 2 xf xt xg xh xi xm xv A n c A' n' c')) (by kernel_rfl) hx.drew (fun hHeld => ?_)
  (refine take_if (i := 0) (oi := _) (v := ?_) (by simp only [List.getElem?_toArray, List.getElem?_cons_zero]; rfl) (by kernel_rfl) (by kernel_rfl) (by kernel_rfl) (fun _ _ _ h => h) (by rfl) ?_ (by assumption) ?_; rotate_left; (focus ((intro w hSw; (try have hSw := HF.out _ hSw); (try dsimp only at hSw); go_simp); try exact rfl)); simp only [Act.put, List.setIfInBounds_toArray, List.set_cons_zero, List.set_cons_succ]; refine take_if (i := 1) (oi := _) (v := ?_) (by simp only [List.getElem?_toArray, List.getElem?_cons_succ, List.getElem?_cons_zero]; rfl) (by kernel_rfl) (by kernel_rfl) (by kernel_rfl) (fun _ _ _ h => h) (by rfl) ?_ (by assumption) ?_; rotate_left; (focus ((intro w hSw; (try have hSw := HF.out _ hSw); (try dsimp only at hSw); go_simp); try exact rfl)); simp only [Act.put, List.setIfInBounds_toArray, List.set_cons_zero, List.set_cons_succ]; refine take_if (i := 2) (oi := _) (v := ?_) (by simp only [List.getElem?_toArray, List.getElem?_cons_succ, List.getElem?_cons_zero]; rfl) (by kernel_rfl) (by kernel_rfl) (by kernel_rfl) (fun _ _ _ h => h) (by rfl) ?_ (by assumption) ?_; rotate_left; (focus ((intro w hSw; (try have hSw := HF.out _ hSw); (try dsimp only at hSw); go_simp); try exact rfl)); simp only [Act.put, List.setIfInBounds_toArray, List.set_cons_zero, List.set_cons_succ]; refine take_if (i := 3) (oi := _) (v := ?_) (by simp only [List.getElem?_toArray, List.getElem?_cons_succ, List.getElem?_cons_zero]; rfl) (by kernel_rfl) (by kernel_rfl) (by kernel_rfl) (fun _ _ _ h => h) (by rfl) ?_ (by assumption) ?_; rotate_left; (focus ((intro w hSw; (try have hSw := HF.out _ hSw); (try dsimp only at hSw); go_simp); try exact rfl)); simp only [Act.put, List.setIfInBounds_toArray, List.set_cons_zero, List.set_cons_succ]; refine take_if (i := 4) (oi := _) (v := ?_) (by simp only [List.getElem?_toArray, List.getElem?_cons_succ, List.getElem?_cons_zero]; rfl) (by kernel_rfl) (by kernel_rfl) (by kernel_rfl) (fun _ _ _ h => h) (by rfl) ?_ (by assumption) ?_; rotate_left; (focus ((intro w hSw; (try have hSw := HF.out _ hSw); (try dsimp only at hSw); go_simp); try exact rfl)); simp only [Act.put, List.setIfInBounds_toArray, List.set_cons_zero, List.set_cons_succ]; refine take_if (i := 5) (oi := _) (v := ?_) (by simp only [List.getElem?_toArray, List.getElem?_cons_succ, List.getElem?_cons_zero]; rfl) (by kernel_rfl) (by kernel_rfl) (by kernel_rfl) (fun _ _ _ h => h) (by rfl) ?_ (by assumption) ?_; rotate_left; (focus ((intro w hSw; (try have hSw := HF.out _ hSw); (try dsimp only at hSw); go_simp); try exact rfl)); simp only [Act.put, List.setIfInBounds_toArray, List.set_cons_zero, List.set_cons_succ]; refine take_if (i := 6) (oi := _) (v := ?_) (by simp only [List.getElem?_toArray, List.getElem?_cons_succ, List.getElem?_cons_zero]; rfl) (by kernel_rfl) (by kernel_rfl) (by kernel_rfl) (fun _ _ _ h => h) (by rfl) ?_ (by assumption) ?_; rotate_left; (focus ((intro w hSw; (try have hSw := HF.out _ hSw); (try dsimp only at hSw); go_simp); try exact rfl)); simp only [Act.put, List.setIfInBounds_toArray, List.set_cons_zero, List.set_cons_succ]; refine take_if (i := 9) (oi := _) (v := ?_) (by simp only [List.getElem?_toArray, List.getElem?_cons_succ, List.getElem?_cons_zero]; rfl) (by kernel_rfl) (by kernel_rfl) (by kernel_rfl) (fun _ _ _ h => h) (by rfl) ?_ (by assumption) ?_; rotate_left; (focus ((intro w hSw; (try have hSw := HF.out _ hSw); (try dsimp only at hSw); go_simp); try exact rfl)); simp only [Act.put, List.setIfInBounds_toArray, List.set_cons_zero, List.set_cons_succ]; refine take_if (i := 10) (oi := _) (v := ?_) (by simp only [List.getElem?_toArray, List.getElem?_cons_succ, List.getElem?_cons_zero]; rfl) (by kernel_rfl) (by kernel_rfl) (by kernel_rfl) (fun _ _ _ h => h) (by rfl) ?_ (by assumption) ?_; rotate_left; (focus ((intro w hSw; (try have hSw := HF.out _ hSw); (try dsimp only at hSw); go_simp); try exact rfl)); simp only [Act.put, List.setIfInBounds_toArray, List.set_cons_zero, List.set_cons_succ]; refine take_if (i := 11) (oi := _) (v := ?_) (by simp only [List.getElem?_toArray, List.getElem?_cons_succ, List.getElem?_cons_zero]; rfl) (by kernel_rfl) (by kernel_rfl) (by kernel_rfl) (fun _ _ _ h => h) (by rfl) ?_ (by assumption) ?_; rotate_left; (focus ((intro w hSw; (try have hSw := HF.out _ hSw); (try dsimp only at hSw); go_simp); try exact rfl)); simp only [Act.put, List.setIfInBounds_toArray, List.set_cons_zero, List.set_cons_succ]; refine take_if (i := 12) (oi := _) (v := ?_) (by simp only [List.getElem?_toArray, List.getElem?_cons_succ, List.getElem?_cons_zero]; rfl) (by kernel_rfl) (by kernel_rfl) (by kernel_rfl) (fun _ _ _ h => h) (by rfl) ?_ (by assumption) ?_; rotate_left; (focus ((intro w hSw; (try have hSw := HF.out _ hSw); (try dsimp only at hSw); go_simp); try exact rfl)); simp only [Act.put, List.setIfInBounds_toArray, List.set_cons_zero, List.set_cons_succ]; refine take_if (i := 13) (oi := _) (v := ?_) (by simp only [List.getElem?_toArray, List.getElem?_cons_succ, List.getElem?_cons_zero]; rfl) (by kernel_rfl) (by kernel_rfl) (by kernel_rfl) (fun _ _ _ h => h) (by rfl) ?_ (by assumption) ?_; rotate_left; (focus ((intro w hSw; (try have hSw := HF.out _ hSw); (try dsimp only at hSw); go_simp); try exact rfl)); simp only [Act.put, List.setIfInBounds_toArray, List.set_cons_zero, List.set_cons_succ])
  refine wpAnyH_ready (rs := [7]) (by kernel_rfl) (by simp) ?_; refine (AllReadyH.cons (o := _) (by simp only [List.getElem?_toArray, List.getElem?_cons_succ, List.getElem?_cons_zero]; rfl) (fun K hK => ?_) AllReadyH.nil)
  go_simp
  go_at_call 50
  refine (HA1.out _ false (gr_drew (World.grownBy.refl w _)) hk.drew).mono ?_
  rintro e1 w1 ⟨rfl, hg1, hk1⟩
  have hg1' : w.grownBy w1 (some bs) := (gr_drew (World.grownBy.refl w _)).trans hg1
  refine hK.out _ _ (hx.grown hg1' (fun e => by injection e with e; exact hsx e)) (fun hHeld => ?_)
  clear hK K; (try simp only [Act.put, List.setIfInBounds_toArray, List.set_cons_zero, List.set_cons_succ])
  (refine take_if (i := 8) (oi := _) (v := ?_) (by simp only [List.getElem?_toArray, List.getElem?_cons_succ, List.getElem?_cons_zero]; rfl) (by kernel_rfl) (by kernel_rfl) (by kernel_rfl) (fun _ _ _ h => h) (by rfl) ?_ (by assumption) ?_; rotate_left; (focus ((intro w hSw; (try have hSw := HF.out _ hSw); (try dsimp only at hSw); go_simp); try exact rfl)); simp only [Act.put, List.setIfInBounds_toArray, List.set_cons_zero, List.set_cons_succ])
  refine wpAnyH_ready (rs := [14]) (by kernel_rfl) (by simp) ?_; refine (AllReadyH.cons (o := _) (by simp only [List.getElem?_toArray, List.getElem?_cons_succ, List.getElem?_cons_zero]; rfl) (fun K hK => ?_) AllReadyH.nil)
  go_simp
  go_at_call 50
  refine (HA2.out _ _ hg1' hk1).mono ?_
  rintro e2 w2 ⟨rfl, hg2, hk2⟩
  have hg2' := hg1'.trans hg2
  have hx2 := hx.grown hg2' (fun e => by injection e with e; exact hsx e)
  have o2 := ho.grown hg2' (fun e => by injection e with e; exact hso e)
  have c0 := o2.cell 0; have c1 := o2.cell 1; have c3 := o2.cell 3; have c4 := o2.cell 4
  have lo := def_lt' o2; have fo := o2.frozen
  dsimp [stp] at c0 c1 c3 c4
  refine hK.out _ _ hx2 (fun hHeld => ?_)
  clear hK K; (try simp only [Act.put, List.setIfInBounds_toArray, List.set_cons_zero, List.set_cons_succ])
  (refine take_if (i := 15) (oi := _) (v := ?_) (by simp only [List.getElem?_toArray, List.getElem?_cons_succ, List.getElem?_cons_zero]; rfl) (by kernel_rfl) (by kernel_rfl) (by kernel_rfl) (fun _ _ _ h => h) (by rfl) ?_ (by assumption) ?_; rotate_left; (focus ((intro w hSw; (try have hSw := HF.out _ hSw); (try dsimp only at hSw); go_simp); try exact rfl)); simp only [Act.put, List.setIfInBounds_toArray, List.set_cons_zero, List.set_cons_succ]; refine take_if (i := 16) (oi := _) (v := ?_) (by simp only [List.getElem?_toArray, List.getElem?_cons_succ, List.getElem?_cons_zero]; rfl) (by kernel_rfl) (by kernel_rfl) (by kernel_rfl) (fun _ _ _ h => h) (by rfl) ?_ (by assumption) ?_; rotate_left; (focus ((intro w hSw; (try have hSw := HF.out _ hSw); (try dsimp only at hSw); go_simp); try exact rfl)); simp only [Act.put, List.setIfInBounds_toArray, List.set_cons_zero, List.set_cons_succ]; refine take_if (i := 17) (oi := _) (v := ?_) (by simp only [List.getElem?_toArray, List.getElem?_cons_succ, List.getElem?_cons_zero]; rfl) (by kernel_rfl) (by kernel_rfl) (by kernel_rfl) (fun _ _ _ h => h) (by rfl) ?_ (by assumption) ?_; rotate_left; (focus ((intro w hSw; (try have hSw := HF.out _ hSw); (try dsimp only at hSw); go_simp); try exact rfl)); simp only [Act.put, List.setIfInBounds_toArray, List.set_cons_zero, List.set_cons_succ])
  refine wpAnyH_ready (rs := [18]) (by kernel_rfl) (by simp) ?_; refine (AllReadyH.cons (o := _) (by simp only [List.getElem?_toArray, List.getElem?_cons_succ, List.getElem?_cons_zero]; rfl) (fun K hK => ?_) AllReadyH.nil)
  go_simp
  refine hK.out _ _ (hx2.far (by simp; exact Ne.symm hxo) _) (fun hHeld => ?_)
  clear hK K; (try simp only [Act.put, List.setIfInBounds_toArray, List.set_cons_zero, List.set_cons_succ])
  (refine take_if (i := 19) (oi := _) (v := ?_) (by simp only [List.getElem?_toArray, List.getElem?_cons_succ, List.getElem?_cons_zero]; rfl) (by kernel_rfl) (by kernel_rfl) (by kernel_rfl) (fun _ _ _ h => h) (by rfl) ?_ (by assumption) ?_; rotate_left; (focus ((intro w hSw; (try have hSw := HF.out _ hSw); (try dsimp only at hSw); go_simp); try exact rfl)); simp only [Act.put, List.setIfInBounds_toArray, List.set_cons_zero, List.set_cons_succ]; refine take_if (i := 20) (oi := _) (v := ?_) (by simp only [List.getElem?_toArray, List.getElem?_cons_succ, List.getElem?_cons_zero]; rfl) (by kernel_rfl) (by kernel_rfl) (by kernel_rfl) (fun _ _ _ h => h) (by rfl) ?_ (by assumption) ?_; rotate_left; (focus ((intro w hSw; (try have hSw := HF.out _ hSw); (try dsimp only at hSw); go_simp); try exact rfl)); simp only [Act.put, List.setIfInBounds_toArray, List.set_cons_zero, List.set_cons_succ])
  refine wpAnyH_ready (rs := [21]) (by kernel_rfl) (by simp) ?_; refine (AllReadyH.cons (o := _) (by simp only [List.getElem?_toArray, List.getElem?_cons_succ, List.getElem?_cons_zero]; rfl) (fun K hK => ?_) AllReadyH.nil)
  go_simp
  refine hK.out _ _ ((hx2.far (by simp; exact Ne.symm hxo) _).far (by simp; exact Ne.symm hxo) _) (fun hHeld => ?_)
  clear hK K; (try simp only [Act.put, List.setIfInBounds_toArray, List.set_cons_zero, List.set_cons_succ])
  refine wpAnyH_done (by kernel_rfl) ?_ _
  have hgo3 : w2.grownBy ((w2.setCell ⟨bo, 3, none⟩ (.int .i64 g1)).setCell ⟨bo, 4, none⟩ (.int .i64 h1)) (some bo) := gr_set (gr_set (p := ⟨bo, 3, none⟩) (World.grownBy.refl w2 _) (.inl rfl) _) (p := ⟨bo, 4, none⟩) (.inl rfl) _
  have hG : Grown2 bs bo w ((w2.setCell ⟨bo, 3, none⟩ (.int .i64 g1)).setCell ⟨bo, 4, none⟩ (.int .i64 h1)) := ⟨w, w2, World.grownBy.refl _ _, hg2', hgo3⟩
  have hk3 := hk2.grown hgo3 (fun e => by injection e with e; exact hso e.symm)
  have o3 : Bk ((w2.setCell ⟨bo, 3, none⟩ (.int .i64 g1)).setCell ⟨bo, 4, none⟩ (.int .i64 h1)) bo 41 (stp 2 f' t' g1 h1 xi xm xv A2 n2 c2 A2' n2' c2') := (o2.set_ 3 _).set_ 4 _
  generalize (w2.setCell ⟨bo, 3, none⟩ (.int .i64 g1)).setCell ⟨bo, 4, none⟩ (.int .i64 h1) = w3 at *
  have c1 := o3.cell 1; have c3 := o3.cell 3; have c4 := o3.cell 4
  dsimp [stp] at c1 c3 c4
  have hres : kindB T ⟨2, xf, xt, xg, xh, xi, xm, xv, sl, st⟩ f' t' e = if (decide (f' ≤ g1 ∧ g1 ≤ h1 ∧ h1 ≤ e) && !((false || decide (ge ≠ 0)) || decide (he ≠ 0))) = true then some ⟨2, f', t', g1, h1, xi, xm, xv, sl, st⟩ else none := by
    rw [HV.out]
    suffices hiff : (ge = 0 ∧ he = 0 ∧ f' ≤ g1 ∧ g1 ≤ h1 ∧ h1 ≤ e) ↔ (decide (f' ≤ g1 ∧ g1 ≤ h1 ∧ h1 ≤ e) && !((false || decide (ge ≠ 0)) || decide (he ≠ 0))) = true by
      by_cases hA : ge = 0 ∧ he = 0 ∧ f' ≤ g1 ∧ g1 ≤ h1 ∧ h1 ≤ e
      · rw [if_pos hA, if_pos (hiff.1 hA)]
      · rw [if_neg hA, if_neg (fun h => hA (hiff.2 h))]
    simp only [Bool.and_eq_true, decide_eq_true_eq, Bool.not_eq_true', Bool.or_eq_false_iff, decide_eq_false_iff_not, Decidable.not_not]
    constructor
    · rintro ⟨h1, h2, h3, h4, h5⟩; exact ⟨⟨h3, h4, h5⟩, ⟨trivial, h1⟩, h2⟩
    · rintro ⟨⟨h3, h4, h5⟩, ⟨_, h1⟩, h2⟩; exact ⟨h1, h2, h3, h4, h5⟩
  have HRES := Lib.hid hres
  have HGG := Lib.hid hG
  clear hres hG hgo3 hg1 hg2 hg1' hg2' HV HA1 HA2 HF hx2 o2 c0
  by_cases d1 : f' ≤ g1
  · have t1 : decide (f' ≤ g1) = true := decide_eq_true d1
    by_cases d2 : g1 ≤ h1
    · have t2 : decide (g1 ≤ h1) = true := decide_eq_true d2
      by_cases d3 : h1 ≤ e
      · have t3 : decide (h1 ≤ e) = true := decide_eq_true d3
        have hd : decide (f' ≤ g1 ∧ g1 ≤ h1 ∧ h1 ≤ e) = true := decide_eq_true ⟨d1, d2, d3⟩
        have hr := HRES.out
        rw [hd] at hr
        have HR := Lib.hid hr
        clear hr hd HRES
        go_wp2
        go_quiet (fail)
        go_wp2
        go_ret
        exact ⟨true, _, t', g1, h1, rfl, HGG.out.drewN _, hk3.drewN _, o3.drewN _, HR.out⟩
      · have t3 : decide (h1 ≤ e) = false := decide_eq_false d3
        have hd : decide (f' ≤ g1 ∧ g1 ≤ h1 ∧ h1 ≤ e) = false := decide_eq_false (fun h => d3 h.2.2)
        have hr := HRES.out
        rw [hd] at hr
        have HR := Lib.hid hr
        clear hr hd HRES
        go_wp2
        go_quiet (fail)
        go_wp2
        go_ret
        exact ⟨false, _, t', g1, h1, rfl, HGG.out.drewN _, hk3.drewN _, o3.drewN _, HR.out⟩
    · have t2 : decide (g1 ≤ h1) = false := decide_eq_false d2
      have hd : decide (f' ≤ g1 ∧ g1 ≤ h1 ∧ h1 ≤ e) = false := decide_eq_false (fun h => d2 h.2.1)
      have hr := HRES.out
      rw [hd] at hr
      have HR := Lib.hid hr
      clear hr hd HRES
      go_wp2
      go_quiet (fail)
      go_wp2
      go_ret
      exact ⟨false, _, t', g1, h1, rfl, HGG.out.drewN _, hk3.drewN _, o3.drewN _, HR.out⟩
  · have t1 : decide (f' ≤ g1) = false := decide_eq_false d1
    have hd : decide (f' ≤ g1 ∧ g1 ≤ h1 ∧ h1 ≤ e) = false := decide_eq_false (fun h => d1 h.1)
    have hr := HRES.out
    rw [hd] at hr
    have HR := Lib.hid hr
    clear hr hd HRES
    go_wp2
    go_quiet (fail)
    go_wp2
    go_ret
    exact ⟨false, _, t', g1, h1, rfl, HGG.out.drewN _, hk3.drewN _, o3.drewN _, HR.out⟩

set_option maxRecDepth 100000 in
set_option maxHeartbeats 4000000 in
theorem kind_5 (T : Int → Int → Pl × Int) (bl B bs bx bo : Nat) (x : StC) (f' t' e : Int) (A : Option Addr) (n c : Nat) (A' : Option Addr) (n' c' : Nat) (A2 : Option Addr) (n2 c2 : Nat) (A2' : Option Addr) (n2' c2' : Nat) (w : World) (hT : Tells T bl B w) (hBs : B ≤ bs) (hBo : B ≤ bo) (hk : Shf w bs bl false) (hsx : bs ≠ bx) (hso : bs ≠ bo) (hxo : bo ≠ bx)
    (hx : Bk w bx 41 (stp x.k x.f x.t x.g x.h x.i x.m x.v A n c A' n' c')) (ho : Bk w bo 41 (stp x.k f' t' x.g x.h x.i x.m x.v A2 n2 c2 A2' n2' c2')) (h5 : x.k = 5)
    (hf : 0 ≤ x.f) (hft : x.f ≤ x.t) (ht : x.t ≤ 1073741824) (h1 : -4398046511104 ≤ f') (h2 : f' ≤ 4398046511104) :
    Calls Try.prog 51 #[.pointer (some ⟨bs, 0, none⟩), .pointer (some ⟨bx, 0, none⟩), .pointer (some ⟨bo, 0, none⟩), .int .i64 e] w (KindS T x f' t' e bs bl bo A2 n2 c2 A2' n2' c2' w) := by
  have hv : kindB T x f' t' e = if rowB T x.f f' (x.t - x.f).toNat = true then some { x with f := f', t := f' + x.t - x.f, g := x.g, h := x.h } else none := by
    unfold kindB
    rw [if_neg (by omega), if_neg (by omega), if_pos h5]
  have HVV := Lib.hid hv
  obtain ⟨xk, xf, xt, xg, xh, xi, xm, xv, sl, st⟩ := x
  simp only at *
  have hro := fun W (hg : w.grownBy W (some bo)) (hk : Shf W bs bl false) => row_any T bl B bs false xk xf xt xg xh xi xm xv A A' n n' c c' f' W (hT.ext (gr_below hg hT.1 (fun _ e => by injection e with e; omega))) hBs hk hf hft ht h1 h2
  have HRO := Lib.hid hro
  have x0 := hx.cell 0
  dsimp [stp] at x0
  have hlx := def_lt' hx
  have hlo := def_lt' ho
  have e1 : IntKind.i64.wrap (f' + xt) = f' + xt := IntWalk.i64_in _ (by omega)
  have e2 : IntKind.i64.wrap (f' + xt - xf) = f' + xt - xf := IntWalk.i64_in _ (by omega)
  have hF : ∀ w', (Bk w' bx 41 (stp 5 xf xt xg xh xi xm xv A n c A' n' c') ∧ Bk w' bo 41 (stp 5 f' t' xg xh xi xm xv A2 n2 c2 A2' n2' c2')) → w'.cell? ⟨bx, 1, none⟩ = some (.int .i64 xf) ∧ w'.cell? ⟨bx, 2, none⟩ = some (.int .i64 xt) ∧ w'.cell? ⟨bo, 1, none⟩ = some (.int .i64 f') := fun w' hb => ⟨hb.1.cell 1, hb.1.cell 2, hb.2.cell 1⟩
  have HF := Lib.hid hF
  clear hv hro hF hf hft ht h1 h2
  subst h5
  go_enter Try.func51, Try.ntmps51
  go_upto_region 9 with fail
  have q2 := ho.cell 2
  have fo := ho.frozen
  dsimp [stp] at q2
  go_cut [75] (fun _ wx => wx = (w.setCell ⟨bo, 2, none⟩ (.int .i64 (f' + xt - xf))).drew)
  case first =>
    refine wp_normal ?_
    refine region_L (S := fun w' => Bk w' bx 41 (stp 5 xf xt xg xh xi xm xv A n c A' n' c') ∧ Bk w' bo 41 (stp 5 f' t' xg xh xi xm xv A2 n2 c2 A2' n2' c2')) [17] (by kernel_rfl) ⟨hx.drew, ho.drew⟩ (fun hHeld => ?_)
    (refine takeL_if (i := 0) (oi := _) (v := ?_) (by simp only [List.getElem?_toArray, List.getElem?_cons_zero]; rfl) (by kernel_rfl) (by kernel_rfl) (by kernel_rfl) (fun _ _ _ h => h) (by rfl) ?_ (by assumption) ?_; rotate_left; (focus ((intro w hSw; (try have hSw := HF.out _ hSw); (try dsimp only at hSw); go_simp); try exact rfl)); simp only [Act.put, List.setIfInBounds_toArray, List.set_cons_zero, List.set_cons_succ]; refine takeL_if (i := 1) (oi := _) (v := ?_) (by simp only [List.getElem?_toArray, List.getElem?_cons_succ, List.getElem?_cons_zero]; rfl) (by kernel_rfl) (by kernel_rfl) (by kernel_rfl) (fun _ _ _ h => h) (by rfl) ?_ (by assumption) ?_; rotate_left; (focus ((intro w hSw; (try have hSw := HF.out _ hSw); (try dsimp only at hSw); go_simp); try exact rfl)); simp only [Act.put, List.setIfInBounds_toArray, List.set_cons_zero, List.set_cons_succ]; refine takeL_if (i := 2) (oi := _) (v := ?_) (by simp only [List.getElem?_toArray, List.getElem?_cons_succ, List.getElem?_cons_zero]; rfl) (by kernel_rfl) (by kernel_rfl) (by kernel_rfl) (fun _ _ _ h => h) (by rfl) ?_ (by assumption) ?_; rotate_left; (focus ((intro w hSw; (try have hSw := HF.out _ hSw); (try dsimp only at hSw); go_simp); try exact rfl)); simp only [Act.put, List.setIfInBounds_toArray, List.set_cons_zero, List.set_cons_succ]; refine takeL_if (i := 3) (oi := _) (v := ?_) (by simp only [List.getElem?_toArray, List.getElem?_cons_succ, List.getElem?_cons_zero]; rfl) (by kernel_rfl) (by kernel_rfl) (by kernel_rfl) (fun _ _ _ h => h) (by rfl) ?_ (by assumption) ?_; rotate_left; (focus ((intro w hSw; (try have hSw := HF.out _ hSw); (try dsimp only at hSw); go_simp); try exact rfl)); simp only [Act.put, List.setIfInBounds_toArray, List.set_cons_zero, List.set_cons_succ]; refine takeL_if (i := 4) (oi := _) (v := ?_) (by simp only [List.getElem?_toArray, List.getElem?_cons_succ, List.getElem?_cons_zero]; rfl) (by kernel_rfl) (by kernel_rfl) (by kernel_rfl) (fun _ _ _ h => h) (by rfl) ?_ (by assumption) ?_; rotate_left; (focus ((intro w hSw; (try have hSw := HF.out _ hSw); (try dsimp only at hSw); go_simp); try exact rfl)); simp only [Act.put, List.setIfInBounds_toArray, List.set_cons_zero, List.set_cons_succ]; refine takeL_if (i := 5) (oi := _) (v := ?_) (by simp only [List.getElem?_toArray, List.getElem?_cons_succ, List.getElem?_cons_zero]; rfl) (by kernel_rfl) (by kernel_rfl) (by kernel_rfl) (fun _ _ _ h => h) (by rfl) ?_ (by assumption) ?_; rotate_left; (focus ((intro w hSw; (try have hSw := HF.out _ hSw); (try dsimp only at hSw); go_simp); try exact rfl)); simp only [Act.put, List.setIfInBounds_toArray, List.set_cons_zero, List.set_cons_succ]; refine takeL_if (i := 6) (oi := _) (v := ?_) (by simp only [List.getElem?_toArray, List.getElem?_cons_succ, List.getElem?_cons_zero]; rfl) (by kernel_rfl) (by kernel_rfl) (by kernel_rfl) (fun _ _ _ h => h) (by rfl) ?_ (by assumption) ?_; rotate_left; (focus ((intro w hSw; (try have hSw := HF.out _ hSw); (try dsimp only at hSw); go_simp); try exact rfl)); simp only [Act.put, List.setIfInBounds_toArray, List.set_cons_zero, List.set_cons_succ]; refine takeL_if (i := 7) (oi := _) (v := ?_) (by simp only [List.getElem?_toArray, List.getElem?_cons_succ, List.getElem?_cons_zero]; rfl) (by kernel_rfl) (by kernel_rfl) (by kernel_rfl) (fun _ _ _ h => h) (by rfl) ?_ (by assumption) ?_; rotate_left; (focus ((intro w hSw; (try have hSw := HF.out _ hSw); (try dsimp only at hSw); go_simp); try exact rfl)); simp only [Act.put, List.setIfInBounds_toArray, List.set_cons_zero, List.set_cons_succ]; refine takeL_if (i := 8) (oi := _) (v := ?_) (by simp only [List.getElem?_toArray, List.getElem?_cons_succ, List.getElem?_cons_zero]; rfl) (by kernel_rfl) (by kernel_rfl) (by kernel_rfl) (fun _ _ _ h => h) (by rfl) ?_ (by assumption) ?_; rotate_left; (focus ((intro w hSw; (try have hSw := HF.out _ hSw); (try dsimp only at hSw); go_simp); try exact rfl)); simp only [Act.put, List.setIfInBounds_toArray, List.set_cons_zero, List.set_cons_succ]; refine takeL_if (i := 9) (oi := _) (v := ?_) (by simp only [List.getElem?_toArray, List.getElem?_cons_succ, List.getElem?_cons_zero]; rfl) (by kernel_rfl) (by kernel_rfl) (by kernel_rfl) (fun _ _ _ h => h) (by rfl) ?_ (by assumption) ?_; rotate_left; (focus ((intro w hSw; (try have hSw := HF.out _ hSw); (try dsimp only at hSw); go_simp); try exact rfl)); simp only [Act.put, List.setIfInBounds_toArray, List.set_cons_zero, List.set_cons_succ]; refine takeL_if (i := 10) (oi := _) (v := ?_) (by simp only [List.getElem?_toArray, List.getElem?_cons_succ, List.getElem?_cons_zero]; rfl) (by kernel_rfl) (by kernel_rfl) (by kernel_rfl) (fun _ _ _ h => h) (by rfl) ?_ (by assumption) ?_; rotate_left; (focus ((intro w hSw; (try have hSw := HF.out _ hSw); (try dsimp only at hSw); go_simp); try exact rfl)); simp only [Act.put, List.setIfInBounds_toArray, List.set_cons_zero, List.set_cons_succ]; refine takeL_if (i := 11) (oi := _) (v := ?_) (by simp only [List.getElem?_toArray, List.getElem?_cons_succ, List.getElem?_cons_zero]; rfl) (by kernel_rfl) (by kernel_rfl) (by kernel_rfl) (fun _ _ _ h => h) (by rfl) ?_ (by assumption) ?_; rotate_left; (focus ((intro w hSw; (try have hSw := HF.out _ hSw); (try dsimp only at hSw); go_simp); try exact rfl)); simp only [Act.put, List.setIfInBounds_toArray, List.set_cons_zero, List.set_cons_succ]; refine takeL_if (i := 12) (oi := _) (v := ?_) (by simp only [List.getElem?_toArray, List.getElem?_cons_succ, List.getElem?_cons_zero]; rfl) (by kernel_rfl) (by kernel_rfl) (by kernel_rfl) (fun _ _ _ h => h) (by rfl) ?_ (by assumption) ?_; rotate_left; (focus ((intro w hSw; (try have hSw := HF.out _ hSw); (try dsimp only at hSw); go_simp); try exact rfl)); simp only [Act.put, List.setIfInBounds_toArray, List.set_cons_zero, List.set_cons_succ]; refine takeL_if (i := 13) (oi := _) (v := ?_) (by simp only [List.getElem?_toArray, List.getElem?_cons_succ, List.getElem?_cons_zero]; rfl) (by kernel_rfl) (by kernel_rfl) (by kernel_rfl) (fun _ _ _ h => h) (by rfl) ?_ (by assumption) ?_; rotate_left; (focus ((intro w hSw; (try have hSw := HF.out _ hSw); (try dsimp only at hSw); go_simp); try exact rfl)); simp only [Act.put, List.setIfInBounds_toArray, List.set_cons_zero, List.set_cons_succ]; refine takeL_if (i := 14) (oi := _) (v := ?_) (by simp only [List.getElem?_toArray, List.getElem?_cons_succ, List.getElem?_cons_zero]; rfl) (by kernel_rfl) (by kernel_rfl) (by kernel_rfl) (fun _ _ _ h => h) (by rfl) ?_ (by assumption) ?_; rotate_left; (focus ((intro w hSw; (try have hSw := HF.out _ hSw); (try dsimp only at hSw); go_simp); try exact rfl)); simp only [Act.put, List.setIfInBounds_toArray, List.set_cons_zero, List.set_cons_succ]; refine takeL_if (i := 15) (oi := _) (v := ?_) (by simp only [List.getElem?_toArray, List.getElem?_cons_succ, List.getElem?_cons_zero]; rfl) (by kernel_rfl) (by kernel_rfl) (by kernel_rfl) (fun _ _ _ h => h) (by rfl) ?_ (by assumption) ?_; rotate_left; (focus ((intro w hSw; (try have hSw := HF.out _ hSw); (try dsimp only at hSw); go_simp); try exact rfl)); simp only [Act.put, List.setIfInBounds_toArray, List.set_cons_zero, List.set_cons_succ]; refine takeL_if (i := 16) (oi := _) (v := ?_) (by simp only [List.getElem?_toArray, List.getElem?_cons_succ, List.getElem?_cons_zero]; rfl) (by kernel_rfl) (by kernel_rfl) (by kernel_rfl) (fun _ _ _ h => h) (by rfl) ?_ (by assumption) ?_; rotate_left; (focus ((intro w hSw; (try have hSw := HF.out _ hSw); (try dsimp only at hSw); go_simp); try exact rfl)); simp only [Act.put, List.setIfInBounds_toArray, List.set_cons_zero, List.set_cons_succ])
    refine anyL_late (i := 17) (o := _) (by kernel_rfl) (by kernel_rfl) (by simp only [List.getElem?_toArray, List.getElem?_cons_succ, List.getElem?_cons_zero]; rfl) (fun K hK => ?_)
    go_simp
    refine hK.out _ _ ?_
    refine anyL_done (by kernel_rfl) ?_
    go_wp2
    go_meet
    rfl
  case rest =>
    subst hcut
    have hg0 : w.grownBy (w.setCell ⟨bo, 2, none⟩ (.int .i64 (f' + xt - xf))).drew (some bo) := gr_drew (gr_set (p := ⟨bo, 2, none⟩) (World.grownBy.refl w _) (.inl rfl) _)
    have hk0 := hk.grown hg0 (fun e => by injection e with e; exact hso e.symm)
    have hx0 := hx.grown hg0 (fun e => by injection e with e; exact hxo e)
    have ho0 : Bk (w.setCell ⟨bo, 2, none⟩ (.int .i64 (f' + xt - xf))).drew bo 41 (stp 5 f' (f' + xt - xf) xg xh xi xm xv A2 n2 c2 A2' n2' c2') := (ho.set_ 2 _).drew
    generalize (w.setCell ⟨bo, 2, none⟩ (.int .i64 (f' + xt - xf))).drew = w1 at *
    have hF : ∀ w', (Bk w' bx 41 (stp 5 xf xt xg xh xi xm xv A n c A' n' c') ∧ Bk w' bo 41 (stp 5 f' (f' + xt - xf) xg xh xi xm xv A2 n2 c2 A2' n2' c2')) → w'.cell? ⟨bo, 1, none⟩ = some (.int .i64 f') ∧ w'.cell? ⟨bx, 0, none⟩ = some (.int .i64 5) ∧ w'.cell? ⟨bx, 1, none⟩ = some (.int .i64 xf) ∧ w'.cell? ⟨bx, 2, none⟩ = some (.int .i64 xt) ∧ w'.cell? ⟨bx, 3, none⟩ = some (.int .i64 xg) ∧ w'.cell? ⟨bx, 4, none⟩ = some (.int .i64 xh) ∧ w'.cell? ⟨bx, 5, none⟩ = some (.int .i64 xi) ∧ w'.cell? ⟨bx, 6, none⟩ = some (.int .i64 xm) ∧ w'.cell? ⟨bx, 7, none⟩ = some (.int .i64 xv) ∧ w'.cell? ⟨bx, 8, none⟩ = some (.slice A n c) ∧ w'.cell? ⟨bx, 9, none⟩ = some (.slice A' n' c') := fun w' hb => ⟨hb.2.cell 1, hb.1.cell 0, hb.1.cell 1, hb.1.cell 2, hb.1.cell 3, hb.1.cell 4, hb.1.cell 5, hb.1.cell 6, hb.1.cell 7, hb.1.cell 8, hb.1.cell 9⟩
    have HF2 := Lib.hid hF
    clear HF hF x0 q2 fo
    have HF := HF2
    clear HF2
    go_upto_region 10 with fail
    refine wp_normal ?_
    refine region_K (S := fun w' => Bk w' bx 41 (stp 5 xf xt xg xh xi xm xv A n c A' n' c') ∧ Bk w' bo 41 (stp 5 f' (f' + xt - xf) xg xh xi xm xv A2 n2 c2 A2' n2' c2')) 9 (by kernel_rfl) ⟨hx0.drew, ho0.drew⟩ (fun hHeld => ?_)
    (refine takeK_if (i := 0) (oi := _) (v := ?_) (by simp only [List.getElem?_toArray, List.getElem?_cons_zero]; rfl) (by kernel_rfl) (by kernel_rfl) (by kernel_rfl) (fun _ _ _ h => h) (by rfl) ?_ (by assumption) ?_; rotate_left; (focus ((intro w hSw; (try have hSw := HF.out _ hSw); (try dsimp only at hSw); go_simp); try exact rfl)); simp only [Act.put, List.setIfInBounds_toArray, List.set_cons_zero, List.set_cons_succ]; refine takeK_if (i := 1) (oi := _) (v := ?_) (by simp only [List.getElem?_toArray, List.getElem?_cons_succ, List.getElem?_cons_zero]; rfl) (by kernel_rfl) (by kernel_rfl) (by kernel_rfl) (fun _ _ _ h => h) (by rfl) ?_ (by assumption) ?_; rotate_left; (focus ((intro w hSw; (try have hSw := HF.out _ hSw); (try dsimp only at hSw); go_simp); try exact rfl)); simp only [Act.put, List.setIfInBounds_toArray, List.set_cons_zero, List.set_cons_succ]; refine takeK_if (i := 2) (oi := _) (v := ?_) (by simp only [List.getElem?_toArray, List.getElem?_cons_succ, List.getElem?_cons_zero]; rfl) (by kernel_rfl) (by kernel_rfl) (by kernel_rfl) (fun _ _ _ h => h) (by rfl) ?_ (by assumption) ?_; rotate_left; (focus ((intro w hSw; (try have hSw := HF.out _ hSw); (try dsimp only at hSw); go_simp); try exact rfl)); simp only [Act.put, List.setIfInBounds_toArray, List.set_cons_zero, List.set_cons_succ]; refine takeK_if (i := 3) (oi := _) (v := ?_) (by simp only [List.getElem?_toArray, List.getElem?_cons_succ, List.getElem?_cons_zero]; rfl) (by kernel_rfl) (by kernel_rfl) (by kernel_rfl) (fun _ _ _ h => h) (by rfl) ?_ (by assumption) ?_; rotate_left; (focus ((intro w hSw; (try have hSw := HF.out _ hSw); (try dsimp only at hSw); go_simp); try exact rfl)); simp only [Act.put, List.setIfInBounds_toArray, List.set_cons_zero, List.set_cons_succ]; refine takeK_if (i := 4) (oi := _) (v := ?_) (by simp only [List.getElem?_toArray, List.getElem?_cons_succ, List.getElem?_cons_zero]; rfl) (by kernel_rfl) (by kernel_rfl) (by kernel_rfl) (fun _ _ _ h => h) (by rfl) ?_ (by assumption) ?_; rotate_left; (focus ((intro w hSw; (try have hSw := HF.out _ hSw); (try dsimp only at hSw); go_simp); try exact rfl)); simp only [Act.put, List.setIfInBounds_toArray, List.set_cons_zero, List.set_cons_succ]; refine takeK_if (i := 5) (oi := _) (v := ?_) (by simp only [List.getElem?_toArray, List.getElem?_cons_succ, List.getElem?_cons_zero]; rfl) (by kernel_rfl) (by kernel_rfl) (by kernel_rfl) (fun _ _ _ h => h) (by rfl) ?_ (by assumption) ?_; rotate_left; (focus ((intro w hSw; (try have hSw := HF.out _ hSw); (try dsimp only at hSw); go_simp); try exact rfl)); simp only [Act.put, List.setIfInBounds_toArray, List.set_cons_zero, List.set_cons_succ]; refine takeK_if (i := 6) (oi := _) (v := ?_) (by simp only [List.getElem?_toArray, List.getElem?_cons_succ, List.getElem?_cons_zero]; rfl) (by kernel_rfl) (by kernel_rfl) (by kernel_rfl) (fun _ _ _ h => h) (by rfl) ?_ (by assumption) ?_; rotate_left; (focus ((intro w hSw; (try have hSw := HF.out _ hSw); (try dsimp only at hSw); go_simp); try exact rfl)); simp only [Act.put, List.setIfInBounds_toArray, List.set_cons_zero, List.set_cons_succ]; refine takeK_if (i := 7) (oi := _) (v := ?_) (by simp only [List.getElem?_toArray, List.getElem?_cons_succ, List.getElem?_cons_zero]; rfl) (by kernel_rfl) (by kernel_rfl) (by kernel_rfl) (fun _ _ _ h => h) (by rfl) ?_ (by assumption) ?_; rotate_left; (focus ((intro w hSw; (try have hSw := HF.out _ hSw); (try dsimp only at hSw); go_simp); try exact rfl)); simp only [Act.put, List.setIfInBounds_toArray, List.set_cons_zero, List.set_cons_succ])
    refine anyK_ready (rs := [8]) (by kernel_rfl) (by simp) ?_; refine (ReadyK.cons (o := _) (by simp only [List.getElem?_toArray, List.getElem?_cons_succ, List.getElem?_cons_zero]; rfl) (fun K hK => ?_) ReadyK.nil)
    go_simp
    go_at_call 55
    refine (HRO.out _ (gr_drew hg0) hk0.drew).mono ?_
    rintro en w2 ⟨rb, b2, rfl, hg2, hk2, hrb⟩
    have hg2' : w1.grownBy w2 (some bs) := (gr_drew (World.grownBy.refl w1 _)).trans hg2
    have hx2 := hx0.grown hg2' (fun e => by injection e with e; exact hsx e)
    have ho2 := ho0.grown hg2' (fun e => by injection e with e; exact hso e)
    refine hK.out _ _ ⟨hx2, ho2⟩ (fun hHeld => ?_)
    clear hK K; (try simp only [Act.put, List.setIfInBounds_toArray, List.set_cons_zero, List.set_cons_succ])
    refine anyK_last (o := _) (by kernel_rfl) (by simp only [List.getElem?_toArray, List.getElem?_cons_succ, List.getElem?_cons_zero]; rfl) (by kernel_rfl) (fun K hK => ?_)
    go_simp
    refine hK.out _ _ ?_
    go_wp2
    go_ret
    refine ⟨rb, b2, f' + xt - xf, xg, xh, rfl, ⟨w1, w2, hg0, hg2', World.grownBy.refl _ _⟩, hk2, ho2, ?_⟩
    rw [HVV.out]
    have e3 : (rb && !b2) = rowB T xf f' (xt - xf).toNat := by
      rw [Bool.false_or] at hrb
      revert hrb
      cases rb <;> cases b2 <;> cases rowB T xf f' (xt - xf).toNat <;> simp
    rw [e3]
end Go.Proofs.Ytmacfoebfpljoaa
