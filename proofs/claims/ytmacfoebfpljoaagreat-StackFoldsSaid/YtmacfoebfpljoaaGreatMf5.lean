/- merged texts: Cg Ch Co Csp -/
import Derived.Test.YtmacfoebfpljoaaGreatMf4
import Derived.Test.YtmacfoebfpljoaaGreatMf2
namespace Go.Proofs.YtmacfoebfpljoaaGreat
open Go.RowKit
theorem rowB_mono {T : Int → Int → Pl × Int} {f f' : Int} {k n : Nat} (h : rowB T f f' n = true) (hk : k ≤ n) : rowB T f f' k = true := by
  induction n with
  | zero => obtain rfl : k = 0 := by omega
            exact h
  | succ n ih =>
    rcases Nat.lt_or_ge n k with h2 | h2
    · obtain rfl : k = n + 1 := by omega
      exact h
    · simp only [rowB, Bool.and_eq_true] at h
      exact ih h.1 h2
set_option maxRecDepth 100000 in
set_option maxHeartbeats 4000000 in
theorem row_any (T : Int → Int → Pl × Int) (bl B bs : Nat) (bad : Bool) (k f t g h i m v : Int) (A A' : Option Addr) (n n' c c' : Nat) (f' : Int) (w : World) (hT : Tells T bl B w) (hBs : B ≤ bs) (hk : Shf w bs bl bad)
    (hf : 0 ≤ f) (hft : f ≤ t) (ht : t ≤ 1073741824) (h1 : -4398046511104 ≤ f') (h2 : f' ≤ 4398046511104) :
    Calls Tryz.prog 233 #[.pointer (some ⟨bs, 0, none⟩), .agg #[.int .i64 k, .int .i64 f, .int .i64 t, .int .i64 g, .int .i64 h, .int .i64 i, .int .i64 m, .int .i64 v, .slice A n c, .slice A' n' c'], .int .i64 f'] w fun e w' => ∃ rb b2, e = .returned (.bool rb) ∧ w.grownBy w' (some bs) ∧ Shf w' bs bl b2 ∧ (!rb || b2) = (bad || !(rowB T f f' (t - f).toNat)) := by
  have hat := fun W (b : Bool) (p : Int) (hg : w.grownBy W (some bs)) (hk : Shf W bs bl b) => at_any T bl B bs b p 1 W (hT.ext (gr_below hg hT.1 (fun _ e => by injection e with e; omega))) hk
  have HAT := Lib.hid hat
  have hlk := def_lt' hk
  have hne : bs ≠ w.heap.size := Nat.ne_of_lt hlk
  obtain ⟨N, hN⟩ : ∃ N : Nat, t - f = N := ⟨(t - f).toNat, by omega⟩
  have e1 : IntKind.i64.wrap (t - f) = (N : Int) := by rw [hN]; exact IntWalk.i64_in _ (by omega)
  have hNn : (t - f).toNat = N := by omega
  rw [hNn]
  have hN2 : (N : Int) ≤ 1073741824 := by omega
  clear hat hT
  have k0 := Bk.new w 45 #[.int .i64 k, .int .i64 f, .int .i64 t, .int .i64 g, .int .i64 h, .int .i64 i, .int .i64 m, .int .i64 v, .slice A n c, .slice A' n' c']
  have ks := hk.alloc (.cells #[.int .i64 k, .int .i64 f, .int .i64 t, .int .i64 g, .int .i64 h, .int .i64 i, .int .i64 m, .int .i64 v, .slice A n c, .slice A' n' c'] 45)
  have hg0 : w.grownBy (w.alloc (.cells #[.int .i64 k, .int .i64 f, .int .i64 t, .int .i64 g, .int .i64 h, .int .i64 i, .int .i64 m, .int .i64 v, .slice A n c, .slice A' n' c'] 45)) (some bs) := gr_alloc (World.grownBy.refl w _) _
  go_enter Tryz.func233, Tryz.ntmps233
  go_wp2
  go_loopw [14] (fun j wr => ∃ q : Nat, q ≤ N ∧ j = .int .i64 q ∧ w.grownBy wr (some bs) ∧ Bk wr w.heap.size 45 #[.int .i64 k, .int .i64 f, .int .i64 t, .int .i64 g, .int .i64 h, .int .i64 i, .int .i64 m, .int .i64 v, .slice A n c, .slice A' n' c'] ∧ Shf wr bs bl (bad || !(rowB T f f' q))) (fun j _ => N - (intOf j).toNat)
  case atStart => exact ⟨0, by omega, rfl, hg0, k0, by simpa [rowB] using ks⟩
  case round =>
    obtain ⟨q, hq, rfl, hgr, kx, kz⟩ := hrel
    clear k0 ks hg0
    by_cases hqn : q < N
    · have e3 : (q : Int) < N := by omega
      have e4 : IntKind.i64.wrap (f + q) = f + q := IntWalk.i64_in _ (by omega)
      have e5 : IntKind.i64.wrap (f' + q) = f' + q := IntWalk.i64_in _ (by omega)
      have hcall := HAT.out wr _ (f + q) hgr kz
      have hrow : rowB T f f' (q + 1) = (rowB T f f' q && (decide ((T (f + q) 1).2 = 0) && !(T (f + q) 1).1.gone && decide ((T (f + q) 1).1.pos = f' + q))) := rfl
      have hmono : rowB T f f' N = true → rowB T f f' (q + 1) = true := fun h => rowB_mono h (by omega)
      obtain ⟨⟨⟨tx, tg, ti, tr, tof⟩, te⟩, hX⟩ : ∃ y, T (f + q) 1 = y := ⟨_, rfl⟩
      rw [hX] at hcall hrow
      simp only [Pl.val] at hcall hrow
      have HC := Lib.hid hcall
      have HW := Lib.hid hrow
      have HM := Lib.hid hmono
      have x1 := kx.cell 1
      dsimp at x1
      clear hcall hrow hmono hX kz
      have hlw := hgr.size
      by_cases hgo : tg = false ∧ tx = f' + q
      · obtain ⟨rfl, rfl⟩ := hgo
        go_wp2_with (go_at_call 228; (refine HC.out.mono ?_); rintro e w1 ⟨rfl, hg1, hk1⟩)
        go_roundw
        case rel =>
          refine ⟨q + 1, by omega, by go_num, gr_alloc (hgr.trans hg1) _, (kx.grown hg1 (fun e => by injection e with e; exact hne e)).alloc _, ?_⟩
          have := hk1.alloc (.cells #[.int .i64 (f' + q), .bool false, .bool ti, .int .i64 tr, .int .i64 tof] 327)
          have e : ((bad || !(rowB T f f' q)) || decide (te ≠ 0)) = (bad || !(rowB T f f' q && (decide (te = 0) && !false && decide True))) := by
            by_cases hte : te = 0 <;> cases bad <;> cases rowB T f f' q <;> simp [hte]
          rw [HW.out, ← e]
          exact this
        case measure => simp [intOf]; omega
      · have hbad : rowB T f f' N = false := by
          cases hr : rowB T f f' N with
          | false => rfl
          | true =>
            have := HW.out.symm.trans (HM.out hr)
            simp only [Bool.and_eq_true, decide_eq_true_eq, Bool.not_eq_true'] at this
            exact absurd ⟨this.2.1.2, this.2.2⟩ hgo
        have HB := Lib.hid hbad
        clear hbad HW HM
        cases tg with
        | true =>
          clear hgo
          go_wp2_with (go_at_call 228; (refine HC.out.mono ?_); rintro e w1 ⟨rfl, hg1, hk1⟩)
          go_ret
          exact ⟨false, _, rfl, gr_alloc (hgr.trans hg1) _, hk1.alloc _, by rw [HB.out]; simp⟩
        | false =>
          have hne2 : ¬ tx = f' + q := fun e => hgo ⟨rfl, e⟩
          have t1 : (tx != f' + q) = true := by simpa using hne2
          have t2 : (tx == f' + q) = false := by simpa using hne2
          clear hgo
          go_wp2_with (go_at_call 228; (refine HC.out.mono ?_); rintro e w1 ⟨rfl, hg1, hk1⟩)
          go_ret
          exact ⟨false, _, rfl, gr_alloc (hgr.trans hg1) _, hk1.alloc _, by rw [HB.out]; simp⟩
    · obtain rfl : N = q := by omega
      go_wp2
      go_ret
      exact ⟨true, _, rfl, hgr, kz, by simp⟩
/-- the ten cells of a step -/
abbrev stp (k f t g h i m v : Int) (A : Option Addr) (n c : Nat) (A' : Option Addr) (n' c' : Nat) : Array Value := #[.int .i64 k, .int .i64 f, .int .i64 t, .int .i64 g, .int .i64 h, .int .i64 i, .int .i64 m, .int .i64 v, .slice A n c, .slice A' n' c']
/-- nothing is written but blocks a and b -/
def Grown2 (a b : Nat) (w w' : World) : Prop := ∃ w1 w2, w.grownBy w1 (some b) ∧ w1.grownBy w2 (some a) ∧ w2.grownBy w' (some b)
theorem Grown2.bk {a b x : Nat} {w w' : World} {t : TypeId} {cs : Array Value} (h : Grown2 a b w w') (hk : Bk w x t cs) (ha : x ≠ a) (hb : x ≠ b) : Bk w' x t cs := by
  obtain ⟨w1, w2, h1, h2, h3⟩ := h
  exact ((hk.grown h1 (fun e => hb (by injection e with e; exact e.symm))).grown h2 (fun e => ha (by injection e with e; exact e.symm))).grown h3 (fun e => hb (by injection e with e; exact e.symm))
theorem Grown2.drewN {a b : Nat} {w w' : World} (h : Grown2 a b w w') (n : Nat) : Grown2 a b w (w'.drewN n) := by
  obtain ⟨w1, w2, h1, h2, h3⟩ := h
  exact ⟨w1, w2, h1, h2, gr_drewN h3 n⟩
theorem Grown2.below {a b B : Nat} {w w' : World} (h : Grown2 a b w w') (hB : B ≤ w.heap.size) (ha : B ≤ a) (hb : B ≤ b) : Below B w w' := by
  obtain ⟨w1, w2, h1, h2, h3⟩ := h
  have g1 := gr_below h1 hB (fun _ e => by injection e with e; omega)
  have g2 := gr_below h2 (Nat.le_trans hB g1.size) (fun _ e => by injection e with e; omega)
  have g3 := gr_below h3 (Nat.le_trans hB (g1.trans g2).size) (fun _ e => by injection e with e; omega)
  exact (g1.trans g2).trans g3
/-- what kind says -/
def KindS (T : Int → Int → Pl × Int) (x : StC) (f' t' e : Int) (bs bl bo : Nat) (A : Option Addr) (n c : Nat) (A' : Option Addr) (n' c' : Nat) (w : World) (en : Ending) (w' : World) : Prop :=
  ∃ rb b2 t2 g2 h2, en = .returned (.bool rb) ∧ Grown2 bs bo w w' ∧ Shf w' bs bl b2 ∧ Bk w' bo 45 (stp x.k f' t2 g2 h2 x.i x.m x.v A n c A' n' c') ∧
    kindB T x f' t' e = if (rb && !b2) = true then some { x with f := f', t := t2, g := g2, h := h2 } else none
set_option maxRecDepth 100000 in
set_option maxHeartbeats 2000000 in
theorem kind_34 (T : Int → Int → Pl × Int) (bl bs bx bo : Nat) (x : StC) (f' t' e : Int) (A : Option Addr) (n c : Nat) (A' : Option Addr) (n' c' : Nat) (A2 : Option Addr) (n2 c2 : Nat) (A2' : Option Addr) (n2' c2' : Nat) (w : World) (hk : Shf w bs bl false)
    (hx : Bk w bx 45 (stp x.k x.f x.t x.g x.h x.i x.m x.v A n c A' n' c')) (ho : Bk w bo 45 (stp x.k f' t' x.g x.h x.i x.m x.v A2 n2 c2 A2' n2' c2')) (h34 : x.k = 3 ∨ x.k = 4) :
    Calls Tryz.prog 229 #[.pointer (some ⟨bs, 0, none⟩), .pointer (some ⟨bx, 0, none⟩), .pointer (some ⟨bo, 0, none⟩), .int .i64 e] w (KindS T x f' t' e bs bl bo A2 n2 c2 A2' n2' c2' w) := by
  have hv : kindB T x f' t' e = if f' < e then some { x with f := f', t := t', g := x.g, h := x.h } else none := by
    unfold kindB
    rw [if_neg (by omega), if_pos h34]
  have hg : Grown2 bs bo w w := ⟨w, w, World.grownBy.refl _ _, World.grownBy.refl _ _, World.grownBy.refl _ _⟩
  have HVV := Lib.hid hv
  obtain ⟨xk, xf, xt, xg, xh, xi, xm, xv, sl, st⟩ := x
  simp only at *
  have x0 := hx.cell 0
  have o1 := ho.cell 1
  dsimp [stp] at x0 o1
  have HV : Hid ((f' < e ∧ decide (f' < e) = true) ∨ (¬ f' < e ∧ decide (f' < e) = false)) := Lib.hid (by by_cases h : f' < e <;> simp [h])
  clear hv
  rcases h34 with rfl | rfl
  all_goals
    go_enter Tryz.func229, Tryz.ntmps229
    go_wp2
    go_ret
    exact ⟨decide (f' < e), false, t', xg, xh, rfl, hg, hk, ho, by rw [HVV.out]; simp⟩
set_option maxRecDepth 100000 in
set_option maxHeartbeats 2000000 in
theorem kind_1 (T : Int → Int → Pl × Int) (bl bs bx bo : Nat) (x : StC) (f' t' e : Int) (A : Option Addr) (n c : Nat) (A' : Option Addr) (n' c' : Nat) (A2 : Option Addr) (n2 c2 : Nat) (A2' : Option Addr) (n2' c2' : Nat) (w : World) (hk : Shf w bs bl false)
    (hx : Bk w bx 45 (stp x.k x.f x.t x.g x.h x.i x.m x.v A n c A' n' c')) (ho : Bk w bo 45 (stp x.k f' t' x.g x.h x.i x.m x.v A2 n2 c2 A2' n2' c2')) (h1 : x.k = 1) :
    Calls Tryz.prog 229 #[.pointer (some ⟨bs, 0, none⟩), .pointer (some ⟨bx, 0, none⟩), .pointer (some ⟨bo, 0, none⟩), .int .i64 e] w (KindS T x f' t' e bs bl bo A2 n2 c2 A2' n2' c2' w) := by
  have hv : kindB T x f' t' e = some { x with f := f', t := t', g := x.g, h := x.h } := by
    unfold kindB
    rw [if_neg (by omega), if_neg (by omega), if_neg (by omega)]
  have hg : Grown2 bs bo w w := ⟨w, w, World.grownBy.refl _ _, World.grownBy.refl _ _, World.grownBy.refl _ _⟩
  have HVV := Lib.hid hv
  obtain ⟨xk, xf, xt, xg, xh, xi, xm, xv, sl, st⟩ := x
  simp only at *
  have x0 := hx.cell 0
  dsimp [stp] at x0
  clear hv
  subst h1
  go_enter Tryz.func229, Tryz.ntmps229
  go_wp2
  go_ret
  exact ⟨true, false, t', xg, xh, rfl, hg, hk, ho, by rw [HVV.out]; simp⟩
set_option maxRecDepth 100000 in
set_option maxHeartbeats 4000000 in
theorem kind_2 (T : Int → Int → Pl × Int) (bl B bs bx bo : Nat) (x : StC) (f' t' e : Int) (A : Option Addr) (n c : Nat) (A' : Option Addr) (n' c' : Nat) (A2 : Option Addr) (n2 c2 : Nat) (A2' : Option Addr) (n2' c2' : Nat) (w : World) (hT : Tells T bl B w) (hBs : B ≤ bs) (hk : Shf w bs bl false) (hsx : bs ≠ bx) (hso : bs ≠ bo) (hxo : bo ≠ bx)
    (hx : Bk w bx 45 (stp x.k x.f x.t x.g x.h x.i x.m x.v A n c A' n' c')) (ho : Bk w bo 45 (stp x.k f' t' x.g x.h x.i x.m x.v A2 n2 c2 A2' n2' c2')) (h2 : x.k = 2) :
    Calls Tryz.prog 229 #[.pointer (some ⟨bs, 0, none⟩), .pointer (some ⟨bx, 0, none⟩), .pointer (some ⟨bo, 0, none⟩), .int .i64 e] w (KindS T x f' t' e bs bl bo A2 n2 c2 A2' n2' c2' w) := by
  have hat := fun W (b : Bool) (p s : Int) (hg : w.grownBy W (some bs)) (hk : Shf W bs bl b) => at_any T bl B bs b p s W (hT.ext (gr_below hg hT.1 (fun _ e => by injection e with e; omega))) hk
  have hv : kindB T x f' t' e = if (T x.g (-1)).2 = 0 ∧ (T x.h 1).2 = 0 ∧ f' ≤ (T x.g (-1)).1.pos ∧ (T x.g (-1)).1.pos ≤ (T x.h 1).1.pos ∧ (T x.h 1).1.pos ≤ e then some { x with f := f', t := t', g := (T x.g (-1)).1.pos, h := (T x.h 1).1.pos } else none := by
    unfold kindB
    rw [if_pos h2]
  have HVV := Lib.hid hv
  obtain ⟨xk, xf, xt, xg, xh, xi, xm, xv, sl, st⟩ := x
  simp only at *
  have hat1 := fun W b => hat W b xg (-1)
  have hat2 := fun W b => hat W b xh 1
  obtain ⟨⟨⟨g1, gg, gi, gr, go⟩, ge⟩, hX⟩ : ∃ y, T xg (-1) = y := ⟨_, rfl⟩
  obtain ⟨⟨⟨h1, hg, hi, hr, ho'⟩, he⟩, hY⟩ : ∃ y, T xh 1 = y := ⟨_, rfl⟩
  rw [hX] at hat1
  rw [hY] at hat2
  rw [hX, hY] at hv
  simp only [Pl.val] at hat1 hat2 hv
  have HA1 := Lib.hid hat1
  have HA2 := Lib.hid hat2
  have HV := Lib.hid hv
  have x0 := hx.cell 0
  dsimp [stp] at x0
  have hlx := def_lt' hx
  have hlo := def_lt' ho
  clear hv hat hat1 hat2 HVV hX hY
  subst h2
  go_enter Tryz.func229, Tryz.ntmps229
  go_upto_region 6 with fail
  have hF : ∀ w', Bk w' bx 45 (stp 2 xf xt xg xh xi xm xv A n c A' n' c') → w'.cell? ⟨bx, 3, none⟩ = some (.int .i64 xg) ∧ w'.cell? ⟨bx, 4, none⟩ = some (.int .i64 xh) := fun w' hb => ⟨hb.cell 3, hb.cell 4⟩
  have HF := Lib.hid hF
  clear hF
  refine wp_normal ?_
  refine wp_region_held_drew (S := fun w' => Bk w' bx 45 (stp 2 xf xt xg xh xi xm xv A n c A' n' c')) (by kernel_rfl) hx.drew (fun hHeld => ?_)
  (refine tkH 0 ?_; refine tkH 1 ?_; refine tkH 2 ?_; refine tkH 3 ?_; refine tkH 4 ?_; refine tkH 5 ?_; refine tkH 6 ?_; refine tkH 9 ?_; refine tkH 10 ?_; refine tkH 11 ?_; refine tkH 12 ?_; refine tkH 13 ?_)
  refine nxH 7 (fun K hK => ?_)
  go_simp
  go_at_call 228
  refine (HA1.out _ false (gr_drew (World.grownBy.refl w _)) hk.drew).mono ?_
  rintro e1 w1 ⟨rfl, hg1, hk1⟩
  have hg1' : w.grownBy w1 (some bs) := (gr_drew (World.grownBy.refl w _)).trans hg1
  refine hK.out _ _ (hx.grown hg1' (fun e => by injection e with e; exact hsx e)) (fun hHeld => ?_)
  clear hK K; refine puH ?_
  (refine tkH 8 ?_)
  refine nxH 14 (fun K hK => ?_)
  go_simp
  go_at_call 228
  refine (HA2.out _ _ hg1' hk1).mono ?_
  rintro e2 w2 ⟨rfl, hg2, hk2⟩
  have hg2' := hg1'.trans hg2
  have hx2 := hx.grown hg2' (fun e => by injection e with e; exact hsx e)
  have o2 := ho.grown hg2' (fun e => by injection e with e; exact hso e)
  have c0 := o2.cell 0; have c1 := o2.cell 1; have c3 := o2.cell 3; have c4 := o2.cell 4
  have lo := def_lt' o2; have fo := o2.frozen
  dsimp [stp] at c0 c1 c3 c4
  refine hK.out _ _ hx2 (fun hHeld => ?_)
  clear hK K; refine puH ?_
  (refine tkH 15 ?_; refine tkH 16 ?_; refine tkH 17 ?_)
  refine nxH 18 (fun K hK => ?_)
  go_simp
  refine hK.out _ _ (hx2.far (by simp; exact Ne.symm hxo) _) (fun hHeld => ?_)
  clear hK K; refine puH ?_
  (refine tkH 19 ?_; refine tkH 20 ?_)
  refine nxH 21 (fun K hK => ?_)
  go_simp
  refine hK.out _ _ ((hx2.far (by simp; exact Ne.symm hxo) _).far (by simp; exact Ne.symm hxo) _) (fun hHeld => ?_)
  clear hK K; refine puH ?_
  refine wpAnyH_done (by kernel_rfl) ?_ _
  have hgo3 : w2.grownBy ((w2.setCell ⟨bo, 3, none⟩ (.int .i64 g1)).setCell ⟨bo, 4, none⟩ (.int .i64 h1)) (some bo) := gr_set (gr_set (p := ⟨bo, 3, none⟩) (World.grownBy.refl w2 _) (.inl rfl) _) (p := ⟨bo, 4, none⟩) (.inl rfl) _
  have hG : Grown2 bs bo w ((w2.setCell ⟨bo, 3, none⟩ (.int .i64 g1)).setCell ⟨bo, 4, none⟩ (.int .i64 h1)) := ⟨w, w2, World.grownBy.refl _ _, hg2', hgo3⟩
  have hk3 := hk2.grown hgo3 (fun e => by injection e with e; exact hso e.symm)
  have o3 : Bk ((w2.setCell ⟨bo, 3, none⟩ (.int .i64 g1)).setCell ⟨bo, 4, none⟩ (.int .i64 h1)) bo 45 (stp 2 f' t' g1 h1 xi xm xv A2 n2 c2 A2' n2' c2') := (o2.set_ 3 _).set_ 4 _
  generalize (w2.setCell ⟨bo, 3, none⟩ (.int .i64 g1)).setCell ⟨bo, 4, none⟩ (.int .i64 h1) = w3 at *
  have c1 := o3.cell 1; have c3 := o3.cell 3; have c4 := o3.cell 4
  dsimp [stp] at c1 c3 c4
  have hres : kindB T ⟨2, xf, xt, xg, xh, xi, xm, xv, sl, st⟩ f' t' e = if (decide (f' ≤ g1 ∧ g1 ≤ h1 ∧ h1 ≤ e) && !((false || decide (ge ≠ 0)) || decide (he ≠ 0))) = true then some ⟨2, f', t', g1, h1, xi, xm, xv, sl, st⟩ else none := by
    rw [HV.out]
    suffices hiff : (ge = 0 ∧ he = 0 ∧ f' ≤ g1 ∧ g1 ≤ h1 ∧ h1 ≤ e) ↔ (decide (f' ≤ g1 ∧ g1 ≤ h1 ∧ h1 ≤ e) && !((false || decide (ge ≠ 0)) || decide (he ≠ 0))) = true by
      by_cases hA : ge = 0 ∧ he = 0 ∧ f' ≤ g1 ∧ g1 ≤ h1 ∧ h1 ≤ e
      · rw [if_pos hA, if_pos (hiff.1 hA)]
      · rw [if_neg hA, if_neg (fun h => hA (hiff.2 h))]
    simp only [Bool.and_eq_true, decide_eq_true_eq, Bool.not_eq_true', Bool.or_eq_false_iff, decide_eq_false_iff_not, Decidable.not_not]
    constructor
    · rintro ⟨h1, h2, h3, h4, h5⟩; exact ⟨⟨h3, h4, h5⟩, ⟨trivial, h1⟩, h2⟩
    · rintro ⟨⟨h3, h4, h5⟩, ⟨_, h1⟩, h2⟩; exact ⟨h1, h2, h3, h4, h5⟩
  have HRES := Lib.hid hres
  have HGG := Lib.hid hG
  clear hres hG hgo3 hg1 hg2 hg1' hg2' HV HA1 HA2 HF hx2 o2 c0
  by_cases d1 : f' ≤ g1
  · have t1 : decide (f' ≤ g1) = true := decide_eq_true d1
    by_cases d2 : g1 ≤ h1
    · have t2 : decide (g1 ≤ h1) = true := decide_eq_true d2
      by_cases d3 : h1 ≤ e
      · have t3 : decide (h1 ≤ e) = true := decide_eq_true d3
        have hd : decide (f' ≤ g1 ∧ g1 ≤ h1 ∧ h1 ≤ e) = true := decide_eq_true ⟨d1, d2, d3⟩
        have hr := HRES.out
        rw [hd] at hr
        have HR := Lib.hid hr
        clear hr hd HRES
        go_wp2
        go_quiet (fail)
        go_wp2
        go_ret
        exact ⟨true, _, t', g1, h1, rfl, HGG.out.drewN _, hk3.drewN _, o3.drewN _, HR.out⟩
      · have t3 : decide (h1 ≤ e) = false := decide_eq_false d3
        have hd : decide (f' ≤ g1 ∧ g1 ≤ h1 ∧ h1 ≤ e) = false := decide_eq_false (fun h => d3 h.2.2)
        have hr := HRES.out
        rw [hd] at hr
        have HR := Lib.hid hr
        clear hr hd HRES
        go_wp2
        go_quiet (fail)
        go_wp2
        go_ret
        exact ⟨false, _, t', g1, h1, rfl, HGG.out.drewN _, hk3.drewN _, o3.drewN _, HR.out⟩
    · have t2 : decide (g1 ≤ h1) = false := decide_eq_false d2
      have hd : decide (f' ≤ g1 ∧ g1 ≤ h1 ∧ h1 ≤ e) = false := decide_eq_false (fun h => d2 h.2.1)
      have hr := HRES.out
      rw [hd] at hr
      have HR := Lib.hid hr
      clear hr hd HRES
      go_wp2
      go_quiet (fail)
      go_wp2
      go_ret
      exact ⟨false, _, t', g1, h1, rfl, HGG.out.drewN _, hk3.drewN _, o3.drewN _, HR.out⟩
  · have t1 : decide (f' ≤ g1) = false := decide_eq_false d1
    have hd : decide (f' ≤ g1 ∧ g1 ≤ h1 ∧ h1 ≤ e) = false := decide_eq_false (fun h => d1 h.1)
    have hr := HRES.out
    rw [hd] at hr
    have HR := Lib.hid hr
    clear hr hd HRES
    go_wp2
    go_quiet (fail)
    go_wp2
    go_ret
    exact ⟨false, _, t', g1, h1, rfl, HGG.out.drewN _, hk3.drewN _, o3.drewN _, HR.out⟩
set_option maxRecDepth 100000 in
set_option maxHeartbeats 4000000 in
theorem kind_5 (T : Int → Int → Pl × Int) (bl B bs bx bo : Nat) (x : StC) (f' t' e : Int) (A : Option Addr) (n c : Nat) (A' : Option Addr) (n' c' : Nat) (A2 : Option Addr) (n2 c2 : Nat) (A2' : Option Addr) (n2' c2' : Nat) (w : World) (hT : Tells T bl B w) (hBs : B ≤ bs) (hBo : B ≤ bo) (hk : Shf w bs bl false) (hsx : bs ≠ bx) (hso : bs ≠ bo) (hxo : bo ≠ bx)
    (hx : Bk w bx 45 (stp x.k x.f x.t x.g x.h x.i x.m x.v A n c A' n' c')) (ho : Bk w bo 45 (stp x.k f' t' x.g x.h x.i x.m x.v A2 n2 c2 A2' n2' c2')) (h5 : x.k = 5)
    (hf : 0 ≤ x.f) (hft : x.f ≤ x.t) (ht : x.t ≤ 1073741824) (h1 : -4398046511104 ≤ f') (h2 : f' ≤ 4398046511104) :
    Calls Tryz.prog 229 #[.pointer (some ⟨bs, 0, none⟩), .pointer (some ⟨bx, 0, none⟩), .pointer (some ⟨bo, 0, none⟩), .int .i64 e] w (KindS T x f' t' e bs bl bo A2 n2 c2 A2' n2' c2' w) := by
  have hv : kindB T x f' t' e = if rowB T x.f f' (x.t - x.f).toNat = true then some { x with f := f', t := f' + x.t - x.f, g := x.g, h := x.h } else none := by
    unfold kindB
    rw [if_neg (by omega), if_neg (by omega), if_pos h5]
  have HVV := Lib.hid hv
  obtain ⟨xk, xf, xt, xg, xh, xi, xm, xv, sl, st⟩ := x
  simp only at *
  have hro := fun W (hg : w.grownBy W (some bo)) (hk : Shf W bs bl false) => row_any T bl B bs false xk xf xt xg xh xi xm xv A A' n n' c c' f' W (hT.ext (gr_below hg hT.1 (fun _ e => by injection e with e; omega))) hBs hk hf hft ht h1 h2
  have HRO := Lib.hid hro
  have x0 := hx.cell 0
  dsimp [stp] at x0
  have hlx := def_lt' hx
  have hlo := def_lt' ho
  have e1 : IntKind.i64.wrap (f' + xt) = f' + xt := IntWalk.i64_in _ (by omega)
  have e2 : IntKind.i64.wrap (f' + xt - xf) = f' + xt - xf := IntWalk.i64_in _ (by omega)
  have hF : ∀ w', (Bk w' bx 45 (stp 5 xf xt xg xh xi xm xv A n c A' n' c') ∧ Bk w' bo 45 (stp 5 f' t' xg xh xi xm xv A2 n2 c2 A2' n2' c2')) → w'.cell? ⟨bx, 1, none⟩ = some (.int .i64 xf) ∧ w'.cell? ⟨bx, 2, none⟩ = some (.int .i64 xt) ∧ w'.cell? ⟨bo, 1, none⟩ = some (.int .i64 f') := fun w' hb => ⟨hb.1.cell 1, hb.1.cell 2, hb.2.cell 1⟩
  have HF := Lib.hid hF
  clear hv hro hF hf hft ht h1 h2
  subst h5
  go_enter Tryz.func229, Tryz.ntmps229
  go_upto_region 9 with fail
  have q2 := ho.cell 2
  have fo := ho.frozen
  dsimp [stp] at q2
  go_cut [75] (fun _ wx => wx = (w.setCell ⟨bo, 2, none⟩ (.int .i64 (f' + xt - xf))).drew)
  case first =>
    refine wp_normal ?_
    refine region_L (S := fun w' => Bk w' bx 45 (stp 5 xf xt xg xh xi xm xv A n c A' n' c') ∧ Bk w' bo 45 (stp 5 f' t' xg xh xi xm xv A2 n2 c2 A2' n2' c2')) [17] (by kernel_rfl) ⟨hx.drew, ho.drew⟩ (fun hHeld => ?_)
    (refine tkL 0 ?_; refine tkL 1 ?_; refine tkL 2 ?_; refine tkL 3 ?_; refine tkL 4 ?_; refine tkL 5 ?_; refine tkL 6 ?_; refine tkL 7 ?_; refine tkL 8 ?_; refine tkL 9 ?_; refine tkL 10 ?_; refine tkL 11 ?_; refine tkL 12 ?_; refine tkL 13 ?_; refine tkL 14 ?_; refine tkL 15 ?_; refine tkL 16 ?_)
    refine ltL 17 (fun K hK => ?_)
    go_simp
    refine hK.out _ _ ?_
    refine anyL_done (by kernel_rfl) ?_
    go_wp2
    go_meet
    rfl
  case rest =>
    subst hcut
    have hg0 : w.grownBy (w.setCell ⟨bo, 2, none⟩ (.int .i64 (f' + xt - xf))).drew (some bo) := gr_drew (gr_set (p := ⟨bo, 2, none⟩) (World.grownBy.refl w _) (.inl rfl) _)
    have hk0 := hk.grown hg0 (fun e => by injection e with e; exact hso e.symm)
    have hx0 := hx.grown hg0 (fun e => by injection e with e; exact hxo e)
    have ho0 : Bk (w.setCell ⟨bo, 2, none⟩ (.int .i64 (f' + xt - xf))).drew bo 45 (stp 5 f' (f' + xt - xf) xg xh xi xm xv A2 n2 c2 A2' n2' c2') := (ho.set_ 2 _).drew
    generalize (w.setCell ⟨bo, 2, none⟩ (.int .i64 (f' + xt - xf))).drew = w1 at *
    have hF : ∀ w', (Bk w' bx 45 (stp 5 xf xt xg xh xi xm xv A n c A' n' c') ∧ Bk w' bo 45 (stp 5 f' (f' + xt - xf) xg xh xi xm xv A2 n2 c2 A2' n2' c2')) → w'.cell? ⟨bo, 1, none⟩ = some (.int .i64 f') ∧ w'.cell? ⟨bx, 0, none⟩ = some (.int .i64 5) ∧ w'.cell? ⟨bx, 1, none⟩ = some (.int .i64 xf) ∧ w'.cell? ⟨bx, 2, none⟩ = some (.int .i64 xt) ∧ w'.cell? ⟨bx, 3, none⟩ = some (.int .i64 xg) ∧ w'.cell? ⟨bx, 4, none⟩ = some (.int .i64 xh) ∧ w'.cell? ⟨bx, 5, none⟩ = some (.int .i64 xi) ∧ w'.cell? ⟨bx, 6, none⟩ = some (.int .i64 xm) ∧ w'.cell? ⟨bx, 7, none⟩ = some (.int .i64 xv) ∧ w'.cell? ⟨bx, 8, none⟩ = some (.slice A n c) ∧ w'.cell? ⟨bx, 9, none⟩ = some (.slice A' n' c') := fun w' hb => ⟨hb.2.cell 1, hb.1.cell 0, hb.1.cell 1, hb.1.cell 2, hb.1.cell 3, hb.1.cell 4, hb.1.cell 5, hb.1.cell 6, hb.1.cell 7, hb.1.cell 8, hb.1.cell 9⟩
    have HF2 := Lib.hid hF
    clear HF hF x0 q2 fo
    have HF := HF2
    clear HF2
    go_upto_region 10 with fail
    refine wp_normal ?_
    refine region_K (S := fun w' => Bk w' bx 45 (stp 5 xf xt xg xh xi xm xv A n c A' n' c') ∧ Bk w' bo 45 (stp 5 f' (f' + xt - xf) xg xh xi xm xv A2 n2 c2 A2' n2' c2')) 9 (by kernel_rfl) ⟨hx0.drew, ho0.drew⟩ (fun hHeld => ?_)
    (refine takeK_if (i := 0) (oi := _) (v := ?_) (by simp only [List.getElem?_toArray, List.getElem?_cons_zero]; rfl) (by kernel_rfl) (by kernel_rfl) (by kernel_rfl) (fun _ _ _ h => h) (by rfl) ?_ (by assumption) ?_; rotate_left; (focus ((intro w hSw; (try have hSw := HF.out _ hSw); (try dsimp only at hSw); go_simp); try exact rfl)); simp only [Act.put, List.setIfInBounds_toArray, List.set_cons_zero, List.set_cons_succ]; refine takeK_if (i := 1) (oi := _) (v := ?_) (by simp only [List.getElem?_toArray, List.getElem?_cons_succ, List.getElem?_cons_zero]; rfl) (by kernel_rfl) (by kernel_rfl) (by kernel_rfl) (fun _ _ _ h => h) (by rfl) ?_ (by assumption) ?_; rotate_left; (focus ((intro w hSw; (try have hSw := HF.out _ hSw); (try dsimp only at hSw); go_simp); try exact rfl)); simp only [Act.put, List.setIfInBounds_toArray, List.set_cons_zero, List.set_cons_succ]; refine takeK_if (i := 2) (oi := _) (v := ?_) (by simp only [List.getElem?_toArray, List.getElem?_cons_succ, List.getElem?_cons_zero]; rfl) (by kernel_rfl) (by kernel_rfl) (by kernel_rfl) (fun _ _ _ h => h) (by rfl) ?_ (by assumption) ?_; rotate_left; (focus ((intro w hSw; (try have hSw := HF.out _ hSw); (try dsimp only at hSw); go_simp); try exact rfl)); simp only [Act.put, List.setIfInBounds_toArray, List.set_cons_zero, List.set_cons_succ]; refine takeK_if (i := 3) (oi := _) (v := ?_) (by simp only [List.getElem?_toArray, List.getElem?_cons_succ, List.getElem?_cons_zero]; rfl) (by kernel_rfl) (by kernel_rfl) (by kernel_rfl) (fun _ _ _ h => h) (by rfl) ?_ (by assumption) ?_; rotate_left; (focus ((intro w hSw; (try have hSw := HF.out _ hSw); (try dsimp only at hSw); go_simp); try exact rfl)); simp only [Act.put, List.setIfInBounds_toArray, List.set_cons_zero, List.set_cons_succ]; refine takeK_if (i := 4) (oi := _) (v := ?_) (by simp only [List.getElem?_toArray, List.getElem?_cons_succ, List.getElem?_cons_zero]; rfl) (by kernel_rfl) (by kernel_rfl) (by kernel_rfl) (fun _ _ _ h => h) (by rfl) ?_ (by assumption) ?_; rotate_left; (focus ((intro w hSw; (try have hSw := HF.out _ hSw); (try dsimp only at hSw); go_simp); try exact rfl)); simp only [Act.put, List.setIfInBounds_toArray, List.set_cons_zero, List.set_cons_succ]; refine takeK_if (i := 5) (oi := _) (v := ?_) (by simp only [List.getElem?_toArray, List.getElem?_cons_succ, List.getElem?_cons_zero]; rfl) (by kernel_rfl) (by kernel_rfl) (by kernel_rfl) (fun _ _ _ h => h) (by rfl) ?_ (by assumption) ?_; rotate_left; (focus ((intro w hSw; (try have hSw := HF.out _ hSw); (try dsimp only at hSw); go_simp); try exact rfl)); simp only [Act.put, List.setIfInBounds_toArray, List.set_cons_zero, List.set_cons_succ]; refine takeK_if (i := 6) (oi := _) (v := ?_) (by simp only [List.getElem?_toArray, List.getElem?_cons_succ, List.getElem?_cons_zero]; rfl) (by kernel_rfl) (by kernel_rfl) (by kernel_rfl) (fun _ _ _ h => h) (by rfl) ?_ (by assumption) ?_; rotate_left; (focus ((intro w hSw; (try have hSw := HF.out _ hSw); (try dsimp only at hSw); go_simp); try exact rfl)); simp only [Act.put, List.setIfInBounds_toArray, List.set_cons_zero, List.set_cons_succ]; refine takeK_if (i := 7) (oi := _) (v := ?_) (by simp only [List.getElem?_toArray, List.getElem?_cons_succ, List.getElem?_cons_zero]; rfl) (by kernel_rfl) (by kernel_rfl) (by kernel_rfl) (fun _ _ _ h => h) (by rfl) ?_ (by assumption) ?_; rotate_left; (focus ((intro w hSw; (try have hSw := HF.out _ hSw); (try dsimp only at hSw); go_simp); try exact rfl)); simp only [Act.put, List.setIfInBounds_toArray, List.set_cons_zero, List.set_cons_succ])
    refine anyK_ready (rs := [8]) (by kernel_rfl) (by simp) ?_; refine (ReadyK.cons (o := _) (by simp only [List.getElem?_toArray, List.getElem?_cons_succ, List.getElem?_cons_zero]; rfl) (fun K hK => ?_) ReadyK.nil)
    go_simp
    go_at_call 233
    refine (HRO.out _ (gr_drew hg0) hk0.drew).mono ?_
    rintro en w2 ⟨rb, b2, rfl, hg2, hk2, hrb⟩
    have hg2' : w1.grownBy w2 (some bs) := (gr_drew (World.grownBy.refl w1 _)).trans hg2
    have hx2 := hx0.grown hg2' (fun e => by injection e with e; exact hsx e)
    have ho2 := ho0.grown hg2' (fun e => by injection e with e; exact hso e)
    refine hK.out _ _ ⟨hx2, ho2⟩ (fun hHeld => ?_)
    clear hK K; (try simp only [Act.put, List.setIfInBounds_toArray, List.set_cons_zero, List.set_cons_succ])
    refine anyK_last (o := _) (by kernel_rfl) (by simp only [List.getElem?_toArray, List.getElem?_cons_succ, List.getElem?_cons_zero]; rfl) (by kernel_rfl) (fun K hK => ?_)
    go_simp
    refine hK.out _ _ ?_
    go_wp2
    go_ret
    refine ⟨rb, b2, f' + xt - xf, xg, xh, rfl, ⟨w1, w2, hg0, hg2', World.grownBy.refl _ _⟩, hk2, ho2, ?_⟩
    rw [HVV.out]
    have e3 : (rb && !b2) = rowB T xf f' (xt - xf).toNat := by
      rw [Bool.false_or] at hrb
      revert hrb
      cases rb <;> cases b2 <;> cases rowB T xf f' (xt - xf).toNat <;> simp
    rw [e3]
theorem info_tok : (Tryz.prog.info? 126).map (fun i => (i.zero, i.size, i.bytes)) = some (some (.agg #[.int .i64 0, .int .i64 0, .int .i64 0, .int .i32 0, .int .u16 0, .int .u16 0, .int .u16 0, .int .u16 0, .int .u16 0, .int .u16 0, .int .u16 0, .int .u16 0]), 12, 48) := by kernel_rfl
theorem info_mk : (Tryz.prog.info? 124).map (fun i => (i.zero, i.size, i.bytes)) = some (some (.agg #[.int .u16 0, .int .u16 0, .int .u16 0, .int .u16 0, .int .u16 0, .int .u16 0, .int .u16 0, .int .u16 0]), 8, 16) := by kernel_rfl
theorem toks_one : ∀ (l : List Tok), ∀ u ∈ toks l, u.oneCell' = true := by
  intro l u hu
  obtain ⟨r, _, hr⟩ := List.mem_flatMap.1 hu
  simp only [Tok.cells, Mk.cells, List.mem_cons, List.not_mem_nil, or_false] at hr
  rcases hr with rfl | rfl | rfl | rfl | rfl | rfl | rfl | rfl | rfl | rfl | rfl | rfl <;> rfl
theorem mks_one : ∀ (l : List Mk), ∀ u ∈ mks l, u.oneCell' = true := by
  intro l u hu
  obtain ⟨r, _, hr⟩ := List.mem_flatMap.1 hu
  simp only [Mk.cells, List.mem_cons, List.not_mem_nil, or_false] at hr
  rcases hr with rfl | rfl | rfl | rfl | rfl | rfl | rfl | rfl <;> rfl
set_option maxHeartbeats 400000 in
theorem clone_tok (A : Option Addr) (n c : Nat) (l : List Tok) (w : World) (h : Rd w w.heap.size 12 A n (toks l)) (hA : A = none → n = 0) (hn : n ≤ 1000000) :
    Calls Tryz.prog 172 #[.slice A n c] w (Cloned 126 12 n (toks l) w) := by
  cases A with
  | none =>
    obtain rfl : n = 0 := hA rfl
    clear hA
    have heq := fun w' => Lib.run_eql_slice_nil (P := Tryz.prog) w' 22 126 none 0 c 0 0 Tryz.underlying22
    go_enter Tryz.func172, Tryz.ntmps172
    go_wp2
    go_ret
    exact cloned_nil _ _ _ _ _ rfl h.1
  | some a =>
    have heq := fun w' => Lib.run_eql_slice_nil (P := Tryz.prog) w' 22 126 (some a) n c 0 0 Tryz.underlying22
    go_enter Tryz.func172, Tryz.ntmps172
    go_wp2_with (at_builtin; ((with_reducible refine app_rd Tryz.underlying22 info_tok rfl (by decide) _ w.heap.size _ 0 [] (own_empty w _ _ _ (Nat.le_refl _)) _ (some a) n c (toks l) (h.alloc (Nat.le_refl _) _) (by simp) (toks_one l) (by unfold maxLen; omega) (by omega) (by simp) rfl _ _ rfl rfl rfl ?_); intro v' w1 hown hgr hat))
    go_ret
    refine ⟨v', rfl, by simpa using hown, ((Below.refl _ w).alloc (Nat.le_refl _) _).grown hgr (by simp) (by intro k hk; simp [Value.ownBlock] at hk; omega)⟩
set_option maxHeartbeats 400000 in
theorem clone_mk (A : Option Addr) (n c : Nat) (l : List Mk) (w : World) (h : Rd w w.heap.size 8 A n (mks l)) (hA : A = none → n = 0) (hn : n ≤ 1000000) :
    Calls Tryz.prog 173 #[.slice A n c] w (Cloned 124 8 n (mks l) w) := by
  cases A with
  | none =>
    obtain rfl : n = 0 := hA rfl
    clear hA
    have heq := fun w' => Lib.run_eql_slice_nil (P := Tryz.prog) w' 43 124 none 0 c 0 0 Tryz.underlying43
    go_enter Tryz.func173, Tryz.ntmps173
    go_wp2
    go_ret
    exact cloned_nil _ _ _ _ _ rfl h.1
  | some a =>
    have heq := fun w' => Lib.run_eql_slice_nil (P := Tryz.prog) w' 43 124 (some a) n c 0 0 Tryz.underlying43
    go_enter Tryz.func173, Tryz.ntmps173
    go_wp2_with (at_builtin; ((with_reducible refine app_rd Tryz.underlying43 info_mk rfl (by decide) _ w.heap.size _ 0 [] (own_empty w _ _ _ (Nat.le_refl _)) _ (some a) n c (mks l) (h.alloc (Nat.le_refl _) _) (by simp) (mks_one l) (by unfold maxLen; omega) (by omega) (by simp) rfl _ _ rfl rfl rfl ?_); intro v' w1 hown hgr hat))
    go_ret
    refine ⟨v', rfl, by simpa using hown, ((Below.refl _ w).alloc (Nat.le_refl _) _).grown hgr (by simp) (by intro k hk; simp [Value.ownBlock] at hk; omega)⟩
/-- a list comes out: it reads so -/
def ListOut (size n : Nat) (xs : List Value) (w W : World) (e : Ending) (w' : World) : Prop := ∃ A c, e = .returned (.slice A n c) ∧ Rd w' w'.heap.size size A n xs ∧ (A = none → n = 0) ∧ (∀ a, A = some a → W.heap.size ≤ a.block) ∧ Below w.heap.size w w' ∧ Below W.heap.size W w'
theorem list_out {size n : Nat} {t : TypeId} {xs : List Value} {w W : World} {e : Ending} {w' : World} (hb : Below w.heap.size w W) (h : Cloned t size n xs W e w') : ListOut size n xs w W e w' := by
  obtain ⟨v, rfl, ho, hb2⟩ := h
  obtain ⟨A, c, rfl, _, _, h3, h4⟩ := own_form ho
  exact ⟨A, c, rfl, h4, fun e => (h3 e).1, (fun a e => by subst e; exact own_ge ho a.block rfl), hb.trans (hb2.mono hb.size), hb2⟩
theorem Rd.blk {w w' : World} {B size n : Nat} {A : Option Addr} {xs : List Value} (h : Rd w B size A n xs) (hk : ∀ a, A = some a → w'.heap[a.block]? = w.heap[a.block]?) : Rd w' B size A n xs := by
  refine ⟨h.1, fun hn => ?_⟩
  obtain ⟨b, o, e, hb, hc⟩ := h.2 hn
  exact ⟨b, o, e, hb, fun j u hu => (World.cell?_of_block (a := ⟨b, o + j, none⟩) (hk ⟨b, o, none⟩ e)).trans (hc j u hu)⟩
theorem far_heap {W : World} {x : Nat} {p : Addr} (hne : x ≠ p.block) (u : Value) : (W.setCell p u).heap[x]? = W.heap[x]? := Below.heap_setCell W p u x hne
/-- a step, stored -/
abbrev set10 (W : World) (b : Nat) (k f t g h i m v : Int) (A : Option Addr) (n c : Nat) (A' : Option Addr) (n' c' : Nat) : World := (((((((((W.setCell ⟨b, 0, none⟩ (.int .i64 k)).setCell ⟨b, 1, none⟩ (.int .i64 f)).setCell ⟨b, 2, none⟩ (.int .i64 t)).setCell ⟨b, 3, none⟩ (.int .i64 g)).setCell ⟨b, 4, none⟩ (.int .i64 h)).setCell ⟨b, 5, none⟩ (.int .i64 i)).setCell ⟨b, 6, none⟩ (.int .i64 m)).setCell ⟨b, 7, none⟩ (.int .i64 v)).setCell ⟨b, 8, none⟩ (.slice A n c)).setCell ⟨b, 9, none⟩ (.slice A' n' c')
theorem stp_set {W : World} {b : Nat} {k0 f0 t0 g0 h0 i0 m0 v0 : Int} {A0 : Option Addr} {n0 c0 : Nat} {A0' : Option Addr} {n0' c0' : Nat} (hb : Bk W b 45 (stp k0 f0 t0 g0 h0 i0 m0 v0 A0 n0 c0 A0' n0' c0')) (k f t g h i m v : Int) (A : Option Addr) (n c : Nat) (A' : Option Addr) (n' c' : Nat) :
    Bk (set10 W b k f t g h i m v A n c A' n' c') b 45 (stp k f t g h i m v A n c A' n' c') := by
  have q0 : Bk _ b 45 (stp k f0 t0 g0 h0 i0 m0 v0 A0 n0 c0 A0' n0' c0') := hb.set_ 0 (.int .i64 k)
  have q1 : Bk _ b 45 (stp k f t0 g0 h0 i0 m0 v0 A0 n0 c0 A0' n0' c0') := q0.set_ 1 (.int .i64 f)
  have q2 : Bk _ b 45 (stp k f t g0 h0 i0 m0 v0 A0 n0 c0 A0' n0' c0') := q1.set_ 2 (.int .i64 t)
  have q3 : Bk _ b 45 (stp k f t g h0 i0 m0 v0 A0 n0 c0 A0' n0' c0') := q2.set_ 3 (.int .i64 g)
  have q4 : Bk _ b 45 (stp k f t g h i0 m0 v0 A0 n0 c0 A0' n0' c0') := q3.set_ 4 (.int .i64 h)
  have q5 : Bk _ b 45 (stp k f t g h i m0 v0 A0 n0 c0 A0' n0' c0') := q4.set_ 5 (.int .i64 i)
  have q6 : Bk _ b 45 (stp k f t g h i m v0 A0 n0 c0 A0' n0' c0') := q5.set_ 6 (.int .i64 m)
  have q7 : Bk _ b 45 (stp k f t g h i m v A0 n0 c0 A0' n0' c0') := q6.set_ 7 (.int .i64 v)
  have q8 : Bk _ b 45 (stp k f t g h i m v A n c A0' n0' c0') := q7.set_ 8 (.slice A n c)
  have q9 : Bk _ b 45 (stp k f t g h i m v A n c A' n' c') := q8.set_ 9 (.slice A' n' c')
  exact q9
theorem set10_far {W : World} {x b : Nat} {ty : TypeId} {cs : Array Value} (hb : Bk W x ty cs) (hne : x ≠ b) (k f t g h i m v : Int) (A : Option Addr) (n c : Nat) (A' : Option Addr) (n' c' : Nat) : Bk (set10 W b k f t g h i m v A n c A' n' c') x ty cs :=
  (((((((((hb.far (p := ⟨b, 0, none⟩) hne _).far (p := ⟨b, 1, none⟩) hne _).far (p := ⟨b, 2, none⟩) hne _).far (p := ⟨b, 3, none⟩) hne _).far (p := ⟨b, 4, none⟩) hne _).far (p := ⟨b, 5, none⟩) hne _).far (p := ⟨b, 6, none⟩) hne _).far (p := ⟨b, 7, none⟩) hne _).far (p := ⟨b, 8, none⟩) hne _).far (p := ⟨b, 9, none⟩) hne _
theorem set10_gr {w W : World} {b : Nat} {row : Option Nat} (hg : w.grownBy W row) (hb : row = some b ∨ w.heap.size ≤ b) (k f t g h i m v : Int) (A : Option Addr) (n c : Nat) (A' : Option Addr) (n' c' : Nat) : w.grownBy (set10 W b k f t g h i m v A n c A' n' c') row :=
  gr_set (p := ⟨b, 9, none⟩) (gr_set (p := ⟨b, 8, none⟩) (gr_set (p := ⟨b, 7, none⟩) (gr_set (p := ⟨b, 6, none⟩) (gr_set (p := ⟨b, 5, none⟩) (gr_set (p := ⟨b, 4, none⟩) (gr_set (p := ⟨b, 3, none⟩) (gr_set (p := ⟨b, 2, none⟩) (gr_set (p := ⟨b, 1, none⟩) (gr_set (p := ⟨b, 0, none⟩) hg hb _) hb _) hb _) hb _) hb _) hb _) hb _) hb _) hb _) hb _
theorem set10_heap {W : World} {x b : Nat} (hne : x ≠ b) (k f t g h i m v : Int) (A : Option Addr) (n c : Nat) (A' : Option Addr) (n' c' : Nat) : (set10 W b k f t g h i m v A n c A' n' c').heap[x]? = W.heap[x]? := by
  unfold set10
  rw [far_heap (p := ⟨b, 9, none⟩) hne, far_heap (p := ⟨b, 8, none⟩) hne, far_heap (p := ⟨b, 7, none⟩) hne, far_heap (p := ⟨b, 6, none⟩) hne, far_heap (p := ⟨b, 5, none⟩) hne, far_heap (p := ⟨b, 4, none⟩) hne, far_heap (p := ⟨b, 3, none⟩) hne, far_heap (p := ⟨b, 2, none⟩) hne, far_heap (p := ⟨b, 1, none⟩) hne, far_heap (p := ⟨b, 0, none⟩) hne]
theorem set10_size {W : World} {b : Nat} (k f t g h i m v : Int) (A : Option Addr) (n c : Nat) (A' : Option Addr) (n' c' : Nat) : (set10 W b k f t g h i m v A n c A' n' c').heap.size = W.heap.size := by simp [set10]
theorem shB_spec {k f t g h i m v : Int} {n n' : Nat} (h0 : shB k f t g h i m v n n' = true) : (0 ≤ f ∧ f ≤ t ∧ t ≤ 1073741824) ∧ (k = 1 ∨ k = 2 ∨ k = 3 ∨ k = 4 ∨ k = 5) ∧ (k = 2 → f ≤ g ∧ g ≤ h ∧ h ≤ t ∧ 0 ≤ i ∧ i ≤ n ∧ n ≤ 20000) ∧ (k = 1 → n ≤ 20000) := by
  unfold shB at h0
  rw [Bool.and_eq_true] at h0
  obtain ⟨hbx, hs⟩ := h0
  refine ⟨by simpa [boxes] using hbx, ?_, ?_, ?_⟩
  · by_cases k1 : k = 1
    · exact .inl k1
    rw [if_neg k1] at hs
    by_cases k2 : k = 2
    · exact .inr (.inl k2)
    rw [if_neg k2] at hs
    by_cases k3 : k = 3 ∨ k = 4
    · omega
    rw [if_neg k3] at hs
    by_cases k5 : k = 5
    · omega
    rw [if_neg k5] at hs
    cases hs
  · intro k2
    rw [if_neg (by omega), if_pos k2] at hs
    have : f ≤ g ∧ g ≤ h ∧ h ≤ t ∧ 0 ≤ i ∧ i ≤ n ∧ n ≤ 20000 ∧ m = 0 ∧ v = 0 ∧ n' = 0 := by simpa [sh2] using hs
    omega
  · intro k1
    rw [if_pos k1] at hs
    have : g = 0 ∧ h = 0 ∧ i = 0 ∧ m = 0 ∧ v = 0 ∧ n' = 0 ∧ n ≤ 20000 := by simpa [sh1] using hs
    omega
end Go.Proofs.YtmacfoebfpljoaaGreat
