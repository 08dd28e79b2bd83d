/- chain: clones of a step's lists; own -/
import Derived.Test.YtmacfoebfpljoaaCh
namespace Go.Proofs.Ytmacfoebfpljoaa
open Go.RowKit

theorem info_tok : (Try.prog.info? 91).map (fun i => (i.zero, i.size, i.bytes)) = some (some (.agg #[.int .i64 0, .int .i64 0, .int .i64 0, .int .i32 0, .int .u16 0, .int .u16 0, .int .u16 0, .int .u16 0, .int .u16 0, .int .u16 0, .int .u16 0, .int .u16 0]), 12, 48) := by kernel_rfl
theorem info_mk : (Try.prog.info? 89).map (fun i => (i.zero, i.size, i.bytes)) = some (some (.agg #[.int .u16 0, .int .u16 0, .int .u16 0, .int .u16 0, .int .u16 0, .int .u16 0, .int .u16 0, .int .u16 0]), 8, 16) := by kernel_rfl
theorem toks_one : ∀ (l : List Tok), ∀ u ∈ toks l, u.oneCell' = true := by
  intro l u hu
  obtain ⟨r, _, hr⟩ := List.mem_flatMap.1 hu
  simp only [Tok.cells, Mk.cells, List.mem_cons, List.not_mem_nil, or_false] at hr
  rcases hr with rfl | rfl | rfl | rfl | rfl | rfl | rfl | rfl | rfl | rfl | rfl | rfl <;> rfl
theorem mks_one : ∀ (l : List Mk), ∀ u ∈ mks l, u.oneCell' = true := by
  intro l u hu
  obtain ⟨r, _, hr⟩ := List.mem_flatMap.1 hu
  simp only [Mk.cells, List.mem_cons, List.not_mem_nil, or_false] at hr
  rcases hr with rfl | rfl | rfl | rfl | rfl | rfl | rfl | rfl <;> rfl

set_option maxHeartbeats 400000 in
theorem clone_tok (A : Option Addr) (n c : Nat) (l : List Tok) (w : World) (h : Rd w w.heap.size 12 A n (toks l)) (hA : A = none → n = 0) (hn : n ≤ 1000000) :
    Calls Try.prog 41 #[.slice A n c] w (Cloned 91 12 n (toks l) w) := by
  cases A with
  | none =>
    obtain rfl : n = 0 := hA rfl
    clear hA
    have heq := fun w' => Lib.run_eql_slice_nil (P := Try.prog) w' 38 91 none 0 c 0 0 Try.underlying38
    go_enter Try.func41, Try.ntmps41
    go_wp2
    go_ret
    exact cloned_nil _ _ _ _ _ rfl h.1
  | some a =>
    have heq := fun w' => Lib.run_eql_slice_nil (P := Try.prog) w' 38 91 (some a) n c 0 0 Try.underlying38
    go_enter Try.func41, Try.ntmps41
    go_wp2_with (at_builtin; ((with_reducible refine app_rd Try.underlying38 info_tok rfl (by decide) _ w.heap.size _ 0 [] (own_empty w _ _ _ (Nat.le_refl _)) _ (some a) n c (toks l) (h.alloc (Nat.le_refl _) _) (by simp) (toks_one l) (by unfold maxLen; omega) (by omega) (by simp) rfl _ _ rfl rfl rfl ?_); intro v' w1 hown hgr hat))
    go_ret
    refine ⟨v', rfl, by simpa using hown, ((Below.refl _ w).alloc (Nat.le_refl _) _).grown hgr (by simp) (by intro k hk; simp [Value.ownBlock] at hk; omega)⟩
set_option maxHeartbeats 400000 in
theorem clone_mk (A : Option Addr) (n c : Nat) (l : List Mk) (w : World) (h : Rd w w.heap.size 8 A n (mks l)) (hA : A = none → n = 0) (hn : n ≤ 1000000) :
    Calls Try.prog 42 #[.slice A n c] w (Cloned 89 8 n (mks l) w) := by
  cases A with
  | none =>
    obtain rfl : n = 0 := hA rfl
    clear hA
    have heq := fun w' => Lib.run_eql_slice_nil (P := Try.prog) w' 39 89 none 0 c 0 0 Try.underlying39
    go_enter Try.func42, Try.ntmps42
    go_wp2
    go_ret
    exact cloned_nil _ _ _ _ _ rfl h.1
  | some a =>
    have heq := fun w' => Lib.run_eql_slice_nil (P := Try.prog) w' 39 89 (some a) n c 0 0 Try.underlying39
    go_enter Try.func42, Try.ntmps42
    go_wp2_with (at_builtin; ((with_reducible refine app_rd Try.underlying39 info_mk rfl (by decide) _ w.heap.size _ 0 [] (own_empty w _ _ _ (Nat.le_refl _)) _ (some a) n c (mks l) (h.alloc (Nat.le_refl _) _) (by simp) (mks_one l) (by unfold maxLen; omega) (by omega) (by simp) rfl _ _ rfl rfl rfl ?_); intro v' w1 hown hgr hat))
    go_ret
    refine ⟨v', rfl, by simpa using hown, ((Below.refl _ w).alloc (Nat.le_refl _) _).grown hgr (by simp) (by intro k hk; simp [Value.ownBlock] at hk; omega)⟩

/-- a list comes out: it reads so -/
def ListOut (size n : Nat) (xs : List Value) (w W : World) (e : Ending) (w' : World) : Prop := ∃ A c, e = .returned (.slice A n c) ∧ Rd w' w'.heap.size size A n xs ∧ (A = none → n = 0) ∧ (∀ a, A = some a → W.heap.size ≤ a.block) ∧ Below w.heap.size w w' ∧ Below W.heap.size W w'
theorem list_out {size n : Nat} {t : TypeId} {xs : List Value} {w W : World} {e : Ending} {w' : World} (hb : Below w.heap.size w W) (h : Cloned t size n xs W e w') : ListOut size n xs w W e w' := by
  obtain ⟨v, rfl, ho, hb2⟩ := h
  obtain ⟨A, c, rfl, _, _, h3, h4⟩ := own_form ho
  exact ⟨A, c, rfl, h4, fun e => (h3 e).1, (fun a e => by subst e; exact own_ge ho a.block rfl), hb.trans (hb2.mono hb.size), hb2⟩
/-- a step comes out, like another -/
def StepOut (x : StC) (w : World) (e : Ending) (w' : World) : Prop := ∃ A n c A' n' c', e = .returned (.agg (stp x.k x.f x.t x.g x.h x.i x.m x.v A n c A' n' c')) ∧ (StH.mk A n c A' n' c' x).In w' w'.heap.size ∧ Below w.heap.size w w'

theorem Rd.blk {w w' : World} {B size n : Nat} {A : Option Addr} {xs : List Value} (h : Rd w B size A n xs) (hk : ∀ a, A = some a → w'.heap[a.block]? = w.heap[a.block]?) : Rd w' B size A n xs := by
  refine ⟨h.1, fun hn => ?_⟩
  obtain ⟨b, o, e, hb, hc⟩ := h.2 hn
  exact ⟨b, o, e, hb, fun j u hu => (World.cell?_of_block (a := ⟨b, o + j, none⟩) (hk ⟨b, o, none⟩ e)).trans (hc j u hu)⟩
theorem far_heap {W : World} {x : Nat} {p : Addr} (hne : x ≠ p.block) (u : Value) : (W.setCell p u).heap[x]? = W.heap[x]? := Below.heap_setCell W p u x hne
/-- a step, stored -/
abbrev set10 (W : World) (b : Nat) (k f t g h i m v : Int) (A : Option Addr) (n c : Nat) (A' : Option Addr) (n' c' : Nat) : World := (((((((((W.setCell ⟨b, 0, none⟩ (.int .i64 k)).setCell ⟨b, 1, none⟩ (.int .i64 f)).setCell ⟨b, 2, none⟩ (.int .i64 t)).setCell ⟨b, 3, none⟩ (.int .i64 g)).setCell ⟨b, 4, none⟩ (.int .i64 h)).setCell ⟨b, 5, none⟩ (.int .i64 i)).setCell ⟨b, 6, none⟩ (.int .i64 m)).setCell ⟨b, 7, none⟩ (.int .i64 v)).setCell ⟨b, 8, none⟩ (.slice A n c)).setCell ⟨b, 9, none⟩ (.slice A' n' c')
theorem stp_set {W : World} {b : Nat} {k0 f0 t0 g0 h0 i0 m0 v0 : Int} {A0 : Option Addr} {n0 c0 : Nat} {A0' : Option Addr} {n0' c0' : Nat} (hb : Bk W b 41 (stp k0 f0 t0 g0 h0 i0 m0 v0 A0 n0 c0 A0' n0' c0')) (k f t g h i m v : Int) (A : Option Addr) (n c : Nat) (A' : Option Addr) (n' c' : Nat) :
    Bk (set10 W b k f t g h i m v A n c A' n' c') b 41 (stp k f t g h i m v A n c A' n' c') := by
  have q0 : Bk _ b 41 (stp k f0 t0 g0 h0 i0 m0 v0 A0 n0 c0 A0' n0' c0') := hb.set_ 0 (.int .i64 k)
  have q1 : Bk _ b 41 (stp k f t0 g0 h0 i0 m0 v0 A0 n0 c0 A0' n0' c0') := q0.set_ 1 (.int .i64 f)
  have q2 : Bk _ b 41 (stp k f t g0 h0 i0 m0 v0 A0 n0 c0 A0' n0' c0') := q1.set_ 2 (.int .i64 t)
  have q3 : Bk _ b 41 (stp k f t g h0 i0 m0 v0 A0 n0 c0 A0' n0' c0') := q2.set_ 3 (.int .i64 g)
  have q4 : Bk _ b 41 (stp k f t g h i0 m0 v0 A0 n0 c0 A0' n0' c0') := q3.set_ 4 (.int .i64 h)
  have q5 : Bk _ b 41 (stp k f t g h i m0 v0 A0 n0 c0 A0' n0' c0') := q4.set_ 5 (.int .i64 i)
  have q6 : Bk _ b 41 (stp k f t g h i m v0 A0 n0 c0 A0' n0' c0') := q5.set_ 6 (.int .i64 m)
  have q7 : Bk _ b 41 (stp k f t g h i m v A0 n0 c0 A0' n0' c0') := q6.set_ 7 (.int .i64 v)
  have q8 : Bk _ b 41 (stp k f t g h i m v A n c A0' n0' c0') := q7.set_ 8 (.slice A n c)
  have q9 : Bk _ b 41 (stp k f t g h i m v A n c A' n' c') := q8.set_ 9 (.slice A' n' c')
  exact q9
theorem set10_far {W : World} {x b : Nat} {ty : TypeId} {cs : Array Value} (hb : Bk W x ty cs) (hne : x ≠ b) (k f t g h i m v : Int) (A : Option Addr) (n c : Nat) (A' : Option Addr) (n' c' : Nat) : Bk (set10 W b k f t g h i m v A n c A' n' c') x ty cs :=
  (((((((((hb.far (p := ⟨b, 0, none⟩) hne _).far (p := ⟨b, 1, none⟩) hne _).far (p := ⟨b, 2, none⟩) hne _).far (p := ⟨b, 3, none⟩) hne _).far (p := ⟨b, 4, none⟩) hne _).far (p := ⟨b, 5, none⟩) hne _).far (p := ⟨b, 6, none⟩) hne _).far (p := ⟨b, 7, none⟩) hne _).far (p := ⟨b, 8, none⟩) hne _).far (p := ⟨b, 9, none⟩) hne _
theorem set10_gr {w W : World} {b : Nat} {row : Option Nat} (hg : w.grownBy W row) (hb : row = some b ∨ w.heap.size ≤ b) (k f t g h i m v : Int) (A : Option Addr) (n c : Nat) (A' : Option Addr) (n' c' : Nat) : w.grownBy (set10 W b k f t g h i m v A n c A' n' c') row :=
  gr_set (p := ⟨b, 9, none⟩) (gr_set (p := ⟨b, 8, none⟩) (gr_set (p := ⟨b, 7, none⟩) (gr_set (p := ⟨b, 6, none⟩) (gr_set (p := ⟨b, 5, none⟩) (gr_set (p := ⟨b, 4, none⟩) (gr_set (p := ⟨b, 3, none⟩) (gr_set (p := ⟨b, 2, none⟩) (gr_set (p := ⟨b, 1, none⟩) (gr_set (p := ⟨b, 0, none⟩) hg hb _) hb _) hb _) hb _) hb _) hb _) hb _) hb _) hb _) hb _
theorem set10_heap {W : World} {x b : Nat} (hne : x ≠ b) (k f t g h i m v : Int) (A : Option Addr) (n c : Nat) (A' : Option Addr) (n' c' : Nat) : (set10 W b k f t g h i m v A n c A' n' c').heap[x]? = W.heap[x]? := by
  unfold set10
  rw [far_heap (p := ⟨b, 9, none⟩) hne, far_heap (p := ⟨b, 8, none⟩) hne, far_heap (p := ⟨b, 7, none⟩) hne, far_heap (p := ⟨b, 6, none⟩) hne, far_heap (p := ⟨b, 5, none⟩) hne, far_heap (p := ⟨b, 4, none⟩) hne, far_heap (p := ⟨b, 3, none⟩) hne, far_heap (p := ⟨b, 2, none⟩) hne, far_heap (p := ⟨b, 1, none⟩) hne, far_heap (p := ⟨b, 0, none⟩) hne]
theorem set10_size {W : World} {b : Nat} (k f t g h i m v : Int) (A : Option Addr) (n c : Nat) (A' : Option Addr) (n' c' : Nat) : (set10 W b k f t g h i m v A n c A' n' c').heap.size = W.heap.size := by simp [set10]

set_option maxRecDepth 100000 in
set_option maxHeartbeats 4000000 in
theorem own_any (x : StC) (A : Option Addr) (n c : Nat) (A' : Option Addr) (n' c' : Nat) (w : World) (h : (StH.mk A n c A' n' c' x).In w w.heap.size) :
    Calls Try.prog 25 #[.agg (stp x.k x.f x.t x.g x.h x.i x.m x.v A n c A' n' c')] w (StepOut x w) := by
  have h1 := fun W (hb : Below w.heap.size w W) => (clone_tok A n c x.sl W ((h.rd.below hb).more hb.size) h.A h.n).mono fun _ _ => list_out hb
  have h2 := fun W (hb : Below w.heap.size w W) => (clone_mk A' n' c' x.st W ((h.rd'.below hb).more hb.size) h.A' h.n').mono fun _ _ => list_out hb
  have H1 := Lib.hid h1
  have H2 := Lib.hid h2
  have hn1 := h.n
  have hn2 := h.n'
  obtain ⟨xk, xf, xt, xg, xh, xi, xm, xv, sl, st⟩ := x
  simp only at *
  clear h h1 h2
  have k1 : Bk ((w.alloc (.cells (stp xk xf xt xg xh xi xm xv A n c A' n' c') 41)).alloc (.cells (stp 0 0 0 0 0 0 0 0 none 0 0 none 0 0) 41)) w.heap.size 41 (stp xk xf xt xg xh xi xm xv A n c A' n' c') := (Bk.new w _ _).alloc _
  have k2 : Bk ((w.alloc (.cells (stp xk xf xt xg xh xi xm xv A n c A' n' c') 41)).alloc (.cells (stp 0 0 0 0 0 0 0 0 none 0 0 none 0 0) 41)) (w.heap.size + 1) 41 (stp 0 0 0 0 0 0 0 0 none 0 0 none 0 0) := Bk.made _ _ (by simp)
  have hb0 : Below w.heap.size w ((w.alloc (.cells (stp xk xf xt xg xh xi xm xv A n c A' n' c') 41)).alloc (.cells (stp 0 0 0 0 0 0 0 0 none 0 0 none 0 0) 41)) := by repeat (first | with_reducible exact Below.refl _ _ | with_reducible assumption | (with_reducible refine below_drewN ?_ _) | (with_reducible refine Below.drew ?_) | (with_reducible refine Below.alloc ?_ ?_ _; rotate_left; focus (first | with_reducible assumption | omega | (simp; done) | (simp; omega))) | (with_reducible refine Below.setCell ?_ ?_ _; rotate_left; focus (first | with_reducible assumption | omega | (simp; done) | (simp; omega))))
  go_enter Try.func25, Try.ntmps25
  go_upto_region 1 with fail
  have k2 : Bk ((w.alloc (.cells (stp xk xf xt xg xh xi xm xv A n c A' n' c') 41)).alloc (.cells #[.int .i64 0, .int .i64 0, .int .i64 0, .int .i64 0, .int .i64 0, .int .i64 0, .int .i64 0, .int .i64 0, .slice none 0 0, .slice none 0 0] 41)) (w.heap.size + 1) 41 (stp 0 0 0 0 0 0 0 0 none 0 0 none 0 0) := k2
  generalize (w.alloc (.cells (stp xk xf xt xg xh xi xm xv A n c A' n' c') 41)).alloc (.cells #[.int .i64 0, .int .i64 0, .int .i64 0, .int .i64 0, .int .i64 0, .int .i64 0, .int .i64 0, .int .i64 0, .slice none 0 0, .slice none 0 0] 41) = w0 at *
  have hF : ∀ w', Bk w' w.heap.size 41 (stp xk xf xt xg xh xi xm xv A n c A' n' c') → w'.cell? ⟨w.heap.size, 8, none⟩ = some (.slice A n c) ∧ w'.cell? ⟨w.heap.size, 9, none⟩ = some (.slice A' n' c') := fun w' h => ⟨h.cell 8, h.cell 9⟩
  have HF := Lib.hid hF
  have hz0 := hb0.size
  clear hF
  refine wp_normal ?_
  refine region_L (S := fun w' => Bk w' w.heap.size 41 (stp xk xf xt xg xh xi xm xv A n c A' n' c')) [7, 8, 9] (by kernel_rfl) k1.drew (fun hHeld => ?_)
  (refine takeL_if (i := 0) (oi := _) (v := ?_) (by simp only [List.getElem?_toArray, List.getElem?_cons_zero]; rfl) (by kernel_rfl) (by kernel_rfl) (by kernel_rfl) (fun _ _ _ h => h) (by rfl) ?_ (by assumption) ?_; rotate_left; (focus ((intro w hSw; (try have hSw := HF.out _ hSw); (try dsimp only at hSw); go_simp); try exact rfl)); simp only [Act.put, List.setIfInBounds_toArray, List.set_cons_zero, List.set_cons_succ]; refine takeL_if (i := 1) (oi := _) (v := ?_) (by simp only [List.getElem?_toArray, List.getElem?_cons_succ, List.getElem?_cons_zero]; rfl) (by kernel_rfl) (by kernel_rfl) (by kernel_rfl) (fun _ _ _ h => h) (by rfl) ?_ (by assumption) ?_; rotate_left; (focus ((intro w hSw; (try have hSw := HF.out _ hSw); (try dsimp only at hSw); go_simp); try exact rfl)); simp only [Act.put, List.setIfInBounds_toArray, List.set_cons_zero, List.set_cons_succ]; refine takeL_if (i := 3) (oi := _) (v := ?_) (by simp only [List.getElem?_toArray, List.getElem?_cons_succ, List.getElem?_cons_zero]; rfl) (by kernel_rfl) (by kernel_rfl) (by kernel_rfl) (fun _ _ _ h => h) (by rfl) ?_ (by assumption) ?_; rotate_left; (focus ((intro w hSw; (try have hSw := HF.out _ hSw); (try dsimp only at hSw); go_simp); try exact rfl)); simp only [Act.put, List.setIfInBounds_toArray, List.set_cons_zero, List.set_cons_succ]; refine takeL_if (i := 4) (oi := _) (v := ?_) (by simp only [List.getElem?_toArray, List.getElem?_cons_succ, List.getElem?_cons_zero]; rfl) (by kernel_rfl) (by kernel_rfl) (by kernel_rfl) (fun _ _ _ h => h) (by rfl) ?_ (by assumption) ?_; rotate_left; (focus ((intro w hSw; (try have hSw := HF.out _ hSw); (try dsimp only at hSw); go_simp); try exact rfl)); simp only [Act.put, List.setIfInBounds_toArray, List.set_cons_zero, List.set_cons_succ])
  refine anyL_ready (rs := [2]) (by kernel_rfl) (by simp) ?_; refine (ReadyL.cons (o := _) (by simp only [List.getElem?_toArray, List.getElem?_cons_succ, List.getElem?_cons_zero]; rfl) (fun K hK => ?_) ReadyL.nil)
  go_simp
  go_at_call 41
  refine (H1.out _ hb0.drew).mono ?_
  rintro e w1 ⟨A2, c2, rfl, r1, a1, n1, b1, b1'⟩
  have x1 : Bk w1 w.heap.size 41 (stp xk xf xt xg xh xi xm xv A n c A' n' c') := k1.drew.ext b1'
  have y1 : Bk w1 (w.heap.size + 1) 41 (stp 0 0 0 0 0 0 0 0 none 0 0 none 0 0) := k2.drew.ext b1'
  refine hK.out _ _ x1 (fun hHeld => ?_)
  clear hK K; (try simp only [Act.put, List.setIfInBounds_toArray, List.set_cons_zero, List.set_cons_succ])
  (refine takeL_if (i := 6) (oi := _) (v := ?_) (by simp only [List.getElem?_toArray, List.getElem?_cons_succ, List.getElem?_cons_zero]; rfl) (by kernel_rfl) (by kernel_rfl) (by kernel_rfl) (fun _ _ _ h => h) (by rfl) ?_ (by assumption) ?_; rotate_left; (focus ((intro w hSw; (try have hSw := HF.out _ hSw); (try dsimp only at hSw); go_simp); try exact rfl)); simp only [Act.put, List.setIfInBounds_toArray, List.set_cons_zero, List.set_cons_succ])
  refine anyL_ready (rs := [5]) (by kernel_rfl) (by simp) ?_; refine (ReadyL.cons (o := _) (by simp only [List.getElem?_toArray, List.getElem?_cons_succ, List.getElem?_cons_zero]; rfl) (fun K hK => ?_) ReadyL.nil)
  go_simp
  go_at_call 42
  refine (H2.out _ b1).mono ?_
  rintro e w2 ⟨A2', c2', rfl, r2, a2, n2, b2, b2'⟩
  have x2 := x1.ext b2'
  have y2 := y1.ext b2'
  have r1' := (r1.below b2').more b2'.size
  refine hK.out _ _ x2 (fun hHeld => ?_)
  clear hK K; (try simp only [Act.put, List.setIfInBounds_toArray, List.set_cons_zero, List.set_cons_succ])
  have f1 := x2.frozen; have f2 := y2.frozen; have l1 := def_lt' x2; have l2 := def_lt' y2
  have p0 := x2.cell 0; have p1 := x2.cell 1; have p2 := x2.cell 2; have p3 := x2.cell 3; have p4 := x2.cell 4; have p5 := x2.cell 5; have p6 := x2.cell 6; have p7 := x2.cell 7; have p8 := x2.cell 8; have p9 := x2.cell 9
  have q0 := y2.cell 0; have q1 := y2.cell 1; have q2 := y2.cell 2; have q3 := y2.cell 3; have q4 := y2.cell 4; have q5 := y2.cell 5; have q6 := y2.cell 6; have q7 := y2.cell 7; have q8 := y2.cell 8; have q9 := y2.cell 9
  dsimp [stp] at p0 p1 p2 p3 p4 p5 p6 p7 p8 p9 q0 q1 q2 q3 q4 q5 q6 q7 q8 q9
  refine anyL_late (i := 7) (o := _) (by kernel_rfl) (by kernel_rfl) (by simp only [List.getElem?_toArray, List.getElem?_cons_succ, List.getElem?_cons_zero]; rfl) (fun K hK => ?_)
  go_simp
  refine hK.out _ _ ?_
  clear hK K; (try simp only [Act.put, List.setIfInBounds_toArray, List.set_cons_zero, List.set_cons_succ])
  refine anyL_late (i := 8) (o := _) (by kernel_rfl) (by kernel_rfl) (by simp only [List.getElem?_toArray, List.getElem?_cons_succ, List.getElem?_cons_zero]; rfl) (fun K hK => ?_)
  go_simp
  refine hK.out _ _ ?_
  clear hK K; (try simp only [Act.put, List.setIfInBounds_toArray, List.set_cons_zero, List.set_cons_succ])
  refine anyL_late (i := 9) (o := _) (by kernel_rfl) (by kernel_rfl) (by simp only [List.getElem?_toArray, List.getElem?_cons_succ, List.getElem?_cons_zero]; rfl) (fun K hK => ?_)
  go_simp
  refine hK.out _ _ ?_
  clear hK K; (try simp only [Act.put, List.setIfInBounds_toArray, List.set_cons_zero, List.set_cons_succ])
  refine anyL_done (by kernel_rfl) ?_
  go_wp2
  have y := stp_set ((y2.far (p := ⟨w.heap.size, 8, none⟩) (by simp <;> omega) (.slice A2 n c2)).far (p := ⟨w.heap.size, 9, none⟩) (by simp <;> omega) (.slice A2' n' c2')) xk xf xt xg xh xi xm xv A2 n c2 A2' n' c2'
  have hne : ∀ a : Addr, w0.heap.size ≤ a.block → (set10 ((w2.setCell ⟨w.heap.size, 8, none⟩ (.slice A2 n c2)).setCell ⟨w.heap.size, 9, none⟩ (.slice A2' n' c2')) (w.heap.size + 1) xk xf xt xg xh xi xm xv A2 n c2 A2' n' c2').heap[a.block]? = w2.heap[a.block]? := by
    intro a ha
    have hz1 := def_lt' k2
    rw [set10_heap (by omega), far_heap (p := ⟨w.heap.size, 9, none⟩) (by simp; omega), far_heap (p := ⟨w.heap.size, 8, none⟩) (by simp; omega)]
  have hz01 : w0.heap.size ≤ w1.heap.size := by have := b1'.size; simpa using this
  have ra := (r1'.blk (fun a e => hne a (n1 a e)))
  have rb := (r2.blk (fun a e => hne a (Nat.le_trans hz01 (n2 a e))))
  have hbe : Below w.heap.size w (set10 ((w2.setCell ⟨w.heap.size, 8, none⟩ (.slice A2 n c2)).setCell ⟨w.heap.size, 9, none⟩ (.slice A2' n' c2')) (w.heap.size + 1) xk xf xt xg xh xi xm xv A2 n c2 A2' n' c2') := by repeat (first | with_reducible exact Below.refl _ _ | with_reducible assumption | (with_reducible refine below_drewN ?_ _) | (with_reducible refine Below.drew ?_) | (with_reducible refine Below.alloc ?_ ?_ _; rotate_left; focus (first | with_reducible assumption | omega | (simp; done) | (simp; omega))) | (with_reducible refine Below.setCell ?_ ?_ _; rotate_left; focus (first | with_reducible assumption | omega | (simp; done) | (simp; omega))))
  have hsz : w2.heap.size ≤ (set10 ((w2.setCell ⟨w.heap.size, 8, none⟩ (.slice A2 n c2)).setCell ⟨w.heap.size, 9, none⟩ (.slice A2' n' c2')) (w.heap.size + 1) xk xf xt xg xh xi xm xv A2 n c2 A2' n' c2').heap.size := by rw [set10_size]; simp
  have ra := ra.more hsz
  have rb := rb.more hsz
  have RA := Lib.hid ra
  have RB := Lib.hid rb
  have HBE := Lib.hid hbe
  clear ra rb hbe hsz hne r1 r1' r2
  have q0 := y.cell 0; have q1 := y.cell 1; have q2 := y.cell 2; have q3 := y.cell 3; have q4 := y.cell 4; have q5 := y.cell 5; have q6 := y.cell 6; have q7 := y.cell 7; have q8 := y.cell 8; have q9 := y.cell 9
  dsimp [stp] at q0 q1 q2 q3 q4 q5 q6 q7 q8 q9
  refine bodyPost_ret (v := .agg (stp xk xf xt xg xh xi xm xv A2 n c2 A2' n' c2')) (by simp [results, Try.results25, go_sem, q0, q1, q2, q3, q4, q5, q6, q7, q8, q9]) rfl ⟨A2, n, c2, A2', n', c2', rfl, ⟨RA.out, RB.out, hn1, hn2, a1, a2⟩, HBE.out⟩
end Go.Proofs.Ytmacfoebfpljoaa
