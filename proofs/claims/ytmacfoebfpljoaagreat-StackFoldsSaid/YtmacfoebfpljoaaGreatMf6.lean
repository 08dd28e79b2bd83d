/- merged texts: Ci -/
import Derived.Test.YtmacfoebfpljoaaGreatMf5
import Derived.Test.YtmacfoebfpljoaaGreatMf4
namespace Go.Proofs.YtmacfoebfpljoaaGreat
open Go.RowKit
theorem shf_ne {W : World} {bs bl x : Nat} {b : Bool} {cs : Array Value} (hs : Shf W bs bl b) (hx : Bk W x 327 cs) : some bs ≠ some x := by
  intro e
  injection e with e
  subst e
  have h1 : W.heap[bs]? = some (.cells cs 327 (0, 0)) := hx
  have h2 : W.heap[bs]? = some (.cells #[tellV bl, .bool b] 351 (0, 0)) := hs
  rw [h1] at h2
  injection h2 with h2
  injection h2 with _ h2
  cases h2
theorem bk_ne {W : World} {x y : Nat} {t t' : TypeId} {cs cs' : Array Value} (h : Bk W x t cs) (h' : Bk W y t' cs') (ht : t ≠ t') : x ≠ y := by
  rintro rfl
  have h1 : W.heap[x]? = some (.cells cs t (0, 0)) := h
  have h2 : W.heap[x]? = some (.cells cs' t' (0, 0)) := h'
  rw [h1] at h2
  injection h2 with h2
  injection h2 with _ h2
  exact ht h2
/-- a place, stored -/
abbrev set5 (W : World) (b : Nat) (a : Int) (g i : Bool) (r o : Int) : World := ((((W.setCell ⟨b, 0, none⟩ (.int .i64 a)).setCell ⟨b, 1, none⟩ (.bool g)).setCell ⟨b, 2, none⟩ (.bool i)).setCell ⟨b, 3, none⟩ (.int .i64 r)).setCell ⟨b, 4, none⟩ (.int .i64 o)
theorem set5_gr {w W : World} {row : Option Nat} (h : w.grownBy W row) {b : Nat} (hb : w.heap.size ≤ b) (a : Int) (g i : Bool) (r o : Int) : w.grownBy (set5 W b a g i r o) row :=
  gr_set (p := ⟨b, 4, none⟩) (gr_set (p := ⟨b, 3, none⟩) (gr_set (p := ⟨b, 2, none⟩) (gr_set (p := ⟨b, 1, none⟩) (gr_set (p := ⟨b, 0, none⟩) h (.inr hb) _) (.inr hb) _) (.inr hb) _) (.inr hb) _) (.inr hb) _
theorem set5_far {W : World} {x b : Nat} {t : TypeId} {cs : Array Value} (h : Bk W x t cs) (hne : x ≠ b) (a : Int) (g i : Bool) (r o : Int) : Bk (set5 W b a g i r o) x t cs :=
  ((((h.far (p := ⟨b, 0, none⟩) hne _).far (p := ⟨b, 1, none⟩) hne _).far (p := ⟨b, 2, none⟩) hne _).far (p := ⟨b, 3, none⟩) hne _).far (p := ⟨b, 4, none⟩) hne _
theorem Grown2.heap {a b x : Nat} {w w' : World} (h : Grown2 a b w w') (hx : x < w.heap.size) (ha : x ≠ a) (hb : x ≠ b) : w'.heap[x]? = w.heap[x]? := by
  obtain ⟨w1, w2, h1, h2, h3⟩ := h
  have g1 := h1.block x hx (fun e => hb (by injection e))
  have g2 := h2.block x (Nat.lt_of_lt_of_le hx h1.size) (fun e => ha (by injection e))
  have g3 := h3.block x (Nat.lt_of_lt_of_le (Nat.lt_of_lt_of_le hx h1.size) h2.size) (fun e => hb (by injection e))
  exact (g3.trans g2).trans g1
theorem Grown2.size {a b : Nat} {w w' : World} (h : Grown2 a b w w') : w.heap.size ≤ w'.heap.size := by
  obtain ⟨w1, w2, h1, h2, h3⟩ := h
  exact Nat.le_trans (Nat.le_trans h1.size h2.size) h3.size
theorem Rd.blk2 {w w' : World} {B size n : Nat} {A : Option Addr} {xs : List Value} (h : Rd w B size A n xs) (hB : B ≤ w.heap.size) (hk : ∀ a, A = some a → a.block < w.heap.size → w'.heap[a.block]? = w.heap[a.block]?) : Rd w' B size A n xs := by
  refine ⟨h.1, fun hn => ?_⟩
  obtain ⟨b, o, e, hb, hc⟩ := h.2 hn
  exact ⟨b, o, e, hb, fun j u hu => (World.cell?_of_block (a := ⟨b, o + j, none⟩) (hk ⟨b, o, none⟩ e (Nat.lt_of_lt_of_le hb hB))).trans (hc j u hu)⟩
/-- what By says -/
def ByS (T : Int → Int → Pl × Int) (x : StC) (w : World) (e : Ending) (w' : World) : Prop := Below w.heap.size w w' ∧
  match shiftB T x with
  | some z => ∃ A n c A' n' c', e = .returned (.tuple #[.agg (stp z.k z.f z.t z.g z.h z.i z.m z.v A n c A' n' c'), .bool true]) ∧ (StH.mk A n c A' n' c' z).In w' w'.heap.size ∧ (∀ a, A = some a → w.heap.size ≤ a.block) ∧ (∀ a, A' = some a → w.heap.size ≤ a.block)
  | none => e = .returned (.tuple #[.agg (stp 0 0 0 0 0 0 0 0 none 0 0 none 0 0), .bool false])
theorem bys_none {T : Int → Int → Pl × Int} {x : StC} {w w' : World} (h : shiftB T x = none) (hb : Below w.heap.size w w') : ByS T x w (.returned (.tuple #[.agg (stp 0 0 0 0 0 0 0 0 none 0 0 none 0 0), .bool false])) w' := by
  refine ⟨hb, ?_⟩
  rw [h]
set_option maxRecDepth 100000 in
set_option maxHeartbeats 2000000 in
theorem by_bad (T : Int → Int → Pl × Int) (bl : Nat) (x : StC) (A : Option Addr) (n c : Nat) (A' : Option Addr) (n' c' : Nat) (w : World) (hin : (StH.mk A n c A' n' c' x).In w w.heap.size) (hs : x.sh = false) :
    Calls Tryz.prog 213 #[.agg (stp x.k x.f x.t x.g x.h x.i x.m x.v A n c A' n' c'), tellV bl] w (ByS T x w) := by
  have hsh := fun W (hb : Below w.heap.size w W) => calls_on hb (shape_any x.k x.f x.t x.g x.h x.i x.m x.v A A' n n' c c' W x.sl x.st (by have : n ≤ 1000000 := hin.n; unfold maxLen; omega) (by have : n' ≤ 1000000 := hin.n'; unfold maxLen; omega) ((hin.rd.below hb).more hb.size) ((hin.rd'.below hb).more hb.size))
  have hv : shB x.k x.f x.t x.g x.h x.i x.m x.v n n' = false := by
    have h1 := hin.len
    have h2 := hin.len'
    simp only at h1 h2
    rw [← h1, ← h2]
    exact hs
  have hno : shiftB T x = none := by
    unfold shiftB
    rw [if_neg (by simp [hs])]
  rw [hv] at hsh
  have HS := Lib.hid hsh
  have HNO := Lib.hid hno
  clear hsh hv hno hs hin
  obtain ⟨xk, xf, xt, xg, xh, xi, xm, xv, sl, st⟩ := x
  simp only at *
  have k1 : Bk ((w.alloc (.cells (stp xk xf xt xg xh xi xm xv A n c A' n' c') 45)).alloc (.cells (stp 0 0 0 0 0 0 0 0 none 0 0 none 0 0) 45)) w.heap.size 45 (stp xk xf xt xg xh xi xm xv A n c A' n' c') := (Bk.new w _ _).alloc _
  have k2 : Bk ((w.alloc (.cells (stp xk xf xt xg xh xi xm xv A n c A' n' c') 45)).alloc (.cells (stp 0 0 0 0 0 0 0 0 none 0 0 none 0 0) 45)) (w.heap.size + 1) 45 (stp 0 0 0 0 0 0 0 0 none 0 0 none 0 0) := Bk.made _ _ (by simp)
  have hb0 : Below w.heap.size w ((w.alloc (.cells (stp xk xf xt xg xh xi xm xv A n c A' n' c') 45)).alloc (.cells (stp 0 0 0 0 0 0 0 0 none 0 0 none 0 0) 45)) := belowA
  go_enter Tryz.func213, Tryz.ntmps213
  go_upto_region 1 with fail
  generalize hw0 : (w.alloc (.cells (stp xk xf xt xg xh xi xm xv A n c A' n' c') 45)).alloc (.cells #[.int .i64 0, .int .i64 0, .int .i64 0, .int .i64 0, .int .i64 0, .int .i64 0, .int .i64 0, .int .i64 0, .slice none 0 0, .slice none 0 0] 45) = w0 at *
  obtain ⟨p0, p1, p2, p3, p4, p5, p6, p7, p8, p9⟩ := bk10 k1
  go_wp2_with (go_at_call 57; (refine (HS.out _ hb0).mono ?_); rintro e w1 ⟨rfl, hb1, hz1, hx1⟩; have y2 := k2.ext hx1; have f2 := y2.frozen; have l2 := def_lt' y2; obtain ⟨q0, q1, q2, q3, q4, q5, q6, q7, q8, q9⟩ := bk10 y2)
  have y := stp_set y2 0 0 0 0 0 0 0 0 none 0 0 none 0 0
  obtain ⟨r0, r1, r2, r3, r4, r5, r6, r7, r8, r9⟩ := bk10 y
  refine bodyPost_ret (v := .tuple #[.agg (stp 0 0 0 0 0 0 0 0 none 0 0 none 0 0), .bool false]) (by simp [results, Tryz.results213, go_sem, r0, r1, r2, r3, r4, r5, r6, r7, r8, r9]) rfl (bys_none HNO.out ?_)
  exact belowA
theorem shiftB_eq {T : Int → Int → Pl × Int} {x : StC} {P1 P2 : Pl} {e1 e2 : Int} (h1 : T x.f 1 = (P1, e1)) (h2 : T x.t (-1) = (P2, e2)) (hs : x.sh = true) :
    shiftB T x = if e1 = 0 ∧ e2 = 0 ∧ (P1.inside && P2.inside) = false then (kindB T x P1.pos (max P1.pos P2.pos) P2.pos).filter StC.sh else none := by
  unfold shiftB
  rw [h1, h2]
  simp only [hs, true_and]
theorem kind_any (T : Int → Int → Pl × Int) (bl B bs bx bo : Nat) (x : StC) (f' t' e : Int) (A : Option Addr) (n c : Nat) (A' : Option Addr) (n' c' : Nat) (A2 : Option Addr) (n2 c2 : Nat) (A2' : Option Addr) (n2' c2' : Nat) (w : World) (hT : Tells T bl B w) (hBs : B ≤ bs) (hBo : B ≤ bo) (hk : Shf w bs bl false) (hsx : bs ≠ bx) (hso : bs ≠ bo) (hxo : bo ≠ bx)
    (hx : Bk w bx 45 (stp x.k x.f x.t x.g x.h x.i x.m x.v A n c A' n' c')) (ho : Bk w bo 45 (stp x.k f' t' x.g x.h x.i x.m x.v A2 n2 c2 A2' n2' c2'))
    (hsp : (0 ≤ x.f ∧ x.f ≤ x.t ∧ x.t ≤ 1073741824) ∧ (x.k = 1 ∨ x.k = 2 ∨ x.k = 3 ∨ x.k = 4 ∨ x.k = 5) ∧ (x.k = 2 → x.f ≤ x.g ∧ x.g ≤ x.h ∧ x.h ≤ x.t ∧ 0 ≤ x.i ∧ x.i ≤ n ∧ n ≤ 20000) ∧ (x.k = 1 → n ≤ 20000)) (h1 : -4398046511104 ≤ f') (h2 : f' ≤ 4398046511104) :
    Calls Tryz.prog 229 #[.pointer (some ⟨bs, 0, none⟩), .pointer (some ⟨bx, 0, none⟩), .pointer (some ⟨bo, 0, none⟩), .int .i64 e] w (KindS T x f' t' e bs bl bo A2 n2 c2 A2' n2' c2' w) := by
  obtain ⟨⟨g1, g2, g3⟩, hk5, _⟩ := hsp
  rcases hk5 with h | h | h | h | h
  · exact kind_1 T bl bs bx bo x f' t' e A n c A' n' c' A2 n2 c2 A2' n2' c2' w hk hx ho h
  · exact kind_2 T bl B bs bx bo x f' t' e A n c A' n' c' A2 n2 c2 A2' n2' c2' w hT hBs hk hsx hso hxo hx ho h
  · exact kind_34 T bl bs bx bo x f' t' e A n c A' n' c' A2 n2 c2 A2' n2' c2' w hk hx ho (.inl h)
  · exact kind_34 T bl bs bx bo x f' t' e A n c A' n' c' A2 n2 c2 A2' n2' c2' w hk hx ho (.inr h)
  · exact kind_5 T bl B bs bx bo x f' t' e A n c A' n' c' A2 n2 c2 A2' n2' c2' w hT hBs hBo hk hsx hso hxo hx ho h g1 g2 g3 h1 h2
set_option maxRecDepth 100000 in
set_option maxHeartbeats 8000000 in
theorem by_good (T : Int → Int → Pl × Int) (bl B : Nat) (x : StC) (A : Option Addr) (n c : Nat) (A' : Option Addr) (n' c' : Nat) (w : World) (hT : Tells T bl B w) (hin : (StH.mk A n c A' n' c' x).In w w.heap.size) (hs : x.sh = true)
    (hbd : ∀ p s, -4398046511104 ≤ (T p s).1.pos ∧ (T p s).1.pos ≤ 4398046511104) :
    Calls Tryz.prog 213 #[.agg (stp x.k x.f x.t x.g x.h x.i x.m x.v A n c A' n' c'), tellV bl] w (ByS T x w) := by
  have hsh := fun W (hb : Below w.heap.size w W) => calls_on hb (shape_any x.k x.f x.t x.g x.h x.i x.m x.v A A' n n' c c' W x.sl x.st (by have : n ≤ 1000000 := hin.n; unfold maxLen; omega) (by have : n' ≤ 1000000 := hin.n'; unfold maxLen; omega) ((hin.rd.below hb).more hb.size) ((hin.rd'.below hb).more hb.size))
  have hv : shB x.k x.f x.t x.g x.h x.i x.m x.v n n' = true := by
    have h1 := hin.len
    have h2 := hin.len'
    simp only at h1 h2
    rw [← h1, ← h2]
    exact hs
  rw [hv] at hsh
  have hspec := shB_spec hv
  have hcl1 := fun W (hb : Below w.heap.size w W) => (clone_tok A n c x.sl W ((hin.rd.below hb).more hb.size) hin.A hin.n).mono fun _ _ => list_out hb
  have hcl2 := fun W (hb : Below w.heap.size w W) => (clone_mk A' n' c' x.st W ((hin.rd'.below hb).more hb.size) hin.A' hin.n').mono fun _ _ => list_out hb
  obtain ⟨⟨⟨ax, ag, ai, ar, ao⟩, ae⟩, hX⟩ : ∃ y, T x.f 1 = y := ⟨_, rfl⟩
  obtain ⟨⟨⟨px, pg, pi, pr, po⟩, pe⟩, hY⟩ : ∃ y, T x.t (-1) = y := ⟨_, rfl⟩
  have hval := shiftB_eq hX hY hs
  have hb1 := hbd x.f 1
  rw [hX] at hb1
  simp only at hval hb1
  have hn1 : n ≤ 1000000 := hin.n
  have hn2 : n' ≤ 1000000 := hin.n'
  have hT2 := hT.2
  have hTB := hT.1
  have hat := fun (w3 W : World) (bs : Nat) (b : Bool) (p s : Int) (h3 : Below w.heap.size w w3) (hbs : w.heap.size ≤ bs) (hg : w3.grownBy W (some bs)) (hk : Shf W bs bl b) => at_any T bl B bs b p s W (hT.ext ((h3.mono hTB).trans (gr_below hg (Nat.le_trans hTB h3.size) (fun _ e => by injection e with e; omega)))) hk
  have HS := Lib.hid hsh
  have HC1 := Lib.hid hcl1
  have HC2 := Lib.hid hcl2
  have HV := Lib.hid hval
  have HAT := Lib.hid hat
  have HX := Lib.hid hX
  have HY := Lib.hid hY
  have HT := Lib.hid hT
  have HSP := Lib.hid hspec
  clear hsh hcl1 hcl2 hval hat hX hY hT hT2 hTB hspec hv hs hbd
  have k1 : Bk ((w.alloc (.cells (stp x.k x.f x.t x.g x.h x.i x.m x.v A n c A' n' c') 45)).alloc (.cells (stp 0 0 0 0 0 0 0 0 none 0 0 none 0 0) 45)) w.heap.size 45 (stp x.k x.f x.t x.g x.h x.i x.m x.v A n c A' n' c') := (Bk.new w _ _).alloc _
  have k2 : Bk ((w.alloc (.cells (stp x.k x.f x.t x.g x.h x.i x.m x.v A n c A' n' c') 45)).alloc (.cells (stp 0 0 0 0 0 0 0 0 none 0 0 none 0 0) 45)) (w.heap.size + 1) 45 (stp 0 0 0 0 0 0 0 0 none 0 0 none 0 0) := Bk.made _ _ (by simp)
  have hb0 : Below w.heap.size w ((w.alloc (.cells (stp x.k x.f x.t x.g x.h x.i x.m x.v A n c A' n' c') 45)).alloc (.cells (stp 0 0 0 0 0 0 0 0 none 0 0 none 0 0) 45)) := belowA
  go_enter Tryz.func213, Tryz.ntmps213
  go_upto_region 1 with fail
  generalize hw0 : (w.alloc (.cells (stp x.k x.f x.t x.g x.h x.i x.m x.v A n c A' n' c') 45)).alloc (.cells #[.int .i64 0, .int .i64 0, .int .i64 0, .int .i64 0, .int .i64 0, .int .i64 0, .int .i64 0, .int .i64 0, .slice none 0 0, .slice none 0 0] 45) = w0 at *
  obtain ⟨p0, p1, p2, p3, p4, p5, p6, p7, p8, p9⟩ := bk10 k1
  go_upto_region 4 with (go_at_call 57; (refine (HS.out _ hb0).mono ?_); rintro e w1 ⟨rfl, hb1, hz1, hx1⟩)
  have hs3 : Shf (w1.alloc (.cells #[tellV bl, .bool false] 351)) w1.heap.size bl false := Bk.new w1 _ _
  have x3 := (k1.ext hx1).alloc (.cells #[tellV bl, .bool false] 351)
  have o3 := (k2.ext hx1).alloc (.cells #[tellV bl, .bool false] 351)
  have hb3 : Below w.heap.size w (w1.alloc (.cells #[tellV bl, .bool false] 351)) := hb1.alloc hz1 _
  have hlo := def_lt' (k2.ext hx1)
  have hlx := def_lt' (k1.ext hx1)
  clear k1 k2 hb0 p0 p1 p2 p3 p4 p5 p6 p7 p8 p9 hb1 hx1
  generalize w1.alloc (.cells #[tellV bl, .bool false] 351) = w3 at *
  obtain ⟨bs, hbs⟩ : ∃ bs, bs = w1.heap.size := ⟨_, rfl⟩
  rw [← hbs] at hs3 hlo hlx hz1 ⊢
  clear hbs
  have hA1 := fun W b (hg : w3.grownBy W (some bs)) (hk : Shf W bs bl b) => HAT.out w3 W bs b x.f 1 hb3 hz1 hg hk
  have hA2 := fun W b (hg : w3.grownBy W (some bs)) (hk : Shf W bs bl b) => HAT.out w3 W bs b x.t (-1) hb3 hz1 hg hk
  rw [HX.out] at hA1
  rw [HY.out] at hA2
  simp only [Pl.val] at hA1 hA2
  have HA1 := Lib.hid hA1
  have HA2 := Lib.hid hA2
  have h3 : w3.grownBy w3.drew (some bs) := gr_drew (World.grownBy.refl w3 _)
  have hs3' : Shf w3.drew bs bl false := hs3.drew
  have hls := def_lt' hs3
  clear hA1 hA2
  go_cut [7, 8] (fun u v wx => ∃ b7 b8 : Nat, u = .pointer (some ⟨b7, 0, none⟩) ∧ v = .pointer (some ⟨b8, 0, none⟩) ∧ w3.grownBy wx (some bs) ∧ Shf wx bs bl ((false || decide (ae ≠ 0)) || decide (pe ≠ 0)) ∧ Bk wx b7 327 #[.int .i64 ax, .bool ag, .bool ai, .int .i64 ar, .int .i64 ao] ∧ Bk wx b8 327 #[.int .i64 px, .bool pg, .bool pi, .int .i64 pr, .int .i64 po] ∧ w3.heap.size ≤ b7 ∧ w3.heap.size ≤ b8)
  case first =>
    have hF : ∀ w', w3.grownBy w' (some bs) → w'.cell? ⟨w.heap.size, 1, none⟩ = some (.int .i64 x.f) ∧ w'.cell? ⟨w.heap.size, 2, none⟩ = some (.int .i64 x.t) := fun w' h => ⟨(x3.grown h (fun e => by injection e with e; omega)).cell 1, (x3.grown h (fun e => by injection e with e; omega)).cell 2⟩
    have HF := Lib.hid hF
    clear hF HC1 HC2 HV HAT HX HY HS HT HSP
    refine wp_normal ?_
    refine wp_region_held_drew (S := fun w' => w3.grownBy w' (some bs)) (by kernel_rfl) h3 (fun hHeld => ?_)
    clear hHeld
    generalize w3.drew = v0 at *
    (refine tkH 0 ?_; refine tkH 1 ?_; refine tkH 2 ?_; refine tkH 4 ?_; refine tkH 5 ?_; refine tkH 6 ?_)
    refine wpAnyH_ready (rs := [3, 8, 9]) (by kernel_rfl) (by simp) ?_; refine (AllReadyH.cons (o := _) (by simp only [List.getElem?_toArray, List.getElem?_cons_succ, List.getElem?_cons_zero]; rfl) (fun K hK => ?_) (AllReadyH.cons (o := _) (by simp only [List.getElem?_toArray, List.getElem?_cons_succ, List.getElem?_cons_zero]; rfl) (fun K hK => ?_) (AllReadyH.cons (o := _) (by simp only [List.getElem?_toArray, List.getElem?_cons_succ, List.getElem?_cons_zero]; rfl) (fun K hK => ?_) AllReadyH.nil)))
    · go_simp
      go_at_call 228
      refine (HA1.out _ _ h3 hs3').mono ?_
      rintro e1 v1 ⟨rfl, x1, s1⟩
      have g1 := h3.trans x1
      refine hK.out _ _ g1 (fun hHeld => ?_)
      clear hK K; refine puH ?_
      clear hHeld
      refine wpAnyH_ready (rs := [7, 8, 9]) (by kernel_rfl) (by simp) ?_; refine (AllReadyH.cons (o := _) (by simp only [List.getElem?_toArray, List.getElem?_cons_succ, List.getElem?_cons_zero]; rfl) (fun K hK => ?_) (AllReadyH.cons (o := _) (by simp only [List.getElem?_toArray, List.getElem?_cons_succ, List.getElem?_cons_zero]; rfl) (fun K hK => ?_) (AllReadyH.cons (o := _) (by simp only [List.getElem?_toArray, List.getElem?_cons_succ, List.getElem?_cons_zero]; rfl) (fun K hK => ?_) AllReadyH.nil)))
      · go_simp
        go_at_call 228
        refine (HA2.out _ _ g1 s1).mono ?_
        rintro e2 v2 ⟨rfl, x2, s2⟩
        have g2 := g1.trans x2
        refine hK.out _ _ g2 (fun hHeld => ?_)
        clear hK K; refine puH ?_
        clear hHeld
        refine wpAnyH_ready (rs := [8, 9]) (by kernel_rfl) (by simp) ?_; refine (AllReadyH.cons (o := _) (by simp only [List.getElem?_toArray, List.getElem?_cons_succ, List.getElem?_cons_zero]; rfl) (fun K hK => ?_) (AllReadyH.cons (o := _) (by simp only [List.getElem?_toArray, List.getElem?_cons_succ, List.getElem?_cons_zero]; rfl) (fun K hK => ?_) AllReadyH.nil))
        · go_simp
          have z3 : w3.heap.size ≤ v2.heap.size := g2.size
          have g3 : w3.grownBy (v2.alloc (.cells #[.int .i64 0, .bool false, .bool false, .int .i64 0, .int .i64 0] 327)) (some bs) := gr_alloc g2 _
          have s3 := s2.alloc (.cells #[.int .i64 0, .bool false, .bool false, .int .i64 0, .int .i64 0] 327)
          have j3 := Bk.new v2 327 #[.int .i64 0, .bool false, .bool false, .int .i64 0, .int .i64 0]
          refine hK.out _ _ g3 (fun hHeld => ?_)
          clear hK K; refine puH ?_
          clear hHeld
          generalize v2.alloc (.cells #[.int .i64 0, .bool false, .bool false, .int .i64 0, .int .i64 0] 327) = v3 at *
          refine nxH 9 (fun K hK => ?_)
          go_simp
          have z4 : w3.heap.size ≤ v3.heap.size := g3.size
          have g4 : w3.grownBy (v3.alloc (.cells #[.int .i64 0, .bool false, .bool false, .int .i64 0, .int .i64 0] 327)) (some bs) := gr_alloc g3 _
          have s4 := s3.alloc (.cells #[.int .i64 0, .bool false, .bool false, .int .i64 0, .int .i64 0] 327)
          have j4 := Bk.new v3 327 #[.int .i64 0, .bool false, .bool false, .int .i64 0, .int .i64 0]
          have ne4 := Nat.ne_of_lt (def_lt' j3)
          have m4 := j3.alloc (.cells #[.int .i64 0, .bool false, .bool false, .int .i64 0, .int .i64 0] 327)
          refine hK.out _ _ g4 (fun hHeld => ?_)
          clear hK K; refine puH ?_
          clear hHeld
          generalize v3.alloc (.cells #[.int .i64 0, .bool false, .bool false, .int .i64 0, .int .i64 0] 327) = v4 at *
          have f7 := m4.frozen; have f8 := j4.frozen; have l7 := def_lt' m4; have l8 := def_lt' j4
          have c70 := m4.cell 0; have c71 := m4.cell 1; have c72 := m4.cell 2; have c73 := m4.cell 3; have c74 := m4.cell 4
          dsimp at c70 c71 c72 c73 c74
          refine nxH 10 (fun K hK => ?_)
          go_simp
          have gg := set5_gr g4 z3 ax ag ai ar ao
          have y7 := place_set m4 ax ag ai ar ao
          have y8 := set5_far j4 (Ne.symm ne4) ax ag ai ar ao
          have ys := set5_far s4 (fun e => shf_ne s4 m4 (by rw [e])) ax ag ai ar ao
          refine hK.out _ _ gg (fun hHeld => ?_)
          clear hK K; refine puH ?_
          clear hHeld
          dsimp only [set5] at gg y7 y8 ys
          generalize ((((v4.setCell ⟨v2.heap.size, 0, none⟩ (.int .i64 ax)).setCell ⟨v2.heap.size, 1, none⟩ (.bool ag)).setCell ⟨v2.heap.size, 2, none⟩ (.bool ai)).setCell ⟨v2.heap.size, 3, none⟩ (.int .i64 ar)).setCell ⟨v2.heap.size, 4, none⟩ (.int .i64 ao) = v9 at *
          have f9 := y8.frozen; have l9 := def_lt' y8
          have c80 := y8.cell 0; have c81 := y8.cell 1; have c82 := y8.cell 2; have c83 := y8.cell 3; have c84 := y8.cell 4
          dsimp at c80 c81 c82 c83 c84
          refine nxH 11 (fun K hK => ?_)
          go_simp
          have gg2 := set5_gr gg z4 px pg pi pr po
          have u7 := set5_far y7 ne4 px pg pi pr po
          have u8 := place_set y8 px pg pi pr po
          have us := set5_far ys (fun e => shf_ne ys y8 (by rw [e])) px pg pi pr po
          refine hK.out _ _ gg2 (fun hHeld => ?_)
          clear hK K; refine puH ?_
          refine wpAnyH_done (by kernel_rfl) ?_ _
          go_wp2
          go_meet
          exact ⟨_, _, rfl, rfl, gg2, us, u7, u8, z3, z4⟩
        · go_simp
          have z3 : w3.heap.size ≤ v2.heap.size := g2.size
          have g3 : w3.grownBy (v2.alloc (.cells #[.int .i64 0, .bool false, .bool false, .int .i64 0, .int .i64 0] 327)) (some bs) := gr_alloc g2 _
          have s3 := s2.alloc (.cells #[.int .i64 0, .bool false, .bool false, .int .i64 0, .int .i64 0] 327)
          have j3 := Bk.new v2 327 #[.int .i64 0, .bool false, .bool false, .int .i64 0, .int .i64 0]
          refine hK.out _ _ g3 (fun hHeld => ?_)
          clear hK K; refine puH ?_
          clear hHeld
          generalize v2.alloc (.cells #[.int .i64 0, .bool false, .bool false, .int .i64 0, .int .i64 0] 327) = v3 at *
          refine nxH 8 (fun K hK => ?_)
          go_simp
          have z4 : w3.heap.size ≤ v3.heap.size := g3.size
          have g4 : w3.grownBy (v3.alloc (.cells #[.int .i64 0, .bool false, .bool false, .int .i64 0, .int .i64 0] 327)) (some bs) := gr_alloc g3 _
          have s4 := s3.alloc (.cells #[.int .i64 0, .bool false, .bool false, .int .i64 0, .int .i64 0] 327)
          have j4 := Bk.new v3 327 #[.int .i64 0, .bool false, .bool false, .int .i64 0, .int .i64 0]
          have ne4 := Ne.symm (Nat.ne_of_lt (def_lt' j3))
          have m4 := j3.alloc (.cells #[.int .i64 0, .bool false, .bool false, .int .i64 0, .int .i64 0] 327)
          refine hK.out _ _ g4 (fun hHeld => ?_)
          clear hK K; refine puH ?_
          clear hHeld
          generalize v3.alloc (.cells #[.int .i64 0, .bool false, .bool false, .int .i64 0, .int .i64 0] 327) = v4 at *
          have f7 := j4.frozen; have f8 := m4.frozen; have l7 := def_lt' j4; have l8 := def_lt' m4
          have c70 := j4.cell 0; have c71 := j4.cell 1; have c72 := j4.cell 2; have c73 := j4.cell 3; have c74 := j4.cell 4
          dsimp at c70 c71 c72 c73 c74
          refine nxH 10 (fun K hK => ?_)
          go_simp
          have gg := set5_gr g4 z4 ax ag ai ar ao
          have y7 := place_set j4 ax ag ai ar ao
          have y8 := set5_far m4 (Ne.symm ne4) ax ag ai ar ao
          have ys := set5_far s4 (fun e => shf_ne s4 j4 (by rw [e])) ax ag ai ar ao
          refine hK.out _ _ gg (fun hHeld => ?_)
          clear hK K; refine puH ?_
          clear hHeld
          dsimp only [set5] at gg y7 y8 ys
          generalize ((((v4.setCell ⟨v3.heap.size, 0, none⟩ (.int .i64 ax)).setCell ⟨v3.heap.size, 1, none⟩ (.bool ag)).setCell ⟨v3.heap.size, 2, none⟩ (.bool ai)).setCell ⟨v3.heap.size, 3, none⟩ (.int .i64 ar)).setCell ⟨v3.heap.size, 4, none⟩ (.int .i64 ao) = v9 at *
          have f9 := y8.frozen; have l9 := def_lt' y8
          have c80 := y8.cell 0; have c81 := y8.cell 1; have c82 := y8.cell 2; have c83 := y8.cell 3; have c84 := y8.cell 4
          dsimp at c80 c81 c82 c83 c84
          refine nxH 11 (fun K hK => ?_)
          go_simp
          have gg2 := set5_gr gg z3 px pg pi pr po
          have u7 := set5_far y7 ne4 px pg pi pr po
          have u8 := place_set y8 px pg pi pr po
          have us := set5_far ys (fun e => shf_ne ys y8 (by rw [e])) px pg pi pr po
          refine hK.out _ _ gg2 (fun hHeld => ?_)
          clear hK K; refine puH ?_
          refine wpAnyH_done (by kernel_rfl) ?_ _
          go_wp2
          go_meet
          exact ⟨_, _, rfl, rfl, gg2, us, u7, u8, z4, z3⟩
      · go_simp
        have z2 : w3.heap.size ≤ v1.heap.size := g1.size
        have g2 : w3.grownBy (v1.alloc (.cells #[.int .i64 0, .bool false, .bool false, .int .i64 0, .int .i64 0] 327)) (some bs) := gr_alloc g1 _
        have s2 := s1.alloc (.cells #[.int .i64 0, .bool false, .bool false, .int .i64 0, .int .i64 0] 327)
        have j2 := Bk.new v1 327 #[.int .i64 0, .bool false, .bool false, .int .i64 0, .int .i64 0]
        refine hK.out _ _ g2 (fun hHeld => ?_)
        clear hK K; refine puH ?_
        clear hHeld
        generalize v1.alloc (.cells #[.int .i64 0, .bool false, .bool false, .int .i64 0, .int .i64 0] 327) = v2 at *
        refine wpAnyH_ready (rs := [7, 9]) (by kernel_rfl) (by simp) ?_; refine (AllReadyH.cons (o := _) (by simp only [List.getElem?_toArray, List.getElem?_cons_succ, List.getElem?_cons_zero]; rfl) (fun K hK => ?_) (AllReadyH.cons (o := _) (by simp only [List.getElem?_toArray, List.getElem?_cons_succ, List.getElem?_cons_zero]; rfl) (fun K hK => ?_) AllReadyH.nil))
        · go_simp
          go_at_call 228
          refine (HA2.out _ _ g2 s2).mono ?_
          rintro e3 v3 ⟨rfl, x3, s3⟩
          have g3 := g2.trans x3
          have m3 := j2.grown x3 (shf_ne s2 j2)
          refine hK.out _ _ g3 (fun hHeld => ?_)
          clear hK K; refine puH ?_
          clear hHeld
          refine nxH 9 (fun K hK => ?_)
          go_simp
          have z4 : w3.heap.size ≤ v3.heap.size := g3.size
          have g4 : w3.grownBy (v3.alloc (.cells #[.int .i64 0, .bool false, .bool false, .int .i64 0, .int .i64 0] 327)) (some bs) := gr_alloc g3 _
          have s4 := s3.alloc (.cells #[.int .i64 0, .bool false, .bool false, .int .i64 0, .int .i64 0] 327)
          have j4 := Bk.new v3 327 #[.int .i64 0, .bool false, .bool false, .int .i64 0, .int .i64 0]
          have ne4 := Nat.ne_of_lt (def_lt' m3)
          have m4 := m3.alloc (.cells #[.int .i64 0, .bool false, .bool false, .int .i64 0, .int .i64 0] 327)
          refine hK.out _ _ g4 (fun hHeld => ?_)
          clear hK K; refine puH ?_
          clear hHeld
          generalize v3.alloc (.cells #[.int .i64 0, .bool false, .bool false, .int .i64 0, .int .i64 0] 327) = v4 at *
          have f7 := m4.frozen; have f8 := j4.frozen; have l7 := def_lt' m4; have l8 := def_lt' j4
          have c70 := m4.cell 0; have c71 := m4.cell 1; have c72 := m4.cell 2; have c73 := m4.cell 3; have c74 := m4.cell 4
          dsimp at c70 c71 c72 c73 c74
          refine nxH 10 (fun K hK => ?_)
          go_simp
          have gg := set5_gr g4 z2 ax ag ai ar ao
          have y7 := place_set m4 ax ag ai ar ao
          have y8 := set5_far j4 (Ne.symm ne4) ax ag ai ar ao
          have ys := set5_far s4 (fun e => shf_ne s4 m4 (by rw [e])) ax ag ai ar ao
          refine hK.out _ _ gg (fun hHeld => ?_)
          clear hK K; refine puH ?_
          clear hHeld
          dsimp only [set5] at gg y7 y8 ys
          generalize ((((v4.setCell ⟨v1.heap.size, 0, none⟩ (.int .i64 ax)).setCell ⟨v1.heap.size, 1, none⟩ (.bool ag)).setCell ⟨v1.heap.size, 2, none⟩ (.bool ai)).setCell ⟨v1.heap.size, 3, none⟩ (.int .i64 ar)).setCell ⟨v1.heap.size, 4, none⟩ (.int .i64 ao) = v9 at *
          have f9 := y8.frozen; have l9 := def_lt' y8
          have c80 := y8.cell 0; have c81 := y8.cell 1; have c82 := y8.cell 2; have c83 := y8.cell 3; have c84 := y8.cell 4
          dsimp at c80 c81 c82 c83 c84
          refine nxH 11 (fun K hK => ?_)
          go_simp
          have gg2 := set5_gr gg z4 px pg pi pr po
          have u7 := set5_far y7 ne4 px pg pi pr po
          have u8 := place_set y8 px pg pi pr po
          have us := set5_far ys (fun e => shf_ne ys y8 (by rw [e])) px pg pi pr po
          refine hK.out _ _ gg2 (fun hHeld => ?_)
          clear hK K; refine puH ?_
          refine wpAnyH_done (by kernel_rfl) ?_ _
          go_wp2
          go_meet
          exact ⟨_, _, rfl, rfl, gg2, us, u7, u8, z2, z4⟩
        · go_simp
          have z3 : w3.heap.size ≤ v2.heap.size := g2.size
          have g3 : w3.grownBy (v2.alloc (.cells #[.int .i64 0, .bool false, .bool false, .int .i64 0, .int .i64 0] 327)) (some bs) := gr_alloc g2 _
          have s3 := s2.alloc (.cells #[.int .i64 0, .bool false, .bool false, .int .i64 0, .int .i64 0] 327)
          have j3 := Bk.new v2 327 #[.int .i64 0, .bool false, .bool false, .int .i64 0, .int .i64 0]
          have ne3 := Nat.ne_of_lt (def_lt' j2)
          have m3 := j2.alloc (.cells #[.int .i64 0, .bool false, .bool false, .int .i64 0, .int .i64 0] 327)
          refine hK.out _ _ g3 (fun hHeld => ?_)
          clear hK K; refine puH ?_
          clear hHeld
          generalize v2.alloc (.cells #[.int .i64 0, .bool false, .bool false, .int .i64 0, .int .i64 0] 327) = v3 at *
          refine nxH 7 (fun K hK => ?_)
          go_simp
          go_at_call 228
          refine (HA2.out _ _ g3 s3).mono ?_
          rintro e4 v4 ⟨rfl, x4, s4⟩
          have g4 := g3.trans x4
          have m4 := m3.grown x4 (shf_ne s3 m3)
          have p4 := j3.grown x4 (shf_ne s3 j3)
          refine hK.out _ _ g4 (fun hHeld => ?_)
          clear hK K; refine puH ?_
          clear hHeld
          have f7 := m4.frozen; have f8 := p4.frozen; have l7 := def_lt' m4; have l8 := def_lt' p4
          have c70 := m4.cell 0; have c71 := m4.cell 1; have c72 := m4.cell 2; have c73 := m4.cell 3; have c74 := m4.cell 4
          dsimp at c70 c71 c72 c73 c74
          refine nxH 10 (fun K hK => ?_)
          go_simp
          have gg := set5_gr g4 z2 ax ag ai ar ao
          have y7 := place_set m4 ax ag ai ar ao
          have y8 := set5_far p4 (Ne.symm ne3) ax ag ai ar ao
          have ys := set5_far s4 (fun e => shf_ne s4 m4 (by rw [e])) ax ag ai ar ao
          refine hK.out _ _ gg (fun hHeld => ?_)
          clear hK K; refine puH ?_
          clear hHeld
          dsimp only [set5] at gg y7 y8 ys
          generalize ((((v4.setCell ⟨v1.heap.size, 0, none⟩ (.int .i64 ax)).setCell ⟨v1.heap.size, 1, none⟩ (.bool ag)).setCell ⟨v1.heap.size, 2, none⟩ (.bool ai)).setCell ⟨v1.heap.size, 3, none⟩ (.int .i64 ar)).setCell ⟨v1.heap.size, 4, none⟩ (.int .i64 ao) = v9 at *
          have f9 := y8.frozen; have l9 := def_lt' y8
          have c80 := y8.cell 0; have c81 := y8.cell 1; have c82 := y8.cell 2; have c83 := y8.cell 3; have c84 := y8.cell 4
          dsimp at c80 c81 c82 c83 c84
          refine nxH 11 (fun K hK => ?_)
          go_simp
          have gg2 := set5_gr gg z3 px pg pi pr po
          have u7 := set5_far y7 ne3 px pg pi pr po
          have u8 := place_set y8 px pg pi pr po
          have us := set5_far ys (fun e => shf_ne ys y8 (by rw [e])) px pg pi pr po
          refine hK.out _ _ gg2 (fun hHeld => ?_)
          clear hK K; refine puH ?_
          refine wpAnyH_done (by kernel_rfl) ?_ _
          go_wp2
          go_meet
          exact ⟨_, _, rfl, rfl, gg2, us, u7, u8, z2, z3⟩
      · go_simp
        have z2 : w3.heap.size ≤ v1.heap.size := g1.size
        have g2 : w3.grownBy (v1.alloc (.cells #[.int .i64 0, .bool false, .bool false, .int .i64 0, .int .i64 0] 327)) (some bs) := gr_alloc g1 _
        have s2 := s1.alloc (.cells #[.int .i64 0, .bool false, .bool false, .int .i64 0, .int .i64 0] 327)
        have j2 := Bk.new v1 327 #[.int .i64 0, .bool false, .bool false, .int .i64 0, .int .i64 0]
        refine hK.out _ _ g2 (fun hHeld => ?_)
        clear hK K; refine puH ?_
        clear hHeld
        generalize v1.alloc (.cells #[.int .i64 0, .bool false, .bool false, .int .i64 0, .int .i64 0] 327) = v2 at *
        refine wpAnyH_ready (rs := [7, 8]) (by kernel_rfl) (by simp) ?_; refine (AllReadyH.cons (o := _) (by simp only [List.getElem?_toArray, List.getElem?_cons_succ, List.getElem?_cons_zero]; rfl) (fun K hK => ?_) (AllReadyH.cons (o := _) (by simp only [List.getElem?_toArray, List.getElem?_cons_succ, List.getElem?_cons_zero]; rfl) (fun K hK => ?_) AllReadyH.nil))
        · go_simp
          go_at_call 228
          refine (HA2.out _ _ g2 s2).mono ?_
          rintro e3 v3 ⟨rfl, x3, s3⟩
          have g3 := g2.trans x3
          have p3 := j2.grown x3 (shf_ne s2 j2)
          refine hK.out _ _ g3 (fun hHeld => ?_)
          clear hK K; refine puH ?_
          clear hHeld
          refine nxH 8 (fun K hK => ?_)
          go_simp
          have z4 : w3.heap.size ≤ v3.heap.size := g3.size
          have g4 : w3.grownBy (v3.alloc (.cells #[.int .i64 0, .bool false, .bool false, .int .i64 0, .int .i64 0] 327)) (some bs) := gr_alloc g3 _
          have s4 := s3.alloc (.cells #[.int .i64 0, .bool false, .bool false, .int .i64 0, .int .i64 0] 327)
          have j4 := Bk.new v3 327 #[.int .i64 0, .bool false, .bool false, .int .i64 0, .int .i64 0]
          have ne4 := Ne.symm (Nat.ne_of_lt (def_lt' p3))
          have m4 := p3.alloc (.cells #[.int .i64 0, .bool false, .bool false, .int .i64 0, .int .i64 0] 327)
          refine hK.out _ _ g4 (fun hHeld => ?_)
          clear hK K; refine puH ?_
          clear hHeld
          generalize v3.alloc (.cells #[.int .i64 0, .bool false, .bool false, .int .i64 0, .int .i64 0] 327) = v4 at *
          have f7 := j4.frozen; have f8 := m4.frozen; have l7 := def_lt' j4; have l8 := def_lt' m4
          have c70 := j4.cell 0; have c71 := j4.cell 1; have c72 := j4.cell 2; have c73 := j4.cell 3; have c74 := j4.cell 4
          dsimp at c70 c71 c72 c73 c74
          refine nxH 10 (fun K hK => ?_)
          go_simp
          have gg := set5_gr g4 z4 ax ag ai ar ao
          have y7 := place_set j4 ax ag ai ar ao
          have y8 := set5_far m4 (Ne.symm ne4) ax ag ai ar ao
          have ys := set5_far s4 (fun e => shf_ne s4 j4 (by rw [e])) ax ag ai ar ao
          refine hK.out _ _ gg (fun hHeld => ?_)
          clear hK K; refine puH ?_
          clear hHeld
          dsimp only [set5] at gg y7 y8 ys
          generalize ((((v4.setCell ⟨v3.heap.size, 0, none⟩ (.int .i64 ax)).setCell ⟨v3.heap.size, 1, none⟩ (.bool ag)).setCell ⟨v3.heap.size, 2, none⟩ (.bool ai)).setCell ⟨v3.heap.size, 3, none⟩ (.int .i64 ar)).setCell ⟨v3.heap.size, 4, none⟩ (.int .i64 ao) = v9 at *
          have f9 := y8.frozen; have l9 := def_lt' y8
          have c80 := y8.cell 0; have c81 := y8.cell 1; have c82 := y8.cell 2; have c83 := y8.cell 3; have c84 := y8.cell 4
          dsimp at c80 c81 c82 c83 c84
          refine nxH 11 (fun K hK => ?_)
          go_simp
          have gg2 := set5_gr gg z2 px pg pi pr po
          have u7 := set5_far y7 ne4 px pg pi pr po
          have u8 := place_set y8 px pg pi pr po
          have us := set5_far ys (fun e => shf_ne ys y8 (by rw [e])) px pg pi pr po
          refine hK.out _ _ gg2 (fun hHeld => ?_)
          clear hK K; refine puH ?_
          refine wpAnyH_done (by kernel_rfl) ?_ _
          go_wp2
          go_meet
          exact ⟨_, _, rfl, rfl, gg2, us, u7, u8, z4, z2⟩
        · go_simp
          have z3 : w3.heap.size ≤ v2.heap.size := g2.size
          have g3 : w3.grownBy (v2.alloc (.cells #[.int .i64 0, .bool false, .bool false, .int .i64 0, .int .i64 0] 327)) (some bs) := gr_alloc g2 _
          have s3 := s2.alloc (.cells #[.int .i64 0, .bool false, .bool false, .int .i64 0, .int .i64 0] 327)
          have j3 := Bk.new v2 327 #[.int .i64 0, .bool false, .bool false, .int .i64 0, .int .i64 0]
          have ne3 := Ne.symm (Nat.ne_of_lt (def_lt' j2))
          have m3 := j2.alloc (.cells #[.int .i64 0, .bool false, .bool false, .int .i64 0, .int .i64 0] 327)
          refine hK.out _ _ g3 (fun hHeld => ?_)
          clear hK K; refine puH ?_
          clear hHeld
          generalize v2.alloc (.cells #[.int .i64 0, .bool false, .bool false, .int .i64 0, .int .i64 0] 327) = v3 at *
          refine nxH 7 (fun K hK => ?_)
          go_simp
          go_at_call 228
          refine (HA2.out _ _ g3 s3).mono ?_
          rintro e4 v4 ⟨rfl, x4, s4⟩
          have g4 := g3.trans x4
          have m4 := j3.grown x4 (shf_ne s3 j3)
          have p4 := m3.grown x4 (shf_ne s3 m3)
          refine hK.out _ _ g4 (fun hHeld => ?_)
          clear hK K; refine puH ?_
          clear hHeld
          have f7 := m4.frozen; have f8 := p4.frozen; have l7 := def_lt' m4; have l8 := def_lt' p4
          have c70 := m4.cell 0; have c71 := m4.cell 1; have c72 := m4.cell 2; have c73 := m4.cell 3; have c74 := m4.cell 4
          dsimp at c70 c71 c72 c73 c74
          refine nxH 10 (fun K hK => ?_)
          go_simp
          have gg := set5_gr g4 z3 ax ag ai ar ao
          have y7 := place_set m4 ax ag ai ar ao
          have y8 := set5_far p4 (Ne.symm ne3) ax ag ai ar ao
          have ys := set5_far s4 (fun e => shf_ne s4 m4 (by rw [e])) ax ag ai ar ao
          refine hK.out _ _ gg (fun hHeld => ?_)
          clear hK K; refine puH ?_
          clear hHeld
          dsimp only [set5] at gg y7 y8 ys
          generalize ((((v4.setCell ⟨v2.heap.size, 0, none⟩ (.int .i64 ax)).setCell ⟨v2.heap.size, 1, none⟩ (.bool ag)).setCell ⟨v2.heap.size, 2, none⟩ (.bool ai)).setCell ⟨v2.heap.size, 3, none⟩ (.int .i64 ar)).setCell ⟨v2.heap.size, 4, none⟩ (.int .i64 ao) = v9 at *
          have f9 := y8.frozen; have l9 := def_lt' y8
          have c80 := y8.cell 0; have c81 := y8.cell 1; have c82 := y8.cell 2; have c83 := y8.cell 3; have c84 := y8.cell 4
          dsimp at c80 c81 c82 c83 c84
          refine nxH 11 (fun K hK => ?_)
          go_simp
          have gg2 := set5_gr gg z2 px pg pi pr po
          have u7 := set5_far y7 ne3 px pg pi pr po
          have u8 := place_set y8 px pg pi pr po
          have us := set5_far ys (fun e => shf_ne ys y8 (by rw [e])) px pg pi pr po
          refine hK.out _ _ gg2 (fun hHeld => ?_)
          clear hK K; refine puH ?_
          refine wpAnyH_done (by kernel_rfl) ?_ _
          go_wp2
          go_meet
          exact ⟨_, _, rfl, rfl, gg2, us, u7, u8, z3, z2⟩
    · go_simp
      have z1 : w3.heap.size ≤ v0.heap.size := h3.size
      have g1 : w3.grownBy (v0.alloc (.cells #[.int .i64 0, .bool false, .bool false, .int .i64 0, .int .i64 0] 327)) (some bs) := gr_alloc h3 _
      have s1 := hs3'.alloc (.cells #[.int .i64 0, .bool false, .bool false, .int .i64 0, .int .i64 0] 327)
      have j1 := Bk.new v0 327 #[.int .i64 0, .bool false, .bool false, .int .i64 0, .int .i64 0]
      refine hK.out _ _ g1 (fun hHeld => ?_)
      clear hK K; refine puH ?_
      clear hHeld
      generalize v0.alloc (.cells #[.int .i64 0, .bool false, .bool false, .int .i64 0, .int .i64 0] 327) = v1 at *
      refine wpAnyH_ready (rs := [3, 9]) (by kernel_rfl) (by simp) ?_; refine (AllReadyH.cons (o := _) (by simp only [List.getElem?_toArray, List.getElem?_cons_succ, List.getElem?_cons_zero]; rfl) (fun K hK => ?_) (AllReadyH.cons (o := _) (by simp only [List.getElem?_toArray, List.getElem?_cons_succ, List.getElem?_cons_zero]; rfl) (fun K hK => ?_) AllReadyH.nil))
      · go_simp
        go_at_call 228
        refine (HA1.out _ _ g1 s1).mono ?_
        rintro e2 v2 ⟨rfl, x2, s2⟩
        have g2 := g1.trans x2
        have m2 := j1.grown x2 (shf_ne s1 j1)
        refine hK.out _ _ g2 (fun hHeld => ?_)
        clear hK K; refine puH ?_
        clear hHeld
        refine wpAnyH_ready (rs := [7, 9]) (by kernel_rfl) (by simp) ?_; refine (AllReadyH.cons (o := _) (by simp only [List.getElem?_toArray, List.getElem?_cons_succ, List.getElem?_cons_zero]; rfl) (fun K hK => ?_) (AllReadyH.cons (o := _) (by simp only [List.getElem?_toArray, List.getElem?_cons_succ, List.getElem?_cons_zero]; rfl) (fun K hK => ?_) AllReadyH.nil))
        · go_simp
          go_at_call 228
          refine (HA2.out _ _ g2 s2).mono ?_
          rintro e3 v3 ⟨rfl, x3, s3⟩
          have g3 := g2.trans x3
          have m3 := m2.grown x3 (shf_ne s2 m2)
          refine hK.out _ _ g3 (fun hHeld => ?_)
          clear hK K; refine puH ?_
          clear hHeld
          refine nxH 9 (fun K hK => ?_)
          go_simp
          have z4 : w3.heap.size ≤ v3.heap.size := g3.size
          have g4 : w3.grownBy (v3.alloc (.cells #[.int .i64 0, .bool false, .bool false, .int .i64 0, .int .i64 0] 327)) (some bs) := gr_alloc g3 _
          have s4 := s3.alloc (.cells #[.int .i64 0, .bool false, .bool false, .int .i64 0, .int .i64 0] 327)
          have j4 := Bk.new v3 327 #[.int .i64 0, .bool false, .bool false, .int .i64 0, .int .i64 0]
          have ne4 := Nat.ne_of_lt (def_lt' m3)
          have m4 := m3.alloc (.cells #[.int .i64 0, .bool false, .bool false, .int .i64 0, .int .i64 0] 327)
          refine hK.out _ _ g4 (fun hHeld => ?_)
          clear hK K; refine puH ?_
          clear hHeld
          generalize v3.alloc (.cells #[.int .i64 0, .bool false, .bool false, .int .i64 0, .int .i64 0] 327) = v4 at *
          have f7 := m4.frozen; have f8 := j4.frozen; have l7 := def_lt' m4; have l8 := def_lt' j4
          have c70 := m4.cell 0; have c71 := m4.cell 1; have c72 := m4.cell 2; have c73 := m4.cell 3; have c74 := m4.cell 4
          dsimp at c70 c71 c72 c73 c74
          refine nxH 10 (fun K hK => ?_)
          go_simp
          have gg := set5_gr g4 z1 ax ag ai ar ao
          have y7 := place_set m4 ax ag ai ar ao
          have y8 := set5_far j4 (Ne.symm ne4) ax ag ai ar ao
          have ys := set5_far s4 (fun e => shf_ne s4 m4 (by rw [e])) ax ag ai ar ao
          refine hK.out _ _ gg (fun hHeld => ?_)
          clear hK K; refine puH ?_
          clear hHeld
          dsimp only [set5] at gg y7 y8 ys
          generalize ((((v4.setCell ⟨v0.heap.size, 0, none⟩ (.int .i64 ax)).setCell ⟨v0.heap.size, 1, none⟩ (.bool ag)).setCell ⟨v0.heap.size, 2, none⟩ (.bool ai)).setCell ⟨v0.heap.size, 3, none⟩ (.int .i64 ar)).setCell ⟨v0.heap.size, 4, none⟩ (.int .i64 ao) = v9 at *
          have f9 := y8.frozen; have l9 := def_lt' y8
          have c80 := y8.cell 0; have c81 := y8.cell 1; have c82 := y8.cell 2; have c83 := y8.cell 3; have c84 := y8.cell 4
          dsimp at c80 c81 c82 c83 c84
          refine nxH 11 (fun K hK => ?_)
          go_simp
          have gg2 := set5_gr gg z4 px pg pi pr po
          have u7 := set5_far y7 ne4 px pg pi pr po
          have u8 := place_set y8 px pg pi pr po
          have us := set5_far ys (fun e => shf_ne ys y8 (by rw [e])) px pg pi pr po
          refine hK.out _ _ gg2 (fun hHeld => ?_)
          clear hK K; refine puH ?_
          refine wpAnyH_done (by kernel_rfl) ?_ _
          go_wp2
          go_meet
          exact ⟨_, _, rfl, rfl, gg2, us, u7, u8, z1, z4⟩
        · go_simp
          have z3 : w3.heap.size ≤ v2.heap.size := g2.size
          have g3 : w3.grownBy (v2.alloc (.cells #[.int .i64 0, .bool false, .bool false, .int .i64 0, .int .i64 0] 327)) (some bs) := gr_alloc g2 _
          have s3 := s2.alloc (.cells #[.int .i64 0, .bool false, .bool false, .int .i64 0, .int .i64 0] 327)
          have j3 := Bk.new v2 327 #[.int .i64 0, .bool false, .bool false, .int .i64 0, .int .i64 0]
          have ne3 := Nat.ne_of_lt (def_lt' m2)
          have m3 := m2.alloc (.cells #[.int .i64 0, .bool false, .bool false, .int .i64 0, .int .i64 0] 327)
          refine hK.out _ _ g3 (fun hHeld => ?_)
          clear hK K; refine puH ?_
          clear hHeld
          generalize v2.alloc (.cells #[.int .i64 0, .bool false, .bool false, .int .i64 0, .int .i64 0] 327) = v3 at *
          refine nxH 7 (fun K hK => ?_)
          go_simp
          go_at_call 228
          refine (HA2.out _ _ g3 s3).mono ?_
          rintro e4 v4 ⟨rfl, x4, s4⟩
          have g4 := g3.trans x4
          have m4 := m3.grown x4 (shf_ne s3 m3)
          have p4 := j3.grown x4 (shf_ne s3 j3)
          refine hK.out _ _ g4 (fun hHeld => ?_)
          clear hK K; refine puH ?_
          clear hHeld
          have f7 := m4.frozen; have f8 := p4.frozen; have l7 := def_lt' m4; have l8 := def_lt' p4
          have c70 := m4.cell 0; have c71 := m4.cell 1; have c72 := m4.cell 2; have c73 := m4.cell 3; have c74 := m4.cell 4
          dsimp at c70 c71 c72 c73 c74
          refine nxH 10 (fun K hK => ?_)
          go_simp
          have gg := set5_gr g4 z1 ax ag ai ar ao
          have y7 := place_set m4 ax ag ai ar ao
          have y8 := set5_far p4 (Ne.symm ne3) ax ag ai ar ao
          have ys := set5_far s4 (fun e => shf_ne s4 m4 (by rw [e])) ax ag ai ar ao
          refine hK.out _ _ gg (fun hHeld => ?_)
          clear hK K; refine puH ?_
          clear hHeld
          dsimp only [set5] at gg y7 y8 ys
          generalize ((((v4.setCell ⟨v0.heap.size, 0, none⟩ (.int .i64 ax)).setCell ⟨v0.heap.size, 1, none⟩ (.bool ag)).setCell ⟨v0.heap.size, 2, none⟩ (.bool ai)).setCell ⟨v0.heap.size, 3, none⟩ (.int .i64 ar)).setCell ⟨v0.heap.size, 4, none⟩ (.int .i64 ao) = v9 at *
          have f9 := y8.frozen; have l9 := def_lt' y8
          have c80 := y8.cell 0; have c81 := y8.cell 1; have c82 := y8.cell 2; have c83 := y8.cell 3; have c84 := y8.cell 4
          dsimp at c80 c81 c82 c83 c84
          refine nxH 11 (fun K hK => ?_)
          go_simp
          have gg2 := set5_gr gg z3 px pg pi pr po
          have u7 := set5_far y7 ne3 px pg pi pr po
          have u8 := place_set y8 px pg pi pr po
          have us := set5_far ys (fun e => shf_ne ys y8 (by rw [e])) px pg pi pr po
          refine hK.out _ _ gg2 (fun hHeld => ?_)
          clear hK K; refine puH ?_
          refine wpAnyH_done (by kernel_rfl) ?_ _
          go_wp2
          go_meet
          exact ⟨_, _, rfl, rfl, gg2, us, u7, u8, z1, z3⟩
      · go_simp
        have z2 : w3.heap.size ≤ v1.heap.size := g1.size
        have g2 : w3.grownBy (v1.alloc (.cells #[.int .i64 0, .bool false, .bool false, .int .i64 0, .int .i64 0] 327)) (some bs) := gr_alloc g1 _
        have s2 := s1.alloc (.cells #[.int .i64 0, .bool false, .bool false, .int .i64 0, .int .i64 0] 327)
        have j2 := Bk.new v1 327 #[.int .i64 0, .bool false, .bool false, .int .i64 0, .int .i64 0]
        have ne2 := Nat.ne_of_lt (def_lt' j1)
        have m2 := j1.alloc (.cells #[.int .i64 0, .bool false, .bool false, .int .i64 0, .int .i64 0] 327)
        refine hK.out _ _ g2 (fun hHeld => ?_)
        clear hK K; refine puH ?_
        clear hHeld
        generalize v1.alloc (.cells #[.int .i64 0, .bool false, .bool false, .int .i64 0, .int .i64 0] 327) = v2 at *
        refine nxH 3 (fun K hK => ?_)
        go_simp
        go_at_call 228
        refine (HA1.out _ _ g2 s2).mono ?_
        rintro e3 v3 ⟨rfl, x3, s3⟩
        have g3 := g2.trans x3
        have m3 := m2.grown x3 (shf_ne s2 m2)
        have p3 := j2.grown x3 (shf_ne s2 j2)
        refine hK.out _ _ g3 (fun hHeld => ?_)
        clear hK K; refine puH ?_
        clear hHeld
        refine nxH 7 (fun K hK => ?_)
        go_simp
        go_at_call 228
        refine (HA2.out _ _ g3 s3).mono ?_
        rintro e4 v4 ⟨rfl, x4, s4⟩
        have g4 := g3.trans x4
        have m4 := m3.grown x4 (shf_ne s3 m3)
        have p4 := p3.grown x4 (shf_ne s3 p3)
        refine hK.out _ _ g4 (fun hHeld => ?_)
        clear hK K; refine puH ?_
        clear hHeld
        have f7 := m4.frozen; have f8 := p4.frozen; have l7 := def_lt' m4; have l8 := def_lt' p4
        have c70 := m4.cell 0; have c71 := m4.cell 1; have c72 := m4.cell 2; have c73 := m4.cell 3; have c74 := m4.cell 4
        dsimp at c70 c71 c72 c73 c74
        refine nxH 10 (fun K hK => ?_)
        go_simp
        have gg := set5_gr g4 z1 ax ag ai ar ao
        have y7 := place_set m4 ax ag ai ar ao
        have y8 := set5_far p4 (Ne.symm ne2) ax ag ai ar ao
        have ys := set5_far s4 (fun e => shf_ne s4 m4 (by rw [e])) ax ag ai ar ao
        refine hK.out _ _ gg (fun hHeld => ?_)
        clear hK K; refine puH ?_
        clear hHeld
        dsimp only [set5] at gg y7 y8 ys
        generalize ((((v4.setCell ⟨v0.heap.size, 0, none⟩ (.int .i64 ax)).setCell ⟨v0.heap.size, 1, none⟩ (.bool ag)).setCell ⟨v0.heap.size, 2, none⟩ (.bool ai)).setCell ⟨v0.heap.size, 3, none⟩ (.int .i64 ar)).setCell ⟨v0.heap.size, 4, none⟩ (.int .i64 ao) = v9 at *
        have f9 := y8.frozen; have l9 := def_lt' y8
        have c80 := y8.cell 0; have c81 := y8.cell 1; have c82 := y8.cell 2; have c83 := y8.cell 3; have c84 := y8.cell 4
        dsimp at c80 c81 c82 c83 c84
        refine nxH 11 (fun K hK => ?_)
        go_simp
        have gg2 := set5_gr gg z2 px pg pi pr po
        have u7 := set5_far y7 ne2 px pg pi pr po
        have u8 := place_set y8 px pg pi pr po
        have us := set5_far ys (fun e => shf_ne ys y8 (by rw [e])) px pg pi pr po
        refine hK.out _ _ gg2 (fun hHeld => ?_)
        clear hK K; refine puH ?_
        refine wpAnyH_done (by kernel_rfl) ?_ _
        go_wp2
        go_meet
        exact ⟨_, _, rfl, rfl, gg2, us, u7, u8, z1, z2⟩
    · go_simp
      have z1 : w3.heap.size ≤ v0.heap.size := h3.size
      have g1 : w3.grownBy (v0.alloc (.cells #[.int .i64 0, .bool false, .bool false, .int .i64 0, .int .i64 0] 327)) (some bs) := gr_alloc h3 _
      have s1 := hs3'.alloc (.cells #[.int .i64 0, .bool false, .bool false, .int .i64 0, .int .i64 0] 327)
      have j1 := Bk.new v0 327 #[.int .i64 0, .bool false, .bool false, .int .i64 0, .int .i64 0]
      refine hK.out _ _ g1 (fun hHeld => ?_)
      clear hK K; refine puH ?_
      clear hHeld
      generalize v0.alloc (.cells #[.int .i64 0, .bool false, .bool false, .int .i64 0, .int .i64 0] 327) = v1 at *
      refine wpAnyH_ready (rs := [3, 8]) (by kernel_rfl) (by simp) ?_; refine (AllReadyH.cons (o := _) (by simp only [List.getElem?_toArray, List.getElem?_cons_succ, List.getElem?_cons_zero]; rfl) (fun K hK => ?_) (AllReadyH.cons (o := _) (by simp only [List.getElem?_toArray, List.getElem?_cons_succ, List.getElem?_cons_zero]; rfl) (fun K hK => ?_) AllReadyH.nil))
      · go_simp
        go_at_call 228
        refine (HA1.out _ _ g1 s1).mono ?_
        rintro e2 v2 ⟨rfl, x2, s2⟩
        have g2 := g1.trans x2
        have p2 := j1.grown x2 (shf_ne s1 j1)
        refine hK.out _ _ g2 (fun hHeld => ?_)
        clear hK K; refine puH ?_
        clear hHeld
        refine wpAnyH_ready (rs := [7, 8]) (by kernel_rfl) (by simp) ?_; refine (AllReadyH.cons (o := _) (by simp only [List.getElem?_toArray, List.getElem?_cons_succ, List.getElem?_cons_zero]; rfl) (fun K hK => ?_) (AllReadyH.cons (o := _) (by simp only [List.getElem?_toArray, List.getElem?_cons_succ, List.getElem?_cons_zero]; rfl) (fun K hK => ?_) AllReadyH.nil))
        · go_simp
          go_at_call 228
          refine (HA2.out _ _ g2 s2).mono ?_
          rintro e3 v3 ⟨rfl, x3, s3⟩
          have g3 := g2.trans x3
          have p3 := p2.grown x3 (shf_ne s2 p2)
          refine hK.out _ _ g3 (fun hHeld => ?_)
          clear hK K; refine puH ?_
          clear hHeld
          refine nxH 8 (fun K hK => ?_)
          go_simp
          have z4 : w3.heap.size ≤ v3.heap.size := g3.size
          have g4 : w3.grownBy (v3.alloc (.cells #[.int .i64 0, .bool false, .bool false, .int .i64 0, .int .i64 0] 327)) (some bs) := gr_alloc g3 _
          have s4 := s3.alloc (.cells #[.int .i64 0, .bool false, .bool false, .int .i64 0, .int .i64 0] 327)
          have j4 := Bk.new v3 327 #[.int .i64 0, .bool false, .bool false, .int .i64 0, .int .i64 0]
          have ne4 := Ne.symm (Nat.ne_of_lt (def_lt' p3))
          have m4 := p3.alloc (.cells #[.int .i64 0, .bool false, .bool false, .int .i64 0, .int .i64 0] 327)
          refine hK.out _ _ g4 (fun hHeld => ?_)
          clear hK K; refine puH ?_
          clear hHeld
          generalize v3.alloc (.cells #[.int .i64 0, .bool false, .bool false, .int .i64 0, .int .i64 0] 327) = v4 at *
          have f7 := j4.frozen; have f8 := m4.frozen; have l7 := def_lt' j4; have l8 := def_lt' m4
          have c70 := j4.cell 0; have c71 := j4.cell 1; have c72 := j4.cell 2; have c73 := j4.cell 3; have c74 := j4.cell 4
          dsimp at c70 c71 c72 c73 c74
          refine nxH 10 (fun K hK => ?_)
          go_simp
          have gg := set5_gr g4 z4 ax ag ai ar ao
          have y7 := place_set j4 ax ag ai ar ao
          have y8 := set5_far m4 (Ne.symm ne4) ax ag ai ar ao
          have ys := set5_far s4 (fun e => shf_ne s4 j4 (by rw [e])) ax ag ai ar ao
          refine hK.out _ _ gg (fun hHeld => ?_)
          clear hK K; refine puH ?_
          clear hHeld
          dsimp only [set5] at gg y7 y8 ys
          generalize ((((v4.setCell ⟨v3.heap.size, 0, none⟩ (.int .i64 ax)).setCell ⟨v3.heap.size, 1, none⟩ (.bool ag)).setCell ⟨v3.heap.size, 2, none⟩ (.bool ai)).setCell ⟨v3.heap.size, 3, none⟩ (.int .i64 ar)).setCell ⟨v3.heap.size, 4, none⟩ (.int .i64 ao) = v9 at *
          have f9 := y8.frozen; have l9 := def_lt' y8
          have c80 := y8.cell 0; have c81 := y8.cell 1; have c82 := y8.cell 2; have c83 := y8.cell 3; have c84 := y8.cell 4
          dsimp at c80 c81 c82 c83 c84
          refine nxH 11 (fun K hK => ?_)
          go_simp
          have gg2 := set5_gr gg z1 px pg pi pr po
          have u7 := set5_far y7 ne4 px pg pi pr po
          have u8 := place_set y8 px pg pi pr po
          have us := set5_far ys (fun e => shf_ne ys y8 (by rw [e])) px pg pi pr po
          refine hK.out _ _ gg2 (fun hHeld => ?_)
          clear hK K; refine puH ?_
          refine wpAnyH_done (by kernel_rfl) ?_ _
          go_wp2
          go_meet
          exact ⟨_, _, rfl, rfl, gg2, us, u7, u8, z4, z1⟩
        · go_simp
          have z3 : w3.heap.size ≤ v2.heap.size := g2.size
          have g3 : w3.grownBy (v2.alloc (.cells #[.int .i64 0, .bool false, .bool false, .int .i64 0, .int .i64 0] 327)) (some bs) := gr_alloc g2 _
          have s3 := s2.alloc (.cells #[.int .i64 0, .bool false, .bool false, .int .i64 0, .int .i64 0] 327)
          have j3 := Bk.new v2 327 #[.int .i64 0, .bool false, .bool false, .int .i64 0, .int .i64 0]
          have ne3 := Ne.symm (Nat.ne_of_lt (def_lt' p2))
          have m3 := p2.alloc (.cells #[.int .i64 0, .bool false, .bool false, .int .i64 0, .int .i64 0] 327)
          refine hK.out _ _ g3 (fun hHeld => ?_)
          clear hK K; refine puH ?_
          clear hHeld
          generalize v2.alloc (.cells #[.int .i64 0, .bool false, .bool false, .int .i64 0, .int .i64 0] 327) = v3 at *
          refine nxH 7 (fun K hK => ?_)
          go_simp
          go_at_call 228
          refine (HA2.out _ _ g3 s3).mono ?_
          rintro e4 v4 ⟨rfl, x4, s4⟩
          have g4 := g3.trans x4
          have m4 := j3.grown x4 (shf_ne s3 j3)
          have p4 := m3.grown x4 (shf_ne s3 m3)
          refine hK.out _ _ g4 (fun hHeld => ?_)
          clear hK K; refine puH ?_
          clear hHeld
          have f7 := m4.frozen; have f8 := p4.frozen; have l7 := def_lt' m4; have l8 := def_lt' p4
          have c70 := m4.cell 0; have c71 := m4.cell 1; have c72 := m4.cell 2; have c73 := m4.cell 3; have c74 := m4.cell 4
          dsimp at c70 c71 c72 c73 c74
          refine nxH 10 (fun K hK => ?_)
          go_simp
          have gg := set5_gr g4 z3 ax ag ai ar ao
          have y7 := place_set m4 ax ag ai ar ao
          have y8 := set5_far p4 (Ne.symm ne3) ax ag ai ar ao
          have ys := set5_far s4 (fun e => shf_ne s4 m4 (by rw [e])) ax ag ai ar ao
          refine hK.out _ _ gg (fun hHeld => ?_)
          clear hK K; refine puH ?_
          clear hHeld
          dsimp only [set5] at gg y7 y8 ys
          generalize ((((v4.setCell ⟨v2.heap.size, 0, none⟩ (.int .i64 ax)).setCell ⟨v2.heap.size, 1, none⟩ (.bool ag)).setCell ⟨v2.heap.size, 2, none⟩ (.bool ai)).setCell ⟨v2.heap.size, 3, none⟩ (.int .i64 ar)).setCell ⟨v2.heap.size, 4, none⟩ (.int .i64 ao) = v9 at *
          have f9 := y8.frozen; have l9 := def_lt' y8
          have c80 := y8.cell 0; have c81 := y8.cell 1; have c82 := y8.cell 2; have c83 := y8.cell 3; have c84 := y8.cell 4
          dsimp at c80 c81 c82 c83 c84
          refine nxH 11 (fun K hK => ?_)
          go_simp
          have gg2 := set5_gr gg z1 px pg pi pr po
          have u7 := set5_far y7 ne3 px pg pi pr po
          have u8 := place_set y8 px pg pi pr po
          have us := set5_far ys (fun e => shf_ne ys y8 (by rw [e])) px pg pi pr po
          refine hK.out _ _ gg2 (fun hHeld => ?_)
          clear hK K; refine puH ?_
          refine wpAnyH_done (by kernel_rfl) ?_ _
          go_wp2
          go_meet
          exact ⟨_, _, rfl, rfl, gg2, us, u7, u8, z3, z1⟩
      · go_simp
        have z2 : w3.heap.size ≤ v1.heap.size := g1.size
        have g2 : w3.grownBy (v1.alloc (.cells #[.int .i64 0, .bool false, .bool false, .int .i64 0, .int .i64 0] 327)) (some bs) := gr_alloc g1 _
        have s2 := s1.alloc (.cells #[.int .i64 0, .bool false, .bool false, .int .i64 0, .int .i64 0] 327)
        have j2 := Bk.new v1 327 #[.int .i64 0, .bool false, .bool false, .int .i64 0, .int .i64 0]
        have ne2 := Ne.symm (Nat.ne_of_lt (def_lt' j1))
        have m2 := j1.alloc (.cells #[.int .i64 0, .bool false, .bool false, .int .i64 0, .int .i64 0] 327)
        refine hK.out _ _ g2 (fun hHeld => ?_)
        clear hK K; refine puH ?_
        clear hHeld
        generalize v1.alloc (.cells #[.int .i64 0, .bool false, .bool false, .int .i64 0, .int .i64 0] 327) = v2 at *
        refine nxH 3 (fun K hK => ?_)
        go_simp
        go_at_call 228
        refine (HA1.out _ _ g2 s2).mono ?_
        rintro e3 v3 ⟨rfl, x3, s3⟩
        have g3 := g2.trans x3
        have m3 := j2.grown x3 (shf_ne s2 j2)
        have p3 := m2.grown x3 (shf_ne s2 m2)
        refine hK.out _ _ g3 (fun hHeld => ?_)
        clear hK K; refine puH ?_
        clear hHeld
        refine nxH 7 (fun K hK => ?_)
        go_simp
        go_at_call 228
        refine (HA2.out _ _ g3 s3).mono ?_
        rintro e4 v4 ⟨rfl, x4, s4⟩
        have g4 := g3.trans x4
        have m4 := m3.grown x4 (shf_ne s3 m3)
        have p4 := p3.grown x4 (shf_ne s3 p3)
        refine hK.out _ _ g4 (fun hHeld => ?_)
        clear hK K; refine puH ?_
        clear hHeld
        have f7 := m4.frozen; have f8 := p4.frozen; have l7 := def_lt' m4; have l8 := def_lt' p4
        have c70 := m4.cell 0; have c71 := m4.cell 1; have c72 := m4.cell 2; have c73 := m4.cell 3; have c74 := m4.cell 4
        dsimp at c70 c71 c72 c73 c74
        refine nxH 10 (fun K hK => ?_)
        go_simp
        have gg := set5_gr g4 z2 ax ag ai ar ao
        have y7 := place_set m4 ax ag ai ar ao
        have y8 := set5_far p4 (Ne.symm ne2) ax ag ai ar ao
        have ys := set5_far s4 (fun e => shf_ne s4 m4 (by rw [e])) ax ag ai ar ao
        refine hK.out _ _ gg (fun hHeld => ?_)
        clear hK K; refine puH ?_
        clear hHeld
        dsimp only [set5] at gg y7 y8 ys
        generalize ((((v4.setCell ⟨v1.heap.size, 0, none⟩ (.int .i64 ax)).setCell ⟨v1.heap.size, 1, none⟩ (.bool ag)).setCell ⟨v1.heap.size, 2, none⟩ (.bool ai)).setCell ⟨v1.heap.size, 3, none⟩ (.int .i64 ar)).setCell ⟨v1.heap.size, 4, none⟩ (.int .i64 ao) = v9 at *
        have f9 := y8.frozen; have l9 := def_lt' y8
        have c80 := y8.cell 0; have c81 := y8.cell 1; have c82 := y8.cell 2; have c83 := y8.cell 3; have c84 := y8.cell 4
        dsimp at c80 c81 c82 c83 c84
        refine nxH 11 (fun K hK => ?_)
        go_simp
        have gg2 := set5_gr gg z1 px pg pi pr po
        have u7 := set5_far y7 ne2 px pg pi pr po
        have u8 := place_set y8 px pg pi pr po
        have us := set5_far ys (fun e => shf_ne ys y8 (by rw [e])) px pg pi pr po
        refine hK.out _ _ gg2 (fun hHeld => ?_)
        clear hK K; refine puH ?_
        refine wpAnyH_done (by kernel_rfl) ?_ _
        go_wp2
        go_meet
        exact ⟨_, _, rfl, rfl, gg2, us, u7, u8, z2, z1⟩
  case rest =>
    obtain ⟨b7, b8, rfl, rfl, hg4, hs4, k7, k8, hle7, hle8⟩ := hcut
    clear HA1 HA2 h3 hs3'
    have x4 := x3.grown hg4 (fun e => by injection e with e; omega)
    have o4 := o3.grown hg4 (fun e => by injection e with e; omega)
    have hb4 : Below w.heap.size w wc := hb3.trans (gr_below hg4 hb3.size (fun _ e => by injection e with e; omega))
    obtain ⟨p0, p1, p2, p3, p4, p5, p6, p7, p8, p9⟩ := bk10 x4
    have hz4 := hb4.size
    have x5 := x4.alloc (.cells (stp x.k x.f x.t x.g x.h x.i x.m x.v A n c A' n' c') 45)
    have o5 := o4.alloc (.cells (stp x.k x.f x.t x.g x.h x.i x.m x.v A n c A' n' c') 45)
    have s5 := hs4.alloc (.cells (stp x.k x.f x.t x.g x.h x.i x.m x.v A n c A' n' c') 45)
    have j7 := k7.alloc (.cells (stp x.k x.f x.t x.g x.h x.i x.m x.v A n c A' n' c') 45)
    have j8 := k8.alloc (.cells (stp x.k x.f x.t x.g x.h x.i x.m x.v A n c A' n' c') 45)
    have q5 := Bk.new wc 45 (stp x.k x.f x.t x.g x.h x.i x.m x.v A n c A' n' c')
    have hb5 : Below w.heap.size w (wc.alloc (.cells (stp x.k x.f x.t x.g x.h x.i x.m x.v A n c A' n' c') 45)) := hb4.alloc hz4 _
    go_upto_region 6 with fail
    have hbo : w3.heap.size ≤ wc.heap.size := hg4.size
    clear x3 o3 hb3 hs3 hg4 x4 o4 hb4 hs4 k7 k8 p0 p1 p2 p3 p4 p5 p6 p7 p8 p9
    dsimp only [stp] at x5 o5 s5 j7 j8 q5 hb5
    generalize wc.alloc (.cells #[.int .i64 x.k, .int .i64 x.f, .int .i64 x.t, .int .i64 x.g, .int .i64 x.h, .int .i64 x.i, .int .i64 x.m, .int .i64 x.v, .slice A n c, .slice A' n' c'] 45) = w5 at *
    obtain ⟨bo, hboe⟩ : ∃ bo, bo = wc.heap.size := ⟨_, rfl⟩
    rw [← hboe] at q5 hbo ⊢
    clear hboe hz4
    have hzo := def_lt' q5
    have hz5 := hb5.size
    have hF : ∀ w', Bk w' w.heap.size 45 (stp x.k x.f x.t x.g x.h x.i x.m x.v A n c A' n' c') → w'.cell? ⟨w.heap.size, 8, none⟩ = some (.slice A n c) ∧ w'.cell? ⟨w.heap.size, 9, none⟩ = some (.slice A' n' c') := fun w' h => ⟨h.cell 8, h.cell 9⟩
    have HF := Lib.hid hF
    clear hF
    refine wp_normal ?_
    refine wp_region_held_drew (S := fun w' => Bk w' w.heap.size 45 (stp x.k x.f x.t x.g x.h x.i x.m x.v A n c A' n' c')) (by kernel_rfl) x5.drew (fun hHeld => ?_)
    (refine tkH 0 ?_; refine tkH 1 ?_; refine tkH 3 ?_; refine tkH 4 ?_)
    refine nxH 2 (fun K hK => ?_)
    go_simp
    go_at_call 172
    refine (HC1.out _ hb5.drew).mono ?_
    rintro e w6 ⟨A2, c2, rfl, r1, a1, n1, b1, b1'⟩
    have b1'' : Below w5.heap.size w5 w6 := Below.trans (Below.refl _ _).drew b1'
    have hz56 : w5.heap.size ≤ w6.heap.size := b1''.size
    have n1' : ∀ a, A2 = some a → w5.heap.size ≤ a.block := n1
    refine hK.out _ _ (x5.ext b1'') (fun hHeld => ?_)
    clear hK K; refine puH ?_
    refine nxH 5 (fun K hK => ?_)
    go_simp
    go_at_call 173
    refine (HC2.out _ b1).mono ?_
    rintro e w7 ⟨A2', c2', rfl, r2, a2, n2, b2, b2'⟩
    have b57 : Below w5.heap.size w5 w7 := b1''.trans (b2'.mono hz56)
    have r1' := (r1.below b2').more b2'.size
    have n2' : ∀ a, A2' = some a → w5.heap.size ≤ a.block := fun a e => Nat.le_trans hz56 (n2 a e)
    have hz57 := b57.size
    have x7 := x5.ext b57; have o7 := o5.ext b57; have s7 := s5.ext b57; have m7 := j7.ext b57; have m8 := j8.ext b57; have q7 := q5.ext b57
    clear x5 o5 s5 j7 j8 q5 n1 n2 b1 b1' b1'' b2' r1 hHeld
    have fq := q7.frozen
    have lq := def_lt' q7
    have p8 := q7.cell 8; have p9 := q7.cell 9
    dsimp [stp] at p8 p9
    have hxo : w.heap.size ≠ bo := by omega
    refine hK.out _ _ x7 (fun hHeld => ?_)
    clear hK K; refine puH ?_
    (refine tkH 6 ?_)
    refine nxH 7 (fun K hK => ?_)
    go_simp
    refine hK.out _ _ (x7.far (p := ⟨bo, 8, none⟩) hxo _) (fun hHeld => ?_)
    clear hK K; refine puH ?_
    (refine tkH 8 ?_)
    refine nxH 9 (fun K hK => ?_)
    go_simp
    refine hK.out _ _ ((x7.far (p := ⟨bo, 8, none⟩) hxo _).far (p := ⟨bo, 9, none⟩) hxo _) (fun hHeld => ?_)
    clear hK K; refine puH ?_
    refine wpAnyH_done (by kernel_rfl) ?_ _
    have hso : bs ≠ bo := by omega
    have h7o : b7 ≠ bo := bk_ne m7 q7 (by decide)
    have h8o : b8 ≠ bo := bk_ne m8 q7 (by decide)
    have x8 := (x7.far (p := ⟨bo, 8, none⟩) hxo (.slice A2 n c2)).far (p := ⟨bo, 9, none⟩) hxo (.slice A2' n' c2')
    have o8 := (o7.far (p := ⟨bo, 8, none⟩) (by simp; omega) (.slice A2 n c2)).far (p := ⟨bo, 9, none⟩) (by simp; omega) (.slice A2' n' c2')
    have s8 := (s7.far (p := ⟨bo, 8, none⟩) hso (.slice A2 n c2)).far (p := ⟨bo, 9, none⟩) hso (.slice A2' n' c2')
    have j7 := (m7.far (p := ⟨bo, 8, none⟩) h7o (.slice A2 n c2)).far (p := ⟨bo, 9, none⟩) h7o (.slice A2' n' c2')
    have j8 := (m8.far (p := ⟨bo, 8, none⟩) h8o (.slice A2 n c2)).far (p := ⟨bo, 9, none⟩) h8o (.slice A2' n' c2')
    have q8a : Bk (w7.setCell ⟨bo, 8, none⟩ (.slice A2 n c2)) bo 45 (stp x.k x.f x.t x.g x.h x.i x.m x.v A2 n c2 A' n' c') := q7.set_ 8 _
    have q8 : Bk ((w7.setCell ⟨bo, 8, none⟩ (.slice A2 n c2)).setCell ⟨bo, 9, none⟩ (.slice A2' n' c2')) bo 45 (stp x.k x.f x.t x.g x.h x.i x.m x.v A2 n c2 A2' n' c2') := q8a.set_ 9 _
    have hne : ∀ a : Addr, w5.heap.size ≤ a.block → ((w7.setCell ⟨bo, 8, none⟩ (.slice A2 n c2)).setCell ⟨bo, 9, none⟩ (.slice A2' n' c2')).heap[a.block]? = w7.heap[a.block]? := by
      intro a ha
      rw [far_heap (p := ⟨bo, 9, none⟩) (by simp; omega), far_heap (p := ⟨bo, 8, none⟩) (by simp; omega)]
    have hb8 : Below w.heap.size w ((w7.setCell ⟨bo, 8, none⟩ (.slice A2 n c2)).setCell ⟨bo, 9, none⟩ (.slice A2' n' c2')) := by
      have hbo2 : w.heap.size ≤ bo := by omega
      exact (b2.setCell (p := ⟨bo, 8, none⟩) hbo2 _).setCell (p := ⟨bo, 9, none⟩) hbo2 _
    have t1 := (r1'.blk (fun a e => hne a (n1' a e))).more (B' := ((w7.setCell ⟨bo, 8, none⟩ (.slice A2 n c2)).setCell ⟨bo, 9, none⟩ (.slice A2' n' c2')).heap.size) (by simp)
    have t2 := (r2.blk (fun a e => hne a (n2' a e))).more (B' := ((w7.setCell ⟨bo, 8, none⟩ (.slice A2 n c2)).setCell ⟨bo, 9, none⟩ (.slice A2' n' c2')).heap.size) (by simp)
    have hsz8 : w5.heap.size ≤ ((w7.setCell ⟨bo, 8, none⟩ (.slice A2 n c2)).setCell ⟨bo, 9, none⟩ (.slice A2' n' c2')).heap.size := by simpa using hz57
    clear x7 o7 s7 m7 m8 q7 q8a hne r1' r2 b57 hHeld fq lq p8 p9 b2 HF hb5 hz56 hz57 HC1 HC2
    go_upto_region 7 with fail
    generalize (w7.setCell ⟨bo, 8, none⟩ (.slice A2 n c2)).setCell ⟨bo, 9, none⟩ (.slice A2' n' c2') = w8 at *
    have hF : ∀ w', (Bk w' b7 327 #[.int .i64 ax, .bool ag, .bool ai, .int .i64 ar, .int .i64 ao] ∧ Bk w' b8 327 #[.int .i64 px, .bool pg, .bool pi, .int .i64 pr, .int .i64 po]) → w'.cell? ⟨b7, 0, none⟩ = some (.int .i64 ax) ∧ w'.cell? ⟨b8, 0, none⟩ = some (.int .i64 px) := fun w' h => ⟨h.1.cell 0, h.2.cell 0⟩
    have HF := Lib.hid hF
    have fq := q8.frozen
    have lq := def_lt' q8
    have p1 := q8.cell 1; have p2 := q8.cell 2
    dsimp [stp] at p1 p2
    clear hF
    refine wp_normal ?_
    refine wp_region_held_drew (S := fun w' => (Bk w' b7 327 #[.int .i64 ax, .bool ag, .bool ai, .int .i64 ar, .int .i64 ao] ∧ Bk w' b8 327 #[.int .i64 px, .bool pg, .bool pi, .int .i64 pr, .int .i64 po])) (by kernel_rfl) ⟨j7.drew, j8.drew⟩ (fun hHeld => ?_)
    (refine tkH 0 ?_; refine tkH 1 ?_; refine tkH 2 ?_; refine tkH 3 ?_; refine tkH 4 ?_; refine tkH 5 ?_; refine tkH 6 ?_; refine tkH 7 ?_)
    refine nxH 8 (fun K hK => ?_)
    go_simp
    refine hK.out _ _ ⟨j7.far (p := ⟨bo, 1, none⟩) h7o _, j8.far (p := ⟨bo, 1, none⟩) h8o _⟩ (fun hHeld => ?_)
    clear hK K; refine puH ?_
    (refine tkH 9 ?_)
    refine nxH 10 (fun K hK => ?_)
    go_simp
    refine hK.out _ _ ⟨(j7.far (p := ⟨bo, 1, none⟩) h7o _).far (p := ⟨bo, 2, none⟩) h7o _, (j8.far (p := ⟨bo, 1, none⟩) h8o _).far (p := ⟨bo, 2, none⟩) h8o _⟩ (fun hHeld => ?_)
    clear hK K; refine puH ?_
    refine wpAnyH_done (by kernel_rfl) ?_ _
    have hM : max ax px = if ax < px then px else ax := by
      rw [Int.max_def]
      split <;> split <;> omega
    have hval := HV.out
    rw [hM] at hval
    obtain ⟨M, hMM⟩ : ∃ M, M = if ax < px then px else ax := ⟨_, rfl⟩
    rw [← hMM] at hval ⊢
    clear hM hMM
    have x9 := ((x8.far (p := ⟨bo, 1, none⟩) hxo (.int .i64 ax)).far (p := ⟨bo, 2, none⟩) hxo (.int .i64 M)).drew
    have o9 := ((o8.far (p := ⟨bo, 1, none⟩) (by simp; omega) (.int .i64 ax)).far (p := ⟨bo, 2, none⟩) (by simp; omega) (.int .i64 M)).drew
    have s9 := ((s8.far (p := ⟨bo, 1, none⟩) hso (.int .i64 ax)).far (p := ⟨bo, 2, none⟩) hso (.int .i64 M)).drew
    have m7 := ((j7.far (p := ⟨bo, 1, none⟩) h7o (.int .i64 ax)).far (p := ⟨bo, 2, none⟩) h7o (.int .i64 M)).drew
    have m8 := ((j8.far (p := ⟨bo, 1, none⟩) h8o (.int .i64 ax)).far (p := ⟨bo, 2, none⟩) h8o (.int .i64 M)).drew
    have q9a : Bk (w8.setCell ⟨bo, 1, none⟩ (.int .i64 ax)) bo 45 (stp x.k ax x.t x.g x.h x.i x.m x.v A2 n c2 A2' n' c2') := q8.set_ 1 _
    have q9b : Bk ((w8.setCell ⟨bo, 1, none⟩ (.int .i64 ax)).setCell ⟨bo, 2, none⟩ (.int .i64 M)) bo 45 (stp x.k ax M x.g x.h x.i x.m x.v A2 n c2 A2' n' c2') := q9a.set_ 2 _
    have q9 := q9b.drew
    have hne : ∀ a : Addr, w5.heap.size ≤ a.block → ((w8.setCell ⟨bo, 1, none⟩ (.int .i64 ax)).setCell ⟨bo, 2, none⟩ (.int .i64 M)).drew.heap[a.block]? = w8.heap[a.block]? := by
      intro a ha
      show ((w8.setCell ⟨bo, 1, none⟩ (.int .i64 ax)).setCell ⟨bo, 2, none⟩ (.int .i64 M)).heap[a.block]? = w8.heap[a.block]?
      rw [far_heap (p := ⟨bo, 2, none⟩) (by simp; omega), far_heap (p := ⟨bo, 1, none⟩) (by simp; omega)]
    have hbo2 : w.heap.size ≤ bo := by omega
    have hb9 : Below w.heap.size w ((w8.setCell ⟨bo, 1, none⟩ (.int .i64 ax)).setCell ⟨bo, 2, none⟩ (.int .i64 M)).drew := ((hb8.setCell (p := ⟨bo, 1, none⟩) hbo2 _).setCell (p := ⟨bo, 2, none⟩) hbo2 _).drew
    have u1 := (t1.blk (fun a e => hne a (n1' a e))).more (B' := ((w8.setCell ⟨bo, 1, none⟩ (.int .i64 ax)).setCell ⟨bo, 2, none⟩ (.int .i64 M)).drew.heap.size) (by simp)
    have u2 := (t2.blk (fun a e => hne a (n2' a e))).more (B' := ((w8.setCell ⟨bo, 1, none⟩ (.int .i64 ax)).setCell ⟨bo, 2, none⟩ (.int .i64 M)).drew.heap.size) (by simp)
    have hsz9 : w5.heap.size ≤ ((w8.setCell ⟨bo, 1, none⟩ (.int .i64 ax)).setCell ⟨bo, 2, none⟩ (.int .i64 M)).drew.heap.size := by simpa using hsz8
    have HVAL := Lib.hid hval
    clear x8 o8 s8 j7 j8 q8 q9a q9b hne t1 t2 hb8 hsz8 hHeld fq lq p1 p2 HF hval HV
    go_upto_region 8 with fail
    generalize ((w8.setCell ⟨bo, 1, none⟩ (.int .i64 ax)).setCell ⟨bo, 2, none⟩ (.int .i64 M)).drew = w9 at *
    have c70 := m7.cell 2; have c80 := m8.cell 2; have c81 := m8.cell 0
    have s90 := s9.cell 1
    have lo9 := def_lt' o9; have fo9 := o9.frozen
    have r0 := o9.cell 0; have r1 := o9.cell 1; have r2 := o9.cell 2; have r3 := o9.cell 3; have r4 := o9.cell 4; have r5 := o9.cell 5; have r6 := o9.cell 6; have r7 := o9.cell 7; have r8 := o9.cell 8; have r9 := o9.cell 9
    dsimp [stp] at c70 c80 c81 s90 r0 r1 r2 r3 r4 r5 r6 r7 r8 r9
    by_cases he : ae = 0 ∧ pe = 0
    rotate_left
    · have hb2 : ((false || decide (ae ≠ 0)) || decide (pe ≠ 0)) = true := by
        by_cases h1 : ae = 0
        · have h2 : ¬ pe = 0 := fun h => he ⟨h1, h⟩
          simp [h2]
        · simp [h1]
      rw [hb2] at s90
      have hno := HVAL.out
      rw [if_neg (fun h => he ⟨h.1, h.2.1⟩)] at hno
      have HNO := Lib.hid hno
      clear hno HVAL he hb2 s9
      go_wp2
      have y := stp_set o9 0 0 0 0 0 0 0 0 none 0 0 none 0 0
      obtain ⟨v0, v1, v2, v3, v4, v5, v6, v7, v8, v9⟩ := bk10 y
      have hbl := hb9
      refine bodyPost_ret (v := .tuple #[.agg (stp 0 0 0 0 0 0 0 0 none 0 0 none 0 0), .bool false]) (by simp [results, Tryz.results213, go_sem, v0, v1, v2, v3, v4, v5, v6, v7, v8, v9]) rfl (bys_none HNO.out ?_)
      exact belowA
    · obtain ⟨rfl, rfl⟩ := he
      have hb2 : ((false || decide ((0 : Int) ≠ 0)) || decide ((0 : Int) ≠ 0)) = false := by simp
      rw [hb2] at s90 s9
      cases hin2 : (ai && pi) with
      | true =>
        obtain ⟨rfl, rfl⟩ : ai = true ∧ pi = true := by simpa using hin2
        have hno := HVAL.out
        rw [if_neg (by simp)] at hno
        have HNO := Lib.hid hno
        clear hno HVAL hb2 s9
        go_wp2
        have y := stp_set o9 0 0 0 0 0 0 0 0 none 0 0 none 0 0
        obtain ⟨v0, v1, v2, v3, v4, v5, v6, v7, v8, v9⟩ := bk10 y
        have hbl := hb9
        refine bodyPost_ret (v := .tuple #[.agg (stp 0 0 0 0 0 0 0 0 none 0 0 none 0 0), .bool false]) (by simp [results, Tryz.results213, go_sem, v0, v1, v2, v3, v4, v5, v6, v7, v8, v9]) rfl (bys_none HNO.out ?_)
        exact belowA
      | false =>
        have hval := HVAL.out
        rw [if_pos ⟨rfl, rfl, hin2⟩] at hval
        have hki := kind_any T bl B bs w.heap.size bo x ax M px A n c A' n' c' A2 n c2 A2' n' c2' w9 (HT.out.ext (hb9.mono HT.out.1)) (by have := HT.out.1; omega) (by have := HT.out.1; omega) s9 (by omega) hso (by omega) x9 q9 HSP.out hb1.1 hb1.2
        have HKI := Lib.hid hki
        have HVAL2 := Lib.hid hval
        clear hki hval HVAL hb2 HAT HX HY HSP
        have hbr : w.heap.size + 1 ≠ bo := by omega
        have hbrs : w.heap.size + 1 ≠ bs := by omega
        cases ai with
        | false =>
          go_wp2_with (go_at_call 229; fail)
          refine HKI.out.mono ?_
          rintro en w10 ⟨rb, b3, t2, g2, h2, rfl, hG, hs10, hq10, hkv⟩
          have o10 := hG.bk o9 hbrs hbr
          have hb10 : Below w.heap.size w w10 := hb9.trans (hG.below hb9.size (by omega) hbo2)
          have hne : ∀ a : Addr, w5.heap.size ≤ a.block → a.block < w9.heap.size → w10.heap[a.block]? = w9.heap[a.block]? := fun a h1 h2 => hG.heap h2 (by omega) (by omega)
          have z1 := (u1.blk2 (Nat.le_refl _) (fun a e h => hne a (n1' a e) h)).more hG.size
          have z2 := (u2.blk2 (Nat.le_refl _) (fun a e h => hne a (n2' a e) h)).more hG.size
          have hz10 := hG.size
          have hval := HVAL2.out
          rw [hkv] at hval
          have s100 := hs10.cell 1
          have fo10 := o10.frozen; have lo10 := def_lt' o10
          have r0 := o10.cell 0; have r1 := o10.cell 1; have r2 := o10.cell 2; have r3 := o10.cell 3; have r4 := o10.cell 4; have r5 := o10.cell 5; have r6 := o10.cell 6; have r7 := o10.cell 7; have r8 := o10.cell 8; have r9 := o10.cell 9
          have q0 := hq10.cell 0; have q1 := hq10.cell 1; have q2 := hq10.cell 2; have q3 := hq10.cell 3; have q4 := hq10.cell 4; have q5 := hq10.cell 5; have q6 := hq10.cell 6; have q7 := hq10.cell 7; have q8 := hq10.cell 8; have q9c := hq10.cell 9
          dsimp [stp] at s100 r0 r1 r2 r3 r4 r5 r6 r7 r8 r9 q0 q1 q2 q3 q4 q5 q6 q7 q8 q9c
          clear hkv HVAL2 HKI hne u1 u2 hG x9 m7 m8 c70 c80 c81 s90 lo9 fo9 hs10
          cases rb with
          | false =>
            rw [if_neg (by simp)] at hval
            have HNO := Lib.hid (show shiftB T x = none by rw [hval]; rfl)
            clear hval
            go_wp2
            have y := stp_set o10 0 0 0 0 0 0 0 0 none 0 0 none 0 0
            obtain ⟨v0, v1, v2, v3, v4, v5, v6, v7, v8, v9⟩ := bk10 y
            have hbl := hb10
            refine bodyPost_ret (v := .tuple #[.agg (stp 0 0 0 0 0 0 0 0 none 0 0 none 0 0), .bool false]) (by simp [results, Tryz.results213, go_sem, v0, v1, v2, v3, v4, v5, v6, v7, v8, v9]) rfl (bys_none HNO.out ?_)
            exact belowA
          | true =>
            cases b3 with
            | true =>
              rw [if_neg (by simp)] at hval
              have HNO := Lib.hid (show shiftB T x = none by rw [hval]; rfl)
              clear hval
              go_wp2
              have y := stp_set o10 0 0 0 0 0 0 0 0 none 0 0 none 0 0
              obtain ⟨v0, v1, v2, v3, v4, v5, v6, v7, v8, v9⟩ := bk10 y
              have hbl := hb10
              refine bodyPost_ret (v := .tuple #[.agg (stp 0 0 0 0 0 0 0 0 none 0 0 none 0 0), .bool false]) (by simp [results, Tryz.results213, go_sem, v0, v1, v2, v3, v4, v5, v6, v7, v8, v9]) rfl (bys_none HNO.out ?_)
              exact belowA
            | false =>
              rw [if_pos (by simp)] at hval
              have hsh2 := shape_any x.k ax t2 g2 h2 x.i x.m x.v A2 A2' n n' c2 c2' w10 x.sl x.st (by unfold maxLen; omega) (by unfold maxLen; omega) z1 z2
              have hzs : StC.sh ⟨x.k, ax, t2, g2, h2, x.i, x.m, x.v, x.sl, x.st⟩ = shB x.k ax t2 g2 h2 x.i x.m x.v n n' := by
                have e1 : x.sl.length = n := hin.len
                have e2 : x.st.length = n' := hin.len'
                simp only [StC.sh, e1, e2]
              rw [Option.filter_some, hzs] at hval
              cases hsb : shB x.k ax t2 g2 h2 x.i x.m x.v n n' with
              | false =>
                rw [hsb] at hsh2 hval
                have HS2 := Lib.hid hsh2
                have HNO := Lib.hid (show shiftB T x = none by rw [hval]; simp)
                clear hval hsh2 hzs
                go_wp2_with (go_at_call 57; (refine HS2.out.mono ?_); rintro e3 w11 ⟨rfl, hb11⟩; have o11 := o10.ext hb11; have fo11 := o11.frozen; have lo11 := def_lt' o11; obtain ⟨r0, r1, r2, r3, r4, r5, r6, r7, r8, r9⟩ := bk10 o11)
                have y := stp_set o11 0 0 0 0 0 0 0 0 none 0 0 none 0 0
                obtain ⟨v0, v1, v2, v3, v4, v5, v6, v7, v8, v9⟩ := bk10 y
                have hbl := (hb10.trans (hb11.mono hb10.size))
                refine bodyPost_ret (v := .tuple #[.agg (stp 0 0 0 0 0 0 0 0 none 0 0 none 0 0), .bool false]) (by simp [results, Tryz.results213, go_sem, v0, v1, v2, v3, v4, v5, v6, v7, v8, v9]) rfl (bys_none HNO.out ?_)
                exact belowA
              | true =>
                rw [hsb] at hsh2 hval
                have HS2 := Lib.hid hsh2
                have HSM := Lib.hid (show shiftB T x = some ⟨x.k, ax, t2, g2, h2, x.i, x.m, x.v, x.sl, x.st⟩ by rw [hval]; simp)
                clear hval hsh2 hzs
                go_wp2_with (go_at_call 57; (refine HS2.out.mono ?_); rintro e3 w11 ⟨rfl, hb11⟩; have o11 := o10.ext hb11; have p11 := hq10.ext hb11; have fo11 := o11.frozen; have lo11 := def_lt' o11; have r0 := o11.cell 0; have r1 := o11.cell 1; have r2 := o11.cell 2; have r3 := o11.cell 3; have r4 := o11.cell 4; have r5 := o11.cell 5; have r6 := o11.cell 6; have r7 := o11.cell 7; have r8 := o11.cell 8; have r9 := o11.cell 9; have q0 := p11.cell 0; have q1 := p11.cell 1; have q2 := p11.cell 2; have q3 := p11.cell 3; have q4 := p11.cell 4; have q5 := p11.cell 5; have q6 := p11.cell 6; have q7 := p11.cell 7; have q8 := p11.cell 8; have q9 := p11.cell 9; dsimp [stp] at r0 r1 r2 r3 r4 r5 r6 r7 r8 r9 q0 q1 q2 q3 q4 q5 q6 q7 q8 q9)
                have y := stp_set o11 x.k ax t2 g2 h2 x.i x.m x.v A2 n c2 A2' n' c2'
                obtain ⟨v0, v1, v2, v3, v4, v5, v6, v7, v8, v9⟩ := bk10 y
                have hz11 := hb11.size
                have ra := ((z1.below hb11).more hz11).blk (w' := set10 w11 (w.heap.size + 1) x.k ax t2 g2 h2 x.i x.m x.v A2 n c2 A2' n' c2') (fun a e => set10_heap (by have := n1' a e; omega) _ _ _ _ _ _ _ _ _ _ _ _ _ _)
                have rb := ((z2.below hb11).more hz11).blk (w' := set10 w11 (w.heap.size + 1) x.k ax t2 g2 h2 x.i x.m x.v A2 n c2 A2' n' c2') (fun a e => set10_heap (by have := n2' a e; omega) _ _ _ _ _ _ _ _ _ _ _ _ _ _)
                have ra := ra.more (B' := (set10 w11 (w.heap.size + 1) x.k ax t2 g2 h2 x.i x.m x.v A2 n c2 A2' n' c2').heap.size) (by rw [set10_size]; exact Nat.le_refl _)
                have rb := rb.more (B' := (set10 w11 (w.heap.size + 1) x.k ax t2 g2 h2 x.i x.m x.v A2 n c2 A2' n' c2').heap.size) (by rw [set10_size]; exact Nat.le_refl _)
                have hbl := (hb10.trans (hb11.mono hb10.size))
                have hbe : Below w.heap.size w (set10 w11 (w.heap.size + 1) x.k ax t2 g2 h2 x.i x.m x.v A2 n c2 A2' n' c2') := belowA
                refine bodyPost_ret (v := .tuple #[.agg (stp x.k ax t2 g2 h2 x.i x.m x.v A2 n c2 A2' n' c2'), .bool true]) (by simp [results, Tryz.results213, go_sem, v0, v1, v2, v3, v4, v5, v6, v7, v8, v9]) rfl ⟨hbe, ?_⟩
                rw [HSM.out]
                exact ⟨A2, n, c2, A2', n', c2', rfl, ⟨ra, rb, hn1, hn2, a1, a2⟩, fun a e => Nat.le_trans hz5 (n1' a e), fun a e => Nat.le_trans hz5 (n2' a e)⟩
        | true =>
          obtain rfl : pi = false := by simpa using hin2
          go_wp2_with (go_at_call 229; fail)
          refine HKI.out.mono ?_
          rintro en w10 ⟨rb, b3, t2, g2, h2, rfl, hG, hs10, hq10, hkv⟩
          have o10 := hG.bk o9 hbrs hbr
          have hb10 : Below w.heap.size w w10 := hb9.trans (hG.below hb9.size (by omega) hbo2)
          have hne : ∀ a : Addr, w5.heap.size ≤ a.block → a.block < w9.heap.size → w10.heap[a.block]? = w9.heap[a.block]? := fun a h1 h2 => hG.heap h2 (by omega) (by omega)
          have z1 := (u1.blk2 (Nat.le_refl _) (fun a e h => hne a (n1' a e) h)).more hG.size
          have z2 := (u2.blk2 (Nat.le_refl _) (fun a e h => hne a (n2' a e) h)).more hG.size
          have hz10 := hG.size
          have hval := HVAL2.out
          rw [hkv] at hval
          have s100 := hs10.cell 1
          have fo10 := o10.frozen; have lo10 := def_lt' o10
          have r0 := o10.cell 0; have r1 := o10.cell 1; have r2 := o10.cell 2; have r3 := o10.cell 3; have r4 := o10.cell 4; have r5 := o10.cell 5; have r6 := o10.cell 6; have r7 := o10.cell 7; have r8 := o10.cell 8; have r9 := o10.cell 9
          have q0 := hq10.cell 0; have q1 := hq10.cell 1; have q2 := hq10.cell 2; have q3 := hq10.cell 3; have q4 := hq10.cell 4; have q5 := hq10.cell 5; have q6 := hq10.cell 6; have q7 := hq10.cell 7; have q8 := hq10.cell 8; have q9c := hq10.cell 9
          dsimp [stp] at s100 r0 r1 r2 r3 r4 r5 r6 r7 r8 r9 q0 q1 q2 q3 q4 q5 q6 q7 q8 q9c
          clear hkv HVAL2 HKI hne u1 u2 hG x9 m7 m8 c70 c80 c81 s90 lo9 fo9 hs10
          cases rb with
          | false =>
            rw [if_neg (by simp)] at hval
            have HNO := Lib.hid (show shiftB T x = none by rw [hval]; rfl)
            clear hval
            go_wp2
            have y := stp_set o10 0 0 0 0 0 0 0 0 none 0 0 none 0 0
            obtain ⟨v0, v1, v2, v3, v4, v5, v6, v7, v8, v9⟩ := bk10 y
            have hbl := hb10
            refine bodyPost_ret (v := .tuple #[.agg (stp 0 0 0 0 0 0 0 0 none 0 0 none 0 0), .bool false]) (by simp [results, Tryz.results213, go_sem, v0, v1, v2, v3, v4, v5, v6, v7, v8, v9]) rfl (bys_none HNO.out ?_)
            exact belowA
          | true =>
            cases b3 with
            | true =>
              rw [if_neg (by simp)] at hval
              have HNO := Lib.hid (show shiftB T x = none by rw [hval]; rfl)
              clear hval
              go_wp2
              have y := stp_set o10 0 0 0 0 0 0 0 0 none 0 0 none 0 0
              obtain ⟨v0, v1, v2, v3, v4, v5, v6, v7, v8, v9⟩ := bk10 y
              have hbl := hb10
              refine bodyPost_ret (v := .tuple #[.agg (stp 0 0 0 0 0 0 0 0 none 0 0 none 0 0), .bool false]) (by simp [results, Tryz.results213, go_sem, v0, v1, v2, v3, v4, v5, v6, v7, v8, v9]) rfl (bys_none HNO.out ?_)
              exact belowA
            | false =>
              rw [if_pos (by simp)] at hval
              have hsh2 := shape_any x.k ax t2 g2 h2 x.i x.m x.v A2 A2' n n' c2 c2' w10 x.sl x.st (by unfold maxLen; omega) (by unfold maxLen; omega) z1 z2
              have hzs : StC.sh ⟨x.k, ax, t2, g2, h2, x.i, x.m, x.v, x.sl, x.st⟩ = shB x.k ax t2 g2 h2 x.i x.m x.v n n' := by
                have e1 : x.sl.length = n := hin.len
                have e2 : x.st.length = n' := hin.len'
                simp only [StC.sh, e1, e2]
              rw [Option.filter_some, hzs] at hval
              cases hsb : shB x.k ax t2 g2 h2 x.i x.m x.v n n' with
              | false =>
                rw [hsb] at hsh2 hval
                have HS2 := Lib.hid hsh2
                have HNO := Lib.hid (show shiftB T x = none by rw [hval]; simp)
                clear hval hsh2 hzs
                go_wp2_with (go_at_call 57; (refine HS2.out.mono ?_); rintro e3 w11 ⟨rfl, hb11⟩; have o11 := o10.ext hb11; have fo11 := o11.frozen; have lo11 := def_lt' o11; obtain ⟨r0, r1, r2, r3, r4, r5, r6, r7, r8, r9⟩ := bk10 o11)
                have y := stp_set o11 0 0 0 0 0 0 0 0 none 0 0 none 0 0
                obtain ⟨v0, v1, v2, v3, v4, v5, v6, v7, v8, v9⟩ := bk10 y
                have hbl := (hb10.trans (hb11.mono hb10.size))
                refine bodyPost_ret (v := .tuple #[.agg (stp 0 0 0 0 0 0 0 0 none 0 0 none 0 0), .bool false]) (by simp [results, Tryz.results213, go_sem, v0, v1, v2, v3, v4, v5, v6, v7, v8, v9]) rfl (bys_none HNO.out ?_)
                exact belowA
              | true =>
                rw [hsb] at hsh2 hval
                have HS2 := Lib.hid hsh2
                have HSM := Lib.hid (show shiftB T x = some ⟨x.k, ax, t2, g2, h2, x.i, x.m, x.v, x.sl, x.st⟩ by rw [hval]; simp)
                clear hval hsh2 hzs
                go_wp2_with (go_at_call 57; (refine HS2.out.mono ?_); rintro e3 w11 ⟨rfl, hb11⟩; have o11 := o10.ext hb11; have p11 := hq10.ext hb11; have fo11 := o11.frozen; have lo11 := def_lt' o11; have r0 := o11.cell 0; have r1 := o11.cell 1; have r2 := o11.cell 2; have r3 := o11.cell 3; have r4 := o11.cell 4; have r5 := o11.cell 5; have r6 := o11.cell 6; have r7 := o11.cell 7; have r8 := o11.cell 8; have r9 := o11.cell 9; have q0 := p11.cell 0; have q1 := p11.cell 1; have q2 := p11.cell 2; have q3 := p11.cell 3; have q4 := p11.cell 4; have q5 := p11.cell 5; have q6 := p11.cell 6; have q7 := p11.cell 7; have q8 := p11.cell 8; have q9 := p11.cell 9; dsimp [stp] at r0 r1 r2 r3 r4 r5 r6 r7 r8 r9 q0 q1 q2 q3 q4 q5 q6 q7 q8 q9)
                have y := stp_set o11 x.k ax t2 g2 h2 x.i x.m x.v A2 n c2 A2' n' c2'
                obtain ⟨v0, v1, v2, v3, v4, v5, v6, v7, v8, v9⟩ := bk10 y
                have hz11 := hb11.size
                have ra := ((z1.below hb11).more hz11).blk (w' := set10 w11 (w.heap.size + 1) x.k ax t2 g2 h2 x.i x.m x.v A2 n c2 A2' n' c2') (fun a e => set10_heap (by have := n1' a e; omega) _ _ _ _ _ _ _ _ _ _ _ _ _ _)
                have rb := ((z2.below hb11).more hz11).blk (w' := set10 w11 (w.heap.size + 1) x.k ax t2 g2 h2 x.i x.m x.v A2 n c2 A2' n' c2') (fun a e => set10_heap (by have := n2' a e; omega) _ _ _ _ _ _ _ _ _ _ _ _ _ _)
                have ra := ra.more (B' := (set10 w11 (w.heap.size + 1) x.k ax t2 g2 h2 x.i x.m x.v A2 n c2 A2' n' c2').heap.size) (by rw [set10_size]; exact Nat.le_refl _)
                have rb := rb.more (B' := (set10 w11 (w.heap.size + 1) x.k ax t2 g2 h2 x.i x.m x.v A2 n c2 A2' n' c2').heap.size) (by rw [set10_size]; exact Nat.le_refl _)
                have hbl := (hb10.trans (hb11.mono hb10.size))
                have hbe : Below w.heap.size w (set10 w11 (w.heap.size + 1) x.k ax t2 g2 h2 x.i x.m x.v A2 n c2 A2' n' c2') := belowA
                refine bodyPost_ret (v := .tuple #[.agg (stp x.k ax t2 g2 h2 x.i x.m x.v A2 n c2 A2' n' c2'), .bool true]) (by simp [results, Tryz.results213, go_sem, v0, v1, v2, v3, v4, v5, v6, v7, v8, v9]) rfl ⟨hbe, ?_⟩
                rw [HSM.out]
                exact ⟨A2, n, c2, A2', n', c2', rfl, ⟨ra, rb, hn1, hn2, a1, a2⟩, fun a e => Nat.le_trans hz5 (n1' a e), fun a e => Nat.le_trans hz5 (n2' a e)⟩
theorem by_any (T : Int → Int → Pl × Int) (bl B : Nat) (x : StC) (A : Option Addr) (n c : Nat) (A' : Option Addr) (n' c' : Nat) (w : World) (hT : Tells T bl B w) (hin : (StH.mk A n c A' n' c' x).In w w.heap.size)
    (hbd : ∀ p s, -4398046511104 ≤ (T p s).1.pos ∧ (T p s).1.pos ≤ 4398046511104) :
    Calls Tryz.prog 213 #[.agg (stp x.k x.f x.t x.g x.h x.i x.m x.v A n c A' n' c'), tellV bl] w (ByS T x w) := by
  cases hs : x.sh with
  | false => exact by_bad T bl x A n c A' n' c' w hin hs
  | true => exact by_good T bl B x A n c A' n' c' w hT hin hs hbd
end Go.Proofs.YtmacfoebfpljoaaGreat
