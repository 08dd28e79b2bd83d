/- merged texts: RfU5 RfUa -/
import Derived.Test.YtmacfoebfpljoaaGreatMf14
import Derived.Test.YtmacfoebfpljoaaGreatMf15
import Derived.Test.YtmacfoebfpljoaaGreatMf16
namespace Go.Proofs.YtmacfoebfpljoaaGreat
open Go.RowKit
set_option linter.unusedVariables false
set_option maxRecDepth 100000 in
set_option maxHeartbeats 8000000 in
theorem through_5 (T : Int → Int → Pl × Int) (D : Int → Int → Pl × Bool) (hD : DocTells T D) (x : StC) (A : Option Addr) (n c : Nat) (A' : Option Addr) (n' c' : Nat) (A1 : Option Addr) (l1 c1 : Nat) (A2 : Option Addr) (l2 c2 : Nat) (B : Nat) (w : World)
    (hr : DocRt w B (.agg #[.slice A1 l1 c1, .slice A2 l2 c2]) D) (hn : n ≤ 20000) (hn' : n' ≤ 20000) (hl : x.sl.length = n) (hl' : x.st.length = n') (hbd : ∀ p s, -4398046511104 ≤ (T p s).1.pos ∧ (T p s).1.pos ≤ 4398046511104) (hs : x.sh = true) (ha : (T x.f 1).2 = 0) (hb : (T x.t (-1)).2 = 0) (hin : ((T x.f 1).1.inside && (T x.t (-1)).1.inside) = false) (hk : x.k = 5) :
    Calls Tryz.prog 141 #[.agg (stp x.k x.f x.t x.g x.h x.i x.m x.v A n c A' n' c'), .agg #[.slice A1 l1 c1, .slice A2 l2 c2]] w fun e w' => e = .returned (.tuple #[stepV (shiftB T x) A n c A' n' c', .bool (shiftB T x).isSome]) ∧ Below w.heap.size w w' := by
  have hsh := fun W (hb : Below w.heap.size w W) (k f t g h i m v : Int) => calls_on hb (rshape_any k f t g h i m v A A' n n' c c' W hn hn')
  have HSH := Lib.hid hsh
  have hrow := fun W (hb : Below w.heap.size w W) (from_ : Int) (hx : 0 ≤ x.f ∧ x.f ≤ x.t ∧ x.t ≤ 1073741824) (hf : -4398046511104 ≤ from_ ∧ from_ ≤ 4398046511104) => calls_on hb (rrow_any T D hD x A n c A' n' c' A1 l1 c1 A2 l2 c2 from_ B W (hr.ext (hb.mono hr.1)) hx hf)
  have HROW := Lib.hid hrow
  have ht := fun W (hb : Below w.heap.size w W) (p s : Int) => calls_on hb (hr.2 W (hb.mono hr.1) p s)
  have HT := Lib.hid ht
  have hB := hr.1
  clear hsh hrow ht hr
  obtain ⟨xk, xf, xt, xg, xh, xi, xm, xv, xsl, xst⟩ := x
  simp only at hl hl' HROW hs ha hb hin hk ⊢
  subst hk
  have hxs : (StC.mk 5 xf xt xg xh xi xm xv xsl xst).sh = shB 5 xf xt xg xh xi xm xv n n' := by rw [← hl, ← hl']; rfl
  have k2 : Bk ((((w.alloc (.cells (stp 5 xf xt xg xh xi xm xv A n c A' n' c') 45)).alloc (.cells #[.slice A1 l1 c1, .slice A2 l2 c2] 245)).alloc (.cells (stp 0 0 0 0 0 0 0 0 none 0 0 none 0 0) 45)).alloc (.cells (stp 0 0 0 0 0 0 0 0 none 0 0 none 0 0) 45)) w.heap.size 45 (stp 5 xf xt xg xh xi xm xv A n c A' n' c') := (((Bk.new w _ _).alloc _).alloc _).alloc _
  have k3 : Bk ((((w.alloc (.cells (stp 5 xf xt xg xh xi xm xv A n c A' n' c') 45)).alloc (.cells #[.slice A1 l1 c1, .slice A2 l2 c2] 245)).alloc (.cells (stp 0 0 0 0 0 0 0 0 none 0 0 none 0 0) 45)).alloc (.cells (stp 0 0 0 0 0 0 0 0 none 0 0 none 0 0) 45)) (w.heap.size + 1) 245 #[.slice A1 l1 c1, .slice A2 l2 c2] := ((Bk.made _ _ (by simp)).alloc _).alloc _
  have k4 : Bk ((((w.alloc (.cells (stp 5 xf xt xg xh xi xm xv A n c A' n' c') 45)).alloc (.cells #[.slice A1 l1 c1, .slice A2 l2 c2] 245)).alloc (.cells (stp 0 0 0 0 0 0 0 0 none 0 0 none 0 0) 45)).alloc (.cells (stp 0 0 0 0 0 0 0 0 none 0 0 none 0 0) 45)) (w.heap.size + 1 + 1) 45 (stp 0 0 0 0 0 0 0 0 none 0 0 none 0 0) := (Bk.made _ _ (by simp)).alloc _
  have k6 : Bk ((((w.alloc (.cells (stp 5 xf xt xg xh xi xm xv A n c A' n' c') 45)).alloc (.cells #[.slice A1 l1 c1, .slice A2 l2 c2] 245)).alloc (.cells (stp 0 0 0 0 0 0 0 0 none 0 0 none 0 0) 45)).alloc (.cells (stp 0 0 0 0 0 0 0 0 none 0 0 none 0 0) 45)) (w.heap.size + 1 + 1 + 1) 45 (stp 0 0 0 0 0 0 0 0 none 0 0 none 0 0) := Bk.made _ _ (by simp)
  have hb0 : Below w.heap.size w ((((w.alloc (.cells (stp 5 xf xt xg xh xi xm xv A n c A' n' c') 45)).alloc (.cells #[.slice A1 l1 c1, .slice A2 l2 c2] 245)).alloc (.cells (stp 0 0 0 0 0 0 0 0 none 0 0 none 0 0) 45)).alloc (.cells (stp 0 0 0 0 0 0 0 0 none 0 0 none 0 0) 45)) := belowA
  go_enter Tryz.func141, Tryz.ntmps141
  go_upto_region 2 with fail
  generalize hw0 : (((w.alloc (.cells (stp 5 xf xt xg xh xi xm xv A n c A' n' c') 45)).alloc (.cells #[.slice A1 l1 c1, .slice A2 l2 c2] 245)).alloc (.cells #[.int .i64 0, .int .i64 0, .int .i64 0, .int .i64 0, .int .i64 0, .int .i64 0, .int .i64 0, .int .i64 0, .slice none 0 0, .slice none 0 0] 45)).alloc (.cells #[.int .i64 0, .int .i64 0, .int .i64 0, .int .i64 0, .int .i64 0, .int .i64 0, .int .i64 0, .int .i64 0, .slice none 0 0, .slice none 0 0] 45) = w0 at *
  clear hw0
  obtain ⟨p0, p1, p2, p3, p4, p5, p6, p7, p8, p9⟩ := bk10 k2
  have hs0 := HSH.out w0 hb0 5 xf xt xg xh xi xm xv
  have hsv : shB 5 xf xt xg xh xi xm xv n n' = true := by rw [← hxs]; exact hs
  rw [hsv] at hs0 hxs
  obtain ⟨⟨z0, z1, z2⟩, hkk, h2k, h1k⟩ := shB_spec hsv
  have HS0 := Lib.hid hs0
  have HXS := Lib.hid hxs
  clear hs0 hxs hsv
  go_upto_region 4 with (go_at_call 65; (refine HS0.out.mono ?_); rintro e w1 ⟨rfl, hb1, hz1, hx1⟩)
  have j2 := k2.ext hx1; have j3 := k3.ext hx1; have j4 := k4.ext hx1; have j6 := k6.ext hx1
  clear p0 p1 p2 p3 p4 p5 p6 p7 p8 p9 HS0
  obtain ⟨p0, p1, p2, p3, p4, p5, p6, p7, p8, p9⟩ := bk10 j2; have r0 := j3.cell 0; have r1 := j3.cell 1; dsimp at r0 r1
  obtain ⟨a4, a5, hDa⟩ := hD.good ha
  obtain ⟨⟨⟨a1, a2, a3, a6, a7⟩, a8⟩, hTa⟩ : ∃ y, T xf 1 = y := ⟨_, rfl⟩
  rw [hTa] at hDa
  simp only at hDa
  obtain ⟨b4, b5, hDb⟩ := hD.good hb
  obtain ⟨⟨⟨b1, b2, b3, b6, b7⟩, b8⟩, hTb⟩ : ∃ y, T xt (-1) = y := ⟨_, rfl⟩
  rw [hTb] at hDb
  simp only at hDb
  rw [hTa, hTb] at hin
  simp only at hin
  have hsd := shift_d (T := T) (x := ⟨5, xf, xt, xg, xh, xi, xm, xv, xsl, xst⟩) HXS.out ha hb (by rw [hTa, hTb]; simpa using hin)
  rw [hTa, hTb] at hsd
  simp only at hsd
  have hba := hbd xf 1
  have hbb := hbd xt (-1)
  rw [hTa] at hba
  rw [hTb] at hbb
  simp only at hba hbb
  have HSD := Lib.hid hsd
  clear hsd
  have hcase : a3 = false ∨ a3 = true ∧ b3 = false := by revert hin; cases a3 <;> cases b3 <;> simp
  clear hin hTa hTb
  rcases hcase with rfl | ⟨rfl, rfl⟩
  · have hta := HT.out w1 hb1 xf (1)
    rw [hDa] at hta
    simp only [Pl.val] at hta
    have HTa := Lib.hid hta
    clear hta
    go_upto_region 5 with (go_at_call 183; (refine HTa.out.mono ?_); rintro e w2 ⟨rfl, hw2, hzw2, hxw2⟩; have q0 := (j3.ext hxw2).cell 0)
    have m2 := (j2.ext hxw2).alloc (.cells #[.int .i64 a1, .bool a2, .bool false, .int .i64 a4, .int .i64 a5] 301)
    have m3 := (j3.ext hxw2).alloc (.cells #[.int .i64 a1, .bool a2, .bool false, .int .i64 a4, .int .i64 a5] 301)
    have m4 := (j4.ext hxw2).alloc (.cells #[.int .i64 a1, .bool a2, .bool false, .int .i64 a4, .int .i64 a5] 301)
    have m6 := (j6.ext hxw2).alloc (.cells #[.int .i64 a1, .bool a2, .bool false, .int .i64 a4, .int .i64 a5] 301)
    have ma := Bk.new w2 301 #[.int .i64 a1, .bool a2, .bool false, .int .i64 a4, .int .i64 a5]
    have hbm : Below w.heap.size w (w2.alloc (.cells #[.int .i64 a1, .bool a2, .bool false, .int .i64 a4, .int .i64 a5] 301)) := belowA
    generalize hmE : w2.alloc (.cells #[.int .i64 a1, .bool a2, .bool false, .int .i64 a4, .int .i64 a5] 301) = mw at *
    clear hmE
    obtain ⟨na, hna⟩ : ∃ na, w2.heap.size = na := ⟨_, rfl⟩
    rw [hna] at ma ⊢
    obtain ⟨p0, p1, p2, p3, p4, p5, p6, p7, p8, p9⟩ := bk10 m2; have r0 := m3.cell 0; have r1 := m3.cell 1; dsimp at r0 r1
    have htb := HT.out mw hbm xt (-1)
    rw [hDb] at htb
    simp only [Pl.val] at htb
    have HTb := Lib.hid htb
    clear htb
    go_upto_region 6 with (go_at_call 183; (refine HTb.out.mono ?_); rintro e w3 ⟨rfl, hw3, hzw3, hxw3⟩; have q0 := (m3.ext hxw3).cell 0)
    have u2 := (m2.ext hxw3).alloc (.cells #[.int .i64 b1, .bool b2, .bool b3, .int .i64 b4, .int .i64 b5] 301)
    have u3 := (m3.ext hxw3).alloc (.cells #[.int .i64 b1, .bool b2, .bool b3, .int .i64 b4, .int .i64 b5] 301)
    have u4 := (m4.ext hxw3).alloc (.cells #[.int .i64 b1, .bool b2, .bool b3, .int .i64 b4, .int .i64 b5] 301)
    have u6 := (m6.ext hxw3).alloc (.cells #[.int .i64 b1, .bool b2, .bool b3, .int .i64 b4, .int .i64 b5] 301)
    have ua := (ma.ext hxw3).alloc (.cells #[.int .i64 b1, .bool b2, .bool b3, .int .i64 b4, .int .i64 b5] 301)
    have ub := Bk.new w3 301 #[.int .i64 b1, .bool b2, .bool b3, .int .i64 b4, .int .i64 b5]
    have hbu : Below w.heap.size w (w3.alloc (.cells #[.int .i64 b1, .bool b2, .bool b3, .int .i64 b4, .int .i64 b5] 301)) := belowA
    generalize huE : w3.alloc (.cells #[.int .i64 b1, .bool b2, .bool b3, .int .i64 b4, .int .i64 b5] 301) = uw at *
    clear huE
    obtain ⟨nb, hnb⟩ : ∃ nb, w3.heap.size = nb := ⟨_, rfl⟩
    rw [hnb] at ub ⊢
    obtain ⟨p0, p1, p2, p3, p4, p5, p6, p7, p8, p9⟩ := bk10 u2; have s2 := ua.cell 2; have t2 := ub.cell 2; dsimp at s2 t2
    go_upto_region 9 with fail
    have hbv : Below w.heap.size w (uw.alloc (.cells (stp 5 xf xt xg xh xi xm xv A n c A' n' c') 45)) := by have := hbu.size; exact belowA
    have v2 := u2.alloc (.cells (stp 5 xf xt xg xh xi xm xv A n c A' n' c') 45)
    have v3 := u3.alloc (.cells (stp 5 xf xt xg xh xi xm xv A n c A' n' c') 45)
    have v4 := u4.alloc (.cells (stp 5 xf xt xg xh xi xm xv A n c A' n' c') 45)
    have v6 := u6.alloc (.cells (stp 5 xf xt xg xh xi xm xv A n c A' n' c') 45)
    have va := ua.alloc (.cells (stp 5 xf xt xg xh xi xm xv A n c A' n' c') 45)
    have vb := ub.alloc (.cells (stp 5 xf xt xg xh xi xm xv A n c A' n' c') 45)
    have vL := Bk.new uw 45 (stp 5 xf xt xg xh xi xm xv A n c A' n' c')
    generalize hvE : uw.alloc (.cells #[.int .i64 5, .int .i64 xf, .int .i64 xt, .int .i64 xg, .int .i64 xh, .int .i64 xi, .int .i64 xm, .int .i64 xv, .slice A n c, .slice A' n' c'] 45) = vw at *
    clear hvE
    obtain ⟨nL, hnL⟩ : ∃ nL, uw.heap.size = nL := ⟨_, rfl⟩
    have g2 := def_lt' u2; have g3 := def_lt' u3; have g4 := def_lt' u4; have g6 := def_lt' u6; have ga := def_lt' ua; have gb := def_lt' ub
    rw [hnL] at vL g2 g3 g4 g6 ga gb ⊢
    clear p0 p1 p2 p3 p4 p5 p6 p7 p8 p9 s2 t2 q0
    have s0 := va.cell 0; have t0 := vb.cell 0; have fL := vL.frozen; have lL := def_lt' vL
    dsimp at s0 t0
    obtain ⟨e0, e1, e2, e3, e4, e5, e6, e7, e8, e9⟩ := bk10 vL
    go_upto_region 11 with fail
    obtain ⟨t1, ht1⟩ : ∃ t1, (if a1 < b1 then b1 else a1) = t1 := ⟨_, rfl⟩
    rw [ht1]
    have hmx : max a1 b1 = t1 := by rw [← ht1]; split <;> omega
    have hsd := HSD.out
    rw [hmx] at hsd
    have HSQ := Lib.hid hsd
    clear hsd
    have hb5 : Below w.heap.size w ((vw.setCell ⟨nL, 1, none⟩ (.int .i64 a1)).setCell ⟨nL, 2, none⟩ (.int .i64 t1)) := by have := hbv.size; exact belowA
    have y2 := (v2.far (p := ⟨nL, 1, none⟩) (by simp <;> omega) (.int .i64 a1)).far (p := ⟨nL, 2, none⟩) (by simp <;> omega) (.int .i64 t1)
    have y3 := (v3.far (p := ⟨nL, 1, none⟩) (by simp <;> omega) (.int .i64 a1)).far (p := ⟨nL, 2, none⟩) (by simp <;> omega) (.int .i64 t1)
    have y4 := (v4.far (p := ⟨nL, 1, none⟩) (by simp <;> omega) (.int .i64 a1)).far (p := ⟨nL, 2, none⟩) (by simp <;> omega) (.int .i64 t1)
    have y6 := (v6.far (p := ⟨nL, 1, none⟩) (by simp <;> omega) (.int .i64 a1)).far (p := ⟨nL, 2, none⟩) (by simp <;> omega) (.int .i64 t1)
    have ya := (va.far (p := ⟨nL, 1, none⟩) (by simp <;> omega) (.int .i64 a1)).far (p := ⟨nL, 2, none⟩) (by simp <;> omega) (.int .i64 t1)
    have yb := (vb.far (p := ⟨nL, 1, none⟩) (by simp <;> omega) (.int .i64 a1)).far (p := ⟨nL, 2, none⟩) (by simp <;> omega) (.int .i64 t1)
    have yL : Bk ((vw.setCell ⟨nL, 1, none⟩ (.int .i64 a1)).setCell ⟨nL, 2, none⟩ (.int .i64 t1)) nL 45 (stp 5 a1 t1 xg xh xi xm xv A n c A' n' c') := (vL.set_ 1 _).set_ 2 _
    generalize hw5E : (vw.setCell ⟨nL, 1, none⟩ (.int .i64 a1)).setCell ⟨nL, 2, none⟩ (.int .i64 t1) = w5 at *
    clear hw5E
    clear e0 e1 e2 e3 e4 e5 e6 e7 e8 e9 s0 t0 hmx ht1 HSD
    obtain ⟨e0, e1, e2, e3, e4, e5, e6, e7, e8, e9⟩ := bk10 yL; have p0 := y2.cell 0; have t0 := yb.cell 0; dsimp [stp] at p0 t0
    obtain ⟨p0, p1, p2, p3, p4, p5, p6, p7, p8, p9⟩ := bk10 y2; have r0 := y3.cell 0; have r1 := y3.cell 1; dsimp at r0 r1
    have w1e : IntKind.i64.wrap (a1 + xt) = a1 + xt := IntWalk.i64_in _ (by omega)
    have w2e : IntKind.i64.wrap (a1 + xt - xf) = a1 + xt - xf := IntWalk.i64_in _ (by omega)
    have fy := yL.frozen; have ly := def_lt' yL
    go_upto_region 22 with fail
    have hb9 : Below w.heap.size w (w5.setCell ⟨nL, 2, none⟩ (.int .i64 (a1 + xt - xf))) := by have := hb5.size; exact belowA
    have x2 := y2.far (p := ⟨nL, 2, none⟩) (by simp <;> omega) (.int .i64 (a1 + xt - xf))
    have x3 := y3.far (p := ⟨nL, 2, none⟩) (by simp <;> omega) (.int .i64 (a1 + xt - xf))
    have x4 := y4.far (p := ⟨nL, 2, none⟩) (by simp <;> omega) (.int .i64 (a1 + xt - xf))
    have x6 := y6.far (p := ⟨nL, 2, none⟩) (by simp <;> omega) (.int .i64 (a1 + xt - xf))
    have xa := ya.far (p := ⟨nL, 2, none⟩) (by simp <;> omega) (.int .i64 (a1 + xt - xf))
    have xb := yb.far (p := ⟨nL, 2, none⟩) (by simp <;> omega) (.int .i64 (a1 + xt - xf))
    have xL : Bk (w5.setCell ⟨nL, 2, none⟩ (.int .i64 (a1 + xt - xf))) nL 45 (stp 5 a1 (a1 + xt - xf) xg xh xi xm xv A n c A' n' c') := yL.set_ 2 _
    generalize hw9E : w5.setCell ⟨nL, 2, none⟩ (.int .i64 (a1 + xt - xf)) = w9 at *
    clear hw9E
    clear e0 e1 e2 e3 e4 e5 e6 e7 e8 e9 t0 r0 r1
    obtain ⟨p0, p1, p2, p3, p4, p5, p6, p7, p8, p9⟩ := bk10 x2; have r0 := x3.cell 0; have r1 := x3.cell 1; dsimp at r0 r1; have e1 := xL.cell 1; dsimp [stp] at e1
    have hrw := HROW.out w9 hb9 a1 ⟨z0, z1, z2⟩ hba
    cases hrv : rowB T xf a1 (xt - xf).toNat with
    | false =>
      rw [hrv] at hrw
      have HRW := Lib.hid hrw
      have HNO := Lib.hid (fin_no HSQ.out (by unfold kindB; rw [if_neg (by simp), if_neg (by simp), if_pos rfl, if_neg (by rw [hrv]; simp)]) : shiftB T ⟨5, xf, xt, xg, xh, xi, xm, xv, xsl, xst⟩ = none)
      clear hrw hrv
      go_upto_region 23 with (go_at_call 184; (refine HRW.out.mono ?_); rintro e wa ⟨rfl, hba, hza, hxa⟩)
      have j4 := x4.ext hxa; have j6 := x6.ext hxa; have l4 := def_lt' j4; have f4 := j4.frozen
      obtain ⟨dd0, dd1, dd2, dd3, dd4, dd5, dd6, dd7, dd8, dd9⟩ := bk10 j6
      obtain ⟨o0, o1, o2, o3, o4, o5, o6, o7, o8, o9⟩ := bk10 j4
      go_wp2
      have kz := stp_set j4 0 0 0 0 0 0 0 0 none 0 0 none 0 0
      have hzz := hba.size
      have hbz : Below w.heap.size w (set10 wa (w.heap.size + 1 + 1) 0 0 0 0 0 0 0 0 none 0 0 none 0 0) := belowA
      obtain ⟨q0, q1, q2, q3, q4, q5, q6, q7, q8, q9⟩ := bk10 kz
      exact bodyPost_ret (v := .tuple #[.agg (stp 0 0 0 0 0 0 0 0 none 0 0 none 0 0), .bool false]) (by simp [results, Tryz.results141, go_sem, q0, q1, q2, q3, q4, q5, q6, q7, q8, q9]) rfl ⟨by rw [HNO.out]; rfl, hbz⟩
    | true =>
      rw [hrv] at hrw
      have HRW := Lib.hid hrw
      have hfin : shiftB T ⟨5, xf, xt, xg, xh, xi, xm, xv, xsl, xst⟩ = (some ⟨5, a1, a1 + xt - xf, xg, xh, xi, xm, xv, xsl, xst⟩).filter StC.sh := by
        rw [HSQ.out]
        unfold kindB
        rw [if_neg (by simp), if_neg (by simp), if_pos rfl, if_pos hrv]
      clear hrw hrv
      go_upto_region 24 with (go_at_call 184; (refine HRW.out.mono ?_); rintro e wa ⟨rfl, hbA, hza, hxa⟩)
      have s2 := x2.ext hxa
      have s3 := x3.ext hxa
      have s4 := x4.ext hxa
      have s6 := x6.ext hxa
      have sa := xa.ext hxa
      have sb := xb.ext hxa
      have sL := xL.ext hxa
      clear p0 p1 p2 p3 p4 p5 p6 p7 p8 p9 r0 r1 e1
      have HZS := Lib.hid (fun (h : shB 5 a1 (a1 + xt - xf) xg xh xi xm xv n n' = true) => fin_some (z := ⟨5, a1, (a1 + xt - xf), xg, xh, xi, xm, xv, xsl, xst⟩) hfin (show shB 5 a1 (a1 + xt - xf) xg xh xi xm xv xsl.length xst.length = true by rw [hl, hl']; exact h))
      have HZN := Lib.hid (fun (h : shB 5 a1 (a1 + xt - xf) xg xh xi xm xv n n' = false) => fin_none (z := ⟨5, a1, (a1 + xt - xf), xg, xh, xi, xm, xv, xsl, xst⟩) hfin (show shB 5 a1 (a1 + xt - xf) xg xh xi xm xv xsl.length xst.length = false by rw [hl, hl']; exact h))
      clear hfin
      obtain ⟨e0, e1, e2, e3, e4, e5, e6, e7, e8, e9⟩ := bk10 sL; have p0 := s2.cell 0; dsimp [stp] at p0; have t0 := sb.cell 0; dsimp at t0
      have hsl := HSH.out wa hbA 5 a1 (a1 + xt - xf) xg xh xi xm xv
      cases hsz : shB 5 a1 (a1 + xt - xf) xg xh xi xm xv n n' with
      | false =>
        rw [hsz] at hsl
        have HSZ := Lib.hid hsz
        have HSL := Lib.hid hsl
        clear hsz hsl
        go_upto_region 25 with (go_at_call 65; (refine HSL.out.mono ?_); rintro e wf ⟨rfl, hbf, hzf, hxf⟩; have q0 := (sL.ext hxf).cell 0)
        have j4 := s4.ext hxf; have j6 := s6.ext hxf; have l4 := def_lt' j4; have f4 := j4.frozen
        obtain ⟨dd0, dd1, dd2, dd3, dd4, dd5, dd6, dd7, dd8, dd9⟩ := bk10 j6
        obtain ⟨o0, o1, o2, o3, o4, o5, o6, o7, o8, o9⟩ := bk10 j4
        go_wp2
        have kz := stp_set j4 0 0 0 0 0 0 0 0 none 0 0 none 0 0
        have hzz := hbf.size
        have hbz : Below w.heap.size w (set10 wf (w.heap.size + 1 + 1) 0 0 0 0 0 0 0 0 none 0 0 none 0 0) := belowA
        obtain ⟨q0, q1, q2, q3, q4, q5, q6, q7, q8, q9⟩ := bk10 kz
        exact bodyPost_ret (v := .tuple #[.agg (stp 0 0 0 0 0 0 0 0 none 0 0 none 0 0), .bool false]) (by simp [results, Tryz.results141, go_sem, q0, q1, q2, q3, q4, q5, q6, q7, q8, q9]) rfl ⟨by rw [HZN.out HSZ.out]; rfl, hbz⟩
      | true =>
        rw [hsz] at hsl
        have HSZ := Lib.hid hsz
        have HSL := Lib.hid hsl
        clear hsz hsl
        go_upto_region 26 with (go_at_call 65; (refine HSL.out.mono ?_); rintro e wf ⟨rfl, hbf, hzf, hxf⟩; have q0 := (sL.ext hxf).cell 0)
        have j4 := s4.ext hxf; have jL := sL.ext hxf; have l4 := def_lt' j4; have f4 := j4.frozen
        obtain ⟨dd0, dd1, dd2, dd3, dd4, dd5, dd6, dd7, dd8, dd9⟩ := bk10 jL
        obtain ⟨o0, o1, o2, o3, o4, o5, o6, o7, o8, o9⟩ := bk10 j4
        go_wp2
        have kz := stp_set j4 5 a1 (a1 + xt - xf) xg xh xi xm xv A n c A' n' c'
        have hzz := hbf.size
        have hbz : Below w.heap.size w (set10 wf (w.heap.size + 1 + 1) 5 a1 (a1 + xt - xf) xg xh xi xm xv A n c A' n' c') := belowA
        obtain ⟨q0, q1, q2, q3, q4, q5, q6, q7, q8, q9⟩ := bk10 kz
        exact bodyPost_ret (v := .tuple #[.agg (stp 5 a1 (a1 + xt - xf) xg xh xi xm xv A n c A' n' c'), .bool true]) (by simp [results, Tryz.results141, go_sem, q0, q1, q2, q3, q4, q5, q6, q7, q8, q9]) rfl ⟨by rw [HZS.out HSZ.out]; rfl, hbz⟩
  · have hta := HT.out w1 hb1 xf (1)
    rw [hDa] at hta
    simp only [Pl.val] at hta
    have HTa := Lib.hid hta
    clear hta
    go_upto_region 5 with (go_at_call 183; (refine HTa.out.mono ?_); rintro e w2 ⟨rfl, hw2, hzw2, hxw2⟩; have q0 := (j3.ext hxw2).cell 0)
    have m2 := (j2.ext hxw2).alloc (.cells #[.int .i64 a1, .bool a2, .bool true, .int .i64 a4, .int .i64 a5] 301)
    have m3 := (j3.ext hxw2).alloc (.cells #[.int .i64 a1, .bool a2, .bool true, .int .i64 a4, .int .i64 a5] 301)
    have m4 := (j4.ext hxw2).alloc (.cells #[.int .i64 a1, .bool a2, .bool true, .int .i64 a4, .int .i64 a5] 301)
    have m6 := (j6.ext hxw2).alloc (.cells #[.int .i64 a1, .bool a2, .bool true, .int .i64 a4, .int .i64 a5] 301)
    have ma := Bk.new w2 301 #[.int .i64 a1, .bool a2, .bool true, .int .i64 a4, .int .i64 a5]
    have hbm : Below w.heap.size w (w2.alloc (.cells #[.int .i64 a1, .bool a2, .bool true, .int .i64 a4, .int .i64 a5] 301)) := belowA
    generalize hmE : w2.alloc (.cells #[.int .i64 a1, .bool a2, .bool true, .int .i64 a4, .int .i64 a5] 301) = mw at *
    clear hmE
    obtain ⟨na, hna⟩ : ∃ na, w2.heap.size = na := ⟨_, rfl⟩
    rw [hna] at ma ⊢
    obtain ⟨p0, p1, p2, p3, p4, p5, p6, p7, p8, p9⟩ := bk10 m2; have r0 := m3.cell 0; have r1 := m3.cell 1; dsimp at r0 r1
    have htb := HT.out mw hbm xt (-1)
    rw [hDb] at htb
    simp only [Pl.val] at htb
    have HTb := Lib.hid htb
    clear htb
    go_upto_region 6 with (go_at_call 183; (refine HTb.out.mono ?_); rintro e w3 ⟨rfl, hw3, hzw3, hxw3⟩; have q0 := (m3.ext hxw3).cell 0)
    have u2 := (m2.ext hxw3).alloc (.cells #[.int .i64 b1, .bool b2, .bool false, .int .i64 b4, .int .i64 b5] 301)
    have u3 := (m3.ext hxw3).alloc (.cells #[.int .i64 b1, .bool b2, .bool false, .int .i64 b4, .int .i64 b5] 301)
    have u4 := (m4.ext hxw3).alloc (.cells #[.int .i64 b1, .bool b2, .bool false, .int .i64 b4, .int .i64 b5] 301)
    have u6 := (m6.ext hxw3).alloc (.cells #[.int .i64 b1, .bool b2, .bool false, .int .i64 b4, .int .i64 b5] 301)
    have ua := (ma.ext hxw3).alloc (.cells #[.int .i64 b1, .bool b2, .bool false, .int .i64 b4, .int .i64 b5] 301)
    have ub := Bk.new w3 301 #[.int .i64 b1, .bool b2, .bool false, .int .i64 b4, .int .i64 b5]
    have hbu : Below w.heap.size w (w3.alloc (.cells #[.int .i64 b1, .bool b2, .bool false, .int .i64 b4, .int .i64 b5] 301)) := belowA
    generalize huE : w3.alloc (.cells #[.int .i64 b1, .bool b2, .bool false, .int .i64 b4, .int .i64 b5] 301) = uw at *
    clear huE
    obtain ⟨nb, hnb⟩ : ∃ nb, w3.heap.size = nb := ⟨_, rfl⟩
    rw [hnb] at ub ⊢
    obtain ⟨p0, p1, p2, p3, p4, p5, p6, p7, p8, p9⟩ := bk10 u2; have s2 := ua.cell 2; have t2 := ub.cell 2; dsimp at s2 t2
    go_upto_region 9 with fail
    have hbv : Below w.heap.size w (uw.alloc (.cells (stp 5 xf xt xg xh xi xm xv A n c A' n' c') 45)) := by have := hbu.size; exact belowA
    have v2 := u2.alloc (.cells (stp 5 xf xt xg xh xi xm xv A n c A' n' c') 45)
    have v3 := u3.alloc (.cells (stp 5 xf xt xg xh xi xm xv A n c A' n' c') 45)
    have v4 := u4.alloc (.cells (stp 5 xf xt xg xh xi xm xv A n c A' n' c') 45)
    have v6 := u6.alloc (.cells (stp 5 xf xt xg xh xi xm xv A n c A' n' c') 45)
    have va := ua.alloc (.cells (stp 5 xf xt xg xh xi xm xv A n c A' n' c') 45)
    have vb := ub.alloc (.cells (stp 5 xf xt xg xh xi xm xv A n c A' n' c') 45)
    have vL := Bk.new uw 45 (stp 5 xf xt xg xh xi xm xv A n c A' n' c')
    generalize hvE : uw.alloc (.cells #[.int .i64 5, .int .i64 xf, .int .i64 xt, .int .i64 xg, .int .i64 xh, .int .i64 xi, .int .i64 xm, .int .i64 xv, .slice A n c, .slice A' n' c'] 45) = vw at *
    clear hvE
    obtain ⟨nL, hnL⟩ : ∃ nL, uw.heap.size = nL := ⟨_, rfl⟩
    have g2 := def_lt' u2; have g3 := def_lt' u3; have g4 := def_lt' u4; have g6 := def_lt' u6; have ga := def_lt' ua; have gb := def_lt' ub
    rw [hnL] at vL g2 g3 g4 g6 ga gb ⊢
    clear p0 p1 p2 p3 p4 p5 p6 p7 p8 p9 s2 t2 q0
    have s0 := va.cell 0; have t0 := vb.cell 0; have fL := vL.frozen; have lL := def_lt' vL
    dsimp at s0 t0
    obtain ⟨e0, e1, e2, e3, e4, e5, e6, e7, e8, e9⟩ := bk10 vL
    go_upto_region 11 with fail
    obtain ⟨t1, ht1⟩ : ∃ t1, (if a1 < b1 then b1 else a1) = t1 := ⟨_, rfl⟩
    rw [ht1]
    have hmx : max a1 b1 = t1 := by rw [← ht1]; split <;> omega
    have hsd := HSD.out
    rw [hmx] at hsd
    have HSQ := Lib.hid hsd
    clear hsd
    have hb5 : Below w.heap.size w ((vw.setCell ⟨nL, 1, none⟩ (.int .i64 a1)).setCell ⟨nL, 2, none⟩ (.int .i64 t1)) := by have := hbv.size; exact belowA
    have y2 := (v2.far (p := ⟨nL, 1, none⟩) (by simp <;> omega) (.int .i64 a1)).far (p := ⟨nL, 2, none⟩) (by simp <;> omega) (.int .i64 t1)
    have y3 := (v3.far (p := ⟨nL, 1, none⟩) (by simp <;> omega) (.int .i64 a1)).far (p := ⟨nL, 2, none⟩) (by simp <;> omega) (.int .i64 t1)
    have y4 := (v4.far (p := ⟨nL, 1, none⟩) (by simp <;> omega) (.int .i64 a1)).far (p := ⟨nL, 2, none⟩) (by simp <;> omega) (.int .i64 t1)
    have y6 := (v6.far (p := ⟨nL, 1, none⟩) (by simp <;> omega) (.int .i64 a1)).far (p := ⟨nL, 2, none⟩) (by simp <;> omega) (.int .i64 t1)
    have ya := (va.far (p := ⟨nL, 1, none⟩) (by simp <;> omega) (.int .i64 a1)).far (p := ⟨nL, 2, none⟩) (by simp <;> omega) (.int .i64 t1)
    have yb := (vb.far (p := ⟨nL, 1, none⟩) (by simp <;> omega) (.int .i64 a1)).far (p := ⟨nL, 2, none⟩) (by simp <;> omega) (.int .i64 t1)
    have yL : Bk ((vw.setCell ⟨nL, 1, none⟩ (.int .i64 a1)).setCell ⟨nL, 2, none⟩ (.int .i64 t1)) nL 45 (stp 5 a1 t1 xg xh xi xm xv A n c A' n' c') := (vL.set_ 1 _).set_ 2 _
    generalize hw5E : (vw.setCell ⟨nL, 1, none⟩ (.int .i64 a1)).setCell ⟨nL, 2, none⟩ (.int .i64 t1) = w5 at *
    clear hw5E
    clear e0 e1 e2 e3 e4 e5 e6 e7 e8 e9 s0 t0 hmx ht1 HSD
    obtain ⟨e0, e1, e2, e3, e4, e5, e6, e7, e8, e9⟩ := bk10 yL; have p0 := y2.cell 0; have t0 := yb.cell 0; dsimp [stp] at p0 t0
    obtain ⟨p0, p1, p2, p3, p4, p5, p6, p7, p8, p9⟩ := bk10 y2; have r0 := y3.cell 0; have r1 := y3.cell 1; dsimp at r0 r1
    have w1e : IntKind.i64.wrap (a1 + xt) = a1 + xt := IntWalk.i64_in _ (by omega)
    have w2e : IntKind.i64.wrap (a1 + xt - xf) = a1 + xt - xf := IntWalk.i64_in _ (by omega)
    have fy := yL.frozen; have ly := def_lt' yL
    go_upto_region 22 with fail
    have hb9 : Below w.heap.size w (w5.setCell ⟨nL, 2, none⟩ (.int .i64 (a1 + xt - xf))) := by have := hb5.size; exact belowA
    have x2 := y2.far (p := ⟨nL, 2, none⟩) (by simp <;> omega) (.int .i64 (a1 + xt - xf))
    have x3 := y3.far (p := ⟨nL, 2, none⟩) (by simp <;> omega) (.int .i64 (a1 + xt - xf))
    have x4 := y4.far (p := ⟨nL, 2, none⟩) (by simp <;> omega) (.int .i64 (a1 + xt - xf))
    have x6 := y6.far (p := ⟨nL, 2, none⟩) (by simp <;> omega) (.int .i64 (a1 + xt - xf))
    have xa := ya.far (p := ⟨nL, 2, none⟩) (by simp <;> omega) (.int .i64 (a1 + xt - xf))
    have xb := yb.far (p := ⟨nL, 2, none⟩) (by simp <;> omega) (.int .i64 (a1 + xt - xf))
    have xL : Bk (w5.setCell ⟨nL, 2, none⟩ (.int .i64 (a1 + xt - xf))) nL 45 (stp 5 a1 (a1 + xt - xf) xg xh xi xm xv A n c A' n' c') := yL.set_ 2 _
    generalize hw9E : w5.setCell ⟨nL, 2, none⟩ (.int .i64 (a1 + xt - xf)) = w9 at *
    clear hw9E
    clear e0 e1 e2 e3 e4 e5 e6 e7 e8 e9 t0 r0 r1
    obtain ⟨p0, p1, p2, p3, p4, p5, p6, p7, p8, p9⟩ := bk10 x2; have r0 := x3.cell 0; have r1 := x3.cell 1; dsimp at r0 r1; have e1 := xL.cell 1; dsimp [stp] at e1
    have hrw := HROW.out w9 hb9 a1 ⟨z0, z1, z2⟩ hba
    cases hrv : rowB T xf a1 (xt - xf).toNat with
    | false =>
      rw [hrv] at hrw
      have HRW := Lib.hid hrw
      have HNO := Lib.hid (fin_no HSQ.out (by unfold kindB; rw [if_neg (by simp), if_neg (by simp), if_pos rfl, if_neg (by rw [hrv]; simp)]) : shiftB T ⟨5, xf, xt, xg, xh, xi, xm, xv, xsl, xst⟩ = none)
      clear hrw hrv
      go_upto_region 23 with (go_at_call 184; (refine HRW.out.mono ?_); rintro e wa ⟨rfl, hba, hza, hxa⟩)
      have j4 := x4.ext hxa; have j6 := x6.ext hxa; have l4 := def_lt' j4; have f4 := j4.frozen
      obtain ⟨dd0, dd1, dd2, dd3, dd4, dd5, dd6, dd7, dd8, dd9⟩ := bk10 j6
      obtain ⟨o0, o1, o2, o3, o4, o5, o6, o7, o8, o9⟩ := bk10 j4
      go_wp2
      have kz := stp_set j4 0 0 0 0 0 0 0 0 none 0 0 none 0 0
      have hzz := hba.size
      have hbz : Below w.heap.size w (set10 wa (w.heap.size + 1 + 1) 0 0 0 0 0 0 0 0 none 0 0 none 0 0) := belowA
      obtain ⟨q0, q1, q2, q3, q4, q5, q6, q7, q8, q9⟩ := bk10 kz
      exact bodyPost_ret (v := .tuple #[.agg (stp 0 0 0 0 0 0 0 0 none 0 0 none 0 0), .bool false]) (by simp [results, Tryz.results141, go_sem, q0, q1, q2, q3, q4, q5, q6, q7, q8, q9]) rfl ⟨by rw [HNO.out]; rfl, hbz⟩
    | true =>
      rw [hrv] at hrw
      have HRW := Lib.hid hrw
      have hfin : shiftB T ⟨5, xf, xt, xg, xh, xi, xm, xv, xsl, xst⟩ = (some ⟨5, a1, a1 + xt - xf, xg, xh, xi, xm, xv, xsl, xst⟩).filter StC.sh := by
        rw [HSQ.out]
        unfold kindB
        rw [if_neg (by simp), if_neg (by simp), if_pos rfl, if_pos hrv]
      clear hrw hrv
      go_upto_region 24 with (go_at_call 184; (refine HRW.out.mono ?_); rintro e wa ⟨rfl, hbA, hza, hxa⟩)
      have s2 := x2.ext hxa
      have s3 := x3.ext hxa
      have s4 := x4.ext hxa
      have s6 := x6.ext hxa
      have sa := xa.ext hxa
      have sb := xb.ext hxa
      have sL := xL.ext hxa
      clear p0 p1 p2 p3 p4 p5 p6 p7 p8 p9 r0 r1 e1
      have HZS := Lib.hid (fun (h : shB 5 a1 (a1 + xt - xf) xg xh xi xm xv n n' = true) => fin_some (z := ⟨5, a1, (a1 + xt - xf), xg, xh, xi, xm, xv, xsl, xst⟩) hfin (show shB 5 a1 (a1 + xt - xf) xg xh xi xm xv xsl.length xst.length = true by rw [hl, hl']; exact h))
      have HZN := Lib.hid (fun (h : shB 5 a1 (a1 + xt - xf) xg xh xi xm xv n n' = false) => fin_none (z := ⟨5, a1, (a1 + xt - xf), xg, xh, xi, xm, xv, xsl, xst⟩) hfin (show shB 5 a1 (a1 + xt - xf) xg xh xi xm xv xsl.length xst.length = false by rw [hl, hl']; exact h))
      clear hfin
      obtain ⟨e0, e1, e2, e3, e4, e5, e6, e7, e8, e9⟩ := bk10 sL; have p0 := s2.cell 0; dsimp [stp] at p0; have t0 := sb.cell 0; dsimp at t0
      have hsl := HSH.out wa hbA 5 a1 (a1 + xt - xf) xg xh xi xm xv
      cases hsz : shB 5 a1 (a1 + xt - xf) xg xh xi xm xv n n' with
      | false =>
        rw [hsz] at hsl
        have HSZ := Lib.hid hsz
        have HSL := Lib.hid hsl
        clear hsz hsl
        go_upto_region 25 with (go_at_call 65; (refine HSL.out.mono ?_); rintro e wf ⟨rfl, hbf, hzf, hxf⟩; have q0 := (sL.ext hxf).cell 0)
        have j4 := s4.ext hxf; have j6 := s6.ext hxf; have l4 := def_lt' j4; have f4 := j4.frozen
        obtain ⟨dd0, dd1, dd2, dd3, dd4, dd5, dd6, dd7, dd8, dd9⟩ := bk10 j6
        obtain ⟨o0, o1, o2, o3, o4, o5, o6, o7, o8, o9⟩ := bk10 j4
        go_wp2
        have kz := stp_set j4 0 0 0 0 0 0 0 0 none 0 0 none 0 0
        have hzz := hbf.size
        have hbz : Below w.heap.size w (set10 wf (w.heap.size + 1 + 1) 0 0 0 0 0 0 0 0 none 0 0 none 0 0) := belowA
        obtain ⟨q0, q1, q2, q3, q4, q5, q6, q7, q8, q9⟩ := bk10 kz
        exact bodyPost_ret (v := .tuple #[.agg (stp 0 0 0 0 0 0 0 0 none 0 0 none 0 0), .bool false]) (by simp [results, Tryz.results141, go_sem, q0, q1, q2, q3, q4, q5, q6, q7, q8, q9]) rfl ⟨by rw [HZN.out HSZ.out]; rfl, hbz⟩
      | true =>
        rw [hsz] at hsl
        have HSZ := Lib.hid hsz
        have HSL := Lib.hid hsl
        clear hsz hsl
        go_upto_region 26 with (go_at_call 65; (refine HSL.out.mono ?_); rintro e wf ⟨rfl, hbf, hzf, hxf⟩; have q0 := (sL.ext hxf).cell 0)
        have j4 := s4.ext hxf; have jL := sL.ext hxf; have l4 := def_lt' j4; have f4 := j4.frozen
        obtain ⟨dd0, dd1, dd2, dd3, dd4, dd5, dd6, dd7, dd8, dd9⟩ := bk10 jL
        obtain ⟨o0, o1, o2, o3, o4, o5, o6, o7, o8, o9⟩ := bk10 j4
        go_wp2
        have kz := stp_set j4 5 a1 (a1 + xt - xf) xg xh xi xm xv A n c A' n' c'
        have hzz := hbf.size
        have hbz : Below w.heap.size w (set10 wf (w.heap.size + 1 + 1) 5 a1 (a1 + xt - xf) xg xh xi xm xv A n c A' n' c') := belowA
        obtain ⟨q0, q1, q2, q3, q4, q5, q6, q7, q8, q9⟩ := bk10 kz
        exact bodyPost_ret (v := .tuple #[.agg (stp 5 a1 (a1 + xt - xf) xg xh xi xm xv A n c A' n' c'), .bool true]) (by simp [results, Tryz.results141, go_sem, q0, q1, q2, q3, q4, q5, q6, q7, q8, q9]) rfl ⟨by rw [HZS.out HSZ.out]; rfl, hbz⟩
set_option maxRecDepth 100000 in
set_option maxHeartbeats 8000000 in
theorem through_any (T : Int → Int → Pl × Int) (D : Int → Int → Pl × Bool) (hD : DocTells T D) (x : StC) (A : Option Addr) (n c : Nat) (A' : Option Addr) (n' c' : Nat) (A1 : Option Addr) (l1 c1 : Nat) (A2 : Option Addr) (l2 c2 : Nat) (B : Nat) (w : World)
    (hr : DocRt w B (.agg #[.slice A1 l1 c1, .slice A2 l2 c2]) D) (hn : n ≤ 20000) (hn' : n' ≤ 20000) (hl : x.sl.length = n) (hl' : x.st.length = n') (hbd : ∀ p s, -4398046511104 ≤ (T p s).1.pos ∧ (T p s).1.pos ≤ 4398046511104) :
    Calls Tryz.prog 141 #[.agg (stp x.k x.f x.t x.g x.h x.i x.m x.v A n c A' n' c'), .agg #[.slice A1 l1 c1, .slice A2 l2 c2]] w fun e w' => e = .returned (.tuple #[stepV (shiftB T x) A n c A' n' c', .bool (shiftB T x).isSome]) ∧ Below w.heap.size w w' := by
  cases hs : x.sh with
  | false => exact through_bad T D hD x A n c A' n' c' A1 l1 c1 A2 l2 c2 B w hr hn hn' hl hl' hbd hs
  | true =>
    by_cases ha : (T x.f 1).2 = 0
    · by_cases hb : (T x.t (-1)).2 = 0
      · cases hin : ((T x.f 1).1.inside && (T x.t (-1)).1.inside) with
        | true => exact through_c T D hD x A n c A' n' c' A1 l1 c1 A2 l2 c2 B w hr hn hn' hl hl' hbd hs ha hb hin
        | false =>
          rcases (shB_spec hs).2.1 with hk | hk | hk | hk | hk
          · exact through_1 T D hD x A n c A' n' c' A1 l1 c1 A2 l2 c2 B w hr hn hn' hl hl' hbd hs ha hb hin hk
          · cases hv : (T x.f 1).1.inside with
            | false => exact through_2a T D hD x A n c A' n' c' A1 l1 c1 A2 l2 c2 B w hr hn hn' hl hl' hbd hs ha hb hin hk hv
            | true => exact through_2b T D hD x A n c A' n' c' A1 l1 c1 A2 l2 c2 B w hr hn hn' hl hl' hbd hs ha hb hin hk ⟨hv, by rw [hv] at hin; simpa using hin⟩
          · exact through_3 T D hD x A n c A' n' c' A1 l1 c1 A2 l2 c2 B w hr hn hn' hl hl' hbd hs ha hb hin hk
          · exact through_4 T D hD x A n c A' n' c' A1 l1 c1 A2 l2 c2 B w hr hn hn' hl hl' hbd hs ha hb hin hk
          · exact through_5 T D hD x A n c A' n' c' A1 l1 c1 A2 l2 c2 B w hr hn hn' hl hl' hbd hs ha hb hin hk
      · exact through_b T D hD x A n c A' n' c' A1 l1 c1 A2 l2 c2 B w hr hn hn' hl hl' hbd hs ha hb
    · exact through_a T D hD x A n c A' n' c' A1 l1 c1 A2 l2 c2 B w hr hn hn' hl hl' hbd hs ha
end Go.Proofs.YtmacfoebfpljoaaGreat
