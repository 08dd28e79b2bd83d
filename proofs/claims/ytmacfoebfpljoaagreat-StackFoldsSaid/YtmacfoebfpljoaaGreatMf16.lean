/- merged texts: RfU3 -/
import Derived.Test.YtmacfoebfpljoaaGreatMf14
namespace Go.Proofs.YtmacfoebfpljoaaGreat
open Go.RowKit
set_option linter.unusedVariables false
set_option maxRecDepth 100000 in
set_option maxHeartbeats 8000000 in
theorem through_3 (T : Int → Int → Pl × Int) (D : Int → Int → Pl × Bool) (hD : DocTells T D) (x : StC) (A : Option Addr) (n c : Nat) (A' : Option Addr) (n' c' : Nat) (A1 : Option Addr) (l1 c1 : Nat) (A2 : Option Addr) (l2 c2 : Nat) (B : Nat) (w : World)
    (hr : DocRt w B (.agg #[.slice A1 l1 c1, .slice A2 l2 c2]) D) (hn : n ≤ 20000) (hn' : n' ≤ 20000) (hl : x.sl.length = n) (hl' : x.st.length = n') (hbd : ∀ p s, -4398046511104 ≤ (T p s).1.pos ∧ (T p s).1.pos ≤ 4398046511104) (hs : x.sh = true) (ha : (T x.f 1).2 = 0) (hb : (T x.t (-1)).2 = 0) (hin : ((T x.f 1).1.inside && (T x.t (-1)).1.inside) = false) (hk : x.k = 3) :
    Calls Tryz.prog 141 #[.agg (stp x.k x.f x.t x.g x.h x.i x.m x.v A n c A' n' c'), .agg #[.slice A1 l1 c1, .slice A2 l2 c2]] w fun e w' => e = .returned (.tuple #[stepV (shiftB T x) A n c A' n' c', .bool (shiftB T x).isSome]) ∧ Below w.heap.size w w' := by
  have hsh := fun W (hb : Below w.heap.size w W) (k f t g h i m v : Int) => calls_on hb (rshape_any k f t g h i m v A A' n n' c c' W hn hn')
  have HSH := Lib.hid hsh
  have hrow := fun W (hb : Below w.heap.size w W) (from_ : Int) (hx : 0 ≤ x.f ∧ x.f ≤ x.t ∧ x.t ≤ 1073741824) (hf : -4398046511104 ≤ from_ ∧ from_ ≤ 4398046511104) => calls_on hb (rrow_any T D hD x A n c A' n' c' A1 l1 c1 A2 l2 c2 from_ B W (hr.ext (hb.mono hr.1)) hx hf)
  have HROW := Lib.hid hrow
  have ht := fun W (hb : Below w.heap.size w W) (p s : Int) => calls_on hb (hr.2 W (hb.mono hr.1) p s)
  have HT := Lib.hid ht
  have hB := hr.1
  clear hsh hrow ht hr
  obtain ⟨xk, xf, xt, xg, xh, xi, xm, xv, xsl, xst⟩ := x
  simp only at hl hl' HROW hs ha hb hin hk ⊢
  subst hk
  have hxs : (StC.mk 3 xf xt xg xh xi xm xv xsl xst).sh = shB 3 xf xt xg xh xi xm xv n n' := by rw [← hl, ← hl']; rfl
  have k2 : Bk ((((w.alloc (.cells (stp 3 xf xt xg xh xi xm xv A n c A' n' c') 45)).alloc (.cells #[.slice A1 l1 c1, .slice A2 l2 c2] 245)).alloc (.cells (stp 0 0 0 0 0 0 0 0 none 0 0 none 0 0) 45)).alloc (.cells (stp 0 0 0 0 0 0 0 0 none 0 0 none 0 0) 45)) w.heap.size 45 (stp 3 xf xt xg xh xi xm xv A n c A' n' c') := (((Bk.new w _ _).alloc _).alloc _).alloc _
  have k3 : Bk ((((w.alloc (.cells (stp 3 xf xt xg xh xi xm xv A n c A' n' c') 45)).alloc (.cells #[.slice A1 l1 c1, .slice A2 l2 c2] 245)).alloc (.cells (stp 0 0 0 0 0 0 0 0 none 0 0 none 0 0) 45)).alloc (.cells (stp 0 0 0 0 0 0 0 0 none 0 0 none 0 0) 45)) (w.heap.size + 1) 245 #[.slice A1 l1 c1, .slice A2 l2 c2] := ((Bk.made _ _ (by simp)).alloc _).alloc _
  have k4 : Bk ((((w.alloc (.cells (stp 3 xf xt xg xh xi xm xv A n c A' n' c') 45)).alloc (.cells #[.slice A1 l1 c1, .slice A2 l2 c2] 245)).alloc (.cells (stp 0 0 0 0 0 0 0 0 none 0 0 none 0 0) 45)).alloc (.cells (stp 0 0 0 0 0 0 0 0 none 0 0 none 0 0) 45)) (w.heap.size + 1 + 1) 45 (stp 0 0 0 0 0 0 0 0 none 0 0 none 0 0) := (Bk.made _ _ (by simp)).alloc _
  have k6 : Bk ((((w.alloc (.cells (stp 3 xf xt xg xh xi xm xv A n c A' n' c') 45)).alloc (.cells #[.slice A1 l1 c1, .slice A2 l2 c2] 245)).alloc (.cells (stp 0 0 0 0 0 0 0 0 none 0 0 none 0 0) 45)).alloc (.cells (stp 0 0 0 0 0 0 0 0 none 0 0 none 0 0) 45)) (w.heap.size + 1 + 1 + 1) 45 (stp 0 0 0 0 0 0 0 0 none 0 0 none 0 0) := Bk.made _ _ (by simp)
  have hb0 : Below w.heap.size w ((((w.alloc (.cells (stp 3 xf xt xg xh xi xm xv A n c A' n' c') 45)).alloc (.cells #[.slice A1 l1 c1, .slice A2 l2 c2] 245)).alloc (.cells (stp 0 0 0 0 0 0 0 0 none 0 0 none 0 0) 45)).alloc (.cells (stp 0 0 0 0 0 0 0 0 none 0 0 none 0 0) 45)) := belowA
  go_enter Tryz.func141, Tryz.ntmps141
  go_upto_region 2 with fail
  generalize hw0 : (((w.alloc (.cells (stp 3 xf xt xg xh xi xm xv A n c A' n' c') 45)).alloc (.cells #[.slice A1 l1 c1, .slice A2 l2 c2] 245)).alloc (.cells #[.int .i64 0, .int .i64 0, .int .i64 0, .int .i64 0, .int .i64 0, .int .i64 0, .int .i64 0, .int .i64 0, .slice none 0 0, .slice none 0 0] 45)).alloc (.cells #[.int .i64 0, .int .i64 0, .int .i64 0, .int .i64 0, .int .i64 0, .int .i64 0, .int .i64 0, .int .i64 0, .slice none 0 0, .slice none 0 0] 45) = w0 at *
  clear hw0
  obtain ⟨p0, p1, p2, p3, p4, p5, p6, p7, p8, p9⟩ := bk10 k2
  have hs0 := HSH.out w0 hb0 3 xf xt xg xh xi xm xv
  have hsv : shB 3 xf xt xg xh xi xm xv n n' = true := by rw [← hxs]; exact hs
  rw [hsv] at hs0 hxs
  obtain ⟨⟨z0, z1, z2⟩, hkk, h2k, h1k⟩ := shB_spec hsv
  have HS0 := Lib.hid hs0
  have HXS := Lib.hid hxs
  clear hs0 hxs hsv
  go_upto_region 4 with (go_at_call 65; (refine HS0.out.mono ?_); rintro e w1 ⟨rfl, hb1, hz1, hx1⟩)
  have j2 := k2.ext hx1; have j3 := k3.ext hx1; have j4 := k4.ext hx1; have j6 := k6.ext hx1
  clear p0 p1 p2 p3 p4 p5 p6 p7 p8 p9 HS0
  obtain ⟨p0, p1, p2, p3, p4, p5, p6, p7, p8, p9⟩ := bk10 j2; have r0 := j3.cell 0; have r1 := j3.cell 1; dsimp at r0 r1
  obtain ⟨a4, a5, hDa⟩ := hD.good ha
  obtain ⟨⟨⟨a1, a2, a3, a6, a7⟩, a8⟩, hTa⟩ : ∃ y, T xf 1 = y := ⟨_, rfl⟩
  rw [hTa] at hDa
  simp only at hDa
  obtain ⟨b4, b5, hDb⟩ := hD.good hb
  obtain ⟨⟨⟨b1, b2, b3, b6, b7⟩, b8⟩, hTb⟩ : ∃ y, T xt (-1) = y := ⟨_, rfl⟩
  rw [hTb] at hDb
  simp only at hDb
  rw [hTa, hTb] at hin
  simp only at hin
  have hsd := shift_d (T := T) (x := ⟨3, xf, xt, xg, xh, xi, xm, xv, xsl, xst⟩) HXS.out ha hb (by rw [hTa, hTb]; simpa using hin)
  rw [hTa, hTb] at hsd
  simp only at hsd
  have hba := hbd xf 1
  have hbb := hbd xt (-1)
  rw [hTa] at hba
  rw [hTb] at hbb
  simp only at hba hbb
  have HSD := Lib.hid hsd
  clear hsd
  have hcase : a3 = false ∨ a3 = true ∧ b3 = false := by revert hin; cases a3 <;> cases b3 <;> simp
  clear hin hTa hTb
  rcases hcase with rfl | ⟨rfl, rfl⟩
  · have hta := HT.out w1 hb1 xf (1)
    rw [hDa] at hta
    simp only [Pl.val] at hta
    have HTa := Lib.hid hta
    clear hta
    go_upto_region 5 with (go_at_call 183; (refine HTa.out.mono ?_); rintro e w2 ⟨rfl, hw2, hzw2, hxw2⟩; have q0 := (j3.ext hxw2).cell 0)
    have m2 := (j2.ext hxw2).alloc (.cells #[.int .i64 a1, .bool a2, .bool false, .int .i64 a4, .int .i64 a5] 301)
    have m3 := (j3.ext hxw2).alloc (.cells #[.int .i64 a1, .bool a2, .bool false, .int .i64 a4, .int .i64 a5] 301)
    have m4 := (j4.ext hxw2).alloc (.cells #[.int .i64 a1, .bool a2, .bool false, .int .i64 a4, .int .i64 a5] 301)
    have m6 := (j6.ext hxw2).alloc (.cells #[.int .i64 a1, .bool a2, .bool false, .int .i64 a4, .int .i64 a5] 301)
    have ma := Bk.new w2 301 #[.int .i64 a1, .bool a2, .bool false, .int .i64 a4, .int .i64 a5]
    have hbm : Below w.heap.size w (w2.alloc (.cells #[.int .i64 a1, .bool a2, .bool false, .int .i64 a4, .int .i64 a5] 301)) := belowA
    generalize hmE : w2.alloc (.cells #[.int .i64 a1, .bool a2, .bool false, .int .i64 a4, .int .i64 a5] 301) = mw at *
    clear hmE
    obtain ⟨na, hna⟩ : ∃ na, w2.heap.size = na := ⟨_, rfl⟩
    rw [hna] at ma ⊢
    obtain ⟨p0, p1, p2, p3, p4, p5, p6, p7, p8, p9⟩ := bk10 m2; have r0 := m3.cell 0; have r1 := m3.cell 1; dsimp at r0 r1
    have htb := HT.out mw hbm xt (-1)
    rw [hDb] at htb
    simp only [Pl.val] at htb
    have HTb := Lib.hid htb
    clear htb
    go_upto_region 6 with (go_at_call 183; (refine HTb.out.mono ?_); rintro e w3 ⟨rfl, hw3, hzw3, hxw3⟩; have q0 := (m3.ext hxw3).cell 0)
    have u2 := (m2.ext hxw3).alloc (.cells #[.int .i64 b1, .bool b2, .bool b3, .int .i64 b4, .int .i64 b5] 301)
    have u3 := (m3.ext hxw3).alloc (.cells #[.int .i64 b1, .bool b2, .bool b3, .int .i64 b4, .int .i64 b5] 301)
    have u4 := (m4.ext hxw3).alloc (.cells #[.int .i64 b1, .bool b2, .bool b3, .int .i64 b4, .int .i64 b5] 301)
    have u6 := (m6.ext hxw3).alloc (.cells #[.int .i64 b1, .bool b2, .bool b3, .int .i64 b4, .int .i64 b5] 301)
    have ua := (ma.ext hxw3).alloc (.cells #[.int .i64 b1, .bool b2, .bool b3, .int .i64 b4, .int .i64 b5] 301)
    have ub := Bk.new w3 301 #[.int .i64 b1, .bool b2, .bool b3, .int .i64 b4, .int .i64 b5]
    have hbu : Below w.heap.size w (w3.alloc (.cells #[.int .i64 b1, .bool b2, .bool b3, .int .i64 b4, .int .i64 b5] 301)) := belowA
    generalize huE : w3.alloc (.cells #[.int .i64 b1, .bool b2, .bool b3, .int .i64 b4, .int .i64 b5] 301) = uw at *
    clear huE
    obtain ⟨nb, hnb⟩ : ∃ nb, w3.heap.size = nb := ⟨_, rfl⟩
    rw [hnb] at ub ⊢
    obtain ⟨p0, p1, p2, p3, p4, p5, p6, p7, p8, p9⟩ := bk10 u2; have s2 := ua.cell 2; have t2 := ub.cell 2; dsimp at s2 t2
    go_upto_region 9 with fail
    have hbv : Below w.heap.size w (uw.alloc (.cells (stp 3 xf xt xg xh xi xm xv A n c A' n' c') 45)) := by have := hbu.size; exact belowA
    have v2 := u2.alloc (.cells (stp 3 xf xt xg xh xi xm xv A n c A' n' c') 45)
    have v3 := u3.alloc (.cells (stp 3 xf xt xg xh xi xm xv A n c A' n' c') 45)
    have v4 := u4.alloc (.cells (stp 3 xf xt xg xh xi xm xv A n c A' n' c') 45)
    have v6 := u6.alloc (.cells (stp 3 xf xt xg xh xi xm xv A n c A' n' c') 45)
    have va := ua.alloc (.cells (stp 3 xf xt xg xh xi xm xv A n c A' n' c') 45)
    have vb := ub.alloc (.cells (stp 3 xf xt xg xh xi xm xv A n c A' n' c') 45)
    have vL := Bk.new uw 45 (stp 3 xf xt xg xh xi xm xv A n c A' n' c')
    generalize hvE : uw.alloc (.cells #[.int .i64 3, .int .i64 xf, .int .i64 xt, .int .i64 xg, .int .i64 xh, .int .i64 xi, .int .i64 xm, .int .i64 xv, .slice A n c, .slice A' n' c'] 45) = vw at *
    clear hvE
    obtain ⟨nL, hnL⟩ : ∃ nL, uw.heap.size = nL := ⟨_, rfl⟩
    have g2 := def_lt' u2; have g3 := def_lt' u3; have g4 := def_lt' u4; have g6 := def_lt' u6; have ga := def_lt' ua; have gb := def_lt' ub
    rw [hnL] at vL g2 g3 g4 g6 ga gb ⊢
    clear p0 p1 p2 p3 p4 p5 p6 p7 p8 p9 s2 t2 q0
    have s0 := va.cell 0; have t0 := vb.cell 0; have fL := vL.frozen; have lL := def_lt' vL
    dsimp at s0 t0
    obtain ⟨e0, e1, e2, e3, e4, e5, e6, e7, e8, e9⟩ := bk10 vL
    go_upto_region 11 with fail
    obtain ⟨t1, ht1⟩ : ∃ t1, (if a1 < b1 then b1 else a1) = t1 := ⟨_, rfl⟩
    rw [ht1]
    have hmx : max a1 b1 = t1 := by rw [← ht1]; split <;> omega
    have hsd := HSD.out
    rw [hmx] at hsd
    have HSQ := Lib.hid hsd
    clear hsd
    have hb5 : Below w.heap.size w ((vw.setCell ⟨nL, 1, none⟩ (.int .i64 a1)).setCell ⟨nL, 2, none⟩ (.int .i64 t1)) := by have := hbv.size; exact belowA
    have y2 := (v2.far (p := ⟨nL, 1, none⟩) (by simp <;> omega) (.int .i64 a1)).far (p := ⟨nL, 2, none⟩) (by simp <;> omega) (.int .i64 t1)
    have y3 := (v3.far (p := ⟨nL, 1, none⟩) (by simp <;> omega) (.int .i64 a1)).far (p := ⟨nL, 2, none⟩) (by simp <;> omega) (.int .i64 t1)
    have y4 := (v4.far (p := ⟨nL, 1, none⟩) (by simp <;> omega) (.int .i64 a1)).far (p := ⟨nL, 2, none⟩) (by simp <;> omega) (.int .i64 t1)
    have y6 := (v6.far (p := ⟨nL, 1, none⟩) (by simp <;> omega) (.int .i64 a1)).far (p := ⟨nL, 2, none⟩) (by simp <;> omega) (.int .i64 t1)
    have ya := (va.far (p := ⟨nL, 1, none⟩) (by simp <;> omega) (.int .i64 a1)).far (p := ⟨nL, 2, none⟩) (by simp <;> omega) (.int .i64 t1)
    have yb := (vb.far (p := ⟨nL, 1, none⟩) (by simp <;> omega) (.int .i64 a1)).far (p := ⟨nL, 2, none⟩) (by simp <;> omega) (.int .i64 t1)
    have yL : Bk ((vw.setCell ⟨nL, 1, none⟩ (.int .i64 a1)).setCell ⟨nL, 2, none⟩ (.int .i64 t1)) nL 45 (stp 3 a1 t1 xg xh xi xm xv A n c A' n' c') := (vL.set_ 1 _).set_ 2 _
    generalize hw5E : (vw.setCell ⟨nL, 1, none⟩ (.int .i64 a1)).setCell ⟨nL, 2, none⟩ (.int .i64 t1) = w5 at *
    clear hw5E
    clear e0 e1 e2 e3 e4 e5 e6 e7 e8 e9 s0 t0 hmx ht1 HSD
    obtain ⟨e0, e1, e2, e3, e4, e5, e6, e7, e8, e9⟩ := bk10 yL; have p0 := y2.cell 0; have t0 := yb.cell 0; dsimp [stp] at p0 t0
    by_cases h9 : b1 ≤ a1
    · have HNO := Lib.hid (fin_no HSQ.out (by unfold kindB; rw [if_neg (by simp), if_pos (by simp), if_neg (by omega)]) : shiftB T ⟨3, xf, xt, xg, xh, xi, xm, xv, xsl, xst⟩ = none)
      go_upto_region 19 with fail
      have l4 := def_lt' y4; have f4 := y4.frozen
      obtain ⟨dd0, dd1, dd2, dd3, dd4, dd5, dd6, dd7, dd8, dd9⟩ := bk10 y6
      obtain ⟨o0, o1, o2, o3, o4, o5, o6, o7, o8, o9⟩ := bk10 y4
      go_wp2
      have kz := stp_set y4 0 0 0 0 0 0 0 0 none 0 0 none 0 0
      have hzz := hb5.size
      have hbz : Below w.heap.size w (set10 w5 (w.heap.size + 1 + 1) 0 0 0 0 0 0 0 0 none 0 0 none 0 0) := belowA
      obtain ⟨q0, q1, q2, q3, q4, q5, q6, q7, q8, q9⟩ := bk10 kz
      exact bodyPost_ret (v := .tuple #[.agg (stp 0 0 0 0 0 0 0 0 none 0 0 none 0 0), .bool false]) (by simp [results, Tryz.results141, go_sem, q0, q1, q2, q3, q4, q5, q6, q7, q8, q9]) rfl ⟨by rw [HNO.out]; rfl, hbz⟩
    · have h8 : a1 < b1 := by omega
      have hfin : shiftB T ⟨3, xf, xt, xg, xh, xi, xm, xv, xsl, xst⟩ = (some ⟨3, a1, t1, xg, xh, xi, xm, xv, xsl, xst⟩).filter StC.sh := by
        rw [HSQ.out]
        unfold kindB
        rw [if_neg (by simp), if_pos (by simp), if_pos h8]
      have HZS := Lib.hid (fun (h : shB 3 a1 t1 xg xh xi xm xv n n' = true) => fin_some (z := ⟨3, a1, t1, xg, xh, xi, xm, xv, xsl, xst⟩) hfin (show shB 3 a1 t1 xg xh xi xm xv xsl.length xst.length = true by rw [hl, hl']; exact h))
      have HZN := Lib.hid (fun (h : shB 3 a1 t1 xg xh xi xm xv n n' = false) => fin_none (z := ⟨3, a1, t1, xg, xh, xi, xm, xv, xsl, xst⟩) hfin (show shB 3 a1 t1 xg xh xi xm xv xsl.length xst.length = false by rw [hl, hl']; exact h))
      clear hfin
      obtain ⟨e0, e1, e2, e3, e4, e5, e6, e7, e8, e9⟩ := bk10 yL; have p0 := y2.cell 0; dsimp [stp] at p0; have t0 := yb.cell 0; dsimp at t0
      have hsl := HSH.out w5 hb5 3 a1 t1 xg xh xi xm xv
      cases hsz : shB 3 a1 t1 xg xh xi xm xv n n' with
      | false =>
        rw [hsz] at hsl
        have HSZ := Lib.hid hsz
        have HSL := Lib.hid hsl
        clear hsz hsl
        go_upto_region 25 with (go_at_call 65; (refine HSL.out.mono ?_); rintro e wf ⟨rfl, hbf, hzf, hxf⟩; have q0 := (yL.ext hxf).cell 0)
        have j4 := y4.ext hxf; have j6 := y6.ext hxf; have l4 := def_lt' j4; have f4 := j4.frozen
        obtain ⟨dd0, dd1, dd2, dd3, dd4, dd5, dd6, dd7, dd8, dd9⟩ := bk10 j6
        obtain ⟨o0, o1, o2, o3, o4, o5, o6, o7, o8, o9⟩ := bk10 j4
        go_wp2
        have kz := stp_set j4 0 0 0 0 0 0 0 0 none 0 0 none 0 0
        have hzz := hbf.size
        have hbz : Below w.heap.size w (set10 wf (w.heap.size + 1 + 1) 0 0 0 0 0 0 0 0 none 0 0 none 0 0) := belowA
        obtain ⟨q0, q1, q2, q3, q4, q5, q6, q7, q8, q9⟩ := bk10 kz
        exact bodyPost_ret (v := .tuple #[.agg (stp 0 0 0 0 0 0 0 0 none 0 0 none 0 0), .bool false]) (by simp [results, Tryz.results141, go_sem, q0, q1, q2, q3, q4, q5, q6, q7, q8, q9]) rfl ⟨by rw [HZN.out HSZ.out]; rfl, hbz⟩
      | true =>
        rw [hsz] at hsl
        have HSZ := Lib.hid hsz
        have HSL := Lib.hid hsl
        clear hsz hsl
        go_upto_region 26 with (go_at_call 65; (refine HSL.out.mono ?_); rintro e wf ⟨rfl, hbf, hzf, hxf⟩; have q0 := (yL.ext hxf).cell 0)
        have j4 := y4.ext hxf; have jL := yL.ext hxf; have l4 := def_lt' j4; have f4 := j4.frozen
        obtain ⟨dd0, dd1, dd2, dd3, dd4, dd5, dd6, dd7, dd8, dd9⟩ := bk10 jL
        obtain ⟨o0, o1, o2, o3, o4, o5, o6, o7, o8, o9⟩ := bk10 j4
        go_wp2
        have kz := stp_set j4 3 a1 t1 xg xh xi xm xv A n c A' n' c'
        have hzz := hbf.size
        have hbz : Below w.heap.size w (set10 wf (w.heap.size + 1 + 1) 3 a1 t1 xg xh xi xm xv A n c A' n' c') := belowA
        obtain ⟨q0, q1, q2, q3, q4, q5, q6, q7, q8, q9⟩ := bk10 kz
        exact bodyPost_ret (v := .tuple #[.agg (stp 3 a1 t1 xg xh xi xm xv A n c A' n' c'), .bool true]) (by simp [results, Tryz.results141, go_sem, q0, q1, q2, q3, q4, q5, q6, q7, q8, q9]) rfl ⟨by rw [HZS.out HSZ.out]; rfl, hbz⟩
  · have hta := HT.out w1 hb1 xf (1)
    rw [hDa] at hta
    simp only [Pl.val] at hta
    have HTa := Lib.hid hta
    clear hta
    go_upto_region 5 with (go_at_call 183; (refine HTa.out.mono ?_); rintro e w2 ⟨rfl, hw2, hzw2, hxw2⟩; have q0 := (j3.ext hxw2).cell 0)
    have m2 := (j2.ext hxw2).alloc (.cells #[.int .i64 a1, .bool a2, .bool true, .int .i64 a4, .int .i64 a5] 301)
    have m3 := (j3.ext hxw2).alloc (.cells #[.int .i64 a1, .bool a2, .bool true, .int .i64 a4, .int .i64 a5] 301)
    have m4 := (j4.ext hxw2).alloc (.cells #[.int .i64 a1, .bool a2, .bool true, .int .i64 a4, .int .i64 a5] 301)
    have m6 := (j6.ext hxw2).alloc (.cells #[.int .i64 a1, .bool a2, .bool true, .int .i64 a4, .int .i64 a5] 301)
    have ma := Bk.new w2 301 #[.int .i64 a1, .bool a2, .bool true, .int .i64 a4, .int .i64 a5]
    have hbm : Below w.heap.size w (w2.alloc (.cells #[.int .i64 a1, .bool a2, .bool true, .int .i64 a4, .int .i64 a5] 301)) := belowA
    generalize hmE : w2.alloc (.cells #[.int .i64 a1, .bool a2, .bool true, .int .i64 a4, .int .i64 a5] 301) = mw at *
    clear hmE
    obtain ⟨na, hna⟩ : ∃ na, w2.heap.size = na := ⟨_, rfl⟩
    rw [hna] at ma ⊢
    obtain ⟨p0, p1, p2, p3, p4, p5, p6, p7, p8, p9⟩ := bk10 m2; have r0 := m3.cell 0; have r1 := m3.cell 1; dsimp at r0 r1
    have htb := HT.out mw hbm xt (-1)
    rw [hDb] at htb
    simp only [Pl.val] at htb
    have HTb := Lib.hid htb
    clear htb
    go_upto_region 6 with (go_at_call 183; (refine HTb.out.mono ?_); rintro e w3 ⟨rfl, hw3, hzw3, hxw3⟩; have q0 := (m3.ext hxw3).cell 0)
    have u2 := (m2.ext hxw3).alloc (.cells #[.int .i64 b1, .bool b2, .bool false, .int .i64 b4, .int .i64 b5] 301)
    have u3 := (m3.ext hxw3).alloc (.cells #[.int .i64 b1, .bool b2, .bool false, .int .i64 b4, .int .i64 b5] 301)
    have u4 := (m4.ext hxw3).alloc (.cells #[.int .i64 b1, .bool b2, .bool false, .int .i64 b4, .int .i64 b5] 301)
    have u6 := (m6.ext hxw3).alloc (.cells #[.int .i64 b1, .bool b2, .bool false, .int .i64 b4, .int .i64 b5] 301)
    have ua := (ma.ext hxw3).alloc (.cells #[.int .i64 b1, .bool b2, .bool false, .int .i64 b4, .int .i64 b5] 301)
    have ub := Bk.new w3 301 #[.int .i64 b1, .bool b2, .bool false, .int .i64 b4, .int .i64 b5]
    have hbu : Below w.heap.size w (w3.alloc (.cells #[.int .i64 b1, .bool b2, .bool false, .int .i64 b4, .int .i64 b5] 301)) := belowA
    generalize huE : w3.alloc (.cells #[.int .i64 b1, .bool b2, .bool false, .int .i64 b4, .int .i64 b5] 301) = uw at *
    clear huE
    obtain ⟨nb, hnb⟩ : ∃ nb, w3.heap.size = nb := ⟨_, rfl⟩
    rw [hnb] at ub ⊢
    obtain ⟨p0, p1, p2, p3, p4, p5, p6, p7, p8, p9⟩ := bk10 u2; have s2 := ua.cell 2; have t2 := ub.cell 2; dsimp at s2 t2
    go_upto_region 9 with fail
    have hbv : Below w.heap.size w (uw.alloc (.cells (stp 3 xf xt xg xh xi xm xv A n c A' n' c') 45)) := by have := hbu.size; exact belowA
    have v2 := u2.alloc (.cells (stp 3 xf xt xg xh xi xm xv A n c A' n' c') 45)
    have v3 := u3.alloc (.cells (stp 3 xf xt xg xh xi xm xv A n c A' n' c') 45)
    have v4 := u4.alloc (.cells (stp 3 xf xt xg xh xi xm xv A n c A' n' c') 45)
    have v6 := u6.alloc (.cells (stp 3 xf xt xg xh xi xm xv A n c A' n' c') 45)
    have va := ua.alloc (.cells (stp 3 xf xt xg xh xi xm xv A n c A' n' c') 45)
    have vb := ub.alloc (.cells (stp 3 xf xt xg xh xi xm xv A n c A' n' c') 45)
    have vL := Bk.new uw 45 (stp 3 xf xt xg xh xi xm xv A n c A' n' c')
    generalize hvE : uw.alloc (.cells #[.int .i64 3, .int .i64 xf, .int .i64 xt, .int .i64 xg, .int .i64 xh, .int .i64 xi, .int .i64 xm, .int .i64 xv, .slice A n c, .slice A' n' c'] 45) = vw at *
    clear hvE
    obtain ⟨nL, hnL⟩ : ∃ nL, uw.heap.size = nL := ⟨_, rfl⟩
    have g2 := def_lt' u2; have g3 := def_lt' u3; have g4 := def_lt' u4; have g6 := def_lt' u6; have ga := def_lt' ua; have gb := def_lt' ub
    rw [hnL] at vL g2 g3 g4 g6 ga gb ⊢
    clear p0 p1 p2 p3 p4 p5 p6 p7 p8 p9 s2 t2 q0
    have s0 := va.cell 0; have t0 := vb.cell 0; have fL := vL.frozen; have lL := def_lt' vL
    dsimp at s0 t0
    obtain ⟨e0, e1, e2, e3, e4, e5, e6, e7, e8, e9⟩ := bk10 vL
    go_upto_region 11 with fail
    obtain ⟨t1, ht1⟩ : ∃ t1, (if a1 < b1 then b1 else a1) = t1 := ⟨_, rfl⟩
    rw [ht1]
    have hmx : max a1 b1 = t1 := by rw [← ht1]; split <;> omega
    have hsd := HSD.out
    rw [hmx] at hsd
    have HSQ := Lib.hid hsd
    clear hsd
    have hb5 : Below w.heap.size w ((vw.setCell ⟨nL, 1, none⟩ (.int .i64 a1)).setCell ⟨nL, 2, none⟩ (.int .i64 t1)) := by have := hbv.size; exact belowA
    have y2 := (v2.far (p := ⟨nL, 1, none⟩) (by simp <;> omega) (.int .i64 a1)).far (p := ⟨nL, 2, none⟩) (by simp <;> omega) (.int .i64 t1)
    have y3 := (v3.far (p := ⟨nL, 1, none⟩) (by simp <;> omega) (.int .i64 a1)).far (p := ⟨nL, 2, none⟩) (by simp <;> omega) (.int .i64 t1)
    have y4 := (v4.far (p := ⟨nL, 1, none⟩) (by simp <;> omega) (.int .i64 a1)).far (p := ⟨nL, 2, none⟩) (by simp <;> omega) (.int .i64 t1)
    have y6 := (v6.far (p := ⟨nL, 1, none⟩) (by simp <;> omega) (.int .i64 a1)).far (p := ⟨nL, 2, none⟩) (by simp <;> omega) (.int .i64 t1)
    have ya := (va.far (p := ⟨nL, 1, none⟩) (by simp <;> omega) (.int .i64 a1)).far (p := ⟨nL, 2, none⟩) (by simp <;> omega) (.int .i64 t1)
    have yb := (vb.far (p := ⟨nL, 1, none⟩) (by simp <;> omega) (.int .i64 a1)).far (p := ⟨nL, 2, none⟩) (by simp <;> omega) (.int .i64 t1)
    have yL : Bk ((vw.setCell ⟨nL, 1, none⟩ (.int .i64 a1)).setCell ⟨nL, 2, none⟩ (.int .i64 t1)) nL 45 (stp 3 a1 t1 xg xh xi xm xv A n c A' n' c') := (vL.set_ 1 _).set_ 2 _
    generalize hw5E : (vw.setCell ⟨nL, 1, none⟩ (.int .i64 a1)).setCell ⟨nL, 2, none⟩ (.int .i64 t1) = w5 at *
    clear hw5E
    clear e0 e1 e2 e3 e4 e5 e6 e7 e8 e9 s0 t0 hmx ht1 HSD
    obtain ⟨e0, e1, e2, e3, e4, e5, e6, e7, e8, e9⟩ := bk10 yL; have p0 := y2.cell 0; have t0 := yb.cell 0; dsimp [stp] at p0 t0
    by_cases h9 : b1 ≤ a1
    · have HNO := Lib.hid (fin_no HSQ.out (by unfold kindB; rw [if_neg (by simp), if_pos (by simp), if_neg (by omega)]) : shiftB T ⟨3, xf, xt, xg, xh, xi, xm, xv, xsl, xst⟩ = none)
      go_upto_region 19 with fail
      have l4 := def_lt' y4; have f4 := y4.frozen
      obtain ⟨dd0, dd1, dd2, dd3, dd4, dd5, dd6, dd7, dd8, dd9⟩ := bk10 y6
      obtain ⟨o0, o1, o2, o3, o4, o5, o6, o7, o8, o9⟩ := bk10 y4
      go_wp2
      have kz := stp_set y4 0 0 0 0 0 0 0 0 none 0 0 none 0 0
      have hzz := hb5.size
      have hbz : Below w.heap.size w (set10 w5 (w.heap.size + 1 + 1) 0 0 0 0 0 0 0 0 none 0 0 none 0 0) := belowA
      obtain ⟨q0, q1, q2, q3, q4, q5, q6, q7, q8, q9⟩ := bk10 kz
      exact bodyPost_ret (v := .tuple #[.agg (stp 0 0 0 0 0 0 0 0 none 0 0 none 0 0), .bool false]) (by simp [results, Tryz.results141, go_sem, q0, q1, q2, q3, q4, q5, q6, q7, q8, q9]) rfl ⟨by rw [HNO.out]; rfl, hbz⟩
    · have h8 : a1 < b1 := by omega
      have hfin : shiftB T ⟨3, xf, xt, xg, xh, xi, xm, xv, xsl, xst⟩ = (some ⟨3, a1, t1, xg, xh, xi, xm, xv, xsl, xst⟩).filter StC.sh := by
        rw [HSQ.out]
        unfold kindB
        rw [if_neg (by simp), if_pos (by simp), if_pos h8]
      have HZS := Lib.hid (fun (h : shB 3 a1 t1 xg xh xi xm xv n n' = true) => fin_some (z := ⟨3, a1, t1, xg, xh, xi, xm, xv, xsl, xst⟩) hfin (show shB 3 a1 t1 xg xh xi xm xv xsl.length xst.length = true by rw [hl, hl']; exact h))
      have HZN := Lib.hid (fun (h : shB 3 a1 t1 xg xh xi xm xv n n' = false) => fin_none (z := ⟨3, a1, t1, xg, xh, xi, xm, xv, xsl, xst⟩) hfin (show shB 3 a1 t1 xg xh xi xm xv xsl.length xst.length = false by rw [hl, hl']; exact h))
      clear hfin
      obtain ⟨e0, e1, e2, e3, e4, e5, e6, e7, e8, e9⟩ := bk10 yL; have p0 := y2.cell 0; dsimp [stp] at p0; have t0 := yb.cell 0; dsimp at t0
      have hsl := HSH.out w5 hb5 3 a1 t1 xg xh xi xm xv
      cases hsz : shB 3 a1 t1 xg xh xi xm xv n n' with
      | false =>
        rw [hsz] at hsl
        have HSZ := Lib.hid hsz
        have HSL := Lib.hid hsl
        clear hsz hsl
        go_upto_region 25 with (go_at_call 65; (refine HSL.out.mono ?_); rintro e wf ⟨rfl, hbf, hzf, hxf⟩; have q0 := (yL.ext hxf).cell 0)
        have j4 := y4.ext hxf; have j6 := y6.ext hxf; have l4 := def_lt' j4; have f4 := j4.frozen
        obtain ⟨dd0, dd1, dd2, dd3, dd4, dd5, dd6, dd7, dd8, dd9⟩ := bk10 j6
        obtain ⟨o0, o1, o2, o3, o4, o5, o6, o7, o8, o9⟩ := bk10 j4
        go_wp2
        have kz := stp_set j4 0 0 0 0 0 0 0 0 none 0 0 none 0 0
        have hzz := hbf.size
        have hbz : Below w.heap.size w (set10 wf (w.heap.size + 1 + 1) 0 0 0 0 0 0 0 0 none 0 0 none 0 0) := belowA
        obtain ⟨q0, q1, q2, q3, q4, q5, q6, q7, q8, q9⟩ := bk10 kz
        exact bodyPost_ret (v := .tuple #[.agg (stp 0 0 0 0 0 0 0 0 none 0 0 none 0 0), .bool false]) (by simp [results, Tryz.results141, go_sem, q0, q1, q2, q3, q4, q5, q6, q7, q8, q9]) rfl ⟨by rw [HZN.out HSZ.out]; rfl, hbz⟩
      | true =>
        rw [hsz] at hsl
        have HSZ := Lib.hid hsz
        have HSL := Lib.hid hsl
        clear hsz hsl
        go_upto_region 26 with (go_at_call 65; (refine HSL.out.mono ?_); rintro e wf ⟨rfl, hbf, hzf, hxf⟩; have q0 := (yL.ext hxf).cell 0)
        have j4 := y4.ext hxf; have jL := yL.ext hxf; have l4 := def_lt' j4; have f4 := j4.frozen
        obtain ⟨dd0, dd1, dd2, dd3, dd4, dd5, dd6, dd7, dd8, dd9⟩ := bk10 jL
        obtain ⟨o0, o1, o2, o3, o4, o5, o6, o7, o8, o9⟩ := bk10 j4
        go_wp2
        have kz := stp_set j4 3 a1 t1 xg xh xi xm xv A n c A' n' c'
        have hzz := hbf.size
        have hbz : Below w.heap.size w (set10 wf (w.heap.size + 1 + 1) 3 a1 t1 xg xh xi xm xv A n c A' n' c') := belowA
        obtain ⟨q0, q1, q2, q3, q4, q5, q6, q7, q8, q9⟩ := bk10 kz
        exact bodyPost_ret (v := .tuple #[.agg (stp 3 a1 t1 xg xh xi xm xv A n c A' n' c'), .bool true]) (by simp [results, Tryz.results141, go_sem, q0, q1, q2, q3, q4, q5, q6, q7, q8, q9]) rfl ⟨by rw [HZS.out HSZ.out]; rfl, hbz⟩
set_option maxRecDepth 100000 in
set_option maxHeartbeats 8000000 in
theorem through_4 (T : Int → Int → Pl × Int) (D : Int → Int → Pl × Bool) (hD : DocTells T D) (x : StC) (A : Option Addr) (n c : Nat) (A' : Option Addr) (n' c' : Nat) (A1 : Option Addr) (l1 c1 : Nat) (A2 : Option Addr) (l2 c2 : Nat) (B : Nat) (w : World)
    (hr : DocRt w B (.agg #[.slice A1 l1 c1, .slice A2 l2 c2]) D) (hn : n ≤ 20000) (hn' : n' ≤ 20000) (hl : x.sl.length = n) (hl' : x.st.length = n') (hbd : ∀ p s, -4398046511104 ≤ (T p s).1.pos ∧ (T p s).1.pos ≤ 4398046511104) (hs : x.sh = true) (ha : (T x.f 1).2 = 0) (hb : (T x.t (-1)).2 = 0) (hin : ((T x.f 1).1.inside && (T x.t (-1)).1.inside) = false) (hk : x.k = 4) :
    Calls Tryz.prog 141 #[.agg (stp x.k x.f x.t x.g x.h x.i x.m x.v A n c A' n' c'), .agg #[.slice A1 l1 c1, .slice A2 l2 c2]] w fun e w' => e = .returned (.tuple #[stepV (shiftB T x) A n c A' n' c', .bool (shiftB T x).isSome]) ∧ Below w.heap.size w w' := by
  have hsh := fun W (hb : Below w.heap.size w W) (k f t g h i m v : Int) => calls_on hb (rshape_any k f t g h i m v A A' n n' c c' W hn hn')
  have HSH := Lib.hid hsh
  have hrow := fun W (hb : Below w.heap.size w W) (from_ : Int) (hx : 0 ≤ x.f ∧ x.f ≤ x.t ∧ x.t ≤ 1073741824) (hf : -4398046511104 ≤ from_ ∧ from_ ≤ 4398046511104) => calls_on hb (rrow_any T D hD x A n c A' n' c' A1 l1 c1 A2 l2 c2 from_ B W (hr.ext (hb.mono hr.1)) hx hf)
  have HROW := Lib.hid hrow
  have ht := fun W (hb : Below w.heap.size w W) (p s : Int) => calls_on hb (hr.2 W (hb.mono hr.1) p s)
  have HT := Lib.hid ht
  have hB := hr.1
  clear hsh hrow ht hr
  obtain ⟨xk, xf, xt, xg, xh, xi, xm, xv, xsl, xst⟩ := x
  simp only at hl hl' HROW hs ha hb hin hk ⊢
  subst hk
  have hxs : (StC.mk 4 xf xt xg xh xi xm xv xsl xst).sh = shB 4 xf xt xg xh xi xm xv n n' := by rw [← hl, ← hl']; rfl
  have k2 : Bk ((((w.alloc (.cells (stp 4 xf xt xg xh xi xm xv A n c A' n' c') 45)).alloc (.cells #[.slice A1 l1 c1, .slice A2 l2 c2] 245)).alloc (.cells (stp 0 0 0 0 0 0 0 0 none 0 0 none 0 0) 45)).alloc (.cells (stp 0 0 0 0 0 0 0 0 none 0 0 none 0 0) 45)) w.heap.size 45 (stp 4 xf xt xg xh xi xm xv A n c A' n' c') := (((Bk.new w _ _).alloc _).alloc _).alloc _
  have k3 : Bk ((((w.alloc (.cells (stp 4 xf xt xg xh xi xm xv A n c A' n' c') 45)).alloc (.cells #[.slice A1 l1 c1, .slice A2 l2 c2] 245)).alloc (.cells (stp 0 0 0 0 0 0 0 0 none 0 0 none 0 0) 45)).alloc (.cells (stp 0 0 0 0 0 0 0 0 none 0 0 none 0 0) 45)) (w.heap.size + 1) 245 #[.slice A1 l1 c1, .slice A2 l2 c2] := ((Bk.made _ _ (by simp)).alloc _).alloc _
  have k4 : Bk ((((w.alloc (.cells (stp 4 xf xt xg xh xi xm xv A n c A' n' c') 45)).alloc (.cells #[.slice A1 l1 c1, .slice A2 l2 c2] 245)).alloc (.cells (stp 0 0 0 0 0 0 0 0 none 0 0 none 0 0) 45)).alloc (.cells (stp 0 0 0 0 0 0 0 0 none 0 0 none 0 0) 45)) (w.heap.size + 1 + 1) 45 (stp 0 0 0 0 0 0 0 0 none 0 0 none 0 0) := (Bk.made _ _ (by simp)).alloc _
  have k6 : Bk ((((w.alloc (.cells (stp 4 xf xt xg xh xi xm xv A n c A' n' c') 45)).alloc (.cells #[.slice A1 l1 c1, .slice A2 l2 c2] 245)).alloc (.cells (stp 0 0 0 0 0 0 0 0 none 0 0 none 0 0) 45)).alloc (.cells (stp 0 0 0 0 0 0 0 0 none 0 0 none 0 0) 45)) (w.heap.size + 1 + 1 + 1) 45 (stp 0 0 0 0 0 0 0 0 none 0 0 none 0 0) := Bk.made _ _ (by simp)
  have hb0 : Below w.heap.size w ((((w.alloc (.cells (stp 4 xf xt xg xh xi xm xv A n c A' n' c') 45)).alloc (.cells #[.slice A1 l1 c1, .slice A2 l2 c2] 245)).alloc (.cells (stp 0 0 0 0 0 0 0 0 none 0 0 none 0 0) 45)).alloc (.cells (stp 0 0 0 0 0 0 0 0 none 0 0 none 0 0) 45)) := belowA
  go_enter Tryz.func141, Tryz.ntmps141
  go_upto_region 2 with fail
  generalize hw0 : (((w.alloc (.cells (stp 4 xf xt xg xh xi xm xv A n c A' n' c') 45)).alloc (.cells #[.slice A1 l1 c1, .slice A2 l2 c2] 245)).alloc (.cells #[.int .i64 0, .int .i64 0, .int .i64 0, .int .i64 0, .int .i64 0, .int .i64 0, .int .i64 0, .int .i64 0, .slice none 0 0, .slice none 0 0] 45)).alloc (.cells #[.int .i64 0, .int .i64 0, .int .i64 0, .int .i64 0, .int .i64 0, .int .i64 0, .int .i64 0, .int .i64 0, .slice none 0 0, .slice none 0 0] 45) = w0 at *
  clear hw0
  obtain ⟨p0, p1, p2, p3, p4, p5, p6, p7, p8, p9⟩ := bk10 k2
  have hs0 := HSH.out w0 hb0 4 xf xt xg xh xi xm xv
  have hsv : shB 4 xf xt xg xh xi xm xv n n' = true := by rw [← hxs]; exact hs
  rw [hsv] at hs0 hxs
  obtain ⟨⟨z0, z1, z2⟩, hkk, h2k, h1k⟩ := shB_spec hsv
  have HS0 := Lib.hid hs0
  have HXS := Lib.hid hxs
  clear hs0 hxs hsv
  go_upto_region 4 with (go_at_call 65; (refine HS0.out.mono ?_); rintro e w1 ⟨rfl, hb1, hz1, hx1⟩)
  have j2 := k2.ext hx1; have j3 := k3.ext hx1; have j4 := k4.ext hx1; have j6 := k6.ext hx1
  clear p0 p1 p2 p3 p4 p5 p6 p7 p8 p9 HS0
  obtain ⟨p0, p1, p2, p3, p4, p5, p6, p7, p8, p9⟩ := bk10 j2; have r0 := j3.cell 0; have r1 := j3.cell 1; dsimp at r0 r1
  obtain ⟨a4, a5, hDa⟩ := hD.good ha
  obtain ⟨⟨⟨a1, a2, a3, a6, a7⟩, a8⟩, hTa⟩ : ∃ y, T xf 1 = y := ⟨_, rfl⟩
  rw [hTa] at hDa
  simp only at hDa
  obtain ⟨b4, b5, hDb⟩ := hD.good hb
  obtain ⟨⟨⟨b1, b2, b3, b6, b7⟩, b8⟩, hTb⟩ : ∃ y, T xt (-1) = y := ⟨_, rfl⟩
  rw [hTb] at hDb
  simp only at hDb
  rw [hTa, hTb] at hin
  simp only at hin
  have hsd := shift_d (T := T) (x := ⟨4, xf, xt, xg, xh, xi, xm, xv, xsl, xst⟩) HXS.out ha hb (by rw [hTa, hTb]; simpa using hin)
  rw [hTa, hTb] at hsd
  simp only at hsd
  have hba := hbd xf 1
  have hbb := hbd xt (-1)
  rw [hTa] at hba
  rw [hTb] at hbb
  simp only at hba hbb
  have HSD := Lib.hid hsd
  clear hsd
  have hcase : a3 = false ∨ a3 = true ∧ b3 = false := by revert hin; cases a3 <;> cases b3 <;> simp
  clear hin hTa hTb
  rcases hcase with rfl | ⟨rfl, rfl⟩
  · have hta := HT.out w1 hb1 xf (1)
    rw [hDa] at hta
    simp only [Pl.val] at hta
    have HTa := Lib.hid hta
    clear hta
    go_upto_region 5 with (go_at_call 183; (refine HTa.out.mono ?_); rintro e w2 ⟨rfl, hw2, hzw2, hxw2⟩; have q0 := (j3.ext hxw2).cell 0)
    have m2 := (j2.ext hxw2).alloc (.cells #[.int .i64 a1, .bool a2, .bool false, .int .i64 a4, .int .i64 a5] 301)
    have m3 := (j3.ext hxw2).alloc (.cells #[.int .i64 a1, .bool a2, .bool false, .int .i64 a4, .int .i64 a5] 301)
    have m4 := (j4.ext hxw2).alloc (.cells #[.int .i64 a1, .bool a2, .bool false, .int .i64 a4, .int .i64 a5] 301)
    have m6 := (j6.ext hxw2).alloc (.cells #[.int .i64 a1, .bool a2, .bool false, .int .i64 a4, .int .i64 a5] 301)
    have ma := Bk.new w2 301 #[.int .i64 a1, .bool a2, .bool false, .int .i64 a4, .int .i64 a5]
    have hbm : Below w.heap.size w (w2.alloc (.cells #[.int .i64 a1, .bool a2, .bool false, .int .i64 a4, .int .i64 a5] 301)) := belowA
    generalize hmE : w2.alloc (.cells #[.int .i64 a1, .bool a2, .bool false, .int .i64 a4, .int .i64 a5] 301) = mw at *
    clear hmE
    obtain ⟨na, hna⟩ : ∃ na, w2.heap.size = na := ⟨_, rfl⟩
    rw [hna] at ma ⊢
    obtain ⟨p0, p1, p2, p3, p4, p5, p6, p7, p8, p9⟩ := bk10 m2; have r0 := m3.cell 0; have r1 := m3.cell 1; dsimp at r0 r1
    have htb := HT.out mw hbm xt (-1)
    rw [hDb] at htb
    simp only [Pl.val] at htb
    have HTb := Lib.hid htb
    clear htb
    go_upto_region 6 with (go_at_call 183; (refine HTb.out.mono ?_); rintro e w3 ⟨rfl, hw3, hzw3, hxw3⟩; have q0 := (m3.ext hxw3).cell 0)
    have u2 := (m2.ext hxw3).alloc (.cells #[.int .i64 b1, .bool b2, .bool b3, .int .i64 b4, .int .i64 b5] 301)
    have u3 := (m3.ext hxw3).alloc (.cells #[.int .i64 b1, .bool b2, .bool b3, .int .i64 b4, .int .i64 b5] 301)
    have u4 := (m4.ext hxw3).alloc (.cells #[.int .i64 b1, .bool b2, .bool b3, .int .i64 b4, .int .i64 b5] 301)
    have u6 := (m6.ext hxw3).alloc (.cells #[.int .i64 b1, .bool b2, .bool b3, .int .i64 b4, .int .i64 b5] 301)
    have ua := (ma.ext hxw3).alloc (.cells #[.int .i64 b1, .bool b2, .bool b3, .int .i64 b4, .int .i64 b5] 301)
    have ub := Bk.new w3 301 #[.int .i64 b1, .bool b2, .bool b3, .int .i64 b4, .int .i64 b5]
    have hbu : Below w.heap.size w (w3.alloc (.cells #[.int .i64 b1, .bool b2, .bool b3, .int .i64 b4, .int .i64 b5] 301)) := belowA
    generalize huE : w3.alloc (.cells #[.int .i64 b1, .bool b2, .bool b3, .int .i64 b4, .int .i64 b5] 301) = uw at *
    clear huE
    obtain ⟨nb, hnb⟩ : ∃ nb, w3.heap.size = nb := ⟨_, rfl⟩
    rw [hnb] at ub ⊢
    obtain ⟨p0, p1, p2, p3, p4, p5, p6, p7, p8, p9⟩ := bk10 u2; have s2 := ua.cell 2; have t2 := ub.cell 2; dsimp at s2 t2
    go_upto_region 9 with fail
    have hbv : Below w.heap.size w (uw.alloc (.cells (stp 4 xf xt xg xh xi xm xv A n c A' n' c') 45)) := by have := hbu.size; exact belowA
    have v2 := u2.alloc (.cells (stp 4 xf xt xg xh xi xm xv A n c A' n' c') 45)
    have v3 := u3.alloc (.cells (stp 4 xf xt xg xh xi xm xv A n c A' n' c') 45)
    have v4 := u4.alloc (.cells (stp 4 xf xt xg xh xi xm xv A n c A' n' c') 45)
    have v6 := u6.alloc (.cells (stp 4 xf xt xg xh xi xm xv A n c A' n' c') 45)
    have va := ua.alloc (.cells (stp 4 xf xt xg xh xi xm xv A n c A' n' c') 45)
    have vb := ub.alloc (.cells (stp 4 xf xt xg xh xi xm xv A n c A' n' c') 45)
    have vL := Bk.new uw 45 (stp 4 xf xt xg xh xi xm xv A n c A' n' c')
    generalize hvE : uw.alloc (.cells #[.int .i64 4, .int .i64 xf, .int .i64 xt, .int .i64 xg, .int .i64 xh, .int .i64 xi, .int .i64 xm, .int .i64 xv, .slice A n c, .slice A' n' c'] 45) = vw at *
    clear hvE
    obtain ⟨nL, hnL⟩ : ∃ nL, uw.heap.size = nL := ⟨_, rfl⟩
    have g2 := def_lt' u2; have g3 := def_lt' u3; have g4 := def_lt' u4; have g6 := def_lt' u6; have ga := def_lt' ua; have gb := def_lt' ub
    rw [hnL] at vL g2 g3 g4 g6 ga gb ⊢
    clear p0 p1 p2 p3 p4 p5 p6 p7 p8 p9 s2 t2 q0
    have s0 := va.cell 0; have t0 := vb.cell 0; have fL := vL.frozen; have lL := def_lt' vL
    dsimp at s0 t0
    obtain ⟨e0, e1, e2, e3, e4, e5, e6, e7, e8, e9⟩ := bk10 vL
    go_upto_region 11 with fail
    obtain ⟨t1, ht1⟩ : ∃ t1, (if a1 < b1 then b1 else a1) = t1 := ⟨_, rfl⟩
    rw [ht1]
    have hmx : max a1 b1 = t1 := by rw [← ht1]; split <;> omega
    have hsd := HSD.out
    rw [hmx] at hsd
    have HSQ := Lib.hid hsd
    clear hsd
    have hb5 : Below w.heap.size w ((vw.setCell ⟨nL, 1, none⟩ (.int .i64 a1)).setCell ⟨nL, 2, none⟩ (.int .i64 t1)) := by have := hbv.size; exact belowA
    have y2 := (v2.far (p := ⟨nL, 1, none⟩) (by simp <;> omega) (.int .i64 a1)).far (p := ⟨nL, 2, none⟩) (by simp <;> omega) (.int .i64 t1)
    have y3 := (v3.far (p := ⟨nL, 1, none⟩) (by simp <;> omega) (.int .i64 a1)).far (p := ⟨nL, 2, none⟩) (by simp <;> omega) (.int .i64 t1)
    have y4 := (v4.far (p := ⟨nL, 1, none⟩) (by simp <;> omega) (.int .i64 a1)).far (p := ⟨nL, 2, none⟩) (by simp <;> omega) (.int .i64 t1)
    have y6 := (v6.far (p := ⟨nL, 1, none⟩) (by simp <;> omega) (.int .i64 a1)).far (p := ⟨nL, 2, none⟩) (by simp <;> omega) (.int .i64 t1)
    have ya := (va.far (p := ⟨nL, 1, none⟩) (by simp <;> omega) (.int .i64 a1)).far (p := ⟨nL, 2, none⟩) (by simp <;> omega) (.int .i64 t1)
    have yb := (vb.far (p := ⟨nL, 1, none⟩) (by simp <;> omega) (.int .i64 a1)).far (p := ⟨nL, 2, none⟩) (by simp <;> omega) (.int .i64 t1)
    have yL : Bk ((vw.setCell ⟨nL, 1, none⟩ (.int .i64 a1)).setCell ⟨nL, 2, none⟩ (.int .i64 t1)) nL 45 (stp 4 a1 t1 xg xh xi xm xv A n c A' n' c') := (vL.set_ 1 _).set_ 2 _
    generalize hw5E : (vw.setCell ⟨nL, 1, none⟩ (.int .i64 a1)).setCell ⟨nL, 2, none⟩ (.int .i64 t1) = w5 at *
    clear hw5E
    clear e0 e1 e2 e3 e4 e5 e6 e7 e8 e9 s0 t0 hmx ht1 HSD
    obtain ⟨e0, e1, e2, e3, e4, e5, e6, e7, e8, e9⟩ := bk10 yL; have p0 := y2.cell 0; have t0 := yb.cell 0; dsimp [stp] at p0 t0
    by_cases h9 : b1 ≤ a1
    · have HNO := Lib.hid (fin_no HSQ.out (by unfold kindB; rw [if_neg (by simp), if_pos (by simp), if_neg (by omega)]) : shiftB T ⟨4, xf, xt, xg, xh, xi, xm, xv, xsl, xst⟩ = none)
      go_upto_region 19 with fail
      have l4 := def_lt' y4; have f4 := y4.frozen
      obtain ⟨dd0, dd1, dd2, dd3, dd4, dd5, dd6, dd7, dd8, dd9⟩ := bk10 y6
      obtain ⟨o0, o1, o2, o3, o4, o5, o6, o7, o8, o9⟩ := bk10 y4
      go_wp2
      have kz := stp_set y4 0 0 0 0 0 0 0 0 none 0 0 none 0 0
      have hzz := hb5.size
      have hbz : Below w.heap.size w (set10 w5 (w.heap.size + 1 + 1) 0 0 0 0 0 0 0 0 none 0 0 none 0 0) := belowA
      obtain ⟨q0, q1, q2, q3, q4, q5, q6, q7, q8, q9⟩ := bk10 kz
      exact bodyPost_ret (v := .tuple #[.agg (stp 0 0 0 0 0 0 0 0 none 0 0 none 0 0), .bool false]) (by simp [results, Tryz.results141, go_sem, q0, q1, q2, q3, q4, q5, q6, q7, q8, q9]) rfl ⟨by rw [HNO.out]; rfl, hbz⟩
    · have h8 : a1 < b1 := by omega
      have hfin : shiftB T ⟨4, xf, xt, xg, xh, xi, xm, xv, xsl, xst⟩ = (some ⟨4, a1, t1, xg, xh, xi, xm, xv, xsl, xst⟩).filter StC.sh := by
        rw [HSQ.out]
        unfold kindB
        rw [if_neg (by simp), if_pos (by simp), if_pos h8]
      have HZS := Lib.hid (fun (h : shB 4 a1 t1 xg xh xi xm xv n n' = true) => fin_some (z := ⟨4, a1, t1, xg, xh, xi, xm, xv, xsl, xst⟩) hfin (show shB 4 a1 t1 xg xh xi xm xv xsl.length xst.length = true by rw [hl, hl']; exact h))
      have HZN := Lib.hid (fun (h : shB 4 a1 t1 xg xh xi xm xv n n' = false) => fin_none (z := ⟨4, a1, t1, xg, xh, xi, xm, xv, xsl, xst⟩) hfin (show shB 4 a1 t1 xg xh xi xm xv xsl.length xst.length = false by rw [hl, hl']; exact h))
      clear hfin
      obtain ⟨e0, e1, e2, e3, e4, e5, e6, e7, e8, e9⟩ := bk10 yL; have p0 := y2.cell 0; dsimp [stp] at p0; have t0 := yb.cell 0; dsimp at t0
      have hsl := HSH.out w5 hb5 4 a1 t1 xg xh xi xm xv
      cases hsz : shB 4 a1 t1 xg xh xi xm xv n n' with
      | false =>
        rw [hsz] at hsl
        have HSZ := Lib.hid hsz
        have HSL := Lib.hid hsl
        clear hsz hsl
        go_upto_region 25 with (go_at_call 65; (refine HSL.out.mono ?_); rintro e wf ⟨rfl, hbf, hzf, hxf⟩; have q0 := (yL.ext hxf).cell 0)
        have j4 := y4.ext hxf; have j6 := y6.ext hxf; have l4 := def_lt' j4; have f4 := j4.frozen
        obtain ⟨dd0, dd1, dd2, dd3, dd4, dd5, dd6, dd7, dd8, dd9⟩ := bk10 j6
        obtain ⟨o0, o1, o2, o3, o4, o5, o6, o7, o8, o9⟩ := bk10 j4
        go_wp2
        have kz := stp_set j4 0 0 0 0 0 0 0 0 none 0 0 none 0 0
        have hzz := hbf.size
        have hbz : Below w.heap.size w (set10 wf (w.heap.size + 1 + 1) 0 0 0 0 0 0 0 0 none 0 0 none 0 0) := belowA
        obtain ⟨q0, q1, q2, q3, q4, q5, q6, q7, q8, q9⟩ := bk10 kz
        exact bodyPost_ret (v := .tuple #[.agg (stp 0 0 0 0 0 0 0 0 none 0 0 none 0 0), .bool false]) (by simp [results, Tryz.results141, go_sem, q0, q1, q2, q3, q4, q5, q6, q7, q8, q9]) rfl ⟨by rw [HZN.out HSZ.out]; rfl, hbz⟩
      | true =>
        rw [hsz] at hsl
        have HSZ := Lib.hid hsz
        have HSL := Lib.hid hsl
        clear hsz hsl
        go_upto_region 26 with (go_at_call 65; (refine HSL.out.mono ?_); rintro e wf ⟨rfl, hbf, hzf, hxf⟩; have q0 := (yL.ext hxf).cell 0)
        have j4 := y4.ext hxf; have jL := yL.ext hxf; have l4 := def_lt' j4; have f4 := j4.frozen
        obtain ⟨dd0, dd1, dd2, dd3, dd4, dd5, dd6, dd7, dd8, dd9⟩ := bk10 jL
        obtain ⟨o0, o1, o2, o3, o4, o5, o6, o7, o8, o9⟩ := bk10 j4
        go_wp2
        have kz := stp_set j4 4 a1 t1 xg xh xi xm xv A n c A' n' c'
        have hzz := hbf.size
        have hbz : Below w.heap.size w (set10 wf (w.heap.size + 1 + 1) 4 a1 t1 xg xh xi xm xv A n c A' n' c') := belowA
        obtain ⟨q0, q1, q2, q3, q4, q5, q6, q7, q8, q9⟩ := bk10 kz
        exact bodyPost_ret (v := .tuple #[.agg (stp 4 a1 t1 xg xh xi xm xv A n c A' n' c'), .bool true]) (by simp [results, Tryz.results141, go_sem, q0, q1, q2, q3, q4, q5, q6, q7, q8, q9]) rfl ⟨by rw [HZS.out HSZ.out]; rfl, hbz⟩
  · have hta := HT.out w1 hb1 xf (1)
    rw [hDa] at hta
    simp only [Pl.val] at hta
    have HTa := Lib.hid hta
    clear hta
    go_upto_region 5 with (go_at_call 183; (refine HTa.out.mono ?_); rintro e w2 ⟨rfl, hw2, hzw2, hxw2⟩; have q0 := (j3.ext hxw2).cell 0)
    have m2 := (j2.ext hxw2).alloc (.cells #[.int .i64 a1, .bool a2, .bool true, .int .i64 a4, .int .i64 a5] 301)
    have m3 := (j3.ext hxw2).alloc (.cells #[.int .i64 a1, .bool a2, .bool true, .int .i64 a4, .int .i64 a5] 301)
    have m4 := (j4.ext hxw2).alloc (.cells #[.int .i64 a1, .bool a2, .bool true, .int .i64 a4, .int .i64 a5] 301)
    have m6 := (j6.ext hxw2).alloc (.cells #[.int .i64 a1, .bool a2, .bool true, .int .i64 a4, .int .i64 a5] 301)
    have ma := Bk.new w2 301 #[.int .i64 a1, .bool a2, .bool true, .int .i64 a4, .int .i64 a5]
    have hbm : Below w.heap.size w (w2.alloc (.cells #[.int .i64 a1, .bool a2, .bool true, .int .i64 a4, .int .i64 a5] 301)) := belowA
    generalize hmE : w2.alloc (.cells #[.int .i64 a1, .bool a2, .bool true, .int .i64 a4, .int .i64 a5] 301) = mw at *
    clear hmE
    obtain ⟨na, hna⟩ : ∃ na, w2.heap.size = na := ⟨_, rfl⟩
    rw [hna] at ma ⊢
    obtain ⟨p0, p1, p2, p3, p4, p5, p6, p7, p8, p9⟩ := bk10 m2; have r0 := m3.cell 0; have r1 := m3.cell 1; dsimp at r0 r1
    have htb := HT.out mw hbm xt (-1)
    rw [hDb] at htb
    simp only [Pl.val] at htb
    have HTb := Lib.hid htb
    clear htb
    go_upto_region 6 with (go_at_call 183; (refine HTb.out.mono ?_); rintro e w3 ⟨rfl, hw3, hzw3, hxw3⟩; have q0 := (m3.ext hxw3).cell 0)
    have u2 := (m2.ext hxw3).alloc (.cells #[.int .i64 b1, .bool b2, .bool false, .int .i64 b4, .int .i64 b5] 301)
    have u3 := (m3.ext hxw3).alloc (.cells #[.int .i64 b1, .bool b2, .bool false, .int .i64 b4, .int .i64 b5] 301)
    have u4 := (m4.ext hxw3).alloc (.cells #[.int .i64 b1, .bool b2, .bool false, .int .i64 b4, .int .i64 b5] 301)
    have u6 := (m6.ext hxw3).alloc (.cells #[.int .i64 b1, .bool b2, .bool false, .int .i64 b4, .int .i64 b5] 301)
    have ua := (ma.ext hxw3).alloc (.cells #[.int .i64 b1, .bool b2, .bool false, .int .i64 b4, .int .i64 b5] 301)
    have ub := Bk.new w3 301 #[.int .i64 b1, .bool b2, .bool false, .int .i64 b4, .int .i64 b5]
    have hbu : Below w.heap.size w (w3.alloc (.cells #[.int .i64 b1, .bool b2, .bool false, .int .i64 b4, .int .i64 b5] 301)) := belowA
    generalize huE : w3.alloc (.cells #[.int .i64 b1, .bool b2, .bool false, .int .i64 b4, .int .i64 b5] 301) = uw at *
    clear huE
    obtain ⟨nb, hnb⟩ : ∃ nb, w3.heap.size = nb := ⟨_, rfl⟩
    rw [hnb] at ub ⊢
    obtain ⟨p0, p1, p2, p3, p4, p5, p6, p7, p8, p9⟩ := bk10 u2; have s2 := ua.cell 2; have t2 := ub.cell 2; dsimp at s2 t2
    go_upto_region 9 with fail
    have hbv : Below w.heap.size w (uw.alloc (.cells (stp 4 xf xt xg xh xi xm xv A n c A' n' c') 45)) := by have := hbu.size; exact belowA
    have v2 := u2.alloc (.cells (stp 4 xf xt xg xh xi xm xv A n c A' n' c') 45)
    have v3 := u3.alloc (.cells (stp 4 xf xt xg xh xi xm xv A n c A' n' c') 45)
    have v4 := u4.alloc (.cells (stp 4 xf xt xg xh xi xm xv A n c A' n' c') 45)
    have v6 := u6.alloc (.cells (stp 4 xf xt xg xh xi xm xv A n c A' n' c') 45)
    have va := ua.alloc (.cells (stp 4 xf xt xg xh xi xm xv A n c A' n' c') 45)
    have vb := ub.alloc (.cells (stp 4 xf xt xg xh xi xm xv A n c A' n' c') 45)
    have vL := Bk.new uw 45 (stp 4 xf xt xg xh xi xm xv A n c A' n' c')
    generalize hvE : uw.alloc (.cells #[.int .i64 4, .int .i64 xf, .int .i64 xt, .int .i64 xg, .int .i64 xh, .int .i64 xi, .int .i64 xm, .int .i64 xv, .slice A n c, .slice A' n' c'] 45) = vw at *
    clear hvE
    obtain ⟨nL, hnL⟩ : ∃ nL, uw.heap.size = nL := ⟨_, rfl⟩
    have g2 := def_lt' u2; have g3 := def_lt' u3; have g4 := def_lt' u4; have g6 := def_lt' u6; have ga := def_lt' ua; have gb := def_lt' ub
    rw [hnL] at vL g2 g3 g4 g6 ga gb ⊢
    clear p0 p1 p2 p3 p4 p5 p6 p7 p8 p9 s2 t2 q0
    have s0 := va.cell 0; have t0 := vb.cell 0; have fL := vL.frozen; have lL := def_lt' vL
    dsimp at s0 t0
    obtain ⟨e0, e1, e2, e3, e4, e5, e6, e7, e8, e9⟩ := bk10 vL
    go_upto_region 11 with fail
    obtain ⟨t1, ht1⟩ : ∃ t1, (if a1 < b1 then b1 else a1) = t1 := ⟨_, rfl⟩
    rw [ht1]
    have hmx : max a1 b1 = t1 := by rw [← ht1]; split <;> omega
    have hsd := HSD.out
    rw [hmx] at hsd
    have HSQ := Lib.hid hsd
    clear hsd
    have hb5 : Below w.heap.size w ((vw.setCell ⟨nL, 1, none⟩ (.int .i64 a1)).setCell ⟨nL, 2, none⟩ (.int .i64 t1)) := by have := hbv.size; exact belowA
    have y2 := (v2.far (p := ⟨nL, 1, none⟩) (by simp <;> omega) (.int .i64 a1)).far (p := ⟨nL, 2, none⟩) (by simp <;> omega) (.int .i64 t1)
    have y3 := (v3.far (p := ⟨nL, 1, none⟩) (by simp <;> omega) (.int .i64 a1)).far (p := ⟨nL, 2, none⟩) (by simp <;> omega) (.int .i64 t1)
    have y4 := (v4.far (p := ⟨nL, 1, none⟩) (by simp <;> omega) (.int .i64 a1)).far (p := ⟨nL, 2, none⟩) (by simp <;> omega) (.int .i64 t1)
    have y6 := (v6.far (p := ⟨nL, 1, none⟩) (by simp <;> omega) (.int .i64 a1)).far (p := ⟨nL, 2, none⟩) (by simp <;> omega) (.int .i64 t1)
    have ya := (va.far (p := ⟨nL, 1, none⟩) (by simp <;> omega) (.int .i64 a1)).far (p := ⟨nL, 2, none⟩) (by simp <;> omega) (.int .i64 t1)
    have yb := (vb.far (p := ⟨nL, 1, none⟩) (by simp <;> omega) (.int .i64 a1)).far (p := ⟨nL, 2, none⟩) (by simp <;> omega) (.int .i64 t1)
    have yL : Bk ((vw.setCell ⟨nL, 1, none⟩ (.int .i64 a1)).setCell ⟨nL, 2, none⟩ (.int .i64 t1)) nL 45 (stp 4 a1 t1 xg xh xi xm xv A n c A' n' c') := (vL.set_ 1 _).set_ 2 _
    generalize hw5E : (vw.setCell ⟨nL, 1, none⟩ (.int .i64 a1)).setCell ⟨nL, 2, none⟩ (.int .i64 t1) = w5 at *
    clear hw5E
    clear e0 e1 e2 e3 e4 e5 e6 e7 e8 e9 s0 t0 hmx ht1 HSD
    obtain ⟨e0, e1, e2, e3, e4, e5, e6, e7, e8, e9⟩ := bk10 yL; have p0 := y2.cell 0; have t0 := yb.cell 0; dsimp [stp] at p0 t0
    by_cases h9 : b1 ≤ a1
    · have HNO := Lib.hid (fin_no HSQ.out (by unfold kindB; rw [if_neg (by simp), if_pos (by simp), if_neg (by omega)]) : shiftB T ⟨4, xf, xt, xg, xh, xi, xm, xv, xsl, xst⟩ = none)
      go_upto_region 19 with fail
      have l4 := def_lt' y4; have f4 := y4.frozen
      obtain ⟨dd0, dd1, dd2, dd3, dd4, dd5, dd6, dd7, dd8, dd9⟩ := bk10 y6
      obtain ⟨o0, o1, o2, o3, o4, o5, o6, o7, o8, o9⟩ := bk10 y4
      go_wp2
      have kz := stp_set y4 0 0 0 0 0 0 0 0 none 0 0 none 0 0
      have hzz := hb5.size
      have hbz : Below w.heap.size w (set10 w5 (w.heap.size + 1 + 1) 0 0 0 0 0 0 0 0 none 0 0 none 0 0) := belowA
      obtain ⟨q0, q1, q2, q3, q4, q5, q6, q7, q8, q9⟩ := bk10 kz
      exact bodyPost_ret (v := .tuple #[.agg (stp 0 0 0 0 0 0 0 0 none 0 0 none 0 0), .bool false]) (by simp [results, Tryz.results141, go_sem, q0, q1, q2, q3, q4, q5, q6, q7, q8, q9]) rfl ⟨by rw [HNO.out]; rfl, hbz⟩
    · have h8 : a1 < b1 := by omega
      have hfin : shiftB T ⟨4, xf, xt, xg, xh, xi, xm, xv, xsl, xst⟩ = (some ⟨4, a1, t1, xg, xh, xi, xm, xv, xsl, xst⟩).filter StC.sh := by
        rw [HSQ.out]
        unfold kindB
        rw [if_neg (by simp), if_pos (by simp), if_pos h8]
      have HZS := Lib.hid (fun (h : shB 4 a1 t1 xg xh xi xm xv n n' = true) => fin_some (z := ⟨4, a1, t1, xg, xh, xi, xm, xv, xsl, xst⟩) hfin (show shB 4 a1 t1 xg xh xi xm xv xsl.length xst.length = true by rw [hl, hl']; exact h))
      have HZN := Lib.hid (fun (h : shB 4 a1 t1 xg xh xi xm xv n n' = false) => fin_none (z := ⟨4, a1, t1, xg, xh, xi, xm, xv, xsl, xst⟩) hfin (show shB 4 a1 t1 xg xh xi xm xv xsl.length xst.length = false by rw [hl, hl']; exact h))
      clear hfin
      obtain ⟨e0, e1, e2, e3, e4, e5, e6, e7, e8, e9⟩ := bk10 yL; have p0 := y2.cell 0; dsimp [stp] at p0; have t0 := yb.cell 0; dsimp at t0
      have hsl := HSH.out w5 hb5 4 a1 t1 xg xh xi xm xv
      cases hsz : shB 4 a1 t1 xg xh xi xm xv n n' with
      | false =>
        rw [hsz] at hsl
        have HSZ := Lib.hid hsz
        have HSL := Lib.hid hsl
        clear hsz hsl
        go_upto_region 25 with (go_at_call 65; (refine HSL.out.mono ?_); rintro e wf ⟨rfl, hbf, hzf, hxf⟩; have q0 := (yL.ext hxf).cell 0)
        have j4 := y4.ext hxf; have j6 := y6.ext hxf; have l4 := def_lt' j4; have f4 := j4.frozen
        obtain ⟨dd0, dd1, dd2, dd3, dd4, dd5, dd6, dd7, dd8, dd9⟩ := bk10 j6
        obtain ⟨o0, o1, o2, o3, o4, o5, o6, o7, o8, o9⟩ := bk10 j4
        go_wp2
        have kz := stp_set j4 0 0 0 0 0 0 0 0 none 0 0 none 0 0
        have hzz := hbf.size
        have hbz : Below w.heap.size w (set10 wf (w.heap.size + 1 + 1) 0 0 0 0 0 0 0 0 none 0 0 none 0 0) := belowA
        obtain ⟨q0, q1, q2, q3, q4, q5, q6, q7, q8, q9⟩ := bk10 kz
        exact bodyPost_ret (v := .tuple #[.agg (stp 0 0 0 0 0 0 0 0 none 0 0 none 0 0), .bool false]) (by simp [results, Tryz.results141, go_sem, q0, q1, q2, q3, q4, q5, q6, q7, q8, q9]) rfl ⟨by rw [HZN.out HSZ.out]; rfl, hbz⟩
      | true =>
        rw [hsz] at hsl
        have HSZ := Lib.hid hsz
        have HSL := Lib.hid hsl
        clear hsz hsl
        go_upto_region 26 with (go_at_call 65; (refine HSL.out.mono ?_); rintro e wf ⟨rfl, hbf, hzf, hxf⟩; have q0 := (yL.ext hxf).cell 0)
        have j4 := y4.ext hxf; have jL := yL.ext hxf; have l4 := def_lt' j4; have f4 := j4.frozen
        obtain ⟨dd0, dd1, dd2, dd3, dd4, dd5, dd6, dd7, dd8, dd9⟩ := bk10 jL
        obtain ⟨o0, o1, o2, o3, o4, o5, o6, o7, o8, o9⟩ := bk10 j4
        go_wp2
        have kz := stp_set j4 4 a1 t1 xg xh xi xm xv A n c A' n' c'
        have hzz := hbf.size
        have hbz : Below w.heap.size w (set10 wf (w.heap.size + 1 + 1) 4 a1 t1 xg xh xi xm xv A n c A' n' c') := belowA
        obtain ⟨q0, q1, q2, q3, q4, q5, q6, q7, q8, q9⟩ := bk10 kz
        exact bodyPost_ret (v := .tuple #[.agg (stp 4 a1 t1 xg xh xi xm xv A n c A' n' c'), .bool true]) (by simp [results, Tryz.results141, go_sem, q0, q1, q2, q3, q4, q5, q6, q7, q8, q9]) rfl ⟨by rw [HZS.out HSZ.out]; rfl, hbz⟩
end Go.Proofs.YtmacfoebfpljoaaGreat
