/- merged texts: RfU2 RfU2b -/
import Derived.Test.YtmacfoebfpljoaaGreatMf14
namespace Go.Proofs.YtmacfoebfpljoaaGreat
open Go.RowKit
set_option linter.unusedVariables false
set_option maxRecDepth 100000 in
set_option maxHeartbeats 8000000 in
theorem through_2a (T : Int → Int → Pl × Int) (D : Int → Int → Pl × Bool) (hD : DocTells T D) (x : StC) (A : Option Addr) (n c : Nat) (A' : Option Addr) (n' c' : Nat) (A1 : Option Addr) (l1 c1 : Nat) (A2 : Option Addr) (l2 c2 : Nat) (B : Nat) (w : World)
    (hr : DocRt w B (.agg #[.slice A1 l1 c1, .slice A2 l2 c2]) D) (hn : n ≤ 20000) (hn' : n' ≤ 20000) (hl : x.sl.length = n) (hl' : x.st.length = n') (hbd : ∀ p s, -4398046511104 ≤ (T p s).1.pos ∧ (T p s).1.pos ≤ 4398046511104) (hs : x.sh = true) (ha : (T x.f 1).2 = 0) (hb : (T x.t (-1)).2 = 0) (hin : ((T x.f 1).1.inside && (T x.t (-1)).1.inside) = false) (hk : x.k = 2) (hv : (T x.f 1).1.inside = false) :
    Calls Tryz.prog 141 #[.agg (stp x.k x.f x.t x.g x.h x.i x.m x.v A n c A' n' c'), .agg #[.slice A1 l1 c1, .slice A2 l2 c2]] w fun e w' => e = .returned (.tuple #[stepV (shiftB T x) A n c A' n' c', .bool (shiftB T x).isSome]) ∧ Below w.heap.size w w' := by
  have hsh := fun W (hb : Below w.heap.size w W) (k f t g h i m v : Int) => calls_on hb (rshape_any k f t g h i m v A A' n n' c c' W hn hn')
  have HSH := Lib.hid hsh
  have hrow := fun W (hb : Below w.heap.size w W) (from_ : Int) (hx : 0 ≤ x.f ∧ x.f ≤ x.t ∧ x.t ≤ 1073741824) (hf : -4398046511104 ≤ from_ ∧ from_ ≤ 4398046511104) => calls_on hb (rrow_any T D hD x A n c A' n' c' A1 l1 c1 A2 l2 c2 from_ B W (hr.ext (hb.mono hr.1)) hx hf)
  have HROW := Lib.hid hrow
  have ht := fun W (hb : Below w.heap.size w W) (p s : Int) => calls_on hb (hr.2 W (hb.mono hr.1) p s)
  have HT := Lib.hid ht
  have hB := hr.1
  clear hsh hrow ht hr
  obtain ⟨xk, xf, xt, xg, xh, xi, xm, xv, xsl, xst⟩ := x
  simp only at hl hl' HROW hs ha hb hin hk hv ⊢
  subst hk
  have hxs : (StC.mk 2 xf xt xg xh xi xm xv xsl xst).sh = shB 2 xf xt xg xh xi xm xv n n' := by rw [← hl, ← hl']; rfl
  have k2 : Bk ((((w.alloc (.cells (stp 2 xf xt xg xh xi xm xv A n c A' n' c') 45)).alloc (.cells #[.slice A1 l1 c1, .slice A2 l2 c2] 245)).alloc (.cells (stp 0 0 0 0 0 0 0 0 none 0 0 none 0 0) 45)).alloc (.cells (stp 0 0 0 0 0 0 0 0 none 0 0 none 0 0) 45)) w.heap.size 45 (stp 2 xf xt xg xh xi xm xv A n c A' n' c') := (((Bk.new w _ _).alloc _).alloc _).alloc _
  have k3 : Bk ((((w.alloc (.cells (stp 2 xf xt xg xh xi xm xv A n c A' n' c') 45)).alloc (.cells #[.slice A1 l1 c1, .slice A2 l2 c2] 245)).alloc (.cells (stp 0 0 0 0 0 0 0 0 none 0 0 none 0 0) 45)).alloc (.cells (stp 0 0 0 0 0 0 0 0 none 0 0 none 0 0) 45)) (w.heap.size + 1) 245 #[.slice A1 l1 c1, .slice A2 l2 c2] := ((Bk.made _ _ (by simp)).alloc _).alloc _
  have k4 : Bk ((((w.alloc (.cells (stp 2 xf xt xg xh xi xm xv A n c A' n' c') 45)).alloc (.cells #[.slice A1 l1 c1, .slice A2 l2 c2] 245)).alloc (.cells (stp 0 0 0 0 0 0 0 0 none 0 0 none 0 0) 45)).alloc (.cells (stp 0 0 0 0 0 0 0 0 none 0 0 none 0 0) 45)) (w.heap.size + 1 + 1) 45 (stp 0 0 0 0 0 0 0 0 none 0 0 none 0 0) := (Bk.made _ _ (by simp)).alloc _
  have k6 : Bk ((((w.alloc (.cells (stp 2 xf xt xg xh xi xm xv A n c A' n' c') 45)).alloc (.cells #[.slice A1 l1 c1, .slice A2 l2 c2] 245)).alloc (.cells (stp 0 0 0 0 0 0 0 0 none 0 0 none 0 0) 45)).alloc (.cells (stp 0 0 0 0 0 0 0 0 none 0 0 none 0 0) 45)) (w.heap.size + 1 + 1 + 1) 45 (stp 0 0 0 0 0 0 0 0 none 0 0 none 0 0) := Bk.made _ _ (by simp)
  have hb0 : Below w.heap.size w ((((w.alloc (.cells (stp 2 xf xt xg xh xi xm xv A n c A' n' c') 45)).alloc (.cells #[.slice A1 l1 c1, .slice A2 l2 c2] 245)).alloc (.cells (stp 0 0 0 0 0 0 0 0 none 0 0 none 0 0) 45)).alloc (.cells (stp 0 0 0 0 0 0 0 0 none 0 0 none 0 0) 45)) := belowA
  go_enter Tryz.func141, Tryz.ntmps141
  go_upto_region 2 with fail
  generalize hw0 : (((w.alloc (.cells (stp 2 xf xt xg xh xi xm xv A n c A' n' c') 45)).alloc (.cells #[.slice A1 l1 c1, .slice A2 l2 c2] 245)).alloc (.cells #[.int .i64 0, .int .i64 0, .int .i64 0, .int .i64 0, .int .i64 0, .int .i64 0, .int .i64 0, .int .i64 0, .slice none 0 0, .slice none 0 0] 45)).alloc (.cells #[.int .i64 0, .int .i64 0, .int .i64 0, .int .i64 0, .int .i64 0, .int .i64 0, .int .i64 0, .int .i64 0, .slice none 0 0, .slice none 0 0] 45) = w0 at *
  clear hw0
  obtain ⟨p0, p1, p2, p3, p4, p5, p6, p7, p8, p9⟩ := bk10 k2
  have hs0 := HSH.out w0 hb0 2 xf xt xg xh xi xm xv
  have hsv : shB 2 xf xt xg xh xi xm xv n n' = true := by rw [← hxs]; exact hs
  rw [hsv] at hs0 hxs
  obtain ⟨⟨z0, z1, z2⟩, hkk, h2k, h1k⟩ := shB_spec hsv
  have HS0 := Lib.hid hs0
  have HXS := Lib.hid hxs
  clear hs0 hxs hsv
  go_upto_region 4 with (go_at_call 65; (refine HS0.out.mono ?_); rintro e w1 ⟨rfl, hb1, hz1, hx1⟩)
  have j2 := k2.ext hx1; have j3 := k3.ext hx1; have j4 := k4.ext hx1; have j6 := k6.ext hx1
  clear p0 p1 p2 p3 p4 p5 p6 p7 p8 p9 HS0
  obtain ⟨p0, p1, p2, p3, p4, p5, p6, p7, p8, p9⟩ := bk10 j2; have r0 := j3.cell 0; have r1 := j3.cell 1; dsimp at r0 r1
  obtain ⟨a4, a5, hDa⟩ := hD.good ha
  obtain ⟨⟨⟨a1, a2, a3, a6, a7⟩, a8⟩, hTa⟩ : ∃ y, T xf 1 = y := ⟨_, rfl⟩
  rw [hTa] at hDa
  simp only at hDa
  obtain ⟨b4, b5, hDb⟩ := hD.good hb
  obtain ⟨⟨⟨b1, b2, b3, b6, b7⟩, b8⟩, hTb⟩ : ∃ y, T xt (-1) = y := ⟨_, rfl⟩
  rw [hTb] at hDb
  simp only at hDb
  rw [hTa, hTb] at hin
  simp only at hin
  rw [hTa] at hv
  simp only at hv
  have hsd := shift_d (T := T) (x := ⟨2, xf, xt, xg, xh, xi, xm, xv, xsl, xst⟩) HXS.out ha hb (by rw [hTa, hTb]; simpa using hin)
  rw [hTa, hTb] at hsd
  simp only at hsd
  have hba := hbd xf 1
  have hbb := hbd xt (-1)
  rw [hTa] at hba
  rw [hTb] at hbb
  simp only at hba hbb
  have HSD := Lib.hid hsd
  clear hsd
  obtain rfl : a3 = false := hv
  clear hin hTa hTb
  have hta := HT.out w1 hb1 xf (1)
  rw [hDa] at hta
  simp only [Pl.val] at hta
  have HTa := Lib.hid hta
  clear hta
  go_upto_region 5 with (go_at_call 183; (refine HTa.out.mono ?_); rintro e w2 ⟨rfl, hw2, hzw2, hxw2⟩; have q0 := (j3.ext hxw2).cell 0)
  have m2 := (j2.ext hxw2).alloc (.cells #[.int .i64 a1, .bool a2, .bool false, .int .i64 a4, .int .i64 a5] 301)
  have m3 := (j3.ext hxw2).alloc (.cells #[.int .i64 a1, .bool a2, .bool false, .int .i64 a4, .int .i64 a5] 301)
  have m4 := (j4.ext hxw2).alloc (.cells #[.int .i64 a1, .bool a2, .bool false, .int .i64 a4, .int .i64 a5] 301)
  have m6 := (j6.ext hxw2).alloc (.cells #[.int .i64 a1, .bool a2, .bool false, .int .i64 a4, .int .i64 a5] 301)
  have ma := Bk.new w2 301 #[.int .i64 a1, .bool a2, .bool false, .int .i64 a4, .int .i64 a5]
  have hbm : Below w.heap.size w (w2.alloc (.cells #[.int .i64 a1, .bool a2, .bool false, .int .i64 a4, .int .i64 a5] 301)) := belowA
  generalize hmE : w2.alloc (.cells #[.int .i64 a1, .bool a2, .bool false, .int .i64 a4, .int .i64 a5] 301) = mw at *
  clear hmE
  obtain ⟨na, hna⟩ : ∃ na, w2.heap.size = na := ⟨_, rfl⟩
  rw [hna] at ma ⊢
  obtain ⟨p0, p1, p2, p3, p4, p5, p6, p7, p8, p9⟩ := bk10 m2; have r0 := m3.cell 0; have r1 := m3.cell 1; dsimp at r0 r1
  have htb := HT.out mw hbm xt (-1)
  rw [hDb] at htb
  simp only [Pl.val] at htb
  have HTb := Lib.hid htb
  clear htb
  go_upto_region 6 with (go_at_call 183; (refine HTb.out.mono ?_); rintro e w3 ⟨rfl, hw3, hzw3, hxw3⟩; have q0 := (m3.ext hxw3).cell 0)
  have u2 := (m2.ext hxw3).alloc (.cells #[.int .i64 b1, .bool b2, .bool b3, .int .i64 b4, .int .i64 b5] 301)
  have u3 := (m3.ext hxw3).alloc (.cells #[.int .i64 b1, .bool b2, .bool b3, .int .i64 b4, .int .i64 b5] 301)
  have u4 := (m4.ext hxw3).alloc (.cells #[.int .i64 b1, .bool b2, .bool b3, .int .i64 b4, .int .i64 b5] 301)
  have u6 := (m6.ext hxw3).alloc (.cells #[.int .i64 b1, .bool b2, .bool b3, .int .i64 b4, .int .i64 b5] 301)
  have ua := (ma.ext hxw3).alloc (.cells #[.int .i64 b1, .bool b2, .bool b3, .int .i64 b4, .int .i64 b5] 301)
  have ub := Bk.new w3 301 #[.int .i64 b1, .bool b2, .bool b3, .int .i64 b4, .int .i64 b5]
  have hbu : Below w.heap.size w (w3.alloc (.cells #[.int .i64 b1, .bool b2, .bool b3, .int .i64 b4, .int .i64 b5] 301)) := belowA
  generalize huE : w3.alloc (.cells #[.int .i64 b1, .bool b2, .bool b3, .int .i64 b4, .int .i64 b5] 301) = uw at *
  clear huE
  obtain ⟨nb, hnb⟩ : ∃ nb, w3.heap.size = nb := ⟨_, rfl⟩
  rw [hnb] at ub ⊢
  obtain ⟨p0, p1, p2, p3, p4, p5, p6, p7, p8, p9⟩ := bk10 u2; have s2 := ua.cell 2; have t2 := ub.cell 2; dsimp at s2 t2
  go_upto_region 9 with fail
  have hbv : Below w.heap.size w (uw.alloc (.cells (stp 2 xf xt xg xh xi xm xv A n c A' n' c') 45)) := by have := hbu.size; exact belowA
  have v2 := u2.alloc (.cells (stp 2 xf xt xg xh xi xm xv A n c A' n' c') 45)
  have v3 := u3.alloc (.cells (stp 2 xf xt xg xh xi xm xv A n c A' n' c') 45)
  have v4 := u4.alloc (.cells (stp 2 xf xt xg xh xi xm xv A n c A' n' c') 45)
  have v6 := u6.alloc (.cells (stp 2 xf xt xg xh xi xm xv A n c A' n' c') 45)
  have va := ua.alloc (.cells (stp 2 xf xt xg xh xi xm xv A n c A' n' c') 45)
  have vb := ub.alloc (.cells (stp 2 xf xt xg xh xi xm xv A n c A' n' c') 45)
  have vL := Bk.new uw 45 (stp 2 xf xt xg xh xi xm xv A n c A' n' c')
  generalize hvE : uw.alloc (.cells #[.int .i64 2, .int .i64 xf, .int .i64 xt, .int .i64 xg, .int .i64 xh, .int .i64 xi, .int .i64 xm, .int .i64 xv, .slice A n c, .slice A' n' c'] 45) = vw at *
  clear hvE
  obtain ⟨nL, hnL⟩ : ∃ nL, uw.heap.size = nL := ⟨_, rfl⟩
  have g2 := def_lt' u2; have g3 := def_lt' u3; have g4 := def_lt' u4; have g6 := def_lt' u6; have ga := def_lt' ua; have gb := def_lt' ub
  rw [hnL] at vL g2 g3 g4 g6 ga gb ⊢
  clear p0 p1 p2 p3 p4 p5 p6 p7 p8 p9 s2 t2 q0
  have s0 := va.cell 0; have t0 := vb.cell 0; have fL := vL.frozen; have lL := def_lt' vL
  dsimp at s0 t0
  obtain ⟨e0, e1, e2, e3, e4, e5, e6, e7, e8, e9⟩ := bk10 vL
  go_upto_region 11 with fail
  obtain ⟨t1, ht1⟩ : ∃ t1, (if a1 < b1 then b1 else a1) = t1 := ⟨_, rfl⟩
  rw [ht1]
  have hmx : max a1 b1 = t1 := by rw [← ht1]; split <;> omega
  have hsd := HSD.out
  rw [hmx] at hsd
  have HSQ := Lib.hid hsd
  clear hsd
  have hb5 : Below w.heap.size w ((vw.setCell ⟨nL, 1, none⟩ (.int .i64 a1)).setCell ⟨nL, 2, none⟩ (.int .i64 t1)) := by have := hbv.size; exact belowA
  have y2 := (v2.far (p := ⟨nL, 1, none⟩) (by simp <;> omega) (.int .i64 a1)).far (p := ⟨nL, 2, none⟩) (by simp <;> omega) (.int .i64 t1)
  have y3 := (v3.far (p := ⟨nL, 1, none⟩) (by simp <;> omega) (.int .i64 a1)).far (p := ⟨nL, 2, none⟩) (by simp <;> omega) (.int .i64 t1)
  have y4 := (v4.far (p := ⟨nL, 1, none⟩) (by simp <;> omega) (.int .i64 a1)).far (p := ⟨nL, 2, none⟩) (by simp <;> omega) (.int .i64 t1)
  have y6 := (v6.far (p := ⟨nL, 1, none⟩) (by simp <;> omega) (.int .i64 a1)).far (p := ⟨nL, 2, none⟩) (by simp <;> omega) (.int .i64 t1)
  have ya := (va.far (p := ⟨nL, 1, none⟩) (by simp <;> omega) (.int .i64 a1)).far (p := ⟨nL, 2, none⟩) (by simp <;> omega) (.int .i64 t1)
  have yb := (vb.far (p := ⟨nL, 1, none⟩) (by simp <;> omega) (.int .i64 a1)).far (p := ⟨nL, 2, none⟩) (by simp <;> omega) (.int .i64 t1)
  have yL : Bk ((vw.setCell ⟨nL, 1, none⟩ (.int .i64 a1)).setCell ⟨nL, 2, none⟩ (.int .i64 t1)) nL 45 (stp 2 a1 t1 xg xh xi xm xv A n c A' n' c') := (vL.set_ 1 _).set_ 2 _
  generalize hw5E : (vw.setCell ⟨nL, 1, none⟩ (.int .i64 a1)).setCell ⟨nL, 2, none⟩ (.int .i64 t1) = w5 at *
  clear hw5E
  clear e0 e1 e2 e3 e4 e5 e6 e7 e8 e9 s0 t0 hmx ht1 HSD
  have p0 := y2.cell 0; have p3 := y2.cell 3; have p4 := y2.cell 4; dsimp [stp] at p0 p3 p4; have r0 := y3.cell 0; have r1 := y3.cell 1; dsimp at r0 r1
  by_cases hc : (T xg (-1)).2 = 0
  · by_cases hd : (T xh 1).2 = 0
    · obtain ⟨c4, c5, hDc⟩ := hD.good hc
      obtain ⟨⟨⟨c1, c2, c3, c6, c7⟩, c8⟩, hTc⟩ : ∃ y, T xg (-1) = y := ⟨_, rfl⟩
      rw [hTc] at hDc
      simp only at hDc
      obtain ⟨d4, d5, hDd⟩ := hD.good hd
      obtain ⟨⟨⟨d1, d2, d3, d6, d7⟩, d8⟩, hTd⟩ : ∃ y, T xh 1 = y := ⟨_, rfl⟩
      rw [hTd] at hDd
      simp only at hDd
      have HN1 := Lib.hid (fun (h1 : c1 < a1) => (fin_no HSQ.out (by unfold kindB; rw [if_pos rfl, if_neg (fun h => by have := h.2.2.1; rw [hTc] at this; simp only at this; omega)]) : shiftB T ⟨2, xf, xt, xg, xh, xi, xm, xv, xsl, xst⟩ = none))
      have HN2 := Lib.hid (fun (h1 : d1 < c1) => (fin_no HSQ.out (by unfold kindB; rw [if_pos rfl, if_neg (fun h => by have := h.2.2.2.1; rw [hTc, hTd] at this; simp only at this; omega)]) : shiftB T ⟨2, xf, xt, xg, xh, xi, xm, xv, xsl, xst⟩ = none))
      have HN3 := Lib.hid (fun (h1 : b1 < d1) => (fin_no HSQ.out (by unfold kindB; rw [if_pos rfl, if_neg (fun h => by have := h.2.2.2.2; rw [hTd] at this; simp only at this; omega)]) : shiftB T ⟨2, xf, xt, xg, xh, xi, xm, xv, xsl, xst⟩ = none))
      have hf : ¬ c1 < a1 → ¬ d1 < c1 → ¬ b1 < d1 → shiftB T ⟨2, xf, xt, xg, xh, xi, xm, xv, xsl, xst⟩ = (some ⟨2, a1, t1, c1, d1, xi, xm, xv, xsl, xst⟩).filter StC.sh := by
        intro h1 h2 h3
        rw [HSQ.out]
        unfold kindB
        rw [if_pos rfl, if_pos ⟨hc, hd, by rw [hTc]; simp only; omega, by rw [hTc, hTd]; simp only; omega, by rw [hTd]; simp only; omega⟩]
        rw [hTc, hTd]
      have HFI := Lib.hid hf
      clear hf hTc hTd
      have htc := HT.out w5 hb5 xg (-1)
      rw [hDc] at htc
      simp only [Pl.val] at htc
      have HTc := Lib.hid htc
      clear htc
      go_upto_region 13 with (go_at_call 183; (refine HTc.out.mono ?_); rintro e w6 ⟨rfl, hw6, hzw6, hxw6⟩; have q0 := (y3.ext hxw6).cell 0)
      have x2 := (y2.ext hxw6).alloc (.cells #[.int .i64 c1, .bool c2, .bool c3, .int .i64 c4, .int .i64 c5] 301)
      have x3 := (y3.ext hxw6).alloc (.cells #[.int .i64 c1, .bool c2, .bool c3, .int .i64 c4, .int .i64 c5] 301)
      have x4 := (y4.ext hxw6).alloc (.cells #[.int .i64 c1, .bool c2, .bool c3, .int .i64 c4, .int .i64 c5] 301)
      have x6 := (y6.ext hxw6).alloc (.cells #[.int .i64 c1, .bool c2, .bool c3, .int .i64 c4, .int .i64 c5] 301)
      have xa := (ya.ext hxw6).alloc (.cells #[.int .i64 c1, .bool c2, .bool c3, .int .i64 c4, .int .i64 c5] 301)
      have xb := (yb.ext hxw6).alloc (.cells #[.int .i64 c1, .bool c2, .bool c3, .int .i64 c4, .int .i64 c5] 301)
      have xL := (yL.ext hxw6).alloc (.cells #[.int .i64 c1, .bool c2, .bool c3, .int .i64 c4, .int .i64 c5] 301)
      have xc := Bk.new w6 301 #[.int .i64 c1, .bool c2, .bool c3, .int .i64 c4, .int .i64 c5]
      have hbx : Below w.heap.size w (w6.alloc (.cells #[.int .i64 c1, .bool c2, .bool c3, .int .i64 c4, .int .i64 c5] 301)) := belowA
      generalize hxE : w6.alloc (.cells #[.int .i64 c1, .bool c2, .bool c3, .int .i64 c4, .int .i64 c5] 301) = xw at *
      clear hxE
      obtain ⟨nc, hnc⟩ : ∃ nc, w6.heap.size = nc := ⟨_, rfl⟩
      rw [hnc] at xc ⊢
      have p4 := x2.cell 4; dsimp [stp] at p4; have r0 := x3.cell 0; have r1 := x3.cell 1; dsimp at r0 r1
      have htd := HT.out xw hbx xh (1)
      rw [hDd] at htd
      simp only [Pl.val] at htd
      have HTd := Lib.hid htd
      clear htd
      go_upto_region 14 with (go_at_call 183; (refine HTd.out.mono ?_); rintro e w8 ⟨rfl, hw8, hzw8, hxw8⟩; have q0 := (x3.ext hxw8).cell 0)
      have k2 := (x2.ext hxw8).alloc (.cells #[.int .i64 d1, .bool d2, .bool d3, .int .i64 d4, .int .i64 d5] 301)
      have k3 := (x3.ext hxw8).alloc (.cells #[.int .i64 d1, .bool d2, .bool d3, .int .i64 d4, .int .i64 d5] 301)
      have k4 := (x4.ext hxw8).alloc (.cells #[.int .i64 d1, .bool d2, .bool d3, .int .i64 d4, .int .i64 d5] 301)
      have k6 := (x6.ext hxw8).alloc (.cells #[.int .i64 d1, .bool d2, .bool d3, .int .i64 d4, .int .i64 d5] 301)
      have ka := (xa.ext hxw8).alloc (.cells #[.int .i64 d1, .bool d2, .bool d3, .int .i64 d4, .int .i64 d5] 301)
      have kb := (xb.ext hxw8).alloc (.cells #[.int .i64 d1, .bool d2, .bool d3, .int .i64 d4, .int .i64 d5] 301)
      have kL := (xL.ext hxw8).alloc (.cells #[.int .i64 d1, .bool d2, .bool d3, .int .i64 d4, .int .i64 d5] 301)
      have kc := (xc.ext hxw8).alloc (.cells #[.int .i64 d1, .bool d2, .bool d3, .int .i64 d4, .int .i64 d5] 301)
      have kd := Bk.new w8 301 #[.int .i64 d1, .bool d2, .bool d3, .int .i64 d4, .int .i64 d5]
      have hbk : Below w.heap.size w (w8.alloc (.cells #[.int .i64 d1, .bool d2, .bool d3, .int .i64 d4, .int .i64 d5] 301)) := belowA
      generalize hkE : w8.alloc (.cells #[.int .i64 d1, .bool d2, .bool d3, .int .i64 d4, .int .i64 d5] 301) = kw at *
      clear hkE
      obtain ⟨nd, hnd⟩ : ∃ nd, w8.heap.size = nd := ⟨_, rfl⟩
      rw [hnd] at kd ⊢
      have f8 := kL.frozen; have l8 := def_lt' kL; have c0 := kc.cell 0; have d0 := kd.cell 0; dsimp at c0 d0
      obtain ⟨e0, e1, e2, e3, e4, e5, e6, e7, e8, e9⟩ := bk10 kL
      go_upto_region 16 with fail
      have hb7 : Below w.heap.size w ((kw.setCell ⟨nL, 3, none⟩ (.int .i64 c1)).setCell ⟨nL, 4, none⟩ (.int .i64 d1)) := by have := hbk.size; exact belowA
      have z2 := (k2.far (p := ⟨nL, 3, none⟩) (by simp <;> omega) (.int .i64 c1)).far (p := ⟨nL, 4, none⟩) (by simp <;> omega) (.int .i64 d1)
      have z3 := (k3.far (p := ⟨nL, 3, none⟩) (by simp <;> omega) (.int .i64 c1)).far (p := ⟨nL, 4, none⟩) (by simp <;> omega) (.int .i64 d1)
      have z4 := (k4.far (p := ⟨nL, 3, none⟩) (by simp <;> omega) (.int .i64 c1)).far (p := ⟨nL, 4, none⟩) (by simp <;> omega) (.int .i64 d1)
      have z6 := (k6.far (p := ⟨nL, 3, none⟩) (by simp <;> omega) (.int .i64 c1)).far (p := ⟨nL, 4, none⟩) (by simp <;> omega) (.int .i64 d1)
      have za := (ka.far (p := ⟨nL, 3, none⟩) (by simp <;> omega) (.int .i64 c1)).far (p := ⟨nL, 4, none⟩) (by simp <;> omega) (.int .i64 d1)
      have zb := (kb.far (p := ⟨nL, 3, none⟩) (by simp <;> omega) (.int .i64 c1)).far (p := ⟨nL, 4, none⟩) (by simp <;> omega) (.int .i64 d1)
      have zL : Bk ((kw.setCell ⟨nL, 3, none⟩ (.int .i64 c1)).setCell ⟨nL, 4, none⟩ (.int .i64 d1)) nL 45 (stp 2 a1 t1 c1 d1 xi xm xv A n c A' n' c') := (kL.set_ 3 _).set_ 4 _
      generalize hw7E : (kw.setCell ⟨nL, 3, none⟩ (.int .i64 c1)).setCell ⟨nL, 4, none⟩ (.int .i64 d1) = w7 at *
      clear hw7E
      clear e0 e1 e2 e3 e4 e5 e6 e7 e8 e9 c0 d0 r0 r1 q0
      obtain ⟨e0, e1, e2, e3, e4, e5, e6, e7, e8, e9⟩ := bk10 zL; have t0 := zb.cell 0; dsimp at t0
      by_cases h1 : c1 < a1
      · go_upto_region 17 with fail
        have l4 := def_lt' z4; have f4 := z4.frozen
        obtain ⟨dd0, dd1, dd2, dd3, dd4, dd5, dd6, dd7, dd8, dd9⟩ := bk10 z6
        obtain ⟨o0, o1, o2, o3, o4, o5, o6, o7, o8, o9⟩ := bk10 z4
        go_wp2
        have kz := stp_set z4 0 0 0 0 0 0 0 0 none 0 0 none 0 0
        have hzz := hb7.size
        have hbz : Below w.heap.size w (set10 w7 (w.heap.size + 1 + 1) 0 0 0 0 0 0 0 0 none 0 0 none 0 0) := belowA
        obtain ⟨q0, q1, q2, q3, q4, q5, q6, q7, q8, q9⟩ := bk10 kz
        exact bodyPost_ret (v := .tuple #[.agg (stp 0 0 0 0 0 0 0 0 none 0 0 none 0 0), .bool false]) (by simp [results, Tryz.results141, go_sem, q0, q1, q2, q3, q4, q5, q6, q7, q8, q9]) rfl ⟨by rw [HN1.out (by omega)]; rfl, hbz⟩
      by_cases h2 : d1 < c1
      · go_upto_region 17 with fail
        have l4 := def_lt' z4; have f4 := z4.frozen
        obtain ⟨dd0, dd1, dd2, dd3, dd4, dd5, dd6, dd7, dd8, dd9⟩ := bk10 z6
        obtain ⟨o0, o1, o2, o3, o4, o5, o6, o7, o8, o9⟩ := bk10 z4
        go_wp2
        have kz := stp_set z4 0 0 0 0 0 0 0 0 none 0 0 none 0 0
        have hzz := hb7.size
        have hbz : Below w.heap.size w (set10 w7 (w.heap.size + 1 + 1) 0 0 0 0 0 0 0 0 none 0 0 none 0 0) := belowA
        obtain ⟨q0, q1, q2, q3, q4, q5, q6, q7, q8, q9⟩ := bk10 kz
        exact bodyPost_ret (v := .tuple #[.agg (stp 0 0 0 0 0 0 0 0 none 0 0 none 0 0), .bool false]) (by simp [results, Tryz.results141, go_sem, q0, q1, q2, q3, q4, q5, q6, q7, q8, q9]) rfl ⟨by rw [HN2.out (by omega)]; rfl, hbz⟩
      by_cases h3 : b1 < d1
      · go_upto_region 17 with fail
        have l4 := def_lt' z4; have f4 := z4.frozen
        obtain ⟨dd0, dd1, dd2, dd3, dd4, dd5, dd6, dd7, dd8, dd9⟩ := bk10 z6
        obtain ⟨o0, o1, o2, o3, o4, o5, o6, o7, o8, o9⟩ := bk10 z4
        go_wp2
        have kz := stp_set z4 0 0 0 0 0 0 0 0 none 0 0 none 0 0
        have hzz := hb7.size
        have hbz : Below w.heap.size w (set10 w7 (w.heap.size + 1 + 1) 0 0 0 0 0 0 0 0 none 0 0 none 0 0) := belowA
        obtain ⟨q0, q1, q2, q3, q4, q5, q6, q7, q8, q9⟩ := bk10 kz
        exact bodyPost_ret (v := .tuple #[.agg (stp 0 0 0 0 0 0 0 0 none 0 0 none 0 0), .bool false]) (by simp [results, Tryz.results141, go_sem, q0, q1, q2, q3, q4, q5, q6, q7, q8, q9]) rfl ⟨by rw [HN3.out (by omega)]; rfl, hbz⟩
      have hfin := HFI.out (by omega) (by omega) (by omega)
      have HZS := Lib.hid (fun (h : shB 2 a1 t1 c1 d1 xi xm xv n n' = true) => fin_some (z := ⟨2, a1, t1, c1, d1, xi, xm, xv, xsl, xst⟩) hfin (show shB 2 a1 t1 c1 d1 xi xm xv xsl.length xst.length = true by rw [hl, hl']; exact h))
      have HZN := Lib.hid (fun (h : shB 2 a1 t1 c1 d1 xi xm xv n n' = false) => fin_none (z := ⟨2, a1, t1, c1, d1, xi, xm, xv, xsl, xst⟩) hfin (show shB 2 a1 t1 c1 d1 xi xm xv xsl.length xst.length = false by rw [hl, hl']; exact h))
      clear hfin
      obtain ⟨e0, e1, e2, e3, e4, e5, e6, e7, e8, e9⟩ := bk10 zL; have p0 := z2.cell 0; dsimp [stp] at p0; have t0 := zb.cell 0; dsimp at t0
      have hsl := HSH.out w7 hb7 2 a1 t1 c1 d1 xi xm xv
      cases hsz : shB 2 a1 t1 c1 d1 xi xm xv n n' with
      | false =>
        rw [hsz] at hsl
        have HSZ := Lib.hid hsz
        have HSL := Lib.hid hsl
        clear hsz hsl
        go_upto_region 25 with (go_at_call 65; (refine HSL.out.mono ?_); rintro e wf ⟨rfl, hbf, hzf, hxf⟩; have q0 := (zL.ext hxf).cell 0)
        have j4 := z4.ext hxf; have j6 := z6.ext hxf; have l4 := def_lt' j4; have f4 := j4.frozen
        obtain ⟨dd0, dd1, dd2, dd3, dd4, dd5, dd6, dd7, dd8, dd9⟩ := bk10 j6
        obtain ⟨o0, o1, o2, o3, o4, o5, o6, o7, o8, o9⟩ := bk10 j4
        go_wp2
        have kz := stp_set j4 0 0 0 0 0 0 0 0 none 0 0 none 0 0
        have hzz := hbf.size
        have hbz : Below w.heap.size w (set10 wf (w.heap.size + 1 + 1) 0 0 0 0 0 0 0 0 none 0 0 none 0 0) := belowA
        obtain ⟨q0, q1, q2, q3, q4, q5, q6, q7, q8, q9⟩ := bk10 kz
        exact bodyPost_ret (v := .tuple #[.agg (stp 0 0 0 0 0 0 0 0 none 0 0 none 0 0), .bool false]) (by simp [results, Tryz.results141, go_sem, q0, q1, q2, q3, q4, q5, q6, q7, q8, q9]) rfl ⟨by rw [HZN.out HSZ.out]; rfl, hbz⟩
      | true =>
        rw [hsz] at hsl
        have HSZ := Lib.hid hsz
        have HSL := Lib.hid hsl
        clear hsz hsl
        go_upto_region 26 with (go_at_call 65; (refine HSL.out.mono ?_); rintro e wf ⟨rfl, hbf, hzf, hxf⟩; have q0 := (zL.ext hxf).cell 0)
        have j4 := z4.ext hxf; have jL := zL.ext hxf; have l4 := def_lt' j4; have f4 := j4.frozen
        obtain ⟨dd0, dd1, dd2, dd3, dd4, dd5, dd6, dd7, dd8, dd9⟩ := bk10 jL
        obtain ⟨o0, o1, o2, o3, o4, o5, o6, o7, o8, o9⟩ := bk10 j4
        go_wp2
        have kz := stp_set j4 2 a1 t1 c1 d1 xi xm xv A n c A' n' c'
        have hzz := hbf.size
        have hbz : Below w.heap.size w (set10 wf (w.heap.size + 1 + 1) 2 a1 t1 c1 d1 xi xm xv A n c A' n' c') := belowA
        obtain ⟨q0, q1, q2, q3, q4, q5, q6, q7, q8, q9⟩ := bk10 kz
        exact bodyPost_ret (v := .tuple #[.agg (stp 2 a1 t1 c1 d1 xi xm xv A n c A' n' c'), .bool true]) (by simp [results, Tryz.results141, go_sem, q0, q1, q2, q3, q4, q5, q6, q7, q8, q9]) rfl ⟨by rw [HZS.out HSZ.out]; rfl, hbz⟩
    · obtain ⟨c4, c5, hDc⟩ := hD.good hc
      obtain ⟨⟨⟨c1, c2, c3, c6, c7⟩, c8⟩, hTc⟩ : ∃ y, T xg (-1) = y := ⟨_, rfl⟩
      rw [hTc] at hDc
      simp only at hDc
      obtain ⟨d1, d2, d3, d4, d5, hDd⟩ := hD.bad hd
      have htc := HT.out w5 hb5 xg (-1)
      rw [hDc] at htc
      simp only [Pl.val] at htc
      have HTc := Lib.hid htc
      clear htc
      go_upto_region 13 with (go_at_call 183; (refine HTc.out.mono ?_); rintro e w6 ⟨rfl, hw6, hzw6, hxw6⟩; have q0 := (y3.ext hxw6).cell 0)
      have x2 := (y2.ext hxw6).alloc (.cells #[.int .i64 c1, .bool c2, .bool c3, .int .i64 c4, .int .i64 c5] 301)
      have x3 := (y3.ext hxw6).alloc (.cells #[.int .i64 c1, .bool c2, .bool c3, .int .i64 c4, .int .i64 c5] 301)
      have x4 := (y4.ext hxw6).alloc (.cells #[.int .i64 c1, .bool c2, .bool c3, .int .i64 c4, .int .i64 c5] 301)
      have x6 := (y6.ext hxw6).alloc (.cells #[.int .i64 c1, .bool c2, .bool c3, .int .i64 c4, .int .i64 c5] 301)
      have xa := (ya.ext hxw6).alloc (.cells #[.int .i64 c1, .bool c2, .bool c3, .int .i64 c4, .int .i64 c5] 301)
      have xb := (yb.ext hxw6).alloc (.cells #[.int .i64 c1, .bool c2, .bool c3, .int .i64 c4, .int .i64 c5] 301)
      have xL := (yL.ext hxw6).alloc (.cells #[.int .i64 c1, .bool c2, .bool c3, .int .i64 c4, .int .i64 c5] 301)
      have xc := Bk.new w6 301 #[.int .i64 c1, .bool c2, .bool c3, .int .i64 c4, .int .i64 c5]
      have hbx : Below w.heap.size w (w6.alloc (.cells #[.int .i64 c1, .bool c2, .bool c3, .int .i64 c4, .int .i64 c5] 301)) := belowA
      generalize hxE : w6.alloc (.cells #[.int .i64 c1, .bool c2, .bool c3, .int .i64 c4, .int .i64 c5] 301) = xw at *
      clear hxE
      obtain ⟨nc, hnc⟩ : ∃ nc, w6.heap.size = nc := ⟨_, rfl⟩
      rw [hnc] at xc ⊢
      have p4 := x2.cell 4; dsimp [stp] at p4; have r0 := x3.cell 0; have r1 := x3.cell 1; dsimp at r0 r1
      have htd := HT.out xw hbx xh (1)
      rw [hDd] at htd
      simp only [Pl.val] at htd
      have HTd := Lib.hid htd
      clear htd
      go_upto_region 14 with (go_at_call 183; (refine HTd.out.mono ?_); rintro e w8 ⟨rfl, hw8, hzw8, hxw8⟩; have q0 := (x3.ext hxw8).cell 0)
      have k2 := (x2.ext hxw8).alloc (.cells #[.int .i64 d1, .bool d2, .bool d3, .int .i64 d4, .int .i64 d5] 301)
      have k3 := (x3.ext hxw8).alloc (.cells #[.int .i64 d1, .bool d2, .bool d3, .int .i64 d4, .int .i64 d5] 301)
      have k4 := (x4.ext hxw8).alloc (.cells #[.int .i64 d1, .bool d2, .bool d3, .int .i64 d4, .int .i64 d5] 301)
      have k6 := (x6.ext hxw8).alloc (.cells #[.int .i64 d1, .bool d2, .bool d3, .int .i64 d4, .int .i64 d5] 301)
      have ka := (xa.ext hxw8).alloc (.cells #[.int .i64 d1, .bool d2, .bool d3, .int .i64 d4, .int .i64 d5] 301)
      have kb := (xb.ext hxw8).alloc (.cells #[.int .i64 d1, .bool d2, .bool d3, .int .i64 d4, .int .i64 d5] 301)
      have kL := (xL.ext hxw8).alloc (.cells #[.int .i64 d1, .bool d2, .bool d3, .int .i64 d4, .int .i64 d5] 301)
      have kc := (xc.ext hxw8).alloc (.cells #[.int .i64 d1, .bool d2, .bool d3, .int .i64 d4, .int .i64 d5] 301)
      have kd := Bk.new w8 301 #[.int .i64 d1, .bool d2, .bool d3, .int .i64 d4, .int .i64 d5]
      have hbk : Below w.heap.size w (w8.alloc (.cells #[.int .i64 d1, .bool d2, .bool d3, .int .i64 d4, .int .i64 d5] 301)) := belowA
      generalize hkE : w8.alloc (.cells #[.int .i64 d1, .bool d2, .bool d3, .int .i64 d4, .int .i64 d5] 301) = kw at *
      clear hkE
      obtain ⟨nd, hnd⟩ : ∃ nd, w8.heap.size = nd := ⟨_, rfl⟩
      rw [hnd] at kd ⊢
      have f8 := kL.frozen; have l8 := def_lt' kL; have c0 := kc.cell 0; have d0 := kd.cell 0; dsimp at c0 d0
      obtain ⟨e0, e1, e2, e3, e4, e5, e6, e7, e8, e9⟩ := bk10 kL
      go_upto_region 16 with fail
      have hb7 : Below w.heap.size w ((kw.setCell ⟨nL, 3, none⟩ (.int .i64 c1)).setCell ⟨nL, 4, none⟩ (.int .i64 d1)) := by have := hbk.size; exact belowA
      have z2 := (k2.far (p := ⟨nL, 3, none⟩) (by simp <;> omega) (.int .i64 c1)).far (p := ⟨nL, 4, none⟩) (by simp <;> omega) (.int .i64 d1)
      have z3 := (k3.far (p := ⟨nL, 3, none⟩) (by simp <;> omega) (.int .i64 c1)).far (p := ⟨nL, 4, none⟩) (by simp <;> omega) (.int .i64 d1)
      have z4 := (k4.far (p := ⟨nL, 3, none⟩) (by simp <;> omega) (.int .i64 c1)).far (p := ⟨nL, 4, none⟩) (by simp <;> omega) (.int .i64 d1)
      have z6 := (k6.far (p := ⟨nL, 3, none⟩) (by simp <;> omega) (.int .i64 c1)).far (p := ⟨nL, 4, none⟩) (by simp <;> omega) (.int .i64 d1)
      have za := (ka.far (p := ⟨nL, 3, none⟩) (by simp <;> omega) (.int .i64 c1)).far (p := ⟨nL, 4, none⟩) (by simp <;> omega) (.int .i64 d1)
      have zb := (kb.far (p := ⟨nL, 3, none⟩) (by simp <;> omega) (.int .i64 c1)).far (p := ⟨nL, 4, none⟩) (by simp <;> omega) (.int .i64 d1)
      have zL : Bk ((kw.setCell ⟨nL, 3, none⟩ (.int .i64 c1)).setCell ⟨nL, 4, none⟩ (.int .i64 d1)) nL 45 (stp 2 a1 t1 c1 d1 xi xm xv A n c A' n' c') := (kL.set_ 3 _).set_ 4 _
      generalize hw7E : (kw.setCell ⟨nL, 3, none⟩ (.int .i64 c1)).setCell ⟨nL, 4, none⟩ (.int .i64 d1) = w7 at *
      clear hw7E
      clear e0 e1 e2 e3 e4 e5 e6 e7 e8 e9 c0 d0 r0 r1 q0
      obtain ⟨e0, e1, e2, e3, e4, e5, e6, e7, e8, e9⟩ := bk10 zL; have t0 := zb.cell 0; dsimp at t0
      have HNO := Lib.hid (fin_no HSQ.out (by unfold kindB; rw [if_pos rfl, if_neg (fun h => hd h.2.1)]) : shiftB T ⟨2, xf, xt, xg, xh, xi, xm, xv, xsl, xst⟩ = none)
      go_upto_region 17 with fail
      have l4 := def_lt' z4; have f4 := z4.frozen
      obtain ⟨dd0, dd1, dd2, dd3, dd4, dd5, dd6, dd7, dd8, dd9⟩ := bk10 z6
      obtain ⟨o0, o1, o2, o3, o4, o5, o6, o7, o8, o9⟩ := bk10 z4
      go_wp2
      have kz := stp_set z4 0 0 0 0 0 0 0 0 none 0 0 none 0 0
      have hzz := hb7.size
      have hbz : Below w.heap.size w (set10 w7 (w.heap.size + 1 + 1) 0 0 0 0 0 0 0 0 none 0 0 none 0 0) := belowA
      obtain ⟨q0, q1, q2, q3, q4, q5, q6, q7, q8, q9⟩ := bk10 kz
      exact bodyPost_ret (v := .tuple #[.agg (stp 0 0 0 0 0 0 0 0 none 0 0 none 0 0), .bool false]) (by simp [results, Tryz.results141, go_sem, q0, q1, q2, q3, q4, q5, q6, q7, q8, q9]) rfl ⟨by rw [HNO.out]; rfl, hbz⟩
  · obtain ⟨c1, c2, c3, c4, c5, hDc⟩ := hD.bad hc
    obtain ⟨⟨⟨d1, d2, d3, d4, d5⟩, dok⟩, hDd⟩ : ∃ y, D xh 1 = y := ⟨_, rfl⟩
    have htc := HT.out w5 hb5 xg (-1)
    rw [hDc] at htc
    simp only [Pl.val] at htc
    have HTc := Lib.hid htc
    clear htc
    go_upto_region 13 with (go_at_call 183; (refine HTc.out.mono ?_); rintro e w6 ⟨rfl, hw6, hzw6, hxw6⟩; have q0 := (y3.ext hxw6).cell 0)
    have x2 := (y2.ext hxw6).alloc (.cells #[.int .i64 c1, .bool c2, .bool c3, .int .i64 c4, .int .i64 c5] 301)
    have x3 := (y3.ext hxw6).alloc (.cells #[.int .i64 c1, .bool c2, .bool c3, .int .i64 c4, .int .i64 c5] 301)
    have x4 := (y4.ext hxw6).alloc (.cells #[.int .i64 c1, .bool c2, .bool c3, .int .i64 c4, .int .i64 c5] 301)
    have x6 := (y6.ext hxw6).alloc (.cells #[.int .i64 c1, .bool c2, .bool c3, .int .i64 c4, .int .i64 c5] 301)
    have xa := (ya.ext hxw6).alloc (.cells #[.int .i64 c1, .bool c2, .bool c3, .int .i64 c4, .int .i64 c5] 301)
    have xb := (yb.ext hxw6).alloc (.cells #[.int .i64 c1, .bool c2, .bool c3, .int .i64 c4, .int .i64 c5] 301)
    have xL := (yL.ext hxw6).alloc (.cells #[.int .i64 c1, .bool c2, .bool c3, .int .i64 c4, .int .i64 c5] 301)
    have xc := Bk.new w6 301 #[.int .i64 c1, .bool c2, .bool c3, .int .i64 c4, .int .i64 c5]
    have hbx : Below w.heap.size w (w6.alloc (.cells #[.int .i64 c1, .bool c2, .bool c3, .int .i64 c4, .int .i64 c5] 301)) := belowA
    generalize hxE : w6.alloc (.cells #[.int .i64 c1, .bool c2, .bool c3, .int .i64 c4, .int .i64 c5] 301) = xw at *
    clear hxE
    obtain ⟨nc, hnc⟩ : ∃ nc, w6.heap.size = nc := ⟨_, rfl⟩
    rw [hnc] at xc ⊢
    have p4 := x2.cell 4; dsimp [stp] at p4; have r0 := x3.cell 0; have r1 := x3.cell 1; dsimp at r0 r1
    have htd := HT.out xw hbx xh (1)
    rw [hDd] at htd
    simp only [Pl.val] at htd
    have HTd := Lib.hid htd
    clear htd
    go_upto_region 14 with (go_at_call 183; (refine HTd.out.mono ?_); rintro e w8 ⟨rfl, hw8, hzw8, hxw8⟩; have q0 := (x3.ext hxw8).cell 0)
    have k2 := (x2.ext hxw8).alloc (.cells #[.int .i64 d1, .bool d2, .bool d3, .int .i64 d4, .int .i64 d5] 301)
    have k3 := (x3.ext hxw8).alloc (.cells #[.int .i64 d1, .bool d2, .bool d3, .int .i64 d4, .int .i64 d5] 301)
    have k4 := (x4.ext hxw8).alloc (.cells #[.int .i64 d1, .bool d2, .bool d3, .int .i64 d4, .int .i64 d5] 301)
    have k6 := (x6.ext hxw8).alloc (.cells #[.int .i64 d1, .bool d2, .bool d3, .int .i64 d4, .int .i64 d5] 301)
    have ka := (xa.ext hxw8).alloc (.cells #[.int .i64 d1, .bool d2, .bool d3, .int .i64 d4, .int .i64 d5] 301)
    have kb := (xb.ext hxw8).alloc (.cells #[.int .i64 d1, .bool d2, .bool d3, .int .i64 d4, .int .i64 d5] 301)
    have kL := (xL.ext hxw8).alloc (.cells #[.int .i64 d1, .bool d2, .bool d3, .int .i64 d4, .int .i64 d5] 301)
    have kc := (xc.ext hxw8).alloc (.cells #[.int .i64 d1, .bool d2, .bool d3, .int .i64 d4, .int .i64 d5] 301)
    have kd := Bk.new w8 301 #[.int .i64 d1, .bool d2, .bool d3, .int .i64 d4, .int .i64 d5]
    have hbk : Below w.heap.size w (w8.alloc (.cells #[.int .i64 d1, .bool d2, .bool d3, .int .i64 d4, .int .i64 d5] 301)) := belowA
    generalize hkE : w8.alloc (.cells #[.int .i64 d1, .bool d2, .bool d3, .int .i64 d4, .int .i64 d5] 301) = kw at *
    clear hkE
    obtain ⟨nd, hnd⟩ : ∃ nd, w8.heap.size = nd := ⟨_, rfl⟩
    rw [hnd] at kd ⊢
    have f8 := kL.frozen; have l8 := def_lt' kL; have c0 := kc.cell 0; have d0 := kd.cell 0; dsimp at c0 d0
    obtain ⟨e0, e1, e2, e3, e4, e5, e6, e7, e8, e9⟩ := bk10 kL
    go_upto_region 16 with fail
    have hb7 : Below w.heap.size w ((kw.setCell ⟨nL, 3, none⟩ (.int .i64 c1)).setCell ⟨nL, 4, none⟩ (.int .i64 d1)) := by have := hbk.size; exact belowA
    have z2 := (k2.far (p := ⟨nL, 3, none⟩) (by simp <;> omega) (.int .i64 c1)).far (p := ⟨nL, 4, none⟩) (by simp <;> omega) (.int .i64 d1)
    have z3 := (k3.far (p := ⟨nL, 3, none⟩) (by simp <;> omega) (.int .i64 c1)).far (p := ⟨nL, 4, none⟩) (by simp <;> omega) (.int .i64 d1)
    have z4 := (k4.far (p := ⟨nL, 3, none⟩) (by simp <;> omega) (.int .i64 c1)).far (p := ⟨nL, 4, none⟩) (by simp <;> omega) (.int .i64 d1)
    have z6 := (k6.far (p := ⟨nL, 3, none⟩) (by simp <;> omega) (.int .i64 c1)).far (p := ⟨nL, 4, none⟩) (by simp <;> omega) (.int .i64 d1)
    have za := (ka.far (p := ⟨nL, 3, none⟩) (by simp <;> omega) (.int .i64 c1)).far (p := ⟨nL, 4, none⟩) (by simp <;> omega) (.int .i64 d1)
    have zb := (kb.far (p := ⟨nL, 3, none⟩) (by simp <;> omega) (.int .i64 c1)).far (p := ⟨nL, 4, none⟩) (by simp <;> omega) (.int .i64 d1)
    have zL : Bk ((kw.setCell ⟨nL, 3, none⟩ (.int .i64 c1)).setCell ⟨nL, 4, none⟩ (.int .i64 d1)) nL 45 (stp 2 a1 t1 c1 d1 xi xm xv A n c A' n' c') := (kL.set_ 3 _).set_ 4 _
    generalize hw7E : (kw.setCell ⟨nL, 3, none⟩ (.int .i64 c1)).setCell ⟨nL, 4, none⟩ (.int .i64 d1) = w7 at *
    clear hw7E
    clear e0 e1 e2 e3 e4 e5 e6 e7 e8 e9 c0 d0 r0 r1 q0
    obtain ⟨e0, e1, e2, e3, e4, e5, e6, e7, e8, e9⟩ := bk10 zL; have t0 := zb.cell 0; dsimp at t0
    have HNO := Lib.hid (fin_no HSQ.out (by unfold kindB; rw [if_pos rfl, if_neg (fun h => hc h.1)]) : shiftB T ⟨2, xf, xt, xg, xh, xi, xm, xv, xsl, xst⟩ = none)
    go_upto_region 17 with fail
    have l4 := def_lt' z4; have f4 := z4.frozen
    obtain ⟨dd0, dd1, dd2, dd3, dd4, dd5, dd6, dd7, dd8, dd9⟩ := bk10 z6
    obtain ⟨o0, o1, o2, o3, o4, o5, o6, o7, o8, o9⟩ := bk10 z4
    go_wp2
    have kz := stp_set z4 0 0 0 0 0 0 0 0 none 0 0 none 0 0
    have hzz := hb7.size
    have hbz : Below w.heap.size w (set10 w7 (w.heap.size + 1 + 1) 0 0 0 0 0 0 0 0 none 0 0 none 0 0) := belowA
    obtain ⟨q0, q1, q2, q3, q4, q5, q6, q7, q8, q9⟩ := bk10 kz
    exact bodyPost_ret (v := .tuple #[.agg (stp 0 0 0 0 0 0 0 0 none 0 0 none 0 0), .bool false]) (by simp [results, Tryz.results141, go_sem, q0, q1, q2, q3, q4, q5, q6, q7, q8, q9]) rfl ⟨by rw [HNO.out]; rfl, hbz⟩
set_option maxRecDepth 100000 in
set_option maxHeartbeats 8000000 in
theorem through_2b (T : Int → Int → Pl × Int) (D : Int → Int → Pl × Bool) (hD : DocTells T D) (x : StC) (A : Option Addr) (n c : Nat) (A' : Option Addr) (n' c' : Nat) (A1 : Option Addr) (l1 c1 : Nat) (A2 : Option Addr) (l2 c2 : Nat) (B : Nat) (w : World)
    (hr : DocRt w B (.agg #[.slice A1 l1 c1, .slice A2 l2 c2]) D) (hn : n ≤ 20000) (hn' : n' ≤ 20000) (hl : x.sl.length = n) (hl' : x.st.length = n') (hbd : ∀ p s, -4398046511104 ≤ (T p s).1.pos ∧ (T p s).1.pos ≤ 4398046511104) (hs : x.sh = true) (ha : (T x.f 1).2 = 0) (hb : (T x.t (-1)).2 = 0) (hin : ((T x.f 1).1.inside && (T x.t (-1)).1.inside) = false) (hk : x.k = 2) (hv : (T x.f 1).1.inside = true ∧ (T x.t (-1)).1.inside = false) :
    Calls Tryz.prog 141 #[.agg (stp x.k x.f x.t x.g x.h x.i x.m x.v A n c A' n' c'), .agg #[.slice A1 l1 c1, .slice A2 l2 c2]] w fun e w' => e = .returned (.tuple #[stepV (shiftB T x) A n c A' n' c', .bool (shiftB T x).isSome]) ∧ Below w.heap.size w w' := by
  have hsh := fun W (hb : Below w.heap.size w W) (k f t g h i m v : Int) => calls_on hb (rshape_any k f t g h i m v A A' n n' c c' W hn hn')
  have HSH := Lib.hid hsh
  have hrow := fun W (hb : Below w.heap.size w W) (from_ : Int) (hx : 0 ≤ x.f ∧ x.f ≤ x.t ∧ x.t ≤ 1073741824) (hf : -4398046511104 ≤ from_ ∧ from_ ≤ 4398046511104) => calls_on hb (rrow_any T D hD x A n c A' n' c' A1 l1 c1 A2 l2 c2 from_ B W (hr.ext (hb.mono hr.1)) hx hf)
  have HROW := Lib.hid hrow
  have ht := fun W (hb : Below w.heap.size w W) (p s : Int) => calls_on hb (hr.2 W (hb.mono hr.1) p s)
  have HT := Lib.hid ht
  have hB := hr.1
  clear hsh hrow ht hr
  obtain ⟨xk, xf, xt, xg, xh, xi, xm, xv, xsl, xst⟩ := x
  simp only at hl hl' HROW hs ha hb hin hk hv ⊢
  subst hk
  have hxs : (StC.mk 2 xf xt xg xh xi xm xv xsl xst).sh = shB 2 xf xt xg xh xi xm xv n n' := by rw [← hl, ← hl']; rfl
  have k2 : Bk ((((w.alloc (.cells (stp 2 xf xt xg xh xi xm xv A n c A' n' c') 45)).alloc (.cells #[.slice A1 l1 c1, .slice A2 l2 c2] 245)).alloc (.cells (stp 0 0 0 0 0 0 0 0 none 0 0 none 0 0) 45)).alloc (.cells (stp 0 0 0 0 0 0 0 0 none 0 0 none 0 0) 45)) w.heap.size 45 (stp 2 xf xt xg xh xi xm xv A n c A' n' c') := (((Bk.new w _ _).alloc _).alloc _).alloc _
  have k3 : Bk ((((w.alloc (.cells (stp 2 xf xt xg xh xi xm xv A n c A' n' c') 45)).alloc (.cells #[.slice A1 l1 c1, .slice A2 l2 c2] 245)).alloc (.cells (stp 0 0 0 0 0 0 0 0 none 0 0 none 0 0) 45)).alloc (.cells (stp 0 0 0 0 0 0 0 0 none 0 0 none 0 0) 45)) (w.heap.size + 1) 245 #[.slice A1 l1 c1, .slice A2 l2 c2] := ((Bk.made _ _ (by simp)).alloc _).alloc _
  have k4 : Bk ((((w.alloc (.cells (stp 2 xf xt xg xh xi xm xv A n c A' n' c') 45)).alloc (.cells #[.slice A1 l1 c1, .slice A2 l2 c2] 245)).alloc (.cells (stp 0 0 0 0 0 0 0 0 none 0 0 none 0 0) 45)).alloc (.cells (stp 0 0 0 0 0 0 0 0 none 0 0 none 0 0) 45)) (w.heap.size + 1 + 1) 45 (stp 0 0 0 0 0 0 0 0 none 0 0 none 0 0) := (Bk.made _ _ (by simp)).alloc _
  have k6 : Bk ((((w.alloc (.cells (stp 2 xf xt xg xh xi xm xv A n c A' n' c') 45)).alloc (.cells #[.slice A1 l1 c1, .slice A2 l2 c2] 245)).alloc (.cells (stp 0 0 0 0 0 0 0 0 none 0 0 none 0 0) 45)).alloc (.cells (stp 0 0 0 0 0 0 0 0 none 0 0 none 0 0) 45)) (w.heap.size + 1 + 1 + 1) 45 (stp 0 0 0 0 0 0 0 0 none 0 0 none 0 0) := Bk.made _ _ (by simp)
  have hb0 : Below w.heap.size w ((((w.alloc (.cells (stp 2 xf xt xg xh xi xm xv A n c A' n' c') 45)).alloc (.cells #[.slice A1 l1 c1, .slice A2 l2 c2] 245)).alloc (.cells (stp 0 0 0 0 0 0 0 0 none 0 0 none 0 0) 45)).alloc (.cells (stp 0 0 0 0 0 0 0 0 none 0 0 none 0 0) 45)) := belowA
  go_enter Tryz.func141, Tryz.ntmps141
  go_upto_region 2 with fail
  generalize hw0 : (((w.alloc (.cells (stp 2 xf xt xg xh xi xm xv A n c A' n' c') 45)).alloc (.cells #[.slice A1 l1 c1, .slice A2 l2 c2] 245)).alloc (.cells #[.int .i64 0, .int .i64 0, .int .i64 0, .int .i64 0, .int .i64 0, .int .i64 0, .int .i64 0, .int .i64 0, .slice none 0 0, .slice none 0 0] 45)).alloc (.cells #[.int .i64 0, .int .i64 0, .int .i64 0, .int .i64 0, .int .i64 0, .int .i64 0, .int .i64 0, .int .i64 0, .slice none 0 0, .slice none 0 0] 45) = w0 at *
  clear hw0
  obtain ⟨p0, p1, p2, p3, p4, p5, p6, p7, p8, p9⟩ := bk10 k2
  have hs0 := HSH.out w0 hb0 2 xf xt xg xh xi xm xv
  have hsv : shB 2 xf xt xg xh xi xm xv n n' = true := by rw [← hxs]; exact hs
  rw [hsv] at hs0 hxs
  obtain ⟨⟨z0, z1, z2⟩, hkk, h2k, h1k⟩ := shB_spec hsv
  have HS0 := Lib.hid hs0
  have HXS := Lib.hid hxs
  clear hs0 hxs hsv
  go_upto_region 4 with (go_at_call 65; (refine HS0.out.mono ?_); rintro e w1 ⟨rfl, hb1, hz1, hx1⟩)
  have j2 := k2.ext hx1; have j3 := k3.ext hx1; have j4 := k4.ext hx1; have j6 := k6.ext hx1
  clear p0 p1 p2 p3 p4 p5 p6 p7 p8 p9 HS0
  obtain ⟨p0, p1, p2, p3, p4, p5, p6, p7, p8, p9⟩ := bk10 j2; have r0 := j3.cell 0; have r1 := j3.cell 1; dsimp at r0 r1
  obtain ⟨a4, a5, hDa⟩ := hD.good ha
  obtain ⟨⟨⟨a1, a2, a3, a6, a7⟩, a8⟩, hTa⟩ : ∃ y, T xf 1 = y := ⟨_, rfl⟩
  rw [hTa] at hDa
  simp only at hDa
  obtain ⟨b4, b5, hDb⟩ := hD.good hb
  obtain ⟨⟨⟨b1, b2, b3, b6, b7⟩, b8⟩, hTb⟩ : ∃ y, T xt (-1) = y := ⟨_, rfl⟩
  rw [hTb] at hDb
  simp only at hDb
  rw [hTa, hTb] at hin
  simp only at hin
  rw [hTa, hTb] at hv
  simp only at hv
  have hsd := shift_d (T := T) (x := ⟨2, xf, xt, xg, xh, xi, xm, xv, xsl, xst⟩) HXS.out ha hb (by rw [hTa, hTb]; simpa using hin)
  rw [hTa, hTb] at hsd
  simp only at hsd
  have hba := hbd xf 1
  have hbb := hbd xt (-1)
  rw [hTa] at hba
  rw [hTb] at hbb
  simp only at hba hbb
  have HSD := Lib.hid hsd
  clear hsd
  obtain ⟨rfl, rfl⟩ : a3 = true ∧ b3 = false := hv
  clear hin hTa hTb
  have hta := HT.out w1 hb1 xf (1)
  rw [hDa] at hta
  simp only [Pl.val] at hta
  have HTa := Lib.hid hta
  clear hta
  go_upto_region 5 with (go_at_call 183; (refine HTa.out.mono ?_); rintro e w2 ⟨rfl, hw2, hzw2, hxw2⟩; have q0 := (j3.ext hxw2).cell 0)
  have m2 := (j2.ext hxw2).alloc (.cells #[.int .i64 a1, .bool a2, .bool true, .int .i64 a4, .int .i64 a5] 301)
  have m3 := (j3.ext hxw2).alloc (.cells #[.int .i64 a1, .bool a2, .bool true, .int .i64 a4, .int .i64 a5] 301)
  have m4 := (j4.ext hxw2).alloc (.cells #[.int .i64 a1, .bool a2, .bool true, .int .i64 a4, .int .i64 a5] 301)
  have m6 := (j6.ext hxw2).alloc (.cells #[.int .i64 a1, .bool a2, .bool true, .int .i64 a4, .int .i64 a5] 301)
  have ma := Bk.new w2 301 #[.int .i64 a1, .bool a2, .bool true, .int .i64 a4, .int .i64 a5]
  have hbm : Below w.heap.size w (w2.alloc (.cells #[.int .i64 a1, .bool a2, .bool true, .int .i64 a4, .int .i64 a5] 301)) := belowA
  generalize hmE : w2.alloc (.cells #[.int .i64 a1, .bool a2, .bool true, .int .i64 a4, .int .i64 a5] 301) = mw at *
  clear hmE
  obtain ⟨na, hna⟩ : ∃ na, w2.heap.size = na := ⟨_, rfl⟩
  rw [hna] at ma ⊢
  obtain ⟨p0, p1, p2, p3, p4, p5, p6, p7, p8, p9⟩ := bk10 m2; have r0 := m3.cell 0; have r1 := m3.cell 1; dsimp at r0 r1
  have htb := HT.out mw hbm xt (-1)
  rw [hDb] at htb
  simp only [Pl.val] at htb
  have HTb := Lib.hid htb
  clear htb
  go_upto_region 6 with (go_at_call 183; (refine HTb.out.mono ?_); rintro e w3 ⟨rfl, hw3, hzw3, hxw3⟩; have q0 := (m3.ext hxw3).cell 0)
  have u2 := (m2.ext hxw3).alloc (.cells #[.int .i64 b1, .bool b2, .bool false, .int .i64 b4, .int .i64 b5] 301)
  have u3 := (m3.ext hxw3).alloc (.cells #[.int .i64 b1, .bool b2, .bool false, .int .i64 b4, .int .i64 b5] 301)
  have u4 := (m4.ext hxw3).alloc (.cells #[.int .i64 b1, .bool b2, .bool false, .int .i64 b4, .int .i64 b5] 301)
  have u6 := (m6.ext hxw3).alloc (.cells #[.int .i64 b1, .bool b2, .bool false, .int .i64 b4, .int .i64 b5] 301)
  have ua := (ma.ext hxw3).alloc (.cells #[.int .i64 b1, .bool b2, .bool false, .int .i64 b4, .int .i64 b5] 301)
  have ub := Bk.new w3 301 #[.int .i64 b1, .bool b2, .bool false, .int .i64 b4, .int .i64 b5]
  have hbu : Below w.heap.size w (w3.alloc (.cells #[.int .i64 b1, .bool b2, .bool false, .int .i64 b4, .int .i64 b5] 301)) := belowA
  generalize huE : w3.alloc (.cells #[.int .i64 b1, .bool b2, .bool false, .int .i64 b4, .int .i64 b5] 301) = uw at *
  clear huE
  obtain ⟨nb, hnb⟩ : ∃ nb, w3.heap.size = nb := ⟨_, rfl⟩
  rw [hnb] at ub ⊢
  obtain ⟨p0, p1, p2, p3, p4, p5, p6, p7, p8, p9⟩ := bk10 u2; have s2 := ua.cell 2; have t2 := ub.cell 2; dsimp at s2 t2
  go_upto_region 9 with fail
  have hbv : Below w.heap.size w (uw.alloc (.cells (stp 2 xf xt xg xh xi xm xv A n c A' n' c') 45)) := by have := hbu.size; exact belowA
  have v2 := u2.alloc (.cells (stp 2 xf xt xg xh xi xm xv A n c A' n' c') 45)
  have v3 := u3.alloc (.cells (stp 2 xf xt xg xh xi xm xv A n c A' n' c') 45)
  have v4 := u4.alloc (.cells (stp 2 xf xt xg xh xi xm xv A n c A' n' c') 45)
  have v6 := u6.alloc (.cells (stp 2 xf xt xg xh xi xm xv A n c A' n' c') 45)
  have va := ua.alloc (.cells (stp 2 xf xt xg xh xi xm xv A n c A' n' c') 45)
  have vb := ub.alloc (.cells (stp 2 xf xt xg xh xi xm xv A n c A' n' c') 45)
  have vL := Bk.new uw 45 (stp 2 xf xt xg xh xi xm xv A n c A' n' c')
  generalize hvE : uw.alloc (.cells #[.int .i64 2, .int .i64 xf, .int .i64 xt, .int .i64 xg, .int .i64 xh, .int .i64 xi, .int .i64 xm, .int .i64 xv, .slice A n c, .slice A' n' c'] 45) = vw at *
  clear hvE
  obtain ⟨nL, hnL⟩ : ∃ nL, uw.heap.size = nL := ⟨_, rfl⟩
  have g2 := def_lt' u2; have g3 := def_lt' u3; have g4 := def_lt' u4; have g6 := def_lt' u6; have ga := def_lt' ua; have gb := def_lt' ub
  rw [hnL] at vL g2 g3 g4 g6 ga gb ⊢
  clear p0 p1 p2 p3 p4 p5 p6 p7 p8 p9 s2 t2 q0
  have s0 := va.cell 0; have t0 := vb.cell 0; have fL := vL.frozen; have lL := def_lt' vL
  dsimp at s0 t0
  obtain ⟨e0, e1, e2, e3, e4, e5, e6, e7, e8, e9⟩ := bk10 vL
  go_upto_region 11 with fail
  obtain ⟨t1, ht1⟩ : ∃ t1, (if a1 < b1 then b1 else a1) = t1 := ⟨_, rfl⟩
  rw [ht1]
  have hmx : max a1 b1 = t1 := by rw [← ht1]; split <;> omega
  have hsd := HSD.out
  rw [hmx] at hsd
  have HSQ := Lib.hid hsd
  clear hsd
  have hb5 : Below w.heap.size w ((vw.setCell ⟨nL, 1, none⟩ (.int .i64 a1)).setCell ⟨nL, 2, none⟩ (.int .i64 t1)) := by have := hbv.size; exact belowA
  have y2 := (v2.far (p := ⟨nL, 1, none⟩) (by simp <;> omega) (.int .i64 a1)).far (p := ⟨nL, 2, none⟩) (by simp <;> omega) (.int .i64 t1)
  have y3 := (v3.far (p := ⟨nL, 1, none⟩) (by simp <;> omega) (.int .i64 a1)).far (p := ⟨nL, 2, none⟩) (by simp <;> omega) (.int .i64 t1)
  have y4 := (v4.far (p := ⟨nL, 1, none⟩) (by simp <;> omega) (.int .i64 a1)).far (p := ⟨nL, 2, none⟩) (by simp <;> omega) (.int .i64 t1)
  have y6 := (v6.far (p := ⟨nL, 1, none⟩) (by simp <;> omega) (.int .i64 a1)).far (p := ⟨nL, 2, none⟩) (by simp <;> omega) (.int .i64 t1)
  have ya := (va.far (p := ⟨nL, 1, none⟩) (by simp <;> omega) (.int .i64 a1)).far (p := ⟨nL, 2, none⟩) (by simp <;> omega) (.int .i64 t1)
  have yb := (vb.far (p := ⟨nL, 1, none⟩) (by simp <;> omega) (.int .i64 a1)).far (p := ⟨nL, 2, none⟩) (by simp <;> omega) (.int .i64 t1)
  have yL : Bk ((vw.setCell ⟨nL, 1, none⟩ (.int .i64 a1)).setCell ⟨nL, 2, none⟩ (.int .i64 t1)) nL 45 (stp 2 a1 t1 xg xh xi xm xv A n c A' n' c') := (vL.set_ 1 _).set_ 2 _
  generalize hw5E : (vw.setCell ⟨nL, 1, none⟩ (.int .i64 a1)).setCell ⟨nL, 2, none⟩ (.int .i64 t1) = w5 at *
  clear hw5E
  clear e0 e1 e2 e3 e4 e5 e6 e7 e8 e9 s0 t0 hmx ht1 HSD
  have p0 := y2.cell 0; have p3 := y2.cell 3; have p4 := y2.cell 4; dsimp [stp] at p0 p3 p4; have r0 := y3.cell 0; have r1 := y3.cell 1; dsimp at r0 r1
  by_cases hc : (T xg (-1)).2 = 0
  · by_cases hd : (T xh 1).2 = 0
    · obtain ⟨c4, c5, hDc⟩ := hD.good hc
      obtain ⟨⟨⟨c1, c2, c3, c6, c7⟩, c8⟩, hTc⟩ : ∃ y, T xg (-1) = y := ⟨_, rfl⟩
      rw [hTc] at hDc
      simp only at hDc
      obtain ⟨d4, d5, hDd⟩ := hD.good hd
      obtain ⟨⟨⟨d1, d2, d3, d6, d7⟩, d8⟩, hTd⟩ : ∃ y, T xh 1 = y := ⟨_, rfl⟩
      rw [hTd] at hDd
      simp only at hDd
      have HN1 := Lib.hid (fun (h1 : c1 < a1) => (fin_no HSQ.out (by unfold kindB; rw [if_pos rfl, if_neg (fun h => by have := h.2.2.1; rw [hTc] at this; simp only at this; omega)]) : shiftB T ⟨2, xf, xt, xg, xh, xi, xm, xv, xsl, xst⟩ = none))
      have HN2 := Lib.hid (fun (h1 : d1 < c1) => (fin_no HSQ.out (by unfold kindB; rw [if_pos rfl, if_neg (fun h => by have := h.2.2.2.1; rw [hTc, hTd] at this; simp only at this; omega)]) : shiftB T ⟨2, xf, xt, xg, xh, xi, xm, xv, xsl, xst⟩ = none))
      have HN3 := Lib.hid (fun (h1 : b1 < d1) => (fin_no HSQ.out (by unfold kindB; rw [if_pos rfl, if_neg (fun h => by have := h.2.2.2.2; rw [hTd] at this; simp only at this; omega)]) : shiftB T ⟨2, xf, xt, xg, xh, xi, xm, xv, xsl, xst⟩ = none))
      have hf : ¬ c1 < a1 → ¬ d1 < c1 → ¬ b1 < d1 → shiftB T ⟨2, xf, xt, xg, xh, xi, xm, xv, xsl, xst⟩ = (some ⟨2, a1, t1, c1, d1, xi, xm, xv, xsl, xst⟩).filter StC.sh := by
        intro h1 h2 h3
        rw [HSQ.out]
        unfold kindB
        rw [if_pos rfl, if_pos ⟨hc, hd, by rw [hTc]; simp only; omega, by rw [hTc, hTd]; simp only; omega, by rw [hTd]; simp only; omega⟩]
        rw [hTc, hTd]
      have HFI := Lib.hid hf
      clear hf hTc hTd
      have htc := HT.out w5 hb5 xg (-1)
      rw [hDc] at htc
      simp only [Pl.val] at htc
      have HTc := Lib.hid htc
      clear htc
      go_upto_region 13 with (go_at_call 183; (refine HTc.out.mono ?_); rintro e w6 ⟨rfl, hw6, hzw6, hxw6⟩; have q0 := (y3.ext hxw6).cell 0)
      have x2 := (y2.ext hxw6).alloc (.cells #[.int .i64 c1, .bool c2, .bool c3, .int .i64 c4, .int .i64 c5] 301)
      have x3 := (y3.ext hxw6).alloc (.cells #[.int .i64 c1, .bool c2, .bool c3, .int .i64 c4, .int .i64 c5] 301)
      have x4 := (y4.ext hxw6).alloc (.cells #[.int .i64 c1, .bool c2, .bool c3, .int .i64 c4, .int .i64 c5] 301)
      have x6 := (y6.ext hxw6).alloc (.cells #[.int .i64 c1, .bool c2, .bool c3, .int .i64 c4, .int .i64 c5] 301)
      have xa := (ya.ext hxw6).alloc (.cells #[.int .i64 c1, .bool c2, .bool c3, .int .i64 c4, .int .i64 c5] 301)
      have xb := (yb.ext hxw6).alloc (.cells #[.int .i64 c1, .bool c2, .bool c3, .int .i64 c4, .int .i64 c5] 301)
      have xL := (yL.ext hxw6).alloc (.cells #[.int .i64 c1, .bool c2, .bool c3, .int .i64 c4, .int .i64 c5] 301)
      have xc := Bk.new w6 301 #[.int .i64 c1, .bool c2, .bool c3, .int .i64 c4, .int .i64 c5]
      have hbx : Below w.heap.size w (w6.alloc (.cells #[.int .i64 c1, .bool c2, .bool c3, .int .i64 c4, .int .i64 c5] 301)) := belowA
      generalize hxE : w6.alloc (.cells #[.int .i64 c1, .bool c2, .bool c3, .int .i64 c4, .int .i64 c5] 301) = xw at *
      clear hxE
      obtain ⟨nc, hnc⟩ : ∃ nc, w6.heap.size = nc := ⟨_, rfl⟩
      rw [hnc] at xc ⊢
      have p4 := x2.cell 4; dsimp [stp] at p4; have r0 := x3.cell 0; have r1 := x3.cell 1; dsimp at r0 r1
      have htd := HT.out xw hbx xh (1)
      rw [hDd] at htd
      simp only [Pl.val] at htd
      have HTd := Lib.hid htd
      clear htd
      go_upto_region 14 with (go_at_call 183; (refine HTd.out.mono ?_); rintro e w8 ⟨rfl, hw8, hzw8, hxw8⟩; have q0 := (x3.ext hxw8).cell 0)
      have k2 := (x2.ext hxw8).alloc (.cells #[.int .i64 d1, .bool d2, .bool d3, .int .i64 d4, .int .i64 d5] 301)
      have k3 := (x3.ext hxw8).alloc (.cells #[.int .i64 d1, .bool d2, .bool d3, .int .i64 d4, .int .i64 d5] 301)
      have k4 := (x4.ext hxw8).alloc (.cells #[.int .i64 d1, .bool d2, .bool d3, .int .i64 d4, .int .i64 d5] 301)
      have k6 := (x6.ext hxw8).alloc (.cells #[.int .i64 d1, .bool d2, .bool d3, .int .i64 d4, .int .i64 d5] 301)
      have ka := (xa.ext hxw8).alloc (.cells #[.int .i64 d1, .bool d2, .bool d3, .int .i64 d4, .int .i64 d5] 301)
      have kb := (xb.ext hxw8).alloc (.cells #[.int .i64 d1, .bool d2, .bool d3, .int .i64 d4, .int .i64 d5] 301)
      have kL := (xL.ext hxw8).alloc (.cells #[.int .i64 d1, .bool d2, .bool d3, .int .i64 d4, .int .i64 d5] 301)
      have kc := (xc.ext hxw8).alloc (.cells #[.int .i64 d1, .bool d2, .bool d3, .int .i64 d4, .int .i64 d5] 301)
      have kd := Bk.new w8 301 #[.int .i64 d1, .bool d2, .bool d3, .int .i64 d4, .int .i64 d5]
      have hbk : Below w.heap.size w (w8.alloc (.cells #[.int .i64 d1, .bool d2, .bool d3, .int .i64 d4, .int .i64 d5] 301)) := belowA
      generalize hkE : w8.alloc (.cells #[.int .i64 d1, .bool d2, .bool d3, .int .i64 d4, .int .i64 d5] 301) = kw at *
      clear hkE
      obtain ⟨nd, hnd⟩ : ∃ nd, w8.heap.size = nd := ⟨_, rfl⟩
      rw [hnd] at kd ⊢
      have f8 := kL.frozen; have l8 := def_lt' kL; have c0 := kc.cell 0; have d0 := kd.cell 0; dsimp at c0 d0
      obtain ⟨e0, e1, e2, e3, e4, e5, e6, e7, e8, e9⟩ := bk10 kL
      go_upto_region 16 with fail
      have hb7 : Below w.heap.size w ((kw.setCell ⟨nL, 3, none⟩ (.int .i64 c1)).setCell ⟨nL, 4, none⟩ (.int .i64 d1)) := by have := hbk.size; exact belowA
      have z2 := (k2.far (p := ⟨nL, 3, none⟩) (by simp <;> omega) (.int .i64 c1)).far (p := ⟨nL, 4, none⟩) (by simp <;> omega) (.int .i64 d1)
      have z3 := (k3.far (p := ⟨nL, 3, none⟩) (by simp <;> omega) (.int .i64 c1)).far (p := ⟨nL, 4, none⟩) (by simp <;> omega) (.int .i64 d1)
      have z4 := (k4.far (p := ⟨nL, 3, none⟩) (by simp <;> omega) (.int .i64 c1)).far (p := ⟨nL, 4, none⟩) (by simp <;> omega) (.int .i64 d1)
      have z6 := (k6.far (p := ⟨nL, 3, none⟩) (by simp <;> omega) (.int .i64 c1)).far (p := ⟨nL, 4, none⟩) (by simp <;> omega) (.int .i64 d1)
      have za := (ka.far (p := ⟨nL, 3, none⟩) (by simp <;> omega) (.int .i64 c1)).far (p := ⟨nL, 4, none⟩) (by simp <;> omega) (.int .i64 d1)
      have zb := (kb.far (p := ⟨nL, 3, none⟩) (by simp <;> omega) (.int .i64 c1)).far (p := ⟨nL, 4, none⟩) (by simp <;> omega) (.int .i64 d1)
      have zL : Bk ((kw.setCell ⟨nL, 3, none⟩ (.int .i64 c1)).setCell ⟨nL, 4, none⟩ (.int .i64 d1)) nL 45 (stp 2 a1 t1 c1 d1 xi xm xv A n c A' n' c') := (kL.set_ 3 _).set_ 4 _
      generalize hw7E : (kw.setCell ⟨nL, 3, none⟩ (.int .i64 c1)).setCell ⟨nL, 4, none⟩ (.int .i64 d1) = w7 at *
      clear hw7E
      clear e0 e1 e2 e3 e4 e5 e6 e7 e8 e9 c0 d0 r0 r1 q0
      obtain ⟨e0, e1, e2, e3, e4, e5, e6, e7, e8, e9⟩ := bk10 zL; have t0 := zb.cell 0; dsimp at t0
      by_cases h1 : c1 < a1
      · go_upto_region 17 with fail
        have l4 := def_lt' z4; have f4 := z4.frozen
        obtain ⟨dd0, dd1, dd2, dd3, dd4, dd5, dd6, dd7, dd8, dd9⟩ := bk10 z6
        obtain ⟨o0, o1, o2, o3, o4, o5, o6, o7, o8, o9⟩ := bk10 z4
        go_wp2
        have kz := stp_set z4 0 0 0 0 0 0 0 0 none 0 0 none 0 0
        have hzz := hb7.size
        have hbz : Below w.heap.size w (set10 w7 (w.heap.size + 1 + 1) 0 0 0 0 0 0 0 0 none 0 0 none 0 0) := belowA
        obtain ⟨q0, q1, q2, q3, q4, q5, q6, q7, q8, q9⟩ := bk10 kz
        exact bodyPost_ret (v := .tuple #[.agg (stp 0 0 0 0 0 0 0 0 none 0 0 none 0 0), .bool false]) (by simp [results, Tryz.results141, go_sem, q0, q1, q2, q3, q4, q5, q6, q7, q8, q9]) rfl ⟨by rw [HN1.out (by omega)]; rfl, hbz⟩
      by_cases h2 : d1 < c1
      · go_upto_region 17 with fail
        have l4 := def_lt' z4; have f4 := z4.frozen
        obtain ⟨dd0, dd1, dd2, dd3, dd4, dd5, dd6, dd7, dd8, dd9⟩ := bk10 z6
        obtain ⟨o0, o1, o2, o3, o4, o5, o6, o7, o8, o9⟩ := bk10 z4
        go_wp2
        have kz := stp_set z4 0 0 0 0 0 0 0 0 none 0 0 none 0 0
        have hzz := hb7.size
        have hbz : Below w.heap.size w (set10 w7 (w.heap.size + 1 + 1) 0 0 0 0 0 0 0 0 none 0 0 none 0 0) := belowA
        obtain ⟨q0, q1, q2, q3, q4, q5, q6, q7, q8, q9⟩ := bk10 kz
        exact bodyPost_ret (v := .tuple #[.agg (stp 0 0 0 0 0 0 0 0 none 0 0 none 0 0), .bool false]) (by simp [results, Tryz.results141, go_sem, q0, q1, q2, q3, q4, q5, q6, q7, q8, q9]) rfl ⟨by rw [HN2.out (by omega)]; rfl, hbz⟩
      by_cases h3 : b1 < d1
      · go_upto_region 17 with fail
        have l4 := def_lt' z4; have f4 := z4.frozen
        obtain ⟨dd0, dd1, dd2, dd3, dd4, dd5, dd6, dd7, dd8, dd9⟩ := bk10 z6
        obtain ⟨o0, o1, o2, o3, o4, o5, o6, o7, o8, o9⟩ := bk10 z4
        go_wp2
        have kz := stp_set z4 0 0 0 0 0 0 0 0 none 0 0 none 0 0
        have hzz := hb7.size
        have hbz : Below w.heap.size w (set10 w7 (w.heap.size + 1 + 1) 0 0 0 0 0 0 0 0 none 0 0 none 0 0) := belowA
        obtain ⟨q0, q1, q2, q3, q4, q5, q6, q7, q8, q9⟩ := bk10 kz
        exact bodyPost_ret (v := .tuple #[.agg (stp 0 0 0 0 0 0 0 0 none 0 0 none 0 0), .bool false]) (by simp [results, Tryz.results141, go_sem, q0, q1, q2, q3, q4, q5, q6, q7, q8, q9]) rfl ⟨by rw [HN3.out (by omega)]; rfl, hbz⟩
      have hfin := HFI.out (by omega) (by omega) (by omega)
      have HZS := Lib.hid (fun (h : shB 2 a1 t1 c1 d1 xi xm xv n n' = true) => fin_some (z := ⟨2, a1, t1, c1, d1, xi, xm, xv, xsl, xst⟩) hfin (show shB 2 a1 t1 c1 d1 xi xm xv xsl.length xst.length = true by rw [hl, hl']; exact h))
      have HZN := Lib.hid (fun (h : shB 2 a1 t1 c1 d1 xi xm xv n n' = false) => fin_none (z := ⟨2, a1, t1, c1, d1, xi, xm, xv, xsl, xst⟩) hfin (show shB 2 a1 t1 c1 d1 xi xm xv xsl.length xst.length = false by rw [hl, hl']; exact h))
      clear hfin
      obtain ⟨e0, e1, e2, e3, e4, e5, e6, e7, e8, e9⟩ := bk10 zL; have p0 := z2.cell 0; dsimp [stp] at p0; have t0 := zb.cell 0; dsimp at t0
      have hsl := HSH.out w7 hb7 2 a1 t1 c1 d1 xi xm xv
      cases hsz : shB 2 a1 t1 c1 d1 xi xm xv n n' with
      | false =>
        rw [hsz] at hsl
        have HSZ := Lib.hid hsz
        have HSL := Lib.hid hsl
        clear hsz hsl
        go_upto_region 25 with (go_at_call 65; (refine HSL.out.mono ?_); rintro e wf ⟨rfl, hbf, hzf, hxf⟩; have q0 := (zL.ext hxf).cell 0)
        have j4 := z4.ext hxf; have j6 := z6.ext hxf; have l4 := def_lt' j4; have f4 := j4.frozen
        obtain ⟨dd0, dd1, dd2, dd3, dd4, dd5, dd6, dd7, dd8, dd9⟩ := bk10 j6
        obtain ⟨o0, o1, o2, o3, o4, o5, o6, o7, o8, o9⟩ := bk10 j4
        go_wp2
        have kz := stp_set j4 0 0 0 0 0 0 0 0 none 0 0 none 0 0
        have hzz := hbf.size
        have hbz : Below w.heap.size w (set10 wf (w.heap.size + 1 + 1) 0 0 0 0 0 0 0 0 none 0 0 none 0 0) := belowA
        obtain ⟨q0, q1, q2, q3, q4, q5, q6, q7, q8, q9⟩ := bk10 kz
        exact bodyPost_ret (v := .tuple #[.agg (stp 0 0 0 0 0 0 0 0 none 0 0 none 0 0), .bool false]) (by simp [results, Tryz.results141, go_sem, q0, q1, q2, q3, q4, q5, q6, q7, q8, q9]) rfl ⟨by rw [HZN.out HSZ.out]; rfl, hbz⟩
      | true =>
        rw [hsz] at hsl
        have HSZ := Lib.hid hsz
        have HSL := Lib.hid hsl
        clear hsz hsl
        go_upto_region 26 with (go_at_call 65; (refine HSL.out.mono ?_); rintro e wf ⟨rfl, hbf, hzf, hxf⟩; have q0 := (zL.ext hxf).cell 0)
        have j4 := z4.ext hxf; have jL := zL.ext hxf; have l4 := def_lt' j4; have f4 := j4.frozen
        obtain ⟨dd0, dd1, dd2, dd3, dd4, dd5, dd6, dd7, dd8, dd9⟩ := bk10 jL
        obtain ⟨o0, o1, o2, o3, o4, o5, o6, o7, o8, o9⟩ := bk10 j4
        go_wp2
        have kz := stp_set j4 2 a1 t1 c1 d1 xi xm xv A n c A' n' c'
        have hzz := hbf.size
        have hbz : Below w.heap.size w (set10 wf (w.heap.size + 1 + 1) 2 a1 t1 c1 d1 xi xm xv A n c A' n' c') := belowA
        obtain ⟨q0, q1, q2, q3, q4, q5, q6, q7, q8, q9⟩ := bk10 kz
        exact bodyPost_ret (v := .tuple #[.agg (stp 2 a1 t1 c1 d1 xi xm xv A n c A' n' c'), .bool true]) (by simp [results, Tryz.results141, go_sem, q0, q1, q2, q3, q4, q5, q6, q7, q8, q9]) rfl ⟨by rw [HZS.out HSZ.out]; rfl, hbz⟩
    · obtain ⟨c4, c5, hDc⟩ := hD.good hc
      obtain ⟨⟨⟨c1, c2, c3, c6, c7⟩, c8⟩, hTc⟩ : ∃ y, T xg (-1) = y := ⟨_, rfl⟩
      rw [hTc] at hDc
      simp only at hDc
      obtain ⟨d1, d2, d3, d4, d5, hDd⟩ := hD.bad hd
      have htc := HT.out w5 hb5 xg (-1)
      rw [hDc] at htc
      simp only [Pl.val] at htc
      have HTc := Lib.hid htc
      clear htc
      go_upto_region 13 with (go_at_call 183; (refine HTc.out.mono ?_); rintro e w6 ⟨rfl, hw6, hzw6, hxw6⟩; have q0 := (y3.ext hxw6).cell 0)
      have x2 := (y2.ext hxw6).alloc (.cells #[.int .i64 c1, .bool c2, .bool c3, .int .i64 c4, .int .i64 c5] 301)
      have x3 := (y3.ext hxw6).alloc (.cells #[.int .i64 c1, .bool c2, .bool c3, .int .i64 c4, .int .i64 c5] 301)
      have x4 := (y4.ext hxw6).alloc (.cells #[.int .i64 c1, .bool c2, .bool c3, .int .i64 c4, .int .i64 c5] 301)
      have x6 := (y6.ext hxw6).alloc (.cells #[.int .i64 c1, .bool c2, .bool c3, .int .i64 c4, .int .i64 c5] 301)
      have xa := (ya.ext hxw6).alloc (.cells #[.int .i64 c1, .bool c2, .bool c3, .int .i64 c4, .int .i64 c5] 301)
      have xb := (yb.ext hxw6).alloc (.cells #[.int .i64 c1, .bool c2, .bool c3, .int .i64 c4, .int .i64 c5] 301)
      have xL := (yL.ext hxw6).alloc (.cells #[.int .i64 c1, .bool c2, .bool c3, .int .i64 c4, .int .i64 c5] 301)
      have xc := Bk.new w6 301 #[.int .i64 c1, .bool c2, .bool c3, .int .i64 c4, .int .i64 c5]
      have hbx : Below w.heap.size w (w6.alloc (.cells #[.int .i64 c1, .bool c2, .bool c3, .int .i64 c4, .int .i64 c5] 301)) := belowA
      generalize hxE : w6.alloc (.cells #[.int .i64 c1, .bool c2, .bool c3, .int .i64 c4, .int .i64 c5] 301) = xw at *
      clear hxE
      obtain ⟨nc, hnc⟩ : ∃ nc, w6.heap.size = nc := ⟨_, rfl⟩
      rw [hnc] at xc ⊢
      have p4 := x2.cell 4; dsimp [stp] at p4; have r0 := x3.cell 0; have r1 := x3.cell 1; dsimp at r0 r1
      have htd := HT.out xw hbx xh (1)
      rw [hDd] at htd
      simp only [Pl.val] at htd
      have HTd := Lib.hid htd
      clear htd
      go_upto_region 14 with (go_at_call 183; (refine HTd.out.mono ?_); rintro e w8 ⟨rfl, hw8, hzw8, hxw8⟩; have q0 := (x3.ext hxw8).cell 0)
      have k2 := (x2.ext hxw8).alloc (.cells #[.int .i64 d1, .bool d2, .bool d3, .int .i64 d4, .int .i64 d5] 301)
      have k3 := (x3.ext hxw8).alloc (.cells #[.int .i64 d1, .bool d2, .bool d3, .int .i64 d4, .int .i64 d5] 301)
      have k4 := (x4.ext hxw8).alloc (.cells #[.int .i64 d1, .bool d2, .bool d3, .int .i64 d4, .int .i64 d5] 301)
      have k6 := (x6.ext hxw8).alloc (.cells #[.int .i64 d1, .bool d2, .bool d3, .int .i64 d4, .int .i64 d5] 301)
      have ka := (xa.ext hxw8).alloc (.cells #[.int .i64 d1, .bool d2, .bool d3, .int .i64 d4, .int .i64 d5] 301)
      have kb := (xb.ext hxw8).alloc (.cells #[.int .i64 d1, .bool d2, .bool d3, .int .i64 d4, .int .i64 d5] 301)
      have kL := (xL.ext hxw8).alloc (.cells #[.int .i64 d1, .bool d2, .bool d3, .int .i64 d4, .int .i64 d5] 301)
      have kc := (xc.ext hxw8).alloc (.cells #[.int .i64 d1, .bool d2, .bool d3, .int .i64 d4, .int .i64 d5] 301)
      have kd := Bk.new w8 301 #[.int .i64 d1, .bool d2, .bool d3, .int .i64 d4, .int .i64 d5]
      have hbk : Below w.heap.size w (w8.alloc (.cells #[.int .i64 d1, .bool d2, .bool d3, .int .i64 d4, .int .i64 d5] 301)) := belowA
      generalize hkE : w8.alloc (.cells #[.int .i64 d1, .bool d2, .bool d3, .int .i64 d4, .int .i64 d5] 301) = kw at *
      clear hkE
      obtain ⟨nd, hnd⟩ : ∃ nd, w8.heap.size = nd := ⟨_, rfl⟩
      rw [hnd] at kd ⊢
      have f8 := kL.frozen; have l8 := def_lt' kL; have c0 := kc.cell 0; have d0 := kd.cell 0; dsimp at c0 d0
      obtain ⟨e0, e1, e2, e3, e4, e5, e6, e7, e8, e9⟩ := bk10 kL
      go_upto_region 16 with fail
      have hb7 : Below w.heap.size w ((kw.setCell ⟨nL, 3, none⟩ (.int .i64 c1)).setCell ⟨nL, 4, none⟩ (.int .i64 d1)) := by have := hbk.size; exact belowA
      have z2 := (k2.far (p := ⟨nL, 3, none⟩) (by simp <;> omega) (.int .i64 c1)).far (p := ⟨nL, 4, none⟩) (by simp <;> omega) (.int .i64 d1)
      have z3 := (k3.far (p := ⟨nL, 3, none⟩) (by simp <;> omega) (.int .i64 c1)).far (p := ⟨nL, 4, none⟩) (by simp <;> omega) (.int .i64 d1)
      have z4 := (k4.far (p := ⟨nL, 3, none⟩) (by simp <;> omega) (.int .i64 c1)).far (p := ⟨nL, 4, none⟩) (by simp <;> omega) (.int .i64 d1)
      have z6 := (k6.far (p := ⟨nL, 3, none⟩) (by simp <;> omega) (.int .i64 c1)).far (p := ⟨nL, 4, none⟩) (by simp <;> omega) (.int .i64 d1)
      have za := (ka.far (p := ⟨nL, 3, none⟩) (by simp <;> omega) (.int .i64 c1)).far (p := ⟨nL, 4, none⟩) (by simp <;> omega) (.int .i64 d1)
      have zb := (kb.far (p := ⟨nL, 3, none⟩) (by simp <;> omega) (.int .i64 c1)).far (p := ⟨nL, 4, none⟩) (by simp <;> omega) (.int .i64 d1)
      have zL : Bk ((kw.setCell ⟨nL, 3, none⟩ (.int .i64 c1)).setCell ⟨nL, 4, none⟩ (.int .i64 d1)) nL 45 (stp 2 a1 t1 c1 d1 xi xm xv A n c A' n' c') := (kL.set_ 3 _).set_ 4 _
      generalize hw7E : (kw.setCell ⟨nL, 3, none⟩ (.int .i64 c1)).setCell ⟨nL, 4, none⟩ (.int .i64 d1) = w7 at *
      clear hw7E
      clear e0 e1 e2 e3 e4 e5 e6 e7 e8 e9 c0 d0 r0 r1 q0
      obtain ⟨e0, e1, e2, e3, e4, e5, e6, e7, e8, e9⟩ := bk10 zL; have t0 := zb.cell 0; dsimp at t0
      have HNO := Lib.hid (fin_no HSQ.out (by unfold kindB; rw [if_pos rfl, if_neg (fun h => hd h.2.1)]) : shiftB T ⟨2, xf, xt, xg, xh, xi, xm, xv, xsl, xst⟩ = none)
      go_upto_region 17 with fail
      have l4 := def_lt' z4; have f4 := z4.frozen
      obtain ⟨dd0, dd1, dd2, dd3, dd4, dd5, dd6, dd7, dd8, dd9⟩ := bk10 z6
      obtain ⟨o0, o1, o2, o3, o4, o5, o6, o7, o8, o9⟩ := bk10 z4
      go_wp2
      have kz := stp_set z4 0 0 0 0 0 0 0 0 none 0 0 none 0 0
      have hzz := hb7.size
      have hbz : Below w.heap.size w (set10 w7 (w.heap.size + 1 + 1) 0 0 0 0 0 0 0 0 none 0 0 none 0 0) := belowA
      obtain ⟨q0, q1, q2, q3, q4, q5, q6, q7, q8, q9⟩ := bk10 kz
      exact bodyPost_ret (v := .tuple #[.agg (stp 0 0 0 0 0 0 0 0 none 0 0 none 0 0), .bool false]) (by simp [results, Tryz.results141, go_sem, q0, q1, q2, q3, q4, q5, q6, q7, q8, q9]) rfl ⟨by rw [HNO.out]; rfl, hbz⟩
  · obtain ⟨c1, c2, c3, c4, c5, hDc⟩ := hD.bad hc
    obtain ⟨⟨⟨d1, d2, d3, d4, d5⟩, dok⟩, hDd⟩ : ∃ y, D xh 1 = y := ⟨_, rfl⟩
    have htc := HT.out w5 hb5 xg (-1)
    rw [hDc] at htc
    simp only [Pl.val] at htc
    have HTc := Lib.hid htc
    clear htc
    go_upto_region 13 with (go_at_call 183; (refine HTc.out.mono ?_); rintro e w6 ⟨rfl, hw6, hzw6, hxw6⟩; have q0 := (y3.ext hxw6).cell 0)
    have x2 := (y2.ext hxw6).alloc (.cells #[.int .i64 c1, .bool c2, .bool c3, .int .i64 c4, .int .i64 c5] 301)
    have x3 := (y3.ext hxw6).alloc (.cells #[.int .i64 c1, .bool c2, .bool c3, .int .i64 c4, .int .i64 c5] 301)
    have x4 := (y4.ext hxw6).alloc (.cells #[.int .i64 c1, .bool c2, .bool c3, .int .i64 c4, .int .i64 c5] 301)
    have x6 := (y6.ext hxw6).alloc (.cells #[.int .i64 c1, .bool c2, .bool c3, .int .i64 c4, .int .i64 c5] 301)
    have xa := (ya.ext hxw6).alloc (.cells #[.int .i64 c1, .bool c2, .bool c3, .int .i64 c4, .int .i64 c5] 301)
    have xb := (yb.ext hxw6).alloc (.cells #[.int .i64 c1, .bool c2, .bool c3, .int .i64 c4, .int .i64 c5] 301)
    have xL := (yL.ext hxw6).alloc (.cells #[.int .i64 c1, .bool c2, .bool c3, .int .i64 c4, .int .i64 c5] 301)
    have xc := Bk.new w6 301 #[.int .i64 c1, .bool c2, .bool c3, .int .i64 c4, .int .i64 c5]
    have hbx : Below w.heap.size w (w6.alloc (.cells #[.int .i64 c1, .bool c2, .bool c3, .int .i64 c4, .int .i64 c5] 301)) := belowA
    generalize hxE : w6.alloc (.cells #[.int .i64 c1, .bool c2, .bool c3, .int .i64 c4, .int .i64 c5] 301) = xw at *
    clear hxE
    obtain ⟨nc, hnc⟩ : ∃ nc, w6.heap.size = nc := ⟨_, rfl⟩
    rw [hnc] at xc ⊢
    have p4 := x2.cell 4; dsimp [stp] at p4; have r0 := x3.cell 0; have r1 := x3.cell 1; dsimp at r0 r1
    have htd := HT.out xw hbx xh (1)
    rw [hDd] at htd
    simp only [Pl.val] at htd
    have HTd := Lib.hid htd
    clear htd
    go_upto_region 14 with (go_at_call 183; (refine HTd.out.mono ?_); rintro e w8 ⟨rfl, hw8, hzw8, hxw8⟩; have q0 := (x3.ext hxw8).cell 0)
    have k2 := (x2.ext hxw8).alloc (.cells #[.int .i64 d1, .bool d2, .bool d3, .int .i64 d4, .int .i64 d5] 301)
    have k3 := (x3.ext hxw8).alloc (.cells #[.int .i64 d1, .bool d2, .bool d3, .int .i64 d4, .int .i64 d5] 301)
    have k4 := (x4.ext hxw8).alloc (.cells #[.int .i64 d1, .bool d2, .bool d3, .int .i64 d4, .int .i64 d5] 301)
    have k6 := (x6.ext hxw8).alloc (.cells #[.int .i64 d1, .bool d2, .bool d3, .int .i64 d4, .int .i64 d5] 301)
    have ka := (xa.ext hxw8).alloc (.cells #[.int .i64 d1, .bool d2, .bool d3, .int .i64 d4, .int .i64 d5] 301)
    have kb := (xb.ext hxw8).alloc (.cells #[.int .i64 d1, .bool d2, .bool d3, .int .i64 d4, .int .i64 d5] 301)
    have kL := (xL.ext hxw8).alloc (.cells #[.int .i64 d1, .bool d2, .bool d3, .int .i64 d4, .int .i64 d5] 301)
    have kc := (xc.ext hxw8).alloc (.cells #[.int .i64 d1, .bool d2, .bool d3, .int .i64 d4, .int .i64 d5] 301)
    have kd := Bk.new w8 301 #[.int .i64 d1, .bool d2, .bool d3, .int .i64 d4, .int .i64 d5]
    have hbk : Below w.heap.size w (w8.alloc (.cells #[.int .i64 d1, .bool d2, .bool d3, .int .i64 d4, .int .i64 d5] 301)) := belowA
    generalize hkE : w8.alloc (.cells #[.int .i64 d1, .bool d2, .bool d3, .int .i64 d4, .int .i64 d5] 301) = kw at *
    clear hkE
    obtain ⟨nd, hnd⟩ : ∃ nd, w8.heap.size = nd := ⟨_, rfl⟩
    rw [hnd] at kd ⊢
    have f8 := kL.frozen; have l8 := def_lt' kL; have c0 := kc.cell 0; have d0 := kd.cell 0; dsimp at c0 d0
    obtain ⟨e0, e1, e2, e3, e4, e5, e6, e7, e8, e9⟩ := bk10 kL
    go_upto_region 16 with fail
    have hb7 : Below w.heap.size w ((kw.setCell ⟨nL, 3, none⟩ (.int .i64 c1)).setCell ⟨nL, 4, none⟩ (.int .i64 d1)) := by have := hbk.size; exact belowA
    have z2 := (k2.far (p := ⟨nL, 3, none⟩) (by simp <;> omega) (.int .i64 c1)).far (p := ⟨nL, 4, none⟩) (by simp <;> omega) (.int .i64 d1)
    have z3 := (k3.far (p := ⟨nL, 3, none⟩) (by simp <;> omega) (.int .i64 c1)).far (p := ⟨nL, 4, none⟩) (by simp <;> omega) (.int .i64 d1)
    have z4 := (k4.far (p := ⟨nL, 3, none⟩) (by simp <;> omega) (.int .i64 c1)).far (p := ⟨nL, 4, none⟩) (by simp <;> omega) (.int .i64 d1)
    have z6 := (k6.far (p := ⟨nL, 3, none⟩) (by simp <;> omega) (.int .i64 c1)).far (p := ⟨nL, 4, none⟩) (by simp <;> omega) (.int .i64 d1)
    have za := (ka.far (p := ⟨nL, 3, none⟩) (by simp <;> omega) (.int .i64 c1)).far (p := ⟨nL, 4, none⟩) (by simp <;> omega) (.int .i64 d1)
    have zb := (kb.far (p := ⟨nL, 3, none⟩) (by simp <;> omega) (.int .i64 c1)).far (p := ⟨nL, 4, none⟩) (by simp <;> omega) (.int .i64 d1)
    have zL : Bk ((kw.setCell ⟨nL, 3, none⟩ (.int .i64 c1)).setCell ⟨nL, 4, none⟩ (.int .i64 d1)) nL 45 (stp 2 a1 t1 c1 d1 xi xm xv A n c A' n' c') := (kL.set_ 3 _).set_ 4 _
    generalize hw7E : (kw.setCell ⟨nL, 3, none⟩ (.int .i64 c1)).setCell ⟨nL, 4, none⟩ (.int .i64 d1) = w7 at *
    clear hw7E
    clear e0 e1 e2 e3 e4 e5 e6 e7 e8 e9 c0 d0 r0 r1 q0
    obtain ⟨e0, e1, e2, e3, e4, e5, e6, e7, e8, e9⟩ := bk10 zL; have t0 := zb.cell 0; dsimp at t0
    have HNO := Lib.hid (fin_no HSQ.out (by unfold kindB; rw [if_pos rfl, if_neg (fun h => hc h.1)]) : shiftB T ⟨2, xf, xt, xg, xh, xi, xm, xv, xsl, xst⟩ = none)
    go_upto_region 17 with fail
    have l4 := def_lt' z4; have f4 := z4.frozen
    obtain ⟨dd0, dd1, dd2, dd3, dd4, dd5, dd6, dd7, dd8, dd9⟩ := bk10 z6
    obtain ⟨o0, o1, o2, o3, o4, o5, o6, o7, o8, o9⟩ := bk10 z4
    go_wp2
    have kz := stp_set z4 0 0 0 0 0 0 0 0 none 0 0 none 0 0
    have hzz := hb7.size
    have hbz : Below w.heap.size w (set10 w7 (w.heap.size + 1 + 1) 0 0 0 0 0 0 0 0 none 0 0 none 0 0) := belowA
    obtain ⟨q0, q1, q2, q3, q4, q5, q6, q7, q8, q9⟩ := bk10 kz
    exact bodyPost_ret (v := .tuple #[.agg (stp 0 0 0 0 0 0 0 0 none 0 0 none 0 0), .bool false]) (by simp [results, Tryz.results141, go_sem, q0, q1, q2, q3, q4, q5, q6, q7, q8, q9]) rfl ⟨by rw [HNO.out]; rfl, hbz⟩
end Go.Proofs.YtmacfoebfpljoaaGreat
