/- merged texts: Saa Sab Sac Sad -/
import Derived.Test.YtmacfoebfpljoaaGreatMp21
import Derived.Test.YtmacfoebfpljoaaGreatMp4
namespace Go.Proofs.YtmacfoebfpljoaaGreat
open Go.RowKit
set_option linter.unusedVariables false
theorem totC_mod (xs : List StC) (U : List GrC) : totC (U.modify 0 (extC xs)) ≤ totC U + xs.length := by
  cases U with
  | nil => simp [totC]
  | cons g U =>
    have e : (g :: U).modify 0 (extC xs) = extC xs g :: U := rfl
    rw [e, totC_cons, totC_cons]
    simp only [extC, List.length_append]
    omega
theorem totC_mem {g : GrC} {U : List GrC} (h : g ∈ U) : g.steps.length ≤ totC U := by
  induction U with
  | nil => cases h
  | cons a U ih =>
    rw [totC_cons]
    rcases List.mem_cons.1 h with rfl | h
    · omega
    · have := ih h; omega
set_option maxRecDepth 100000 in
set_option maxHeartbeats 8000000 in
theorem does_ext_yes (w0 w : World) (D : Nat) (bs : Nat) (A : Option Addr) (n c : Nat) (A' : Option Addr) (n' c' S k : Nat) (d : DeedH) (F : List GrC) (Z Y : Nat → Prop) (h : Duo w0 w D bs A n c A' n' S k F Z Y) (hD : 1 ≤ D ∧ D ≤ 200) (hS : S ≤ 500) (hdk : d.k = 1) (hd : d.Raw w0 w0.heap.size) (hd1 : d.g.n ≤ 20) (hd2 : SmallS d.g.L) (hn1 : 1 ≤ n) :
    Calls Tryz.prog 40 #[.pointer (some ⟨bs, 0, none⟩), .agg #[.int .i64 D, .slice A n c, .slice A' n' c'], .agg (deedA d)] w (DoesOut w0 w D (S + d.g.n) k ((F.modify 0 (extC (d.g.L.map StH.x))).take (F.length - (F.length - D))) Z Y) := by
  obtain ⟨hnc, hb0, hZ, base, lv, mv, L, Ms, V, rfl, rfl, hbase, hs, hr, hLV, htot, hk, hVD⟩ := h
  have hb1 : Below w.heap.size w (((w.alloc (.cells #[.int .i64 D, .slice A n c, .slice A' n' c'] 88)).alloc (.cells (deedA d) 96)).alloc (.cells #[.int .i64 0, .slice none 0 0, .slice none 0 0] 88)) := belowA
  have k1 : Bk (((w.alloc (.cells #[.int .i64 D, .slice A n c, .slice A' n' c'] 88)).alloc (.cells (deedA d) 96)).alloc (.cells #[.int .i64 0, .slice none 0 0, .slice none 0 0] 88)) w.heap.size 88 #[.int .i64 D, .slice A n c, .slice A' n' c'] := ((Bk.new w _ _).alloc _).alloc _
  have k2 : Bk (((w.alloc (.cells #[.int .i64 D, .slice A n c, .slice A' n' c'] 88)).alloc (.cells (deedA d) 96)).alloc (.cells #[.int .i64 0, .slice none 0 0, .slice none 0 0] 88)) (w.heap.size + 1) 96 (deedA d) := Bk.alloc (Bk.made _ _ (by simp)) _
  have k3 : Bk (((w.alloc (.cells #[.int .i64 D, .slice A n c, .slice A' n' c'] 88)).alloc (.cells (deedA d) 96)).alloc (.cells #[.int .i64 0, .slice none 0 0, .slice none 0 0] 88)) (w.heap.size + 1 + 1) 88 #[.int .i64 0, .slice none 0 0, .slice none 0 0] := Bk.made _ _ (by simp)
  have hs1 := hs.below hb1
  have hr1 := (hr.wide (Y' := fun i => Yof bs lv mv i ∨ (Z i ∨ i = w.heap.size + 1 + 1)) (fun i hi => by rcases hi with hi | hi | hi; (· exact .inl (.inl hi)); (· exact .inl (.inr hi)); (· exact .inr (by omega)))).ext hb1
  have hyl := fun i hi => (hs.yof i hi).2
  have hyb := fun i hi => (hs.yof i hi).1
  have hb01 := hb0.trans (hb1.mono hb0.size)
  have hgX := deed_x (Y := fun i => Yof bs lv mv i ∨ (Z i ∨ i = w.heap.size + 1 + 1)) hd hd1 hd2 hb01 (fun i hi => by
    rcases hi with hi | hi | hi
    · exact Nat.le_trans hbase (hyb i hi)
    · exact (hZ i hi).1
    · have := hb0.size; omega)
  have hgl : d.g.L.length = d.g.n := hd.g.sts.len
  have hVn : V.length = n := hr.len
  have hLn : L.length = n := by have h1 := congrArg List.length hLV; simp only [List.length_map, List.length_reverse] at h1; omega
  have htf := totC_fold (Ms.map MpH.l) V
  have hx := extend_any base bs lv mv D L Ms d.g.A d.g.n d.g.c d.g.L _ hs1 (fun w' hst => ((hgX.wide (Y' := Yof bs lv mv) (fun i hi => .inl (.inl hi))).stir hst).in_.sts) hd.g.A (by omega) (by rintro rfl; simp at hLn; omega) (by
    intro g hg
    rw [hLV, foldV_rev] at hg
    have := totC_mem (List.mem_reverse.1 hg)
    omega)
  have hU : totC ((foldC (Ms.map MpH.l) V).modify 0 (extC (d.g.L.map StH.x))) ≤ S + d.g.n := by
    have := totC_mod (d.g.L.map StH.x) (foldC (Ms.map MpH.l) V)
    rw [List.length_map] at this
    omega
  have htr := trim_rev D hD.1 _ (Nat.le_trans hU (by omega))
  have hUl : ((foldC (Ms.map MpH.l) V).modify 0 (extC (d.g.L.map StH.x))).length = n := by rw [List.length_modify, foldC_len, hVn]
  rw [hLV, foldV_rev, extV_rev, htr.2, htr.1, hUl] at hx
  have HX := Lib.hid hx
  have HU := Lib.hid hU
  have HUL := Lib.hid hUl
  have HS := Lib.hid hs
  have HYL := Lib.hid hyl
  have HR1 := Lib.hid hr1
  have HGX := Lib.hid hgX
  have HVN := Lib.hid hVn
  have HGL := Lib.hid hgl
  have hn0 : ¬ (n : Int) = 0 := by omega
  have c0 := (k2.cell 0).trans (show (deedA d)[0]? = some (Value.int .i64 1) by show some (Value.int .i64 d.k) = _; rw [hdk])
  have d1 := (k2.cell 1).trans (show (deedA d)[1]? = _ from rfl)
  clear hs hr hs1 hr1 hyl hyb hLV hx hgX hVn hgl htr hU hUl hLn
  go_enter Tryz.func40, Tryz.ntmps40
  go_wp2_with (go_at_call 27; fail)
  generalize hwE : ((w.alloc (.cells #[.int .i64 D, .slice A n c, .slice A' n' c'] 88)).alloc (.cells (deedA d) 96)).alloc (.cells #[.int .i64 0, .slice none 0 0, .slice none 0 0] 88) = w1 at *
  clear hwE c0 d1
  have hz1 := hb1.size
  refine HX.out.mono ?_
  rintro e w2 ⟨rfl, lv1, mv1, L1, Ms1, hs2, hV1, hM1, hto⟩
  obtain rfl : Ms1 = [] := by simpa using hM1
  have hz2 := hto.1.size
  have hl1 := def_lt' k1
  have hl2 := def_lt' k2
  have hl3 := def_lt' k3
  have hnY : ∀ i, w.heap.size ≤ i → ¬ Yof bs lv mv i := fun i hi hy => by have := HYL.out i hy; omega
  have m1 : Bk w2 w.heap.size 88 #[.int .i64 D, .slice A n c, .slice A' n' c'] := (hto.1.block _ hl1 (hnY _ (by omega))).trans k1
  have m2 : Bk w2 (w.heap.size + 1) 96 (deedA d) := (hto.1.block _ hl2 (hnY _ (by omega))).trans k2
  have m3 : Bk w2 (w.heap.size + 1 + 1) 88 #[.int .i64 0, .slice none 0 0, .slice none 0 0] := (hto.1.block _ hl3 (hnY _ (by omega))).trans k3
  have hb02 : Below w0.heap.size w0 w2 := (hb0.trans (hb1.mono hb0.size)).trans ((hto.below (HS.out.below hb1)).mono hbase)
  have hr2 := duo_ownX _ HR1.out hto
  have hyn := fun i hi => (hs2.yof i hi)
  have hgx2 := (deed_x (Y := fun i => Yof bs lv1 mv1 i ∨ (Z i ∨ i = w.heap.size + 1 + 1)) hd hd1 hd2 hb02 (fun i hi => by
    rcases hi with hi | hi | hi
    · exact Nat.le_trans hbase (hyn i hi).1
    · exact (hZ i hi).1
    · have := hb0.size; omega))
  have hre := rextend_any D hD.1 (by omega) A n c A' n' c' V (Ms.map MpH.l) d.g.A d.g.n d.g.c d.g.L w2 (fun i => Yof bs lv1 mv1 i ∨ (Z i ∨ i = w.heap.size + 1 + 1)) (fun i hi => by
    rcases hi with hi | hi | hi
    · exact (hyn i hi).2
    · have := (hZ i hi).2; omega
    · omega) hnc hr2 hgx2.in_.sts hgx2.sml hgx2.av hd.g.A (by omega) hn1
  have HRE := Lib.hid hre
  have HS2 := Lib.hid hs2
  have HV1 := Lib.hid hV1
  have x0 := m1.cell 0; have x1 := m1.cell 1; have x2 := m1.cell 2
  have d1 := (m2.cell 1).trans (show (deedA d)[1]? = _ from rfl)
  dsimp at x0 x1 x2
  have hst2 : Stir (Yof bs lv mv) w w2 := (Stir.of_below hb1).trans hto.1
  have hsub := sub_of hto hz1
  have HST := Lib.hid hst2
  have HSUB := Lib.hid hsub
  clear hst2 hsub
  clear hre hr2 hs2 hV1 hgx2 hyn hto hM1 hnY HX HR1 k1 k2 k3 HGX
  go_wp2_with (go_at_call 85; fail)
  refine HRE.out.mono ?_
  rintro e w3 ⟨A3, c3, A4, n4, c4, rfl, hc3, hr3, hb3⟩
  have y3 := m3.ext hb3
  have q0 := y3.cell 0; have q1 := y3.cell 1; have q2 := y3.cell 2; have qf := y3.frozen; have ql := def_lt' y3
  dsimp at q0 q1 q2
  clear x0 x1 x2 d1
  go_upto_region 10 with fail
  have kB := Bk.new w3 88 #[.int .i64 D, .slice A3 (n - (n - D)) c3, .slice A4 n4 c4]
  have hbB : Below w3.heap.size w3 (w3.alloc (.cells #[.int .i64 D, .slice A3 (n - (n - D)) c3, .slice A4 n4 c4] 88)) := belowA
  generalize w3.alloc (.cells #[.int .i64 D, .slice A3 (n - (n - D)) c3, .slice A4 n4 c4] 88) = w4 at *
  clear q0 q1 q2 qf ql
  have hz3 := hb3.size
  have hb24 : Below w2.heap.size w2 w4 := hb3.trans (hbB.mono hz3)
  have y4 := m3.ext hb24
  have q0 := y4.cell 0; have q1 := y4.cell 1; have q2 := y4.cell 2; have qf := y4.frozen; have ql := def_lt' y4
  have b0 := kB.cell 0; have b1 := kB.cell 1; have b2 := kB.cell 2
  dsimp at q0 q1 q2 b0 b1 b2
  have HR3 := Lib.hid hr3
  clear hr3 y3
  go_region
  have g6 : w4.grownBy (((w4.setCell ⟨w.heap.size + 1 + 1, 0, none⟩ (.int .i64 D)).setCell ⟨w.heap.size + 1 + 1, 1, none⟩ (.slice A3 (n - (n - D)) c3)).setCell ⟨w.heap.size + 1 + 1, 2, none⟩ (.slice A4 n4 c4)) (some (w.heap.size + 1 + 1)) := gr_set (p := ⟨w.heap.size + 1 + 1, 2, none⟩) (gr_set (p := ⟨w.heap.size + 1 + 1, 1, none⟩) (gr_set (p := ⟨w.heap.size + 1 + 1, 0, none⟩) (World.grownBy.refl _ _) (.inl rfl) _) (.inl rfl) _) (.inl rfl) _
  have z6 : Bk (((w4.setCell ⟨w.heap.size + 1 + 1, 0, none⟩ (.int .i64 D)).setCell ⟨w.heap.size + 1 + 1, 1, none⟩ (.slice A3 (n - (n - D)) c3)).setCell ⟨w.heap.size + 1 + 1, 2, none⟩ (.slice A4 n4 c4)).drew (w.heap.size + 1 + 1) 88 #[.int .i64 D, .slice A3 (n - (n - D)) c3, .slice A4 n4 c4] := (((y4.set_ 0 _).set_ 1 _).set_ 2 _).drew
  have hbsl := def_lt' HS.out.k
  have hs6 := ((HS2.out.below hb24).grown y4 g6 (by omega)).below ((Below.refl _ _).drew)
  have hr6 := (((HR3.out.ext hbB).stir (Stir.of_gr g6 (fun i e => by injection e with e; exact .inr (.inr e.symm)))).ext ((Below.refl _ _).drew)).wide (Y' := fun i => Yof bs lv1 mv1 i ∨ Z i) (fun i hi => by rcases hi with hi | hi; (· exact .inl (.inl hi)); (· exact .inl (.inr (.inl hi))))
  have hb04 := hb02.trans (hb24.mono hb02.size)
  have hb6 := (hb04.grown g6 hb04.size (fun k e => by injection e with e; subst e; have := hb0.size; omega)).drew
  have hst6 := ((HST.out.trans (Stir.of_below hb24)).fresh (Stir.of_gr (X := fun i => i = w.heap.size + 1 + 1) g6 (fun i e => by injection e with e; exact e.symm)) (fun i e => .inr (by have : i = w.heap.size + 1 + 1 := e; omega))).trans (Stir.of_below ((Below.refl _ _).drew))
  have hz6 := hst6.size
  have HST6 := Lib.hid hst6
  clear hst6 q0 q1 q2
  generalize (((w4.setCell ⟨w.heap.size + 1 + 1, 0, none⟩ (.int .i64 D)).setCell ⟨w.heap.size + 1 + 1, 1, none⟩ (.slice A3 (n - (n - D)) c3)).setCell ⟨w.heap.size + 1 + 1, 2, none⟩ (.slice A4 n4 c4)).drew = w6 at *
  have q0 := z6.cell 0; have q1 := z6.cell 1; have q2 := z6.cell 2
  dsimp at q0 q1 q2
  have hFl : (foldC (Ms.map MpH.l) V).length = n := by rw [foldC_len]; exact HVN.out
  have htt : totC (((foldC (Ms.map MpH.l) V).modify 0 (extC (d.g.L.map StH.x))).take (n - (n - D))) ≤ S + d.g.n := Nat.le_trans (totC_take _ _) HU.out
  have hn4 : n4 = 0 := by have h1 := hr6.m.len; exact h1.symm
  have HTT := Lib.hid htt
  have HFL := Lib.hid hFl
  have HR6 := Lib.hid hr6
  clear hFl htt hr6
  go_wp2
  exact bodyPost_ret (v := .tuple #[.pointer (some ⟨bs, 0, none⟩), .agg #[.int .i64 D, .slice A3 (n - (n - D)) c3, .slice A4 n4 c4], .bool true]) (by simp [results, Tryz.results40, go_sem, q0, q1, q2]) rfl ⟨bs, A3, n - (n - D), c3, A4, n4, c4, Yof bs lv1 mv1, rfl, ⟨hc3, hb6, fun i hi => ⟨(hZ i hi).1, Nat.lt_of_lt_of_le (hZ i hi).2 (by omega)⟩, base, lv1, mv1, L1, [], _, rfl, by rw [HFL.out]; rfl, hbase, hs6, HR6.out, HV1.out, HTT.out, Nat.zero_le _, by rw [List.length_take, HUL.out]; omega⟩, HST6.out, HSUB.out⟩
set_option maxRecDepth 100000 in
set_option maxHeartbeats 8000000 in
theorem does_ext_no (w0 w : World) (D : Nat) (bs : Nat) (A : Option Addr) (n c : Nat) (A' : Option Addr) (n' c' S k : Nat) (d : DeedH) (F : List GrC) (Z Y : Nat → Prop) (h : Duo w0 w D bs A n c A' n' S k F Z Y) (hD : 1 ≤ D ∧ D ≤ 200) (hS : S ≤ 500) (hdk : d.k = 1) (hn0 : n = 0) :
    Calls Tryz.prog 40 #[.pointer (some ⟨bs, 0, none⟩), .agg #[.int .i64 D, .slice A n c, .slice A' n' c'], .agg (deedA d)] w (DoesOut w0 w D S k F Z Y) := by
  obtain ⟨hnc, hb0, hZ, base, lv, mv, L, Ms, V, rfl, rfl, hbase, hs, hr, hLV, htot, hk, hVD⟩ := h
  have hb1 : Below w.heap.size w (((w.alloc (.cells #[.int .i64 D, .slice A n c, .slice A' n' c'] 88)).alloc (.cells (deedA d) 96)).alloc (.cells #[.int .i64 0, .slice none 0 0, .slice none 0 0] 88)) := belowA
  have k1 : Bk (((w.alloc (.cells #[.int .i64 D, .slice A n c, .slice A' n' c'] 88)).alloc (.cells (deedA d) 96)).alloc (.cells #[.int .i64 0, .slice none 0 0, .slice none 0 0] 88)) w.heap.size 88 #[.int .i64 D, .slice A n c, .slice A' n' c'] := ((Bk.new w _ _).alloc _).alloc _
  have k2 : Bk (((w.alloc (.cells #[.int .i64 D, .slice A n c, .slice A' n' c'] 88)).alloc (.cells (deedA d) 96)).alloc (.cells #[.int .i64 0, .slice none 0 0, .slice none 0 0] 88)) (w.heap.size + 1) 96 (deedA d) := Bk.alloc (Bk.made _ _ (by simp)) _
  have k3 : Bk (((w.alloc (.cells #[.int .i64 D, .slice A n c, .slice A' n' c'] 88)).alloc (.cells (deedA d) 96)).alloc (.cells #[.int .i64 0, .slice none 0 0, .slice none 0 0] 88)) (w.heap.size + 1 + 1) 88 #[.int .i64 0, .slice none 0 0, .slice none 0 0] := Bk.made _ _ (by simp)
  have hs1 := hs.below hb1
  have hr1 := (hr.wide (Y' := fun i => Yof bs lv mv i ∨ (Z i ∨ i = w.heap.size + 1 + 1)) (fun i hi => by rcases hi with hi | hi | hi; (· exact .inl (.inl hi)); (· exact .inl (.inr hi)); (· exact .inr (by omega)))).ext hb1
  have hyl := fun i hi => (hs.yof i hi).2
  subst hn0
  have hVn : V.length = 0 := hr.len
  obtain rfl : L = [] := by have h1 := congrArg List.length hLV; simp only [List.length_map, List.length_reverse] at h1; exact List.eq_nil_of_length_eq_zero (by omega)
  have hno := extend_none base bs lv mv D Ms d.g.A d.g.n d.g.c _ hs1
  have HNO := Lib.hid hno
  have HR1 := Lib.hid hr1
  have HS := Lib.hid hs
  have HYL := Lib.hid hyl
  have HLV := Lib.hid hLV
  have c0 := (k2.cell 0).trans (show (deedA d)[0]? = some (Value.int .i64 1) by show some (Value.int .i64 d.k) = _; rw [hdk])
  have c9 := (k2.cell 1).trans (show (deedA d)[1]? = _ from rfl)
  clear hs hr hs1 hr1 hyl hLV hno hVn
  go_enter Tryz.func40, Tryz.ntmps40
  go_wp2_with (go_at_call 27; fail)
  generalize hwE : ((w.alloc (.cells #[.int .i64 D, .slice A 0 c, .slice A' n' c'] 88)).alloc (.cells (deedA d) 96)).alloc (.cells #[.int .i64 0, .slice none 0 0, .slice none 0 0] 88) = w1 at *
  clear hwE c0 c9
  have hz1 := hb1.size
  refine HNO.out.mono ?_
  rintro e w4 ⟨rfl, hb4⟩
  have hb14 : Below w1.heap.size w1 w4 := hb4
  have m1 := k1.ext hb14
  have m3 := k3.ext hb14
  have x0 := m1.cell 0; have x1 := m1.cell 1; have x2 := m1.cell 2
  have y0 := m3.cell 0; have y1 := m3.cell 1; have y2 := m3.cell 2; have yf := m3.frozen; have yl := def_lt' m3
  dsimp at x0 x1 x2 y0 y1 y2
  clear k1 k2 k3
  go_upto_region 8 with fail
  go_region
  have g5 : w4.grownBy (((w4.setCell ⟨w.heap.size + 1 + 1, 0, none⟩ (.int .i64 D)).setCell ⟨w.heap.size + 1 + 1, 1, none⟩ (.slice A 0 c)).setCell ⟨w.heap.size + 1 + 1, 2, none⟩ (.slice A' n' c')) (some (w.heap.size + 1 + 1)) := gr_set (p := ⟨w.heap.size + 1 + 1, 2, none⟩) (gr_set (p := ⟨w.heap.size + 1 + 1, 1, none⟩) (gr_set (p := ⟨w.heap.size + 1 + 1, 0, none⟩) (World.grownBy.refl _ _) (.inl rfl) _) (.inl rfl) _) (.inl rfl) _
  have z5 : Bk (((w4.setCell ⟨w.heap.size + 1 + 1, 0, none⟩ (.int .i64 D)).setCell ⟨w.heap.size + 1 + 1, 1, none⟩ (.slice A 0 c)).setCell ⟨w.heap.size + 1 + 1, 2, none⟩ (.slice A' n' c')).drew (w.heap.size + 1 + 1) 88 #[.int .i64 D, .slice A 0 c, .slice A' n' c'] := (((m3.set_ 0 _).set_ 1 _).set_ 2 _).drew
  have hbsl := def_lt' HS.out.k
  have hs5 := ((((HS.out.below hb1).below hb14).grown m3 g5 (by omega))).below ((Below.refl _ _).drew)
  have hr5 := ((HR1.out.ext hb14).stir (Stir.of_gr g5 (fun i e => by injection e with e; exact .inr (.inr e.symm)))).ext ((Below.refl _ _).drew)
  have hr6 := hr5.wide (Y' := fun i => Yof bs lv mv i ∨ Z i) (fun i hi => by rcases hi with hi | hi; (· exact .inl (.inl hi)); (· exact .inl (.inr (.inl hi))))
  have hb04 : Below w0.heap.size w0 w4 := (hb0.trans (hb1.mono hb0.size)).trans (hb14.mono (Nat.le_trans hb0.size hz1))
  have hb5 := (hb04.grown g5 hb04.size (fun k e => by injection e with e; subst e; have := hb0.size; omega)).drew
  have hst5 : Stir (Yof bs lv mv) w _ := ((Stir.of_below (hb1.trans (hb14.mono hz1))).fresh (Stir.of_gr (X := fun i => i = w.heap.size + 1 + 1) g5 (fun i e => by injection e with e; exact e.symm)) (fun i e => .inr (by have : i = w.heap.size + 1 + 1 := e; omega))).trans (Stir.of_below ((Below.refl _ _).drew))
  have HST5 := Lib.hid hst5
  have hz5 := hst5.size
  clear hr5 x0 x1 x2 y0 y1 y2 hst5
  generalize (((w4.setCell ⟨w.heap.size + 1 + 1, 0, none⟩ (.int .i64 D)).setCell ⟨w.heap.size + 1 + 1, 1, none⟩ (.slice A 0 c)).setCell ⟨w.heap.size + 1 + 1, 2, none⟩ (.slice A' n' c')).drew = w5 at *
  have q0 := z5.cell 0; have q1 := z5.cell 1; have q2 := z5.cell 2
  dsimp at q0 q1 q2
  go_wp2
  exact bodyPost_ret (v := .tuple #[.pointer (some ⟨bs, 0, none⟩), .agg #[.int .i64 D, .slice A 0 c, .slice A' n' c'], .bool true]) (by simp [results, Tryz.results40, go_sem, q0, q1, q2]) rfl ⟨bs, A, 0, c, A', n', c', Yof bs lv mv, rfl, ⟨hnc, hb5, fun i hi => ⟨(hZ i hi).1, Nat.lt_of_lt_of_le (hZ i hi).2 hz5⟩, base, lv, mv, _, Ms, V, rfl, rfl, hbase, hs5, hr6, HLV.out, htot, hk, hVD⟩, HST5.out, fun i hi => .inl hi⟩
/-- what a deed makes of the groups as they are folded -/
def deedF (D : Nat) (d : DeedH) (F : List GrC) : List GrC :=
  if d.k = 0 then (d.g.val :: F).take (F.length + 1 - (F.length + 1 - D))
  else if d.k = 1 then (if F.length = 0 then F else (F.modify 0 (extC (d.g.L.map StH.x))).take (F.length - (F.length - D)))
  else if d.k = 2 then (if rightM d.m = true then overC d.m F else F)
  else if d.k = 4 then [d.g.val] else F
theorem DoesOut.mono {w0 w w' : World} {D S S' k k' : Nat} {F : List GrC} {Z Y : Nat → Prop} {e : Ending} (h : DoesOut w0 w D S k F Z Y e w') (hS : S ≤ S') (hk : k ≤ k') : DoesOut w0 w D S' k' F Z Y e w' := by
  obtain ⟨bs, A, n, c, A', n', c', Y', h1, ⟨a, b, z, base, lv, mv, L, Ms, V, e1, e2, e3, e4, e5, e6, e7, e8, e9⟩, h3, h4⟩ := h
  exact ⟨bs, A, n, c, A', n', c', Y', h1, ⟨a, b, z, base, lv, mv, L, Ms, V, e1, e2, e3, e4, e5, e6, Nat.le_trans e7 hS, Nat.le_trans e8 hk, e9⟩, h3, h4⟩
theorem Duo.len {w0 w : World} {D bs : Nat} {A : Option Addr} {n c : Nat} {A' : Option Addr} {n' S k : Nat} {F : List GrC} {Z Y : Nat → Prop} (h : Duo w0 w D bs A n c A' n' S k F Z Y) : F.length = n := by
  obtain ⟨-, -, -, base, lv, mv, L, Ms, V, -, rfl, -, -, hr, -⟩ := h
  rw [foldC_len]
  exact hr.len
theorem does_any (w0 w : World) (D : Nat) (bs : Nat) (A : Option Addr) (n c : Nat) (A' : Option Addr) (n' c' S k : Nat) (d : DeedH) (F : List GrC) (Z Y : Nat → Prop) (h : Duo w0 w D bs A n c A' n' S k F Z Y) (hD : 1 ≤ D ∧ D ≤ 200) (hS : S ≤ 500) (hk16 : k ≤ 16) (hd : d.Raw w0 w0.heap.size) (hd1 : d.g.n ≤ 20) (hd2 : SmallS d.g.L) (hdn : d.n ≤ 20) :
    Calls Tryz.prog 40 #[.pointer (some ⟨bs, 0, none⟩), .agg #[.int .i64 D, .slice A n c, .slice A' n' c'], .agg (deedA d)] w (DoesOut w0 w D (S + d.g.n) (k + 1) (deedF D d F) Z Y) := by
  have hF := h.len
  unfold deedF
  by_cases e0 : d.k = 0
  · rw [if_pos e0]
    exact (does_push w0 w D bs A n c A' n' c' S k d F Z Y h hD hS e0 hd hd1 hd2).mono fun e w' ho => ho.mono (Nat.le_refl _) (by omega)
  rw [if_neg e0]
  by_cases e1 : d.k = 1
  · rw [if_pos e1]
    by_cases hn : n = 0
    · rw [if_pos (by omega)]
      exact (does_ext_no w0 w D bs A n c A' n' c' S k d F Z Y h hD hS e1 hn).mono fun e w' ho => ho.mono (by omega) (by omega)
    · rw [if_neg (by omega)]
      exact (does_ext_yes w0 w D bs A n c A' n' c' S k d F Z Y h hD hS e1 hd hd1 hd2 (by omega)).mono fun e w' ho => ho.mono (Nat.le_refl _) (by omega)
  rw [if_neg e1]
  by_cases e2 : d.k = 2
  · rw [if_pos e2]
    cases hr : rightM d.m with
    | true =>
      rw [if_pos rfl]
      exact (does_note_yes w0 w D bs A n c A' n' c' S k d F Z Y h hD hS hk16 e2 hd hdn hr).mono fun e w' ho => ho.mono (by omega) (Nat.le_refl _)
    | false =>
      rw [if_neg (by simp)]
      exact (does_note_no w0 w D bs A n c A' n' c' S k d F Z Y h hD hS e2 hd hdn hr).mono fun e w' ho => ho.mono (by omega) (by omega)
  rw [if_neg e2]
  by_cases e4 : d.k = 4
  · rw [if_pos e4]
    exact (does_set w0 w D bs A n c A' n' c' S k d F Z Y h hD hS e4 hd hd1 hd2).mono fun e w' ho => ho.mono (Nat.le_refl _) (by omega)
  rw [if_neg e4]
  by_cases e3 : d.k = 3
  · exact (does_fold w0 w D bs A n c A' n' c' S k d F Z Y h hD hS e3).mono fun e w' ho => ho.mono (by omega) (by omega)
  · exact (does_copy w0 w D bs A n c A' n' c' S k d F Z Y h hD hS ⟨e0, e1, e2, e3, e4⟩).mono fun e w' ho => ho.mono (by omega) (by omega)
/-- a block of the document's stack's type is none of the program's -/
theorem yof_ne {w : World} {base bs : Nat} {lv mv : Value} {depth : Int} {L : List GrH} {Ms : List MpH} (h : StkAt w base bs lv mv depth L Ms) {b : Nat} {cs : Array Value} (hk : Bk w b 88 cs) : ¬ Yof bs lv mv b := by
  rintro (rfl | h1 | h1)
  · have h2 : w.heap[b]? = some (.cells _ 157 (0, 0)) := h.k
    have h3 : w.heap[b]? = some (.cells _ 88 (0, 0)) := hk
    rw [h3] at h2
    injection h2 with h2
    injection h2 with _ e
    revert e
    decide
  · exact own_ne h.l hk (by decide) h1
  · exact own_ne h.m hk (by decide) h1
theorem Duo.keep {w0 w w' : World} {D bs : Nat} {A : Option Addr} {n c : Nat} {A' : Option Addr} {n' S k : Nat} {F : List GrC} {Z Y : Nat → Prop} (h : Duo w0 w D bs A n c A' n' S k F Z Y) (hs : Stir Y w w') {b : Nat} {cs : Array Value} (hk : Bk w b 88 cs) : Bk w' b 88 cs := by
  obtain ⟨-, -, -, base, lv, mv, L, Ms, V, rfl, rfl, -, hst, -⟩ := h
  exact (hs.block b (def_lt' hk) (yof_ne hst hk)).trans hk
set_option maxHeartbeats 400000 in
theorem new_no (d : Int) (w : World) (h : d < 1 ∨ 200 < d) :
    Calls Tryz.prog 37 #[.int .i64 d] w fun e w' => e = .returned (.tuple #[.pointer none, .int .i64 1]) ∧ Below w.heap.size w w' := by
  rcases h with h | h
  · go_enter Tryz.func37, Tryz.ntmps37
    go_wp2
    exact bodyPost_ret (v := .tuple #[.pointer none, .int .i64 1]) (by simp [results, Tryz.results37, go_sem]) rfl ⟨rfl, belowA⟩
  · have h' : ¬ d < 1 := by omega
    go_enter Tryz.func37, Tryz.ntmps37
    go_wp2
    exact bodyPost_ret (v := .tuple #[.pointer none, .int .i64 1]) (by simp [results, Tryz.results37, go_sem]) rfl ⟨rfl, belowA⟩
section
variable {w0 w w' : World} {D bs : Nat} {A : Option Addr} {n c : Nat} {A' : Option Addr} {n' S k : Nat} {F : List GrC} {Z Y : Nat → Prop}
theorem Duo.ext (h : Duo w0 w D bs A n c A' n' S k F Z Y) (hb : Below w.heap.size w w') : Duo w0 w' D bs A n c A' n' S k F Z Y := by
  obtain ⟨a, b, z, base, lv, mv, L, Ms, V, e1, e2, e3, e4, e5, e6⟩ := h
  exact ⟨a, b.trans (hb.mono b.size), fun i hi => ⟨(z i hi).1, Nat.lt_of_lt_of_le (z i hi).2 hb.size⟩, base, lv, mv, L, Ms, V, e1, e2, e3, e4.below hb, e5.ext hb, e6⟩
theorem Duo.wrote (h : Duo w0 w D bs A n c A' n' S k F Z Y) {b : Nat} {cs : Array Value} (hk : Bk w b 88 cs) (hg : w.grownBy w' (some b)) (hz : Z b) : Duo w0 w' D bs A n c A' n' S k F Z Y := by
  obtain ⟨a, b0, z, base, lv, mv, L, Ms, V, rfl, e2, e3, e4, e5, e6⟩ := h
  have hne := yof_ne e4 hk
  exact ⟨a, b0.grown hg b0.size (fun k e => by injection e with e; subst e; exact (z _ hz).1), fun i hi => ⟨(z i hi).1, Nat.lt_of_lt_of_le (z i hi).2 hg.size⟩, base, lv, mv, L, Ms, V, rfl, e2, e3, e4.grown hk hg (fun e => hne (.inl e)), e5.stir (Stir.of_gr hg (fun i e => by injection e with e; subst e; exact .inr hz)), e6⟩
theorem RStk.nil_ (w : World) (Y : Nat → Prop) : RStk w Y none 0 none 0 [] [] :=
  ⟨⟨[], (⟨⟨Rd.nil_ _ _ _ _, (fun x hx => by cases hx)⟩, fun _ => rfl, (fun x hx => by cases hx), fun h => absurd h (by omega), (fun x hx => by cases hx)⟩ : GrsX w Y none 0 []), rfl⟩, MapsX.nil_ _ _, by omega, by omega, by simp [totC], (fun x hx => by cases hx), (fun x hx => by cases hx)⟩
end
set_option maxRecDepth 100000 in
set_option maxHeartbeats 4000000 in
theorem plays_any (dep : Int) (A : Option Addr) (n c : Nat) (L : List DeedH) (w : World) (h : DeedsRaw w w.heap.size A n L) (hn : n ≤ maxLen) :
    Calls Tryz.prog 6 #[.int .i64 dep, .slice A n c] w fun e w' => e = .returned (.bool true) ∧ Below w.heap.size w w' := by
  have H := Lib.hid h
  have hlen := h.len
  have HLEN := Lib.hid hlen
  unfold maxLen at hn
  have hB : Below w.heap.size w w := Below.refl _ _
  clear h hlen
  go_enter Tryz.func6, Tryz.ntmps6
  go_upto_region 5 with (first
    | ((with_reducible go_at_call 27); (refine (nextend_any _).mono ?_); rintro e w1 ⟨⟨v1, rfl⟩, hb1⟩; replace hB := hB.trans (hb1.mono hB.size))
    | ((with_reducible go_at_call 28); (refine (nfold_any _).mono ?_); rintro e w2 ⟨⟨v2, rfl⟩, hb2⟩; replace hB := hB.trans (hb2.mono hB.size))
    | ((with_reducible go_at_call 29); (refine (nset_any _).mono ?_); rintro e w3 ⟨⟨v3, rfl⟩, hb3⟩; replace hB := hB.trans (hb3.mono hB.size)))
  clear hb1 hb2 hb3
  go_upto_region 7 with (first
    | ((with_reducible go_at_call 30); (refine (npush_any _).mono ?_); rintro e w4 ⟨rfl, hb1⟩; replace hB := hB.trans (hb1.mono hB.size); clear hb1)
    | ((with_reducible go_at_call 31); (refine (nnote_any _).mono ?_); rintro e w5 ⟨rfl, hb1⟩; replace hB := hB.trans (hb1.mono hB.size); clear hb1)
    | ((with_reducible go_at_call 32); (refine (ngroups_any _).mono ?_); rintro e w6 ⟨⟨A6, c6, rfl⟩, hb1⟩; replace hB := hB.trans (hb1.mono hB.size); clear hb1)
    | ((with_reducible go_at_call 33); (refine (nlen_any _).mono ?_); rintro e w7 ⟨rfl, hb1⟩; replace hB := hB.trans (hb1.mono hB.size); clear hb1)
    | ((with_reducible go_at_call 34); (refine (nsteps_any _).mono ?_); rintro e w8 ⟨rfl, hb1⟩; replace hB := hB.trans (hb1.mono hB.size); clear hb1)
    | ((with_reducible go_at_call 35); (refine (nmaps_any _).mono ?_); rintro e w9 ⟨rfl, hb1⟩; replace hB := hB.trans (hb1.mono hB.size); clear hb1)
    | ((with_reducible go_at_call 36); (refine (ncopy_any _).mono ?_); rintro e wc ⟨rfl, hb1⟩; replace hB := hB.trans (hb1.mono hB.size); clear hb1))
  have hlv := fun W (hb : Below w.heap.size w W) => calls_on hb (live37_any W)
  have HLV := Lib.hid hlv
  clear hlv
  by_cases hlo : dep < 1
  · go_wp2_with (first
      | ((with_reducible go_at_call 37); (refine (new_no dep _ (.inl hlo)).mono ?_); rintro e w10 ⟨rfl, hb1⟩; replace hB := hB.trans (hb1.mono hB.size); clear hb1)
      | ((with_reducible go_at_call 38); (refine (HLV.out _ hB).mono ?_); rintro e w11 ⟨rfl, hb1, -, -⟩))
    go_ret
    exact ⟨rfl, hb1⟩
  by_cases hhi : 200 < dep
  · go_wp2_with (first
      | ((with_reducible go_at_call 37); (refine (new_no dep _ (.inr hhi)).mono ?_); rintro e w10 ⟨rfl, hb1⟩; replace hB := hB.trans (hb1.mono hB.size); clear hb1)
      | ((with_reducible go_at_call 38); (refine (HLV.out _ hB).mono ?_); rintro e w11 ⟨rfl, hb1, -, -⟩))
    go_ret
    exact ⟨rfl, hb1⟩
  obtain ⟨D, rfl⟩ : ∃ D : Nat, dep = (D : Int) := ⟨dep.toNat, by omega⟩
  have hD1 : 1 ≤ D := by omega
  have hD2 : D ≤ 200 := by omega
  have e1 : ¬ (D : Int) < 1 := hlo
  have e2 : ¬ (200 : Int) < D := hhi
  go_upto_region 10 with ((with_reducible go_at_call 37); (refine (new_any D _ (by omega) (by omega)).mono ?_); rintro e wn ⟨rfl, hsn, hbn⟩)
  have hBn : Below w.heap.size w wn := hB.trans (hbn.mono hB.size)
  have hraw := (H.out.below hBn).more hBn.size
  have hfew := few37_any A n c L wn hraw (by unfold maxLen; omega)
  have HFEW := Lib.hid hfew
  have HSN := Lib.hid hsn
  have hwc := hB.size
  have hwc2 := def_lt' hsn.k
  clear hfew hraw hsn
  go_wp2_with (go_at_call 39; fail)
  refine HFEW.out.mono ?_
  rintro e wf ⟨vb, rfl, hvb, hbf⟩
  have hBf : Below w.heap.size w wf := hBn.trans (hbf.mono hBn.size)
  cases vb with
  | false =>
    go_wp2_with ((with_reducible go_at_call 38); (refine (HLV.out _ hBf).mono ?_); rintro e w11 ⟨rfl, hb1, -, -⟩)
    go_ret
    exact ⟨rfl, hb1⟩
  | true =>
  obtain ⟨hn16, hsm, htot⟩ := hvb rfl
  have HSM := Lib.hid hsm
  have HTOT := Lib.hid htot
  clear hvb hsm htot
  go_upto_region 13 with fail
  have hbA : Below wf.heap.size wf (wf.alloc (.cells #[.int .i64 D, .slice none 0 0, .slice none 0 0] 88)) := belowA
  have kb := Bk.new wf 88 #[.int .i64 D, .slice none 0 0, .slice none 0 0]
  have hBl : wf.heap.size < (wf.alloc (.cells #[.int .i64 D, .slice none 0 0, .slice none 0 0] 88)).heap.size := def_lt' kb
  generalize wf.alloc (.cells #[.int .i64 D, .slice none 0 0, .slice none 0 0] 88) = wg at *
  obtain ⟨B, hBE⟩ : ∃ B, B = wf.heap.size := ⟨_, rfl⟩
  have hwB : w.heap.size ≤ B := by rw [hBE]; exact hBf.size
  rw [← hBE] at kb hBl ⊢
  have hBg : Below w.heap.size w wg := hBf.trans (hbA.mono hBf.size)
  have hduo : Duo w wg D wc.heap.size none 0 0 none 0 0 0 [] (fun i => i = B) (Yof wc.heap.size (.slice none 0 0) (.slice none 0 0)) :=
    ⟨Nat.le_refl _, hBg, fun i hi => by have : i = B := hi; omega, wc.heap.size, _, _, [], [], [], rfl, rfl, hwc, (HSN.out.below hbf).below hbA, RStk.nil_ _ _, rfl, by simp [totC], by simp, by simp⟩
  have HDUO := Lib.hid hduo
  clear hduo hbA hBf hbf hbn hBn hB hlo hhi hBE
  go_wp2
  go_loopw [8, 11] (fun s j wr => ∃ (q bs : Nat) (A2 : Option Addr) (n2 c2 : Nat) (A3 : Option Addr) (n3 c3 : Nat), q ≤ n ∧ s = .pointer (some ⟨bs, 0, none⟩) ∧ j = .int .i64 q ∧ Below w.heap.size w wr ∧ Bk wr B 88 #[.int .i64 D, .slice A2 n2 c2, .slice A3 n3 c3] ∧ Hid (∃ F Y, Duo w wr D bs A2 n2 c2 A3 n3 (totD (L.take q)) q F (fun i => i = B) Y)) (fun _ j _ => n - (intOf j).toNat)
  case atStart => exact ⟨0, wc.heap.size, none, 0, 0, none, 0, 0, by omega, rfl, rfl, hBg, kb, Lib.hid ⟨_, _, HDUO.out⟩⟩
  case round =>
    obtain ⟨q, bs, A2, n2, c2, A3, n3, c3, hq, rfl, rfl, hbr, kr, hI⟩ := hrel
    by_cases hqn : q < n
    · obtain ⟨d, hx⟩ : ∃ d, L[q]? = some d := ⟨_, List.getElem?_eq_getElem (by have := HLEN.out; omega)⟩
      obtain ⟨din, b, o, rfl, hb, hcc⟩ := DeedsRaw.at_ H.out hx
      have htd := totD_snoc hx
      have htl : totD (L.take q) ≤ 24 := by
        have h1 := HTOT.out
        unfold totD at *
        rw [← List.take_append_drop q L] at h1
        simp only [List.map_append, List.sum_append] at h1
        omega
      obtain ⟨hg1, hg2, hg3⟩ := HSM.out d (List.mem_of_getElem? hx)
      obtain ⟨F, Y, hduo⟩ := hI.out
      have hdo := fun W (hbW : Below wr.heap.size wr W) => does_any w W D bs A2 n2 c2 A3 n3 c3 _ q d F _ Y (hduo.ext hbW) ⟨by omega, by omega⟩ (by omega) (by omega) din hg1 hg2 hg3
      rw [← htd] at hdo
      have HDO := Lib.hid hdo
      have HDU := Lib.hid hduo
      have e3 : (q : Int) < n := by omega
      have hF : ∀ W, (Bk W B 88 #[.int .i64 D, .slice A2 n2 c2, .slice A3 n3 c3] ∧ Below w.heap.size w W) → W.cell? ⟨B, 0, none⟩ = some (.int .i64 D) ∧ W.cell? ⟨B, 1, none⟩ = some (.slice A2 n2 c2) ∧ W.cell? ⟨B, 2, none⟩ = some (.slice A3 n3 c3) ∧ W.cell? ⟨b, o + q * 10, none⟩ = some (.int .i64 d.k) ∧ W.cell? ⟨b, o + q * 10 + 1, none⟩ = some (.slice d.g.A d.g.n d.g.c) ∧ W.cell? ⟨b, o + q * 10 + 2, none⟩ = some (.int .i64 d.g.pin.k) ∧ W.cell? ⟨b, o + q * 10 + 3, none⟩ = some (.int .i64 d.g.pin.a) ∧ W.cell? ⟨b, o + q * 10 + 4, none⟩ = some (.int .i64 d.g.pin.b) ∧ W.cell? ⟨b, o + q * 10 + 5, none⟩ = some (.int .i64 d.g.back.k) ∧ W.cell? ⟨b, o + q * 10 + 6, none⟩ = some (.int .i64 d.g.back.a) ∧ W.cell? ⟨b, o + q * 10 + 7, none⟩ = some (.int .i64 d.g.back.b) ∧ W.cell? ⟨b, o + q * 10 + 8, none⟩ = some (.int .i64 d.g.lost) ∧ W.cell? ⟨b, o + q * 10 + 9, none⟩ = some (.slice d.A d.n d.c) := fun W h => ⟨h.1.cell 0, h.1.cell 1, h.1.cell 2, (h.2.cell hb).trans (hcc 0 (by omega)), (h.2.cell hb).trans (hcc 1 (by omega)), (h.2.cell hb).trans (hcc 2 (by omega)), (h.2.cell hb).trans (hcc 3 (by omega)), (h.2.cell hb).trans (hcc 4 (by omega)), (h.2.cell hb).trans (hcc 5 (by omega)), (h.2.cell hb).trans (hcc 6 (by omega)), (h.2.cell hb).trans (hcc 7 (by omega)), (h.2.cell hb).trans (hcc 8 (by omega)), (h.2.cell hb).trans (hcc 9 (by omega))⟩
      have HF := Lib.hid hF
      clear hF hcc hx htd htl hduo hdo hI din hg1 hg2 hg3
      go_upto_region 17 with fail
      refine wp_normal ?_
      refine region_L (S := fun W => Bk W B 88 #[.int .i64 D, .slice A2 n2 c2, .slice A3 n3 c3] ∧ Below w.heap.size w W) [8, 9, 10, 11, 12, 13] (by kernel_rfl) ⟨kr.drew, hbr.drew⟩ (fun hHeld => ?_)
      (refine tkD 0 ?_; refine tkD 1 ?_; refine tkD 2 ?_; refine tkD 3 ?_; refine tkD 4 ?_; refine tkD 5 ?_)
      refine nxL 6 (fun K hK => ?_)
      go_simp
      go_at_call 40
      refine (HDO.out wr.drew ((Below.refl _ _).drew)).mono ?_
      rintro e w2 ⟨bs2, A4, n4, c4, A5, n5, c5, Y2, rfl, hduo2, hst2, -⟩
      have k2 := (HDU.out.ext ((Below.refl _ _).drew)).keep hst2 kr.drew
      have hb2 := hduo2.below
      refine hK.out _ _ ⟨k2, hb2⟩ (fun hHeld => ?_)
      clear hK K; refine puL ?_
      (refine tkD 7 ?_)
      (refine tkP 8 ?_; refine tkP 9 ?_; refine tkP 10 ?_; refine tkP 11 ?_)
      have x0 := k2.cell 0; have x1 := k2.cell 1; have x2 := k2.cell 2; have xf := k2.frozen; have xl := def_lt' k2
      dsimp at x0 x1 x2
      have g3 : w2.grownBy (((w2.setCell ⟨B, 0, none⟩ (.int .i64 D)).setCell ⟨B, 1, none⟩ (.slice A4 n4 c4)).setCell ⟨B, 2, none⟩ (.slice A5 n5 c5)) (some B) := gr_set (p := ⟨B, 2, none⟩) (gr_set (p := ⟨B, 1, none⟩) (gr_set (p := ⟨B, 0, none⟩) (World.grownBy.refl _ _) (.inl rfl) _) (.inl rfl) _) (.inl rfl) _
      have k3 : Bk (((w2.setCell ⟨B, 0, none⟩ (.int .i64 D)).setCell ⟨B, 1, none⟩ (.slice A4 n4 c4)).setCell ⟨B, 2, none⟩ (.slice A5 n5 c5)) B 88 #[.int .i64 D, .slice A4 n4 c4, .slice A5 n5 c5] := ((k2.set_ 0 _).set_ 1 _).set_ 2 _
      have hduo3 := hduo2.wrote k2 g3 rfl
      refine ltL 12 (fun K hK => ?_)
      go_simp
      refine hK.out _ _ ?_
      clear hK K; refine puL ?_
      (refine tkP 13 ?_)
      refine anyL_done (by kernel_rfl) ?_
      generalize ((w2.setCell ⟨B, 0, none⟩ (.int .i64 D)).setCell ⟨B, 1, none⟩ (.slice A4 n4 c4)).setCell ⟨B, 2, none⟩ (.slice A5 n5 c5) = w3 at *
      have HD3 := Lib.hid hduo3
      obtain ⟨hnc, hb03, hZ, base, lv, mv, Lg, Ms, V, -, -, hbase, hs, hr, hLV, -, -, -⟩ := hduo3
      obtain ⟨Lr, hgx, hLrV⟩ := hr.l
      have hVn : V.length = n4 := hr.len
      have hLn : Lg.length = n4 := by have h1 := congrArg List.length hLV; simp only [List.length_map, List.length_reverse] at h1; omega
      have hMn : Ms.length = n5 := by have h1 := hr.m.len; simpa using h1
      have hn4 := hr.nL
      have htt := hr.tot
      have hc1 := fun W (hbW : Below w3.heap.size w3 W) => calls_same hbW (len_any base bs2 lv mv D Lg Ms W (hs.below hbW))
      rw [hLn] at hc1
      have hc2 := fun W (hbW : Below w3.heap.size w3 W) => calls_on hbW (ssteps_any base bs2 lv mv D Lg Ms W (hs.below hbW))
      rw [hLV, totC_rev] at hc2
      have hc3 := fun W (hbW : Below w3.heap.size w3 W) => calls_on hbW (rsteps_any A4 n4 c4 Lr W ((hgx.ext hbW).in_) (by omega) (by rw [hLrV]; omega))
      rw [hLrV] at hc3
      have hc4 := fun W (hbW : Below w3.heap.size w3 W) => calls_same hbW (maps_any base bs2 lv mv D Lg Ms W (hs.below hbW))
      rw [hMn] at hc4
      have hc5 := fun W (hbW : Below w3.heap.size w3 W) => groups_any base bs2 lv mv D Lg Ms W (hs.below hbW)
      rw [hLV, List.reverse_reverse] at hc5
      have hc6 := fun W (hbW : Below w3.heap.size w3 W) => rgroups_any D A4 n4 c4 A5 n5 c5 V (Ms.map MpH.l) W _ (fun i hi => by
        rcases hi with hi | hi
        · exact Nat.lt_of_lt_of_le (hs.yof i hi).2 hbW.size
        · exact Nat.lt_of_lt_of_le (hZ i hi).2 hbW.size) hnc (hr.ext hbW)
      have hfl : (foldC (Ms.map MpH.l) V).length = n4 := by rw [foldC_len, hVn]
      have hbd : BdC (foldC (Ms.map MpH.l) V) := hr.bd.fold _
      have HC1 := Lib.hid hc1; have HC2 := Lib.hid hc2; have HC3 := Lib.hid hc3; have HC4 := Lib.hid hc4; have HC5 := Lib.hid hc5; have HC6 := Lib.hid hc6
      have HFL := Lib.hid hfl
      have HBD := Lib.hid hbd
      have hF3 : ∀ W, Below w3.heap.size w3 W → W.cell? ⟨B, 0, none⟩ = some (.int .i64 D) ∧ W.cell? ⟨B, 1, none⟩ = some (.slice A4 n4 c4) ∧ W.cell? ⟨B, 2, none⟩ = some (.slice A5 n5 c5) := fun W h => ⟨(k3.ext h).cell 0, (k3.ext h).cell 1, (k3.ext h).cell 2⟩
      clear HF
      have HF := Lib.hid hF3
      have hw3 := hb03.size
      clear hc1 hc2 hc3 hc4 hc5 hc6 hF3 hfl hbd hgx hLrV hLV hr hs hVn hLn hMn hZ x0 x1 x2 g3 HDO hst2 htt
      go_upto_region 18 with fail
      refine wp_normal ?_
      refine wp_region_held_drew (S := fun W => Below w3.heap.size w3 W) (by kernel_rfl) (Below.refl _ _).drew (fun hHeld => ?_)
      (refine tkH 0 ?_; refine tkH 1 ?_; refine tkH 2 ?_; refine tkH 3 ?_; refine tkH 5 ?_; refine tkH 6 ?_; refine tkH 7 ?_)
      refine nxH 4 (fun K hK => ?_)
      go_simp
      go_at_call 33
      refine (HC1.out _ hHeld).mono ?_
      rintro e y1 ⟨rfl, hy1, -, -⟩
      refine hK.out _ _ hy1 (fun hHeld => ?_)
      clear hK K; refine puH ?_
      (refine tkH 8 ?_; refine tkH 9 ?_; refine tkH 10 ?_; refine tkH 11 ?_; refine tkH 13 ?_; refine tkH 14 ?_)
      refine nxH 12 (fun K hK => ?_)
      go_simp
      go_at_call 34
      refine (HC2.out _ hHeld).mono ?_
      rintro e y2 ⟨rfl, hy2, -, -⟩
      refine hK.out _ _ hy2 (fun hHeld => ?_)
      clear hK K; refine puH ?_
      refine nxH 15 (fun K hK => ?_)
      go_simp
      go_at_call 41
      refine (HC3.out _ hHeld).mono ?_
      rintro e y3 ⟨rfl, hy3, -, -⟩
      refine hK.out _ _ hy3 (fun hHeld => ?_)
      clear hK K; refine puH ?_
      (refine tkH 16 ?_; refine tkH 17 ?_; refine tkH 18 ?_; refine tkH 19 ?_; refine tkH 21 ?_; refine tkH 22 ?_; refine tkH 23 ?_)
      refine nxH 20 (fun K hK => ?_)
      go_simp
      go_at_call 35
      refine (HC4.out _ hHeld).mono ?_
      rintro e y4 ⟨rfl, hy4, -, -⟩
      refine hK.out _ _ hy4 (fun hHeld => ?_)
      clear hK K; refine puH ?_
      (refine tkH 24 ?_; refine tkH 25 ?_; refine tkH 26 ?_; refine tkH 27 ?_; refine tkH 30 ?_)
      refine nxH 28 (fun K hK => ?_)
      go_simp
      go_at_call 32
      refine (HC5.out _ hHeld).mono ?_
      intro e y5 ho5
      obtain ⟨A6', n6, c6', L6, rfl, hl6, -, hin6, hO6, hV6, hb6⟩ := grs_out ho5
      have hy5 := hy4.trans (hb6.mono hy4.size)
      obtain rfl : n6 = n4 := by have h1 := congrArg List.length hV6; rw [List.length_map, HFL.out] at h1; omega
      refine hK.out _ _ hy5 (fun hHeld => ?_)
      clear hK K; refine puH ?_
      refine nxH 29 (fun K hK => ?_)
      go_simp
      go_at_call 43
      refine (ours_any A6' n6 c6' L6 y5 hin6 (by omega)).mono ?_
      rintro e y6 ⟨v6, rfl, o6, hb7⟩
      obtain ⟨A7, c7, rfl, -, -, -, rd7⟩ := own_form o6
      have hy6 := hy5.trans (hb7.mono hy5.size)
      have hin7 : GrsIn y6 y6.heap.size A7 n6 L6 := ⟨rd7, fun g hg => (hin6.2 g hg).ext hb7⟩
      refine hK.out _ _ hy6 (fun hHeld => ?_)
      clear hK K; refine puH ?_
      refine nxH 31 (fun K hK => ?_)
      go_simp
      go_at_call 44
      refine (HC6.out _ hHeld).mono ?_
      rintro e y7 ⟨A8, n8, c8, L8, rfl, -, hg8, hV8, hb8⟩
      have hy7 := hy6.trans (hb8.mono hy6.size)
      obtain rfl : n8 = n6 := by have h1 := congrArg List.length hV8; rw [List.length_map, HFL.out] at h1; have h2 := hg8.in_.len; omega
      refine hK.out _ _ hy7 (fun hHeld => ?_)
      clear hK K; refine puH ?_
      have hsa := rgroups_same A7 A8 n8 c7 c8 L6 L8 y7 (hin7.ext hb8) hg8.in_ (by rw [hV6, hV8]) (by omega) (by
        have hB6 : BdC (L6.map GrH.val) := by rw [hV6]; exact HBD.out
        exact hB6.n hO6)
      have HSA := Lib.hid hsa
      clear hsa
      refine nxH 32 (fun K hK => ?_)
      go_simp
      go_at_call 42
      refine HSA.out.mono ?_
      rintro e y8 ⟨rfl, hb9⟩
      have hy8 := hy7.trans (hb9.mono hy7.size)
      refine hK.out _ _ hy8 (fun hHeld => ?_)
      clear hK K; refine puH ?_
      (refine tkH 33 ?_; refine tkH 34 ?_)
      refine wpAnyH_done (by kernel_rfl) ?_ _
      have hbe := hb03.trans (hy8.mono hw3)
      have hke := k3.ext hy8
      have HDE := Lib.hid (HD3.out.ext hy8)
      go_wp2
      go_roundw
      case rel => exact ⟨q + 1, bs2, A4, n8, c4, A5, n5, c5, by omega, rfl, by go_num, hbe, hke, Lib.hid ⟨_, _, HDE.out⟩⟩
      case measure => simp [intOf]; omega
    · obtain rfl : n = q := by omega
      go_wp2_with ((with_reducible go_at_call 38); (refine (HLV.out _ hbr).mono ?_); rintro e w11 ⟨rfl, hb1, -, -⟩)
      go_ret
      exact ⟨rfl, hb1⟩
end Go.Proofs.YtmacfoebfpljoaaGreat
