/- merged texts: Sw Sx Sy Sz Saa Sab Sac Sad Fa -/
import Derived.Test.YtmacfoebfpljoaaGreatMf20
import Derived.Test.YtmacfoebfpljoaaGreatMf4
namespace Go.Proofs.YtmacfoebfpljoaaGreat
open Go.RowKit
set_option linter.unusedVariables false
set_option maxRecDepth 100000 in
set_option maxHeartbeats 8000000 in
theorem does_note_no (w0 w : World) (D : Nat) (bs : Nat) (A : Option Addr) (n c : Nat) (A' : Option Addr) (n' c' S k : Nat) (d : DeedH) (F : List GrC) (Z Y : Nat → Prop) (h : Duo w0 w D bs A n c A' n' S k F Z Y) (hD : 1 ≤ D ∧ D ≤ 200) (hS : S ≤ 500) (hdk : d.k = 2) (hd : d.Raw w0 w0.heap.size) (hdn : d.n ≤ 20) (hdr : rightM d.m = false) :
    Calls Tryz.prog 40 #[.pointer (some ⟨bs, 0, none⟩), .agg #[.int .i64 D, .slice A n c, .slice A' n' c'], .agg (deedA d)] w (DoesOut w0 w D S k F Z Y) := by
  obtain ⟨hnc, hb0, hZ, base, lv, mv, L, Ms, V, rfl, rfl, hbase, hs, hr, hLV, htot, hk, hVD⟩ := h
  have hb1 : Below w.heap.size w (((w.alloc (.cells #[.int .i64 D, .slice A n c, .slice A' n' c'] 88)).alloc (.cells (deedA d) 96)).alloc (.cells #[.int .i64 0, .slice none 0 0, .slice none 0 0] 88)) := belowA
  have k1 : Bk (((w.alloc (.cells #[.int .i64 D, .slice A n c, .slice A' n' c'] 88)).alloc (.cells (deedA d) 96)).alloc (.cells #[.int .i64 0, .slice none 0 0, .slice none 0 0] 88)) w.heap.size 88 #[.int .i64 D, .slice A n c, .slice A' n' c'] := ((Bk.new w _ _).alloc _).alloc _
  have k2 : Bk (((w.alloc (.cells #[.int .i64 D, .slice A n c, .slice A' n' c'] 88)).alloc (.cells (deedA d) 96)).alloc (.cells #[.int .i64 0, .slice none 0 0, .slice none 0 0] 88)) (w.heap.size + 1) 96 (deedA d) := Bk.alloc (Bk.made _ _ (by simp)) _
  have k3 : Bk (((w.alloc (.cells #[.int .i64 D, .slice A n c, .slice A' n' c'] 88)).alloc (.cells (deedA d) 96)).alloc (.cells #[.int .i64 0, .slice none 0 0, .slice none 0 0] 88)) (w.heap.size + 1 + 1) 88 #[.int .i64 0, .slice none 0 0, .slice none 0 0] := Bk.made _ _ (by simp)
  have hs1 := hs.below hb1
  have hr1 := (hr.wide (Y' := fun i => Yof bs lv mv i ∨ (Z i ∨ i = w.heap.size + 1 + 1)) (fun i hi => by rcases hi with hi | hi | hi; (· exact .inl (.inl hi)); (· exact .inl (.inr hi)); (· exact .inr (by omega)))).ext hb1
  have hyl := fun i hi => (hs.yof i hi).2
  have hrm := (hd.m.below hb0).more (hb0.size)
  have hno := fun W (hb : Below w.heap.size w W) => note_no bs d.A d.n d.c d.m W ((hrm.below hb).more hb.size) (by omega) hdr
  have HNO := Lib.hid hno
  have hri := fun W (hb : Below w.heap.size w W) => rright_any d.A d.n d.c d.m W (by unfold maxLen; omega) (fun _ => (hrm.below hb).more hb.size) hrm.rlen
  rw [hdr] at hri
  have HRI := Lib.hid hri
  have HR1 := Lib.hid hr1
  have HS := Lib.hid hs
  have HYL := Lib.hid hyl
  have HLV := Lib.hid hLV
  have c0 := (k2.cell 0).trans (show (deedA d)[0]? = some (Value.int .i64 2) by show some (Value.int .i64 d.k) = _; rw [hdk])
  have c9 := (k2.cell 9).trans (show (deedA d)[9]? = some (Value.slice d.A d.n d.c) from rfl)
  clear hs hr hs1 hr1 hyl hLV hno hri hrm
  go_enter Tryz.func40, Tryz.ntmps40
  go_wp2_with (go_at_call 31; fail)
  generalize hwE : ((w.alloc (.cells #[.int .i64 D, .slice A n c, .slice A' n' c'] 88)).alloc (.cells (deedA d) 96)).alloc (.cells #[.int .i64 0, .slice none 0 0, .slice none 0 0] 88) = w1 at *
  clear hwE c0 c9
  have hz1 := hb1.size
  refine (HNO.out w1 hb1).mono ?_
  rintro e w2 ⟨rfl, hb2⟩
  have c92 := ((k2.ext hb2).cell 9).trans (show (deedA d)[9]? = some (Value.slice d.A d.n d.c) from rfl)
  have hb12 : Below w.heap.size w w2 := hb1.trans (hb2.mono hz1)
  go_wp2_with (go_at_call 86; fail)
  refine (HRI.out w2 hb12).mono ?_
  rintro e w4 ⟨rfl, hb4⟩
  have hb14 : Below w1.heap.size w1 w4 := hb2.trans (hb4.mono hb2.size)
  have m1 := k1.ext hb14
  have m3 := k3.ext hb14
  have x0 := m1.cell 0; have x1 := m1.cell 1; have x2 := m1.cell 2
  have y0 := m3.cell 0; have y1 := m3.cell 1; have y2 := m3.cell 2; have yf := m3.frozen; have yl := def_lt' m3
  dsimp at x0 x1 x2 y0 y1 y2
  clear k1 k2 k3 c92
  go_upto_region 14 with fail
  go_region
  have g5 : w4.grownBy (((w4.setCell ⟨w.heap.size + 1 + 1, 0, none⟩ (.int .i64 D)).setCell ⟨w.heap.size + 1 + 1, 1, none⟩ (.slice A n c)).setCell ⟨w.heap.size + 1 + 1, 2, none⟩ (.slice A' n' c')) (some (w.heap.size + 1 + 1)) := gr_set (p := ⟨w.heap.size + 1 + 1, 2, none⟩) (gr_set (p := ⟨w.heap.size + 1 + 1, 1, none⟩) (gr_set (p := ⟨w.heap.size + 1 + 1, 0, none⟩) (World.grownBy.refl _ _) (.inl rfl) _) (.inl rfl) _) (.inl rfl) _
  have z5 : Bk (((w4.setCell ⟨w.heap.size + 1 + 1, 0, none⟩ (.int .i64 D)).setCell ⟨w.heap.size + 1 + 1, 1, none⟩ (.slice A n c)).setCell ⟨w.heap.size + 1 + 1, 2, none⟩ (.slice A' n' c')).drew (w.heap.size + 1 + 1) 88 #[.int .i64 D, .slice A n c, .slice A' n' c'] := (((m3.set_ 0 _).set_ 1 _).set_ 2 _).drew
  have hbsl := def_lt' HS.out.k
  have hs5 := ((((HS.out.below hb1).below hb14).grown m3 g5 (by omega))).below ((Below.refl _ _).drew)
  have hr5 := ((HR1.out.ext hb14).stir (Stir.of_gr g5 (fun i e => by injection e with e; exact .inr (.inr e.symm)))).ext ((Below.refl _ _).drew)
  have hr6 := hr5.wide (Y' := fun i => Yof bs lv mv i ∨ Z i) (fun i hi => by rcases hi with hi | hi; (· exact .inl (.inl hi)); (· exact .inl (.inr (.inl hi))))
  have hb04 : Below w0.heap.size w0 w4 := (hb0.trans (hb1.mono hb0.size)).trans (hb14.mono (Nat.le_trans hb0.size hz1))
  have hb5 := (hb04.grown g5 hb04.size (fun k e => by injection e with e; subst e; have := hb0.size; omega)).drew
  have hst5 : Stir (Yof bs lv mv) w _ := ((Stir.of_below (hb1.trans (hb14.mono hz1))).fresh (Stir.of_gr (X := fun i => i = w.heap.size + 1 + 1) g5 (fun i e => by injection e with e; exact e.symm)) (fun i e => .inr (by have : i = w.heap.size + 1 + 1 := e; omega))).trans (Stir.of_below ((Below.refl _ _).drew))
  have HST5 := Lib.hid hst5
  have hz5 := hst5.size
  clear hr5 x0 x1 x2 y0 y1 y2 hst5
  generalize (((w4.setCell ⟨w.heap.size + 1 + 1, 0, none⟩ (.int .i64 D)).setCell ⟨w.heap.size + 1 + 1, 1, none⟩ (.slice A n c)).setCell ⟨w.heap.size + 1 + 1, 2, none⟩ (.slice A' n' c')).drew = w5 at *
  have q0 := z5.cell 0; have q1 := z5.cell 1; have q2 := z5.cell 2
  dsimp at q0 q1 q2
  go_wp2
  exact bodyPost_ret (v := .tuple #[.pointer (some ⟨bs, 0, none⟩), .agg #[.int .i64 D, .slice A n c, .slice A' n' c'], .bool true]) (by simp [results, Tryz.results40, go_sem, q0, q1, q2]) rfl ⟨bs, A, n, c, A', n', c', Yof bs lv mv, rfl, ⟨hnc, hb5, fun i hi => ⟨(hZ i hi).1, Nat.lt_of_lt_of_le (hZ i hi).2 hz5⟩, base, lv, mv, _, Ms, V, rfl, rfl, hbase, hs5, hr6, HLV.out, htot, hk, hVD⟩, HST5.out, fun i hi => .inl hi⟩
set_option maxRecDepth 100000 in
set_option maxHeartbeats 8000000 in
theorem does_note_yes (w0 w : World) (D : Nat) (bs : Nat) (A : Option Addr) (n c : Nat) (A' : Option Addr) (n' c' S k : Nat) (d : DeedH) (F : List GrC) (Z Y : Nat → Prop) (h : Duo w0 w D bs A n c A' n' S k F Z Y) (hD : 1 ≤ D ∧ D ≤ 200) (hS : S ≤ 500) (hk16 : k ≤ 16) (hdk : d.k = 2) (hd : d.Raw w0 w0.heap.size) (hdn : d.n ≤ 20) (hdr : rightM d.m = true) :
    Calls Tryz.prog 40 #[.pointer (some ⟨bs, 0, none⟩), .agg #[.int .i64 D, .slice A n c, .slice A' n' c'], .agg (deedA d)] w (DoesOut w0 w D S (k + 1) (overC d.m F) Z Y) := by
  obtain ⟨hnc, hb0, hZ, base, lv, mv, L, Ms, V, rfl, rfl, hbase, hs, hr, hLV, htot, hk, hVD⟩ := h
  have hb1 : Below w.heap.size w (((w.alloc (.cells #[.int .i64 D, .slice A n c, .slice A' n' c'] 88)).alloc (.cells (deedA d) 96)).alloc (.cells #[.int .i64 0, .slice none 0 0, .slice none 0 0] 88)) := belowA
  have k1 : Bk (((w.alloc (.cells #[.int .i64 D, .slice A n c, .slice A' n' c'] 88)).alloc (.cells (deedA d) 96)).alloc (.cells #[.int .i64 0, .slice none 0 0, .slice none 0 0] 88)) w.heap.size 88 #[.int .i64 D, .slice A n c, .slice A' n' c'] := ((Bk.new w _ _).alloc _).alloc _
  have k2 : Bk (((w.alloc (.cells #[.int .i64 D, .slice A n c, .slice A' n' c'] 88)).alloc (.cells (deedA d) 96)).alloc (.cells #[.int .i64 0, .slice none 0 0, .slice none 0 0] 88)) (w.heap.size + 1) 96 (deedA d) := Bk.alloc (Bk.made _ _ (by simp)) _
  have k3 : Bk (((w.alloc (.cells #[.int .i64 D, .slice A n c, .slice A' n' c'] 88)).alloc (.cells (deedA d) 96)).alloc (.cells #[.int .i64 0, .slice none 0 0, .slice none 0 0] 88)) (w.heap.size + 1 + 1) 88 #[.int .i64 0, .slice none 0 0, .slice none 0 0] := Bk.made _ _ (by simp)
  have hs1 := hs.below hb1
  have hr1 := (hr.wide (Y' := fun i => Yof bs lv mv i ∨ (Z i ∨ i = w.heap.size + 1 + 1)) (fun i hi => by rcases hi with hi | hi | hi; (· exact .inl (.inl hi)); (· exact .inl (.inr hi)); (· exact .inr (by omega)))).ext hb1
  have hyl := fun i hi => (hs.yof i hi).2
  have hrm := (hd.m.below hb0).more (hb0.size)
  have hav : Av (Yof bs lv mv) d.A d.n := rd_av hd.m (fun i hi => Nat.le_trans hbase (hs.yof i hi).1)
  have hri := fun W (hb : Below w.heap.size w W) => rright_any d.A d.n d.c d.m W (by unfold maxLen; omega) (fun _ => (hrm.below hb).more hb.size) hrm.rlen
  rw [hdr] at hri
  have HRI := Lib.hid hri
  have HR1 := Lib.hid hr1
  have HS := Lib.hid hs
  have HYL := Lib.hid hyl
  have HLV := Lib.hid hLV
  have c0 := (k2.cell 0).trans (show (deedA d)[0]? = some (Value.int .i64 2) by show some (Value.int .i64 d.k) = _; rw [hdk])
  have c9 := (k2.cell 9).trans (show (deedA d)[9]? = some (Value.slice d.A d.n d.c) from rfl)
  clear hs hr hs1 hr1 hyl hLV hri
  go_enter Tryz.func40, Tryz.ntmps40
  go_wp2_with (go_at_call 31; fail)
  generalize hwE : ((w.alloc (.cells #[.int .i64 D, .slice A n c, .slice A' n' c'] 88)).alloc (.cells (deedA d) 96)).alloc (.cells #[.int .i64 0, .slice none 0 0, .slice none 0 0] 88) = w1 at *
  clear hwE c0 c9
  have hz1 := hb1.size
  have hpn := note_any base bs lv mv D L Ms d.A d.n d.c d.m w1 (HS.out.below hb1) (fun w' hst => ((hrm.below hb1).more hz1).stir hst hav) hd.A hdr
  rw [if_neg (by omega), if_neg (by omega)] at hpn
  have HPN := Lib.hid hpn
  clear hpn
  refine HPN.out.mono ?_
  rintro e w2 ⟨rfl, lv1, mv1, L1, Ms1, hs2, hV1, hM1, hto⟩
  have hz2 := hto.1.size
  have hl1 := def_lt' k1
  have hl2 := def_lt' k2
  have hl3 := def_lt' k3
  have hnY : ∀ i, w.heap.size ≤ i → ¬ Yof bs lv mv i := fun i hi hy => by have := HYL.out i hy; omega
  have m1 : Bk w2 w.heap.size 88 #[.int .i64 D, .slice A n c, .slice A' n' c'] := (hto.1.block _ hl1 (hnY _ (by omega))).trans k1
  have m2 : Bk w2 (w.heap.size + 1) 96 (deedA d) := (hto.1.block _ hl2 (hnY _ (by omega))).trans k2
  have m3 : Bk w2 (w.heap.size + 1 + 1) 88 #[.int .i64 0, .slice none 0 0, .slice none 0 0] := (hto.1.block _ hl3 (hnY _ (by omega))).trans k3
  have hrm2 := ((hrm.below hb1).more hz1).stir hto.1 hav
  have hb02 : Below w0.heap.size w0 w2 := (hb0.trans (hb1.mono hb0.size)).trans ((hto.below (HS.out.below hb1)).mono hbase)
  have hr2 := duo_ownX _ HR1.out hto
  have hri2 := rright_any d.A d.n d.c d.m w2 (by unfold maxLen; omega) (fun _ => hrm2) hrm2.rlen
  rw [hdr] at hri2
  have HRI2 := Lib.hid hri2
  have c92 := (m2.cell 9).trans (show (deedA d)[9]? = some (Value.slice d.A d.n d.c) from rfl)
  have HS2 := Lib.hid hs2
  have HR2 := Lib.hid hr2
  have HM1 := Lib.hid hM1
  have HV1 := Lib.hid hV1
  have HRM2 := Lib.hid hrm2
  have hyn := fun i hi => (hs2.yof i hi)
  have HYN := Lib.hid hyn
  have hst2 : Stir (Yof bs lv mv) w w2 := (Stir.of_below hb1).trans hto.1
  have hsub := sub_of hto hz1
  have HST := Lib.hid hst2
  have HSUB := Lib.hid hsub
  clear hst2 hsub
  clear hri2 hs2 hr2 hM1 hV1 hrm2 hyn hto hnY HPN HRI HR1 k1 k2 k3 hrm hav
  go_wp2_with (go_at_call 86; fail)
  refine HRI2.out.mono ?_
  rintro e w4 ⟨rfl, hb4⟩
  have m14 := m1.ext hb4
  have m24 := m2.ext hb4
  have x0 := m14.cell 0; have x1 := m14.cell 1; have x2 := m14.cell 2
  have c94 := (m24.cell 9).trans (show (deedA d)[9]? = some (Value.slice d.A d.n d.c) from rfl)
  dsimp at x0 x1 x2
  have hml : d.m.length = d.n := HRM2.out.rlen
  have hn' : n' ≤ 499 := by
    have h1 := HR2.out.m.len
    simp only [List.length_map] at h1
    omega
  have hrn := rnote_any D A n c A' n' c' V (Ms.map MpH.l) d.A d.c d.m w4 (fun i => Yof bs lv1 mv1 i ∨ (Z i ∨ i = w.heap.size + 1 + 1)) (fun i hi => by
    have := hb4.size
    rcases hi with hi | hi | hi
    · have := (HYN.out i hi).2; omega
    · have := (hZ i hi).2; omega
    · have := def_lt' m3; omega) (HR2.out.ext hb4) (by rw [hml]; exact (HRM2.out.below hb4).more hb4.size) (by
    rw [hml]
    exact rd_av hd.m (fun i hi => by
      rcases hi with hi | hi | hi
      · exact Nat.le_trans hbase (HYN.out i hi).1
      · exact (hZ i hi).1
      · have := hb0.size; omega)) (by omega) hn'
  rw [hml] at hrn
  have HRN := Lib.hid hrn
  have HML := Lib.hid hml
  clear hrn hml c92
  go_wp2_with (go_at_call 87; fail)
  refine HRN.out.mono ?_
  rintro e w5 ⟨A3, c3, rfl, hr5, hb5⟩
  have hb25 : Below w2.heap.size w2 w5 := hb4.trans (hb5.mono hb4.size)
  have y3 := m3.ext hb25
  have q0 := y3.cell 0; have q1 := y3.cell 1; have q2 := y3.cell 2; have qf := y3.frozen; have ql := def_lt' y3
  dsimp at q0 q1 q2
  clear x0 x1 x2 c94
  have g6 : w5.grownBy (((w5.setCell ⟨w.heap.size + 1 + 1, 0, none⟩ (.int .i64 D)).setCell ⟨w.heap.size + 1 + 1, 1, none⟩ (.slice A n c)).setCell ⟨w.heap.size + 1 + 1, 2, none⟩ (.slice A3 (n' + 1) c3)) (some (w.heap.size + 1 + 1)) := gr_set (p := ⟨w.heap.size + 1 + 1, 2, none⟩) (gr_set (p := ⟨w.heap.size + 1 + 1, 1, none⟩) (gr_set (p := ⟨w.heap.size + 1 + 1, 0, none⟩) (World.grownBy.refl _ _) (.inl rfl) _) (.inl rfl) _) (.inl rfl) _
  have z6 : Bk (((w5.setCell ⟨w.heap.size + 1 + 1, 0, none⟩ (.int .i64 D)).setCell ⟨w.heap.size + 1 + 1, 1, none⟩ (.slice A n c)).setCell ⟨w.heap.size + 1 + 1, 2, none⟩ (.slice A3 (n' + 1) c3)) (w.heap.size + 1 + 1) 88 #[.int .i64 D, .slice A n c, .slice A3 (n' + 1) c3] := ((y3.set_ 0 _).set_ 1 _).set_ 2 _
  have hbsl := def_lt' HS.out.k
  have hs6 := (HS2.out.below hb25).grown y3 g6 (by omega)
  have hr6 := (hr5.stir (Stir.of_gr g6 (fun i e => by injection e with e; exact .inr (.inr e.symm)))).wide (Y' := fun i => Yof bs lv1 mv1 i ∨ Z i) (fun i hi => by rcases hi with hi | hi; (· exact .inl (.inl hi)); (· exact .inl (.inr (.inl hi))))
  have hb05 := hb02.trans (hb25.mono hb02.size)
  have hb6 : Below w0.heap.size w0 (((w5.setCell ⟨w.heap.size + 1 + 1, 0, none⟩ (.int .i64 D)).setCell ⟨w.heap.size + 1 + 1, 1, none⟩ (.slice A n c)).setCell ⟨w.heap.size + 1 + 1, 2, none⟩ (.slice A3 (n' + 1) c3)) := hb05.grown g6 hb05.size (fun k e => by injection e with e; subst e; have := hb0.size; omega)
  have hst6 := (HST.out.trans (Stir.of_below hb25)).fresh (Stir.of_gr (X := fun i => i = w.heap.size + 1 + 1) g6 (fun i e => by injection e with e; exact e.symm)) (fun i e => .inr (by have : i = w.heap.size + 1 + 1 := e; omega))
  have hz6 := hst6.size
  have HST6 := Lib.hid hst6
  clear hst6
  go_wp2
  generalize ((w5.setCell ⟨w.heap.size + 1 + 1, 0, none⟩ (.int .i64 D)).setCell ⟨w.heap.size + 1 + 1, 1, none⟩ (.slice A n c)).setCell ⟨w.heap.size + 1 + 1, 2, none⟩ (.slice A3 (n' + 1) c3) = w6 at *
  clear q0 q1 q2
  have q0 := z6.cell 0; have q1 := z6.cell 1; have q2 := z6.cell 2
  dsimp at q0 q1 q2
  exact bodyPost_ret (v := .tuple #[.pointer (some ⟨bs, 0, none⟩), .agg #[.int .i64 D, .slice A n c, .slice A3 (n' + 1) c3], .bool true]) (by simp [results, Tryz.results40, go_sem, q0, q1, q2]) rfl ⟨bs, A, n, c, A3, n' + 1, c3, Yof bs lv1 mv1, rfl, ⟨hnc, hb6, fun i hi => ⟨(hZ i hi).1, Nat.lt_of_lt_of_le (hZ i hi).2 hz6⟩, base, lv1, mv1, L1, Ms1, V, rfl, by rw [HM1.out, foldC_snoc], hbase, hs6, by rw [HM1.out]; exact hr6, by rw [HV1.out, HLV.out], htot, by have h1 := congrArg List.length HM1.out; simp only [List.length_map, List.length_append, List.length_cons, List.length_nil] at h1; omega, hVD⟩, HST6.out, HSUB.out⟩
set_option maxRecDepth 100000 in
set_option maxHeartbeats 8000000 in
theorem does_set (w0 w : World) (D : Nat) (bs : Nat) (A : Option Addr) (n c : Nat) (A' : Option Addr) (n' c' S k : Nat) (d : DeedH) (F : List GrC) (Z Y : Nat → Prop) (h : Duo w0 w D bs A n c A' n' S k F Z Y) (hD : 1 ≤ D ∧ D ≤ 200) (hS : S ≤ 500) (hdk : d.k = 4) (hd : d.Raw w0 w0.heap.size) (hd1 : d.g.n ≤ 20) (hd2 : SmallS d.g.L) :
    Calls Tryz.prog 40 #[.pointer (some ⟨bs, 0, none⟩), .agg #[.int .i64 D, .slice A n c, .slice A' n' c'], .agg (deedA d)] w (DoesOut w0 w D (S + d.g.n) k [d.g.val] Z Y) := by
  obtain ⟨hnc, hb0, hZ, base, lv, mv, L, Ms, V, rfl, rfl, hbase, hs, hr, hLV, htot, hk, hVD⟩ := h
  have hb1 : Below w.heap.size w (((w.alloc (.cells #[.int .i64 D, .slice A n c, .slice A' n' c'] 88)).alloc (.cells (deedA d) 96)).alloc (.cells #[.int .i64 0, .slice none 0 0, .slice none 0 0] 88)) := belowA
  have k1 : Bk (((w.alloc (.cells #[.int .i64 D, .slice A n c, .slice A' n' c'] 88)).alloc (.cells (deedA d) 96)).alloc (.cells #[.int .i64 0, .slice none 0 0, .slice none 0 0] 88)) w.heap.size 88 #[.int .i64 D, .slice A n c, .slice A' n' c'] := ((Bk.new w _ _).alloc _).alloc _
  have k2 : Bk (((w.alloc (.cells #[.int .i64 D, .slice A n c, .slice A' n' c'] 88)).alloc (.cells (deedA d) 96)).alloc (.cells #[.int .i64 0, .slice none 0 0, .slice none 0 0] 88)) (w.heap.size + 1) 96 (deedA d) := Bk.alloc (Bk.made _ _ (by simp)) _
  have k3 : Bk (((w.alloc (.cells #[.int .i64 D, .slice A n c, .slice A' n' c'] 88)).alloc (.cells (deedA d) 96)).alloc (.cells #[.int .i64 0, .slice none 0 0, .slice none 0 0] 88)) (w.heap.size + 1 + 1) 88 #[.int .i64 0, .slice none 0 0, .slice none 0 0] := Bk.made _ _ (by simp)
  have hs1 := hs.below hb1
  have hr1 := (hr.wide (Y' := fun i => Yof bs lv mv i ∨ (Z i ∨ i = w.heap.size + 1 + 1)) (fun i hi => by rcases hi with hi | hi | hi; (· exact .inl (.inl hi)); (· exact .inl (.inr hi)); (· exact .inr (by omega)))).ext hb1
  have hyl := fun i hi => (hs.yof i hi).2
  have HR1 := Lib.hid hr1
  have HS := Lib.hid hs
  have HYL := Lib.hid hyl
  have HLV := Lib.hid hLV
  have c0 := (k2.cell 0).trans (show (deedA d)[0]? = some (Value.int .i64 4) by show some (Value.int .i64 d.k) = _; rw [hdk])
  have d1 := (k2.cell 1).trans (show (deedA d)[1]? = _ from rfl)
  have d2 := (k2.cell 2).trans (show (deedA d)[2]? = _ from rfl)
  have d3 := (k2.cell 3).trans (show (deedA d)[3]? = _ from rfl)
  have d4 := (k2.cell 4).trans (show (deedA d)[4]? = _ from rfl)
  have d5 := (k2.cell 5).trans (show (deedA d)[5]? = _ from rfl)
  have d6 := (k2.cell 6).trans (show (deedA d)[6]? = _ from rfl)
  have d7 := (k2.cell 7).trans (show (deedA d)[7]? = _ from rfl)
  have d8 := (k2.cell 8).trans (show (deedA d)[8]? = _ from rfl)
  clear hs hr hs1 hr1 hyl hLV
  have HZE : Hid ((((w.alloc (.cells #[.int .i64 D, .slice A n c, .slice A' n' c'] 88)).alloc (.cells (deedA d) 96)).alloc (.cells #[.int .i64 0, .slice none 0 0, .slice none 0 0] 88)).heap.size = w.heap.size + 1 + 1 + 1) := Lib.hid (by simp)
  go_enter Tryz.func40, Tryz.ntmps40
  go_wp2_with (go_at_call 84; fail)
  generalize hwE : ((w.alloc (.cells #[.int .i64 D, .slice A n c, .slice A' n' c'] 88)).alloc (.cells (deedA d) 96)).alloc (.cells #[.int .i64 0, .slice none 0 0, .slice none 0 0] 88) = w1 at *
  clear hwE c0 d1 d2 d3 d4 d5 d6 d7 d8
  have hz1 := hb1.size
  rw [← HZE.out]
  have hbg : Below w1.heap.size w1 (w1.alloc (.cells #[.slice d.g.A d.g.n d.g.c, .int .i64 d.g.pin.k, .int .i64 d.g.pin.a, .int .i64 d.g.pin.b, .int .i64 d.g.back.k, .int .i64 d.g.back.a, .int .i64 d.g.back.b, .int .i64 d.g.lost] 93)) := belowA
  have kg : Bk (w1.alloc (.cells #[.slice d.g.A d.g.n d.g.c, .int .i64 d.g.pin.k, .int .i64 d.g.pin.a, .int .i64 d.g.pin.b, .int .i64 d.g.back.k, .int .i64 d.g.back.a, .int .i64 d.g.back.b, .int .i64 d.g.lost] 93)) w1.heap.size 93 d.g.cells.toArray := Bk.new w1 _ _
  generalize w1.alloc (.cells #[.slice d.g.A d.g.n d.g.c, .int .i64 d.g.pin.k, .int .i64 d.g.pin.a, .int .i64 d.g.pin.b, .int .i64 d.g.back.k, .int .i64 d.g.back.a, .int .i64 d.g.back.b, .int .i64 d.g.lost] 93) = wg at *
  have hzg := hbg.size
  have hb1g : Below w.heap.size w wg := hb1.trans (hbg.mono hz1)
  have hb0g : Below w0.heap.size w0 wg := hb0.trans (hb1g.mono hb0.size)
  have hgr : GrsRaw wg wg.heap.size (some ⟨w1.heap.size, 0, none⟩) 1 [d.g] := ⟨Rd.of_bk kg (by simp [grs]) rfl (def_lt' kg), fun x hx => by simp at hx; subst hx; exact (hd.g.below hb0g).more hb0g.size⟩
  have hsm : Small [d.g] := fun x hx => by simp at hx; subst hx; exact ⟨hd1, hd2⟩
  refine (theirs_any (some ⟨w1.heap.size, 0, none⟩) 1 1 [d.g] wg hgr (by omega)).mono ?_
  rintro e w2 ⟨v2, rfl, o2, hb2⟩
  obtain ⟨A2, c2, rfl, hin2⟩ := grs_in hgr hsm o2 hb2 hb2.size
  have hb12 : Below w1.heap.size w1 w2 := hbg.trans (hb2.mono hzg)
  have hset := set_any base bs lv mv D L Ms A2 1 c2 [d.g] w2 ((HS.out.below hb1).below hb12) hin2 (by omega) (fun x hx => by
    simp at hx
    subst hx
    have h1 : d.g.L.length = d.g.n := by have := hin2.2 d.g (by simp); exact this.sts.len
    exact ⟨by simp [GrH.val]; omega, hd.g.lost⟩)
  have HSET := Lib.hid hset
  clear hset hin2 hgr hsm o2
  go_wp2_with (go_at_call 29; fail)
  refine HSET.out.mono ?_
  rintro e w3 ⟨⟨v, rfl⟩, lv3, mv3, L3, Ms3, hs3, hV3, hM3, hto⟩
  obtain rfl : Ms3 = [] := by simpa using hM3
  have hz3 := hto.1.size
  have hz2 := hb12.size
  have hl3 := def_lt' k3
  have hnY : ∀ i, w.heap.size ≤ i → ¬ Yof bs lv mv i := fun i hi hy => by have := HYL.out i hy; omega
  have m1 : Bk w3 w.heap.size 88 #[.int .i64 D, .slice A n c, .slice A' n' c'] := (hto.1.block _ (by omega) (hnY _ (by omega))).trans (k1.ext hb12)
  have m2 : Bk w3 (w.heap.size + 1) 96 (deedA d) := (hto.1.block _ (by omega) (hnY _ (by omega))).trans (k2.ext hb12)
  have m3 : Bk w3 (w.heap.size + 1 + 1) 88 #[.int .i64 0, .slice none 0 0, .slice none 0 0] := (hto.1.block _ (by omega) (hnY _ (by omega))).trans (k3.ext hb12)
  have hb03 : Below w0.heap.size w0 w3 := (hb0.trans (hb1.mono hb0.size)).trans ((hb12.mono (Nat.le_trans hb0.size hz1)).trans ((hto.below ((HS.out.below hb1).below hb12)).mono hbase))
  have x0 := m1.cell 0; have x1 := m1.cell 1; have x2 := m1.cell 2
  have y0 := m3.cell 0; have y1 := m3.cell 1; have y2 := m3.cell 2; have yf := m3.frozen; have yl := def_lt' m3
  have d1 := (m2.cell 1).trans (show (deedA d)[1]? = _ from rfl)
  have d2 := (m2.cell 2).trans (show (deedA d)[2]? = _ from rfl)
  have d3 := (m2.cell 3).trans (show (deedA d)[3]? = _ from rfl)
  have d4 := (m2.cell 4).trans (show (deedA d)[4]? = _ from rfl)
  have d5 := (m2.cell 5).trans (show (deedA d)[5]? = _ from rfl)
  have d6 := (m2.cell 6).trans (show (deedA d)[6]? = _ from rfl)
  have d7 := (m2.cell 7).trans (show (deedA d)[7]? = _ from rfl)
  have d8 := (m2.cell 8).trans (show (deedA d)[8]? = _ from rfl)
  dsimp at x0 x1 x2 y0 y1 y2
  have HS3 := Lib.hid hs3
  have HV3 := Lib.hid hV3
  have hst3 : Stir (Yof bs lv mv) w w3 := (Stir.of_below (hb1.trans (hb12.mono hz1))).trans hto.1
  have hsub := sub_of hto (Nat.le_trans hz1 hz2)
  have HST := Lib.hid hst3
  have HSUB := Lib.hid hsub
  have HYN := Lib.hid (fun i hi => hs3.yof i hi)
  clear hs3 hV3 hto hM3 hnY k1 k2 k3 kg HR1 HSET hst3 hsub
  have hF : ∀ W, (Bk W w.heap.size 88 #[.int .i64 D, .slice A n c, .slice A' n' c'] ∧ Bk W (w.heap.size + 1) 96 (deedA d)) → W.cell? ⟨w.heap.size, 0, none⟩ = some (.int .i64 D) ∧ W.cell? ⟨w.heap.size + 1, 1, none⟩ = some (.slice d.g.A d.g.n d.g.c) ∧ W.cell? ⟨w.heap.size + 1, 2, none⟩ = some (.int .i64 d.g.pin.k) ∧ W.cell? ⟨w.heap.size + 1, 3, none⟩ = some (.int .i64 d.g.pin.a) ∧ W.cell? ⟨w.heap.size + 1, 4, none⟩ = some (.int .i64 d.g.pin.b) ∧ W.cell? ⟨w.heap.size + 1, 5, none⟩ = some (.int .i64 d.g.back.k) ∧ W.cell? ⟨w.heap.size + 1, 6, none⟩ = some (.int .i64 d.g.back.a) ∧ W.cell? ⟨w.heap.size + 1, 7, none⟩ = some (.int .i64 d.g.back.b) ∧ W.cell? ⟨w.heap.size + 1, 8, none⟩ = some (.int .i64 d.g.lost) := fun W h => ⟨h.1.cell 0, h.2.cell 1, h.2.cell 2, h.2.cell 3, h.2.cell 4, h.2.cell 5, h.2.cell 6, h.2.cell 7, h.2.cell 8⟩
  have HF := Lib.hid hF
  clear hF d1 d2 d3 d4 d5 d6 d7 d8 x0 x1 x2 y0 y1 y2
  go_upto_region 21 with fail
  refine wp_normal ?_
  refine wp_region_held_drew (S := fun W => Bk W w.heap.size 88 #[.int .i64 D, .slice A n c, .slice A' n' c'] ∧ Bk W (w.heap.size + 1) 96 (deedA d)) (by kernel_rfl) ⟨m1.drew, m2.drew⟩ (fun hHeld => ?_)
  (refine tkH 0 ?_; refine tkH 1 ?_; refine tkH 2 ?_; refine tkH 3 ?_; refine tkH 4 ?_; refine tkH 7 ?_)
  have hbg : Below w3.heap.size w3 (w3.alloc (.cells #[.slice d.g.A d.g.n d.g.c, .int .i64 d.g.pin.k, .int .i64 d.g.pin.a, .int .i64 d.g.pin.b, .int .i64 d.g.back.k, .int .i64 d.g.back.a, .int .i64 d.g.back.b, .int .i64 d.g.lost] 93)).drew := belowA
  have kg : Bk (w3.alloc (.cells #[.slice d.g.A d.g.n d.g.c, .int .i64 d.g.pin.k, .int .i64 d.g.pin.a, .int .i64 d.g.pin.b, .int .i64 d.g.back.k, .int .i64 d.g.back.a, .int .i64 d.g.back.b, .int .i64 d.g.lost] 93)).drew w3.heap.size 93 d.g.cells.toArray := Bk.drew (Bk.new w3 _ _)
  refine nxH 5 (fun K hK => ?_)
  go_simp
  refine hK.out _ _ ⟨m1.drew.alloc _, m2.drew.alloc _⟩ (fun hHeld => ?_)
  clear hK K; refine puH ?_
  generalize (w3.alloc (.cells #[.slice d.g.A d.g.n d.g.c, .int .i64 d.g.pin.k, .int .i64 d.g.pin.a, .int .i64 d.g.pin.b, .int .i64 d.g.back.k, .int .i64 d.g.back.a, .int .i64 d.g.back.b, .int .i64 d.g.lost] 93)).drew = w4 at *
  (refine tkH 6 ?_)
  have m14 := m1.ext hbg
  have m24 := m2.ext hbg
  have m34 := m3.ext hbg
  have x0 := m34.cell 0; have x1 := m34.cell 1; have x2 := m34.cell 2; have xf := m34.frozen; have xl := def_lt' m34
  dsimp at x0 x1 x2
  have g7 : w4.grownBy (((w4.setCell ⟨w.heap.size + 1 + 1, 0, none⟩ (.int .i64 D)).setCell ⟨w.heap.size + 1 + 1, 1, none⟩ (.slice (some ⟨w3.heap.size, 0, none⟩) 1 1)).setCell ⟨w.heap.size + 1 + 1, 2, none⟩ (.slice none 0 0)) (some (w.heap.size + 1 + 1)) := gr_set (p := ⟨w.heap.size + 1 + 1, 2, none⟩) (gr_set (p := ⟨w.heap.size + 1 + 1, 1, none⟩) (gr_set (p := ⟨w.heap.size + 1 + 1, 0, none⟩) (World.grownBy.refl _ _) (.inl rfl) _) (.inl rfl) _) (.inl rfl) _
  refine nxH 8 (fun K hK => ?_)
  go_simp
  refine hK.out _ _ ⟨m14.grown g7 (by simp; omega), m24.grown g7 (by simp)⟩ (fun hHeld => ?_)
  clear hK K; refine puH ?_
  (refine tkH 9 ?_)
  refine wpAnyH_done (by kernel_rfl) ?_ _
  have z7 : Bk (((w4.setCell ⟨w.heap.size + 1 + 1, 0, none⟩ (.int .i64 D)).setCell ⟨w.heap.size + 1 + 1, 1, none⟩ (.slice (some ⟨w3.heap.size, 0, none⟩) 1 1)).setCell ⟨w.heap.size + 1 + 1, 2, none⟩ (.slice none 0 0)) (w.heap.size + 1 + 1) 88 #[.int .i64 D, .slice (some ⟨w3.heap.size, 0, none⟩) 1 1, .slice none 0 0] := ((m34.set_ 0 _).set_ 1 _).set_ 2 _
  have hbsl := def_lt' HS.out.k
  have hs7 := (HS3.out.below hbg).grown m34 g7 (by omega)
  have hYl : ∀ i, (Yof bs lv3 mv3 i ∨ (Z i ∨ i = w.heap.size + 1 + 1)) → w0.heap.size ≤ i ∧ i < w3.heap.size := fun i hi => by
    have := hb0.size
    rcases hi with hi | hi | hi
    · exact ⟨Nat.le_trans hbase (HYN.out i hi).1, (HYN.out i hi).2⟩
    · have := hZ i hi; omega
    · have := def_lt' m3; omega
  have hb04 : Below w0.heap.size w0 w4 := hb03.trans (hbg.mono hb03.size)
  have hgX := deed_x (Y := fun i => Yof bs lv3 mv3 i ∨ (Z i ∨ i = w.heap.size + 1 + 1)) hd hd1 hd2 hb04 (fun i hi => (hYl i hi).1)
  have hgs := GrsX.cons (L := []) (A2 := some ⟨w3.heap.size, 0, none⟩) (n2 := 1) hgX (by simp) (Rd.of_bk kg (by simp [grs]) rfl (def_lt' kg)) (fun h => by cases h) (fun _ a ha hy => by injection ha with ha; subst ha; have := (hYl _ hy).2; simp at this)
  have hgl : d.g.L.length = d.g.n := hd.g.sts.len
  have hr4 : RStk w4 (fun i => Yof bs lv3 mv3 i ∨ (Z i ∨ i = w.heap.size + 1 + 1)) (some ⟨w3.heap.size, 0, none⟩) 1 none 0 [d.g.val] [] := ⟨⟨[d.g], hgs, rfl⟩, MapsX.nil_ _ _, by omega, by omega, by rw [totC_cons]; simp [GrH.val, totC]; omega, fun x hx => by simp at hx; subst hx; exact ⟨by simp [GrH.val]; omega, hd.g.lost⟩, by simp⟩
  have hr7 := (hr4.stir (Stir.of_gr g7 (fun i e => by injection e with e; exact .inr (.inr e.symm)))).wide (Y' := fun i => Yof bs lv3 mv3 i ∨ Z i) (fun i hi => by rcases hi with hi | hi; (· exact .inl (.inl hi)); (· exact .inl (.inr (.inl hi))))
  have hb7 := hb04.grown g7 hb04.size (fun k e => by injection e with e; subst e; have := hb0.size; omega)
  have hst7 := (HST.out.trans (Stir.of_below hbg)).fresh (Stir.of_gr (X := fun i => i = w.heap.size + 1 + 1) g7 (fun i e => by injection e with e; exact e.symm)) (fun i e => .inr (by have : i = w.heap.size + 1 + 1 := e; omega))
  have hz7 := hst7.size
  have HST7 := Lib.hid hst7
  have htt : totC [d.g.val] ≤ S + d.g.n := by rw [totC_cons]; simp [GrH.val, totC]; omega
  have HTT := Lib.hid htt
  have HR7 := Lib.hid hr7
  clear htt hr7 hst7 hr4 hgs hgX hYl hgl x0 x1 x2
  generalize ((w4.setCell ⟨w.heap.size + 1 + 1, 0, none⟩ (.int .i64 D)).setCell ⟨w.heap.size + 1 + 1, 1, none⟩ (.slice (some ⟨w3.heap.size, 0, none⟩) 1 1)).setCell ⟨w.heap.size + 1 + 1, 2, none⟩ (.slice none 0 0) = w7 at *
  have q0 := z7.cell 0; have q1 := z7.cell 1; have q2 := z7.cell 2
  dsimp at q0 q1 q2
  go_wp2
  exact bodyPost_ret (v := .tuple #[.pointer (some ⟨bs, 0, none⟩), .agg #[.int .i64 D, .slice (some ⟨w3.heap.size, 0, none⟩) 1 1, .slice none 0 0], .bool true]) (by simp [results, Tryz.results40, go_sem, q0, q1, q2]) rfl ⟨bs, some ⟨w3.heap.size, 0, none⟩, 1, 1, none, 0, 0, Yof bs lv3 mv3, rfl, ⟨Nat.le_refl _, hb7, fun i hi => ⟨(hZ i hi).1, Nat.lt_of_lt_of_le (hZ i hi).2 hz7⟩, base, lv3, mv3, L3, [], [d.g.val], rfl, rfl, hbase, hs7, HR7.out, HV3.out, HTT.out, Nat.zero_le _, by simp; omega⟩, HST7.out, HSUB.out⟩
set_option maxRecDepth 100000 in
set_option maxHeartbeats 8000000 in
theorem does_push (w0 w : World) (D : Nat) (bs : Nat) (A : Option Addr) (n c : Nat) (A' : Option Addr) (n' c' S k : Nat) (d : DeedH) (F : List GrC) (Z Y : Nat → Prop) (h : Duo w0 w D bs A n c A' n' S k F Z Y) (hD : 1 ≤ D ∧ D ≤ 200) (hS : S ≤ 500) (hdk : d.k = 0) (hd : d.Raw w0 w0.heap.size) (hd1 : d.g.n ≤ 20) (hd2 : SmallS d.g.L) :
    Calls Tryz.prog 40 #[.pointer (some ⟨bs, 0, none⟩), .agg #[.int .i64 D, .slice A n c, .slice A' n' c'], .agg (deedA d)] w (DoesOut w0 w D (S + d.g.n) k ((d.g.val :: F).take (F.length + 1 - (F.length + 1 - D))) Z Y) := by
  obtain ⟨hnc, hb0, hZ, base, lv, mv, L, Ms, V, rfl, rfl, hbase, hs, hr, hLV, htot, hk, hVD⟩ := h
  have hb1 : Below w.heap.size w (((w.alloc (.cells #[.int .i64 D, .slice A n c, .slice A' n' c'] 88)).alloc (.cells (deedA d) 96)).alloc (.cells #[.int .i64 0, .slice none 0 0, .slice none 0 0] 88)) := belowA
  have k1 : Bk (((w.alloc (.cells #[.int .i64 D, .slice A n c, .slice A' n' c'] 88)).alloc (.cells (deedA d) 96)).alloc (.cells #[.int .i64 0, .slice none 0 0, .slice none 0 0] 88)) w.heap.size 88 #[.int .i64 D, .slice A n c, .slice A' n' c'] := ((Bk.new w _ _).alloc _).alloc _
  have k2 : Bk (((w.alloc (.cells #[.int .i64 D, .slice A n c, .slice A' n' c'] 88)).alloc (.cells (deedA d) 96)).alloc (.cells #[.int .i64 0, .slice none 0 0, .slice none 0 0] 88)) (w.heap.size + 1) 96 (deedA d) := Bk.alloc (Bk.made _ _ (by simp)) _
  have k3 : Bk (((w.alloc (.cells #[.int .i64 D, .slice A n c, .slice A' n' c'] 88)).alloc (.cells (deedA d) 96)).alloc (.cells #[.int .i64 0, .slice none 0 0, .slice none 0 0] 88)) (w.heap.size + 1 + 1) 88 #[.int .i64 0, .slice none 0 0, .slice none 0 0] := Bk.made _ _ (by simp)
  have hs1 := hs.below hb1
  have hr1 := (hr.wide (Y' := fun i => Yof bs lv mv i ∨ (Z i ∨ i = w.heap.size + 1 + 1)) (fun i hi => by rcases hi with hi | hi | hi; (· exact .inl (.inl hi)); (· exact .inl (.inr hi)); (· exact .inr (by omega)))).ext hb1
  have hyl := fun i hi => (hs.yof i hi).2
  have hyb := fun i hi => (hs.yof i hi).1
  have hb01 := hb0.trans (hb1.mono hb0.size)
  have hgX := deed_x (Y := fun i => Yof bs lv mv i ∨ (Z i ∨ i = w.heap.size + 1 + 1)) hd hd1 hd2 hb01 (fun i hi => by
    rcases hi with hi | hi | hi
    · exact Nat.le_trans hbase (hyb i hi)
    · exact (hZ i hi).1
    · have := hb0.size; omega)
  have hgl : d.g.L.length = d.g.n := hd.g.sts.len
  have hVn : V.length = n := hr.len
  have hn200 : n ≤ 200 := by omega
  have hpu := rpush_any D hD.1 (by omega) A n c A' n' c' V (Ms.map MpH.l) d.g _ (fun i => Yof bs lv mv i ∨ (Z i ∨ i = w.heap.size + 1 + 1)) (fun i hi => by
    have := def_lt' k3
    have := hb1.size
    rcases hi with hi | hi | hi
    · have := hyl i hi; omega
    · have := (hZ i hi).2; omega
    · omega) hnc hr1 hgX (by omega) (by omega)
  have HPU := Lib.hid hpu
  have HS := Lib.hid hs
  have HYL := Lib.hid hyl
  have HLV := Lib.hid hLV
  have HGX := Lib.hid hgX
  have HVN := Lib.hid hVn
  have HGL := Lib.hid hgl
  have c0 := (k2.cell 0).trans (show (deedA d)[0]? = some (Value.int .i64 0) by show some (Value.int .i64 d.k) = _; rw [hdk])
  have x0 := k1.cell 0; have x1 := k1.cell 1; have x2 := k1.cell 2
  have d1 := (k2.cell 1).trans (show (deedA d)[1]? = _ from rfl)
  have d2 := (k2.cell 2).trans (show (deedA d)[2]? = _ from rfl)
  have d3 := (k2.cell 3).trans (show (deedA d)[3]? = _ from rfl)
  have d4 := (k2.cell 4).trans (show (deedA d)[4]? = _ from rfl)
  have d5 := (k2.cell 5).trans (show (deedA d)[5]? = _ from rfl)
  have d6 := (k2.cell 6).trans (show (deedA d)[6]? = _ from rfl)
  have d7 := (k2.cell 7).trans (show (deedA d)[7]? = _ from rfl)
  have d8 := (k2.cell 8).trans (show (deedA d)[8]? = _ from rfl)
  dsimp at x0 x1 x2
  clear hs hr hs1 hr1 hyl hyb hLV hpu hgX hVn hgl
  go_enter Tryz.func40, Tryz.ntmps40
  go_wp2_with (go_at_call 83; fail)
  generalize hwE : ((w.alloc (.cells #[.int .i64 D, .slice A n c, .slice A' n' c'] 88)).alloc (.cells (deedA d) 96)).alloc (.cells #[.int .i64 0, .slice none 0 0, .slice none 0 0] 88) = w1 at *
  clear hwE c0 d1 d2 d3 d4 d5 d6 d7 d8 x0 x1 x2
  have hz1 := hb1.size
  refine HPU.out.mono ?_
  rintro e w2 ⟨A2, c2, A3, n3, c3, rfl, hc2, hr2, hb2⟩
  go_upto_region 4 with fail
  have kB := Bk.new w2 88 #[.int .i64 D, .slice A2 (n + 1 - (n + 1 - D)) c2, .slice A3 n3 c3]
  have hb3 : Below w2.heap.size w2 (w2.alloc (.cells #[.int .i64 D, .slice A2 (n + 1 - (n + 1 - D)) c2, .slice A3 n3 c3] 88)) := belowA
  have hB : w2.heap.size < (w2.alloc (.cells #[.int .i64 D, .slice A2 (n + 1 - (n + 1 - D)) c2, .slice A3 n3 c3] 88)).heap.size := def_lt' kB
  generalize w2.alloc (.cells #[.int .i64 D, .slice A2 (n + 1 - (n + 1 - D)) c2, .slice A3 n3 c3] 88) = w3 at *
  have hz2 := hb2.size
  have hz3 := hb3.size
  have hb13 : Below w1.heap.size w1 w3 := hb2.trans (hb3.mono hz2)
  have m2 := k2.ext hb13
  have m3 := k3.ext hb13
  have hl2 := def_lt' k2
  have hl3 := def_lt' k3
  have hnY : ∀ i, w.heap.size ≤ i → ¬ Yof bs lv mv i := fun i hi hy => by have := HYL.out i hy; omega
  have HNY := Lib.hid hnY
  have HR2 := Lib.hid hr2
  have hF : ∀ W, (Bk W w2.heap.size 88 #[.int .i64 D, .slice A2 (n + 1 - (n + 1 - D)) c2, .slice A3 n3 c3] ∧ Bk W (w.heap.size + 1) 96 (deedA d)) → W.cell? ⟨w2.heap.size, 0, none⟩ = some (.int .i64 D) ∧ W.cell? ⟨w2.heap.size, 1, none⟩ = some (.slice A2 (n + 1 - (n + 1 - D)) c2) ∧ W.cell? ⟨w2.heap.size, 2, none⟩ = some (.slice A3 n3 c3) ∧ W.cell? ⟨w.heap.size + 1, 1, none⟩ = some (.slice d.g.A d.g.n d.g.c) ∧ W.cell? ⟨w.heap.size + 1, 2, none⟩ = some (.int .i64 d.g.pin.k) ∧ W.cell? ⟨w.heap.size + 1, 3, none⟩ = some (.int .i64 d.g.pin.a) ∧ W.cell? ⟨w.heap.size + 1, 4, none⟩ = some (.int .i64 d.g.pin.b) ∧ W.cell? ⟨w.heap.size + 1, 5, none⟩ = some (.int .i64 d.g.back.k) ∧ W.cell? ⟨w.heap.size + 1, 6, none⟩ = some (.int .i64 d.g.back.a) ∧ W.cell? ⟨w.heap.size + 1, 7, none⟩ = some (.int .i64 d.g.back.b) ∧ W.cell? ⟨w.heap.size + 1, 8, none⟩ = some (.int .i64 d.g.lost) := fun W h => ⟨h.1.cell 0, h.1.cell 1, h.1.cell 2, h.2.cell 1, h.2.cell 2, h.2.cell 3, h.2.cell 4, h.2.cell 5, h.2.cell 6, h.2.cell 7, h.2.cell 8⟩
  have HF := Lib.hid hF
  clear hF hnY hr2 HPU
  refine wp_normal ?_
  refine wp_region_held_drew (S := fun W => Bk W w2.heap.size 88 #[.int .i64 D, .slice A2 (n + 1 - (n + 1 - D)) c2, .slice A3 n3 c3] ∧ Bk W (w.heap.size + 1) 96 (deedA d)) (by kernel_rfl) ⟨kB.drew, m2.drew⟩ (fun hHeld => ?_)
  (refine tkH 0 ?_; refine tkH 1 ?_; refine tkH 2 ?_; refine tkH 3 ?_; refine tkH 4 ?_; refine tkH 10 ?_)
  have hbg : Below w3.heap.size w3 (w3.alloc (.cells #[.slice d.g.A d.g.n d.g.c, .int .i64 d.g.pin.k, .int .i64 d.g.pin.a, .int .i64 d.g.pin.b, .int .i64 d.g.back.k, .int .i64 d.g.back.a, .int .i64 d.g.back.b, .int .i64 d.g.lost] 93)).drew := belowA
  have kg : Bk (w3.alloc (.cells #[.slice d.g.A d.g.n d.g.c, .int .i64 d.g.pin.k, .int .i64 d.g.pin.a, .int .i64 d.g.pin.b, .int .i64 d.g.back.k, .int .i64 d.g.back.a, .int .i64 d.g.back.b, .int .i64 d.g.lost] 93)).drew w3.heap.size 93 d.g.cells.toArray := Bk.drew (Bk.new w3 _ _)
  refine nxH 5 (fun K hK => ?_)
  go_simp
  refine hK.out _ _ ⟨kB.drew.alloc _, m2.drew.alloc _⟩ (fun hHeld => ?_)
  clear hK K; refine puH ?_
  refine nxH 6 (fun K hK => ?_)
  go_simp
  go_at_call 84
  generalize (w3.alloc (.cells #[.slice d.g.A d.g.n d.g.c, .int .i64 d.g.pin.k, .int .i64 d.g.pin.a, .int .i64 d.g.pin.b, .int .i64 d.g.back.k, .int .i64 d.g.back.a, .int .i64 d.g.back.b, .int .i64 d.g.lost] 93)).drew = w4 at *
  have hz4 := hbg.size
  have hb14 : Below w1.heap.size w1 w4 := hb13.trans (hbg.mono (Nat.le_trans hz2 hz3))
  have hb04 : Below w0.heap.size w0 w4 := hb01.trans (hb14.mono hb01.size)
  have hgr : GrsRaw w4 w4.heap.size (some ⟨w3.heap.size, 0, none⟩) 1 [d.g] := ⟨Rd.of_bk kg (by simp [grs]) rfl (def_lt' kg), fun x hx => by simp at hx; subst hx; exact (hd.g.below hb04).more hb04.size⟩
  have hsm : Small [d.g] := fun x hx => by simp at hx; subst hx; exact ⟨hd1, hd2⟩
  refine (theirs_any (some ⟨w3.heap.size, 0, none⟩) 1 1 [d.g] w4 hgr (by omega)).mono ?_
  rintro e w5 ⟨v5, rfl, o5, hb5⟩
  obtain ⟨A5, c5, rfl, hin5⟩ := grs_in hgr hsm o5 hb5 hb5.size
  obtain ⟨-, b, o, rfl, hb, hcc⟩ := hin5.at_ (k := 0) (g := d.g) rfl
  have f0 := hcc 0 (by omega); have f1 := hcc 1 (by omega); have f2 := hcc 2 (by omega); have f3 := hcc 3 (by omega); have f4 := hcc 4 (by omega); have f5 := hcc 5 (by omega); have f6 := hcc 6 (by omega); have f7 := hcc 7 (by omega)
  simp only [GrH.cells, Nat.zero_mul, Nat.add_zero] at f0 f1 f2 f3 f4 f5 f6 f7
  dsimp at f0 f1 f2 f3 f4 f5 f6 f7
  have hb35 : Below w3.heap.size w3 w5 := hbg.trans (hb5.mono hz4)
  refine hK.out _ _ ⟨kB.ext hb35, m2.ext hb35⟩ (fun hHeld => ?_)
  clear hK K; refine puH ?_
  (refine tkH 7 ?_)
  refine nxH 8 (fun K hK => ?_)
  go_simp
  refine hK.out _ _ ⟨kB.ext hb35, m2.ext hb35⟩ (fun hHeld => ?_)
  clear hK K; refine puH ?_
  have hz5 := hb35.size
  have hb25 : Below w.heap.size w w5 := hb1.trans ((hb13.trans (hb35.mono (Nat.le_trans hz2 hz3))).mono hz1)
  have hs5 := HS.out.below hb25
  have hg5 := (HGX.out.ext (hb13.trans (hb35.mono (Nat.le_trans hz2 hz3)))).wide (Y' := Yof bs lv mv) (fun i hi => .inl (.inl hi))
  have hU : totC (d.g.val :: foldC (Ms.map MpH.l) V) ≤ S + d.g.n := by
    have h1 := totC_fold (Ms.map MpH.l) V
    rw [totC_cons]
    simp only [GrH.val, List.length_map]
    have h2 := HGL.out
    omega
  have hUl : (d.g.val :: foldC (Ms.map MpH.l) V).length = n + 1 := by rw [List.length_cons, foldC_len, HVN.out]
  have htr := trim_rev D hD.1 _ (Nat.le_trans hU (by omega))
  have hLl : L.length ≤ 299 := by have h1 := congrArg List.length HLV.out; simp only [List.length_map, List.length_reverse] at h1; have := HVN.out; omega
  have hpu := push_any base bs lv mv D L Ms d.g w5 hs5 (fun w' hst => (hg5.stir hst).in_) (by omega) hd.g.lost hLl
  rw [HLV.out, foldV_rev, push_rev, htr.2, htr.1, hUl] at hpu
  have HPU := Lib.hid hpu
  have HU := Lib.hid hU
  have HUL := Lib.hid hUl
  clear hpu hU hUl htr hg5 f0 f1 f2 f3 f4 f5 f6 f7 hcc hgr hsm o5 hin5
  refine nxH 9 (fun K hK => ?_)
  go_simp
  go_at_call 30
  refine HPU.out.mono ?_
  rintro e w6 ⟨rfl, lv1, mv1, L1, Ms1, hs6, hV6, hM6, hto⟩
  obtain rfl : Ms1 = [] := by simpa using hM6
  have hz6 := hto.1.size
  have kB6 : Bk w6 w2.heap.size 88 #[.int .i64 D, .slice A2 (n + 1 - (n + 1 - D)) c2, .slice A3 n3 c3] := (hto.1.block _ (by omega) (HNY.out _ (by omega))).trans (kB.ext hb35)
  have m26 : Bk w6 (w.heap.size + 1) 96 (deedA d) := (hto.1.block _ (by omega) (HNY.out _ (by omega))).trans (m2.ext hb35)
  have m36 : Bk w6 (w.heap.size + 1 + 1) 88 #[.int .i64 0, .slice none 0 0, .slice none 0 0] := (hto.1.block _ (by omega) (HNY.out _ (by omega))).trans (m3.ext hb35)
  refine hK.out _ _ ⟨kB6, m26⟩ (fun hHeld => ?_)
  clear hK K; refine puH ?_
  (refine tkH 11 ?_; refine tkH 12 ?_)
  have x0 := m36.cell 0; have x1 := m36.cell 1; have x2 := m36.cell 2; have xf := m36.frozen; have xl := def_lt' m36
  dsimp at x0 x1 x2
  have g7 : w6.grownBy (((w6.setCell ⟨w.heap.size + 1 + 1, 0, none⟩ (.int .i64 D)).setCell ⟨w.heap.size + 1 + 1, 1, none⟩ (.slice A2 (n + 1 - (n + 1 - D)) c2)).setCell ⟨w.heap.size + 1 + 1, 2, none⟩ (.slice A3 n3 c3)) (some (w.heap.size + 1 + 1)) := gr_set (p := ⟨w.heap.size + 1 + 1, 2, none⟩) (gr_set (p := ⟨w.heap.size + 1 + 1, 1, none⟩) (gr_set (p := ⟨w.heap.size + 1 + 1, 0, none⟩) (World.grownBy.refl _ _) (.inl rfl) _) (.inl rfl) _) (.inl rfl) _
  refine nxH 13 (fun K hK => ?_)
  go_simp
  refine hK.out _ _ ⟨kB6.grown g7 (by simp; omega), m26.grown g7 (by simp)⟩ (fun hHeld => ?_)
  clear hK K; refine puH ?_
  (refine tkH 14 ?_)
  refine wpAnyH_done (by kernel_rfl) ?_ _
  have z7 : Bk (((w6.setCell ⟨w.heap.size + 1 + 1, 0, none⟩ (.int .i64 D)).setCell ⟨w.heap.size + 1 + 1, 1, none⟩ (.slice A2 (n + 1 - (n + 1 - D)) c2)).setCell ⟨w.heap.size + 1 + 1, 2, none⟩ (.slice A3 n3 c3)) (w.heap.size + 1 + 1) 88 #[.int .i64 D, .slice A2 (n + 1 - (n + 1 - D)) c2, .slice A3 n3 c3] := ((m36.set_ 0 _).set_ 1 _).set_ 2 _
  have hbsl := def_lt' HS.out.k
  have hs7 := hs6.grown m36 g7 (by omega)
  have hr7 := ((duo_ownX _ (HR2.out.ext (hb3.trans (hb35.mono hz3))) hto).stir (Stir.of_gr g7 (fun i e => by injection e with e; exact .inr (.inr e.symm)))).wide (Y' := fun i => Yof bs lv1 mv1 i ∨ Z i) (fun i hi => by rcases hi with hi | hi; (· exact .inl (.inl hi)); (· exact .inl (.inr (.inl hi))))
  have hb05 : Below w0.heap.size w0 w5 := hb0.trans (hb25.mono hb0.size)
  have hb06 : Below w0.heap.size w0 w6 := hb05.trans ((hto.below hs5).mono hbase)
  have hb7 := hb06.grown g7 hb06.size (fun k e => by injection e with e; subst e; have := hb0.size; omega)
  have hst7 := ((Stir.of_below (X := Yof bs lv mv) hb25).trans hto.1).fresh (Stir.of_gr (X := fun i => i = w.heap.size + 1 + 1) g7 (fun i e => by injection e with e; exact e.symm)) (fun i e => .inr (by have : i = w.heap.size + 1 + 1 := e; omega))
  have hz7 := hst7.size
  have hsub := sub_of hto (Nat.le_trans hb25.size (Nat.le_refl _))
  have HST7 := Lib.hid hst7
  have HSUB := Lib.hid hsub
  have hFl : (foldC (Ms.map MpH.l) V).length = n := by rw [foldC_len]; exact HVN.out
  have htt : totC ((d.g.val :: foldC (Ms.map MpH.l) V).take (n + 1 - (n + 1 - D))) ≤ S + d.g.n := Nat.le_trans (totC_take _ _) HU.out
  have hn3 : n3 = 0 := by have h1 := hr7.m.len; exact h1.symm
  have HTT := Lib.hid htt
  have HFL := Lib.hid hFl
  have HR7 := Lib.hid hr7
  have HV6 := Lib.hid hV6
  clear hFl htt hr7 hst7 hsub hV6 hto x0 x1 x2
  generalize ((w6.setCell ⟨w.heap.size + 1 + 1, 0, none⟩ (.int .i64 D)).setCell ⟨w.heap.size + 1 + 1, 1, none⟩ (.slice A2 (n + 1 - (n + 1 - D)) c2)).setCell ⟨w.heap.size + 1 + 1, 2, none⟩ (.slice A3 n3 c3) = w7 at *
  have q0 := z7.cell 0; have q1 := z7.cell 1; have q2 := z7.cell 2
  dsimp at q0 q1 q2
  go_wp2
  exact bodyPost_ret (v := .tuple #[.pointer (some ⟨bs, 0, none⟩), .agg #[.int .i64 D, .slice A2 (n + 1 - (n + 1 - D)) c2, .slice A3 n3 c3], .bool true]) (by simp [results, Tryz.results40, go_sem, q0, q1, q2]) rfl ⟨bs, A2, (n + 1 - (n + 1 - D)), c2, A3, n3, c3, Yof bs lv1 mv1, rfl, ⟨hc2, hb7, fun i hi => ⟨(hZ i hi).1, Nat.lt_of_lt_of_le (hZ i hi).2 hz7⟩, base, lv1, mv1, L1, [], _, rfl, by rw [HFL.out]; rfl, hbase, hs7, HR7.out, HV6.out, HTT.out, Nat.zero_le _, by rw [List.length_take, HUL.out]; omega⟩, HST7.out, HSUB.out⟩
theorem totC_mod (xs : List StC) (U : List GrC) : totC (U.modify 0 (extC xs)) ≤ totC U + xs.length := by
  cases U with
  | nil => simp [totC]
  | cons g U =>
    have e : (g :: U).modify 0 (extC xs) = extC xs g :: U := rfl
    rw [e, totC_cons, totC_cons]
    simp only [extC, List.length_append]
    omega
theorem totC_mem {g : GrC} {U : List GrC} (h : g ∈ U) : g.steps.length ≤ totC U := by
  induction U with
  | nil => cases h
  | cons a U ih =>
    rw [totC_cons]
    rcases List.mem_cons.1 h with rfl | h
    · omega
    · have := ih h; omega
set_option maxRecDepth 100000 in
set_option maxHeartbeats 8000000 in
theorem does_ext_yes (w0 w : World) (D : Nat) (bs : Nat) (A : Option Addr) (n c : Nat) (A' : Option Addr) (n' c' S k : Nat) (d : DeedH) (F : List GrC) (Z Y : Nat → Prop) (h : Duo w0 w D bs A n c A' n' S k F Z Y) (hD : 1 ≤ D ∧ D ≤ 200) (hS : S ≤ 500) (hdk : d.k = 1) (hd : d.Raw w0 w0.heap.size) (hd1 : d.g.n ≤ 20) (hd2 : SmallS d.g.L) (hn1 : 1 ≤ n) :
    Calls Tryz.prog 40 #[.pointer (some ⟨bs, 0, none⟩), .agg #[.int .i64 D, .slice A n c, .slice A' n' c'], .agg (deedA d)] w (DoesOut w0 w D (S + d.g.n) k ((F.modify 0 (extC (d.g.L.map StH.x))).take (F.length - (F.length - D))) Z Y) := by
  obtain ⟨hnc, hb0, hZ, base, lv, mv, L, Ms, V, rfl, rfl, hbase, hs, hr, hLV, htot, hk, hVD⟩ := h
  have hb1 : Below w.heap.size w (((w.alloc (.cells #[.int .i64 D, .slice A n c, .slice A' n' c'] 88)).alloc (.cells (deedA d) 96)).alloc (.cells #[.int .i64 0, .slice none 0 0, .slice none 0 0] 88)) := belowA
  have k1 : Bk (((w.alloc (.cells #[.int .i64 D, .slice A n c, .slice A' n' c'] 88)).alloc (.cells (deedA d) 96)).alloc (.cells #[.int .i64 0, .slice none 0 0, .slice none 0 0] 88)) w.heap.size 88 #[.int .i64 D, .slice A n c, .slice A' n' c'] := ((Bk.new w _ _).alloc _).alloc _
  have k2 : Bk (((w.alloc (.cells #[.int .i64 D, .slice A n c, .slice A' n' c'] 88)).alloc (.cells (deedA d) 96)).alloc (.cells #[.int .i64 0, .slice none 0 0, .slice none 0 0] 88)) (w.heap.size + 1) 96 (deedA d) := Bk.alloc (Bk.made _ _ (by simp)) _
  have k3 : Bk (((w.alloc (.cells #[.int .i64 D, .slice A n c, .slice A' n' c'] 88)).alloc (.cells (deedA d) 96)).alloc (.cells #[.int .i64 0, .slice none 0 0, .slice none 0 0] 88)) (w.heap.size + 1 + 1) 88 #[.int .i64 0, .slice none 0 0, .slice none 0 0] := Bk.made _ _ (by simp)
  have hs1 := hs.below hb1
  have hr1 := (hr.wide (Y' := fun i => Yof bs lv mv i ∨ (Z i ∨ i = w.heap.size + 1 + 1)) (fun i hi => by rcases hi with hi | hi | hi; (· exact .inl (.inl hi)); (· exact .inl (.inr hi)); (· exact .inr (by omega)))).ext hb1
  have hyl := fun i hi => (hs.yof i hi).2
  have hyb := fun i hi => (hs.yof i hi).1
  have hb01 := hb0.trans (hb1.mono hb0.size)
  have hgX := deed_x (Y := fun i => Yof bs lv mv i ∨ (Z i ∨ i = w.heap.size + 1 + 1)) hd hd1 hd2 hb01 (fun i hi => by
    rcases hi with hi | hi | hi
    · exact Nat.le_trans hbase (hyb i hi)
    · exact (hZ i hi).1
    · have := hb0.size; omega)
  have hgl : d.g.L.length = d.g.n := hd.g.sts.len
  have hVn : V.length = n := hr.len
  have hLn : L.length = n := by have h1 := congrArg List.length hLV; simp only [List.length_map, List.length_reverse] at h1; omega
  have htf := totC_fold (Ms.map MpH.l) V
  have hx := extend_any base bs lv mv D L Ms d.g.A d.g.n d.g.c d.g.L _ hs1 (fun w' hst => ((hgX.wide (Y' := Yof bs lv mv) (fun i hi => .inl (.inl hi))).stir hst).in_.sts) hd.g.A (by omega) (by rintro rfl; simp at hLn; omega) (by
    intro g hg
    rw [hLV, foldV_rev] at hg
    have := totC_mem (List.mem_reverse.1 hg)
    omega)
  have hU : totC ((foldC (Ms.map MpH.l) V).modify 0 (extC (d.g.L.map StH.x))) ≤ S + d.g.n := by
    have := totC_mod (d.g.L.map StH.x) (foldC (Ms.map MpH.l) V)
    rw [List.length_map] at this
    omega
  have htr := trim_rev D hD.1 _ (Nat.le_trans hU (by omega))
  have hUl : ((foldC (Ms.map MpH.l) V).modify 0 (extC (d.g.L.map StH.x))).length = n := by rw [List.length_modify, foldC_len, hVn]
  rw [hLV, foldV_rev, extV_rev, htr.2, htr.1, hUl] at hx
  have HX := Lib.hid hx
  have HU := Lib.hid hU
  have HUL := Lib.hid hUl
  have HS := Lib.hid hs
  have HYL := Lib.hid hyl
  have HR1 := Lib.hid hr1
  have HGX := Lib.hid hgX
  have HVN := Lib.hid hVn
  have HGL := Lib.hid hgl
  have hn0 : ¬ (n : Int) = 0 := by omega
  have c0 := (k2.cell 0).trans (show (deedA d)[0]? = some (Value.int .i64 1) by show some (Value.int .i64 d.k) = _; rw [hdk])
  have d1 := (k2.cell 1).trans (show (deedA d)[1]? = _ from rfl)
  clear hs hr hs1 hr1 hyl hyb hLV hx hgX hVn hgl htr hU hUl hLn
  go_enter Tryz.func40, Tryz.ntmps40
  go_wp2_with (go_at_call 27; fail)
  generalize hwE : ((w.alloc (.cells #[.int .i64 D, .slice A n c, .slice A' n' c'] 88)).alloc (.cells (deedA d) 96)).alloc (.cells #[.int .i64 0, .slice none 0 0, .slice none 0 0] 88) = w1 at *
  clear hwE c0 d1
  have hz1 := hb1.size
  refine HX.out.mono ?_
  rintro e w2 ⟨rfl, lv1, mv1, L1, Ms1, hs2, hV1, hM1, hto⟩
  obtain rfl : Ms1 = [] := by simpa using hM1
  have hz2 := hto.1.size
  have hl1 := def_lt' k1
  have hl2 := def_lt' k2
  have hl3 := def_lt' k3
  have hnY : ∀ i, w.heap.size ≤ i → ¬ Yof bs lv mv i := fun i hi hy => by have := HYL.out i hy; omega
  have m1 : Bk w2 w.heap.size 88 #[.int .i64 D, .slice A n c, .slice A' n' c'] := (hto.1.block _ hl1 (hnY _ (by omega))).trans k1
  have m2 : Bk w2 (w.heap.size + 1) 96 (deedA d) := (hto.1.block _ hl2 (hnY _ (by omega))).trans k2
  have m3 : Bk w2 (w.heap.size + 1 + 1) 88 #[.int .i64 0, .slice none 0 0, .slice none 0 0] := (hto.1.block _ hl3 (hnY _ (by omega))).trans k3
  have hb02 : Below w0.heap.size w0 w2 := (hb0.trans (hb1.mono hb0.size)).trans ((hto.below (HS.out.below hb1)).mono hbase)
  have hr2 := duo_ownX _ HR1.out hto
  have hyn := fun i hi => (hs2.yof i hi)
  have hgx2 := (deed_x (Y := fun i => Yof bs lv1 mv1 i ∨ (Z i ∨ i = w.heap.size + 1 + 1)) hd hd1 hd2 hb02 (fun i hi => by
    rcases hi with hi | hi | hi
    · exact Nat.le_trans hbase (hyn i hi).1
    · exact (hZ i hi).1
    · have := hb0.size; omega))
  have hre := rextend_any D hD.1 (by omega) A n c A' n' c' V (Ms.map MpH.l) d.g.A d.g.n d.g.c d.g.L w2 (fun i => Yof bs lv1 mv1 i ∨ (Z i ∨ i = w.heap.size + 1 + 1)) (fun i hi => by
    rcases hi with hi | hi | hi
    · exact (hyn i hi).2
    · have := (hZ i hi).2; omega
    · omega) hnc hr2 hgx2.in_.sts hgx2.sml hgx2.av hd.g.A (by omega) hn1
  have HRE := Lib.hid hre
  have HS2 := Lib.hid hs2
  have HV1 := Lib.hid hV1
  have x0 := m1.cell 0; have x1 := m1.cell 1; have x2 := m1.cell 2
  have d1 := (m2.cell 1).trans (show (deedA d)[1]? = _ from rfl)
  dsimp at x0 x1 x2
  have hst2 : Stir (Yof bs lv mv) w w2 := (Stir.of_below hb1).trans hto.1
  have hsub := sub_of hto hz1
  have HST := Lib.hid hst2
  have HSUB := Lib.hid hsub
  clear hst2 hsub
  clear hre hr2 hs2 hV1 hgx2 hyn hto hM1 hnY HX HR1 k1 k2 k3 HGX
  go_wp2_with (go_at_call 85; fail)
  refine HRE.out.mono ?_
  rintro e w3 ⟨A3, c3, A4, n4, c4, rfl, hc3, hr3, hb3⟩
  have y3 := m3.ext hb3
  have q0 := y3.cell 0; have q1 := y3.cell 1; have q2 := y3.cell 2; have qf := y3.frozen; have ql := def_lt' y3
  dsimp at q0 q1 q2
  clear x0 x1 x2 d1
  go_upto_region 10 with fail
  have kB := Bk.new w3 88 #[.int .i64 D, .slice A3 (n - (n - D)) c3, .slice A4 n4 c4]
  have hbB : Below w3.heap.size w3 (w3.alloc (.cells #[.int .i64 D, .slice A3 (n - (n - D)) c3, .slice A4 n4 c4] 88)) := belowA
  generalize w3.alloc (.cells #[.int .i64 D, .slice A3 (n - (n - D)) c3, .slice A4 n4 c4] 88) = w4 at *
  clear q0 q1 q2 qf ql
  have hz3 := hb3.size
  have hb24 : Below w2.heap.size w2 w4 := hb3.trans (hbB.mono hz3)
  have y4 := m3.ext hb24
  have q0 := y4.cell 0; have q1 := y4.cell 1; have q2 := y4.cell 2; have qf := y4.frozen; have ql := def_lt' y4
  have b0 := kB.cell 0; have b1 := kB.cell 1; have b2 := kB.cell 2
  dsimp at q0 q1 q2 b0 b1 b2
  have HR3 := Lib.hid hr3
  clear hr3 y3
  go_region
  have g6 : w4.grownBy (((w4.setCell ⟨w.heap.size + 1 + 1, 0, none⟩ (.int .i64 D)).setCell ⟨w.heap.size + 1 + 1, 1, none⟩ (.slice A3 (n - (n - D)) c3)).setCell ⟨w.heap.size + 1 + 1, 2, none⟩ (.slice A4 n4 c4)) (some (w.heap.size + 1 + 1)) := gr_set (p := ⟨w.heap.size + 1 + 1, 2, none⟩) (gr_set (p := ⟨w.heap.size + 1 + 1, 1, none⟩) (gr_set (p := ⟨w.heap.size + 1 + 1, 0, none⟩) (World.grownBy.refl _ _) (.inl rfl) _) (.inl rfl) _) (.inl rfl) _
  have z6 : Bk (((w4.setCell ⟨w.heap.size + 1 + 1, 0, none⟩ (.int .i64 D)).setCell ⟨w.heap.size + 1 + 1, 1, none⟩ (.slice A3 (n - (n - D)) c3)).setCell ⟨w.heap.size + 1 + 1, 2, none⟩ (.slice A4 n4 c4)).drew (w.heap.size + 1 + 1) 88 #[.int .i64 D, .slice A3 (n - (n - D)) c3, .slice A4 n4 c4] := (((y4.set_ 0 _).set_ 1 _).set_ 2 _).drew
  have hbsl := def_lt' HS.out.k
  have hs6 := ((HS2.out.below hb24).grown y4 g6 (by omega)).below ((Below.refl _ _).drew)
  have hr6 := (((HR3.out.ext hbB).stir (Stir.of_gr g6 (fun i e => by injection e with e; exact .inr (.inr e.symm)))).ext ((Below.refl _ _).drew)).wide (Y' := fun i => Yof bs lv1 mv1 i ∨ Z i) (fun i hi => by rcases hi with hi | hi; (· exact .inl (.inl hi)); (· exact .inl (.inr (.inl hi))))
  have hb04 := hb02.trans (hb24.mono hb02.size)
  have hb6 := (hb04.grown g6 hb04.size (fun k e => by injection e with e; subst e; have := hb0.size; omega)).drew
  have hst6 := ((HST.out.trans (Stir.of_below hb24)).fresh (Stir.of_gr (X := fun i => i = w.heap.size + 1 + 1) g6 (fun i e => by injection e with e; exact e.symm)) (fun i e => .inr (by have : i = w.heap.size + 1 + 1 := e; omega))).trans (Stir.of_below ((Below.refl _ _).drew))
  have hz6 := hst6.size
  have HST6 := Lib.hid hst6
  clear hst6 q0 q1 q2
  generalize (((w4.setCell ⟨w.heap.size + 1 + 1, 0, none⟩ (.int .i64 D)).setCell ⟨w.heap.size + 1 + 1, 1, none⟩ (.slice A3 (n - (n - D)) c3)).setCell ⟨w.heap.size + 1 + 1, 2, none⟩ (.slice A4 n4 c4)).drew = w6 at *
  have q0 := z6.cell 0; have q1 := z6.cell 1; have q2 := z6.cell 2
  dsimp at q0 q1 q2
  have hFl : (foldC (Ms.map MpH.l) V).length = n := by rw [foldC_len]; exact HVN.out
  have htt : totC (((foldC (Ms.map MpH.l) V).modify 0 (extC (d.g.L.map StH.x))).take (n - (n - D))) ≤ S + d.g.n := Nat.le_trans (totC_take _ _) HU.out
  have hn4 : n4 = 0 := by have h1 := hr6.m.len; exact h1.symm
  have HTT := Lib.hid htt
  have HFL := Lib.hid hFl
  have HR6 := Lib.hid hr6
  clear hFl htt hr6
  go_wp2
  exact bodyPost_ret (v := .tuple #[.pointer (some ⟨bs, 0, none⟩), .agg #[.int .i64 D, .slice A3 (n - (n - D)) c3, .slice A4 n4 c4], .bool true]) (by simp [results, Tryz.results40, go_sem, q0, q1, q2]) rfl ⟨bs, A3, n - (n - D), c3, A4, n4, c4, Yof bs lv1 mv1, rfl, ⟨hc3, hb6, fun i hi => ⟨(hZ i hi).1, Nat.lt_of_lt_of_le (hZ i hi).2 (by omega)⟩, base, lv1, mv1, L1, [], _, rfl, by rw [HFL.out]; rfl, hbase, hs6, HR6.out, HV1.out, HTT.out, Nat.zero_le _, by rw [List.length_take, HUL.out]; omega⟩, HST6.out, HSUB.out⟩
set_option maxRecDepth 100000 in
set_option maxHeartbeats 8000000 in
theorem does_ext_no (w0 w : World) (D : Nat) (bs : Nat) (A : Option Addr) (n c : Nat) (A' : Option Addr) (n' c' S k : Nat) (d : DeedH) (F : List GrC) (Z Y : Nat → Prop) (h : Duo w0 w D bs A n c A' n' S k F Z Y) (hD : 1 ≤ D ∧ D ≤ 200) (hS : S ≤ 500) (hdk : d.k = 1) (hn0 : n = 0) :
    Calls Tryz.prog 40 #[.pointer (some ⟨bs, 0, none⟩), .agg #[.int .i64 D, .slice A n c, .slice A' n' c'], .agg (deedA d)] w (DoesOut w0 w D S k F Z Y) := by
  obtain ⟨hnc, hb0, hZ, base, lv, mv, L, Ms, V, rfl, rfl, hbase, hs, hr, hLV, htot, hk, hVD⟩ := h
  have hb1 : Below w.heap.size w (((w.alloc (.cells #[.int .i64 D, .slice A n c, .slice A' n' c'] 88)).alloc (.cells (deedA d) 96)).alloc (.cells #[.int .i64 0, .slice none 0 0, .slice none 0 0] 88)) := belowA
  have k1 : Bk (((w.alloc (.cells #[.int .i64 D, .slice A n c, .slice A' n' c'] 88)).alloc (.cells (deedA d) 96)).alloc (.cells #[.int .i64 0, .slice none 0 0, .slice none 0 0] 88)) w.heap.size 88 #[.int .i64 D, .slice A n c, .slice A' n' c'] := ((Bk.new w _ _).alloc _).alloc _
  have k2 : Bk (((w.alloc (.cells #[.int .i64 D, .slice A n c, .slice A' n' c'] 88)).alloc (.cells (deedA d) 96)).alloc (.cells #[.int .i64 0, .slice none 0 0, .slice none 0 0] 88)) (w.heap.size + 1) 96 (deedA d) := Bk.alloc (Bk.made _ _ (by simp)) _
  have k3 : Bk (((w.alloc (.cells #[.int .i64 D, .slice A n c, .slice A' n' c'] 88)).alloc (.cells (deedA d) 96)).alloc (.cells #[.int .i64 0, .slice none 0 0, .slice none 0 0] 88)) (w.heap.size + 1 + 1) 88 #[.int .i64 0, .slice none 0 0, .slice none 0 0] := Bk.made _ _ (by simp)
  have hs1 := hs.below hb1
  have hr1 := (hr.wide (Y' := fun i => Yof bs lv mv i ∨ (Z i ∨ i = w.heap.size + 1 + 1)) (fun i hi => by rcases hi with hi | hi | hi; (· exact .inl (.inl hi)); (· exact .inl (.inr hi)); (· exact .inr (by omega)))).ext hb1
  have hyl := fun i hi => (hs.yof i hi).2
  subst hn0
  have hVn : V.length = 0 := hr.len
  obtain rfl : L = [] := by have h1 := congrArg List.length hLV; simp only [List.length_map, List.length_reverse] at h1; exact List.eq_nil_of_length_eq_zero (by omega)
  have hno := extend_none base bs lv mv D Ms d.g.A d.g.n d.g.c _ hs1
  have HNO := Lib.hid hno
  have HR1 := Lib.hid hr1
  have HS := Lib.hid hs
  have HYL := Lib.hid hyl
  have HLV := Lib.hid hLV
  have c0 := (k2.cell 0).trans (show (deedA d)[0]? = some (Value.int .i64 1) by show some (Value.int .i64 d.k) = _; rw [hdk])
  have c9 := (k2.cell 1).trans (show (deedA d)[1]? = _ from rfl)
  clear hs hr hs1 hr1 hyl hLV hno hVn
  go_enter Tryz.func40, Tryz.ntmps40
  go_wp2_with (go_at_call 27; fail)
  generalize hwE : ((w.alloc (.cells #[.int .i64 D, .slice A 0 c, .slice A' n' c'] 88)).alloc (.cells (deedA d) 96)).alloc (.cells #[.int .i64 0, .slice none 0 0, .slice none 0 0] 88) = w1 at *
  clear hwE c0 c9
  have hz1 := hb1.size
  refine HNO.out.mono ?_
  rintro e w4 ⟨rfl, hb4⟩
  have hb14 : Below w1.heap.size w1 w4 := hb4
  have m1 := k1.ext hb14
  have m3 := k3.ext hb14
  have x0 := m1.cell 0; have x1 := m1.cell 1; have x2 := m1.cell 2
  have y0 := m3.cell 0; have y1 := m3.cell 1; have y2 := m3.cell 2; have yf := m3.frozen; have yl := def_lt' m3
  dsimp at x0 x1 x2 y0 y1 y2
  clear k1 k2 k3
  go_upto_region 8 with fail
  go_region
  have g5 : w4.grownBy (((w4.setCell ⟨w.heap.size + 1 + 1, 0, none⟩ (.int .i64 D)).setCell ⟨w.heap.size + 1 + 1, 1, none⟩ (.slice A 0 c)).setCell ⟨w.heap.size + 1 + 1, 2, none⟩ (.slice A' n' c')) (some (w.heap.size + 1 + 1)) := gr_set (p := ⟨w.heap.size + 1 + 1, 2, none⟩) (gr_set (p := ⟨w.heap.size + 1 + 1, 1, none⟩) (gr_set (p := ⟨w.heap.size + 1 + 1, 0, none⟩) (World.grownBy.refl _ _) (.inl rfl) _) (.inl rfl) _) (.inl rfl) _
  have z5 : Bk (((w4.setCell ⟨w.heap.size + 1 + 1, 0, none⟩ (.int .i64 D)).setCell ⟨w.heap.size + 1 + 1, 1, none⟩ (.slice A 0 c)).setCell ⟨w.heap.size + 1 + 1, 2, none⟩ (.slice A' n' c')).drew (w.heap.size + 1 + 1) 88 #[.int .i64 D, .slice A 0 c, .slice A' n' c'] := (((m3.set_ 0 _).set_ 1 _).set_ 2 _).drew
  have hbsl := def_lt' HS.out.k
  have hs5 := ((((HS.out.below hb1).below hb14).grown m3 g5 (by omega))).below ((Below.refl _ _).drew)
  have hr5 := ((HR1.out.ext hb14).stir (Stir.of_gr g5 (fun i e => by injection e with e; exact .inr (.inr e.symm)))).ext ((Below.refl _ _).drew)
  have hr6 := hr5.wide (Y' := fun i => Yof bs lv mv i ∨ Z i) (fun i hi => by rcases hi with hi | hi; (· exact .inl (.inl hi)); (· exact .inl (.inr (.inl hi))))
  have hb04 : Below w0.heap.size w0 w4 := (hb0.trans (hb1.mono hb0.size)).trans (hb14.mono (Nat.le_trans hb0.size hz1))
  have hb5 := (hb04.grown g5 hb04.size (fun k e => by injection e with e; subst e; have := hb0.size; omega)).drew
  have hst5 : Stir (Yof bs lv mv) w _ := ((Stir.of_below (hb1.trans (hb14.mono hz1))).fresh (Stir.of_gr (X := fun i => i = w.heap.size + 1 + 1) g5 (fun i e => by injection e with e; exact e.symm)) (fun i e => .inr (by have : i = w.heap.size + 1 + 1 := e; omega))).trans (Stir.of_below ((Below.refl _ _).drew))
  have HST5 := Lib.hid hst5
  have hz5 := hst5.size
  clear hr5 x0 x1 x2 y0 y1 y2 hst5
  generalize (((w4.setCell ⟨w.heap.size + 1 + 1, 0, none⟩ (.int .i64 D)).setCell ⟨w.heap.size + 1 + 1, 1, none⟩ (.slice A 0 c)).setCell ⟨w.heap.size + 1 + 1, 2, none⟩ (.slice A' n' c')).drew = w5 at *
  have q0 := z5.cell 0; have q1 := z5.cell 1; have q2 := z5.cell 2
  dsimp at q0 q1 q2
  go_wp2
  exact bodyPost_ret (v := .tuple #[.pointer (some ⟨bs, 0, none⟩), .agg #[.int .i64 D, .slice A 0 c, .slice A' n' c'], .bool true]) (by simp [results, Tryz.results40, go_sem, q0, q1, q2]) rfl ⟨bs, A, 0, c, A', n', c', Yof bs lv mv, rfl, ⟨hnc, hb5, fun i hi => ⟨(hZ i hi).1, Nat.lt_of_lt_of_le (hZ i hi).2 hz5⟩, base, lv, mv, _, Ms, V, rfl, rfl, hbase, hs5, hr6, HLV.out, htot, hk, hVD⟩, HST5.out, fun i hi => .inl hi⟩
/-- what a deed makes of the groups as they are folded -/
def deedF (D : Nat) (d : DeedH) (F : List GrC) : List GrC :=
  if d.k = 0 then (d.g.val :: F).take (F.length + 1 - (F.length + 1 - D))
  else if d.k = 1 then (if F.length = 0 then F else (F.modify 0 (extC (d.g.L.map StH.x))).take (F.length - (F.length - D)))
  else if d.k = 2 then (if rightM d.m = true then overC d.m F else F)
  else if d.k = 4 then [d.g.val] else F
theorem DoesOut.mono {w0 w w' : World} {D S S' k k' : Nat} {F : List GrC} {Z Y : Nat → Prop} {e : Ending} (h : DoesOut w0 w D S k F Z Y e w') (hS : S ≤ S') (hk : k ≤ k') : DoesOut w0 w D S' k' F Z Y e w' := by
  obtain ⟨bs, A, n, c, A', n', c', Y', h1, ⟨a, b, z, base, lv, mv, L, Ms, V, e1, e2, e3, e4, e5, e6, e7, e8, e9⟩, h3, h4⟩ := h
  exact ⟨bs, A, n, c, A', n', c', Y', h1, ⟨a, b, z, base, lv, mv, L, Ms, V, e1, e2, e3, e4, e5, e6, Nat.le_trans e7 hS, Nat.le_trans e8 hk, e9⟩, h3, h4⟩
theorem Duo.len {w0 w : World} {D bs : Nat} {A : Option Addr} {n c : Nat} {A' : Option Addr} {n' S k : Nat} {F : List GrC} {Z Y : Nat → Prop} (h : Duo w0 w D bs A n c A' n' S k F Z Y) : F.length = n := by
  obtain ⟨-, -, -, base, lv, mv, L, Ms, V, -, rfl, -, -, hr, -⟩ := h
  rw [foldC_len]
  exact hr.len
theorem does_any (w0 w : World) (D : Nat) (bs : Nat) (A : Option Addr) (n c : Nat) (A' : Option Addr) (n' c' S k : Nat) (d : DeedH) (F : List GrC) (Z Y : Nat → Prop) (h : Duo w0 w D bs A n c A' n' S k F Z Y) (hD : 1 ≤ D ∧ D ≤ 200) (hS : S ≤ 500) (hk16 : k ≤ 16) (hd : d.Raw w0 w0.heap.size) (hd1 : d.g.n ≤ 20) (hd2 : SmallS d.g.L) (hdn : d.n ≤ 20) :
    Calls Tryz.prog 40 #[.pointer (some ⟨bs, 0, none⟩), .agg #[.int .i64 D, .slice A n c, .slice A' n' c'], .agg (deedA d)] w (DoesOut w0 w D (S + d.g.n) (k + 1) (deedF D d F) Z Y) := by
  have hF := h.len
  unfold deedF
  by_cases e0 : d.k = 0
  · rw [if_pos e0]
    exact (does_push w0 w D bs A n c A' n' c' S k d F Z Y h hD hS e0 hd hd1 hd2).mono fun e w' ho => ho.mono (Nat.le_refl _) (by omega)
  rw [if_neg e0]
  by_cases e1 : d.k = 1
  · rw [if_pos e1]
    by_cases hn : n = 0
    · rw [if_pos (by omega)]
      exact (does_ext_no w0 w D bs A n c A' n' c' S k d F Z Y h hD hS e1 hn).mono fun e w' ho => ho.mono (by omega) (by omega)
    · rw [if_neg (by omega)]
      exact (does_ext_yes w0 w D bs A n c A' n' c' S k d F Z Y h hD hS e1 hd hd1 hd2 (by omega)).mono fun e w' ho => ho.mono (Nat.le_refl _) (by omega)
  rw [if_neg e1]
  by_cases e2 : d.k = 2
  · rw [if_pos e2]
    cases hr : rightM d.m with
    | true =>
      rw [if_pos rfl]
      exact (does_note_yes w0 w D bs A n c A' n' c' S k d F Z Y h hD hS hk16 e2 hd hdn hr).mono fun e w' ho => ho.mono (by omega) (Nat.le_refl _)
    | false =>
      rw [if_neg (by simp)]
      exact (does_note_no w0 w D bs A n c A' n' c' S k d F Z Y h hD hS e2 hd hdn hr).mono fun e w' ho => ho.mono (by omega) (by omega)
  rw [if_neg e2]
  by_cases e4 : d.k = 4
  · rw [if_pos e4]
    exact (does_set w0 w D bs A n c A' n' c' S k d F Z Y h hD hS e4 hd hd1 hd2).mono fun e w' ho => ho.mono (Nat.le_refl _) (by omega)
  rw [if_neg e4]
  by_cases e3 : d.k = 3
  · exact (does_fold w0 w D bs A n c A' n' c' S k d F Z Y h hD hS e3).mono fun e w' ho => ho.mono (by omega) (by omega)
  · exact (does_copy w0 w D bs A n c A' n' c' S k d F Z Y h hD hS ⟨e0, e1, e2, e3, e4⟩).mono fun e w' ho => ho.mono (by omega) (by omega)
/-- a block of the document's stack's type is none of the program's -/
theorem yof_ne {w : World} {base bs : Nat} {lv mv : Value} {depth : Int} {L : List GrH} {Ms : List MpH} (h : StkAt w base bs lv mv depth L Ms) {b : Nat} {cs : Array Value} (hk : Bk w b 88 cs) : ¬ Yof bs lv mv b := by
  rintro (rfl | h1 | h1)
  · have h2 : w.heap[b]? = some (.cells _ 157 (0, 0)) := h.k
    have h3 : w.heap[b]? = some (.cells _ 88 (0, 0)) := hk
    rw [h3] at h2
    injection h2 with h2
    injection h2 with _ e
    revert e
    decide
  · exact own_ne h.l hk (by decide) h1
  · exact own_ne h.m hk (by decide) h1
theorem Duo.keep {w0 w w' : World} {D bs : Nat} {A : Option Addr} {n c : Nat} {A' : Option Addr} {n' S k : Nat} {F : List GrC} {Z Y : Nat → Prop} (h : Duo w0 w D bs A n c A' n' S k F Z Y) (hs : Stir Y w w') {b : Nat} {cs : Array Value} (hk : Bk w b 88 cs) : Bk w' b 88 cs := by
  obtain ⟨-, -, -, base, lv, mv, L, Ms, V, rfl, rfl, -, hst, -⟩ := h
  exact (hs.block b (def_lt' hk) (yof_ne hst hk)).trans hk
set_option maxHeartbeats 400000 in
theorem new_no (d : Int) (w : World) (h : d < 1 ∨ 200 < d) :
    Calls Tryz.prog 37 #[.int .i64 d] w fun e w' => e = .returned (.tuple #[.pointer none, .int .i64 1]) ∧ Below w.heap.size w w' := by
  rcases h with h | h
  · go_enter Tryz.func37, Tryz.ntmps37
    go_wp2
    exact bodyPost_ret (v := .tuple #[.pointer none, .int .i64 1]) (by simp [results, Tryz.results37, go_sem]) rfl ⟨rfl, belowA⟩
  · have h' : ¬ d < 1 := by omega
    go_enter Tryz.func37, Tryz.ntmps37
    go_wp2
    exact bodyPost_ret (v := .tuple #[.pointer none, .int .i64 1]) (by simp [results, Tryz.results37, go_sem]) rfl ⟨rfl, belowA⟩
section
variable {w0 w w' : World} {D bs : Nat} {A : Option Addr} {n c : Nat} {A' : Option Addr} {n' S k : Nat} {F : List GrC} {Z Y : Nat → Prop}
theorem Duo.ext (h : Duo w0 w D bs A n c A' n' S k F Z Y) (hb : Below w.heap.size w w') : Duo w0 w' D bs A n c A' n' S k F Z Y := by
  obtain ⟨a, b, z, base, lv, mv, L, Ms, V, e1, e2, e3, e4, e5, e6⟩ := h
  exact ⟨a, b.trans (hb.mono b.size), fun i hi => ⟨(z i hi).1, Nat.lt_of_lt_of_le (z i hi).2 hb.size⟩, base, lv, mv, L, Ms, V, e1, e2, e3, e4.below hb, e5.ext hb, e6⟩
theorem Duo.wrote (h : Duo w0 w D bs A n c A' n' S k F Z Y) {b : Nat} {cs : Array Value} (hk : Bk w b 88 cs) (hg : w.grownBy w' (some b)) (hz : Z b) : Duo w0 w' D bs A n c A' n' S k F Z Y := by
  obtain ⟨a, b0, z, base, lv, mv, L, Ms, V, rfl, e2, e3, e4, e5, e6⟩ := h
  have hne := yof_ne e4 hk
  exact ⟨a, b0.grown hg b0.size (fun k e => by injection e with e; subst e; exact (z _ hz).1), fun i hi => ⟨(z i hi).1, Nat.lt_of_lt_of_le (z i hi).2 hg.size⟩, base, lv, mv, L, Ms, V, rfl, e2, e3, e4.grown hk hg (fun e => hne (.inl e)), e5.stir (Stir.of_gr hg (fun i e => by injection e with e; subst e; exact .inr hz)), e6⟩
theorem RStk.nil_ (w : World) (Y : Nat → Prop) : RStk w Y none 0 none 0 [] [] :=
  ⟨⟨[], (⟨⟨Rd.nil_ _ _ _ _, (fun x hx => by cases hx)⟩, fun _ => rfl, (fun x hx => by cases hx), fun h => absurd h (by omega), (fun x hx => by cases hx)⟩ : GrsX w Y none 0 []), rfl⟩, MapsX.nil_ _ _, by omega, by omega, by simp [totC], (fun x hx => by cases hx), (fun x hx => by cases hx)⟩
end
theorem sc10 {w : World} {b o : Nat} {s : StH} (h : ∀ i, i < 10 → w.cell? ⟨b, o + i, none⟩ = s.cells[i]?) : w.cell? ⟨b, o, none⟩ = some (.int .i64 s.x.k) ∧ w.cell? ⟨b, o + 1, none⟩ = some (.int .i64 s.x.f) ∧ w.cell? ⟨b, o + 2, none⟩ = some (.int .i64 s.x.t) ∧ w.cell? ⟨b, o + 3, none⟩ = some (.int .i64 s.x.g) ∧ w.cell? ⟨b, o + 4, none⟩ = some (.int .i64 s.x.h) ∧ w.cell? ⟨b, o + 5, none⟩ = some (.int .i64 s.x.i) ∧ w.cell? ⟨b, o + 6, none⟩ = some (.int .i64 s.x.m) ∧ w.cell? ⟨b, o + 7, none⟩ = some (.int .i64 s.x.v) ∧ w.cell? ⟨b, o + 8, none⟩ = some (.slice s.A s.n s.c) ∧ w.cell? ⟨b, o + 9, none⟩ = some (.slice s.A' s.n' s.c') :=
  ⟨h 0 (by omega), h 1 (by omega), h 2 (by omega), h 3 (by omega), h 4 (by omega), h 5 (by omega), h 6 (by omega), h 7 (by omega), h 8 (by omega), h 9 (by omega)⟩
theorem gc8 {w : World} {b o : Nat} {s : GrH} (h : ∀ i, i < 8 → w.cell? ⟨b, o + i, none⟩ = s.cells[i]?) : w.cell? ⟨b, o, none⟩ = some (.slice s.A s.n s.c) ∧ w.cell? ⟨b, o + 1, none⟩ = some (.int .i64 s.pin.k) ∧ w.cell? ⟨b, o + 2, none⟩ = some (.int .i64 s.pin.a) ∧ w.cell? ⟨b, o + 3, none⟩ = some (.int .i64 s.pin.b) ∧ w.cell? ⟨b, o + 4, none⟩ = some (.int .i64 s.back.k) ∧ w.cell? ⟨b, o + 5, none⟩ = some (.int .i64 s.back.a) ∧ w.cell? ⟨b, o + 6, none⟩ = some (.int .i64 s.back.b) ∧ w.cell? ⟨b, o + 7, none⟩ = some (.int .i64 s.lost) :=
  ⟨h 0 (by omega), h 1 (by omega), h 2 (by omega), h 3 (by omega), h 4 (by omega), h 5 (by omega), h 6 (by omega), h 7 (by omega)⟩
set_option maxRecDepth 100000 in
set_option maxHeartbeats 4000000 in
theorem clist_same (A A' : Option Addr) (n c c' : Nat) (L L' : List StH) (w : World) (h : StsIn w w.heap.size A n L) (h' : StsIn w w.heap.size A' n L') (he : L.map StH.x = L'.map StH.x) (hn : n ≤ 1000) :
    Calls Tryz.prog 92 #[.slice A n c, .slice A' n c', .func (.func 93) #[] #[]] w fun e w' => e = .returned (.bool true) ∧ Below w.heap.size w w' := by
  have hl := h.len
  have hl' := h'.len
  have HL := Lib.hid hl
  have HL' := Lib.hid hl'
  have H := Lib.hid h
  have H' := Lib.hid h'
  have HE := Lib.hid he
  clear hl hl' h h' he
  go_enter Tryz.func92, Tryz.ntmps92
  go_wp2
  go_loopw [17] (fun i wr => ∃ k : Nat, k ≤ n ∧ i = .int .i64 k ∧ Below w.heap.size w wr) (fun i _ => n - (intOf i).toNat)
  case atStart => exact ⟨0, by omega, rfl, Below.refl _ _⟩
  case round =>
    obtain ⟨k, hk, rfl, hbr⟩ := hrel
    by_cases hkn : k < n
    · obtain ⟨r, hx⟩ : ∃ r, L[k]? = some r := ⟨_, List.getElem?_eq_getElem (by have := HL.out; omega)⟩
      obtain ⟨s, hy⟩ : ∃ s, L'[k]? = some s := ⟨_, List.getElem?_eq_getElem (by have := HL'.out; omega)⟩
      have hxs := map_at HE.out hx hy
      obtain ⟨hin, b, o, rfl, hb, hcc⟩ := (H.out.below hbr).at_ hx
      obtain ⟨hin', b', o', rfl, hb', hdd⟩ := (H'.out.below hbr).at_ hy
      have e3 : (k : Int) < n := by omega
      clear hx hy
      obtain ⟨rA, rn, rc, rA', rn', rc', rx⟩ := r
      obtain ⟨sA, sn, sc, sA', sn', sc', sx⟩ := s
      dsimp only at hxs
      subst hxs
      have HSM : Hid (∀ W, Below w.heap.size w W → Below wr.heap.size wr W → Calls Tryz.prog 93 #[.agg #[.int .i64 rx.k, .int .i64 rx.f, .int .i64 rx.t, .int .i64 rx.g, .int .i64 rx.h, .int .i64 rx.i, .int .i64 rx.m, .int .i64 rx.v, .slice rA rn rc, .slice rA' rn' rc'], .agg #[.int .i64 rx.k, .int .i64 rx.f, .int .i64 rx.t, .int .i64 rx.g, .int .i64 rx.h, .int .i64 rx.i, .int .i64 rx.m, .int .i64 rx.v, .slice sA sn sc, .slice sA' sn' sc']] W fun e w' => e = .returned (.bool true) ∧ Below W.heap.size W w') := Lib.hid (fun W _ hb2 => by
        have hi := (hin.more hbr.size).ext hb2
        have hi' := (hin'.more hbr.size).ext hb2
        have hT := fun W2 (hb3 : Below W.heap.size W W2) => calls_on hb3 (tsame_any rA sA rn sn rc sc rx.sl rx.sl W2 (by have := hin.n; unfold maxLen; dsimp only at this; omega) (fun _ => (hi.ext hb3).rd) (fun _ => (hi'.ext hb3).rd) hin.rd.tlen hin'.rd.tlen)
        have hS := fun W2 (hb3 : Below W.heap.size W W2) => calls_on hb3 (eqmk_any rA' sA' rn' sn' rc' sc' rx.st rx.st W2 (by have := hin.n'; unfold maxLen; dsimp only at this; omega) (fun _ => (hi.ext hb3).rd') (fun _ => (hi'.ext hb3).rd') hin.rd'.mlen hin'.rd'.mlen)
        have h0 := ssame_any rx.k rx.f rx.t rx.g rx.h rx.i rx.m rx.v rx.k rx.f rx.t rx.g rx.h rx.i rx.m rx.v rA rA' sA sA' rn rn' sn sn' rc rc' sc sc' _ _ W hT hS
        have e : (eight rx.k rx.f rx.t rx.g rx.h rx.i rx.m rx.v rx.k rx.f rx.t rx.g rx.h rx.i rx.m rx.v && decide (rx.sl = rx.sl) && decide (rx.st = rx.st)) = true := by simp [eight]
        rw [e] at h0
        exact h0)
      obtain ⟨d0, d1, d2, d3, d4, d5, d6, d7, d8, d9⟩ := sc10 hcc
      obtain ⟨f0, f1, f2, f3, f4, f5, f6, f7, f8, f9⟩ := sc10 hdd
      dsimp only at d0 d1 d2 d3 d4 d5 d6 d7 d8 d9 f0 f1 f2 f3 f4 f5 f6 f7 f8 f9
      have hbz := hbr.size
      have l1 : b < wr.heap.size := by omega
      have l2 : b' < wr.heap.size := by omega
      clear hcc hdd hin hin'
      go_wp2_with (go_at_call 93; fail)
      refine (HSM.out _ belowA belowA).mono ?_
      rintro e w4 ⟨rfl, hb4⟩
      go_wp2
      go_roundw
      case rel => exact ⟨k + 1, by omega, by go_num, hbr.trans ((Below.trans belowA (hb4.mono (by simp <;> omega)) : Below wr.heap.size wr w4).mono hbz)⟩
      case measure => simp [intOf]; omega
    · obtain rfl : n = k := by omega
      go_wp2
      go_ret
      exact ⟨rfl, hbr⟩
theorem eq_pp (a b c x y z : Int) (w : World) : (Op.equalIn 10000 74 (.agg #[.int .i64 a, .int .i64 b, .int .i64 c]) (.agg #[.int .i64 x, .int .i64 y, .int .i64 z])).run Tryz.prog w = .ok (decide (a = x ∧ b = y ∧ c = z)) w := by
  have u1 := Tryz.underlying3
  have a1 := Tryz.isAgg3
  have z1 := Tryz.sizeOf3
  have hS : Tryz.prog.underlying 74 = some (.struct (Tryz.prog.fieldsOf 74)) := by kernel_rfl
  have hp : Tryz.prog.stoodInHeld 74 = false := by kernel_rfl
  rw [show (10000 : Nat) = 9999 + 1 from rfl, run_equalIn_agg w 9999 74 _ _ hS hp]
  simp only [Program.fieldsOf, Tryz.underlying74]
  go_simp
  clear u1 z1 hS hp
  repeat' split
  all_goals simp_all
@[go_sem] theorem eq_pp_at (a b c : Int) (w : World) : (Op.equalIn 10000 74 (.agg #[.int .i64 a, .int .i64 b, .int .i64 c]) (.agg #[.int .i64 a, .int .i64 b, .int .i64 c])).run Tryz.prog w = .ok true w := by
  rw [eq_pp]; simp
@[go_sem] theorem guard_pp : Tryz.prog.eqGuardType Tryz.prog.depth 74 = false := by kernel_rfl
set_option maxRecDepth 100000 in
set_option maxHeartbeats 4000000 in
theorem cgone_same (g g' : GrH) (w : World) (h : g.In w w.heap.size) (h' : g'.In w w.heap.size) (he : g.val = g'.val) (hn : g.n ≤ 1000) :
    Calls Tryz.prog 91 #[encG g, encG g'] w fun e w' => e = .returned (.bool true) ∧ Below w.heap.size w w' := by
  obtain ⟨gA, gn, gc, gL, p, bk, lost⟩ := g
  obtain ⟨sA, sn, sc, sL, p', bk', lost'⟩ := g'
  simp only [GrH.val, GrC.mk.injEq] at he
  obtain ⟨hxL, rfl, rfl, rfl⟩ := he
  have hrn : sn = gn := by have h1 := h.sts.len; have h2 := h'.sts.len; have h3 := congrArg List.length hxL; simp only [List.length_map] at h3; dsimp only at h1 h2; omega
  subst hrn
  have hsm := fun W (hb : Below w.heap.size w W) => calls_on hb (clist_same gA sA sn gc sc gL sL W (h.ext hb).sts (h'.ext hb).sts hxL hn)
  have HSM := Lib.hid hsm
  obtain ⟨pk, pa, pb⟩ := p
  obtain ⟨qk, qa, qb⟩ := bk
  clear hsm h h' hxL
  go_enter Tryz.func91, Tryz.ntmps91
  go_wp2_with (go_at_call 92; (refine (HSM.out _ belowA).mono ?_); rintro e w4 ⟨rfl, hb4, -, -⟩)
  go_ret
  exact ⟨rfl, hb4⟩
set_option maxRecDepth 100000 in
set_option maxHeartbeats 4000000 in
theorem cgroups_same (A A' : Option Addr) (n c c' : Nat) (L L' : List GrH) (w : World) (h : GrsIn w w.heap.size A n L) (h' : GrsIn w w.heap.size A' n L') (he : L.map GrH.val = L'.map GrH.val) (hn : n ≤ 1000) (hs : ∀ g ∈ L, g.n ≤ 1000) :
    Calls Tryz.prog 90 #[.slice A n c, .slice A' n c', .func (.func 91) #[] #[]] w fun e w' => e = .returned (.bool true) ∧ Below w.heap.size w w' := by
  have hl := h.len
  have hl' := h'.len
  have HL := Lib.hid hl
  have HL' := Lib.hid hl'
  have H := Lib.hid h
  have H' := Lib.hid h'
  have HE := Lib.hid he
  have HS := Lib.hid hs
  clear hl hl' h h' he hs
  go_enter Tryz.func90, Tryz.ntmps90
  go_wp2
  go_loopw [17] (fun i wr => ∃ k : Nat, k ≤ n ∧ i = .int .i64 k ∧ Below w.heap.size w wr) (fun i _ => n - (intOf i).toNat)
  case atStart => exact ⟨0, by omega, rfl, Below.refl _ _⟩
  case round =>
    obtain ⟨k, hk, rfl, hbr⟩ := hrel
    by_cases hkn : k < n
    · obtain ⟨r, hx⟩ : ∃ r, L[k]? = some r := ⟨_, List.getElem?_eq_getElem (by have := HL.out; omega)⟩
      obtain ⟨s, hy⟩ : ∃ s, L'[k]? = some s := ⟨_, List.getElem?_eq_getElem (by have := HL'.out; omega)⟩
      have hxs := map_at HE.out hx hy
      have hr1 := HS.out r (List.mem_of_getElem? hx)
      obtain ⟨hin, b, o, rfl, hb, hcc⟩ := (H.out.below hbr).at_ hx
      obtain ⟨hin', b', o', rfl, hb', hdd⟩ := (H'.out.below hbr).at_ hy
      have e3 : (k : Int) < n := by omega
      have hsm := fun W (hb2 : Below wr.heap.size wr W) => cgone_same r s W ((hin.more hbr.size).ext hb2) ((hin'.more hbr.size).ext hb2) hxs hr1
      have HSM := Lib.hid hsm
      obtain ⟨d0, d1, d2, d3, d4, d5, d6, d7⟩ := gc8 hcc
      obtain ⟨f0, f1, f2, f3, f4, f5, f6, f7⟩ := gc8 hdd
      have hbz := hbr.size
      have l1 : b < wr.heap.size := by omega
      have l2 : b' < wr.heap.size := by omega
      clear hcc hdd hin hin' hx hy hxs hsm
      go_wp2_with (go_at_call 91; fail)
      refine (HSM.out _ belowA).mono ?_
      rintro e w4 ⟨rfl, hb4⟩
      go_wp2
      go_roundw
      case rel => exact ⟨k + 1, by omega, by go_num, hbr.trans ((Below.trans belowA (hb4.mono (by simp <;> omega)) : Below wr.heap.size wr w4).mono hbz)⟩
      case measure => simp [intOf]; omega
    · obtain rfl : n = k := by omega
      go_wp2
      go_ret
      exact ⟨rfl, hbr⟩
set_option maxHeartbeats 400000 in
theorem csame_any (A A' : Option Addr) (n c c' : Nat) (L L' : List GrH) (w : World) (h : GrsIn w w.heap.size A n L) (h' : GrsIn w w.heap.size A' n L') (he : L.map GrH.val = L'.map GrH.val) (hn : n ≤ 1000) (hs : ∀ g ∈ L, g.n ≤ 1000) :
    Calls Tryz.prog 46 #[.slice A n c, .slice A' n c'] w fun e w' => e = .returned (.bool true) ∧ Below w.heap.size w w' := by
  have hg := cgroups_same A A' n c c' L L' w h h' he hn hs
  have HG := Lib.hid hg
  clear hg h h' he hs
  go_enter Tryz.func46, Tryz.ntmps46
  go_wp2_with (go_at_call 90; fail)
  refine HG.out.mono ?_
  rintro e w4 ⟨rfl, hb4⟩
  go_wp2
  go_ret
  exact ⟨rfl, hb4⟩
end Go.Proofs.YtmacfoebfpljoaaGreat
