/- merged texts: Hnb Hnk Hnl Hwe Hvg StC StD StE StF -/
import Derived.Test.YtmacfoebfpljoaaGreatMa10
import Derived.Test.YtmacfoebfpljoaaGreatMa8
import Derived.Test.YtmacfoebfpljoaaGreatMa11
import Derived.Test.YtmacfoebfpljoaaGreatMa7
import Derived.Test.YtmacfoebfpljoaaGreatMa1
set_option maxRecDepth 100000
set_option maxHeartbeats 16000000
namespace Go.Proofs.YtmacfoebfpljoaaGreat
open Go.RowKit
set_option linter.unusedVariables false
theorem goes_any (B m : Nat) (on bh f e : Value) (em : Bool) (WA : Option Addr) (wn wc : Nat) (wl : List Int) (w : World) (hV : NetV w B m on bh f e) (hm : m ≤ 256) (hw : Rd w w.heap.size 1 WA wn (is wl)) (hwn : wn ≤ 1000000) : Calls Tryz.prog 225 #[.agg #[on, bh, f, e, .bool em], .slice WA wn wc] w (AnyB w) := by
 obtain ⟨Ao, co, rfl⟩ := hV.ron.form
 obtain ⟨Ab, cb, rfl⟩ := hV.rbh.form
 obtain ⟨Af, cf, lf, rfl, hlf, -, -⟩ := hV.f.form
 obtain ⟨Ae, ce, le, rfl, hle, her, -⟩ := hV.e.form
 have hll := hle.len
 obtain ⟨en, hen⟩ : ∃ en, en = le.length := ⟨_, rfl⟩
 rw [← hen] at hll her hV ⊢
 have HER := Lib.hid her.to_is
 clear her hle hen
 generalize lf.length = fn at *
 have HV := Lib.hid hV
 have HW := Lib.hid hw
 clear hV hw hlf
 go_enter Tryz.func225, Tryz.ntmps225
 go_upto_region 1 with fail
 have ks := Bk.new w 205 #[.slice Ao m co, .slice Ab m cb, .slice Af fn cf, .slice Ae en ce, .bool em]
 have hb0 : Below w.heap.size w (w.alloc (.cells #[.slice Ao m co, .slice Ab m cb, .slice Af fn cf, .slice Ae en ce, .bool em] 205)) := belowA
 generalize w.alloc (.cells #[.slice Ao m co, .slice Ab m cb, .slice Af fn cf, .slice Ae en ce, .bool em] 205) = w0 at *
 obtain ⟨s0, s1, s2, s3, s4⟩ := bk5 ks
 have hf0 := Lib.hid ((HV.out.f.below hb0).mono (Nat.le_refl _) (Nat.zero_le _))
 go_wp2
 clear s0 s1 s2 s3 s4
 go_loopw [5, 6, 7] (fun b v j wr => ∃ (k : Nat) (x : Bool), k ≤ wn ∧ j = .int .i64 k ∧ b = .bool x ∧ Hid (NsIn wr 0 m v) ∧ Below w.heap.size w wr ∧ Bk wr w.heap.size 205 #[.slice Ao m co, .slice Ab m cb, .slice Af fn cf, .slice Ae en ce, .bool em]) (fun _ _ j _ => wn - (intOf j).toNat)
 case atStart => exact ⟨0, em, by omega, rfl, rfl, hf0, hb0, ks⟩
 case round =>
  clear hb0 ks hf0
  obtain ⟨k, x, hk, rfl, rfl, hnow, hbo, kso⟩ := hrel
  rename World => wo
  obtain ⟨An, cn, ln, rfl, hrn, hrd, -⟩ := hnow.out.form
  have hnl := hrn.len
  obtain ⟨nn, hnn⟩ : ∃ nn, nn = ln.length := ⟨_, rfl⟩
  rw [← hnn] at hnl hnow hrd ⊢
  have HN := Lib.hid hnn
  have HRN := Lib.hid hrn
  have HRD := Lib.hid hrd
  clear hnn hrn hrd
  by_cases hlt : k < wn
  ·have e3 : (k : Int) < wn := by omega
   obtain ⟨wb, wo_, y, rfl, hwb, -, hyc⟩ := HW.out.is_at hlt
   have HY := Lib.hid hyc
   clear hyc
   go_wp2
   go_loopw [5, 8, 9] (fun b v j wr => ∃ (q : Nat) (x : Bool), q ≤ nn ∧ j = .int .i64 q ∧ b = .bool x ∧ Hid (NsIn wr 0 m v) ∧ Below wo.heap.size wo wr) (fun _ _ j _ => nn - (intOf j).toNat)
   case atStart => exact ⟨0, false, by omega, rfl, rfl, Lib.hid (NsIn.nil _ _ _), Below.refl _ _⟩
   case round =>
    obtain ⟨q, x, hq, rfl, rfl, hnx, hbr⟩ := hrel
    rename World => wr
    by_cases hql : q < nn
    ·have e4 : (q : Int) < nn := by omega
     obtain ⟨nb, no, z, rfl, hnb, hz, hzc⟩ := HRD.out.nt_at hql
     have hzm := HRN.out.2 z (List.mem_of_getElem? hz)
     have hbw : Below w.heap.size w wr := hbo.trans (hbr.mono hbo.size)
     have hVr := HV.out.below hbw
     obtain ⟨og, u, rfl, -, hog, huc, hui, -⟩ := hVr.ron.at_ hzm
     obtain ⟨bg, u2, rfl, -, hbg, hu2c, hu2i, -⟩ := hVr.rbh.at_ hzm
     obtain ⟨Au, cu, lu, rfl, hlu, hur, -⟩ := hui.form
     have hlul := hlu.len
     obtain ⟨un, hun⟩ : ∃ un, un = lu.length := ⟨_, rfl⟩
     rw [← hun] at hlul hur huc hui
     obtain ⟨A2, c2, l2, rfl, -, -, -⟩ := hu2i.form
     generalize l2.length = n2 at *
     have ksr := kso.ext hbr
     have e5 : (z : Int) < m := by omega
     have hnbr : nb < wr.heap.size := Nat.lt_of_lt_of_le hnb hbr.size
     have hF : ∀ W, Below wr.heap.size wr W → W.cell? ⟨w.heap.size, 0, none⟩ = some (.slice (some ⟨og, 0, none⟩) m co) ∧ W.cell? ⟨w.heap.size, 1, none⟩ = some (.slice (some ⟨bg, 0, none⟩) m cb) ∧ W.cell? ⟨w.heap.size, 2, none⟩ = some (.slice Af fn cf) ∧ W.cell? ⟨w.heap.size, 3, none⟩ = some (.slice Ae en ce) ∧ W.cell? ⟨w.heap.size, 4, none⟩ = some (.bool em) ∧ W.cell? ⟨nb, no + q, none⟩ = some (.int .i64 (z : Int)) ∧ W.cell? ⟨wb, wo_ + k, none⟩ = some (.int .i64 y) ∧ W.cell? ⟨og, z, none⟩ = some (.slice Au un cu) ∧ W.cell? ⟨bg, z, none⟩ = some (.slice A2 n2 c2) := fun W h => by
      have kW := ksr.ext h
      exact ⟨kW.cell 0, kW.cell 1, kW.cell 2, kW.cell 3, kW.cell 4, (h.cell (by simpa using hnbr)).trans ((hbr.cell (by simpa using hnb)).trans hzc), ((hbw.trans (h.mono hbw.size)).cell (by simpa using hwb)).trans HY.out, (h.cell (by simpa using hog)).trans huc, (h.cell (by simpa using hbg)).trans hu2c⟩
     have HF := Lib.hid hF
     have HU := Lib.hid hur.to_is
     have HU2 := Lib.hid hu2i
     have HHU := Lib.hid (fun W (hb : Below wr.heap.size wr W) => has3_any Au un cu _ y W ((HU.out.below hb).more hb.size) (by unfold maxLen; omega))
     have HHE := Lib.hid (fun W (hb : Below wr.heap.size wr W) => has3_any Ae en ce _ z W ((HER.out.below (hbw.trans (hb.mono hbw.size))).more (Nat.le_trans hbw.size hb.size)) (by unfold maxLen; omega))
     have HKS := Lib.hid ksr
     clear hF hzc hz huc hu2c hui hu2i hur hVr hlu hun ksr
     go_upto_region 11 with fail
     refine wp_normal ?_
     refine wp_region_held_drew (S := fun W => Below wr.heap.size wr W) (by kernel_rfl) (Below.refl _ _).drew (fun hHeld => ?_)
     (refine tkH 0 ?_; refine tkH 1 ?_; refine tkH 2 ?_; refine tkH 3 ?_; refine tkH 4 ?_; refine tkH 5 ?_; refine tkH 6 ?_; refine tkH 7 ?_; refine tkH 8 ?_; refine tkH 9 ?_; refine tkH 10 ?_; refine tkH 11 ?_)
     refine nxH 12 (fun K hK => ?_)
     go_simp
     go_at_call 124
     refine (HHU.out _ hHeld).mono ?_
     rintro e w5 ⟨rfl, hb5⟩
     generalize decide (y ∈ lu.map fun (i : Nat) => (i : Int)) = d
     have hb05 := hHeld.trans (hb5.mono hHeld.size)
     refine hK.out _ _ hb05 (fun hHeld => ?_)
     clear hK K; refine puH ?_
     refine wpAnyH_done (by kernel_rfl) ?_ _
     cases d with
     | false =>
       go_wp2
       go_roundw
       case rel => exact ⟨q + 1, x, by omega, by go_num, rfl, Lib.hid (hnx.out.below hHeld), hbr.trans (hHeld.mono hbr.size)⟩
       case measure => simp [intOf]; omega
     | true =>
       rename World => w5
       have hnx5 := Lib.hid (hnx.out.below hHeld)
       obtain ⟨Av, cv, lv, rfl, -, -, -⟩ := hnx5.out.form
       generalize lv.length = vn at *
       cases x with
       | true =>
         go_upto_region 12 with fail
         refine wp_normal ?_
         refine wp_region_held_drew (S := fun W => Below wr.heap.size wr W) (by kernel_rfl) hHeld.drew (fun hHeld => ?_)
         (refine tkH 0 ?_; refine tkH 1 ?_; refine tnH 2 ?_; refine tnH 3 ?_; refine tnH 4 ?_; refine tnH 5 ?_; refine tnH 6 ?_; refine tnH 7 ?_; refine tnH 8 ?_; refine tkH 9 ?_; refine tkH 10 ?_)
         refine wpAnyH_done (by kernel_rfl) ?_ _
         go_upto_region 13 with fail
         refine wp_normal ?_
         refine wp_region_held_drew (S := fun W => Below wr.heap.size wr W) (by kernel_rfl) hHeld.drew (fun hHeld => ?_)
         (refine tkH 0 ?_; refine tkH 1 ?_; refine tkH 2 ?_; refine tkH 3 ?_; refine tkH 4 ?_; refine tkH 5 ?_; refine tkH 6 ?_; refine tkH 7 ?_; refine tkH 8 ?_)
         refine nxH 9 (fun K hK => ?_)
         go_simp
         go_at_call 196
         refine (or_any _ _ 0 B m _ (by omega) (hnx.out.below hHeld) (HU2.out.below hHeld)).mono ?_
         rintro e w9 ⟨v9, rfl, hv9, hb9⟩
         obtain ⟨A9, c9, l9, rfl, -, -, -⟩ := hv9.form
         generalize l9.length = n9 at *
         have hv9' := hv9.mono (Nat.le_refl m) (Nat.zero_le _)
         refine hK.out _ _ (hHeld.trans (hb9.mono hHeld.size)) (fun hHeld => ?_)
         clear hK K; refine puH ?_
         (refine tkH 10 ?_)
         refine wpAnyH_done (by kernel_rfl) ?_ _
         go_wp2
         go_roundw
         case rel => exact ⟨q + 1, true, by omega, by go_num, rfl, Lib.hid hv9', hbr.trans (hHeld.mono hbr.size)⟩
         case measure => simp [intOf]; omega
       | false =>
         go_upto_region 12 with fail
         refine wp_normal ?_
         refine wp_region_held_drew (S := fun W => Below wr.heap.size wr W) (by kernel_rfl) hHeld.drew (fun hHeld => ?_)
         (refine tkH 0 ?_; refine tkH 1 ?_; refine tkH 2 ?_; refine tkH 3 ?_; refine tkH 4 ?_; refine tkH 5 ?_; refine tkH 6 ?_; refine tkH 7 ?_)
         refine nxH 8 (fun K hK => ?_)
         go_simp
         go_at_call 124
         refine (HHE.out _ hHeld).mono ?_
         rintro e w7 ⟨rfl, hb7⟩
         generalize decide ((z : Int) ∈ le.map fun (i : Nat) => (i : Int)) = d
         refine hK.out _ _ (hHeld.trans (hb7.mono hHeld.size)) (fun hHeld => ?_)
         clear hK K; refine puH ?_
         (refine tkH 9 ?_; refine tkH 10 ?_)
         refine wpAnyH_done (by kernel_rfl) ?_ _
         go_upto_region 13 with fail
         refine wp_normal ?_
         refine wp_region_held_drew (S := fun W => Below wr.heap.size wr W) (by kernel_rfl) hHeld.drew (fun hHeld => ?_)
         (refine tkH 0 ?_; refine tkH 1 ?_; refine tkH 2 ?_; refine tkH 3 ?_; refine tkH 4 ?_; refine tkH 5 ?_; refine tkH 6 ?_; refine tkH 7 ?_; refine tkH 8 ?_)
         refine nxH 9 (fun K hK => ?_)
         go_simp
         go_at_call 196
         refine (or_any _ _ 0 B m _ (by omega) (hnx.out.below hHeld) (HU2.out.below hHeld)).mono ?_
         rintro e w9 ⟨v9, rfl, hv9, hb9⟩
         obtain ⟨A9, c9, l9, rfl, -, -, -⟩ := hv9.form
         generalize l9.length = n9 at *
         have hv9' := hv9.mono (Nat.le_refl m) (Nat.zero_le _)
         refine hK.out _ _ (hHeld.trans (hb9.mono hHeld.size)) (fun hHeld => ?_)
         clear hK K; refine puH ?_
         (refine tkH 10 ?_)
         refine wpAnyH_done (by kernel_rfl) ?_ _
         go_wp2
         go_roundw
         case rel => exact ⟨q + 1, d, by omega, by go_num, rfl, Lib.hid hv9', hbr.trans (hHeld.mono hbr.size)⟩
         case measure => simp [intOf]; omega
    ·obtain rfl : q = nn := by omega
     go_wp2
     go_roundw
     case rel => exact ⟨k + 1, x, by omega, by go_num, rfl, hnx, hbo.trans (hbr.mono hbo.size), kso.ext hbr⟩
     case measure => simp [intOf]; omega
  ·obtain rfl : k = wn := by omega
   go_wp2
   go_ret
   exact ⟨⟨_, rfl⟩, hbo⟩
/-- a schema, as it lies -/
structure Sc (w : World) (base : Nat) (nv mv pv tv ev : Value) (ns : List Nd) (ms : List Mr) (ps : List Pe) (bn : Nat) (mg : List Mg) : Prop where
 d : DeclIn w base nv mv ns ms
 x : SIn w base pv tv ev ps bn mg
 l : ps.length = ns.length
 m : mg.length ≤ 10000
theorem Sc.below {w w' : World} {base bn : Nat} {nv mv pv tv ev : Value} {ns : List Nd} {ms : List Mr} {ps : List Pe} {mg : List Mg} (h : Sc w base nv mv pv tv ev ns ms ps bn mg) (hb : Below w.heap.size w w') : Sc w' base nv mv pv tv ev ns ms ps bn mg := ⟨h.d.below hb, h.x.below hb, h.l, h.m⟩
theorem Rws.base_ {w : World} {B B' m K : Nat} {v : Value} (h : Rws w B m v K) (hb : B' ≤ B) : Rws w B' m v K := by
 obtain ⟨vs, h1, h2⟩ := h
 exact ⟨vs, own_base h1 hb, fun u hu => (h2 u hu).mono (Nat.le_refl _) hb⟩
theorem NetV.base_ {w : World} {B B' m : Nat} {on bh f e : Value} (h : NetV w B m on bh f e) (hb : B' ≤ B) : NetV w B' m on bh f e := ⟨h.ron.base_ hb, h.rbh.base_ hb, h.f.mono (Nat.le_refl _) hb, h.e.mono (Nat.le_refl _) hb⟩
section
variable (base : Nat) (nv mv pv tv ev : Value) (ns : List Nd) (ms : List Mr) (ps : List Pe) (bn : Nat) (mg : List Mg) (w : World)
theorem net11_any (t : Nat) (ht : t < ns.length) (h : Sc w base nv mv pv tv ev ns ms ps bn mg) : Calls Tryz.prog 224 #[.agg #[nv, mv, pv, tv, ev], .int .i64 ((t : Int) + 1)] w (NetOut w) := by
 obtain ⟨NA, nc, rfl, -, -, -, -⟩ := own_form h.d.n
 obtain ⟨MA, mc, rfl, -, -, -, -⟩ := own_form h.d.m
 obtain ⟨PA, pc, rfl, -, -, -, hpr⟩ := own_form h.x.p
 obtain ⟨bs, hbs⟩ := h.x.t
 obtain ⟨TA, tc, rfl, -, -, -, -⟩ := own_form hbs
 obtain ⟨EA, ec, rfl, -, -, -, -⟩ := own_form h.x.m.row
 obtain ⟨x, hx⟩ : ∃ x, ps[t]? = some x := ⟨_, List.getElem?_eq_getElem (by rw [h.l]; exact ht)⟩
 have hxp := h.x.pi x (List.mem_of_getElem? hx)
 have hxn := h.x.pn x (List.mem_of_getElem? hx)
 obtain ⟨xv, xn, xl⟩ := x
 dsimp only at hxp hxn
 obtain ⟨XA, xc, rfl, -, -, -, -⟩ := own_form hxp.row
 have hnl := h.d.nl
 have hpl : ps.length ≤ 24 := by rw [h.l]; exact hnl
 have htp : t < ps.length := by rw [h.l]; exact ht
 obtain ⟨b, o, u, rfl, hb, hu, hc⟩ := hpr.at1 htp
 rw [List.getElem?_map, hx] at hu
 injection hu with hu
 subst hu
 have hof := fun W (hb : Below w.heap.size w W) => of7_any base xn xc base ec XA EA xl mg W (hxp.below hb) hxn.1 (h.x.m.below hb) (by have := h.m; omega) hxn.2
 have HOF := Lib.hid hof
 have HC := Lib.hid hc
 have e3 : (t : Int) < ps.length := by omega
 have t0 : (0 : Int) ≤ t := by omega
 have t1 : (t : Int) ≤ 24 := by omega
 have hwr : IntKind.i64.wrap (t : Int) = (t : Int) := by rw [IntKind.wrap_i64]; omega
 clear hof h hbs hpr hx hxp hxn hc
 go_enter Tryz.func224, Tryz.ntmps224
 go_upto_region 1 with fail
 have kb : Bk ((w.alloc (.cells #[.slice NA ns.length nc, .slice MA ms.length mc, .slice (some ⟨b, o, none⟩) ps.length pc, .slice TA bn tc, .slice EA mg.length ec] 32)).alloc (.cells zeroT 205)) w.heap.size 32 #[.slice NA ns.length nc, .slice MA ms.length mc, .slice (some ⟨b, o, none⟩) ps.length pc, .slice TA bn tc, .slice EA mg.length ec] := (Bk.new w _ _).alloc _
 have kr : Bk ((w.alloc (.cells #[.slice NA ns.length nc, .slice MA ms.length mc, .slice (some ⟨b, o, none⟩) ps.length pc, .slice TA bn tc, .slice EA mg.length ec] 32)).alloc (.cells zeroT 205)) (w.heap.size + 1) 205 zeroT := Bk.made _ _ (by simp)
 have hb0 : Below w.heap.size w ((w.alloc (.cells #[.slice NA ns.length nc, .slice MA ms.length mc, .slice (some ⟨b, o, none⟩) ps.length pc, .slice TA bn tc, .slice EA mg.length ec] 32)).alloc (.cells zeroT 205)) := belowA
 generalize (w.alloc (.cells #[.slice NA ns.length nc, .slice MA ms.length mc, .slice (some ⟨b, o, none⟩) ps.length pc, .slice TA bn tc, .slice EA mg.length ec] 32)).alloc (.cells zeroT 205) = w0 at *
 have hF : ∀ W, (Below w.heap.size w W ∧ Bk W w.heap.size 32 #[.slice NA ns.length nc, .slice MA ms.length mc, .slice (some ⟨b, o, none⟩) ps.length pc, .slice TA bn tc, .slice EA mg.length ec] ∧ Bk W (w.heap.size + 1) 205 zeroT) → W.cell? ⟨w.heap.size, 1, none⟩ = some (.slice MA ms.length mc) ∧ W.cell? ⟨w.heap.size, 2, none⟩ = some (.slice (some ⟨b, o, none⟩) ps.length pc) ∧ W.cell? ⟨w.heap.size, 4, none⟩ = some (.slice EA mg.length ec) ∧ W.cell? ⟨b, o + t, none⟩ = some (.slice XA xn xc) := fun W h => ⟨h.2.1.cell 1, h.2.1.cell 2, h.2.1.cell 4, (h.1.cell (p := ⟨b, o + t, none⟩) hb).trans HC.out⟩
 have HF := Lib.hid hF
 clear hF
 refine wp_normal ?_
 refine region_L (S := fun W => Below w.heap.size w W ∧ Bk W w.heap.size 32 #[.slice NA ns.length nc, .slice MA ms.length mc, .slice (some ⟨b, o, none⟩) ps.length pc, .slice TA bn tc, .slice EA mg.length ec] ∧ Bk W (w.heap.size + 1) 205 zeroT) [9] (by kernel_rfl) ⟨hb0.drew, kb.drew, kr.drew⟩ (fun hHeld => ?_)
 (refine tkL 0 ?_; refine tkL 1 ?_; refine tkL 2 ?_; refine tkL 3 ?_; refine tkL 4 ?_; refine tkL 5 ?_; refine tkL 6 ?_; refine tkL 7 ?_)
 refine nxL 8 (fun K hK => ?_)
 go_simp
 go_at_call 106
 refine (HOF.out _ hHeld.1).mono ?_
 rintro e w5 ⟨m, on, bh, f, e, em, rfl, hm, hV, hb5'⟩
 have hb5 : Below w0.heap.size w0 w5 := Below.trans (Below.refl _ _).drew hb5'
 have hV := hV
 have hz0 := hb0.size
 have kr5 := kr.ext hb5
 obtain ⟨Ao, co, rfl⟩ := hV.ron.form
 obtain ⟨Ab, cb, rfl⟩ := hV.rbh.form
 obtain ⟨Af, cf, lf, rfl, -, -, -⟩ := hV.f.form
 obtain ⟨Ae, ce, le, rfl, -, -, -⟩ := hV.e.form
 generalize lf.length = fn at *
 generalize le.length = en at *
 have hs5 := set5_sti w5 (w.heap.size + 1) (.slice Ao m co) (.slice Ab m cb) (.slice Af fn cf) (.slice Ae en ce) (.bool em)
 have hV5 := (hV.sti kr5 hs5).base_ (show w.heap.size ≤ _ from hz0)
 have hL2 := set5_bk (show Bk _ (w.heap.size + 1) 205 zeroT from kr5) (.slice Ao m co) (.slice Ab m cb) (.slice Af fn cf) (.slice Ae en ce) (.bool em)
 have hL1 := set5_below (b := w.heap.size + 1) (hb0.trans (hb5.mono hz0)) (by omega) (.slice Ao m co) (.slice Ab m cb) (.slice Af fn cf) (.slice Ae en ce) (.bool em)
 unfold set5 at hV5 hL2 hL1
 have HE := Lib.hid (And.intro hL2 (show NetOut w (.returned (.agg #[.slice Ao m co, .slice Ab m cb, .slice Af fn cf, .slice Ae en ce, .bool em])) _ from ⟨m, _, _, _, _, _, rfl, hm, hV5, hL1⟩))
 have hHeld5 := And.intro (hb0.trans (hb5.mono hz0)) (And.intro (kb.ext hb5) kr5)
 obtain ⟨r0, r1, r2, r3, r4⟩ := bk5 (show Bk _ (w.heap.size + 1) 205 zeroT from kr5)
 have rf := kr5.frozen; have rl := def_lt' kr5
 clear hs5 hV5 hL2 hL1 hV hb5' hwr
 refine hK.out _ _ hHeld5 (fun hHeld => ?_)
 clear hK K; refine puL ?_
 refine ltL 9 (fun K hK => ?_)
 go_simp
 refine hK.out _ _ ?_
 refine anyL_done (by kernel_rfl) ?_
 obtain ⟨z0, z1, z2, z3, z4⟩ := bk5 HE.out.1
 go_wp2
 exact bodyPost_ret (v := .agg #[.slice Ao m co, .slice Ab m cb, .slice Af fn cf, .slice Ae en ce, .bool em]) (by simp [results, Tryz.results224, go_sem, z0, z1, z2, z3, z4]) rfl HE.out.2
end
theorem Sc.form {w : World} {base bn : Nat} {nv mv pv tv ev : Value} {ns : List Nd} {ms : List Mr} {ps : List Pe} {mg : List Mg} (h : Sc w base nv mv pv tv ev ns ms ps bn mg) : ∃ (NA MA PA TA EA : Option Addr) (nc mc pc tc ec : Nat), nv = .slice NA ns.length nc ∧ mv = .slice MA ms.length mc ∧ pv = .slice PA ps.length pc ∧ tv = .slice TA bn tc ∧ ev = .slice EA mg.length ec := by
 obtain ⟨NA, nc, rfl, -, -, -, -⟩ := own_form h.d.n
 obtain ⟨MA, mc, rfl, -, -, -, -⟩ := own_form h.d.m
 obtain ⟨PA, pc, rfl, -, -, -, -⟩ := own_form h.x.p
 obtain ⟨bs, hbs⟩ := h.x.t
 obtain ⟨TA, tc, rfl, -, -, -, -⟩ := own_form hbs
 obtain ⟨EA, ec, rfl, -, -, -, -⟩ := own_form h.x.m.row
 exact ⟨NA, MA, PA, TA, EA, nc, mc, pc, tc, ec, rfl, rfl, rfl, rfl, rfl⟩
section
variable (base : Nat) (nv mv pv tv ev : Value) (ns : List Nd) (ms : List Mr) (ps : List Pe) (bn : Nat) (mg : List Mg) (w : World)
theorem fits11_any (t : Int) (KA : Option Addr) (kn kc : Nat) (kl : List Int) (h : Sc w base nv mv pv tv ev ns ms ps bn mg) (hk : Rd w w.heap.size 1 KA kn (is kl)) (hkn : kn ≤ 1000000) : Calls Tryz.prog 201 #[.agg #[nv, mv, pv, tv, ev], .int .i64 t, .slice KA kn kc] w (AnyB w) := by
 obtain ⟨NA, MA, PA, TA, EA, nc, mc, pc, tc, ec, rfl, rfl, rfl, rfl, rfl⟩ := h.form
 have hth := fun W (hb : Below w.heap.size w W) => there_any base _ _ ns ms PA TA EA ps.length pc bn tc mg.length ec W t (h.d.below hb)
 have hnd := fun (k : Nat) (p : Nd) (hp : ns[k]? = some p) W (hb : Below w.heap.size w W) => node11_any base _ _ ns ms PA TA EA ps.length pc bn tc mg.length ec W k p hp (h.d.below hb)
 have hfm := fun p (hp : p ∈ ns) => h.d.ni p hp
 have hnt := fun (k : Nat) (hk : k < ns.length) W (hb : Below w.heap.size w W) => net11_any base _ _ _ _ _ ns ms ps bn mg W k hk (h.below hb)
 have HTH := Lib.hid hth
 have HND := Lib.hid hnd
 have HFM := Lib.hid hfm
 have HNT := Lib.hid hnt
 have HK := Lib.hid hk
 clear hth hnd hfm hnt h hk
 by_cases h0 : t = 0
 ·subst h0
  go_enter Tryz.func201, Tryz.ntmps201
  go_wp2
  go_ret
  exact ⟨⟨_, rfl⟩, belowA⟩
 have e0 : (t == 0) = false := beq_false_of_ne h0
 by_cases hin : 1 ≤ t ∧ t ≤ ns.length
 ·obtain ⟨k, rfl⟩ : ∃ k : Nat, t = (k : Int) + 1 := ⟨(t - 1).toNat, by omega⟩
  obtain ⟨p, hp⟩ : ∃ p, ns[k]? = some p := ⟨_, List.getElem?_eq_getElem (by omega)⟩
  have hkl : k < ns.length := by omega
  have HP := Lib.hid hp
  have hpi := HFM.out p (List.mem_of_getElem? hp)
  obtain ⟨nm, gv, gs, il, pk, lf, at_, all, mk, ml, ex⟩ := p
  obtain ⟨Ag, cg, eg, -, -, -, -⟩ := own_form hpi.g
  obtain ⟨Ak, ck, ek, -, -, -, -⟩ := own_form hpi.m
  dsimp only at eg ek
  subst eg
  subst ek
  clear hpi
  have HT := Lib.hid (show decide (1 ≤ (k : Int) + 1 ∧ (k : Int) + 1 ≤ ns.length) = true from decide_eq_true hin)
  clear hp h0
  go_enter Tryz.func201, Tryz.ntmps201
  go_upto_region 1 with fail
  have ks : Bk (w.alloc (.cells #[.slice NA ns.length nc, .slice MA ms.length mc, .slice PA ps.length pc, .slice TA bn tc, .slice EA mg.length ec] 32)) w.heap.size 32 #[.slice NA ns.length nc, .slice MA ms.length mc, .slice PA ps.length pc, .slice TA bn tc, .slice EA mg.length ec] := Bk.new w _ _
  have hb0 : Below w.heap.size w (w.alloc (.cells #[.slice NA ns.length nc, .slice MA ms.length mc, .slice PA ps.length pc, .slice TA bn tc, .slice EA mg.length ec] 32)) := belowA
  generalize w.alloc (.cells #[.slice NA ns.length nc, .slice MA ms.length mc, .slice PA ps.length pc, .slice TA bn tc, .slice EA mg.length ec] 32) = w0 at *
  obtain ⟨s0, s1, s2, s3, s4⟩ := bk5 ks
  go_wp2_with (go_at_call 152; fail)
  refine (HTH.out w0 hb0).mono ?_
  rw [HT.out]
  rintro e w1 ⟨rfl, hb1⟩
  have hb01 := hb0.trans (hb1.mono hb0.size)
  have ks1 := ks.ext hb1
  clear s0 s1 s2 s3 s4
  obtain ⟨s0, s1, s2, s3, s4⟩ := bk5 ks1
  go_wp2_with (go_at_call 153; fail)
  refine (HND.out k _ HP.out w1 hb01).mono ?_
  rintro e w2 ⟨rfl, hb2⟩
  dsimp only [Nd.arr]
  have hb02 := hb01.trans (hb2.mono hb01.size)
  have ks2 := ks1.ext hb2
  clear s0 s1 s2 s3 s4
  obtain ⟨s0, s1, s2, s3, s4⟩ := bk5 ks2
  cases lf with
  | true =>
    go_wp2
    go_ret
    exact ⟨⟨_, rfl⟩, hb02⟩
  | false =>
    go_wp2_with (go_at_call 152; fail)
    refine (HTH.out w2 hb02).mono ?_
    rw [HT.out]
    rintro e w3 ⟨rfl, hb3⟩
    have hb03 := hb02.trans (hb3.mono hb02.size)
    have ks3 := ks2.ext hb3
    clear s0 s1 s2 s3 s4
    obtain ⟨s0, s1, s2, s3, s4⟩ := bk5 ks3
    go_wp2_with (go_at_call 224; fail)
    refine (HNT.out k hkl w3 hb03).mono ?_
    rintro e w4 ⟨m, on, bh, f, e, em, rfl, hm, hV, hb4⟩
    have hb04 := hb03.trans (hb4.mono hb03.size)
    have hgo := Lib.hid (goes_any w3.heap.size m on bh f e em KA kn kc kl w4 hV hm ((HK.out.below hb04).more hb04.size) hkn)
    clear hV s0 s1 s2 s3 s4
    go_wp2_with (go_at_call 225; fail)
    refine hgo.out.mono ?_
    rintro e w5 ⟨⟨b, rfl⟩, hb5⟩
    go_wp2
    go_ret
    exact ⟨⟨_, rfl⟩, hb04.trans (hb5.mono hb04.size)⟩
 ·have HT := Lib.hid (show decide (1 ≤ t ∧ t ≤ ns.length) = false from decide_eq_false hin)
  clear hin h0
  go_enter Tryz.func201, Tryz.ntmps201
  go_upto_region 1 with fail
  have ks : Bk (w.alloc (.cells #[.slice NA ns.length nc, .slice MA ms.length mc, .slice PA ps.length pc, .slice TA bn tc, .slice EA mg.length ec] 32)) w.heap.size 32 #[.slice NA ns.length nc, .slice MA ms.length mc, .slice PA ps.length pc, .slice TA bn tc, .slice EA mg.length ec] := Bk.new w _ _
  have hb0 : Below w.heap.size w (w.alloc (.cells #[.slice NA ns.length nc, .slice MA ms.length mc, .slice PA ps.length pc, .slice TA bn tc, .slice EA mg.length ec] 32)) := belowA
  generalize w.alloc (.cells #[.slice NA ns.length nc, .slice MA ms.length mc, .slice PA ps.length pc, .slice TA bn tc, .slice EA mg.length ec] 32) = w0 at *
  obtain ⟨s0, s1, s2, s3, s4⟩ := bk5 ks
  go_wp2_with (go_at_call 152; fail)
  refine (HTH.out w0 hb0).mono ?_
  rw [HT.out]
  rintro e w1 ⟨rfl, hb1⟩
  have hb01 := hb0.trans (hb1.mono hb0.size)
  have ks1 := ks.ext hb1
  clear s0 s1 s2 s3 s4
  obtain ⟨s0, s1, s2, s3, s4⟩ := bk5 ks1
  go_wp2_with (go_at_call 152; fail)
  refine (HTH.out w1 hb01).mono ?_
  rw [HT.out]
  rintro e w2 ⟨rfl, hb2⟩
  go_wp2
  go_ret
  exact ⟨⟨_, rfl⟩, hb01.trans (hb2.mono hb01.size)⟩
end
section
variable (base : Nat) (nv mv pv tv ev : Value) (ns : List Nd) (ms : List Mr) (ps : List Pe) (bn : Nat) (mg : List Mg) (w : World)
theorem node17_any (t : Int) (A : Option Addr) (n c : Nat) (l : List Tok) (h : Sc w base nv mv pv tv ev ns ms ps bn mg) (hr : Rd w w.heap.size 12 A n (toks l)) (hn : n ≤ 100000) (hw : Wh l) : Calls Tryz.prog 163 #[.agg #[nv, mv, pv, tv, ev], .int .i64 t, .slice A n c] w (AnyI w) := by
 obtain ⟨NA, MA, PA, TA, EA, nc, mc, pc, tc, ec, rfl, rfl, rfl, rfl, rfl⟩ := h.form
 have hlt := hr.tlen
 have hfi := fun (KA : Option Addr) (kn kc : Nat) (kl : List Int) W (hb : Below w.heap.size w W) (hk : Rd W W.heap.size 1 KA kn (is kl)) (hkn : kn ≤ 1000000) => fits11_any base _ _ _ _ _ ns ms ps bn mg W t KA kn kc kl (h.below hb) hk hkn
 have hwi := fun a0 a1 a2 a3 a4 a5 a6 a7 W (hb : Below w.heap.size w W) => within12_any base _ _ ns ms PA TA EA ps.length pc bn tc mg.length ec W t a0 a1 a2 a3 a4 a5 a6 a7 (h.d.below hb)
 have hk7 := fun W (hb : Below w.heap.size w W) => kids17_any A n c l W ((hr.below hb).more hb.size) hn hw
 have hk4 := fun W (hb : Below w.heap.size w W) => kids14_any A n c l W ((hr.below hb).more hb.size) hn hw
 have HFI := Lib.hid hfi
 have HWI := Lib.hid hwi
 have HK7 := Lib.hid hk7
 have HK4 := Lib.hid hk4
 have H := Lib.hid hr
 have HL := Lib.hid hlt
 clear hfi hwi hk7 hk4 hr h hw hlt
 go_enter Tryz.func163, Tryz.ntmps163
 go_upto_region 1 with fail
 have ks := Bk.new w 32 #[.slice NA ns.length nc, .slice MA ms.length mc, .slice PA ps.length pc, .slice TA bn tc, .slice EA mg.length ec]
 have hb0 : Below w.heap.size w (w.alloc (.cells #[.slice NA ns.length nc, .slice MA ms.length mc, .slice PA ps.length pc, .slice TA bn tc, .slice EA mg.length ec] 32)) := belowA
 generalize w.alloc (.cells #[.slice NA ns.length nc, .slice MA ms.length mc, .slice PA ps.length pc, .slice TA bn tc, .slice EA mg.length ec] 32) = w0 at *
 have hF : ∀ W, (Below w.heap.size w W ∧ Bk W w.heap.size 32 #[.slice NA ns.length nc, .slice MA ms.length mc, .slice PA ps.length pc, .slice TA bn tc, .slice EA mg.length ec]) → W.cell? ⟨w.heap.size, 0, none⟩ = some (.slice NA ns.length nc) ∧ W.cell? ⟨w.heap.size, 1, none⟩ = some (.slice MA ms.length mc) ∧ W.cell? ⟨w.heap.size, 2, none⟩ = some (.slice PA ps.length pc) ∧ W.cell? ⟨w.heap.size, 3, none⟩ = some (.slice TA bn tc) ∧ W.cell? ⟨w.heap.size, 4, none⟩ = some (.slice EA mg.length ec) := fun W h => bk5 h.2
 have HF := Lib.hid hF
 clear hF
 refine wp_normal ?_
 refine wp_region_held_drew (S := fun W => Below w.heap.size w W ∧ Bk W w.heap.size 32 #[.slice NA ns.length nc, .slice MA ms.length mc, .slice PA ps.length pc, .slice TA bn tc, .slice EA mg.length ec]) (by kernel_rfl) ⟨hb0.drew, ks.drew⟩ (fun hHeld => ?_)
 (refine tkH 0 ?_; refine tkH 1 ?_; refine tkH 2 ?_)
 refine nxH 3 (fun K hK => ?_)
 go_simp
 go_at_call 202
 refine (HK7.out _ hHeld.1).mono ?_
 rintro e w5 ⟨KA, kc, kl, rfl, hko, hkl, hb5⟩
 obtain ⟨KA', kc', le, -, -, -, hkr⟩ := own_form hko
 injection le with le1 le2 le3
 rw [← le1] at hkr
 have hkl2 : kl.length ≤ 100000 := by rw [HL.out] at hkl; omega
 have HKR := Lib.hid hkr
 clear hko le1 le2 le3 hkr hkl
 have hb05 := hHeld.1.trans (hb5.mono hHeld.1.size)
 refine hK.out _ _ ⟨hb05, hHeld.2.ext hb5⟩ (fun hHeld => ?_)
 clear hK K; refine puH ?_
 refine nxH 4 (fun K hK => ?_)
 go_simp
 go_at_call 201
 refine (HFI.out KA kl.length kc kl _ hHeld.1 HKR.out (by omega)).mono ?_
 rintro e w6 ⟨⟨b6, rfl⟩, hb6⟩
 refine hK.out _ _ ⟨hHeld.1.trans (hb6.mono hHeld.1.size), hHeld.2.ext hb6⟩ (fun hHeld => ?_)
 clear hK K; refine puH ?_
 (refine tkH 5 ?_)
 refine wpAnyH_done (by kernel_rfl) ?_ _
 clear hb05 hb5 hb6 HKR hkl2
 cases b6 with
 | false =>
   go_wp2
   go_ret
   exact ⟨⟨_, rfl⟩, hHeld.1⟩
 | true =>
   simp only [Bool.not_true]
   obtain ⟨hbo, kso⟩ := hHeld
   go_wp2_with (go_at_call 203; fail)
   refine (HK4.out _ hbo).mono ?_
   rintro e w7 ⟨KA, kc, prl, rfl, hko, hps, hpl, hb7⟩
   obtain ⟨KA', kc', le, -, -, -, hkr⟩ := own_form hko
   injection le with le1 le2 le3
   rw [← le1] at hkr
   obtain ⟨kn, hkn⟩ : ∃ kn, kn = prl.length := ⟨_, rfl⟩
   rw [← hkn] at hkr hpl ⊢
   have HKR := Lib.hid hkr
   have HPS := Lib.hid hps
   rw [HL.out] at hpl
   have hbo7 := hbo.trans (hb7.mono hbo.size)
   have ks7 := kso.ext hb7
   clear hko le1 le2 le3 hkr hps hkn hbo kso hb7 KA' kc'
   go_wp2
   go_loopw [8] (fun j wr => ∃ k : Nat, k ≤ kn ∧ j = .int .i64 k ∧ Below w7.heap.size w7 wr ∧ Bk wr w.heap.size 32 #[.slice NA ns.length nc, .slice MA ms.length mc, .slice PA ps.length pc, .slice TA bn tc, .slice EA mg.length ec]) (fun j _ => kn - (intOf j).toNat)
   case atStart => exact ⟨0, by omega, rfl, Below.refl _ _, ks7⟩
   case round =>
    clear ks7
    obtain ⟨k, hk, rfl, hbr, ksr⟩ := hrel
    have hbw : Below w.heap.size w wr := hbo7.trans (hbr.mono hbo7.size)
    by_cases hlt : k < kn
    ·have e3 : (k : Int) < kn := by omega
     obtain ⟨kb, ko, p, hp, rfl, hkb, hpc, -⟩ := pr_at ((HKR.out.below hbr).more hbr.size) hlt
     have hpn : p.1 < n := by have := HPS.out p (List.mem_of_getElem? hp); rw [HL.out] at this; exact this
     obtain ⟨pq, pe⟩ := p
     dsimp only at hpc hpn
     obtain ⟨tb, tq, tk, htk, rfl, htb, htc⟩ := tok_at ((H.out.below hbw).more hbw.size) hpn
     obtain ⟨k0, t0, a0, r0, m0, m1, m2, m3, m4, m5, m6, m7⟩ := tk
     obtain ⟨q0, q1, q2, q3, q4, q5, q6, q7, q8, q9, q10, q11⟩ := tok12 htc
     have e4 : (pq : Int) < n := by omega
     have e5 : (0 : Int) ≤ pq := by omega
     clear hp htk htc
     go_upto_region 8 with fail
     have kt := Bk.new wr 126 (tokA k0 t0 a0 r0 m0 m1 m2 m3 m4 m5 m6 m7)
     have hba : Below wr.heap.size wr (wr.alloc (.cells (tokA k0 t0 a0 r0 m0 m1 m2 m3 m4 m5 m6 m7) 126)) := belowA
     generalize wr.alloc (.cells (tokA k0 t0 a0 r0 m0 m1 m2 m3 m4 m5 m6 m7) 126) = w2 at *
     have hb2 := hbr.trans (hba.mono hbr.size)
     have hb02 := hbw.trans (hba.mono hbw.size)
     have ks2 := ksr.ext hba
     clear q0 q1 q2 q3 q4 q5 q6 q7 q8 q9 q10 q11 hpc
     obtain ⟨q0, q1, q2, q3, q4, q5, q6, q7, q8, q9, q10, q11⟩ := bk12 kt
     obtain ⟨s0, s1, s2, s3, s4⟩ := bk5 ks2
     by_cases hk2 : 2 < k0
     ·go_wp2_with (go_at_call 204; fail)
      refine (HWI.out m0 m1 m2 m3 m4 m5 m6 m7 _ hb02).mono ?_
      rintro e w4 ⟨⟨b4, rfl⟩, hb4⟩
      cases b4 with
      | true =>
        go_wp2
        go_roundw
        case rel => exact ⟨k + 1, by omega, by go_num, hb2.trans (hb4.mono hb2.size), ks2.ext hb4⟩
        case measure => simp [intOf]; omega
      | false =>
        go_wp2
        go_ret
        exact ⟨⟨_, rfl⟩, hb02.trans (hb4.mono hb02.size)⟩
     ·go_wp2
      go_roundw
      case rel => exact ⟨k + 1, by omega, by go_num, hb2, ks2⟩
      case measure => simp [intOf]; omega
    ·obtain rfl : k = kn := by omega
     go_wp2
     go_ret
     exact ⟨⟨_, rfl⟩, hbw⟩
end
section
variable (base : Nat) (nv mv : Value) (ns : List Nd) (ms : List Mr) (PA TA EA : Option Addr) (pn pc tn tc en ec : Nat) (w : World)
theorem wrong13_any (A : Option Addr) (n c : Nat) (l : List Tok) (hD : DeclIn w base nv mv ns ms) (hr : Rd w w.heap.size 12 A n (toks l)) (hn : n ≤ 100000) : Calls Tryz.prog 108 #[.agg #[nv, mv, .slice PA pn pc, .slice TA tn tc, .slice EA en ec], .slice A n c] w (AnyI w) := by
 obtain ⟨NA, nc, rfl, -, -, -, -⟩ := own_form hD.n
 obtain ⟨MA, mc, rfl, -, -, -, -⟩ := own_form hD.m
 have hrt := fun k t a r m0 m1 m2 m3 m4 m5 m6 m7 W (hb : Below w.heap.size w W) => right13_any base _ _ ns ms PA TA EA pn pc tn tc en ec W k t a r m0 m1 m2 m3 m4 m5 m6 m7 (hD.below hb)
 have HRT := Lib.hid hrt
 have H := Lib.hid hr
 clear hrt hr hD
 go_enter Tryz.func108, Tryz.ntmps108
 go_upto_region 1 with fail
 have ks : Bk (w.alloc (.cells #[.slice NA ns.length nc, .slice MA ms.length mc, .slice PA pn pc, .slice TA tn tc, .slice EA en ec] 32)) w.heap.size 32 #[.slice NA ns.length nc, .slice MA ms.length mc, .slice PA pn pc, .slice TA tn tc, .slice EA en ec] := Bk.new w _ _
 have hb0 : Below w.heap.size w (w.alloc (.cells #[.slice NA ns.length nc, .slice MA ms.length mc, .slice PA pn pc, .slice TA tn tc, .slice EA en ec] 32)) := belowA
 generalize w.alloc (.cells #[.slice NA ns.length nc, .slice MA ms.length mc, .slice PA pn pc, .slice TA tn tc, .slice EA en ec] 32) = w0 at *
 go_wp2
 go_loopw [5] (fun j wr => ∃ k : Nat, k ≤ n ∧ j = .int .i64 k ∧ Below w.heap.size w wr ∧ Bk wr w.heap.size 32 #[.slice NA ns.length nc, .slice MA ms.length mc, .slice PA pn pc, .slice TA tn tc, .slice EA en ec]) (fun j _ => n - (intOf j).toNat)
 case atStart => exact ⟨0, by omega, rfl, hb0, ks⟩
 case round =>
  clear hb0 ks
  obtain ⟨k, hk, rfl, hbo, kso⟩ := hrel
  by_cases hlt : k < n
  ·have e3 : (k : Int) < n := by omega
   obtain ⟨tb, tq, tk, -, rfl, htb, htc⟩ := tok_at H.out hlt
   obtain ⟨k0, t0, a0, r0, m0, m1, m2, m3, m4, m5, m6, m7⟩ := tk
   have hF : ∀ W, (Below w.heap.size w W ∧ Bk W w.heap.size 32 #[.slice NA ns.length nc, .slice MA ms.length mc, .slice PA pn pc, .slice TA tn tc, .slice EA en ec]) → (W.cell? ⟨w.heap.size, 0, none⟩ = some (.slice NA ns.length nc) ∧ W.cell? ⟨w.heap.size, 1, none⟩ = some (.slice MA ms.length mc) ∧ W.cell? ⟨w.heap.size, 2, none⟩ = some (.slice PA pn pc) ∧ W.cell? ⟨w.heap.size, 3, none⟩ = some (.slice TA tn tc) ∧ W.cell? ⟨w.heap.size, 4, none⟩ = some (.slice EA en ec)) ∧ _ := fun W h => ⟨bk5 h.2, tok12 (fun i hi => (h.1.cell (p := ⟨tb, tq + k * 12 + i, none⟩) htb).trans (htc i hi))⟩
   have HF := Lib.hid hF
   clear hF htc
   go_upto_region 4 with fail
   refine wp_normal ?_
   refine wp_region_held_drew (S := fun W => Below w.heap.size w W ∧ Bk W w.heap.size 32 #[.slice NA ns.length nc, .slice MA ms.length mc, .slice PA pn pc, .slice TA tn tc, .slice EA en ec]) (by kernel_rfl) ⟨hbo.drew, kso.drew⟩ (fun hHeld => ?_)
   (refine tkH 0 ?_; refine tkH 1 ?_; refine tkH 2 ?_; refine tkH 3 ?_; refine tkH 4 ?_)
   refine nxH 5 (fun K hK => ?_)
   go_simp
   go_at_call 158
   refine (HRT.out k0 t0 a0 r0 m0 m1 m2 m3 m4 m5 m6 m7 _ hHeld.1).mono ?_
   rintro e w1 ⟨⟨b1, rfl⟩, hb1⟩
   refine hK.out _ _ ⟨hHeld.1.trans (hb1.mono hHeld.1.size), hHeld.2.ext hb1⟩ (fun hHeld => ?_)
   clear hK K; refine puH ?_
   (refine tkH 6 ?_)
   refine wpAnyH_done (by kernel_rfl) ?_ _
   cases b1 with
   | true =>
     go_wp2
     go_roundw
     case rel => exact ⟨k + 1, by omega, by go_num, hHeld.1, hHeld.2⟩
     case measure => simp [intOf]; omega
   | false =>
     go_wp2
     go_ret
     exact ⟨⟨_, rfl⟩, hHeld.1⟩
  ·obtain rfl : k = n := by omega
   go_wp2
   go_ret
   exact ⟨⟨_, rfl⟩, hbo⟩
/-- a row has a tree: then it is whole, and not too long -/
def BuildOut14 (n : Nat) (l : List Tok) (w : World) (e : Ending) (w' : World) : Prop := ∃ er : Int, e = .returned (.int .i64 er) ∧ (er = 0 → n ≤ 20000 ∧ Wh l) ∧ Below w.heap.size w w'
theorem build14_any (A : Option Addr) (n c : Nat) (l : List Tok) (hD : DeclIn w base nv mv ns ms) (hr : Rd w w.heap.size 12 A n (toks l)) (hn : n ≤ 100000) : Calls Tryz.prog 116 #[.agg #[nv, mv, .slice PA pn pc, .slice TA tn tc, .slice EA en ec], .slice A n c] w (BuildOut14 n l w) := by
 obtain ⟨NA, nc, rfl, -, -, -, -⟩ := own_form hD.n
 obtain ⟨MA, mc, rfl, -, -, -, -⟩ := own_form hD.m
 have hwr := fun W (hb : Below w.heap.size w W) => wrong13_any base _ _ ns ms PA TA EA pn pc tn tc en ec W A n c l (hD.below hb) ((hr.below hb).more hb.size) hn
 have hwh := fun W (hb : Below w.heap.size w W) => whole14_any A n c l W ((hr.below hb).more hb.size) hn
 have HWR := Lib.hid hwr
 have HWH := Lib.hid hwh
 clear hwr hwh hr hD
 go_enter Tryz.func116, Tryz.ntmps116
 go_upto_region 1 with fail
 have ks : Bk (w.alloc (.cells #[.slice NA ns.length nc, .slice MA ms.length mc, .slice PA pn pc, .slice TA tn tc, .slice EA en ec] 32)) w.heap.size 32 #[.slice NA ns.length nc, .slice MA ms.length mc, .slice PA pn pc, .slice TA tn tc, .slice EA en ec] := Bk.new w _ _
 have hb0 : Below w.heap.size w (w.alloc (.cells #[.slice NA ns.length nc, .slice MA ms.length mc, .slice PA pn pc, .slice TA tn tc, .slice EA en ec] 32)) := belowA
 generalize w.alloc (.cells #[.slice NA ns.length nc, .slice MA ms.length mc, .slice PA pn pc, .slice TA tn tc, .slice EA en ec] 32) = w0 at *
 obtain ⟨s0, s1, s2, s3, s4⟩ := bk5 ks
 by_cases hbig : 20000 < n
 ·have e3 : (20000 : Int) < n := by omega
  go_wp2
  go_ret
  exact ⟨_, rfl, (fun h => by omega), hb0⟩
 have e3 : ¬ (20000 : Int) < n := by omega
 go_wp2_with (go_at_call 108; fail)
 refine (HWR.out _ hb0).mono ?_
 rintro e w1 ⟨⟨v, rfl⟩, hb1⟩
 have hb01 := hb0.trans (hb1.mono hb0.size)
 by_cases hv : 0 ≤ v
 ·go_wp2
  go_ret
  exact ⟨_, rfl, (fun h => by omega), hb01⟩
 go_wp2_with (go_at_call 162; fail)
 refine (HWH.out _ hb01).mono ?_
 rintro e w2 ⟨b, rfl, hw, hb2⟩
 have HW := Lib.hid hw
 clear hw
 cases b with
 | true =>
   go_wp2
   go_ret
   exact ⟨_, rfl, (fun _ => ⟨by omega, HW.out (by simp)⟩), hb01.trans (hb2.mono hb01.size)⟩
 | false =>
   go_wp2
   go_ret
   exact ⟨_, rfl, (fun h => by omega), hb01.trans (hb2.mono hb01.size)⟩
end
section
variable (base : Nat) (nv mv pv tv ev : Value) (ns : List Nd) (ms : List Mr) (ps : List Pe) (bn : Nat) (mg : List Mg) (w : World)
def AnyII (w : World) (e : Ending) (w' : World) : Prop := (∃ x y : Int, e = .returned (.tuple #[.int .i64 x, .int .i64 y])) ∧ Below w.heap.size w w'
theorem tree17_any (A : Option Addr) (n c : Nat) (l : List Tok) (h : Sc w base nv mv pv tv ev ns ms ps bn mg) (hr : Rd w w.heap.size 12 A n (toks l)) (hn : n ≤ 20000) (hnc : n ≤ c) (hw : Wh l) : Calls Tryz.prog 117 #[.agg #[nv, mv, pv, tv, ev], .slice A n c] w (AnyII w) := by
 obtain ⟨NA, MA, PA, TA, EA, nc, mc, pc, tc, ec, rfl, rfl, rfl, rfl, rfl⟩ := h.form
 have hl := hr.tlen
 have hnd := fun (t : Int) (A' : Option Addr) (n' c' : Nat) (l' : List Tok) W (hb : Below w.heap.size w W) (hr' : Rd W W.heap.size 12 A' n' (toks l')) (hn' : n' ≤ 100000) (hw' : Wh l') => node17_any base _ _ _ _ _ ns ms ps bn mg W t A' n' c' l' (h.below hb) hr' hn' hw'
 have hsh := fun (a : Nat) (ha : a < n) W (hb : Below w.heap.size w W) => shut14_any A n c a l W ((hr.below hb).more hb.size) (by omega) ha
 have HND := Lib.hid hnd
 have HSH := Lib.hid hsh
 have H := Lib.hid hr
 have HW := Lib.hid hw
 have HL := Lib.hid hl
 clear hnd hsh hr h hw hl
 go_enter Tryz.func117, Tryz.ntmps117
 go_upto_region 1 with fail
 have ks := Bk.new w 32 #[.slice NA ns.length nc, .slice MA ms.length mc, .slice PA ps.length pc, .slice TA bn tc, .slice EA mg.length ec]
 have hb0 : Below w.heap.size w (w.alloc (.cells #[.slice NA ns.length nc, .slice MA ms.length mc, .slice PA ps.length pc, .slice TA bn tc, .slice EA mg.length ec] 32)) := belowA
 generalize w.alloc (.cells #[.slice NA ns.length nc, .slice MA ms.length mc, .slice PA ps.length pc, .slice TA bn tc, .slice EA mg.length ec] 32) = w0 at *
 obtain ⟨s0, s1, s2, s3, s4⟩ := bk5 ks
 go_wp2_with (go_at_call 163; fail)
 refine (HND.out 1 A n c l _ hb0 ((H.out.below hb0).more hb0.size) (by omega) HW.out).mono ?_
 rintro e w1 ⟨⟨v, rfl⟩, hb1⟩
 have hb01 := hb0.trans (hb1.mono hb0.size)
 have ks1 := ks.ext hb1
 clear s0 s1 s2 s3 s4 hb0 ks hb1
 by_cases hv : v = 0
 ·have e1 : (v != 0) = false := by simp [hv]
  clear hv
  go_wp2
  go_loopw [7] (fun j wr => ∃ k : Nat, k ≤ n ∧ j = .int .i64 k ∧ Below w.heap.size w wr ∧ Bk wr w.heap.size 32 #[.slice NA ns.length nc, .slice MA ms.length mc, .slice PA ps.length pc, .slice TA bn tc, .slice EA mg.length ec]) (fun j _ => n - (intOf j).toNat)
  case atStart => exact ⟨0, by omega, rfl, hb01, ks1⟩
  case round =>
   clear hb01 ks1
   obtain ⟨k, hk, rfl, hbo, kso⟩ := hrel
   by_cases hlt : k < n
   ·have e3 : (k : Int) < n := by omega
    have e3' : (0 : Int) ≤ k := by omega
    obtain ⟨tb, tq, tk, htk, rfl, htb, htc⟩ := tok_at H.out hlt
    have hwi := fun (r : Int) (hk1 : tk.k = 1) (hs : ShutIs l k r) => HW.out.within htk hk1 hs
    have HWI := Lib.hid hwi
    have d0 : w.cell? ⟨tb, tq + k * 12, none⟩ = some (.int .i64 tk.k) := htc 0 (by omega)
    have d1 : w.cell? ⟨tb, tq + k * 12 + 1, none⟩ = some (.int .i64 tk.t) := htc 1 (by omega)
    generalize tk.k = k0 at *
    generalize tk.t = t0 at *
    have HD1 := Lib.hid d1
    have c0 := (hbo.cell (p := ⟨tb, tq + k * 12, none⟩) htb).trans d0
    clear hwi htk htc d0 d1
    by_cases hk1 : k0 = 1
    ·have e4 : (k0 != 1) = false := by simp [hk1]
     have HK1 := Lib.hid hk1
     clear hk1
     have hF : ∀ W, (Below w.heap.size w W ∧ Bk W w.heap.size 32 #[.slice NA ns.length nc, .slice MA ms.length mc, .slice PA ps.length pc, .slice TA bn tc, .slice EA mg.length ec]) → (W.cell? ⟨w.heap.size, 0, none⟩ = some (.slice NA ns.length nc) ∧ W.cell? ⟨w.heap.size, 1, none⟩ = some (.slice MA ms.length mc) ∧ W.cell? ⟨w.heap.size, 2, none⟩ = some (.slice PA ps.length pc) ∧ W.cell? ⟨w.heap.size, 3, none⟩ = some (.slice TA bn tc) ∧ W.cell? ⟨w.heap.size, 4, none⟩ = some (.slice EA mg.length ec)) ∧ W.cell? ⟨tb, tq + k * 12 + 1, none⟩ = some (.int .i64 t0) := fun W h => ⟨bk5 h.2, (h.1.cell (p := ⟨tb, tq + k * 12 + 1, none⟩) htb).trans HD1.out⟩
     have HF := Lib.hid hF
     have hwr : IntKind.i64.wrap ((k : Int) + 1) = (k : Int) + 1 := by rw [IntKind.wrap_i64]; omega
     clear hF
     go_upto_region 8 with fail
     refine wp_normal ?_
     refine wp_region_held_drew (S := fun W => Below w.heap.size w W ∧ Bk W w.heap.size 32 #[.slice NA ns.length nc, .slice MA ms.length mc, .slice PA ps.length pc, .slice TA bn tc, .slice EA mg.length ec]) (by kernel_rfl) ⟨hbo.drew, kso.drew⟩ (fun hHeld => ?_)
     (refine tkH 0 ?_; refine tkH 1 ?_; refine tkH 2 ?_; refine tkH 3 ?_; refine tkH 4 ?_; refine tkH 5 ?_; refine tkH 6 ?_; refine tkH 7 ?_; refine tkH 8 ?_; refine tkH 9 ?_; refine tkH 10 ?_)
     refine nxH 11 (fun K hK => ?_)
     go_simp
     go_at_call 164
     refine (HSH.out k hlt _ hHeld.1).mono ?_
     rintro e w2 ⟨r, rfl, -, -, hs, hb2⟩
     obtain ⟨q, rfl, hq1, hq2, hwq⟩ := HWI.out _ HK1.out hs
     have hqn : q < n := by rw [HL.out] at hq2; exact hq2
     have q0 : (0 : Int) ≤ q := by omega
     have q1 : (q : Int) < n := by omega
     have q2 : (k : Int) + 1 ≤ q := by omega
     have q3 : (q : Int) ≤ c := by omega
     have HWQ := Lib.hid hwq
     clear hs hq2 hwq
     refine hK.out _ _ ⟨hHeld.1.trans (hb2.mono hHeld.1.size), hHeld.2.ext hb2⟩ (fun hHeld => ?_)
     clear hK K; refine puH ?_
     (refine tkH 12 ?_)
     have hcut : ∀ W, Below w.heap.size w W → Rd W W.heap.size 12 (if c = k + 1 then (some ⟨tb, tq, none⟩ : Option Addr) else some ⟨tb, tq + (k + 1) * 12, none⟩) (q - (k + 1)) (toks ((l.drop (k + 1)).take (q - (k + 1)))) := fun W hb => by
      by_cases hc : c = k + 1
      ·have h0 : q - (k + 1) = 0 := by omega
       rw [h0, List.take_zero]
       exact Rd.nil_ _ _ _ _
      ·rw [if_neg hc]
       exact (((H.out.below hb).more hb.size).tcut hq1 (Nat.le_of_lt hqn))
     generalize (if c = k + 1 then (some ⟨tb, tq, none⟩ : Option Addr) else some ⟨tb, tq + (k + 1) * 12, none⟩) = AA at *
     have HCUT := Lib.hid hcut
     clear hcut
     refine nxH 13 (fun K hK => ?_)
     go_simp
     go_at_call 163
     refine (HND.out t0 AA (q - (k + 1)) (c - (k + 1)) _ _ hHeld.1 (HCUT.out _ hHeld.1) (by omega) HWQ.out).mono ?_
     rintro e w3 ⟨⟨v3, rfl⟩, hb3⟩
     refine hK.out _ _ ⟨hHeld.1.trans (hb3.mono hHeld.1.size), hHeld.2.ext hb3⟩ (fun hHeld => ?_)
     clear hK K; refine puH ?_
     (refine tkH 14 ?_)
     refine wpAnyH_done (by kernel_rfl) ?_ _
     clear hwr HCUT q0 q1 q2 q3
     by_cases hv3 : v3 = 0
     ·have e5 : (v3 != 0) = false := by simp [hv3]
      clear hv3
      go_wp2
      go_roundw
      case rel => exact ⟨k + 1, by omega, by go_num, hHeld.1, hHeld.2⟩
      case measure => simp [intOf]; omega
     ·have e5 : (v3 != 0) = true := by simp [hv3]
      clear hv3
      go_wp2
      go_ret2
      exact ⟨⟨_, _, rfl⟩, hHeld.1⟩
    ·have e4 : (k0 != 1) = true := by simp [hk1]
     clear hk1
     go_wp2
     go_roundw
     case rel => exact ⟨k + 1, by omega, by go_num, hbo, kso⟩
     case measure => simp [intOf]; omega
   ·obtain rfl : k = n := by omega
    go_wp2
    go_ret2
    exact ⟨⟨_, _, rfl⟩, hbo⟩
 ·have e1 : (v != 0) = true := by simp [hv]
  clear hv
  go_wp2
  go_ret2
  exact ⟨⟨_, _, rfl⟩, hb01⟩
theorem doc17_any (A : Option Addr) (n c : Nat) (l : List Tok) (h : Sc w base nv mv pv tv ev ns ms ps bn mg) (hr : Rd w w.heap.size 12 A n (toks l)) (hn : n ≤ 100000) (hnc : n ≤ c) : Calls Tryz.prog 56 #[.agg #[nv, mv, pv, tv, ev], .slice A n c] w (AnyI w) := by
 obtain ⟨NA, MA, PA, TA, EA, nc, mc, pc, tc, ec, rfl, rfl, rfl, rfl, rfl⟩ := h.form
 have hbd := fun W (hb : Below w.heap.size w W) => build14_any base _ _ ns ms PA TA EA ps.length pc bn tc mg.length ec W A n c l (h.d.below hb) ((hr.below hb).more hb.size) hn
 have htr := fun W (hb : Below w.heap.size w W) (hn' : n ≤ 20000) (hw : Wh l) => tree17_any base _ _ _ _ _ ns ms ps bn mg W A n c l (h.below hb) ((hr.below hb).more hb.size) hn' hnc hw
 have HBD := Lib.hid hbd
 have HTR := Lib.hid htr
 clear hbd htr hr h
 go_enter Tryz.func56, Tryz.ntmps56
 go_upto_region 1 with fail
 have ks := Bk.new w 32 #[.slice NA ns.length nc, .slice MA ms.length mc, .slice PA ps.length pc, .slice TA bn tc, .slice EA mg.length ec]
 have hb0 : Below w.heap.size w (w.alloc (.cells #[.slice NA ns.length nc, .slice MA ms.length mc, .slice PA ps.length pc, .slice TA bn tc, .slice EA mg.length ec] 32)) := belowA
 generalize w.alloc (.cells #[.slice NA ns.length nc, .slice MA ms.length mc, .slice PA ps.length pc, .slice TA bn tc, .slice EA mg.length ec] 32) = w0 at *
 obtain ⟨s0, s1, s2, s3, s4⟩ := bk5 ks
 go_wp2_with (go_at_call 116; fail)
 refine (HBD.out _ hb0).mono ?_
 rintro e w1 ⟨er, rfl, hok, hb1⟩
 have hb01 := hb0.trans (hb1.mono hb0.size)
 have ks1 := ks.ext hb1
 have HOK := Lib.hid hok
 clear s0 s1 s2 s3 s4 hok
 obtain ⟨s0, s1, s2, s3, s4⟩ := bk5 ks1
 by_cases her : er = 0
 ·have e1 : (er != 0) = false := by simp [her]
  obtain ⟨hn2, hw⟩ := HOK.out her
  have HWH := Lib.hid hw
  clear her hw
  go_wp2_with (go_at_call 117; fail)
  refine (HTR.out _ hb01 hn2 HWH.out).mono ?_
  rintro e w2 ⟨⟨x, y, rfl⟩, hb2⟩
  go_wp2
  go_ret
  exact ⟨⟨_, rfl⟩, hb01.trans (hb2.mono hb01.size)⟩
 ·have e1 : (er != 0) = true := by simp [her]
  clear her
  go_wp2
  go_ret
  exact ⟨⟨_, rfl⟩, hb01⟩
end
end Go.Proofs.YtmacfoebfpljoaaGreat
namespace Go.Proofs.YtmacfoebfpljoaaGreat
open Go.RowKit
def eight (k f t g h i m v k2 f2 t2 g2 h2 i2 m2 v2 : Int) : Bool := decide (k = k2 ∧ f = f2 ∧ t = t2 ∧ g = g2 ∧ h = h2 ∧ i = i2 ∧ m = m2 ∧ v = v2)
theorem ssame_any (k f t g h i m v k2 f2 t2 g2 h2 i2 m2 v2 : Int) (A A' A2 A2' : Option Addr) (n n' n2 n2' c c' c2 c2' : Nat) (tb sb : Bool) (w : World)
 (hT : ∀ W, Below w.heap.size w W → Calls Tryz.prog 53 #[.slice A n c, .slice A2 n2 c2] W (On w W (.bool tb)))
 (hS : ∀ W, Below w.heap.size w W → Calls Tryz.prog 143 #[.slice A' n' c', .slice A2' n2' c2'] W (On w W (.bool sb))) :
 Calls Tryz.prog 93 #[.agg #[.int .i64 k, .int .i64 f, .int .i64 t, .int .i64 g, .int .i64 h, .int .i64 i, .int .i64 m, .int .i64 v, .slice A n c, .slice A' n' c'], .agg #[.int .i64 k2, .int .i64 f2, .int .i64 t2, .int .i64 g2, .int .i64 h2, .int .i64 i2, .int .i64 m2, .int .i64 v2, .slice A2 n2 c2, .slice A2' n2' c2']] w fun e w' => e = .returned (.bool (eight k f t g h i m v k2 f2 t2 g2 h2 i2 m2 v2 && tb && sb)) ∧ Below w.heap.size w w' := by
 have HT := Lib.hid hT
 have HS := Lib.hid hS
 clear hT hS
 by_cases e0 : k = k2
 rotate_left
 ·have he : eight k f t g h i m v k2 f2 t2 g2 h2 i2 m2 v2 = false := by
   unfold eight
   exact decide_eq_false (fun hh => e0 hh.1)
  rw [he, Bool.false_and, Bool.false_and]
  clear he HT HS
  go_enter Tryz.func93, Tryz.ntmps93
  go_wp2
  go_ret
  exact ⟨rfl, belowA⟩
 subst e0
 by_cases e1 : f = f2
 rotate_left
 ·have he : eight k f t g h i m v k f2 t2 g2 h2 i2 m2 v2 = false := by
   unfold eight
   exact decide_eq_false (fun hh => e1 hh.2.1)
  rw [he, Bool.false_and, Bool.false_and]
  clear he HT HS
  go_enter Tryz.func93, Tryz.ntmps93
  go_wp2
  go_ret
  exact ⟨rfl, belowA⟩
 subst e1
 by_cases e2 : t = t2
 rotate_left
 ·have he : eight k f t g h i m v k f t2 g2 h2 i2 m2 v2 = false := by
   unfold eight
   exact decide_eq_false (fun hh => e2 hh.2.2.1)
  rw [he, Bool.false_and, Bool.false_and]
  clear he HT HS
  go_enter Tryz.func93, Tryz.ntmps93
  go_wp2
  go_ret
  exact ⟨rfl, belowA⟩
 subst e2
 by_cases e3 : g = g2
 rotate_left
 ·have he : eight k f t g h i m v k f t g2 h2 i2 m2 v2 = false := by
   unfold eight
   exact decide_eq_false (fun hh => e3 hh.2.2.2.1)
  rw [he, Bool.false_and, Bool.false_and]
  clear he HT HS
  go_enter Tryz.func93, Tryz.ntmps93
  go_wp2
  go_ret
  exact ⟨rfl, belowA⟩
 subst e3
 by_cases e4 : h = h2
 rotate_left
 ·have he : eight k f t g h i m v k f t g h2 i2 m2 v2 = false := by
   unfold eight
   exact decide_eq_false (fun hh => e4 hh.2.2.2.2.1)
  rw [he, Bool.false_and, Bool.false_and]
  clear he HT HS
  go_enter Tryz.func93, Tryz.ntmps93
  go_wp2
  go_ret
  exact ⟨rfl, belowA⟩
 subst e4
 by_cases e5 : i = i2
 rotate_left
 ·have he : eight k f t g h i m v k f t g h i2 m2 v2 = false := by
   unfold eight
   exact decide_eq_false (fun hh => e5 hh.2.2.2.2.2.1)
  rw [he, Bool.false_and, Bool.false_and]
  clear he HT HS
  go_enter Tryz.func93, Tryz.ntmps93
  go_wp2
  go_ret
  exact ⟨rfl, belowA⟩
 subst e5
 by_cases e6 : m = m2
 rotate_left
 ·have he : eight k f t g h i m v k f t g h i m2 v2 = false := by
   unfold eight
   exact decide_eq_false (fun hh => e6 hh.2.2.2.2.2.2.1)
  rw [he, Bool.false_and, Bool.false_and]
  clear he HT HS
  go_enter Tryz.func93, Tryz.ntmps93
  go_wp2
  go_ret
  exact ⟨rfl, belowA⟩
 subst e6
 by_cases e7 : v = v2
 rotate_left
 ·have he : eight k f t g h i m v k f t g h i m v2 = false := by
   unfold eight
   exact decide_eq_false (fun hh => e7 hh.2.2.2.2.2.2.2)
  rw [he, Bool.false_and, Bool.false_and]
  clear he HT HS
  go_enter Tryz.func93, Tryz.ntmps93
  go_wp2
  go_ret
  exact ⟨rfl, belowA⟩
 subst e7
 ·have he : eight k f t g h i m v k f t g h i m v = true := by unfold eight; exact decide_eq_true ⟨rfl, rfl, rfl, rfl, rfl, rfl, rfl, rfl⟩
  rw [he, Bool.true_and]
  clear he
  cases tb with
  | false =>
    rw [Bool.false_and]
    clear HS
    go_enter Tryz.func93, Tryz.ntmps93
    go_wp2_with (go_at_call 53; (refine (HT.out _ belowA).mono ?_); rintro e w1 ⟨rfl, hb1, hz1, _⟩)
    go_ret
    exact ⟨rfl, hb1⟩
  | true =>
    rw [Bool.true_and]
    cases sb
    all_goals
     go_enter Tryz.func93, Tryz.ntmps93
     go_wp2_with (first
      | (go_at_call 53; (refine (HT.out _ belowA).mono ?_); rintro e w1 ⟨rfl, hb1, hz1, hx1⟩; have k2 := Bk.ext (b := w.heap.size) (t := 45) (cs := #[.int .i64 k, .int .i64 f, .int .i64 t, .int .i64 g, .int .i64 h, .int .i64 i, .int .i64 m, .int .i64 v, .slice A n c, .slice A' n' c']) ((Bk.new w _ _).alloc _) hx1; have k3 := Bk.ext (b := w.heap.size + 1) (t := 45) (cs := #[.int .i64 k, .int .i64 f, .int .i64 t, .int .i64 g, .int .i64 h, .int .i64 i, .int .i64 m, .int .i64 v, .slice A2 n2 c2, .slice A2' n2' c2']) (Bk.made _ _ (by simp)) hx1; have d2 := k2.cell 9; have d3 := k3.cell 9; have l2 := def_lt' k2; have l3 := def_lt' k3; dsimp at d2 d3)
      | (go_at_call 143; (refine (HS.out _ hb1).mono ?_); rintro e w2 ⟨rfl, hb2, hz2, _⟩))
     go_ret
     exact ⟨rfl, hb2⟩
theorem eqmk_nil (A' : Option Addr) (n' c' : Nat) (w : World) (hn : n' ≤ maxLen) : Calls Tryz.prog 143 #[.slice A' n' c', .slice none 0 0] w fun e w' => e = .returned (.bool (decide (n' = 0))) ∧ Below w.heap.size w w' := by
 have h := eqmk_any A' none n' 0 c' 0 (List.replicate n' default) [] w hn (fun e => by subst e; exact Rd.nil_ _ _ _ _) (fun _ => Rd.nil_ _ _ _ _) (by simp) rfl
 refine h.mono fun e w' ⟨h1, h2⟩ => ⟨?_, h2⟩
 rw [h1]
 refine ret_bool (decide_eq_decide.2 ?_)
 cases n' <;> simp [List.replicate_succ]
theorem tsame_nil (A : Option Addr) (n c : Nat) (w : World) (hn : n ≤ maxLen) : Calls Tryz.prog 53 #[.slice A n c, .slice none 0 0] w fun e w' => e = .returned (.bool (decide (n = 0))) ∧ Below w.heap.size w w' := by
 have h := tsame_any A none n 0 c 0 (List.replicate n default) [] w hn (fun e => by subst e; exact Rd.nil_ _ _ _ _) (fun _ => Rd.nil_ _ _ _ _) (by simp) rfl
 refine h.mono fun e w' ⟨h1, h2⟩ => ⟨?_, h2⟩
 rw [h1]
 refine ret_bool (decide_eq_decide.2 ?_)
 cases n <;> simp [List.replicate_succ]
theorem tsame_self (A : Option Addr) (n c : Nat) (sl : List Tok) (w : World) (hn : n ≤ maxLen) (h : Rd w w.heap.size 12 A n (toks sl)) : Calls Tryz.prog 53 #[.slice A n c, .slice A n c] w fun e w' => e = .returned (.bool true) ∧ Below w.heap.size w w' := by
 have hh := tsame_any A A n n c c sl sl w hn (fun _ => h) (fun _ => h) h.tlen h.tlen
 exact hh.mono fun e w' ⟨h1, h2⟩ => ⟨by rw [h1]; exact ret_bool (decide_eq_true rfl), h2⟩
theorem eqmk_self (A : Option Addr) (n c : Nat) (st : List Mk) (w : World) (hn : n ≤ maxLen) (h : Rd w w.heap.size 8 A n (mks st)) : Calls Tryz.prog 143 #[.slice A n c, .slice A n c] w fun e w' => e = .returned (.bool true) ∧ Below w.heap.size w w' := by
 have hh := eqmk_any A A n n c c st st w hn (fun _ => h) (fun _ => h) h.mlen h.mlen
 exact hh.mono fun e w' ⟨h1, h2⟩ => ⟨by rw [h1]; exact ret_bool (decide_eq_true rfl), h2⟩
def sh1 (g h i m v : Int) (n n' : Nat) : Bool := decide (g = 0 ∧ h = 0 ∧ i = 0 ∧ m = 0 ∧ v = 0 ∧ n' = 0 ∧ n ≤ 20000)
def sh2 (f t g h i m v : Int) (n n' : Nat) : Bool := decide (f ≤ g ∧ g ≤ h ∧ h ≤ t ∧ 0 ≤ i ∧ i ≤ n ∧ n ≤ 20000 ∧ m = 0 ∧ v = 0 ∧ n' = 0)
def sh3 (g h i : Int) (n n' : Nat) : Bool := decide (g = 0 ∧ h = 0 ∧ i = 0 ∧ n = 0 ∧ n' = 0)
def sh5 (f t g h i m v : Int) (n n' : Nat) : Bool := decide (g = 0 ∧ h = 0 ∧ i = 0 ∧ m = 0 ∧ v = 0 ∧ n = 0 ∧ (n' : Int) = t - f ∧ n' ≤ 20000)
theorem shape1_any (k f t g h i m v : Int) (A A' : Option Addr) (n n' c c' : Nat) (w : World) (sl : List Tok) (hn : n ≤ maxLen) (hn' : n' ≤ maxLen) (hrd : Rd w w.heap.size 12 A n (toks sl)) :
 Calls Tryz.prog 256 #[.agg #[.int .i64 k, .int .i64 f, .int .i64 t, .int .i64 g, .int .i64 h, .int .i64 i, .int .i64 m, .int .i64 v, .slice A n c, .slice A' n' c']] w fun e w' => e = .returned (.bool (sh1 g h i m v n n')) ∧ Below w.heap.size w w' := by
 have hs := fun W (hb : Below w.heap.size w W) => ssame_any k f t g h i m v k f t 0 0 0 0 0 A A' A none n n' n 0 c c' c 0 true (decide (n' = 0)) W
  (fun W' hb' => calls_on hb' (tsame_self A n c sl W' hn ((hrd.below (hb.trans (hb'.mono hb.size))).more (Nat.le_trans hb.size hb'.size)))) (fun W' hb' => calls_on hb' (eqmk_nil A' n' c' W' hn'))
 obtain ⟨b, hb⟩ : ∃ b, (eight k f t g h i m v k f t 0 0 0 0 0 && true && decide (n' = 0)) = b := ⟨_, rfl⟩
 rw [hb] at hs
 have hres : sh1 g h i m v n n' = (b && decide (n ≤ 20000)) := by
  rw [← hb]
  unfold sh1 eight
  rw [Bool.eq_iff_iff]
  simp
  omega
 rw [hres]
 have HS := Lib.hid hs
 unfold maxLen at hn
 clear hs hb hres hrd
 cases b
 all_goals
  go_enter Tryz.func256, Tryz.ntmps256
  go_wp2_with (go_at_call 93; (refine (HS.out _ belowA).mono ?_); rintro e w1 ⟨rfl, hb1⟩; have hb2 : Below w.heap.size w w1 := Below.trans belowA (hb1.mono (by simp)); have k1 := (Bk.new w 272 #[.int .i64 k, .int .i64 f, .int .i64 t, .int .i64 g, .int .i64 h, .int .i64 i, .int .i64 m, .int .i64 v, .slice A n c, .slice A' n' c']).ext hb1; have d8 := k1.cell 8; dsimp at d8)
  go_ret
  exact ⟨ret_bool (by rw [Bool.eq_iff_iff]; simp <;> omega), hb2⟩
theorem shape2_any (k f t g h i m v : Int) (A A' : Option Addr) (n n' c c' : Nat) (w : World) (hn : n ≤ maxLen) :
 Calls Tryz.prog 261 #[.agg #[.int .i64 k, .int .i64 f, .int .i64 t, .int .i64 g, .int .i64 h, .int .i64 i, .int .i64 m, .int .i64 v, .slice A n c, .slice A' n' c']] w fun e w' => e = .returned (.bool (sh2 f t g h i m v n n')) ∧ Below w.heap.size w w' := by
 unfold maxLen at hn
 go_enter Tryz.func261, Tryz.ntmps261
 go_wp2
 all_goals go_ret
 all_goals exact ⟨ret_bool (by rw [Bool.eq_iff_iff]; simp [sh2]; try omega), belowA⟩
theorem shape3_any (k f t g h i m v : Int) (A A' : Option Addr) (n n' c c' : Nat) (w : World) (hn : n ≤ maxLen) (hn' : n' ≤ maxLen) :
 Calls Tryz.prog 266 #[.agg #[.int .i64 k, .int .i64 f, .int .i64 t, .int .i64 g, .int .i64 h, .int .i64 i, .int .i64 m, .int .i64 v, .slice A n c, .slice A' n' c']] w fun e w' => e = .returned (.bool (sh3 g h i n n')) ∧ Below w.heap.size w w' := by
 have hs := fun W (hb : Below w.heap.size w W) => ssame_any k f t g h i m v k f t 0 0 0 m v A A' none none n n' 0 0 c c' 0 0 (decide (n = 0)) (decide (n' = 0)) W
  (fun W' hb' => calls_on hb' (tsame_nil A n c W' hn)) (fun W' hb' => calls_on hb' (eqmk_nil A' n' c' W' hn'))
 have hres : sh3 g h i n n' = (eight k f t g h i m v k f t 0 0 0 m v && decide (n = 0) && decide (n' = 0)) := by
  unfold sh3 eight
  rw [Bool.eq_iff_iff]
  simp
  omega
 rw [← hres] at hs
 have HS := Lib.hid hs
 clear hs hres
 generalize sh3 g h i n n' = b at *
 go_enter Tryz.func266, Tryz.ntmps266
 go_wp2_with (go_at_call 93; (refine (HS.out _ belowA).mono ?_); rintro e w1 ⟨rfl, hb1⟩; have hb2 : Below w.heap.size w w1 := Below.trans belowA (hb1.mono (by simp)))
 go_ret
 exact ⟨rfl, hb2⟩
theorem shape5_any (k f t g h i m v : Int) (A A' : Option Addr) (n n' c c' : Nat) (w : World) (st : List Mk) (hn : n ≤ maxLen) (hn' : n' ≤ maxLen) (hrd : Rd w w.heap.size 8 A' n' (mks st)) (hf : 0 ≤ f) (ht : t ≤ 1073741824) (hft : f ≤ t) :
 Calls Tryz.prog 271 #[.agg #[.int .i64 k, .int .i64 f, .int .i64 t, .int .i64 g, .int .i64 h, .int .i64 i, .int .i64 m, .int .i64 v, .slice A n c, .slice A' n' c']] w fun e w' => e = .returned (.bool (sh5 f t g h i m v n n')) ∧ Below w.heap.size w w' := by
 have hs := fun W (hb : Below w.heap.size w W) => ssame_any k f t g h i m v k f t 0 0 0 0 0 A A' none A' n n' 0 n' c c' 0 c' (decide (n = 0)) true W
  (fun W' hb' => calls_on hb' (tsame_nil A n c W' hn)) (fun W' hb' => calls_on hb' (eqmk_self A' n' c' st W' hn' ((hrd.below (hb.trans (hb'.mono hb.size))).more (Nat.le_trans hb.size hb'.size))))
 obtain ⟨b, hb⟩ : ∃ b, (eight k f t g h i m v k f t 0 0 0 0 0 && decide (n = 0) && true) = b := ⟨_, rfl⟩
 rw [hb] at hs
 have hres : sh5 f t g h i m v n n' = (b && decide ((n' : Int) = t - f) && decide (n' ≤ 20000)) := by
  rw [← hb]
  unfold sh5 eight
  rw [Bool.eq_iff_iff]
  simp
  omega
 rw [hres]
 have HS := Lib.hid hs
 unfold maxLen at hn'
 have e0 : IntKind.i64.wrap (t - f) = t - f := IntWalk.i64_in _ (by omega)
 clear hs hb hres hrd
 have hc : (((n' : Int) == t - f) = true ∧ decide ((n' : Int) = t - f) = true) ∨ (((n' : Int) == t - f) = false ∧ decide ((n' : Int) = t - f) = false) := by
  by_cases h1 : (n' : Int) = t - f
  ·exact .inl ⟨by simpa using h1, decide_eq_true h1⟩
  ·exact .inr ⟨by simpa using h1, decide_eq_false h1⟩
 rcases hc with ⟨g1, g3⟩ | ⟨g1, g3⟩
 all_goals
  rw [g3]
  clear g3
  cases b
  all_goals
   go_enter Tryz.func271, Tryz.ntmps271
   go_wp2_with (go_at_call 93; (refine (HS.out _ belowA).mono ?_); rintro e w1 ⟨rfl, hb1⟩; have hb2 : Below w.heap.size w w1 := Below.trans belowA (hb1.mono (by simp)); have k1 := (Bk.new w 275 #[.int .i64 k, .int .i64 f, .int .i64 t, .int .i64 g, .int .i64 h, .int .i64 i, .int .i64 m, .int .i64 v, .slice A n c, .slice A' n' c']).ext hb1; have d1 := k1.cell 1; have d2 := k1.cell 2; have d9 := k1.cell 9; dsimp at d1 d2 d9)
   go_ret
   exact ⟨ret_bool (by rw [Bool.eq_iff_iff]; simp <;> omega), hb2⟩
def boxes (f t : Int) : Bool := decide (0 ≤ f ∧ f ≤ t ∧ t ≤ 1073741824)
theorem of1 (f t g h i m v : Int) (A A' : Option Addr) (n n' c c' : Nat) (w : World) :
 Calls Tryz.prog 118 #[.agg #[.int .i64 1, .int .i64 f, .int .i64 t, .int .i64 g, .int .i64 h, .int .i64 i, .int .i64 m, .int .i64 v, .slice A n c, .slice A' n' c']] w fun e w' => e = .returned (.iface 272 (.agg #[.int .i64 1, .int .i64 f, .int .i64 t, .int .i64 g, .int .i64 h, .int .i64 i, .int .i64 m, .int .i64 v, .slice A n c, .slice A' n' c'])) ∧ Below w.heap.size w w' := by
 go_enter Tryz.func118, Tryz.ntmps118
 go_wp2
 go_ret
 exact ⟨rfl, belowA⟩
theorem of2 (f t g h i m v : Int) (A A' : Option Addr) (n n' c c' : Nat) (w : World) :
 Calls Tryz.prog 118 #[.agg #[.int .i64 2, .int .i64 f, .int .i64 t, .int .i64 g, .int .i64 h, .int .i64 i, .int .i64 m, .int .i64 v, .slice A n c, .slice A' n' c']] w fun e w' => e = .returned (.iface 273 (.agg #[.int .i64 2, .int .i64 f, .int .i64 t, .int .i64 g, .int .i64 h, .int .i64 i, .int .i64 m, .int .i64 v, .slice A n c, .slice A' n' c'])) ∧ Below w.heap.size w w' := by
 go_enter Tryz.func118, Tryz.ntmps118
 go_wp2
 go_ret
 exact ⟨rfl, belowA⟩
theorem of3 (k : Int) (hk : k = 3 ∨ k = 4) (f t g h i m v : Int) (A A' : Option Addr) (n n' c c' : Nat) (w : World) :
 Calls Tryz.prog 118 #[.agg #[.int .i64 k, .int .i64 f, .int .i64 t, .int .i64 g, .int .i64 h, .int .i64 i, .int .i64 m, .int .i64 v, .slice A n c, .slice A' n' c']] w fun e w' => e = .returned (.iface 274 (.agg #[.int .i64 k, .int .i64 f, .int .i64 t, .int .i64 g, .int .i64 h, .int .i64 i, .int .i64 m, .int .i64 v, .slice A n c, .slice A' n' c'])) ∧ Below w.heap.size w w' := by
 rcases hk with rfl | rfl
 all_goals
  go_enter Tryz.func118, Tryz.ntmps118
  go_wp2
  go_ret
  exact ⟨rfl, belowA⟩
theorem of5 (f t g h i m v : Int) (A A' : Option Addr) (n n' c c' : Nat) (w : World) :
 Calls Tryz.prog 118 #[.agg #[.int .i64 5, .int .i64 f, .int .i64 t, .int .i64 g, .int .i64 h, .int .i64 i, .int .i64 m, .int .i64 v, .slice A n c, .slice A' n' c']] w fun e w' => e = .returned (.iface 275 (.agg #[.int .i64 5, .int .i64 f, .int .i64 t, .int .i64 g, .int .i64 h, .int .i64 i, .int .i64 m, .int .i64 v, .slice A n c, .slice A' n' c'])) ∧ Below w.heap.size w w' := by
 go_enter Tryz.func118, Tryz.ntmps118
 go_wp2
 go_ret
 exact ⟨rfl, belowA⟩
theorem of0 (k : Int) (hk : k < 1 ∨ 5 < k) (f t g h i m v : Int) (A A' : Option Addr) (n n' c c' : Nat) (w : World) :
 Calls Tryz.prog 118 #[.agg #[.int .i64 k, .int .i64 f, .int .i64 t, .int .i64 g, .int .i64 h, .int .i64 i, .int .i64 m, .int .i64 v, .slice A n c, .slice A' n' c']] w fun e w' => e = .returned .nilIface ∧ Below w.heap.size w w' := by
 have e1 : (k == 1) = false := by simp; omega
 have e2 : (k == 2) = false := by simp; omega
 have e3 : (k == 3) = false := by simp; omega
 have e4 : (k == 4) = false := by simp; omega
 have e5 : (k == 5) = false := by simp; omega
 clear hk
 go_enter Tryz.func118, Tryz.ntmps118
 go_wp2
 go_ret
 exact ⟨rfl, belowA⟩
theorem shape_1 (f t g h i m v : Int) (A A' : Option Addr) (n n' c c' : Nat) (w : World) (sl : List Tok) (hn : n ≤ maxLen) (hn' : n' ≤ maxLen) (hrd : Rd w w.heap.size 12 A n (toks sl)) :
 Calls Tryz.prog 57 #[.agg #[.int .i64 1, .int .i64 f, .int .i64 t, .int .i64 g, .int .i64 h, .int .i64 i, .int .i64 m, .int .i64 v, .slice A n c, .slice A' n' c']] w fun e w' => e = .returned (.bool (boxes f t && sh1 g h i m v n n')) ∧ Below w.heap.size w w' := by
 have ho := fun W (hb : Below w.heap.size w W) => calls_on hb (of1 f t g h i m v A A' n n' c c' W)
 have hs := fun W (hb : Below w.heap.size w W) => calls_on hb (shape1_any 1 f t g h i m v A A' n n' c c' W sl hn hn' ((hrd.below hb).more hb.size))
 have HO := Lib.hid ho
 have HS := Lib.hid hs
 clear ho hs hrd
 have hm : ∀ w, (method 500 272 (.agg #[.int .i64 1, .int .i64 f, .int .i64 t, .int .i64 g, .int .i64 h, .int .i64 i, .int .i64 m, .int .i64 v, .slice A n c, .slice A' n' c']) "stet/step.shape").run Tryz.prog w = .ok (256, .agg #[.int .i64 1, .int .i64 f, .int .i64 t, .int .i64 g, .int .i64 h, .int .i64 i, .int .i64 m, .int .i64 v, .slice A n c, .slice A' n' c']) w := fun _ => by kernel_rfl
 go_enter Tryz.func57, Tryz.ntmps57
 go_wp2_with (first
  | (go_at_call 118; (refine (HO.out _ belowA).mono ?_); rintro e w1 ⟨rfl, hb1, hz1, hx1⟩; have k1 := (Bk.new w 45 #[.int .i64 1, .int .i64 f, .int .i64 t, .int .i64 g, .int .i64 h, .int .i64 i, .int .i64 m, .int .i64 v, .slice A n c, .slice A' n' c']).ext hx1; have d1 := k1.cell 1; have d2 := k1.cell 2; have l1 := def_lt' k1; dsimp at d1 d2)
  | (go_at_call 256; (refine (HS.out _ hb1).mono ?_); rintro e w2 ⟨rfl, hb2, hz2, hx2⟩))
 all_goals go_ret
 all_goals first
  | exact ⟨ret_bool (by rw [show boxes f t = true from decide_eq_true (by omega), Bool.true_and]), hb2⟩
  | exact ⟨ret_bool (by rw [show boxes f t = false from decide_eq_false (by omega), Bool.false_and]), hb1⟩
theorem shape_2 (f t g h i m v : Int) (A A' : Option Addr) (n n' c c' : Nat) (w : World) (hn : n ≤ maxLen) :
 Calls Tryz.prog 57 #[.agg #[.int .i64 2, .int .i64 f, .int .i64 t, .int .i64 g, .int .i64 h, .int .i64 i, .int .i64 m, .int .i64 v, .slice A n c, .slice A' n' c']] w fun e w' => e = .returned (.bool (boxes f t && sh2 f t g h i m v n n')) ∧ Below w.heap.size w w' := by
 have ho := fun W (hb : Below w.heap.size w W) => calls_on hb (of2 f t g h i m v A A' n n' c c' W)
 have hs := fun W (hb : Below w.heap.size w W) => calls_on hb (shape2_any 2 f t g h i m v A A' n n' c c' W hn)
 have HO := Lib.hid ho
 have HS := Lib.hid hs
 clear ho hs
 have hm : ∀ w, (method 500 273 (.agg #[.int .i64 2, .int .i64 f, .int .i64 t, .int .i64 g, .int .i64 h, .int .i64 i, .int .i64 m, .int .i64 v, .slice A n c, .slice A' n' c']) "stet/step.shape").run Tryz.prog w = .ok (261, .agg #[.int .i64 2, .int .i64 f, .int .i64 t, .int .i64 g, .int .i64 h, .int .i64 i, .int .i64 m, .int .i64 v, .slice A n c, .slice A' n' c']) w := fun _ => by kernel_rfl
 go_enter Tryz.func57, Tryz.ntmps57
 go_wp2_with (first
  | (go_at_call 118; (refine (HO.out _ belowA).mono ?_); rintro e w1 ⟨rfl, hb1, hz1, hx1⟩; have k1 := (Bk.new w 45 #[.int .i64 2, .int .i64 f, .int .i64 t, .int .i64 g, .int .i64 h, .int .i64 i, .int .i64 m, .int .i64 v, .slice A n c, .slice A' n' c']).ext hx1; have d1 := k1.cell 1; have d2 := k1.cell 2; have l1 := def_lt' k1; dsimp at d1 d2)
  | (go_at_call 261; (refine (HS.out _ hb1).mono ?_); rintro e w2 ⟨rfl, hb2, hz2, hx2⟩))
 all_goals go_ret
 all_goals first
  | exact ⟨ret_bool (by rw [show boxes f t = true from decide_eq_true (by omega), Bool.true_and]), hb2⟩
  | exact ⟨ret_bool (by rw [show boxes f t = false from decide_eq_false (by omega), Bool.false_and]), hb1⟩
theorem shape_3 (k : Int) (hk : k = 3 ∨ k = 4) (f t g h i m v : Int) (A A' : Option Addr) (n n' c c' : Nat) (w : World) (hn : n ≤ maxLen) (hn' : n' ≤ maxLen) :
 Calls Tryz.prog 57 #[.agg #[.int .i64 k, .int .i64 f, .int .i64 t, .int .i64 g, .int .i64 h, .int .i64 i, .int .i64 m, .int .i64 v, .slice A n c, .slice A' n' c']] w fun e w' => e = .returned (.bool (boxes f t && sh3 g h i n n')) ∧ Below w.heap.size w w' := by
 have ho := fun W (hb : Below w.heap.size w W) => calls_on hb (of3 k hk f t g h i m v A A' n n' c c' W)
 have hs := fun W (hb : Below w.heap.size w W) => calls_on hb (shape3_any k f t g h i m v A A' n n' c c' W hn hn')
 have HO := Lib.hid ho
 have HS := Lib.hid hs
 clear ho hs
 have hm : ∀ w, (method 500 274 (.agg #[.int .i64 k, .int .i64 f, .int .i64 t, .int .i64 g, .int .i64 h, .int .i64 i, .int .i64 m, .int .i64 v, .slice A n c, .slice A' n' c']) "stet/step.shape").run Tryz.prog w = .ok (266, .agg #[.int .i64 k, .int .i64 f, .int .i64 t, .int .i64 g, .int .i64 h, .int .i64 i, .int .i64 m, .int .i64 v, .slice A n c, .slice A' n' c']) w := fun _ => by kernel_rfl
 go_enter Tryz.func57, Tryz.ntmps57
 go_wp2_with (first
  | (go_at_call 118; (refine (HO.out _ belowA).mono ?_); rintro e w1 ⟨rfl, hb1, hz1, hx1⟩; have k1 := (Bk.new w 45 #[.int .i64 k, .int .i64 f, .int .i64 t, .int .i64 g, .int .i64 h, .int .i64 i, .int .i64 m, .int .i64 v, .slice A n c, .slice A' n' c']).ext hx1; have d1 := k1.cell 1; have d2 := k1.cell 2; have l1 := def_lt' k1; dsimp at d1 d2)
  | (go_at_call 266; (refine (HS.out _ hb1).mono ?_); rintro e w2 ⟨rfl, hb2, hz2, hx2⟩))
 all_goals go_ret
 all_goals first
  | exact ⟨ret_bool (by rw [show boxes f t = true from decide_eq_true (by omega), Bool.true_and]), hb2⟩
  | exact ⟨ret_bool (by rw [show boxes f t = false from decide_eq_false (by omega), Bool.false_and]), hb1⟩
theorem shape_5 (f t g h i m v : Int) (A A' : Option Addr) (n n' c c' : Nat) (w : World) (st : List Mk) (hn : n ≤ maxLen) (hn' : n' ≤ maxLen) (hrd : Rd w w.heap.size 8 A' n' (mks st)) :
 Calls Tryz.prog 57 #[.agg #[.int .i64 5, .int .i64 f, .int .i64 t, .int .i64 g, .int .i64 h, .int .i64 i, .int .i64 m, .int .i64 v, .slice A n c, .slice A' n' c']] w fun e w' => e = .returned (.bool (boxes f t && sh5 f t g h i m v n n')) ∧ Below w.heap.size w w' := by
 have ho := fun W (hb : Below w.heap.size w W) => calls_on hb (of5 f t g h i m v A A' n n' c c' W)
 have hs := fun W (hb : Below w.heap.size w W) (h0 : 0 ≤ f) (h1 : f ≤ t) (h2 : t ≤ 1073741824) => calls_on hb (shape5_any 5 f t g h i m v A A' n n' c c' W st hn hn' ((hrd.below hb).more hb.size) h0 h2 h1)
 have HO := Lib.hid ho
 have HS := Lib.hid hs
 clear ho hs hrd
 have hm : ∀ w, (method 500 275 (.agg #[.int .i64 5, .int .i64 f, .int .i64 t, .int .i64 g, .int .i64 h, .int .i64 i, .int .i64 m, .int .i64 v, .slice A n c, .slice A' n' c']) "stet/step.shape").run Tryz.prog w = .ok (271, .agg #[.int .i64 5, .int .i64 f, .int .i64 t, .int .i64 g, .int .i64 h, .int .i64 i, .int .i64 m, .int .i64 v, .slice A n c, .slice A' n' c']) w := fun _ => by kernel_rfl
 go_enter Tryz.func57, Tryz.ntmps57
 go_wp2_with (first
  | (go_at_call 118; (refine (HO.out _ belowA).mono ?_); rintro e w1 ⟨rfl, hb1, hz1, hx1⟩; have k1 := (Bk.new w 45 #[.int .i64 5, .int .i64 f, .int .i64 t, .int .i64 g, .int .i64 h, .int .i64 i, .int .i64 m, .int .i64 v, .slice A n c, .slice A' n' c']).ext hx1; have d1 := k1.cell 1; have d2 := k1.cell 2; have l1 := def_lt' k1; dsimp at d1 d2)
  | (go_at_call 271; (refine (HS.out _ hb1 (by assumption) (by assumption) (by assumption)).mono ?_); rintro e w2 ⟨rfl, hb2, hz2, hx2⟩))
 all_goals go_ret
 all_goals first
  | exact ⟨ret_bool (by rw [show boxes f t = true from decide_eq_true (by omega), Bool.true_and]), hb2⟩
  | exact ⟨ret_bool (by rw [show boxes f t = false from decide_eq_false (by omega), Bool.false_and]), hb1⟩
theorem shape_0 (k : Int) (hk : k < 1 ∨ 5 < k) (f t g h i m v : Int) (A A' : Option Addr) (n n' c c' : Nat) (w : World) :
 Calls Tryz.prog 57 #[.agg #[.int .i64 k, .int .i64 f, .int .i64 t, .int .i64 g, .int .i64 h, .int .i64 i, .int .i64 m, .int .i64 v, .slice A n c, .slice A' n' c']] w fun e w' => e = .returned (.bool false) ∧ Below w.heap.size w w' := by
 have ho := fun W (hb : Below w.heap.size w W) => calls_on hb (of0 k hk f t g h i m v A A' n n' c c' W)
 have HO := Lib.hid ho
 clear ho hk
 go_enter Tryz.func57, Tryz.ntmps57
 go_wp2_with (go_at_call 118; (refine (HO.out _ belowA).mono ?_); rintro e w1 ⟨rfl, hb1, hz1, hx1⟩)
 go_ret
 exact ⟨rfl, hb1⟩
/-- which steps' shapes are right -/
def shB (k f t g h i m v : Int) (n n' : Nat) : Bool :=
 boxes f t && (if k = 1 then sh1 g h i m v n n' else if k = 2 then sh2 f t g h i m v n n' else if k = 3 ∨ k = 4 then sh3 g h i n n' else if k = 5 then sh5 f t g h i m v n n' else false)
theorem shape_any (k f t g h i m v : Int) (A A' : Option Addr) (n n' c c' : Nat) (w : World) (sl : List Tok) (st : List Mk) (hn : n ≤ maxLen) (hn' : n' ≤ maxLen) (hrd : Rd w w.heap.size 12 A n (toks sl)) (hrd' : Rd w w.heap.size 8 A' n' (mks st)) :
 Calls Tryz.prog 57 #[.agg #[.int .i64 k, .int .i64 f, .int .i64 t, .int .i64 g, .int .i64 h, .int .i64 i, .int .i64 m, .int .i64 v, .slice A n c, .slice A' n' c']] w fun e w' => e = .returned (.bool (shB k f t g h i m v n n')) ∧ Below w.heap.size w w' := by
 unfold shB
 by_cases h1 : k = 1
 ·subst h1; exact shape_1 f t g h i m v A A' n n' c c' w sl hn hn' hrd
 rw [if_neg h1]
 by_cases h2 : k = 2
 ·subst h2; exact shape_2 f t g h i m v A A' n n' c c' w hn
 rw [if_neg h2]
 by_cases h3 : k = 3 ∨ k = 4
 ·rw [if_pos h3]; exact shape_3 k h3 f t g h i m v A A' n n' c c' w hn hn'
 rw [if_neg h3]
 by_cases h5 : k = 5
 ·subst h5; exact shape_5 f t g h i m v A A' n n' c c' w st hn hn' hrd'
 rw [if_neg h5, Bool.and_false]
 exact shape_0 k (by omega) f t g h i m v A A' n n' c c' w
theorem rshape_any (k f t g h i m v : Int) (A A' : Option Addr) (n n' c c' : Nat) (w : World) (hn : n ≤ 20000) (hn' : n' ≤ 20000) :
 Calls Tryz.prog 65 #[.agg #[.int .i64 k, .int .i64 f, .int .i64 t, .int .i64 g, .int .i64 h, .int .i64 i, .int .i64 m, .int .i64 v, .slice A n c, .slice A' n' c']] w fun e w' => e = .returned (.bool (shB k f t g h i m v n n')) ∧ Below w.heap.size w w' := by
 by_cases hbox : 0 ≤ f ∧ f ≤ t ∧ t ≤ 1073741824
 ·obtain ⟨h0, h1, h2⟩ := hbox
  have e3 : ¬ (20000 : Int) < n := by omega
  have e4 : ¬ (20000 : Int) < n' := by omega
  have e5 : ¬ f < 0 := by omega
  have e6 : ¬ t < f := by omega
  have e7 : ¬ 1073741824 < t := by omega
  have e8 : IntKind.i64.wrap (t - f) = t - f := IntWalk.i64_in _ (by omega)
  have hbx : boxes f t = true := decide_eq_true ⟨h0, h1, h2⟩
  have HN := Lib.hid hn
  have HN' := Lib.hid hn'
  have H0 := Lib.hid h0
  have H1 := Lib.hid h1
  have H2 := Lib.hid h2
  have HBX := Lib.hid hbx
  clear hn hn' h0 h1 h2 hbx
  go_enter Tryz.func65, Tryz.ntmps65
  go_upto_region 3 with fail
  go_cut [3] (fun b wx => b = .bool (decide (¬ (g = 0 ∧ h = 0 ∧ i = 0))) ∧ wx = w.alloc (.cells #[.int .i64 k, .int .i64 f, .int .i64 t, .int .i64 g, .int .i64 h, .int .i64 i, .int .i64 m, .int .i64 v, .slice A n c, .slice A' n' c'] 45))
  case first =>
   have hc : ((g != 0) = true) ∨ (g = 0 ∧ (h != 0) = true) ∨ (g = 0 ∧ h = 0 ∧ (i != 0) = true) ∨ (g = 0 ∧ h = 0 ∧ i = 0) := by
    simp only [bne_iff_ne, ne_eq]; omega
   rcases hc with g1 | ⟨rfl, g1⟩ | ⟨rfl, rfl, g1⟩ | ⟨rfl, rfl, rfl⟩
   all_goals
    go_wp2
    go_meet
   ·exact ⟨congrArg Value.bool (decide_eq_true (by intro h; rw [h.1] at g1; cases g1)).symm, rfl⟩
   ·exact ⟨congrArg Value.bool (decide_eq_true (by intro h; rw [h.2.1] at g1; cases g1)).symm, rfl⟩
   ·exact ⟨congrArg Value.bool (decide_eq_true (by intro h; rw [h.2.2] at g1; cases g1)).symm, rfl⟩
   ·exact ⟨rfl, rfl⟩
  case rest =>
   obtain ⟨rfl, rfl⟩ := hcut
   obtain ⟨gB, hgB⟩ : ∃ b, decide (¬ (g = 0 ∧ h = 0 ∧ i = 0)) = b := ⟨_, rfl⟩
   rw [hgB]
   have HG := Lib.hid hgB
   clear hgB
   go_upto_region 4 with fail
   go_cut [4] (fun b wx => b = .bool (decide (¬ (m = 0 ∧ v = 0))) ∧ wx = w.alloc (.cells #[.int .i64 k, .int .i64 f, .int .i64 t, .int .i64 g, .int .i64 h, .int .i64 i, .int .i64 m, .int .i64 v, .slice A n c, .slice A' n' c'] 45))
   case first =>
    have hc : ((m != 0) = true) ∨ (m = 0 ∧ (v != 0) = true) ∨ (m = 0 ∧ v = 0) := by
     simp only [bne_iff_ne, ne_eq]; omega
    rcases hc with g1 | ⟨rfl, g1⟩ | ⟨rfl, rfl⟩
    all_goals
     go_wp2
     go_meet
    ·exact ⟨congrArg Value.bool (decide_eq_true (by intro h; rw [h.1] at g1; cases g1)).symm, rfl⟩
    ·exact ⟨congrArg Value.bool (decide_eq_true (by intro h; rw [h.2] at g1; cases g1)).symm, rfl⟩
    ·exact ⟨rfl, rfl⟩
   case rest =>
    obtain ⟨rfl, rfl⟩ := hcut
    obtain ⟨mB, hmB⟩ : ∃ b, decide (¬ (m = 0 ∧ v = 0)) = b := ⟨_, rfl⟩
    rw [hmB]
    have HM := Lib.hid hmB
    clear hmB
    have hk : k = 1 ∨ k = 2 ∨ k = 3 ∨ k = 4 ∨ k = 5 ∨ (k < 1 ∨ 5 < k) := by omega
    rcases hk with rfl | rfl | rfl | rfl | rfl | hk
    ·cases gB <;> cases mB
     all_goals
      go_wp2
      go_ret
      exact ⟨ret_bool (by have a := HG.out; have b := HM.out; have c := HBX.out; have d := HN.out; have d' := HN'.out; have x := H0.out; have y := H1.out; have z := H2.out; unfold shB; rw [c]; rw [Bool.eq_iff_iff]; simp [sh1] at a b ⊢; omega), belowA⟩
    ·cases mB
     all_goals
      go_wp2
      all_goals go_ret
      all_goals exact ⟨ret_bool (by have a := HG.out; have b := HM.out; have c := HBX.out; have d := HN.out; have d' := HN'.out; have x := H0.out; have y := H1.out; have z := H2.out; unfold shB; rw [c]; rw [Bool.eq_iff_iff]; simp [sh2] at a b ⊢; omega), belowA⟩
    ·cases gB
     all_goals
      go_wp2
      all_goals go_ret
      all_goals exact ⟨ret_bool (by have a := HG.out; have b := HM.out; have c := HBX.out; have d := HN.out; have d' := HN'.out; have x := H0.out; have y := H1.out; have z := H2.out; unfold shB; rw [c]; rw [Bool.eq_iff_iff]; simp [sh3] at a b ⊢; omega), belowA⟩
    ·cases gB
     all_goals
      go_wp2
      all_goals go_ret
      all_goals exact ⟨ret_bool (by have a := HG.out; have b := HM.out; have c := HBX.out; have d := HN.out; have d' := HN'.out; have x := H0.out; have y := H1.out; have z := H2.out; unfold shB; rw [c]; rw [Bool.eq_iff_iff]; simp [sh3] at a b ⊢; omega), belowA⟩
    ·cases gB <;> cases mB
     all_goals
      go_wp2
      all_goals go_ret
      all_goals exact ⟨ret_bool (by have a := HG.out; have b := HM.out; have c := HBX.out; have d := HN.out; have d' := HN'.out; have x := H0.out; have y := H1.out; have z := H2.out; unfold shB; rw [c]; rw [Bool.eq_iff_iff]; simp [sh5] at a b ⊢; omega), belowA⟩
    ·have e11 : (k == 1) = false := by simp; omega
     have e12 : (k == 2) = false := by simp; omega
     have e13 : (k == 3) = false := by simp; omega
     have e14 : (k == 4) = false := by simp; omega
     have e15 : (k == 5) = false := by simp; omega
     have HK := Lib.hid hk
     clear hk
     go_wp2
     go_ret
     exact ⟨ret_bool (by have hk := HK.out; unfold shB; rw [if_neg (by omega), if_neg (by omega), if_neg (by omega), if_neg (by omega), Bool.and_false]), belowA⟩
 ·have hres : shB k f t g h i m v n n' = false := by
   unfold shB boxes
   rw [decide_eq_false hbox, Bool.false_and]
  rw [hres]
  have hc : f < 0 ∨ (¬ f < 0 ∧ t < f) ∨ (¬ f < 0 ∧ ¬ t < f ∧ 1073741824 < t) := by omega
  clear hres hbox
  rcases hc with e1 | ⟨e1, e2⟩ | ⟨e1, e2, e3⟩
  all_goals
   go_enter Tryz.func65, Tryz.ntmps65
   go_wp2
   go_ret
   exact ⟨rfl, belowA⟩
end Go.Proofs.YtmacfoebfpljoaaGreat
