/- merged texts: Htc Htd Hte Htf Htg Hth Hti Htj -/
import Derived.Test.YtmacfoebfpljoaaGreatMa8
set_option maxRecDepth 100000
set_option maxHeartbeats 16000000
namespace Go.Proofs.YtmacfoebfpljoaaGreat
open Go.RowKit
set_option linter.unusedVariables false
def ThenOut (B m ob : Nat) (o0 bh : Value) (w : World) (e : Ending) (w' : World) : Prop := ∃ (of oe : Value) (om : Bool), e = .returned (.tuple #[]) ∧ Bk w' ob 205 #[o0, bh, of, oe, .bool om] ∧ Rws w' B m bh m ∧ NsIn w' B m of ∧ NsIn w' B m oe ∧ Sti (fun i => i = ob ∨ bh.ownBlock = some i) w w'
theorem ThenI.out {B m ob xb : Nat} {o0 bh of oe x0 x1 xf xe : Value} {om xm : Bool} {w wr : World} (h : ThenI B m ob xb o0 bh of oe om x0 x1 xf xe xm w wr) : ThenOut B m ob o0 bh w (.returned (.tuple #[])) wr := ⟨of, oe, om, rfl, h.o, h.r, h.f, h.e, h.s⟩
theorem then_any (B m ob : Nat) (o0 bh of oe xf xe : Value) (om xm : Bool) (w : World) (hm : m ≤ 256) (hBw : B ≤ w.heap.size) (ko : Bk w ob 205 #[o0, bh, of, oe, .bool om]) (hr : Rws w B m bh m) (hof : NsIn w B m of) (hoe : NsIn w B m oe) (hxf : NsIn w B m xf) (hxe : NsIn w B m xe) : Calls Tryz.prog 223 #[.pointer (some ⟨ob, 0, none⟩), .agg #[.slice none 0 0, .slice none 0 0, xf, xe, .bool xm]] w (ThenOut B m ob o0 bh w) := by
 obtain ⟨Ab, cb, rfl⟩ := hr.form
 obtain ⟨Af, cf, lf, rfl, -, -, -⟩ := hof.form
 obtain ⟨Ae, ce, le, rfl, hle, hrde, hoo⟩ := hoe.form
 obtain ⟨Axf, cxf, lxf, rfl, -, -, -⟩ := hxf.form
 obtain ⟨Axe, cxe, lxe, rfl, -, -, -⟩ := hxe.form
 have hlen := hle.len
 have HRE := Lib.hid hrde
 have HLE := Lib.hid hle
 have hny : ∀ g, (Value.slice Ae le.length ce).ownBlock = some g → ¬ (g = ob ∨ (Value.slice Ab m cb).ownBlock = some g) := by
  obtain ⟨vs, hr1, -⟩ := id hr
  intro g hg hy
  rcases hy with hy | hy
  ·exact own_ne hoo ko (by decide) (by rw [← hy]; exact hg)
  ·exact hown_type hoo hr1 (by decide) g hy hg
 have HNY := Lib.hid hny
 have HOO := Lib.hid hoo
 clear hny hoo
 generalize hfn : lf.length = fn at *
 generalize hen : le.length = en at *
 generalize hxfn : lxf.length = xfn at *
 generalize hxen : lxe.length = xen at *
 have HEN := Lib.hid hen
 clear hfn hen hxfn hxen hle hrde
 go_enter Tryz.func223, Tryz.ntmps223
 go_upto_region 1 with fail
 have hb0 : Below w.heap.size w (w.alloc (.cells #[.slice none 0 0, .slice none 0 0, .slice Axf xfn cxf, .slice Axe xen cxe, .bool xm] 205)) := belowA
 have hI0 := Lib.hid (show ThenI B m ob w.heap.size o0 (.slice Ab m cb) (.slice Af fn cf) (.slice Ae en ce) om (.slice none 0 0) (.slice none 0 0) (.slice Axf xfn cxf) (.slice Axe xen cxe) xm w (w.alloc (.cells #[.slice none 0 0, .slice none 0 0, .slice Axf xfn cxf, .slice Axe xen cxe, .bool xm] 205)) from ⟨ko.alloc _, Bk.new w _ _, hr.below hb0, hof.below hb0, hoe.below hb0, hxf.below hb0, hxe.below hb0, Sti.of_below hb0, Nat.le_refl _, def_lt' ko⟩)
 generalize w.alloc (.cells #[.slice none 0 0, .slice none 0 0, .slice Axf xfn cxf, .slice Axe xen cxe, .bool xm] 205) = w0 at *
 clear ko hr hof hoe hxf hxe hb0
 go_wp2
 go_loopw [4] (fun j wr => ∃ k : Nat, k ≤ en ∧ j = .int .i64 k ∧ Hid (ThenI B m ob w.heap.size o0 (.slice Ab m cb) (.slice Af fn cf) (.slice Ae en ce) om (.slice none 0 0) (.slice none 0 0) (.slice Axf xfn cxf) (.slice Axe xen cxe) xm w wr)) (fun j _ => en - (intOf j).toNat)
 case atStart => exact ⟨0, by omega, rfl, hI0⟩
 case round =>
  clear hI0
  obtain ⟨k, hk, rfl, hI⟩ := hrel
  obtain ⟨s0, s1, s2, s3, s4⟩ := bk5 hI.out.o
  obtain ⟨y0, y1, y2, y3, y4⟩ := bk5 hI.out.x
  have of_ := hI.out.o.frozen; have ol := def_lt' hI.out.o
  have xl := def_lt' hI.out.x
  by_cases hlt : k < en
  ·have e3 : (k : Int) < en := by omega
   have hrdr : Rd wr wr.heap.size 1 Ae en (nts le) := by
    obtain ⟨A', c', e1, -, -, -, r⟩ := own_form (hI.out.s.own HOO.out HNY.out)
    injection e1 with e1 e2 e3
    subst e1
    exact r
   obtain ⟨eb, eo, t, rfl, heb, ht, htc⟩ := hrdr.nt_at hlt
   have htm := HLE.out.2 t (List.mem_of_getElem? ht)
   obtain ⟨g, u, rfl, hBg, hgw, huc, hu, hgf⟩ := hI.out.r.at_ htm
   obtain ⟨Au, cu, lu, rfl, -, -, -⟩ := hu.form
   have t0 : (0 : Int) ≤ t := by omega
   have t1 : (t : Int) < m := by omega
   have k0 : (0 : Int) ≤ k := by omega
   have hF : ∀ W, Below wr.heap.size wr W → W.cell? ⟨ob, 1, none⟩ = some (.slice (some ⟨g, 0, none⟩) m cb) ∧ W.cell? ⟨ob, 3, none⟩ = some (.slice (some ⟨eb, eo, none⟩) en ce) ∧ W.cell? ⟨w.heap.size, 2, none⟩ = some (.slice Axf xfn cxf) ∧ W.cell? ⟨eb, eo + k, none⟩ = some (.int .i64 t) ∧ W.cell? ⟨g, t, none⟩ = some (.slice Au lu.length cu) := fun W h => ⟨(hI.out.o.ext h).cell 1, (hI.out.o.ext h).cell 3, (hI.out.x.ext h).cell 2, (h.cell (by simpa using heb)).trans htc, (h.cell (by simpa using hgw)).trans huc⟩
   have HF := Lib.hid hF
   have HU := Lib.hid hu
   have hgwl := Lib.hid hgw
   clear hF hrdr ht
   generalize lu.length = un at *
   go_upto_region 4 with fail
   clear s0 s1 s2 s3 s4 y0 y1 y2 y3 y4
   refine wp_normal ?_
   refine region_L (S := fun W => Below wr.heap.size wr W) [28] (by kernel_rfl) (Below.refl _ _).drew (fun hHeld => ?_)
   (refine tkL 0 ?_; refine tkL 1 ?_; refine tkL 2 ?_; refine tkL 3 ?_; refine tkL 4 ?_; refine tkL 5 ?_; refine tkL 6 ?_; refine tkL 7 ?_; refine tkL 8 ?_; refine tkL 9 ?_; refine tkL 10 ?_; refine tkL 11 ?_; refine tkL 12 ?_; refine tkL 13 ?_; refine tkL 14 ?_; refine tkL 15 ?_; refine tkL 16 ?_; refine tkL 17 ?_; refine tkL 18 ?_; refine tkL 19 ?_; refine tkL 20 ?_; refine tkL 21 ?_; refine tkL 22 ?_; refine tkL 23 ?_; refine tkL 24 ?_; refine tkL 25 ?_)
   refine nxL 26 (fun K hK => ?_)
   go_simp
   go_at_call 196
   refine (or_any _ _ B B m _ (by omega) (HU.out.below (w' := wr.drew) (Below.refl _ _).drew) (hI.out.xf.below (w' := wr.drew) (Below.refl _ _).drew)).mono ?_
   rintro e w5 ⟨v5, rfl, hv5, hb5'⟩
   have hb5 : Below wr.heap.size wr w5 := Below.trans (Below.refl _ _).drew hb5'
   have hI5 := hI.out.below hb5
   have hv5' : NsIn w5 B m v5 := hv5.mono (Nat.le_refl _) (by have := hI.out.s.size; show B ≤ wr.heap.size; omega)
   have hI6 := Lib.hid (hI5.put htm hv5')
   obtain ⟨A5, c5, l5, rfl, -, -, -⟩ := hv5.form
   have hgc5 : w5.cell? ⟨g, t, none⟩ = some (.slice Au un cu) := (hb5.cell (by simpa using hgw)).trans huc
   have hgf5 : w5.frozen? ⟨g, t, none⟩ = false := (hb5.frozen (p := ⟨g, t, none⟩) (by simpa using hgw)).trans (hgf t)
   refine hK.out _ _ hb5 (fun hHeld => ?_)
   clear hK K; refine puL ?_
   (refine tkL 27 ?_)
   refine ltL 28 (fun K hK => ?_)
   go_simp
   refine hK.out _ _ ?_
   refine anyL_done (by kernel_rfl) ?_
   go_wp2
   go_roundw
   case rel => exact ⟨k + 1, by omega, by go_num, hI6⟩
   case measure => simp [intOf]; omega
  ·obtain rfl : k = en := by omega
   have hbB : B ≤ wr.heap.size := by have := hI.out.s.size; omega
   go_upto_if 45 with fail
   go_cut [53] (fun _ wx => ∃ (of2 : Value), Hid (ThenI B m ob w.heap.size o0 (.slice Ab m cb) of2 (.slice Ae k ce) om (.slice none 0 0) (.slice none 0 0) (.slice Axf xfn cxf) (.slice Axe xen cxe) xm w wx))
   case first =>
    cases om with
    | false =>
      go_wp2
      go_meet
      exact ⟨_, hI⟩
    | true =>
      have hF : ∀ W, Below wr.heap.size wr W → W.cell? ⟨ob, 2, none⟩ = some (.slice Af fn cf) ∧ W.cell? ⟨w.heap.size, 2, none⟩ = some (.slice Axf xfn cxf) := fun W h => ⟨(hI.out.o.ext h).cell 2, (hI.out.x.ext h).cell 2⟩
      have HF := Lib.hid hF
      clear hF
      go_upto_region 6 with fail
      refine wp_normal ?_
      refine region_L (S := fun W => Below wr.heap.size wr W) [10] (by kernel_rfl) (Below.refl _ _).drew (fun hHeld => ?_)
      (refine tkL 0 ?_; refine tkL 1 ?_; refine tkL 2 ?_; refine tkL 3 ?_; refine tkL 4 ?_; refine tkL 5 ?_; refine tkL 6 ?_)
      refine nxL 7 (fun K hK => ?_)
      go_simp
      go_at_call 196
      refine (or_any _ _ B B m _ (by omega) (hI.out.f.below (w' := wr.drew) (Below.refl _ _).drew) (hI.out.xf.below (w' := wr.drew) (Below.refl _ _).drew)).mono ?_
      rintro e w5 ⟨v5, rfl, hv5, hb5'⟩
      have hb5 : Below wr.heap.size wr w5 := Below.trans (Below.refl _ _).drew hb5'
      have hI5 := hI.out.below hb5
      have hv5' : NsIn w5 B m v5 := hv5.mono (Nat.le_refl _) hbB
      have hI6 := Lib.hid (hI5.set 2 v5 (hI5.o.set_ 2 _) hv5' hI5.e)
      obtain ⟨A5, c5, l5, rfl, -, -, -⟩ := hv5.form
      obtain ⟨z0, z1, z2, z3, z4⟩ := bk5 hI5.o
      have zf := hI5.o.frozen; have zl := def_lt' hI5.o
      refine hK.out _ _ hb5 (fun hHeld => ?_)
      clear hK K; refine puL ?_
      (refine tkL 8 ?_; refine tkL 9 ?_)
      refine ltL 10 (fun K hK => ?_)
      go_simp
      refine hK.out _ _ ?_
      refine anyL_done (by kernel_rfl) ?_
      go_wp2
      go_meet
      exact ⟨_, hI6⟩
   case rest =>
   obtain ⟨of2, hI2⟩ := hcut
   obtain ⟨Af2, cf2, lf2, rfl, -, -, -⟩ := hI2.out.f.form
   generalize lf2.length = fn2 at *
   clear s0 s1 s2 s3 s4 y0 y1 y2 y3 y4 of_ ol xl hI hbB
   obtain ⟨s0, s1, s2, s3, s4⟩ := bk5 hI2.out.o
   obtain ⟨y0, y1, y2, y3, y4⟩ := bk5 hI2.out.x
   have of_ := hI2.out.o.frozen; have ol := def_lt' hI2.out.o
   have hbB : B ≤ wc.heap.size := by have := hI2.out.s.size; omega
   go_upto_if 57 with fail
   go_cut [65] (fun _ wx => ∃ (oe2 : Value), Hid (ThenI B m ob w.heap.size o0 (.slice Ab m cb) (.slice Af2 fn2 cf2) oe2 om (.slice none 0 0) (.slice none 0 0) (.slice Axf xfn cxf) (.slice Axe xen cxe) xm w wx))
   case first =>
    cases xm with
    | false =>
      go_wp2
      go_meet
      exact ⟨_, Lib.hid (hI2.out.set 3 (.slice Axe xen cxe) (hI2.out.o.set_ 3 _) hI2.out.f hI2.out.xe)⟩
    | true =>
      have hF : ∀ W, Below wc.heap.size wc W → W.cell? ⟨ob, 3, none⟩ = some (.slice Ae k ce) ∧ W.cell? ⟨w.heap.size, 3, none⟩ = some (.slice Axe xen cxe) := fun W h => ⟨(hI2.out.o.ext h).cell 3, (hI2.out.x.ext h).cell 3⟩
      have HF := Lib.hid hF
      clear hF
      go_upto_region 8 with fail
      clear s0 s1 s2 s3 s4 y0 y1 y2 y3 y4
      refine wp_normal ?_
      refine region_L (S := fun W => Below wc.heap.size wc W) [10] (by kernel_rfl) (Below.refl _ _).drew (fun hHeld => ?_)
      (refine tkL 0 ?_; refine tkL 1 ?_; refine tkL 2 ?_; refine tkL 3 ?_; refine tkL 4 ?_; refine tkL 5 ?_; refine tkL 6 ?_)
      refine nxL 7 (fun K hK => ?_)
      go_simp
      go_at_call 196
      refine (or_any _ _ B B m _ (by omega) (hI2.out.e.below (w' := wc.drew) (Below.refl _ _).drew) (hI2.out.xe.below (w' := wc.drew) (Below.refl _ _).drew)).mono ?_
      rintro e w5 ⟨v5, rfl, hv5, hb5'⟩
      have hb5 : Below wc.heap.size wc w5 := Below.trans (Below.refl _ _).drew hb5'
      have hI5 := hI2.out.below hb5
      have hv5' : NsIn w5 B m v5 := hv5.mono (Nat.le_refl _) hbB
      have hI6 := Lib.hid (hI5.set 3 v5 (hI5.o.set_ 3 _) hI5.f hv5')
      obtain ⟨A5, c5, l5, rfl, -, -, -⟩ := hv5.form
      obtain ⟨z0, z1, z2, z3, z4⟩ := bk5 hI5.o
      have zf := hI5.o.frozen; have zl := def_lt' hI5.o
      refine hK.out _ _ hb5 (fun hHeld => ?_)
      clear hK K; refine puL ?_
      (refine tkL 8 ?_; refine tkL 9 ?_)
      refine ltL 10 (fun K hK => ?_)
      go_simp
      refine hK.out _ _ ?_
      refine anyL_done (by kernel_rfl) ?_
      go_wp2
      go_meet
      exact ⟨_, hI6⟩
   case rest =>
   obtain ⟨oe2, hI3⟩ := hcut
   clear s0 s1 s2 s3 s4 y0 y1 y2 y3 y4 of_ ol hI2 hbB
   obtain ⟨s0, s1, s2, s3, s4⟩ := bk5 hI3.out.o
   obtain ⟨y0, y1, y2, y3, y4⟩ := bk5 hI3.out.x
   have of_ := hI3.out.o.frozen; have ol := def_lt' hI3.out.o
   cases om
   all_goals
    go_wp2
    go_end0
    exact (hI3.out.set 4 _ (hI3.out.o.set_ 4 _) hI3.out.f hI3.out.e).out
def SeqOut (B m ob : Nat) (o0 bh : Value) (w : World) (e : Ending) (w' : World) : Prop := ∃ (of oe : Value) (om : Bool), e = .returned (.tuple #[]) ∧ Bk w' ob 205 #[o0, .slice none 0 0, of, oe, .bool om] ∧ Rws w' B m bh m ∧ NsIn w' B m of ∧ NsIn w' B m oe ∧ Sti (fun i => i = ob ∨ bh.ownBlock = some i) w w'
theorem NsIn.put {w : World} {B m b i : Nat} {t : TypeId} {cs : Array Value} {v : Value} (h : NsIn w B m v) (k : Bk w b t cs) (hne : 3 ≠ t) (u : Value) : NsIn (w.setCell ⟨b, i, none⟩ u) B m v := by
 have hn := h.ne k hne
 obtain ⟨xs, h1, h2⟩ := h
 exact ⟨xs, ownsRow_setCell_other h1 hn _, h2⟩
theorem Rws.put_ {w : World} {B m K b i : Nat} {t : TypeId} {cs : Array Value} {v : Value} (h : Rws w B m v K) (k : Bk w b t cs) (h1 : 3 ≠ t) (h2 : 51 ≠ t) (u : Value) : Rws (w.setCell ⟨b, i, none⟩ u) B m v K := by
 obtain ⟨vs, g1, g2⟩ := h
 exact ⟨vs, ownsRow_setCell_other g1 (own_ne g1 k h2) _, fun x hx => (g2 x hx).put k h1 u⟩
theorem seq_any (B m nb ob : Nat) (on bh nf ne o0 o1 of oe xf xe : Value) (nm om xm : Bool) (w : World) (hm : m ≤ 256) (hBw : B ≤ w.heap.size) (hne : nb ≠ ob) (kn : Bk w nb 205 #[on, bh, nf, ne, .bool nm]) (ko : Bk w ob 205 #[o0, o1, of, oe, .bool om]) (hr : Rws w B m bh m) (hof : NsIn w B m of) (hoe : NsIn w B m oe) (hxf : NsIn w B m xf) (hxe : NsIn w B m xe) : Calls Tryz.prog 197 #[.pointer (some ⟨nb, 0, none⟩), .pointer (some ⟨ob, 0, none⟩), .agg #[.slice none 0 0, .slice none 0 0, xf, xe, .bool xm]] w (SeqOut B m ob o0 bh w) := by
 obtain ⟨Ab, cb, rfl⟩ := hr.form
 obtain ⟨Axf, cxf, lxf, rfl, -, -, -⟩ := hxf.form
 obtain ⟨Axe, cxe, lxe, rfl, -, -, -⟩ := hxe.form
 generalize hxfn : lxf.length = xfn at *
 generalize hxen : lxe.length = xen at *
 clear hxfn hxen
 have hbx : Below w.heap.size w (w.alloc (.cells #[.slice none 0 0, .slice none 0 0, .slice Axf xfn cxf, .slice Axe xen cxe, .bool xm] 205)) := belowA
 have hl := def_lt' ko
 have hln := def_lt' kn
 have kx := Bk.new w 205 #[.slice none 0 0, .slice none 0 0, .slice Axf xfn cxf, .slice Axe xen cxe, .bool xm]
 have ko0 := ko.ext hbx
 have kn0 := kn.ext hbx
 have hr0 := hr.below hbx
 have hof0 := hof.below hbx
 have hoe0 := hoe.below hbx
 have hxf0 := hxf.below hbx
 have hxe0 := hxe.below hbx
 go_enter Tryz.func197, Tryz.ntmps197
 go_upto_region 1 with fail
 generalize w.alloc (.cells #[.slice none 0 0, .slice none 0 0, .slice Axf xfn cxf, .slice Axe xen cxe, .bool xm] 205) = w0 at *
 obtain ⟨s0, s1, s2, s3, s4⟩ := bk5 ko0
 obtain ⟨y0, y1, y2, y3, y4⟩ := bk5 kx
 obtain ⟨n0, n1, n2, n3, n4⟩ := bk5 kn0
 have of_ := ko0.frozen; have ol := def_lt' ko0
 have k1 : Bk _ ob 205 #[o0, .slice Ab m cb, of, oe, .bool om] := ko0.set_ 1 (.slice Ab m cb)
 have hs1 : Sti (fun i => i = ob ∨ (Value.slice Ab m cb).ownBlock = some i) w (w0.setCell ⟨ob, 1, none⟩ (.slice Ab m cb)) := (Sti.of_below hbx).set_ (p := ⟨ob, 1, none⟩) (.inl (.inl rfl)) _
 have hr1 := hr0.put_ ko0 (by decide) (by decide) (i := 1) (.slice Ab m cb)
 have hof1 := hof0.put ko0 (by decide) (i := 1) (.slice Ab m cb)
 have hoe1 := hoe0.put ko0 (by decide) (i := 1) (.slice Ab m cb)
 have hxf1 := hxf0.put ko0 (by decide) (i := 1) (.slice Ab m cb)
 have hxe1 := hxe0.put ko0 (by decide) (i := 1) (.slice Ab m cb)
 have hth := Lib.hid (then_any B m ob o0 _ of oe _ _ om xm _ hm (by rw [set_size]; have := hbx.size; omega) k1 hr1 hof1 hoe1 hxf1 hxe1)
 have HS1 := Lib.hid hs1
 clear ko hr hof hoe hxf hxe ko0 hr0 hof0 hoe0 hxf0 hxe0 k1 hs1 hr1 hof1 hoe1 hxf1 hxe1
 go_wp2_with (go_at_call 223; fail)
 refine hth.out.mono ?_
 rintro e w2 ⟨of2, oe2, om2, rfl, k2, hr2, hf2, he2, hs2⟩
 obtain ⟨z0, z1, z2, z3, z4⟩ := bk5 k2
 have zf := k2.frozen; have zl := def_lt' k2
 clear s0 s1 s2 s3 s4 y0 y1 y2 y3 y4 n0 n1 n2 n3 n4 of_ ol
 have k3 : Bk _ ob 205 #[o0, .slice none 0 0, of2, oe2, .bool om2] := k2.set_ 1 (.slice none 0 0)
 have hs3 := (HS1.out.trans hs2 (fun i hi => .inl hi)).set_ (p := ⟨ob, 1, none⟩) (.inl (.inl rfl)) (.slice none 0 0)
 have hr3 := hr2.put_ k2 (by decide) (by decide) (i := 1) (.slice none 0 0)
 have hf3 := hf2.put k2 (by decide) (i := 1) (.slice none 0 0)
 have he3 := he2.put k2 (by decide) (i := 1) (.slice none 0 0)
 have HE := Lib.hid (show SeqOut B m ob o0 (.slice Ab m cb) w (.returned (.tuple #[])) (w2.setCell ⟨ob, 1, none⟩ (.slice none 0 0)) from ⟨of2, oe2, om2, rfl, k3, hr3, hf3, he3, hs3⟩)
 clear k2 k3 hs3 hr3 hf3 he3 hr2 hf2 he2 hs2
 go_wp2
 go_end0
 exact HE.out
abbrev zeroT : Array Value := #[.slice none 0 0, .slice none 0 0, .slice none 0 0, .slice none 0 0, .bool false]
/-- a net that is laid -/
structure NetAt (w : World) (B nb m : Nat) (on bh f e : Value) (em : Bool) : Prop where
 n : Bk w nb 205 #[on, bh, f, e, .bool em]
 ron : Rws w B 256 on m
 rbh : Rws w B m bh m
 dj : ∀ g, on.ownBlock = some g → bh.ownBlock ≠ some g
 h : B ≤ nb
theorem Rws.ne {w : World} {B m K b : Nat} {t : TypeId} {cs : Array Value} {v : Value} (h : Rws w B m v K) (k : Bk w b t cs) (hne : 51 ≠ t) : v.ownBlock ≠ some b := by
 obtain ⟨vs, h1, -⟩ := h
 exact own_ne h1 k hne
theorem Rws.ge {w : World} {B m K : Nat} {v : Value} (h : Rws w B m v K) : ∀ g, v.ownBlock = some g → B ≤ g := by
 obtain ⟨vs, h1, -⟩ := h
 exact own_ge h1
theorem Rws.lt {w : World} {B m K : Nat} {v : Value} (h : Rws w B m v K) : ∀ g, v.ownBlock = some g → g < w.heap.size := by
 obtain ⟨vs, h1, -⟩ := h
 exact own_lt h1
theorem NsIn.ne_rws {w : World} {B B' m m' K : Nat} {v v' : Value} (h : NsIn w B m v) (k : Rws w B' m' v' K) : ∀ g, v'.ownBlock = some g → v.ownBlock ≠ some g := by
 obtain ⟨vs, k1, -⟩ := k
 exact h.ne_row k1 (by decide)
theorem NsIn.lt {w : World} {B m : Nat} {v : Value} (h : NsIn w B m v) : ∀ g, v.ownBlock = some g → g < w.heap.size := by
 obtain ⟨xs, h1, -⟩ := h
 exact own_lt h1
theorem NetAt.below {w w' : World} {B nb m : Nat} {on bh f e : Value} {em : Bool} (h : NetAt w B nb m on bh f e em) (hb : Below w.heap.size w w') : NetAt w' B nb m on bh f e em := ⟨h.n.ext hb, h.ron.below hb, h.rbh.below hb, h.dj, h.h⟩
theorem NetAt.put_ {w : World} {B nb m b i : Nat} {on bh f e : Value} {em : Bool} {t : TypeId} {cs : Array Value} (h : NetAt w B nb m on bh f e em) (k : Bk w b t cs) (hb : nb ≠ b) (h1 : 3 ≠ t) (h2 : 51 ≠ t) (u : Value) : NetAt (w.setCell ⟨b, i, none⟩ u) B nb m on bh f e em :=
 ⟨h.n.far (p := ⟨b, i, none⟩) hb u, h.ron.put_ k h1 h2 u, h.rbh.put_ k h1 h2 u, h.dj, h.h⟩
/-- what a part's places are: the net has k more -/
def PartOut (B nb m k : Nat) (on bh f e : Value) (em : Bool) (w : World) (en : Ending) (w' : World) : Prop := ∃ (fi ei : Value) (xm : Bool) (on' bh' : Value), en = .returned (.agg #[.slice none 0 0, .slice none 0 0, fi, ei, .bool xm]) ∧ NetAt w' B nb (m + k) on' bh' f e em ∧ NsIn w' B (m + k) fi ∧ NsIn w' B (m + k) ei ∧ Sti (fun i => i = nb ∨ on.ownBlock = some i ∨ bh.ownBlock = some i) w w' ∧ (∀ g, on'.ownBlock = some g → on.ownBlock = some g ∨ w.heap.size ≤ g) ∧ (∀ g, bh'.ownBlock = some g → bh.ownBlock = some g ∨ w.heap.size ≤ g)
/-- in the midst of a part -/
structure PI (w : World) (B nb : Nat) (on0 bh0 f e : Value) (em : Bool) (pc : Array Value) (wr : World) (m : Nat) (on bh fi ei : Value) (xm : Bool) : Prop where
 net : NetAt wr B nb m on bh f e em
 r : Bk wr w.heap.size 205 zeroT
 p : Bk wr (w.heap.size + 1) 192 pc
 o : Bk wr (w.heap.size + 2) 205 #[.slice none 0 0, .slice none 0 0, fi, ei, .bool xm]
 nfi : NsIn wr B m fi
 nei : NsIn wr B m ei
 s : Sti (fun i => i = nb ∨ on0.ownBlock = some i ∨ bh0.ownBlock = some i) w wr
 no : ∀ g, on.ownBlock = some g → on0.ownBlock = some g ∨ w.heap.size ≤ g
 nh : ∀ g, bh.ownBlock = some g → bh0.ownBlock = some g ∨ w.heap.size ≤ g
 lt : nb < w.heap.size
 bw : B ≤ w.heap.size
section
variable {w wr w' : World} {B nb m k : Nat} {on0 bh0 f e on bh fi ei : Value} {em xm : Bool} {pc : Array Value}
theorem PI.zero (h : NetAt w B nb m on bh f e em) (hbw : B ≤ w.heap.size) (hb : Below w.heap.size w wr) (hr : Bk wr w.heap.size 205 zeroT) (hp : Bk wr (w.heap.size + 1) 192 pc) (ho : Bk wr (w.heap.size + 2) 205 zeroT) : PI w B nb on bh f e em pc wr m on bh (.slice none 0 0) (.slice none 0 0) false :=
 ⟨h.below hb, hr, hp, ho, NsIn.nil _ _ _, NsIn.nil _ _ _, Sti.of_below hb, fun _ h => .inl h, fun _ h => .inl h, def_lt' h.n, hbw⟩
theorem PI.below (h : PI w B nb on0 bh0 f e em pc wr m on bh fi ei xm) (hb : Below wr.heap.size wr w') : PI w B nb on0 bh0 f e em pc w' m on bh fi ei xm :=
 ⟨h.net.below hb, h.r.ext hb, h.p.ext hb, h.o.ext hb, h.nfi.below hb, h.nei.below hb, h.s.trans (Sti.of_below (Y := fun _ => False) hb) (fun i hi => hi.elim), h.no, h.nh, h.lt, h.bw⟩
/-- behind a part of it -/
theorem PI.rec_ {on' bh' : Value} (h : PI w B nb on0 bh0 f e em pc wr m on bh fi ei xm) (hn : NetAt w' B nb (m + k) on' bh' f e em) (hs : Sti (fun i => i = nb ∨ on.ownBlock = some i ∨ bh.ownBlock = some i) wr w') (h1 : ∀ g, on'.ownBlock = some g → on.ownBlock = some g ∨ wr.heap.size ≤ g) (h2 : ∀ g, bh'.ownBlock = some g → bh.ownBlock = some g ∨ wr.heap.size ≤ g) : PI w B nb on0 bh0 f e em pc w' (m + k) on' bh' fi ei xm := by
 have hlt := h.lt
 have hz := h.s.size
 refine ⟨hn, hs.bk h.r ?_, hs.bk h.p ?_, hs.bk h.o ?_, (hs.ns h.nfi ?_).mono (by omega) (Nat.le_refl _), (hs.ns h.nei ?_).mono (by omega) (Nat.le_refl _), h.s.trans hs ?_, fun g hg => ?_, fun g hg => ?_, h.lt, h.bw⟩
 ·rintro (h0 | h0 | h0)
  ·omega
  ·exact h.net.ron.ne h.r (by decide) h0
  ·exact h.net.rbh.ne h.r (by decide) h0
 ·rintro (h0 | h0 | h0)
  ·omega
  ·exact h.net.ron.ne h.p (by decide) h0
  ·exact h.net.rbh.ne h.p (by decide) h0
 ·rintro (h0 | h0 | h0)
  ·omega
  ·exact h.net.ron.ne h.o (by decide) h0
  ·exact h.net.rbh.ne h.o (by decide) h0
 ·rintro g hg (h0 | h0 | h0)
  ·subst h0; exact h.nfi.ne h.net.n (by decide) hg
  ·exact h.nfi.ne_rws h.net.ron g h0 hg
  ·exact h.nfi.ne_rws h.net.rbh g h0 hg
 ·rintro g hg (h0 | h0 | h0)
  ·subst h0; exact h.nei.ne h.net.n (by decide) hg
  ·exact h.nei.ne_rws h.net.ron g h0 hg
  ·exact h.nei.ne_rws h.net.rbh g h0 hg
 ·rintro i (h0 | h0 | h0)
  ·exact .inl (.inl h0)
  ·rcases h.no i h0 with h3 | h3
   ·exact .inl (.inr (.inl h3))
   ·exact .inr h3
  ·rcases h.nh i h0 with h3 | h3
   ·exact .inl (.inr (.inr h3))
   ·exact .inr h3
 ·rcases h1 g hg with h3 | h3
  ·exact h.no g h3
  ·exact .inr (by omega)
 ·rcases h2 g hg with h3 | h3
  ·exact h.nh g h3
  ·exact .inr (by omega)
/-- what it is made of is set -/
theorem PI.set (h : PI w B nb on0 bh0 f e em pc wr m on bh fi ei xm) (j : Nat) (u : Value) {fi' ei' : Value} {xm' : Bool} (hk : Bk (wr.setCell ⟨w.heap.size + 2, j, none⟩ u) (w.heap.size + 2) 205 #[.slice none 0 0, .slice none 0 0, fi', ei', .bool xm']) (hf : NsIn wr B m fi') (he : NsIn wr B m ei') : PI w B nb on0 bh0 f e em pc (wr.setCell ⟨w.heap.size + 2, j, none⟩ u) m on bh fi' ei' xm' := by
 have hlt := h.lt
 exact ⟨h.net.put_ h.o (by omega) (by decide) (by decide) u, h.r.far (p := ⟨w.heap.size + 2, j, none⟩) (by simp) _, h.p.far (p := ⟨w.heap.size + 2, j, none⟩) (by simp) _, hk, hf.put h.o (by decide) u, he.put h.o (by decide) u, h.s.set_ (p := ⟨w.heap.size + 2, j, none⟩) (.inr (by simp)) _, h.no, h.nh, h.lt, h.bw⟩
/-- behind a seq -/
theorem PI.seq {fi' ei' : Value} {xm' : Bool} (h : PI w B nb on0 bh0 f e em pc wr m on bh fi ei xm) (hk : Bk w' (w.heap.size + 2) 205 #[.slice none 0 0, .slice none 0 0, fi', ei', .bool xm']) (hr : Rws w' B m bh m) (hf : NsIn w' B m fi') (he : NsIn w' B m ei') (hs : Sti (fun i => i = w.heap.size + 2 ∨ bh.ownBlock = some i) wr w') : PI w B nb on0 bh0 f e em pc w' m on bh fi' ei' xm' := by
 have hlt := h.lt
 have hz := h.s.size
 have hn := h.net
 refine ⟨⟨hs.bk hn.n ?_, hn.ron.sti hs ?_ ?_, hr, hn.dj, hn.h⟩, hs.bk h.r ?_, hs.bk h.p ?_, hk, hf, he, h.s.trans hs ?_, h.no, h.nh, h.lt, h.bw⟩
 ·rintro (h0 | h0)
  ·omega
  ·exact hn.rbh.ne hn.n (by decide) h0
 ·rintro g hg (h0 | h0)
  ·subst h0; exact hn.ron.ne h.o (by decide) hg
  ·exact hn.dj g hg h0
 ·rintro u hu g hg (h0 | h0)
  ·subst h0; exact hu.ne h.o (by decide) hg
  ·exact hu.ne_rws hn.rbh g h0 hg
 ·rintro (h0 | h0)
  ·omega
  ·exact hn.rbh.ne h.r (by decide) h0
 ·rintro (h0 | h0)
  ·omega
  ·exact hn.rbh.ne h.p (by decide) h0
 ·rintro i (h0 | h0)
  ·exact .inr (by omega)
  ·rcases h.nh i h0 with h3 | h3
   ·exact .inl (.inr (.inr h3))
   ·exact .inr h3
end
def set5 (w : World) (b : Nat) (x0 x1 x2 x3 x4 : Value) : World := ((((w.setCell ⟨b, 0, none⟩ x0).setCell ⟨b, 1, none⟩ x1).setCell ⟨b, 2, none⟩ x2).setCell ⟨b, 3, none⟩ x3).setCell ⟨b, 4, none⟩ x4
theorem set5_bk {w : World} {b : Nat} {t : TypeId} {y0 y1 y2 y3 y4 : Value} (k : Bk w b t #[y0, y1, y2, y3, y4]) (x0 x1 x2 x3 x4 : Value) : Bk (set5 w b x0 x1 x2 x3 x4) b t #[x0, x1, x2, x3, x4] := by
 have q0 : Bk _ b t #[x0, y1, y2, y3, y4] := k.set_ 0 x0
 have q1 : Bk _ b t #[x0, x1, y2, y3, y4] := q0.set_ 1 x1
 have q2 : Bk _ b t #[x0, x1, x2, y3, y4] := q1.set_ 2 x2
 have q3 : Bk _ b t #[x0, x1, x2, x3, y4] := q2.set_ 3 x3
 have q4 : Bk _ b t #[x0, x1, x2, x3, x4] := q3.set_ 4 x4
 exact q4
theorem set5_sti (w : World) (b : Nat) (x0 x1 x2 x3 x4 : Value) : Sti (fun i => i = b) w (set5 w b x0 x1 x2 x3 x4) := by
 unfold set5
 have h0 := (Sti.refl (fun i => i = b) w).set_ (p := ⟨b, 0, none⟩) (.inl rfl) x0
 have h1 := h0.set_ (p := ⟨b, 1, none⟩) (.inl rfl) x1
 have h2 := h1.set_ (p := ⟨b, 2, none⟩) (.inl rfl) x2
 have h3 := h2.set_ (p := ⟨b, 3, none⟩) (.inl rfl) x3
 exact h3.set_ (p := ⟨b, 4, none⟩) (.inl rfl) x4
/-- how a part is left -/
theorem PI.left {w wr : World} {B nb m k : Nat} {on0 bh0 f e on bh fi ei : Value} {em xm : Bool} {pc : Array Value} (h : PI w B nb on0 bh0 f e em pc wr (m + k) on bh fi ei xm) : PartOut B nb m k on0 bh0 f e em w (.returned (.agg #[.slice none 0 0, .slice none 0 0, fi, ei, .bool xm])) (set5 wr w.heap.size (.slice none 0 0) (.slice none 0 0) fi ei (.bool xm)) ∧ Bk (set5 wr w.heap.size (.slice none 0 0) (.slice none 0 0) fi ei (.bool xm)) w.heap.size 205 #[.slice none 0 0, .slice none 0 0, fi, ei, .bool xm] := by
 have hs := set5_sti wr w.heap.size (.slice none 0 0) (.slice none 0 0) fi ei (.bool xm)
 have hlt := h.lt
 have hn := h.net
 refine ⟨⟨fi, ei, xm, on, bh, rfl, ⟨hs.bk hn.n (by omega), hn.ron.sti hs ?_ ?_, hn.rbh.sti hs ?_ ?_, hn.dj, hn.h⟩, hs.ns h.nfi ?_, hs.ns h.nei ?_, h.s.trans hs (fun i hi => .inr (by omega)), h.no, h.nh⟩, set5_bk h.r _ _ _ _ _⟩
 ·rintro g hg h0; have h0 : g = w.heap.size := h0; subst h0; exact hn.ron.ne h.r (by decide) hg
 ·rintro u hu g hg h0; have h0 : g = w.heap.size := h0; subst h0; exact hu.ne h.r (by decide) hg
 ·rintro g hg h0; have h0 : g = w.heap.size := h0; subst h0; exact hn.rbh.ne h.r (by decide) hg
 ·rintro u hu g hg h0; have h0 : g = w.heap.size := h0; subst h0; exact hu.ne h.r (by decide) hg
 ·rintro g hg h0; have h0 : g = w.heap.size := h0; subst h0; exact h.nfi.ne h.r (by decide) hg
 ·rintro g hg h0; have h0 : g = w.heap.size := h0; subst h0; exact h.nei.ne h.r (by decide) hg
/-- the places of a part, whatever net they are laid into -/
def PartAny (w0 : World) (pb n c mb ec : Nat) (A EA : Option Addr) (l : List Pt) (mg : List Mg) (i : Nat) : Prop := ∀ (nb m : Nat) (on bh f e : Value) (em : Bool) (w : World), Below w0.heap.size w0 w → NetAt w w0.heap.size nb m on bh f e em → m + mn l i ≤ 256 → Calls Tryz.prog 157 #[.pointer (some ⟨nb, 0, none⟩), .slice A n c, .int .i64 i, .slice EA mg.length ec] w (PartOut w0.heap.size nb m (mn l i) on bh f e em w)
theorem part_or (w00 : World) (pb n c mb ec : Nat) (A EA : Option Addr) (l : List Pt) (mg : List Mg) (i : Nat) (p : Pt) (hpi : l[i]? = some p) (hk : p.k = 3) (hp : Parts w00 pb (.slice A n c) n l) (hn : n ≤ 1000) (hg : MgsIn w00 mb (.slice EA mg.length ec) mg) (hgl : mg.length ≤ 100000) (ih : ∀ i', i' < i → PartAny w00 pb n c mb ec A EA l mg i') : PartAny w00 pb n c mb ec A EA l mg i := by
 intro nb m on bh f e em w hbw hnet hm
 have hzw := hbw.size
 have hok := hp.ok i p hpi
 have hin : i < n := by have := hp.len; have := (List.getElem?_eq_some_iff.1 hpi).1; omega
 have hkown := own_below (hp.own i p hpi) hbw
 have hkl : p.ks.length = p.m := by have := hkown.1; simpa [nts] using this
 have hmn := mn_eq hpi hok.kid
 obtain ⟨ab, ao, rfl, hab, hcc⟩ := (hp.below hbw).at_ hpi
 have c0 : w.cell? ⟨ab, ao + i * 5, none⟩ = some (.int .i64 p.k) := hcc 0 (by omega)
 have c1 : w.cell? ⟨ab, ao + i * 5 + 1, none⟩ = some (.int .i64 p.lo) := hcc 1 (by omega)
 have c2 : w.cell? ⟨ab, ao + i * 5 + 2, none⟩ = some (.int .i64 p.hi) := hcc 2 (by omega)
 have c3 : w.cell? ⟨ab, ao + i * 5 + 3, none⟩ = some (.string p.nm) := hcc 3 (by omega)
 have c4 : w.cell? ⟨ab, ao + i * 5 + 4, none⟩ = some (.slice p.A p.m p.c) := hcc 4 (by omega)
 unfold tms at hmn
 obtain ⟨pk, plo, phi, pnm, pA, pm, pc, pks, ps⟩ := p
 obtain ⟨⟨k1, k2⟩, ⟨lo1, lo2⟩, ⟨hi1, hi2⟩, nm1, hone, -, m1, kid1⟩ := hok
 dsimp only at *
 have HP := Lib.hid hp
 have HG := Lib.hid hg
 have HKO := Lib.hid hkown
 have HKL := Lib.hid hkl
 have HKID := Lib.hid kid1
 have IH := Lib.hid ih
 have HMN := Lib.hid hmn
 have HNET := Lib.hid hnet
 have HONE := Lib.hid hone
 have HM := Lib.hid hm
 have i0 : (0 : Int) ≤ i := by omega
 have i1 : (i : Int) < n := by omega
 have HK := Lib.hid hk
 clear hp hkown hkl kid1 ih hcc hpi hmn hone hg hnet hk hm
 have HGE := Lib.hid (And.intro HNET.out.ron.ge HNET.out.rbh.ge)
 have hky : ∀ g, (Pt.v ⟨pk, plo, phi, pnm, pA, pm, pc, pks, ps⟩).ownBlock = some g → ¬ (g = nb ∨ on.ownBlock = some g ∨ bh.ownBlock = some g) := by
  rintro g hg (h0 | h0 | h0)
  ·subst h0; exact own_ne HKO.out HNET.out.n (by decide) hg
  ·obtain ⟨vs, hv, -⟩ := id HNET.out.ron; exact hown_type HKO.out hv (by decide) g h0 hg
  ·obtain ⟨vs, hv, -⟩ := id HNET.out.rbh; exact hown_type HKO.out hv (by decide) g h0 hg
 have HKY := Lib.hid hky
 have hnbl := def_lt' HNET.out.n
 clear hky
 go_enter Tryz.func157, Tryz.ntmps157
 go_upto_region 3 with fail
 have kr : Bk (((w.alloc (.cells zeroT 205)).alloc (.cells #[.int .i64 pk, .int .i64 plo, .int .i64 phi, .string pnm, .slice pA pm pc] 192)).alloc (.cells zeroT 205)) w.heap.size 205 zeroT := ((Bk.new w _ _).alloc _).alloc _
 have kp : Bk (((w.alloc (.cells zeroT 205)).alloc (.cells #[.int .i64 pk, .int .i64 plo, .int .i64 phi, .string pnm, .slice pA pm pc] 192)).alloc (.cells zeroT 205)) (w.heap.size + 1) 192 #[.int .i64 pk, .int .i64 plo, .int .i64 phi, .string pnm, .slice pA pm pc] := (Bk.made _ _ (by simp)).alloc _
 have ko : Bk (((w.alloc (.cells zeroT 205)).alloc (.cells #[.int .i64 pk, .int .i64 plo, .int .i64 phi, .string pnm, .slice pA pm pc] 192)).alloc (.cells zeroT 205)) (w.heap.size + 2) 205 zeroT := Bk.made _ _ (by simp)
 have hb0 : Below w.heap.size w (((w.alloc (.cells zeroT 205)).alloc (.cells #[.int .i64 pk, .int .i64 plo, .int .i64 phi, .string pnm, .slice pA pm pc] 192)).alloc (.cells zeroT 205)) := belowA
 generalize ((w.alloc (.cells zeroT 205)).alloc (.cells #[.int .i64 pk, .int .i64 plo, .int .i64 phi, .string pnm, .slice pA pm pc] 192)).alloc (.cells zeroT 205) = w0 at *
 have hI0 := Lib.hid (PI.zero HNET.out hzw hb0 kr kp ko)
 clear kr kp ko hb0 c0 c1 c2 c3 c4 HNET
 have e1 : (pk == 1) = false := by rw [HK.out]; rfl
 have e3 : (pk == 3) = true := by rw [HK.out]; rfl
 have HSUM := Lib.hid (show mn l i = (pks.map (mn l)).sum by rw [HMN.out, if_neg (by rw [HK.out]; omega), if_neg (by rw [HK.out]; omega), Nat.mul_one])
 clear HMN
 obtain ⟨s0, s1, s2, s3, s4⟩ := bk5 hI0.out.o
 obtain ⟨q0, q1, q2, q3, q4⟩ := bk5 hI0.out.p
 obtain ⟨r0, r1, r2, r3, r4⟩ := bk5 (show Bk _ w.heap.size 205 zeroT from hI0.out.r)
 have sf := hI0.out.o.frozen; have sl := def_lt' hI0.out.o
 have rf := hI0.out.r.frozen; have rl := def_lt' hI0.out.r
 go_wp2
 clear s0 s1 s2 s3 s4 q0 q1 q2 q3 q4 r0 r1 r2 r3 r4 sf sl rf rl
 go_loopw [12] (fun j wr => ∃ (q M : Nat) (on' bh' fi ei : Value) (xm : Bool), q ≤ pm ∧ j = .int .i64 q ∧ Hid (M = m + ((pks.take q).map (mn l)).sum) ∧ Hid (PI w w00.heap.size nb on bh f e em #[.int .i64 pk, .int .i64 plo, .int .i64 phi, .string pnm, .slice pA pm pc] wr M on' bh' fi ei xm)) (fun j _ => pm - (intOf j).toNat)
 case atStart => exact ⟨0, m, on, bh, _, _, _, by omega, rfl, Lib.hid (by simp), hI0⟩
 case round =>
  clear hI0
  obtain ⟨q, M, on', bh', fi, ei, xm, hq, rfl, hM, hI⟩ := hrel
  obtain ⟨Af, cf, lf, rfl, hlf, -, -⟩ := hI.out.nfi.form
  obtain ⟨Ae, ce, le, rfl, hle, -, -⟩ := hI.out.nei.form
  have hlf2 := hlf.len
  have hle2 := hle.len
  generalize lf.length = fn at *
  generalize le.length = en at *
  clear hlf hle
  obtain ⟨s0, s1, s2, s3, s4⟩ := bk5 hI.out.o
  obtain ⟨q0, q1, q2, q3, q4⟩ := bk5 hI.out.p
  obtain ⟨r0, r1, r2, r3, r4⟩ := bk5 (show Bk _ w.heap.size 205 zeroT from hI.out.r)
  have sf := hI.out.o.frozen; have sl := def_lt' hI.out.o
  have rf := hI.out.r.frozen; have rl := def_lt' hI.out.r
  by_cases hlt : q < pm
  ·have e4 : (q : Int) < pm := by omega
   obtain ⟨x, hx⟩ : ∃ x, pks[q]? = some x := ⟨_, List.getElem?_eq_getElem (by rw [HKL.out]; exact hlt)⟩
   have hxi := HKID.out x (List.mem_of_getElem? hx)
   have hkx := map_take (l := l) hx
   have htl : ((pks.take (q + 1)).map (mn l)).sum ≤ (pks.map (mn l)).sum := by
    have h1 := List.take_append_drop (q + 1) pks
    have h2 : (pks.map (mn l)).sum = ((pks.take (q + 1)).map (mn l)).sum + ((pks.drop (q + 1)).map (mn l)).sum := by rw [← List.sum_append, ← List.map_append, h1]
    omega
   have hbr := hI.out.s.below (B := w00.heap.size) (by rintro j (h0 | h0 | h0); (· have := hI.out.net.h; omega); (· exact HGE.out.1 j h0); (· exact HGE.out.2 j h0)) hzw
   have hbrw : Below w00.heap.size w00 wr := hbw.trans hbr
   have hkr := hI.out.s.own HKO.out HKY.out
   obtain ⟨kb, ko, rfl, hkc⟩ := nts_cell hkr (show 0 < pm by omega)
   have hk0 := hkc q x hx
   have hsum := HSUM.out
   have hbound : M + mn l x ≤ 256 := by have := HM.out; have := hM.out; omega
   have hih := Lib.hid (IH.out x hxi nb M on' bh' f e em wr hbrw hI.out.net hbound)
   have hMN := Lib.hid (show M + mn l x = m + ((pks.take (q + 1)).map (mn l)).sum by rw [hkx]; have := hM.out; omega)
   have x0 : (0 : Int) ≤ x := by omega
   have x1 : (x : Int) < n := by omega
   clear hx hkc hkx htl hkr
   go_wp2_with (go_at_call 157; fail)
   refine hih.out.mono ?_
   rintro e w5 ⟨xfi, xei, xxm, on2, bh2, rfl, hn5, hxf5, hxe5, hs5, ho5, hh5⟩
   have hI5 := Lib.hid (hI.out.rec_ hn5 hs5 ho5 hh5)
   obtain ⟨Ag, cg, lg, rfl, hlg, -, -⟩ := hxf5.form
   obtain ⟨Ah, ch, lh, rfl, hlh, -, -⟩ := hxe5.form
   have hlg2 := hlg.len
   have hlh2 := hlh.len
   generalize lg.length = gn at *
   generalize lh.length = hnn at *
   have HX5 := Lib.hid (And.intro hxf5 hxe5)
   clear hlg hlh hn5 hs5 ho5 hh5 hxf5 hxe5 hI hih hM
   clear s0 s1 s2 s3 s4 q0 q1 q2 q3 q4 r0 r1 r2 r3 r4 sf sl rf rl
   go_upto_region 15 with fail
   have hb6 : Below w5.heap.size w5 (w5.alloc (.cells #[.slice none 0 0, .slice none 0 0, .slice Ag gn cg, .slice Ah hnn ch, .bool xxm] 205)) := belowA
   have kx := Bk.new w5 205 #[.slice none 0 0, .slice none 0 0, .slice Ag gn cg, .slice Ah hnn ch, .bool xxm]
   generalize w5.alloc (.cells #[.slice none 0 0, .slice none 0 0, .slice Ag gn cg, .slice Ah hnn ch, .bool xxm] 205) = w6 at *
   have hI6 := Lib.hid (hI5.out.below hb6)
   have hl5 := def_lt' hI5.out.o
   have HX6 := Lib.hid (And.intro (HX5.out.1.below hb6) (HX5.out.2.below hb6))
   have hbB : w00.heap.size ≤ w6.heap.size := by have := hI6.out.s.size; omega
   obtain ⟨s0, s1, s2, s3, s4⟩ := bk5 hI6.out.o
   obtain ⟨q0, q1, q2, q3, q4⟩ := bk5 hI6.out.p
   obtain ⟨r0, r1, r2, r3, r4⟩ := bk5 (show Bk _ w.heap.size 205 zeroT from hI6.out.r)
   have sf := hI6.out.o.frozen; have sl := def_lt' hI6.out.o
   have rf := hI6.out.r.frozen; have rl := def_lt' hI6.out.r
   obtain ⟨y0, y1, y2, y3, y4⟩ := bk5 kx
   have yl := def_lt' kx
   have hor := Lib.hid (or_any _ _ w00.heap.size w00.heap.size (M + mn l x) w6 (by omega) hI6.out.nfi HX6.out.1)
   go_wp2_with (go_at_call 196; fail)
   refine hor.out.mono ?_
   rintro e w7 ⟨v7, rfl, hv7, hb7⟩
   have hI7 := hI6.out.below hb7
   have hv7' : NsIn w7 w00.heap.size (M + mn l x) v7 := hv7.mono (Nat.le_refl _) hbB
   obtain ⟨A7, c7, l7, rfl, -, -, -⟩ := hv7.form
   generalize l7.length = n7 at *
   have hI8 := Lib.hid (hI7.set 2 (.slice A7 n7 c7) (hI7.o.set_ 2 _) hv7' hI7.nei)
   have kx7 := kx.ext hb7
   have kx8 := kx7.far (p := ⟨w.heap.size + 2, 2, none⟩) (by simp; omega) (.slice A7 n7 c7)
   have hx8 := (HX6.out.2.below hb7).put hI7.o (by decide) (i := 2) (.slice A7 n7 c7)
   have HX8 := Lib.hid hx8
   clear s0 s1 s2 s3 s4 q0 q1 q2 q3 q4 r0 r1 r2 r3 r4 sf sl rf rl
   clear y0 y1 y2 y3 y4 yl
   obtain ⟨s0, s1, s2, s3, s4⟩ := bk5 hI7.o
   have sf := hI7.o.frozen; have sl := def_lt' hI7.o
   go_upto_region 16 with fail
   generalize w7.setCell ⟨w.heap.size + 2, 2, none⟩ (.slice A7 n7 c7) = w8 at *
   clear s0 s1 s2 s3 s4 sf sl hI7 hv7 hv7' hx8 hI6 hor hb7 kx kx7
   obtain ⟨s0, s1, s2, s3, s4⟩ := bk5 hI8.out.o
   obtain ⟨q0, q1, q2, q3, q4⟩ := bk5 hI8.out.p
   obtain ⟨r0, r1, r2, r3, r4⟩ := bk5 (show Bk _ w.heap.size 205 zeroT from hI8.out.r)
   have sf := hI8.out.o.frozen; have sl := def_lt' hI8.out.o
   have rf := hI8.out.r.frozen; have rl := def_lt' hI8.out.r
   obtain ⟨y0, y1, y2, y3, y4⟩ := bk5 kx8
   have yl := def_lt' kx8
   have hbB8 : w00.heap.size ≤ w8.heap.size := by have := hI8.out.s.size; omega
   have hor := Lib.hid (or_any _ _ w00.heap.size w00.heap.size (M + mn l x) w8 (by omega) hI8.out.nei HX8.out)
   go_wp2_with (go_at_call 196; fail)
   refine hor.out.mono ?_
   rintro e w9 ⟨v9, rfl, hv9, hb9⟩
   have hI9 := hI8.out.below hb9
   have hv9' : NsIn w9 w00.heap.size (M + mn l x) v9 := hv9.mono (Nat.le_refl _) hbB8
   obtain ⟨A9, c9, l9, rfl, -, -, -⟩ := hv9.form
   generalize l9.length = n9 at *
   have hI10 := Lib.hid (hI9.set 3 (.slice A9 n9 c9) (hI9.o.set_ 3 _) hI9.nfi hv9')
   have kx9 := kx8.ext hb9
   have kx10 := kx9.far (p := ⟨w.heap.size + 2, 3, none⟩) (by simp; omega) (.slice A9 n9 c9)
   clear s0 s1 s2 s3 s4 q0 q1 q2 q3 q4 r0 r1 r2 r3 r4 sf sl rf rl
   clear y0 y1 y2 y3 y4 yl
   obtain ⟨s0, s1, s2, s3, s4⟩ := bk5 hI9.o
   have sf := hI9.o.frozen; have sl := def_lt' hI9.o
   go_upto_region 17 with fail
   generalize w9.setCell ⟨w.heap.size + 2, 3, none⟩ (.slice A9 n9 c9) = w10 at *
   clear s0 s1 s2 s3 s4 sf sl hI9 hv9 hv9' hI8 hor hb9 kx8 kx9
   obtain ⟨s0, s1, s2, s3, s4⟩ := bk5 hI10.out.o
   obtain ⟨q0, q1, q2, q3, q4⟩ := bk5 hI10.out.p
   obtain ⟨r0, r1, r2, r3, r4⟩ := bk5 (show Bk _ w.heap.size 205 zeroT from hI10.out.r)
   have sf := hI10.out.o.frozen; have sl := def_lt' hI10.out.o
   have rf := hI10.out.r.frozen; have rl := def_lt' hI10.out.r
   obtain ⟨y0, y1, y2, y3, y4⟩ := bk5 kx10
   have yl := def_lt' kx10
   cases xm <;> cases xxm
   all_goals
    go_wp2
    go_roundw
    case rel => exact ⟨q + 1, M + mn l x, on2, bh2, _, _, _, by omega, by go_num, hMN, Lib.hid (hI10.out.set 4 _ (hI10.out.o.set_ 4 _) hI10.out.nfi hI10.out.nei)⟩
    case measure => simp [intOf]; omega
  ·obtain rfl : pm = q := by omega
   have hMM : M = m + mn l i := by
    have h1 := hM.out
    rw [List.take_of_length_le (by rw [HKL.out]; exact Nat.le_refl _)] at h1
    have := HSUM.out
    omega
   subst hMM
   go_wp2
   obtain ⟨hL1, hL2⟩ := hI.out.left
   unfold set5 at hL1 hL2
   obtain ⟨z0, z1, z2, z3, z4⟩ := bk5 hL2
   exact bodyPost_ret (v := .agg #[.slice none 0 0, .slice none 0 0, .slice Af fn cf, .slice Ae en ce, .bool xm]) (by simp [results, Tryz.results157, go_sem, z0, z1, z2, z3, z4]) rfl hL1
theorem part_seq (w00 : World) (pb n c mb ec : Nat) (A EA : Option Addr) (l : List Pt) (mg : List Mg) (i : Nat) (p : Pt) (hpi : l[i]? = some p) (hk : p.k = 2) (hp : Parts w00 pb (.slice A n c) n l) (hn : n ≤ 1000) (hg : MgsIn w00 mb (.slice EA mg.length ec) mg) (hgl : mg.length ≤ 100000) (ih : ∀ i', i' < i → PartAny w00 pb n c mb ec A EA l mg i') : PartAny w00 pb n c mb ec A EA l mg i := by
 intro nb m on bh f e em w hbw hnet hm
 have hzw := hbw.size
 have hok := hp.ok i p hpi
 have hin : i < n := by have := hp.len; have := (List.getElem?_eq_some_iff.1 hpi).1; omega
 have hkown := own_below (hp.own i p hpi) hbw
 have hkl : p.ks.length = p.m := by have := hkown.1; simpa [nts] using this
 have hmn := mn_eq hpi hok.kid
 obtain ⟨ab, ao, rfl, hab, hcc⟩ := (hp.below hbw).at_ hpi
 have c0 : w.cell? ⟨ab, ao + i * 5, none⟩ = some (.int .i64 p.k) := hcc 0 (by omega)
 have c1 : w.cell? ⟨ab, ao + i * 5 + 1, none⟩ = some (.int .i64 p.lo) := hcc 1 (by omega)
 have c2 : w.cell? ⟨ab, ao + i * 5 + 2, none⟩ = some (.int .i64 p.hi) := hcc 2 (by omega)
 have c3 : w.cell? ⟨ab, ao + i * 5 + 3, none⟩ = some (.string p.nm) := hcc 3 (by omega)
 have c4 : w.cell? ⟨ab, ao + i * 5 + 4, none⟩ = some (.slice p.A p.m p.c) := hcc 4 (by omega)
 unfold tms at hmn
 obtain ⟨pk, plo, phi, pnm, pA, pm, pc, pks, ps⟩ := p
 obtain ⟨⟨k1, k2⟩, ⟨lo1, lo2⟩, ⟨hi1, hi2⟩, nm1, hone, -, m1, kid1⟩ := hok
 dsimp only at *
 have HP := Lib.hid hp
 have HG := Lib.hid hg
 have HKO := Lib.hid hkown
 have HKL := Lib.hid hkl
 have HKID := Lib.hid kid1
 have IH := Lib.hid ih
 have HMN := Lib.hid hmn
 have HNET := Lib.hid hnet
 have HONE := Lib.hid hone
 have HM := Lib.hid hm
 have i0 : (0 : Int) ≤ i := by omega
 have i1 : (i : Int) < n := by omega
 have HK := Lib.hid hk
 clear hp hkown hkl kid1 ih hcc hpi hmn hone hg hnet hk hm
 have HGE := Lib.hid (And.intro HNET.out.ron.ge HNET.out.rbh.ge)
 have hky : ∀ g, (Pt.v ⟨pk, plo, phi, pnm, pA, pm, pc, pks, ps⟩).ownBlock = some g → ¬ (g = nb ∨ on.ownBlock = some g ∨ bh.ownBlock = some g) := by
  rintro g hg (h0 | h0 | h0)
  ·subst h0; exact own_ne HKO.out HNET.out.n (by decide) hg
  ·obtain ⟨vs, hv, -⟩ := id HNET.out.ron; exact hown_type HKO.out hv (by decide) g h0 hg
  ·obtain ⟨vs, hv, -⟩ := id HNET.out.rbh; exact hown_type HKO.out hv (by decide) g h0 hg
 have HKY := Lib.hid hky
 have hnbl := def_lt' HNET.out.n
 clear hky
 go_enter Tryz.func157, Tryz.ntmps157
 go_upto_region 3 with fail
 have kr : Bk (((w.alloc (.cells zeroT 205)).alloc (.cells #[.int .i64 pk, .int .i64 plo, .int .i64 phi, .string pnm, .slice pA pm pc] 192)).alloc (.cells zeroT 205)) w.heap.size 205 zeroT := ((Bk.new w _ _).alloc _).alloc _
 have kp : Bk (((w.alloc (.cells zeroT 205)).alloc (.cells #[.int .i64 pk, .int .i64 plo, .int .i64 phi, .string pnm, .slice pA pm pc] 192)).alloc (.cells zeroT 205)) (w.heap.size + 1) 192 #[.int .i64 pk, .int .i64 plo, .int .i64 phi, .string pnm, .slice pA pm pc] := (Bk.made _ _ (by simp)).alloc _
 have ko : Bk (((w.alloc (.cells zeroT 205)).alloc (.cells #[.int .i64 pk, .int .i64 plo, .int .i64 phi, .string pnm, .slice pA pm pc] 192)).alloc (.cells zeroT 205)) (w.heap.size + 2) 205 zeroT := Bk.made _ _ (by simp)
 have hb0 : Below w.heap.size w (((w.alloc (.cells zeroT 205)).alloc (.cells #[.int .i64 pk, .int .i64 plo, .int .i64 phi, .string pnm, .slice pA pm pc] 192)).alloc (.cells zeroT 205)) := belowA
 generalize ((w.alloc (.cells zeroT 205)).alloc (.cells #[.int .i64 pk, .int .i64 plo, .int .i64 phi, .string pnm, .slice pA pm pc] 192)).alloc (.cells zeroT 205) = w0 at *
 have hI0 := Lib.hid (PI.zero HNET.out hzw hb0 kr kp ko)
 clear kr kp ko hb0 c0 c1 c2 c3 c4 HNET
 have e1 : (pk == 1) = false := by rw [HK.out]; rfl
 have e3 : (pk == 3) = false := by rw [HK.out]; rfl
 have e2 : (pk == 2) = true := by rw [HK.out]; rfl
 have HSUM := Lib.hid (show mn l i = (pks.map (mn l)).sum by rw [HMN.out, if_neg (by rw [HK.out]; omega), if_neg (by rw [HK.out]; omega), Nat.mul_one])
 clear HMN
 obtain ⟨s0, s1, s2, s3, s4⟩ := bk5 hI0.out.o
 obtain ⟨q0, q1, q2, q3, q4⟩ := bk5 hI0.out.p
 obtain ⟨r0, r1, r2, r3, r4⟩ := bk5 (show Bk _ w.heap.size 205 zeroT from hI0.out.r)
 have sf := hI0.out.o.frozen; have sl := def_lt' hI0.out.o
 have rf := hI0.out.r.frozen; have rl := def_lt' hI0.out.r
 have hI1 := Lib.hid (hI0.out.set 4 (.bool true) (hI0.out.o.set_ 4 _) hI0.out.nfi hI0.out.nei)
 go_wp2
 clear s0 s1 s2 s3 s4 q0 q1 q2 q3 q4 r0 r1 r2 r3 r4 sf sl rf rl hI0
 go_loopw [14] (fun j wr => ∃ (q M : Nat) (on' bh' fi ei : Value) (xm : Bool), q ≤ pm ∧ j = .int .i64 q ∧ Hid (M = m + ((pks.take q).map (mn l)).sum) ∧ Hid (PI w w00.heap.size nb on bh f e em #[.int .i64 pk, .int .i64 plo, .int .i64 phi, .string pnm, .slice pA pm pc] wr M on' bh' fi ei xm)) (fun j _ => pm - (intOf j).toNat)
 case atStart => exact ⟨0, m, on, bh, _, _, _, by omega, rfl, Lib.hid (by simp), hI1⟩
 case round =>
  clear hI1
  obtain ⟨q, M, on', bh', fi, ei, xm, hq, rfl, hM, hI⟩ := hrel
  obtain ⟨Af, cf, lf, rfl, hlf, -, -⟩ := hI.out.nfi.form
  obtain ⟨Ae, ce, le, rfl, hle, -, -⟩ := hI.out.nei.form
  generalize lf.length = fn at *
  generalize le.length = en at *
  clear hlf hle
  obtain ⟨s0, s1, s2, s3, s4⟩ := bk5 hI.out.o
  obtain ⟨q0, q1, q2, q3, q4⟩ := bk5 hI.out.p
  obtain ⟨r0, r1, r2, r3, r4⟩ := bk5 (show Bk _ w.heap.size 205 zeroT from hI.out.r)
  have sf := hI.out.o.frozen; have sl := def_lt' hI.out.o
  have rf := hI.out.r.frozen; have rl := def_lt' hI.out.r
  by_cases hlt : q < pm
  ·have e4 : (q : Int) < pm := by omega
   obtain ⟨x, hx⟩ : ∃ x, pks[q]? = some x := ⟨_, List.getElem?_eq_getElem (by rw [HKL.out]; exact hlt)⟩
   have hxi := HKID.out x (List.mem_of_getElem? hx)
   have hkx := map_take (l := l) hx
   have htl : ((pks.take (q + 1)).map (mn l)).sum ≤ (pks.map (mn l)).sum := by
    have h1 := List.take_append_drop (q + 1) pks
    have h2 : (pks.map (mn l)).sum = ((pks.take (q + 1)).map (mn l)).sum + ((pks.drop (q + 1)).map (mn l)).sum := by rw [← List.sum_append, ← List.map_append, h1]
    omega
   have hbr := hI.out.s.below (B := w00.heap.size) (by rintro j (h0 | h0 | h0); (· have := hI.out.net.h; omega); (· exact HGE.out.1 j h0); (· exact HGE.out.2 j h0)) hzw
   have hbrw : Below w00.heap.size w00 wr := hbw.trans hbr
   have hkr := hI.out.s.own HKO.out HKY.out
   obtain ⟨kb, ko, rfl, hkc⟩ := nts_cell hkr (show 0 < pm by omega)
   have hk0 := hkc q x hx
   have hsum := HSUM.out
   have hbound : M + mn l x ≤ 256 := by have := HM.out; have := hM.out; omega
   have hih := Lib.hid (IH.out x hxi nb M on' bh' f e em wr hbrw hI.out.net hbound)
   have hMN := Lib.hid (show M + mn l x = m + ((pks.take (q + 1)).map (mn l)).sum by rw [hkx]; have := hM.out; omega)
   have x0 : (0 : Int) ≤ x := by omega
   have x1 : (x : Int) < n := by omega
   clear hx hkc hkx htl hkr
   go_wp2_with (go_at_call 157; fail)
   refine hih.out.mono ?_
   rintro e w5 ⟨xfi, xei, xxm, on2, bh2, rfl, hn5, hxf5, hxe5, hs5, ho5, hh5⟩
   have hI5 := Lib.hid (hI.out.rec_ hn5 hs5 ho5 hh5)
   obtain ⟨Ag, cg, lg, rfl, hlg, -, -⟩ := hxf5.form
   obtain ⟨Ah, ch, lh, rfl, hlh, -, -⟩ := hxe5.form
   generalize lg.length = gn at *
   generalize lh.length = hnn at *
   have HX5 := Lib.hid (And.intro hxf5 hxe5)
   clear hlg hlh hn5 hs5 ho5 hh5 hxf5 hxe5 hI hih hM
   clear s0 s1 s2 s3 s4 q0 q1 q2 q3 q4 r0 r1 r2 r3 r4 sf sl rf rl
   go_upto_region 25 with fail
   have hb6 : Below w5.heap.size w5 (w5.alloc (.cells #[.slice none 0 0, .slice none 0 0, .slice Ag gn cg, .slice Ah hnn ch, .bool xxm] 205)) := belowA
   have kx := Bk.new w5 205 #[.slice none 0 0, .slice none 0 0, .slice Ag gn cg, .slice Ah hnn ch, .bool xxm]
   generalize w5.alloc (.cells #[.slice none 0 0, .slice none 0 0, .slice Ag gn cg, .slice Ah hnn ch, .bool xxm] 205) = w6 at *
   have hI6 := Lib.hid (hI5.out.below hb6)
   have hl5 := def_lt' hI5.out.o
   have HX6 := Lib.hid (And.intro (HX5.out.1.below hb6) (HX5.out.2.below hb6))
   have hbB : w00.heap.size ≤ w6.heap.size := by have := hI6.out.s.size; omega
   obtain ⟨s0, s1, s2, s3, s4⟩ := bk5 hI6.out.o
   obtain ⟨q0, q1, q2, q3, q4⟩ := bk5 hI6.out.p
   obtain ⟨r0, r1, r2, r3, r4⟩ := bk5 (show Bk _ w.heap.size 205 zeroT from hI6.out.r)
   have sf := hI6.out.o.frozen; have sl := def_lt' hI6.out.o
   have rf := hI6.out.r.frozen; have rl := def_lt' hI6.out.r
   obtain ⟨y0, y1, y2, y3, y4⟩ := bk5 kx
   have yl := def_lt' kx
   have hsq := Lib.hid (seq_any w00.heap.size (M + mn l x) nb (w.heap.size + 2) on2 bh2 f e _ _ _ _ _ _ em xm xxm w6 hbound hbB (by omega) hI6.out.net.n hI6.out.o hI6.out.net.rbh hI6.out.nfi hI6.out.nei HX6.out.1 HX6.out.2)
   go_wp2_with (go_at_call 197; fail)
   refine hsq.out.mono ?_
   rintro e w7 ⟨fi7, ei7, xm7, rfl, k7, hr7, hf7, he7, hs7⟩
   have hI7 := Lib.hid (hI6.out.seq k7 hr7 hf7 he7 hs7)
   clear k7 hr7 hf7 he7 hs7 hsq
   go_wp2
   go_roundw
   case rel => exact ⟨q + 1, M + mn l x, on2, bh2, _, _, _, by omega, by go_num, hMN, hI7⟩
   case measure => simp [intOf]; omega
  ·obtain rfl : pm = q := by omega
   have hMM : M = m + mn l i := by
    have h1 := hM.out
    rw [List.take_of_length_le (by rw [HKL.out]; exact Nat.le_refl _)] at h1
    have := HSUM.out
    omega
   subst hMM
   go_wp2
   obtain ⟨hL1, hL2⟩ := hI.out.left
   unfold set5 at hL1 hL2
   obtain ⟨z0, z1, z2, z3, z4⟩ := bk5 hL2
   exact bodyPost_ret (v := .agg #[.slice none 0 0, .slice none 0 0, .slice Af fn cf, .slice Ae en ce, .bool xm]) (by simp [results, Tryz.results157, go_sem, z0, z1, z2, z3, z4]) rfl hL1
/-- a further place, whose followers aren't laid yet -/
structure PJ (w : World) (B nb : Nat) (on0 bh0 f e : Value) (em : Bool) (pc : Array Value) (wr : World) (m : Nat) (on bh : Value) : Prop where
 n : Bk wr nb 205 #[on, bh, f, e, .bool em]
 ron : Rws wr B 256 on (m + 1)
 rbh : Rws wr B m bh m
 dj : ∀ g, on.ownBlock = some g → bh.ownBlock ≠ some g
 h : B ≤ nb
 r : Bk wr w.heap.size 205 zeroT
 p : Bk wr (w.heap.size + 1) 192 pc
 o : Bk wr (w.heap.size + 2) 205 zeroT
 s : Sti (fun i => i = nb ∨ on0.ownBlock = some i ∨ bh0.ownBlock = some i) w wr
 no : ∀ g, on.ownBlock = some g → on0.ownBlock = some g ∨ w.heap.size ≤ g
 nh : ∀ g, bh.ownBlock = some g → bh0.ownBlock = some g ∨ w.heap.size ≤ g
 lt : nb < w.heap.size
 bw : B ≤ w.heap.size
section
variable {w wr w' : World} {B nb m : Nat} {on0 bh0 f e on bh : Value} {em : Bool} {pc : Array Value}
theorem PJ.below (h : PJ w B nb on0 bh0 f e em pc wr m on bh) (hb : Below wr.heap.size wr w') : PJ w B nb on0 bh0 f e em pc w' m on bh :=
 ⟨h.n.ext hb, h.ron.below hb, h.rbh.below hb, h.dj, h.h, h.r.ext hb, h.p.ext hb, h.o.ext hb, h.s.trans (Sti.of_below (Y := fun _ => False) hb) (fun i hi => hi.elim), h.no, h.nh, h.lt, h.bw⟩
theorem rows_put {w w' : World} {B m K : Nat} {v v' u : Value} {vs : List Value} (h1 : w.ownsRow B 51 1 v K vs) (h2 : ∀ u ∈ vs, NsIn w B m u) (hu : NsIn w B m u) (hs : Sti (fun i => v.ownBlock = some i) w w') (ho : w'.ownsRow B 51 1 v' (K + 1) (vs ++ [u])) : Rws w' B m v' (K + 1) := by
 refine ⟨vs ++ [u], ho, fun x hx => ?_⟩
 have key : ∀ y, NsIn w B m y → NsIn w' B m y := fun y hy => hs.ns hy (fun g hg h0 => hy.ne_row h1 (by decide) g h0 hg)
 rcases List.mem_append.1 hx with hx | hx
 ·exact key x (h2 x hx)
 ·simp at hx; subst hx; exact key _ hu
theorem PI.onA {g6 cap6 : Nat} {v : Value} {vs : List Value} (h : PI w B nb on0 bh0 f e em pc wr m on bh (.slice none 0 0) (.slice none 0 0) false) (h1 : wr.ownsRow B 51 1 on m vs) (h2 : ∀ u ∈ vs, NsIn wr B 256 u) (hv : NsIn wr B 256 v) (hg : wr.grownBy w' on.ownBlock) (ho : w'.ownsRow B 51 1 (.slice (some ⟨g6, 0, none⟩) (m + 1) cap6) (m + 1) (vs ++ [v])) (hat : on.ownBlock = some g6 ∨ wr.heap.size ≤ g6) : PJ w B nb on0 bh0 f e em pc (w'.setCell ⟨nb, 0, none⟩ (.slice (some ⟨g6, 0, none⟩) (m + 1) cap6)) m (.slice (some ⟨g6, 0, none⟩) (m + 1) cap6) bh := by
 have hs : Sti (fun i => on.ownBlock = some i) wr w' := Sti.of_gr hg (fun i h => h)
 have hn := h.net
 have hz := h.s.size
 have hlt := h.lt
 have kn : Bk w' nb 205 #[on, bh, f, e, .bool em] := hs.bk hn.n (hn.ron.ne hn.n (by decide))
 have ron := rows_put h1 h2 hv hs ho
 have rbh : Rws w' B m bh m := hn.rbh.sti hs (fun g hg h0 => hn.dj g h0 hg) (fun u hu g hg h0 => hu.ne_rws hn.ron g h0 hg)
 refine ⟨kn.set_ 0 _, ron.put_ kn (by decide) (by decide) _, rbh.put_ kn (by decide) (by decide) _, fun g hg hb => ?_, hn.h, (hs.bk h.r (hn.ron.ne h.r (by decide))).far (p := ⟨nb, 0, none⟩) (by simp; omega) _, (hs.bk h.p (hn.ron.ne h.p (by decide))).far (p := ⟨nb, 0, none⟩) (by simp; omega) _, (hs.bk h.o (hn.ron.ne h.o (by decide))).far (p := ⟨nb, 0, none⟩) (by simp; omega) _, (h.s.trans hs (fun i hi => ?_)).set_ (p := ⟨nb, 0, none⟩) (.inl (.inl rfl)) _, fun g hg => ?_, h.nh, h.lt, h.bw⟩
 ·have e6 : g6 = g := by simpa [Value.ownBlock] using hg
  subst e6
  rcases hat with h0 | h0
  ·exact hn.dj _ h0 hb
  ·have := hn.rbh.lt _ hb; omega
 ·rcases h.no i hi with h3 | h3
  ·exact .inl (.inr (.inl h3))
  ·exact .inr h3
 ·have e6 : g6 = g := by simpa [Value.ownBlock] using hg
  subst e6
  rcases hat with h0 | h0
  ·exact h.no _ h0
  ·exact .inr (by omega)
theorem PJ.bhA {g6 cap6 : Nat} {vs : List Value} (h : PJ w B nb on0 bh0 f e em pc wr m on bh) (h1 : wr.ownsRow B 51 1 bh m vs) (h2 : ∀ u ∈ vs, NsIn wr B m u) (hg : wr.grownBy w' bh.ownBlock) (ho : w'.ownsRow B 51 1 (.slice (some ⟨g6, 0, none⟩) (m + 1) cap6) (m + 1) (vs ++ [.slice none 0 0])) (hat : bh.ownBlock = some g6 ∨ wr.heap.size ≤ g6) : PI w B nb on0 bh0 f e em pc (w'.setCell ⟨nb, 1, none⟩ (.slice (some ⟨g6, 0, none⟩) (m + 1) cap6)) (m + 1) on (.slice (some ⟨g6, 0, none⟩) (m + 1) cap6) (.slice none 0 0) (.slice none 0 0) false := by
 have hs : Sti (fun i => bh.ownBlock = some i) wr w' := Sti.of_gr hg (fun i h => h)
 have hz := h.s.size
 have hlt := h.lt
 have kn : Bk w' nb 205 #[on, bh, f, e, .bool em] := hs.bk h.n (h.rbh.ne h.n (by decide))
 have rbh := (rows_put h1 h2 (NsIn.nil _ _ _) hs ho).mono (Nat.le_succ m)
 have ron : Rws w' B 256 on (m + 1) := h.ron.sti hs (fun g hg h0 => h.dj g hg h0) (fun u hu g hg h0 => hu.ne_rws h.rbh g h0 hg)
 refine ⟨⟨kn.set_ 1 _, ron.put_ kn (by decide) (by decide) _, rbh.put_ kn (by decide) (by decide) _, fun g hg hb => ?_, h.h⟩, (hs.bk h.r (h.rbh.ne h.r (by decide))).far (p := ⟨nb, 1, none⟩) (by simp; omega) _, (hs.bk h.p (h.rbh.ne h.p (by decide))).far (p := ⟨nb, 1, none⟩) (by simp; omega) _, (hs.bk h.o (h.rbh.ne h.o (by decide))).far (p := ⟨nb, 1, none⟩) (by simp; omega) _, NsIn.nil _ _ _, NsIn.nil _ _ _, (h.s.trans hs (fun i hi => ?_)).set_ (p := ⟨nb, 1, none⟩) (.inl (.inl rfl)) _, h.no, fun g hg => ?_, h.lt, h.bw⟩
 ·have e6 : g6 = g := by simpa [Value.ownBlock] using hb
  subst e6
  rcases hat with h0 | h0
  ·exact h.dj _ hg h0
  ·have := h.ron.lt _ hg; omega
 ·rcases h.nh i hi with h3 | h3
  ·exact .inl (.inr (.inr h3))
  ·exact .inr h3
 ·have e6 : g6 = g := by simpa [Value.ownBlock] using hg
  subst e6
  rcases hat with h0 | h0
  ·exact h.nh _ h0
  ·exact .inr (by omega)
end
theorem part_one (w00 : World) (pb n c mb ec : Nat) (A EA : Option Addr) (l : List Pt) (mg : List Mg) (i : Nat) (p : Pt) (hpi : l[i]? = some p) (hk : p.k = 1) (hp : Parts w00 pb (.slice A n c) n l) (hn : n ≤ 1000) (hg : MgsIn w00 mb (.slice EA mg.length ec) mg) (hgl : mg.length ≤ 100000) (ih : ∀ i', i' < i → PartAny w00 pb n c mb ec A EA l mg i') : PartAny w00 pb n c mb ec A EA l mg i := by
 intro nb m on bh f e em w hbw hnet hm
 have hzw := hbw.size
 have hok := hp.ok i p hpi
 have hin : i < n := by have := hp.len; have := (List.getElem?_eq_some_iff.1 hpi).1; omega
 have hkown := own_below (hp.own i p hpi) hbw
 have hkl : p.ks.length = p.m := by have := hkown.1; simpa [nts] using this
 have hmn := mn_eq hpi hok.kid
 obtain ⟨ab, ao, rfl, hab, hcc⟩ := (hp.below hbw).at_ hpi
 have c0 : w.cell? ⟨ab, ao + i * 5, none⟩ = some (.int .i64 p.k) := hcc 0 (by omega)
 have c1 : w.cell? ⟨ab, ao + i * 5 + 1, none⟩ = some (.int .i64 p.lo) := hcc 1 (by omega)
 have c2 : w.cell? ⟨ab, ao + i * 5 + 2, none⟩ = some (.int .i64 p.hi) := hcc 2 (by omega)
 have c3 : w.cell? ⟨ab, ao + i * 5 + 3, none⟩ = some (.string p.nm) := hcc 3 (by omega)
 have c4 : w.cell? ⟨ab, ao + i * 5 + 4, none⟩ = some (.slice p.A p.m p.c) := hcc 4 (by omega)
 unfold tms at hmn
 obtain ⟨pk, plo, phi, pnm, pA, pm, pc, pks, ps⟩ := p
 obtain ⟨⟨k1, k2⟩, ⟨lo1, lo2⟩, ⟨hi1, hi2⟩, nm1, hone, -, m1, kid1⟩ := hok
 dsimp only at *
 have HP := Lib.hid hp
 have HG := Lib.hid hg
 have HKO := Lib.hid hkown
 have HKL := Lib.hid hkl
 have HKID := Lib.hid kid1
 have IH := Lib.hid ih
 have HMN := Lib.hid hmn
 have HNET := Lib.hid hnet
 have HONE := Lib.hid hone
 have HM := Lib.hid hm
 have i0 : (0 : Int) ≤ i := by omega
 have i1 : (i : Int) < n := by omega
 have HK := Lib.hid hk
 clear hp hkown hkl kid1 ih hcc hpi hmn hone hg hnet hk hm
 have HGE := Lib.hid (And.intro HNET.out.ron.ge HNET.out.rbh.ge)
 have hky : ∀ g, (Pt.v ⟨pk, plo, phi, pnm, pA, pm, pc, pks, ps⟩).ownBlock = some g → ¬ (g = nb ∨ on.ownBlock = some g ∨ bh.ownBlock = some g) := by
  rintro g hg (h0 | h0 | h0)
  ·subst h0; exact own_ne HKO.out HNET.out.n (by decide) hg
  ·obtain ⟨vs, hv, -⟩ := id HNET.out.ron; exact hown_type HKO.out hv (by decide) g h0 hg
  ·obtain ⟨vs, hv, -⟩ := id HNET.out.rbh; exact hown_type HKO.out hv (by decide) g h0 hg
 have HKY := Lib.hid hky
 have hnbl := def_lt' HNET.out.n
 clear hky
 rw [show mn l i = 1 by rw [HMN.out, if_pos HK.out]]
 go_enter Tryz.func157, Tryz.ntmps157
 go_upto_region 3 with fail
 have kr : Bk (((w.alloc (.cells zeroT 205)).alloc (.cells #[.int .i64 pk, .int .i64 plo, .int .i64 phi, .string pnm, .slice pA pm pc] 192)).alloc (.cells zeroT 205)) w.heap.size 205 zeroT := ((Bk.new w _ _).alloc _).alloc _
 have kp : Bk (((w.alloc (.cells zeroT 205)).alloc (.cells #[.int .i64 pk, .int .i64 plo, .int .i64 phi, .string pnm, .slice pA pm pc] 192)).alloc (.cells zeroT 205)) (w.heap.size + 1) 192 #[.int .i64 pk, .int .i64 plo, .int .i64 phi, .string pnm, .slice pA pm pc] := (Bk.made _ _ (by simp)).alloc _
 have ko : Bk (((w.alloc (.cells zeroT 205)).alloc (.cells #[.int .i64 pk, .int .i64 plo, .int .i64 phi, .string pnm, .slice pA pm pc] 192)).alloc (.cells zeroT 205)) (w.heap.size + 2) 205 zeroT := Bk.made _ _ (by simp)
 have hb0 : Below w.heap.size w (((w.alloc (.cells zeroT 205)).alloc (.cells #[.int .i64 pk, .int .i64 plo, .int .i64 phi, .string pnm, .slice pA pm pc] 192)).alloc (.cells zeroT 205)) := belowA
 generalize ((w.alloc (.cells zeroT 205)).alloc (.cells #[.int .i64 pk, .int .i64 plo, .int .i64 phi, .string pnm, .slice pA pm pc] 192)).alloc (.cells zeroT 205) = w0 at *
 have hI0 := Lib.hid (PI.zero HNET.out hzw hb0 kr kp ko)
 clear kr kp ko hb0 c0 c1 c2 c3 c4 HNET
 have e1 : (pk == 1) = true := by rw [HK.out]; rfl
 have HE := Lib.hid (show mn l i = 1 by rw [HMN.out, if_pos HK.out])
 have hm2 : m + 1 ≤ 256 := by have := HM.out; have := HE.out; omega
 clear HMN
 obtain ⟨Ao, co, rfl⟩ := hI0.out.net.ron.form
 obtain ⟨Ah, ch, rfl⟩ := hI0.out.net.rbh.form
 have hne : nb ≠ w.heap.size + 1 := by omega
 obtain ⟨s0, s1, s2, s3, s4⟩ := bk5 hI0.out.o
 obtain ⟨q0, q1, q2, q3, q4⟩ := bk5 hI0.out.p
 obtain ⟨r0, r1, r2, r3, r4⟩ := bk5 (show Bk _ w.heap.size 205 zeroT from hI0.out.r)
 have sf := hI0.out.o.frozen; have sl := def_lt' hI0.out.o
 have rf := hI0.out.r.frozen; have rl := def_lt' hI0.out.r
 obtain ⟨n0, n1, n2, n3, n4⟩ := bk5 hI0.out.net.n
 have nf := hI0.out.net.n.frozen; have nl := def_lt' hI0.out.net.n
 have hbr0 := hI0.out.s.below (B := w00.heap.size) (by rintro j (h0 | h0 | h0); (· have := hI0.out.net.h; omega); (· exact HGE.out.1 j h0); (· exact HGE.out.2 j h0)) hzw
 have hMG := Lib.hid (HG.out.below (hbw.trans hbr0))
 have hF : ∀ W, (Bk W nb 205 #[.slice Ao m co, .slice Ah m ch, f, e, .bool em] ∧ Bk W (w.heap.size + 1) 192 #[.int .i64 pk, .int .i64 plo, .int .i64 phi, .string pnm, .slice pA pm pc]) → W.cell? ⟨nb, 0, none⟩ = some (.slice Ao m co) ∧ W.cell? ⟨w.heap.size + 1, 3, none⟩ = some (.string pnm) := fun W h => ⟨h.1.cell 0, h.2.cell 3⟩
 have HF := Lib.hid hF
 clear hF
 go_upto_region 5 with fail
 clear s0 s1 s2 s3 s4 q0 q1 q2 q3 q4 r0 r1 r2 r3 r4 sf sl rf rl
 clear n0 n1 n2 n3 n4 nf nl
 refine wp_normal ?_
 refine region_L (S := fun W => Bk W nb 205 #[.slice Ao m co, .slice Ah m ch, f, e, .bool em] ∧ Bk W (w.heap.size + 1) 192 #[.int .i64 pk, .int .i64 plo, .int .i64 phi, .string pnm, .slice pA pm pc]) [13] (by kernel_rfl) ⟨hI0.out.net.n.drew, hI0.out.p.drew⟩ (fun hHeld => ?_)
 (refine tkL 0 ?_; refine tkL 1 ?_; refine tkL 2 ?_; refine tkL 3 ?_; refine tkL 4 ?_; refine tkL 5 ?_; refine tkL 6 ?_; refine tkL 7 ?_)
 refine nxL 8 (fun K hK => ?_)
 go_simp
 go_at_call 195
 refine (means7_any mb ec _ mg pnm _ (hMG.out.below (w' := w0.drew) (Below.refl _ _).drew) hgl).mono ?_
 rintro e5 w5 ⟨v5, rfl, hv5, hb5'⟩
 have hb5 : Below w0.heap.size w0 w5 := Below.trans (Below.refl _ _).drew hb5'
 have hI5 := Lib.hid (hI0.out.below hb5)
 have hbB : w00.heap.size ≤ w0.heap.size := by have := hI0.out.s.size; omega
 have hv5' : NsIn w5 w00.heap.size 256 v5 := hv5.mono (Nat.le_refl _) hbB
 have hz5 := hb5.size
 obtain ⟨A5, c5, l5, rfl, -, -, -⟩ := hv5.form
 generalize l5.length = n5 at *
 refine hK.out _ _ ⟨hI5.out.net.n, hI5.out.p⟩ (fun hHeld => ?_)
 clear hK K; refine puL ?_
 refine nxL 9 (fun K hK => ?_)
 go_simp
 refine hK.out _ _ ⟨hI5.out.net.n.alloc _, hI5.out.p.alloc _⟩ (fun hHeld => ?_)
 clear hK K; refine puL ?_
 have hbA : Below w5.heap.size w5 (w5.alloc (.cells #[.slice A5 n5 c5] 51)) := belowA
 have kA := Bk.new w5 51 #[.slice A5 n5 c5]
 generalize w5.alloc (.cells #[.slice A5 n5 c5] 51) = wA at *
 have hIA := Lib.hid (hI5.out.below hbA)
 have hvA := hv5'.below hbA
 have hzA := hbA.size
 obtain ⟨vs, hr1, hr2⟩ := id hIA.out.net.ron
 refine nxL 10 (fun K hK => ?_)
 refine app_at_step Tryz.underlying198 info_li rfl (by decide) w00.heap.size _ m vs hr1 (by unfold maxLen; omega) (by omega) (by omega) w5.heap.size #[.slice A5 n5 c5] kA rfl (by simp [Value.oneCell']) rfl _ _ rfl rfl rfl ?_
 intro g6 cap6 w6 hown6 hgr6 hat6 hlt6
 have hs6 : Sti (fun i => (Value.slice Ao m co).ownBlock = some i) wA w6 := Sti.of_gr hgr6 (fun i h => h)
 have kn6 := hs6.bk hIA.out.net.n (hIA.out.net.ron.ne hIA.out.net.n (by decide))
 have kp6 := hs6.bk hIA.out.p (hIA.out.net.ron.ne hIA.out.p (by decide))
 have hJ := Lib.hid (hIA.out.onA hr1 hr2 hvA hgr6 hown6 (by rcases hat6 with h | h; (· exact .inl h); (· exact .inr (by omega))))
 have n0 := kn6.cell 0
 have nf := kn6.frozen; have nl := def_lt' kn6
 dsimp at n0
 refine hK.out _ _ ⟨kn6, kp6⟩ (fun hHeld => ?_)
 clear hK K; refine puL ?_
 (refine tkL 11 ?_; refine tkL 12 ?_)
 refine ltL 13 (fun K hK => ?_)
 go_simp
 refine hK.out _ _ ?_
 refine anyL_done (by kernel_rfl) ?_
 clear n0 nf nl kn6 kp6 hs6 hr1 hr2 hown6 hgr6 hat6 hHeld hIA hvA kA HF hK
 generalize w6.setCell ⟨nb, 0, none⟩ (.slice (some ⟨g6, 0, none⟩) (m + 1) cap6) = w7 at *
 obtain ⟨n0, n1, n2, n3, n4⟩ := bk5 hJ.out.n
 have nf := hJ.out.n.frozen; have nl := def_lt' hJ.out.n
 have hbB7 : w00.heap.size ≤ w7.heap.size := by have := hJ.out.s.size; omega
 obtain ⟨vs7, hr71, hr72⟩ := id hJ.out.rbh
 go_upto_region 7 with (at_builtin; ((refine app_one Tryz.underlying198 info_li rfl (by decide) w7 w00.heap.size _ m vs7 hr71 (by unfold maxLen; omega) (by omega) (by omega) _ rfl (by simp [Value.oneCell']) rfl _ _ rfl rfl rfl ?_); intro g8 cap8 w8 hown8 hgr8 hat8 hlt8; have hs8 : Sti (fun i => (Value.slice Ah m ch).ownBlock = some i) w7 w8 := Sti.of_gr hgr8 (fun i h => h); have kn8 := hs8.bk hJ.out.n (hJ.out.rbh.ne hJ.out.n (by decide)); have nf8 := kn8.frozen; have nl8 := def_lt' kn8; obtain ⟨m0, m1', m2, m3, m4⟩ := bk5 kn8))
 have hI9 := Lib.hid (hJ.out.bhA hr71 hr72 hgr8 hown8 (by rcases hat8 with h | h; (· exact .inl h); (· exact .inr (by omega))))
 clear m0 m1' m2 m3 m4 nf8 nl8 kn8 hs8 hat8 hgr8 hown8 n0 n1 n2 n3 n4 nf nl hr71 hr72 hJ
 generalize w8.setCell ⟨nb, 1, none⟩ (.slice (some ⟨g8, 0, none⟩) (m + 1) cap8) = w9 at *
 have hone : ∀ W : World, NsIn (W.alloc (.cells #[.int .i64 (m : Int)] 3)) W.heap.size (m + 1) (.slice (some ⟨W.heap.size, 0, none⟩) 1 1) := fun W => ⟨[m], own_sole W W.heap.size 3 #[.int .i64 (m : Int)] (Nat.le_refl _), ⟨by simp, fun x hx => by simp at hx; omega⟩⟩
 have HONE2 := Lib.hid hone
 clear hone
 have hb9 : w00.heap.size ≤ w9.heap.size := by have := hI9.out.s.size; omega
 have hl9 := def_lt' hI9.out.o
 have hI9A := hI9.out.below (show Below w9.heap.size w9 (w9.alloc (.cells #[.int .i64 (m : Int)] 3)) from (Below.refl _ _).alloc (Nat.le_refl _) _)
 have hI9B := hI9A.set 2 (.slice (some ⟨w9.heap.size, 0, none⟩) 1 1) (hI9A.o.set_ 2 _) ((HONE2.out w9).mono (Nat.le_refl _) hb9) hI9A.nei
 rw [World.setCell_alloc_past _ _ _ _ hl9] at hI9B
 have hI10 := Lib.hid hI9B
 obtain ⟨s0, s1, s2, s3, s4⟩ := bk5 hI9.out.o
 obtain ⟨q0, q1, q2, q3, q4⟩ := bk5 hI9.out.p
 obtain ⟨r0, r1, r2, r3, r4⟩ := bk5 (show Bk _ w.heap.size 205 zeroT from hI9.out.r)
 have sf := hI9.out.o.frozen; have sl := def_lt' hI9.out.o
 have rf := hI9.out.r.frozen; have rl := def_lt' hI9.out.r
 go_upto_region 8 with fail
 clear hI9 hI9A hI9B
 clear s0 s1 s2 s3 s4 q0 q1 q2 q3 q4 r0 r1 r2 r3 r4 sf sl rf rl
 generalize (w9.setCell ⟨w.heap.size + 2, 2, none⟩ (.slice (some ⟨w9.heap.size, 0, none⟩) 1 1)).alloc (.cells #[.int .i64 (m : Int)] 3) = w10 at *
 have hb10 : w00.heap.size ≤ w10.heap.size := by have := hI10.out.s.size; omega
 have hl10 := def_lt' hI10.out.o
 have hI10A := hI10.out.below (show Below w10.heap.size w10 (w10.alloc (.cells #[.int .i64 (m : Int)] 3)) from (Below.refl _ _).alloc (Nat.le_refl _) _)
 have hI10B := hI10A.set 3 (.slice (some ⟨w10.heap.size, 0, none⟩) 1 1) (hI10A.o.set_ 3 _) hI10A.nfi ((HONE2.out w10).mono (Nat.le_refl _) hb10)
 rw [World.setCell_alloc_past _ _ _ _ hl10] at hI10B
 have hI11 := Lib.hid hI10B
 obtain ⟨s0, s1, s2, s3, s4⟩ := bk5 hI10.out.o
 obtain ⟨q0, q1, q2, q3, q4⟩ := bk5 hI10.out.p
 obtain ⟨r0, r1, r2, r3, r4⟩ := bk5 (show Bk _ w.heap.size 205 zeroT from hI10.out.r)
 have sf := hI10.out.o.frozen; have sl := def_lt' hI10.out.o
 have rf := hI10.out.r.frozen; have rl := def_lt' hI10.out.r
 go_upto_region 9 with fail
 clear hI10 hI10A hI10B
 clear s0 s1 s2 s3 s4 q0 q1 q2 q3 q4 r0 r1 r2 r3 r4 sf sl rf rl
 generalize (w10.setCell ⟨w.heap.size + 2, 3, none⟩ (.slice (some ⟨w10.heap.size, 0, none⟩) 1 1)).alloc (.cells #[.int .i64 (m : Int)] 3) = w11 at *
 obtain ⟨s0, s1, s2, s3, s4⟩ := bk5 hI11.out.o
 obtain ⟨q0, q1, q2, q3, q4⟩ := bk5 hI11.out.p
 obtain ⟨r0, r1, r2, r3, r4⟩ := bk5 (show Bk _ w.heap.size 205 zeroT from hI11.out.r)
 have sf := hI11.out.o.frozen; have sl := def_lt' hI11.out.o
 have rf := hI11.out.r.frozen; have rl := def_lt' hI11.out.r
 go_wp2
 obtain ⟨hL1, hL2⟩ := hI11.out.left
 unfold set5 at hL1 hL2
 obtain ⟨z0, z1, z2, z3, z4⟩ := bk5 hL2
 exact bodyPost_ret (v := .agg #[.slice none 0 0, .slice none 0 0, .slice (some ⟨w9.heap.size, 0, none⟩) 1 1, .slice (some ⟨w10.heap.size, 0, none⟩) 1 1, .bool false]) (by simp [results, Tryz.results157, go_sem, z0, z1, z2, z3, z4]) rfl hL1
structure Nt where
 (f e : Value)
 m : Bool
def Nt.cells (x : Nt) : List Value := [.slice none 0 0, .slice none 0 0, x.f, x.e, .bool x.m]
def nets (l : List Nt) : List Value := l.flatMap Nt.cells
theorem nets_snoc (l : List Nt) (x : Nt) : nets (l ++ [x]) = nets l ++ [.slice none 0 0, .slice none 0 0, x.f, x.e, .bool x.m] := by simp [nets, Nt.cells]
theorem info_nt : (Tryz.prog.info? 205).map (fun i => (i.zero, i.size, i.bytes)) = some (some (.agg #[.slice none 0 0, .slice none 0 0, .slice none 0 0, .slice none 0 0, .bool false]), 5, 104) := by kernel_rfl
/-- nets in a row -/
structure NtsIn (wr : World) (b3 B M : Nat) (av : Value) (xs : List Nt) : Prop where
 a : wr.ownsRow b3 205 5 av xs.length (nets xs)
 i : ∀ x ∈ xs, NsIn wr B M x.f ∧ NsIn wr B M x.e
section
variable {w wr w' : World} {b3 B nb m M : Nat} {on0 bh0 f e on bh fi ei av av' : Value} {em xm : Bool} {pc : Array Value} {xs : List Nt} {Y : Nat → Prop}
theorem NtsIn.nil (wr : World) (b3 B M : Nat) : NtsIn wr b3 B M (.slice none 0 0) [] := ⟨World.ownsRow_nil _ _ _ _, (fun x h => by cases h)⟩
theorem NtsIn.below (h : NtsIn wr b3 B M av xs) (hb : Below wr.heap.size wr w') : NtsIn w' b3 B M av xs := ⟨own_below h.a hb, fun x hx => ⟨(h.i x hx).1.below hb, (h.i x hx).2.below hb⟩⟩
theorem NtsIn.mono {M' : Nat} (h : NtsIn wr b3 B M av xs) (hm : M ≤ M') : NtsIn wr b3 B M' av xs := ⟨h.a, fun x hx => ⟨(h.i x hx).1.mono hm (Nat.le_refl _), (h.i x hx).2.mono hm (Nat.le_refl _)⟩⟩
theorem NtsIn.sti (h : NtsIn wr b3 B M av xs) (hs : Sti Y wr w') (ha : ∀ g, av.ownBlock = some g → ¬ Y g) (hn : ∀ u, NsIn wr B M u → ∀ g, u.ownBlock = some g → ¬ Y g) : NtsIn w' b3 B M av xs :=
 ⟨hs.own h.a ha, fun x hx => ⟨hs.ns (h.i x hx).1 (hn _ (h.i x hx).1), hs.ns (h.i x hx).2 (hn _ (h.i x hx).2)⟩⟩
theorem NtsIn.at_ {A : Option Addr} {n c k : Nat} {x : Nt} (h : NtsIn wr b3 B M (.slice A n c) xs) (hk : xs[k]? = some x) : ∃ b o, A = some ⟨b, o, none⟩ ∧ b < wr.heap.size ∧ ∀ i, i < 5 → wr.cell? ⟨b, o + k * 5 + i, none⟩ = x.cells[i]? := by
 obtain ⟨A', c', e, -, -, -, r⟩ := own_form h.a
 injection e with e1 e2 e3
 subst e1
 exact Rd.el Nt.cells (fun _ => rfl) r rfl hk
theorem own_bk {w : World} {base g size n : Nat} {e : TypeId} {v : Value} {xs : List Value} (h : w.ownsRow base e size v n xs) (hg : v.ownBlock = some g) : ∃ cs, Bk w g e cs := by
 rcases h.2 with ⟨rfl, _⟩ | ⟨g', cap, cur, rfl, _, hh, _⟩
 ·simp [Value.ownBlock] at hg
 ·have e1 : g' = g := by simpa [Value.ownBlock] using hg
  subst e1
  exact ⟨cur, hh⟩
/-- a further one -/
theorem NtsIn.push {x : Nt} (h : NtsIn wr b3 B M av xs) (hx : NsIn wr B M x.f ∧ NsIn wr B M x.e) (hg : wr.grownBy w' av.ownBlock) (ho : w'.ownsRow b3 205 5 av' (xs.length + 1) (nets xs ++ [.slice none 0 0, .slice none 0 0, x.f, x.e, .bool x.m])) : NtsIn w' b3 B M av' (xs ++ [x]) := by
 have hs : Sti (fun i => av.ownBlock = some i) wr w' := Sti.of_gr hg (fun i h => h)
 have key : ∀ y, NsIn wr B M y → NsIn w' B M y := fun y hy => hs.ns hy (fun g hg h0 => hy.ne_row h.a (by decide) g h0 hg)
 refine ⟨by rw [List.length_append, nets_snoc]; exact ho, fun y hy => ?_⟩
 rcases List.mem_append.1 hy with hy | hy
 ·exact ⟨key _ (h.i y hy).1, key _ (h.i y hy).2⟩
 ·simp at hy; subst hy; exact ⟨key _ hx.1, key _ hx.2⟩
/-- blocks of nets of one's own are written -/
theorem PI.sti (h : PI w B nb on0 bh0 f e em pc wr m on bh fi ei xm) (hs : Sti Y wr w') (hY : ∀ i, Y i → w.heap.size + 3 ≤ i) (hT : ∀ i, Y i → ∃ cs, Bk wr i 205 cs) : PI w B nb on0 bh0 f e em pc w' m on bh fi ei xm := by
 have hlt := h.lt
 have hz := h.s.size
 have hn := h.net
 have nsk : ∀ u, NsIn wr B m u → ∀ g, u.ownBlock = some g → ¬ Y g := fun u hu g hg h0 => by obtain ⟨cs, k⟩ := hT g h0; exact hu.ne k (by decide) hg
 have nsk2 : ∀ u, NsIn wr B 256 u → ∀ g, u.ownBlock = some g → ¬ Y g := fun u hu g hg h0 => by obtain ⟨cs, k⟩ := hT g h0; exact hu.ne k (by decide) hg
 refine ⟨⟨hs.bk hn.n (fun h0 => by have := hY _ h0; omega), hn.ron.sti hs (fun g hg h0 => by obtain ⟨cs, k⟩ := hT g h0; exact hn.ron.ne k (by decide) hg) nsk2, hn.rbh.sti hs (fun g hg h0 => by obtain ⟨cs, k⟩ := hT g h0; exact hn.rbh.ne k (by decide) hg) nsk, hn.dj, hn.h⟩, hs.bk h.r (fun h0 => by have := hY _ h0; omega), hs.bk h.p (fun h0 => by have := hY _ h0; omega), hs.bk h.o (fun h0 => by have := hY _ h0; omega), hs.ns h.nfi (nsk _ h.nfi), hs.ns h.nei (nsk _ h.nei), h.s.trans hs (fun i hi => .inr (by have := hY _ hi; omega)), h.no, h.nh, h.lt, h.bw⟩
/-- what stands behind a place is set -/
theorem PI.putBh {g c k : Nat} {u : Value} (h : PI w B nb on0 bh0 f e em pc wr m on (.slice (some ⟨g, 0, none⟩) m c) fi ei xm) (hk : k < m) (hu : NsIn wr B m u) : PI w B nb on0 bh0 f e em pc (wr.setCell ⟨g, k, none⟩ u) m on (.slice (some ⟨g, 0, none⟩) m c) fi ei xm := by
 have hn := h.net
 have hs : Sti (fun i => (Value.slice (some ⟨g, 0, none⟩) m c).ownBlock = some i) wr (wr.setCell ⟨g, k, none⟩ u) := Sti.set_ (Y := fun i => (Value.slice (some ⟨g, 0, none⟩) m c).ownBlock = some i) (p := ⟨g, k, none⟩) (Sti.refl _ wr) (.inl (show (Value.slice (some ⟨g, 0, none⟩) m c).ownBlock = some g from rfl)) u
 have nsk : ∀ M u, NsIn wr B M u → ∀ g', u.ownBlock = some g' → ¬ (Value.slice (some ⟨g, 0, none⟩) m c).ownBlock = some g' := fun M u hu g' hg h0 => hu.ne_rws hn.rbh g' h0 hg
 refine ⟨⟨hs.bk hn.n (hn.rbh.ne hn.n (by decide)), hn.ron.sti hs (fun g' hg h0 => hn.dj g' hg h0) (nsk 256), hn.rbh.put hk hu, hn.dj, hn.h⟩, hs.bk h.r (hn.rbh.ne h.r (by decide)), hs.bk h.p (hn.rbh.ne h.p (by decide)), hs.bk h.o (hn.rbh.ne h.o (by decide)), hs.ns h.nfi (nsk m _ h.nfi), hs.ns h.nei (nsk m _ h.nei), h.s.trans hs (fun i hi => ?_), h.no, h.nh, h.lt, h.bw⟩
 rcases h.nh i hi with h3 | h3
 ·exact .inl (.inr (.inr h3))
 ·exact .inr h3
/-- behind a seq of another net of one's own -/
theorem PI.seqx {xb : Nat} (h : PI w B nb on0 bh0 f e em pc wr m on bh fi ei xm) (hx : w.heap.size + 3 ≤ xb) {cs : Array Value} (kx : Bk wr xb 205 cs) (hr : Rws w' B m bh m) (hs : Sti (fun i => i = xb ∨ bh.ownBlock = some i) wr w') : PI w B nb on0 bh0 f e em pc w' m on bh fi ei xm := by
 have hlt := h.lt
 have hz := h.s.size
 have hn := h.net
 have nsk : ∀ M u, NsIn wr B M u → ∀ g', u.ownBlock = some g' → ¬ (g' = xb ∨ bh.ownBlock = some g') := fun M u hu g' hg h0 => by
  rcases h0 with h0 | h0
  ·subst h0; exact hu.ne kx (by decide) hg
  ·exact hu.ne_rws hn.rbh g' h0 hg
 refine ⟨⟨hs.bk hn.n ?_, hn.ron.sti hs ?_ (nsk 256), hr, hn.dj, hn.h⟩, hs.bk h.r ?_, hs.bk h.p ?_, hs.bk h.o ?_, hs.ns h.nfi (nsk m _ h.nfi), hs.ns h.nei (nsk m _ h.nei), h.s.trans hs ?_, h.no, h.nh, h.lt, h.bw⟩
 ·rintro (h0 | h0)
  ·omega
  ·exact hn.rbh.ne hn.n (by decide) h0
 ·rintro g hg (h0 | h0)
  ·subst h0; exact hn.ron.ne kx (by decide) hg
  ·exact hn.dj g hg h0
 ·rintro (h0 | h0)
  ·omega
  ·exact hn.rbh.ne h.r (by decide) h0
 ·rintro (h0 | h0)
  ·omega
  ·exact hn.rbh.ne h.p (by decide) h0
 ·rintro (h0 | h0)
  ·omega
  ·exact hn.rbh.ne h.o (by decide) h0
 ·rintro i (h0 | h0)
  ·exact .inr (by omega)
  ·rcases h.nh i h0 with h3 | h3
   ·exact .inl (.inr (.inr h3))
   ·exact .inr h3
end
theorem loop_put {w w6 wr w7 : World} {B nb m xb g c k b3 : Nat} {on0 bh0 f e on fi ei av u v : Value} {em xm : Bool} {pc xc : Array Value} {xs : List Nt} (hI : PI w B nb on0 bh0 f e em pc wr m on (.slice (some ⟨g, 0, none⟩) m c) fi ei xm) (hN : NtsIn wr b3 B m av xs) (kx : Bk wr xb 205 xc) (hx : NsIn wr B m v) (hs : Sti (fun i => (Value.slice (some ⟨g, 0, none⟩) m c).ownBlock = some i) w6 wr) (hb : Below wr.heap.size wr w7) (hk : k < m) (hu : NsIn w7 B m u) :
 PI w B nb on0 bh0 f e em pc (w7.setCell ⟨g, k, none⟩ u) m on (.slice (some ⟨g, 0, none⟩) m c) fi ei xm ∧ NtsIn (w7.setCell ⟨g, k, none⟩ u) b3 B m av xs ∧ Bk (w7.setCell ⟨g, k, none⟩ u) xb 205 xc ∧ NsIn (w7.setCell ⟨g, k, none⟩ u) B m v ∧ Sti (fun i => (Value.slice (some ⟨g, 0, none⟩) m c).ownBlock = some i) w6 (w7.setCell ⟨g, k, none⟩ u) := by
 have hI7 := hI.below hb
 obtain ⟨vs7, hvs7, -⟩ := id hI7.net.rbh
 have hsg : Sti (fun i => (Value.slice (some ⟨g, 0, none⟩) m c).ownBlock = some i) w7 (w7.setCell ⟨g, k, none⟩ u) := Sti.set_ (Y := fun i => (Value.slice (some ⟨g, 0, none⟩) m c).ownBlock = some i) (p := ⟨g, k, none⟩) (Sti.refl _ w7) (.inl (show (Value.slice (some ⟨g, 0, none⟩) m c).ownBlock = some g from rfl)) u
 have hN7 := hN.below hb
 have hx7 := hx.below hb
 exact ⟨hI7.putBh hk hu, hN7.sti hsg (fun g' hg h0 => hown_type hN7.a hvs7 (by decide) g' h0 hg) (fun u hu g' hg h0 => hu.ne_row hvs7 (by decide) g' h0 hg), hsg.bk (kx.ext hb) (own_ne hvs7 (kx.ext hb) (by decide)), hsg.ns hx7 (fun g' hg h0 => hx7.ne_row hvs7 (by decide) g' h0 hg), (hs.trans (Sti.of_below (Y := fun _ => False) hb) (fun i hi => hi.elim)).trans hsg (fun i hi => .inl hi)⟩
theorem nts_seq {w wr w' : World} {B nb m xb : Nat} {on0 bh0 f e on bh fi ei av : Value} {em xm : Bool} {pc xc : Array Value} {xs : List Nt} (hI : PI w B nb on0 bh0 f e em pc wr m on bh fi ei xm) (hN : NtsIn wr (w.heap.size + 3) B m av xs) (hs : Sti (fun i => i = xb ∨ bh.ownBlock = some i) wr w') (hx : xb = w.heap.size + 2 ∨ av.ownBlock ≠ some xb) (kx : Bk wr xb 205 xc) : NtsIn w' (w.heap.size + 3) B m av xs := by
 obtain ⟨vs, hv, -⟩ := id hI.net.rbh
 refine hN.sti hs ?_ ?_
 ·rintro g hg (h0 | h0)
  ·subst h0
   rcases hx with h1 | h1
   ·have := own_ge hN.a g hg; omega
   ·exact h1 hg
  ·exact hown_type hN.a hv (by decide) g h0 hg
 ·rintro u hu g hg (h0 | h0)
  ·subst h0; exact hu.ne kx (by decide) hg
  ·exact hu.ne_row hv (by decide) g h0 hg
theorem tail_put {w w7 : World} {B nb m xb tb : Nat} {on0 bh0 f e on bh fi ei av x0 x1 x4 xf xe t0 t1 t2 t3 t4 : Value} {em xm : Bool} {pc : Array Value} {xs : List Nt} (hI : PI w B nb on0 bh0 f e em pc w7 m on bh fi ei xm) (hN : NtsIn w7 (w.heap.size + 3) B m av xs) (kx : Bk w7 xb 205 #[x0, x1, xf, xe, x4]) (kt : Bk w7 tb 205 #[t0, t1, t2, t3, t4]) (hxb : w.heap.size + 3 ≤ xb) (htb : w.heap.size + 3 ≤ tb) (hne : xb ≠ tb) (hax : av.ownBlock ≠ some xb) (hat : av.ownBlock ≠ some tb) (hf : NsIn w7 B m xf) (he : NsIn w7 B m xe) :
 PI w B nb on0 bh0 f e em pc (set5 (w7.setCell ⟨xb, 4, none⟩ (.bool true)) tb x0 x1 xf xe (.bool true)) m on bh fi ei xm ∧ NtsIn (set5 (w7.setCell ⟨xb, 4, none⟩ (.bool true)) tb x0 x1 xf xe (.bool true)) (w.heap.size + 3) B m av xs ∧ Bk (set5 (w7.setCell ⟨xb, 4, none⟩ (.bool true)) tb x0 x1 xf xe (.bool true)) tb 205 #[x0, x1, xf, xe, .bool true] ∧ NsIn (set5 (w7.setCell ⟨xb, 4, none⟩ (.bool true)) tb x0 x1 xf xe (.bool true)) B m xf ∧ NsIn (set5 (w7.setCell ⟨xb, 4, none⟩ (.bool true)) tb x0 x1 xf xe (.bool true)) B m xe := by
 have h1 : Sti (fun i => i = xb ∨ i = tb) w7 (w7.setCell ⟨xb, 4, none⟩ (.bool true)) := Sti.set_ (Y := fun i => i = xb ∨ i = tb) (p := ⟨xb, 4, none⟩) (Sti.refl _ w7) (.inl (.inl rfl)) _
 have hs := h1.trans (set5_sti (w7.setCell ⟨xb, 4, none⟩ (.bool true)) tb x0 x1 xf xe (.bool true)) (fun i hi => .inl (.inr hi))
 have kt1 : Bk (w7.setCell ⟨xb, 4, none⟩ (.bool true)) tb 205 #[t0, t1, t2, t3, t4] := kt.far (p := ⟨xb, 4, none⟩) (fun e => hne e.symm) _
 have nsk : ∀ u, NsIn w7 B m u → ∀ g, u.ownBlock = some g → ¬ (g = xb ∨ g = tb) := by
  rintro u hu g hg (h0 | h0)
  ·subst h0; exact hu.ne kx (by decide) hg
  ·subst h0; exact hu.ne kt (by decide) hg
 refine ⟨hI.sti hs ?_ ?_, hN.sti hs ?_ nsk, set5_bk kt1 _ _ _ _ _, hs.ns hf (nsk _ hf), hs.ns he (nsk _ he)⟩
 ·rintro i (h0 | h0) <;> omega
 ·rintro i (h0 | h0)
  ·subst h0; exact ⟨_, kx⟩
  ·subst h0; exact ⟨_, kt⟩
 ·rintro g hg (h0 | h0)
  ·subst h0; exact hax hg
  ·subst h0; exact hat hg
end Go.Proofs.YtmacfoebfpljoaaGreat
