/- merged texts: Lq Lr Ls Lv Lu Lw -/
import Derived.Test.YtmacfoebfpljoaaGreatMa16
import Derived.Test.YtmacfoebfpljoaaGreatMa8
import Derived.Test.YtmacfoebfpljoaaGreatMa13
import Derived.Test.YtmacfoebfpljoaaGreatMa1
set_option maxRecDepth 100000
set_option maxHeartbeats 16000000
namespace Go.Proofs.YtmacfoebfpljoaaGreat
open Go.RowKit
set_option linter.unusedVariables false
/-- behind the taking away: what is put in, and where -/
structure SplM (base g mb n : Nat) (sv : Value) (nx : Int) (l : List EH) (er : Int → Bool) (kd f t gp hp i : Nat) (sl after : List Tok) (ev : Int) (w : World) (HA TA : Option Addr) (hn tn F : Nat) (W : World) : Prop where
 hd : Rd w w.heap.size 12 HA hn (toks (headOf kd i sl))
 tl : Rd w w.heap.size 12 TA tn (toks (tailOf kd i sl))
 ha : 0 < hn → ∀ a, HA = some a → ¬ LdIn.Mine g mb sv l a.block
 ta : 0 < tn → ∀ a, TA = some a → ¬ LdIn.Mine g mb sv l a.block
 fr : (plN er (l.map EH.e))[frontOf kd t gp]? = some F
 o : LdOut base g mb n sv nx l er (updL er (updE er kd f t gp hp ev after) 0 (l.map EH.e)) w W
theorem splice_any (base g mb n : Nat) (A : Option Addr) (c : Nat) (nx ev : Int) (l : List EH) (er : Int → Bool) (kd f t gp hp i xn xc yn yc : Nat) (m v : Int) (XA YA : Option Addr) (sl after : List Tok) (w : World)
 (h : LdIn w base g mb n (.slice A l.length c) nx l er) (hb : base ≤ w.heap.size) (hlen : l.length ≤ 100000) (hk : kd = 1 ∨ kd = 2) (hft : f ≤ t) (ht : t ≤ cntP er (l.map EH.e)) (h2 : kd = 2 → f ≤ gp ∧ gp ≤ hp ∧ hp ≤ t ∧ i ≤ xn)
 (hx : Rd w w.heap.size 12 XA xn (toks sl)) (hxc : xn ≤ xc) (hxA : 0 < xn → ∀ a, XA = some a → ¬ LdIn.Mine g mb (.slice A l.length c) l a.block) (hxn : xn ≤ 20000) (hev : Bd ev) (htk : ∀ x ∈ l, x.e.tk.length ≤ 500000) (hnx : 0 ≤ nx ∧ nx ≤ 100000000) :
 Calls Tryz.prog 61 #[.pointer (some ⟨g, 0, none⟩), .agg #[.int .i64 (kd : Int), .int .i64 (f : Int), .int .i64 (t : Int), .int .i64 (gp : Int), .int .i64 (hp : Int), .int .i64 (i : Int), .int .i64 m, .int .i64 v, .slice XA xn xc, .slice YA yn yc], .int .i64 ev] w
  fun e w' => (∃ v, e = .returned v) ∧ LdDone base g mb n (.slice A l.length c) (nx + sl.length) l er (stepE er kd f t gp hp i sl ev nx after (l.map EH.e)) w w' := by
 have hxl := hx.tlen
 have HH := Lib.hid h
 have HX := Lib.hid hx
 have HXL := Lib.hid hxl
 have HXA := Lib.hid hxA
 have HTK := Lib.hid htk
 have H2 := Lib.hid h2
 have hcl := cntP_le (er := er) (l.map EH.e)
 rw [List.length_map] at hcl
 have hpl := fun W (hb : Below w.heap.size w W) => places_any base g mb n A c nx l er W (h.below hb) hlen
 have HPL := Lib.hid hpl
 clear h hx hxl hxA htk h2 hpl
 go_enter Tryz.func61, Tryz.ntmps61
 go_upto_region 1 with fail
 have kx0 := Bk.new w 45 #[.int .i64 (kd : Int), .int .i64 (f : Int), .int .i64 (t : Int), .int .i64 (gp : Int), .int .i64 (hp : Int), .int .i64 (i : Int), .int .i64 m, .int .i64 v, .slice XA xn xc, .slice YA yn yc]
 have hb0 : Below w.heap.size w (w.alloc (.cells #[.int .i64 (kd : Int), .int .i64 (f : Int), .int .i64 (t : Int), .int .i64 (gp : Int), .int .i64 (hp : Int), .int .i64 (i : Int), .int .i64 m, .int .i64 v, .slice XA xn xc, .slice YA yn yc] 45)) := belowA
 generalize w.alloc (.cells #[.int .i64 (kd : Int), .int .i64 (f : Int), .int .i64 (t : Int), .int .i64 (gp : Int), .int .i64 (hp : Int), .int .i64 (i : Int), .int .i64 m, .int .i64 v, .slice XA xn xc, .slice YA yn yc] 45) = w0 at *
 go_wp2_with (go_at_call 58; fail)
 refine (HPL.out w0 hb0).mono ?_
 rintro e w1 ⟨pv, rfl, hrow, hb1⟩
 have hpn := plc_len (er := er) l
 obtain ⟨pb, pc, rfl, hpb, hpbl⟩ := hrow.form (by omega)
 have hrp := Rd.of_own hrow
 have hpc : (plc er l).length ≤ pc := by
  obtain ⟨A', c', e', h1, -⟩ := own_form hrow
  injection e' with _ _ e'
  omega
 have kx1 := kx0.ext hb1
 have hb01 : Below w.heap.size w w1 := hb0.trans (hb1.mono hb0.size)
 obtain ⟨T, hT⟩ : ∃ T, (plN er (l.map EH.e))[t]? = some T := ⟨_, List.getElem?_eq_getElem (by rw [plN_len]; omega)⟩
 have hTl : T ≤ l.length := by have := plN_le _ T (List.mem_of_getElem? hT); simpa using this
 have hTi : (plc er l)[t]? = some (T : Int) := by rw [plc_eq, List.getElem?_map, hT]; rfl
 obtain ⟨pb', po', e', hpb', hct⟩ := int_at hrp hTi
 injection e' with e'
 injection e' with e1 e2
 subst e1; subst e2
 have hpz0 := hb0.size
 have HRP := Lib.hid hrp
 have HT := Lib.hid hT
 obtain ⟨N, hN⟩ : ∃ N, N = (plc er l).length := ⟨_, rfl⟩
 have HN := Lib.hid hN
 rw [← hN] at hpn hpc HRP ⊢
 have hpn1 : t < N := by omega
 have hpn2 : N ≤ 100001 := by omega
 have HPN := Lib.hid hpn
 clear hrow hrp hT hTi hN HPL kx0 hpn
 obtain ⟨x0, x1, x2, x3, x4, x5, x6, x7, x8, x9⟩ := bk10 kx1
 rw [Nat.zero_add] at hct
 go_upto_region 3 with fail
 have hF : ∀ W, Below w1.heap.size w1 W → (W.cell? ⟨w.heap.size, 2, none⟩ = some (.int .i64 (t : Int)) ∧ W.cell? ⟨pb, t, none⟩ = some (.int .i64 (T : Int))) := fun W hb => ⟨(kx1.ext hb).cell 2, (hb.cell (p := ⟨pb, t, none⟩) hpb').trans hct⟩
 have HF := Lib.hid hF
 clear hF
 have e3 : (t : Int) < N := by omega
 refine wp_normal ?_
 refine wp_region_held_drew (S := fun W => Below w1.heap.size w1 W) (by kernel_rfl) (Below.drew (Below.refl _ _)) (fun hHeld => ?_)
 (refine tkH 0 ?_; refine tkH 1 ?_; refine tkH 2 ?_; refine tkH 3 ?_; refine tkH 4 ?_; refine tkH 5 ?_; refine tkH 6 ?_; refine tkH 7 ?_; refine tkH 8 ?_; refine tkH 9 ?_; refine tkH 10 ?_; refine tkH 11 ?_)
 refine wpAnyH_done (by kernel_rfl) ?_ _
 generalize w1.drew = w2 at *
 have kx2 := kx1.ext hHeld
 have hb02 : Below w.heap.size w w2 := hb01.trans (hHeld.mono hb01.size)
 have hrp2 := (HRP.out.below hHeld).more hHeld.size
 have HRP2 := Lib.hid hrp2
 have hpb2 : pb < w2.heap.size := Nat.lt_of_lt_of_le hpb' hHeld.size
 have hz2 := hb02.size
 clear x0 x1 x2 x3 x4 x5 x6 x7 x8 x9 hct HF HRP hb1 hrp2 hpb' hpbl hb01 kx1 hb0
 obtain ⟨x0, x1, x2, x3, x4, x5, x6, x7, x8, x9⟩ := bk10 kx2
 go_upto_if 29 with fail
 go_cut [7, 8, 9] (fun u7 u8 u9 wx => ∃ (HA TA : Option Addr) (hn hc tn tc F : Nat), u7 = .slice HA hn hc ∧ u8 = .slice TA tn tc ∧ u9 = .int .i64 (F : Int) ∧ F ≤ T ∧ hn ≤ 20000 ∧ tn ≤ 20000 ∧ Hid (SplM base g mb n (.slice A l.length c) nx l er kd f t gp hp i sl after ev w HA TA hn tn F wx))
 case first =>
  have hnm : ¬ LdIn.Mine g mb (.slice A l.length c) l pb := fun hm => by
   have := HH.out.mine_lt hm
   omega
  have hcut : ∀ f' t', f' ≤ t' → t' ≤ t → Rd w2 w2.heap.size 1 (some ⟨pb, f', none⟩) (t' - f') (its (((plc er l).take t').drop f')) := fun f' t' h1 h2 => by
   have := rd_icut HRP2.out h1 (show t' ≤ N by omega) hpc
   rw [if_neg (by omega)] at this
   simpa [add_flat] using this
  have HCUT := Lib.hid hcut
  have HNM := Lib.hid hnm
  clear hcut hnm
  rcases hk with hk1 | hk2
  ·have e4 : ((kd : Int) == 2) = false := by simp; omega
   have HK1 := Lib.hid hk1
   clear hk1
   have htk := take_any base g mb n A c nx ev l er (some ⟨pb, f, none⟩) (t - f) (pc - f) _ w2 (HH.out.below hb02) (Nat.le_trans hb hz2) (HCUT.out f t hft (Nat.le_refl _)) (fun a e => by injection e with e; subst e; exact HNM.out) (by omega) (plc_cut_lt l f t ht) hev (fun x hx => by have := HTK.out x hx; omega)
   rw [take_one l f t gp hp ev after ht] at htk
   have HTA := Lib.hid htk
   clear htk
   go_wp2_with (go_at_call 119; fail)
   refine HTA.out.mono ?_
   rintro e w3 ⟨⟨v3, rfl⟩, hO3⟩
   have hfin : SplM base g mb n (.slice A l.length c) nx l er kd f t gp hp i sl after ev w XA none xn 0 T w3 := by
    have hk1 := HK1.out
    subst hk1
    exact ⟨HX.out, Rd.nil_ _ _ _ _, HXA.out, (fun _ a e => by cases e), HT.out, LdOut.comp (Sti.of_below hb02) (fun k hk => .inl hk) hO3⟩
   have HFIN := Lib.hid hfin
   clear hfin hO3
   go_wp2
   go_meet
   exact ⟨XA, none, xn, xc, 0, 0, T, rfl, rfl, rfl, Nat.le_refl _, hxn, by omega, HFIN⟩
  ·have e4 : ((kd : Int) == 2) = true := by simp; omega
   obtain ⟨hfg, hgh, hht, hix⟩ := H2.out hk2
   have HK2 := Lib.hid hk2
   clear hk2
   have e5 : (i : Int) ≤ xn := by omega
   have e6 : (i : Int) ≤ xc := by omega
   go_upto_region 5 with fail
   have hF : ∀ W, Below w2.heap.size w2 W → (W.cell? ⟨w.heap.size, 5, none⟩ = some (.int .i64 (i : Int)) ∧ W.cell? ⟨w.heap.size, 8, none⟩ = some (.slice XA xn xc)) := fun W hb => ⟨(kx2.ext hb).cell 5, (kx2.ext hb).cell 8⟩
   have HF := Lib.hid hF
   clear hF
   refine wp_normal ?_
   refine wp_region_held_drew (S := fun W => Below w2.heap.size w2 W) (by kernel_rfl) (Below.drew (Below.refl _ _)) (fun hHeld => ?_)
   (refine tkH 0 ?_; refine tkH 1 ?_; refine tkH 2 ?_; refine tkH 3 ?_; refine tkH 4 ?_; refine tkH 5 ?_; refine tkH 6 ?_; refine tkH 7 ?_; refine tkH 8 ?_; refine tkH 9 ?_; refine tkH 10 ?_; refine tkH 11 ?_)
   refine wpAnyH_done (by kernel_rfl) ?_ _
   obtain ⟨F, hF⟩ : ∃ F, (plN er (l.map EH.e))[gp]? = some F := ⟨_, List.getElem?_eq_getElem (by rw [plN_len]; omega)⟩
   have hFT : F ≤ T := plN_mono _ _ _ _ _ hF HT.out (by omega)
   have hFi : (plc er l)[gp]? = some (F : Int) := by rw [plc_eq, List.getElem?_map, hF]; rfl
   obtain ⟨pb', po', e', -, hcf⟩ := int_at HRP2.out hFi
   injection e' with e'
   injection e' with e1 e2
   subst e1; subst e2
   rw [Nat.zero_add] at hcf
   have hTA : 0 < xn - i → ∀ a, (if xc = i then XA else Option.map (fun x : Addr => x.add (i * 12)) XA) = some a → ¬ LdIn.Mine g mb (.slice A l.length c) l a.block := fun h0 a ha => by
    obtain ⟨a', e1, e2⟩ := cut_block ha
    rw [← e2]
    exact HXA.out (by omega) a' e1
   have hTR : Rd w w.heap.size 12 (if xc = i then XA else Option.map (fun x : Addr => x.add (i * 12)) XA) (xn - i) (toks (tailOf kd i sl)) := by
    have := rd_fcut (F := Tok.cells) (s := 12) (fun _ => rfl) HX.out HXL.out hix (Nat.le_refl xn) hxc
    rw [List.take_of_length_le (by rw [HXL.out]; exact Nat.le_refl _)] at this
    have hk2 := HK2.out
    subst hk2
    exact this
   have hHR : Rd w w.heap.size 12 XA i (toks (headOf kd i sl)) := by
    have hk2 := HK2.out
    subst hk2
    exact rd_ttake HX.out hix
   have HF := Lib.hid hF
   have HTA := Lib.hid hTA
   have HTR := Lib.hid hTR
   have HHR := Lib.hid hHR
   have hcf3 := (hHeld.cell (p := ⟨pb, gp, none⟩) hpb2).trans hcf
   have kx3 := kx2.ext hHeld
   have hb03 : Below w.heap.size w w2.drew := hb02.trans (hHeld.mono hz2)
   have hz3 := hb03.size
   have hpb3 : pb < w2.drew.heap.size := Nat.lt_of_lt_of_le hpb2 hHeld.size
   have hcut3 : ∀ f' t', f' ≤ t' → t' ≤ t → Rd w2.drew w2.drew.heap.size 1 (some ⟨pb, f', none⟩) (t' - f') (its (((plc er l).take t').drop f')) := fun f' t' h1 h2 => ((HCUT.out f' t' h1 h2).below hHeld).more hHeld.size
   have HCUT3 := Lib.hid hcut3
   clear x0 x1 x2 x3 x4 x5 x6 x7 x8 x9 hF hFi hTA hTR hHR hcf kx2 hcut3 HCUT
   obtain ⟨x0, x1, x2, x3, x4, x5, x6, x7, x8, x9⟩ := bk10 kx3
   generalize (if xc = i then XA else Option.map (fun x : Addr => x.add (i * 12)) XA) = TA at *
   generalize w2.drew = w4 at *
   have htk := take_any base g mb n A c nx ev l er (some ⟨pb, f, none⟩) (gp - f) (pc - f) _ w4 (HH.out.below hb03) (Nat.le_trans hb hz3) (HCUT3.out f gp hfg (by omega)) (fun a e => by injection e with e; subst e; exact HNM.out) (by omega) (plc_cut_lt l f gp (by omega)) hev (fun x hx => by have := HTK.out x hx; omega)
   have HTA1 := Lib.hid htk
   clear htk
   have e7 : (gp : Int) < N := by omega
   go_wp2_with (go_at_call 119; fail)
   refine HTA1.out.mono ?_
   rintro e w5 ⟨⟨v5, rfl⟩, ⟨l5, hL5, hm5, hs5, hmine5⟩⟩
   have hs05 : Sti (LdIn.Mine g mb (.slice A l.length c) l) w w5 := (Sti.of_below (Y := LdIn.Mine g mb (.slice A l.length c) l) hb03).trans hs5 (fun k hk => .inl hk)
   have hl5 : l5.length = l.length := by
    have := congrArg List.length hm5
    simpa [tkE_len] using this
   have hz5 := hs05.size
   have kx5 := hs5.bk kx3 (fun hm => by have := HH.out.mine_lt hm; omega)
   have htk2 := take_any base g mb n A c nx ev l5 er (some ⟨pb, hp, none⟩) (t - hp) (pc - hp) _ w5 (by rw [hl5]; exact hL5) (Nat.le_trans hb hz5) ((HCUT3.out hp t hht (Nat.le_refl _)).stiW hs5 (fun _ a e => by injection e with e; subst e; exact HNM.out)) (fun a e hm => by
    injection e with e
    subst e
    rw [hl5] at hm
    rcases hmine5 _ hm with hm | hm
    ·exact HNM.out hm
    ·have hm : w4.heap.size ≤ pb := hm
     omega) (by omega) (fun x hx => by rw [hl5]; exact plc_cut_lt l hp t ht x hx) hev (fun x hx => by
    obtain ⟨e0, h1, h2⟩ := tkE_mem _ _ _ _ (by rw [← hm5]; exact List.mem_map.2 ⟨x, hx, rfl⟩ : x.e ∈ tkE ev _ (l.map EH.e))
    obtain ⟨y, hy, rfl⟩ := List.mem_map.1 h1
    have := HTK.out y hy
    simp only [List.length_drop, List.length_take] at h2
    omega)
   rw [hl5, hm5, take_two l f t gp hp ev after hfg hgh hht ht] at htk2
   have HTA2 := Lib.hid htk2
   have HM5 := Lib.hid (And.intro hs05 hmine5)
   clear htk2 hL5 hm5 hs5 hmine5 hs05 hl5 x0 x1 x2 x3 x4 x5 x6 x7 x8 x9
   obtain ⟨x0, x1, x2, x3, x4, x5, x6, x7, x8, x9⟩ := bk10 kx5
   go_wp2_with (go_at_call 119; fail)
   refine HTA2.out.mono ?_
   rintro e w6 ⟨⟨v6, rfl⟩, hO6⟩
   have hfin : SplM base g mb n (.slice A l.length c) nx l er kd f t gp hp i sl after ev w XA TA i (xn - i) F w6 := by
    refine ⟨HHR.out, HTR.out, (fun h0 => HXA.out (by omega)), HTA.out, ?_, ?_⟩
    ·have hk2 := HK2.out
     subst hk2
     exact HF.out
    ·have hk2 := HK2.out
     subst hk2
     exact LdOut.comp HM5.out.1 (fun k hk => by rcases HM5.out.2 k hk with h | h; (· exact .inl h); (· exact .inr (Nat.le_trans hz3 h))) hO6
   have HFIN := Lib.hid hfin
   clear hfin hO6
   go_wp2
   go_meet
   exact ⟨XA, TA, i, xc, xn - i, xc - i, F, rfl, rfl, rfl, hFT, by omega, by omega, HFIN⟩
 case rest =>
  obtain ⟨HA, TA, hn, hc, tn, tc, F, rfl, rfl, rfl, hFT, hhn, htn, hM⟩ := hcut
  obtain ⟨l1, hL1, hm1, hs1, hmine1⟩ := hM.out.o
  have hl1 : l1.length = l.length := by
   have := congrArg List.length hm1
   simpa [updL_len] using this
  have hz1 := hs1.size
  have hf1 := fresh_any' g mb (.slice A l.length c) nx ev HA hn hc (headOf kd i sl) wc hL1.k (hM.out.hd.stiW hs1 hM.out.ha) (fun h0 a e hg => hM.out.ha h0 a e (.inl hg)) (by omega) (by omega)
  have HF1 := Lib.hid hf1
  have HL1 := Lib.hid hL1
  have HM1 := Lib.hid hm1
  have HS1 := Lib.hid (And.intro hs1 hmine1)
  have HLL := Lib.hid hl1
  have hdl := hM.out.hd.tlen
  have htl := hM.out.tl.tlen
  have HDL := Lib.hid (And.intro hdl htl)
  have hcl : l.length ≤ c := by
   obtain ⟨A', c', e', h1, -⟩ := own_form HH.out.row
   injection e' with _ _ e'
   omega
  clear hf1 hL1 hm1 hs1 hmine1 hl1 hdl htl x0 x1 x2 x3 x4 x5 x6 x7 x8 x9
  go_wp2_with (go_at_call 120; fail)
  refine HF1.out.mono ?_
  rintro e w3 ⟨v1, rfl, hown1, hk1, hg1⟩
  have hL3 := HL1.out.count hg1 hk1
  have hs3 : Sti (LdIn.Mine g mb (.slice A l.length c) l) w w3 := HS1.out.1.trans hg1 (fun k hk => .inl (.inl hk))
  have hz3 := hs3.size
  have hz13 := hg1.size
  have hf2 := fresh_any' g mb (.slice A l.length c) (nx + (headOf kd i sl).length) ev TA tn tc (tailOf kd i sl) w3 hk1 (hM.out.tl.stiW hs3 hM.out.ta) (fun h0 a e hg => hM.out.ta h0 a e (.inl hg)) (by omega) (by have := HDL.out.1; omega)
  have HF2 := Lib.hid hf2
  have HL3 := Lib.hid hL3
  have HS3 := Lib.hid hs3
  have HO1 := Lib.hid hown1
  clear hf2 hL3 hs3 hown1 hk1 hg1
  go_wp2_with (go_at_call 120; fail)
  refine HF2.out.mono ?_
  rintro e w4 ⟨v2, rfl, hown2, hk2, hg2⟩
  have hL4 := HL3.out.count hg2 hk2
  have hs4 : Sti (LdIn.Mine g mb (.slice A l.length c) l) w w4 := HS3.out.trans hg2 (fun k hk => .inl (.inl hk))
  have hz4 := hs4.size
  have hz34 := hg2.size
  have hgw := HH.out.mine_lt (k := g) (.inl rfl)
  have hown1 := hg2.own HO1.out (fun q hq e => by
   have := own_ge HO1.out q hq
   have e : q = g := e
   omega)
  obtain ⟨hdl, htl⟩ := HDL.out
  rw [hdl] at hown1
  rw [htl] at hown2
  obtain ⟨A1, c1, rfl, hnc1, -, hA1, hr1⟩ := own_form hown1
  obtain ⟨A2, c2, rfl, hnc2, -, hA2, hr2⟩ := own_form hown2
  have hrow := hL4.row
  rw [HLL.out] at hrow
  obtain ⟨A', c', e', -, -, hAl, hrl⟩ := own_form hrow
  injection e' with e1 e2 e3'
  subst e1
  subst e3'
  have e6 : (F : Int) ≤ T := by omega
  have e7 : (T : Int) ≤ l.length := by omega
  have e8 : (T : Int) ≤ c := by omega
  have e9 : (F : Int) ≤ c := by omega
  have hF : ∀ W, Below w4.heap.size w4 W → W.cell? ⟨g, 0, none⟩ = some (.slice A l.length c) := fun W hb => (hk2.ext hb).cell 0
  have HF := Lib.hid hF
  have HL4 := Lib.hid hL4
  have HS4 := Lib.hid hs4
  have HO1' := Lib.hid (And.intro hr1 hA1)
  have HO2 := Lib.hid (And.intro hr2 hA2)
  have HRL := Lib.hid (And.intro hrl hAl)
  have HK2 := Lib.hid hk2
  clear hF hL4 hs4 hown1 hown2 hr1 hA1 hr2 hA2 hrow hrl hAl hdl htl hg2 hk2 HO1
  go_upto_region 11 with fail
  refine wp_normal ?_
  refine region_L [26] (S := fun W => Below w4.heap.size w4 W) (by kernel_rfl) (Below.drew (Below.refl _ _)) (fun hHeld => ?_)
  generalize w4.drew = wD at *
  (refine tkL 0 ?_; refine tkL 1 ?_; refine tkL 2 ?_; refine tkL 3 ?_; refine tkL 4 ?_; refine tkL 5 ?_; refine tkL 6 ?_; refine tkL 7 ?_; refine tkL 8 ?_; refine tkL 9 ?_; refine tkL 10 ?_; refine tkL 11 ?_; refine tkL 12 ?_; refine tkL 13 ?_; refine tkL 14 ?_; refine tkL 15 ?_; refine tkL 16 ?_; refine tkL 17 ?_; refine tkL 18 ?_; refine tkL 19 ?_; refine tkL 20 ?_; refine tkL 21 ?_)
  refine nxL 22 (fun K hK => ?_)
  go_simp
  have hb5 : Below wD.heap.size wD (wD.alloc (.cells #[.slice A F c, .slice A1 hn c1, .slice (if c = F then A else Option.map (fun x : Addr => x.add (F * 18)) A) (T - F) (c - F), .slice A2 tn c2, .slice (if c = T then A else Option.map (fun x : Addr => x.add (T * 18)) A) (l.length - T) (c - T)] 119)) := belowA
  refine hK.out _ _ (hHeld.trans (hb5.mono hHeld.size)) (fun hHeld5 => ?_)
  clear hK K; refine puL ?_
  have hk5 : Bk (wD.alloc (.cells #[.slice A F c, .slice A1 hn c1, .slice (if c = F then A else Option.map (fun x : Addr => x.add (F * 18)) A) (T - F) (c - F), .slice A2 tn c2, .slice (if c = T then A else Option.map (fun x : Addr => x.add (T * 18)) A) (l.length - T) (c - T)] 119)) wD.heap.size 119 #[.slice A F c, .slice A1 hn c1, .slice (if c = F then A else Option.map (fun x : Addr => x.add (F * 18)) A) (T - F) (c - F), .slice A2 tn c2, .slice (if c = T then A else Option.map (fun x : Addr => x.add (T * 18)) A) (l.length - T) (c - T)] := Bk.new wD _ _
  have hcat : sumN [⟨A, F, c, l1.take F⟩, ⟨A1, hn, c1, frs ev false nx (headOf kd i sl)⟩, ⟨(if c = F then A else Option.map (fun x : Addr => x.add (F * 18)) A), T - F, c - F, (l1.take T).drop F⟩, ⟨A2, tn, c2, frs ev false (nx + (headOf kd i sl).length) (tailOf kd i sl)⟩, ⟨(if c = T then A else Option.map (fun x : Addr => x.add (T * 18)) A), l.length - T, c - T, l1.drop T⟩] = l.length + hn + tn := by
   simp only [sumN, List.map_cons, List.map_nil, List.sum_cons, List.sum_nil]
   omega
  have hcc := concat_ent wD.heap.size 5 [⟨A, F, c, l1.take F⟩, ⟨A1, hn, c1, frs ev false nx (headOf kd i sl)⟩, ⟨(if c = F then A else Option.map (fun x : Addr => x.add (F * 18)) A), T - F, c - F, (l1.take T).drop F⟩, ⟨A2, tn, c2, frs ev false (nx + (headOf kd i sl).length) (tailOf kd i sl)⟩, ⟨(if c = T then A else Option.map (fun x : Addr => x.add (T * 18)) A), l.length - T, c - T, l1.drop T⟩] _ rfl hk5 (fun s hs => by
   have hrl := (HRL.out.1.below hHeld5).more hHeld5.size
   have hone : ∀ x ∈ l1, ∃ w base, x.In w base := fun x hx => ⟨_, _, HL4.out.each x hx⟩
   have hfre : ∀ (nx : Int) (q : List Tok), ∀ x ∈ frs ev false nx q, ∃ w base, x.In w base := fun nx q x hx => by
    obtain ⟨t, lab, rfl⟩ := frs_mem hx
    exact ⟨w, 0, freH_in _ _ _ _ _ _ hev⟩
   simp only [List.mem_cons, List.not_mem_nil, or_false] at hs
   rcases hs with rfl | rfl | rfl | rfl | rfl
   ·exact ⟨rd_ftake EH.cells_len hrl HLL.out (show F ≤ l.length by omega), (fun e => by have := (HRL.out.2 e).1; show F = 0; omega), ehs_one (fun x hx => hone x (List.mem_of_mem_take hx))⟩
   ·exact ⟨(HO1'.out.1.below hHeld5).more hHeld5.size, fun e => (HO1'.out.2 e).1, ehs_one (hfre _ _)⟩
   ·exact ⟨rd_fcut EH.cells_len hrl HLL.out hFT hTl hcl, fun e => (by
     have : T - F = 0 := by
      split at e
      ·have := (HRL.out.2 e).1; omega
      ·cases A with
       | none => have := (HRL.out.2 rfl).1; omega
       | some a => cases e
     exact this), ehs_one (fun x hx => hone x (List.mem_of_mem_take (List.mem_of_mem_drop hx)))⟩
   ·exact ⟨(HO2.out.1.below hHeld5).more hHeld5.size, fun e => (HO2.out.2 e).1, ehs_one (hfre _ _)⟩
   ·refine ⟨?_, fun e => (by
     have : l.length - T = 0 := by
      split at e
      ·have := (HRL.out.2 e).1; omega
      ·cases A with
       | none => have := (HRL.out.2 rfl).1; omega
       | some a => cases e
     exact this), ehs_one (fun x hx => hone x (List.mem_of_mem_drop hx))⟩
    have := rd_fcut EH.cells_len hrl HLL.out hTl (Nat.le_refl _) hcl
    rw [List.take_of_length_le (by rw [HLL.out]; exact Nat.le_refl _)] at this
    exact this) (by omega) (by rw [hcat]; omega)
  rw [hcat] at hcc
  have HCC := Lib.hid hcc
  clear hcc hcat hk5
  generalize wD.alloc (.cells #[.slice A F c, .slice A1 hn c1, .slice (if c = F then A else Option.map (fun x : Addr => x.add (F * 18)) A) (T - F) (c - F), .slice A2 tn c2, .slice (if c = T then A else Option.map (fun x : Addr => x.add (T * 18)) A) (l.length - T) (c - T)] 119) = w5 at *
  refine nxL 23 (fun K hK => ?_)
  go_simp
  refine HCC.out.mono ?_
  rintro e w6 ⟨v6, rfl, hown6, hb6⟩
  obtain ⟨A6, c6, rfl, -, -, -, -⟩ := own_form hown6
  have hHeld6 := hHeld5.trans (hb6.mono hHeld5.size)
  have hz6 := hHeld6.size
  have hz5 := hHeld5.size
  have HO6 := Lib.hid (own_base hown6 (show w.heap.size ≤ w5.heap.size by omega))
  clear hown6 HCC hHeld hHeld5 hb5 hb6
  refine hK.out _ _ hHeld6 (fun _ => ?_)
  clear hK K; refine puL ?_
  have kg6 := HK2.out.ext hHeld6
  have y0 := kg6.cell 0; have y1 := kg6.frozen; have y2 := def_lt' kg6
  dsimp at y0
  (refine tkL 24 ?_; refine tkL 25 ?_)
  refine ltL 26 (fun K hK => ?_)
  go_simp
  refine hK.out _ _ ?_
  refine anyL_done (by kernel_rfl) ?_
  have kg7 : Bk (w6.setCell ⟨g, 0, none⟩ (.slice A6 (l.length + hn + tn) c6)) g 121 #[.slice A6 (l.length + hn + tn) c6, .map (some mb), .int .i64 (nx + (headOf kd i sl).length + (tailOf kd i sl).length)] := kg6.set_ 0 _
  have hgg : ∀ k, (Value.slice A6 (l.length + hn + tn) c6).ownBlock = some k → w.heap.size ≤ k := own_ge HO6.out
  have hbe : base ≤ w.heap.size := hb
  have hlen6 : (catE [⟨A, F, c, l1.take F⟩, ⟨A1, hn, c1, frs ev false nx (headOf kd i sl)⟩, ⟨(if c = F then A else Option.map (fun x : Addr => x.add (F * 18)) A), T - F, c - F, (l1.take T).drop F⟩, ⟨A2, tn, c2, frs ev false (nx + (headOf kd i sl).length) (tailOf kd i sl)⟩, ⟨(if c = T then A else Option.map (fun x : Addr => x.add (T * 18)) A), l.length - T, c - T, l1.drop T⟩]) = l1.take F ++ frs ev false nx (headOf kd i sl) ++ (l1.take T).drop F ++ frs ev false (nx + (headOf kd i sl).length) (tailOf kd i sl) ++ l1.drop T := by
   simp [catE]
  have hO6 := HO6.out
  rw [hlen6] at hO6
  have hll : (l1.take F ++ frs ev false nx (headOf kd i sl) ++ (l1.take T).drop F ++ frs ev false (nx + (headOf kd i sl).length) (tailOf kd i sl) ++ l1.drop T).length = l.length + hn + tn := by
   have h1 := HLL.out
   have h2 := HDL.out
   simp only [List.length_append, List.length_take, List.length_drop, frs_len]
   omega
  have hmem : ∀ x ∈ l1.take F ++ frs ev false nx (headOf kd i sl) ++ (l1.take T).drop F ++ frs ev false (nx + (headOf kd i sl).length) (tailOf kd i sl) ++ l1.drop T, x ∈ l1 ∨ ∃ t lab, x = freH t lab ev false := fun x hx => by
   simp only [List.mem_append] at hx
   rcases hx with (((hx | hx) | hx) | hx) | hx
   ·exact .inl (List.mem_of_mem_take hx)
   ·exact .inr (frs_mem hx)
   ·exact .inl (List.mem_of_mem_take (List.mem_of_mem_drop hx))
   ·exact .inr (frs_mem hx)
   ·exact .inl (List.mem_of_mem_drop hx)
  have hkg6 : ∀ (e : TypeId) (size n : Nat) (v : Value) (xs : List Value), w6.ownsRow base e size v n xs → e ≠ 121 → v.ownBlock ≠ some g := fun e size n v xs ho hne => own_ne ho kg6 hne
  have hfin : LdDone base g mb n (.slice A l.length c) (nx + sl.length) l er (stepE er kd f t gp hp i sl ev nx after (l.map EH.e)) w (w6.setCell ⟨g, 0, none⟩ (.slice A6 (l.length + hn + tn) c6)) := by
   have hL6 := HL4.out.below hHeld6
   have hfr : frontOf kd t gp ≤ t := by
    unfold frontOf
    split
    ·rename_i h2
     have := H2.out h2
     omega
    ·exact Nat.le_refl _
   have hnx : nx + (headOf kd i sl).length + (tailOf kd i sl).length = nx + sl.length := by
    rcases hk with rfl | rfl
    ·simp [headOf, tailOf]
    ·have := HXL.out
     obtain ⟨-, -, -, h1⟩ := H2.out rfl
     simp [headOf, tailOf]
     omega
   refine ⟨_, _, ⟨by rw [← hnx]; exact kg7, hL6.le, hL6.lm, ?_, hL6.er.set_ (p := ⟨g, 0, none⟩) (hL6.er.ne kg6) _, ?_, apt_in (a := frs ev false nx (headOf kd i sl)) (b := frs ev false (nx + (headOf kd i sl).length) (tailOf kd i sl)) HL4.out.apt hFT (fun x hx k hk => by
    obtain ⟨t, lab, rfl⟩ := frs_mem hx
    exact freH_has t lab ev false k hk) (fun x hx k hk => by
    obtain ⟨t, lab, rfl⟩ := frs_mem hx
    exact freH_has t lab ev false k hk)⟩, ?_, ?_, ?_⟩
   ·rw [hll]
    exact ownsRow_setCell_other (a := ⟨g, 0, none⟩) (own_base hO6 hbe) (own_ne (b := g) hO6 kg6 (by decide)) _
   ·intro x hx
    rcases hmem x hx with hx | ⟨t, lab, rfl⟩
    ·refine (hL6.each x hx).sti (Y := fun q => q = g) ((Sti.refl (fun q => q = g) w6).set_ (p := ⟨g, 0, none⟩) (.inl rfl) _) (fun q hq e => by
      subst e
      exact (hL6.each x hx).not kg6 (by decide) (by decide) hq)
    ·exact freH_in _ _ _ _ _ _ hev
   ·simp only [List.map_append, List.map_take, List.map_drop, frs_e, HM1.out]
    exact (doE_eq _ _ _ _ _ _ 0 F T (Nat.zero_le _) hfr hM.out.fr HT.out).symm
   ·exact (HS4.out.trans (Sti.of_below (Y := LdIn.Mine g mb (.slice A l.length c) l) hHeld6) (fun k hk => .inl hk)).set_ (p := ⟨g, 0, none⟩) (.inl (.inl rfl)) _
   ·rintro k (hk | hk | hk | ⟨x, hx, hk⟩)
    ·exact .inl (.inl hk)
    ·exact .inl (.inr (.inl hk))
    ·exact .inr (hgg k hk)
    ·rcases hmem x hx with hx | ⟨t, lab, rfl⟩
     ·exact HS1.out.2 k (.inr (.inr (.inr ⟨x, hx, hk⟩)))
     ·exact absurd hk (freH_has t lab ev false k)
  have HFIN := Lib.hid hfin
  clear hfin
  go_end0
  exact ⟨⟨_, rfl⟩, HFIN.out⟩
section
variable {w w1 w6 : World} {base g mb n b c i g5 cap5 : Nat} {nx ev : Int} {er : Int → Bool} {l : List EH} {x : EH}
/-- what an entry was gone over by grows -/
theorem LdIn.grow_o (h : LdIn w base g mb n (.slice (some ⟨b, 0, none⟩) l.length c) nx l er) (hi : l[i]? = some x) (hb1 : Below w.heap.size w w1) (hev : Bd ev)
 (hown6 : w6.ownsRow base 3 1 (.slice (some ⟨g5, 0, none⟩) (x.e.ov.length + 1) cap5) (x.e.ov.length + 1) (its x.e.ov ++ [.int .i64 ev])) (hgr6 : w1.grownBy w6 x.vo.ownBlock) (hat6 : x.vo.ownBlock = some g5 ∨ w1.heap.size ≤ g5) :
 LdIn (w6.setCell ⟨b, i * 18 + 16, none⟩ (.slice (some ⟨g5, 0, none⟩) (x.e.ov.length + 1) cap5)) base g mb n (.slice (some ⟨b, 0, none⟩) l.length c) nx (l.set i ⟨{ x.e with ov := x.e.ov ++ [ev] }, x.vt, .slice (some ⟨g5, 0, none⟩) (x.e.ov.length + 1) cap5, x.vg⟩) er ∧
 Sti x.Has w w6 ∧ ∀ k, EH.Has ⟨{ x.e with ov := x.e.ov ++ [ev] }, x.vt, .slice (some ⟨g5, 0, none⟩) (x.e.ov.length + 1) cap5, x.vg⟩ k → x.Has k ∨ w.heap.size ≤ k := by
 have hX := h.each x (List.mem_of_getElem? hi)
 have ht1 := own_below hX.t hb1
 have ho1 := own_below hX.o hb1
 have hg1 := own_below hX.g hb1
 have hs6 : Sti x.Has w w6 := (Sti.of_below (Y := x.Has) hb1).trans (Sti.of_gr (Y := x.Has) hgr6 (fun i h => .inr (.inl h))) (fun i h => .inl h)
 have hfr : ∀ k, (Value.slice (some ⟨g5, 0, none⟩) (x.e.ov.length + 1) cap5).ownBlock = some k → x.vo.ownBlock = some k ∨ w.heap.size ≤ k := fun k hk => by
  have hk : some g5 = some k := hk
  injection hk with hk
  subst hk
  rcases hat6 with h | h
  ·exact .inl h
  ·exact .inr (Nat.le_trans hb1.size h)
 have hbl : ∀ k, EH.Has ⟨{ x.e with ov := x.e.ov ++ [ev] }, x.vt, .slice (some ⟨g5, 0, none⟩) (x.e.ov.length + 1) cap5, x.vg⟩ k → x.Has k ∨ w.heap.size ≤ k := fun k hk => by
  rcases hk with hk | hk | hk
  ·exact .inl (.inl hk)
  ·rcases hfr k hk with h | h
   ·exact .inl (.inr (.inl h))
   ·exact .inr h
  ·exact .inl (.inr (.inr hk))
 refine ⟨h.upd (j := 16) hi hs6 ⟨hown_grow ht1 hgr6 (fun k hk h => hX.ne k h hk), ?_, hown_grow hg1 hgr6 (hown_type hg1 ho1 (by decide)), fun k hk h => ?_, hX.bm, hX.bt, hX.bg⟩ hbl (by decide) rfl, hs6, hbl⟩
 ·show w6.ownsRow base 3 1 _ (x.e.ov ++ [ev]).length (its (x.e.ov ++ [ev]))
  rw [its_append, List.length_append]
  exact hown6
 ·rcases hfr k h with h1 | h1
  ·exact hX.ne k hk h1
  ·have := (own_far hX.t hk).2.1
   omega
theorem gvs_append (a b : List Gv) : gvs (a ++ b) = gvs a ++ gvs b := by simp [gvs]
/-- the marks given to an entry grow -/
theorem LdIn.grow_g {y : Gv} (h : LdIn w base g mb n (.slice (some ⟨b, 0, none⟩) l.length c) nx l er) (hi : l[i]? = some x) (hb1 : Below w.heap.size w w1) (hev : Bd y.ev)
 (hown6 : w6.ownsRow base 226 9 (.slice (some ⟨g5, 0, none⟩) (x.e.gv.length + 1) cap5) (x.e.gv.length + 1) (gvs x.e.gv ++ y.cells)) (hgr6 : w1.grownBy w6 x.vg.ownBlock) (hat6 : x.vg.ownBlock = some g5 ∨ w1.heap.size ≤ g5) :
 LdIn (w6.setCell ⟨b, i * 18 + 17, none⟩ (.slice (some ⟨g5, 0, none⟩) (x.e.gv.length + 1) cap5)) base g mb n (.slice (some ⟨b, 0, none⟩) l.length c) nx (l.set i ⟨{ x.e with gv := x.e.gv ++ [y] }, x.vt, x.vo, .slice (some ⟨g5, 0, none⟩) (x.e.gv.length + 1) cap5⟩) er ∧
 Sti x.Has w w6 ∧ ∀ k, EH.Has ⟨{ x.e with gv := x.e.gv ++ [y] }, x.vt, x.vo, .slice (some ⟨g5, 0, none⟩) (x.e.gv.length + 1) cap5⟩ k → x.Has k ∨ w.heap.size ≤ k := by
 have hX := h.each x (List.mem_of_getElem? hi)
 have ht1 := own_below hX.t hb1
 have ho1 := own_below hX.o hb1
 have hg1 := own_below hX.g hb1
 have hs6 : Sti x.Has w w6 := (Sti.of_below (Y := x.Has) hb1).trans (Sti.of_gr (Y := x.Has) hgr6 (fun i h => .inr (.inr h))) (fun i h => .inl h)
 have hfr : ∀ k, (Value.slice (some ⟨g5, 0, none⟩) (x.e.gv.length + 1) cap5).ownBlock = some k → x.vg.ownBlock = some k ∨ w.heap.size ≤ k := fun k hk => by
  have hk : some g5 = some k := hk
  injection hk with hk
  subst hk
  rcases hat6 with h | h
  ·exact .inl h
  ·exact .inr (Nat.le_trans hb1.size h)
 have hbl : ∀ k, EH.Has ⟨{ x.e with gv := x.e.gv ++ [y] }, x.vt, x.vo, .slice (some ⟨g5, 0, none⟩) (x.e.gv.length + 1) cap5⟩ k → x.Has k ∨ w.heap.size ≤ k := fun k hk => by
  rcases hk with hk | hk | hk
  ·exact .inl (.inl hk)
  ·exact .inl (.inr (.inl hk))
  ·rcases hfr k hk with h | h
   ·exact .inl (.inr (.inr h))
   ·exact .inr h
 refine ⟨h.upd (j := 17) hi hs6 ⟨hown_grow ht1 hgr6 (hown_type ht1 hg1 (by decide)), hown_grow ho1 hgr6 (hown_type ho1 hg1 (by decide)), ?_, hX.ne, hX.bm, hX.bt, fun k hk => ?_⟩ hbl (by decide) rfl, hs6, hbl⟩
 ·show w6.ownsRow base 226 9 _ (x.e.gv ++ [y]).length (gvs (x.e.gv ++ [y]))
  rw [gvs_append, List.length_append]
  simpa [gvs] using hown6
 ·rcases List.mem_append.1 hk with hk | hk
  ·exact hX.bg k hk
  ·rw [List.mem_singleton.1 hk]; exact hev
theorem upd_sti {w0 w w6 : World} {g mb b n1 c i o : Nat} {l l' : List EH} {x x' : EH} (u : Value) (hs : Sti (LdIn.Mine g mb (.slice (some ⟨b, 0, none⟩) n1 c) l) w0 w) (hm : ∀ k, LdIn.Mine g mb (.slice (some ⟨b, 0, none⟩) n1 c) l' k → LdIn.Mine g mb (.slice (some ⟨b, 0, none⟩) n1 c) l k ∨ w0.heap.size ≤ k)
 (hi : l'[i]? = some x) (hs6 : Sti x.Has w w6) (hbl : ∀ k, x'.Has k → x.Has k ∨ w.heap.size ≤ k) :
 Sti (LdIn.Mine g mb (.slice (some ⟨b, 0, none⟩) n1 c) l) w0 (w6.setCell ⟨b, o, none⟩ u) ∧ ∀ k, LdIn.Mine g mb (.slice (some ⟨b, 0, none⟩) n1 c) (l'.set i x') k → LdIn.Mine g mb (.slice (some ⟨b, 0, none⟩) n1 c) l k ∨ w0.heap.size ≤ k := by
 refine ⟨hs.trans ((hs6.wide (Z := LdIn.Mine g mb (.slice (some ⟨b, 0, none⟩) n1 c) l') (fun k h => .inl (.inr (.inr (.inr ⟨x, List.mem_of_getElem? hi, h⟩))))).set_ (p := ⟨b, o, none⟩) (.inl (.inr (.inr (.inl rfl)))) _) (fun k hk => hm k hk), ?_⟩
 rintro k (hk | hk | hk | ⟨y, hy, hk⟩)
 ·exact .inl (.inl hk)
 ·exact .inl (.inr (.inl hk))
 ·exact .inl (.inr (.inr (.inl hk)))
 ·rcases List.mem_or_eq_of_mem_set hy with hy | rfl
  ·exact hm k (.inr (.inr (.inr ⟨y, hy, hk⟩)))
  ·rcases hbl k hk with h | h
   ·exact hm k (.inr (.inr (.inr ⟨x, List.mem_of_getElem? hi, h⟩)))
   ·exact .inr (Nat.le_trans hs.size h)
theorem mark_next {l' l'' : List EH} {es : List Ent} {U : Nat → Ent → Ent} {f p ι : Nat} (hm : l'.map EH.e = updL er (fun r e => if f ≤ r ∧ r < p then U r e else e) 0 es) (hx : l'[ι]? = some x) (hp : (plN er es)[p]? = some ι) (hc : p < cntP er es) (hf : f ≤ p)
 (h2 : l''.map EH.e = (l'.map EH.e).set ι (U p x.e)) : l''.map EH.e = updL er (fun r e => if f ≤ r ∧ r < p + 1 then U r e else e) 0 es := by
 have h3 : (l'.map EH.e).set ι (U p x.e) = (l'.map EH.e).modify ι (U p) := by
  apply List.ext_getElem?
  intro j
  rw [List.getElem?_set, List.getElem?_modify]
  by_cases e : ι = j
  ·subst e
   have := (List.getElem?_eq_some_iff.1 hx).1
   rw [if_pos rfl, if_pos (by simpa using this), List.getElem?_map, hx]
   simp
  ·rw [if_neg e]
   simp [e]
 rw [h2, h3, hm, modify_pl (U p) _ _ 0 p ι hp hc]
 refine updL_congr _ _ (fun q e _ => ?_)
 by_cases e : q = 0 + p
 ·subst e
  rw [if_pos rfl, if_neg (by omega), if_pos (by omega), Nat.zero_add]
 ·rw [if_neg e]
  by_cases h4 : f ≤ q ∧ q < p
  ·rw [if_pos h4, if_pos (by omega)]
  ·rw [if_neg h4, if_neg (by omega)]
theorem mark_all {es : List Ent} {kd f t gp hp : Nat} {after : List Tok} (hk : 3 ≤ kd) : updL er (fun r e => if f ≤ r ∧ r < t then updE er kd f t gp hp ev after r e else e) 0 es = updL er (updE er kd f t gp hp ev after) 0 es := by
 refine updL_congr _ _ (fun q e _ => ?_)
 split
 ·rfl
 ·rename_i h
  unfold updE
  rw [if_neg (by omega), if_neg h]
theorem updE_more {kd f t gp hp p : Nat} {after : List Tok} {e : Ent} {tk : Tok} (hk : 3 ≤ kd) (hf : f ≤ p) (ht : p < t) (hpa : after[p]? = some tk) : updE er kd f t gp hp ev after p e = { e with ov := e.ov ++ [ev], gv := if tk.m = nowM er e then e.gv else e.gv ++ [⟨ev, tk.m⟩] } := by
 unfold updE
 rw [if_neg (by omega), if_pos ⟨hf, ht⟩]
 simp [List.getD_eq_getElem?_getD, hpa]
theorem updE_lens {kd f t gp hp p : Nat} {after : List Tok} {e : Ent} : (updE er kd f t gp hp ev after p e).ov.length ≤ e.ov.length + 1 ∧ (updE er kd f t gp hp ev after p e).gv.length ≤ e.gv.length + 1 ∧ (updE er kd f t gp hp ev after p e).tk.length ≤ e.tk.length + 1 := by
 unfold updE
 split
 ·split
  ·simp
  ·simp
 ·split
  ·refine ⟨by simp, ?_, by simp⟩
   dsimp only
   split
   ·omega
   ·simp
  ·simp
end
@[go_sem] theorem field_tok4 (x0 x1 x2 x3 m0 m1 m2 m3 m4 m5 m6 m7 : Value) (w : World) : (Instr.field 126 (.agg #[x0, x1, x2, x3, m0, m1, m2, m3, m4, m5, m6, m7]) 4).run Tryz.prog w = .ok (.agg #[m0, m1, m2, m3, m4, m5, m6, m7]) w := by kernel_rfl
abbrev zeroMk : Array Value := #[.int .u16 0, .int .u16 0, .int .u16 0, .int .u16 0, .int .u16 0, .int .u16 0, .int .u16 0, .int .u16 0]
theorem info_given : (Tryz.prog.info? 226).map (fun i => (i.zero, i.size, i.bytes)) = some (some (.agg zeroGv), 9, 24) := by kernel_rfl
theorem mark_any (base g mb n : Nat) (A : Option Addr) (c : Nat) (nx ev : Int) (l : List EH) (er : Int → Bool) (kd f t gp hp : Nat) (i m v : Int) (XA YA PA : Option Addr) (xn xc yn yc pn pc' : Nat) (after : List Tok) (w : World)
 (h : LdIn w base g mb n (.slice A l.length c) nx l er) (hb : base ≤ w.heap.size) (hlen : l.length ≤ 100000) (hk : 3 ≤ kd) (hft : f ≤ t) (ht : t ≤ cntP er (l.map EH.e))
 (ha : Rd w w.heap.size 12 PA pn (toks after)) (hap : t ≤ pn) (hpn : pn ≤ 100000) (haA : 0 < pn → ∀ a, PA = some a → ¬ LdIn.Mine g mb (.slice A l.length c) l a.block) (hev : Bd ev) (hov : ∀ x ∈ l, x.e.ov.length ≤ 500000 ∧ x.e.gv.length ≤ 500000) :
 Calls Tryz.prog 62 #[.pointer (some ⟨g, 0, none⟩), .agg #[.int .i64 (kd : Int), .int .i64 (f : Int), .int .i64 (t : Int), .int .i64 (gp : Int), .int .i64 (hp : Int), .int .i64 i, .int .i64 m, .int .i64 v, .slice XA xn xc, .slice YA yn yc], .int .i64 ev, .slice PA pn pc'] w
  fun e w' => (∃ v, e = .returned v) ∧ LdOut base g mb n (.slice A l.length c) nx l er (updL er (updE er kd f t gp hp ev after) 0 (l.map EH.e)) w w' := by
 have hal := ha.tlen
 have HH := Lib.hid h
 have HA := Lib.hid ha
 have HAL := Lib.hid hal
 have HAA := Lib.hid haA
 have HOV := Lib.hid hov
 have hcl := cntP_le (er := er) (l.map EH.e)
 rw [List.length_map] at hcl
 have hpl := fun W (hb : Below w.heap.size w W) => places_any base g mb n A c nx l er W (h.below hb) hlen
 have HPL := Lib.hid hpl
 clear h ha hal haA hov hpl
 go_enter Tryz.func62, Tryz.ntmps62
 go_upto_region 1 with fail
 have kx0 := Bk.new w 45 #[.int .i64 (kd : Int), .int .i64 (f : Int), .int .i64 (t : Int), .int .i64 (gp : Int), .int .i64 (hp : Int), .int .i64 i, .int .i64 m, .int .i64 v, .slice XA xn xc, .slice YA yn yc]
 have hb0 : Below w.heap.size w (w.alloc (.cells #[.int .i64 (kd : Int), .int .i64 (f : Int), .int .i64 (t : Int), .int .i64 (gp : Int), .int .i64 (hp : Int), .int .i64 i, .int .i64 m, .int .i64 v, .slice XA xn xc, .slice YA yn yc] 45)) := belowA
 generalize w.alloc (.cells #[.int .i64 (kd : Int), .int .i64 (f : Int), .int .i64 (t : Int), .int .i64 (gp : Int), .int .i64 (hp : Int), .int .i64 i, .int .i64 m, .int .i64 v, .slice XA xn xc, .slice YA yn yc] 45) = w0 at *
 go_wp2_with (go_at_call 58; fail)
 refine (HPL.out w0 hb0).mono ?_
 rintro e w1 ⟨pv, rfl, hrow, hb1⟩
 have hpn := plc_len (er := er) l
 obtain ⟨pb, pc, rfl, hpb, hpbl⟩ := hrow.form (by omega)
 have hrp := Rd.of_own hrow
 have kx1 := kx0.ext hb1
 have hb01 : Below w.heap.size w w1 := hb0.trans (hb1.mono hb0.size)
 have hpz0 := hb0.size
 obtain ⟨N, hN⟩ : ∃ N, N = (plc er l).length := ⟨_, rfl⟩
 have HRP := Lib.hid hrp
 have HN := Lib.hid hN
 rw [← hN] at hpn HRP ⊢
 have hpn1 : t < N := by omega
 have hnm : ¬ LdIn.Mine g mb (.slice A l.length c) l pb := fun hm => by
  have := HH.out.mine_lt hm
  omega
 have hnx : ¬ LdIn.Mine g mb (.slice A l.length c) l w.heap.size := fun hm => by
  have := HH.out.mine_lt hm
  omega
 have HNM := Lib.hid (And.intro hnm hnx)
 have KX1 := Lib.hid kx1
 have HB01 := Lib.hid hb01
 have hz01 := hb01.size
 obtain ⟨x0, x1, x2, x3, x4, x5, x6, x7, x8, x9⟩ := bk10 kx1
 clear hrow hrp hN HPL kx0 hpn hnm hnx hb1 hb0 hb01 kx1
 go_wp2
 go_loopw [9, 10, 11] (fun j u10 u11 wr => ∃ p : Nat, f ≤ p ∧ p ≤ t ∧ j = .int .i64 p ∧ Hid (LdOut base g mb n (.slice A l.length c) nx l er (updL er (fun r e => if f ≤ r ∧ r < p then updE er kd f t gp hp ev after r e else e) 0 (l.map EH.e)) w1 wr)) (fun j _ _ _ => t - (intOf j).toNat)
 case atStart =>
  refine ⟨f, Nat.le_refl _, hft, rfl, Lib.hid ⟨l, HH.out.below HB01.out, ?_, Sti.refl _ _, fun k hk => .inl hk⟩⟩
  rw [updL_congr (v := fun _ e => e) _ _ (fun q e _ => by rw [if_neg (by omega)]), updL_id]
 case round =>
  obtain ⟨p, hfp, hpt', rfl, hO⟩ := hrel
  obtain ⟨l', hL, hm, hs, hmine⟩ := hO.out
  have kxr := hs.bk KX1.out HNM.out.2
  clear x0 x1 x2 x3 x4 x5 x6 x7 x8 x9
  obtain ⟨x0, x1, x2, x3, x4, x5, x6, x7, x8, x9⟩ := bk10 kxr
  by_cases hpt : p < t
  ·have e3 : (p : Int) < t := by omega
   have e4 : (p : Int) < N := by omega
   obtain ⟨ι, hι⟩ : ∃ ι, (plN er (l.map EH.e))[p]? = some ι := ⟨_, List.getElem?_eq_getElem (by rw [plN_len]; omega)⟩
   have hιl : ι < l.length := by have := plN_lt _ _ _ hι (by omega); simpa using this
   have hιi : (plc er l)[p]? = some (ι : Int) := by rw [plc_eq, List.getElem?_map, hι]; rfl
   obtain ⟨pb', po', e', -, hci⟩ := int_at HRP.out hιi
   injection e' with e'
   injection e' with e1 e2
   subst e1; subst e2
   rw [Nat.zero_add] at hci
   have hci' : wr.cell? ⟨pb, p, none⟩ = some (.int .i64 (ι : Int)) := (World.cell?_of_block (a := ⟨pb, p, none⟩) (hs.block pb hpbl HNM.out.1)).trans hci
   have hll : l'.length = l.length := by
    have := congrArg List.length hm
    simpa [updL_len] using this
   obtain ⟨x, hx⟩ : ∃ x, l'[ι]? = some x := ⟨_, List.getElem?_eq_getElem (by omega)⟩
   rw [← hll] at hL
   obtain ⟨b, rfl, hE⟩ := hL.at_ hx
   have hxl : x.e.ov.length ≤ 500001 ∧ x.e.gv.length ≤ 500001 := by
    have h1 : x.e ∈ updL er (fun r e => if f ≤ r ∧ r < p then updE er kd f t gp hp ev after r e else e) 0 (l.map EH.e) := by rw [← hm]; exact List.mem_map.2 ⟨x, List.mem_of_getElem? hx, rfl⟩
    rcases updL_mem _ _ _ h1 with h2 | ⟨q, e0, h2, h3⟩
    ·obtain ⟨y, hy, h4⟩ := List.mem_map.1 h2
     have := HOV.out y hy
     rw [← h4]
     omega
    ·obtain ⟨y, hy, rfl⟩ := List.mem_map.1 h2
     have := HOV.out y hy
     rw [h3]
     split
     ·have h5 := updE_lens (er := er) (ev := ev) (kd := kd) (f := f) (t := t) (gp := gp) (hp := hp) (p := q) (after := after) (e := y.e)
      omega
     ·omega
   have e5 : (ι : Int) < l'.length := by omega
   have hF : ∀ W, Below wr.heap.size wr W → (W.cell? ⟨g, 0, none⟩ = some (.slice (some ⟨b, 0, none⟩) l'.length c) ∧ W.cell? ⟨pb, p, none⟩ = some (.int .i64 (ι : Int))) := fun W hb => ⟨(hL.k.ext hb).cell 0, (hb.cell (p := ⟨pb, p, none⟩) (Nat.lt_of_lt_of_le hpbl hs.size)).trans hci'⟩
   have HF := Lib.hid hF
   have HL := Lib.hid hL
   have HM := Lib.hid hm
   have HS := Lib.hid (And.intro hs hmine)
   have HX := Lib.hid hx
   have HI := Lib.hid hι
   have HE := Lib.hid hE
   have HLL := Lib.hid hll
   clear hF hL hm hs hmine hx hι hιi hci hci' hll hO hE
   go_upto_region 5 with fail
   refine wp_normal ?_
   refine wp_region_held_drew (S := fun W => Below wr.heap.size wr W) (by kernel_rfl) (Below.drew (Below.refl _ _)) (fun hHeld => ?_)
   (refine tkH 0 ?_; refine tkH 1 ?_; refine tkH 2 ?_; refine tkH 3 ?_; refine tkH 4 ?_; refine tkH 5 ?_; refine tkH 6 ?_; refine tkH 7 ?_; refine tkH 8 ?_; refine tkH 9 ?_)
   refine wpAnyH_done (by kernel_rfl) ?_ _
   generalize wr.drew = wa at *
   have hEa := HE.out.below hHeld
   have hLa := HL.out.below hHeld
   have hza : base ≤ wa.heap.size := by have := hHeld.size; have := HS.out.1.size; omega
   obtain ⟨Ao, co, hvo, -, -, -, -⟩ := own_form hEa.i.o
   have c4 := hEa.cells.2.2.2.1
   obtain ⟨-, -, cb, hbk⟩ := own_far (k := b) hLa.row rfl
   have HEa := Lib.hid hEa
   have HLa := Lib.hid hLa
   have HBK := Lib.hid hbk
   have hoa := hEa.i.o
   have hlb := hEa.lt
   have HHELD := Lib.hid hHeld
   clear hEa hLa hbk hHeld HF
   go_upto_region 7 with (at_builtin; ((refine app_one Tryz.underlying51 info_int' rfl (by decide) wa base x.vo x.e.ov.length _ hoa (by unfold maxLen; omega) (by omega) hza _ rfl (by simp [Value.oneCell']) rfl _ _ rfl hvo.symm rfl ?_); intro g5 cap5 w5 hown5 hgr5 hat5 hlt5; have hb5 : w5.heap[b]? = wa.heap[b]? := hgr5.block b hlb (fun e => own_ne hoa HBK.out (by decide) e.symm); have y0 := (World.cell?_of_block (a := ⟨b, ι * 18 + 16, none⟩) hb5).trans c4; have y1 := (show Bk w5 b 129 cb from hb5.trans HBK.out).frozen; have y2 := Nat.lt_of_lt_of_le hlb hgr5.size))
   obtain ⟨hL6, hs6, hbl6⟩ := HLa.out.grow_o HX.out (Below.refl _ _) hev hown5 hgr5 (hat5.imp id Nat.le_of_lt)
   have hsa : Sti (LdIn.Mine g mb (.slice (some ⟨b, 0, none⟩) l.length c) l) w1 wa := HS.out.1.trans (Sti.of_below (Y := LdIn.Mine g mb (.slice (some ⟨b, 0, none⟩) l.length c) l) HHELD.out) (fun k hk => .inl hk)
   obtain ⟨hs16, hmine6⟩ := upd_sti (o := ι * 18 + 16) (.slice (some ⟨g5, 0, none⟩) (x.e.ov.length + 1) cap5) hsa HS.out.2 HX.out hs6 hbl6
   obtain ⟨xx, hxx⟩ : ∃ xx : EH, xx = ⟨{ x.e with ov := x.e.ov ++ [ev] }, x.vt, .slice (some ⟨g5, 0, none⟩) (x.e.ov.length + 1) cap5, x.vg⟩ := ⟨_, rfl⟩
   rw [← hxx] at hL6 hmine6
   have HXX := Lib.hid hxx
   have hlen6 : (l'.set ι xx).length = l'.length := by simp
   have hx6 : (l'.set ι xx)[ι]? = some xx := List.getElem?_set_self (List.getElem?_eq_some_iff.1 HX.out).1
   have hl6 : (l'.set ι xx).length = l'.length := List.length_set ..
   rw [← hl6] at hL6
   obtain ⟨b', e', hE6⟩ := hL6.at_ hx6
   injection e' with e'
   injection e' with e'
   subst e'
   have HL6 := Lib.hid hL6
   have HS6 := Lib.hid (And.intro hs16 hmine6)
   have HE6 := Lib.hid hE6
   have HX6 := Lib.hid hx6
   clear hL6 hs6 hbl6 hsa hs16 hmine6 hxx hx6 hE6 hlen6 hl6 hown5 hgr5 hat5 hoa y0 y1 y2 hb5 c4 hvo
   generalize w5.setCell ⟨b, ι * 18 + 16, none⟩ (.slice (some ⟨g5, 0, none⟩) (x.e.ov.length + 1) cap5) = w6 at *
   obtain ⟨tk, htk⟩ : ∃ tk, after[p]? = some tk := ⟨_, List.getElem?_eq_getElem (by have := HAL.out; omega)⟩
   have hpa6 := ((HA.out.below HB01.out).more hz01).stiW HS6.out.1 HAA.out
   obtain ⟨bb, oo, rfl, hbb, hcc⟩ := hpa6.el Tok.cells (fun _ => rfl) HAL.out htk
   have HTK := Lib.hid htk
   have hrg : w6.rangeAt bb (oo + p * 12 + 4) tk.m.cells := fun j v hv => by
    have hj : j < 8 := (List.getElem?_eq_some_iff.1 hv).1
    have := hcc (4 + j) (by omega)
    rw [Nat.add_assoc (oo + p * 12) 4 j, this]
    unfold Tok.cells
    rw [← hv, show 4 + j = j + 4 by omega]
    rfl
   have e6 : (p : Int) < pn := by omega
   clear hpa6 hcc htk
   go_upto_region 8 with (first
    | ((with_reducible refine ld_mk w6 ?hg (.tmp 44) ?ho bb (oo + p * 12 + 4) ?hx tk.m hrg ?_); (case hg => rfl); (case ho => rfl); (case hx => rfl))
    | ((with_reducible refine st_mk (w6.alloc (.cells zeroMk 124)) ?hg (.tmp 11) (.tmp 45) ?ho w6.heap.size zeroMk tk.m ?he ?hx (Bk.new w6 _ _) rfl ?_); (case hg => rfl); (case ho => rfl); (case he => rfl); (case hx => rfl)))
   have hb67 : Below w6.heap.size w6 ((w6.alloc (.cells zeroMk 124)).setRow w6.heap.size tk.m.cells.toArray) := setRow_below belowA (Nat.le_refl _) _
   have k11 : Bk ((w6.alloc (.cells zeroMk 124)).setRow w6.heap.size tk.m.cells.toArray) w6.heap.size 124 tk.m.cells.toArray := setRow_bk (Bk.new w6 _ _) _
   clear hrg
   generalize (w6.alloc (.cells zeroMk 124)).setRow w6.heap.size tk.m.cells.toArray = w7 at *
   obtain ⟨tkk, ttt, tta, ttr, ⟨m0, m1, m2, m3, m4, m5, m6, m7⟩⟩ := tk
   simp only [Mk.cells] at k11
   have hE7 := HE6.out.below hb67
   obtain ⟨nt, hnt⟩ : ∃ nt, nt = nowT er xx.e := ⟨_, rfl⟩
   have hnm : nowM er x.e = nt.m := by
    rw [hnt, HXX.out]
    rfl
   obtain ⟨z0, z1, z2, z3, ⟨n0, n1, n2, n3, n4, n5, n6, n7⟩⟩ := nt
   have hnow : ∀ W, Below w7.heap.size w7 W → Calls Tryz.prog 64 #[.pointer (some ⟨g, 0, none⟩), .pointer (some ⟨b, ι * 18, none⟩)] W fun e w' => e = .returned (.agg #[.int .i64 z0, .int .i64 z1, .int .i64 z2, .int .i32 z3, .int .u16 n0, .int .u16 n1, .int .u16 n2, .int .u16 n3, .int .u16 n4, .int .u16 n5, .int .u16 n6, .int .u16 n7]) ∧ Below W.heap.size W w' := fun W hb => by
    have := lnow_any base g mb n b (ι * 18) _ nx xx er W (hE7.below hb)
    rw [← hnt] at this
    exact this
   have HNOW := Lib.hid hnow
   have HNM2 := Lib.hid hnm
   have hF : ∀ W, Below w7.heap.size w7 W → (W.cell? ⟨w6.heap.size, 0, none⟩ = some (.int .u16 m0) ∧ W.cell? ⟨w6.heap.size, 1, none⟩ = some (.int .u16 m1) ∧ W.cell? ⟨w6.heap.size, 2, none⟩ = some (.int .u16 m2) ∧ W.cell? ⟨w6.heap.size, 3, none⟩ = some (.int .u16 m3) ∧ W.cell? ⟨w6.heap.size, 4, none⟩ = some (.int .u16 m4) ∧ W.cell? ⟨w6.heap.size, 5, none⟩ = some (.int .u16 m5) ∧ W.cell? ⟨w6.heap.size, 6, none⟩ = some (.int .u16 m6) ∧ W.cell? ⟨w6.heap.size, 7, none⟩ = some (.int .u16 m7)) := fun W hb => by
    have k := k11.ext hb
    exact ⟨k.cell 0, k.cell 1, k.cell 2, k.cell 3, k.cell 4, k.cell 5, k.cell 6, k.cell 7⟩
   have HF := Lib.hid hF
   have HB67 := Lib.hid hb67
   have K11 := Lib.hid k11
   clear hnow hnm hF hE7 hnt hb67 k11
   refine wp_normal ?_
   refine wp_region_held_drew (S := fun W => Below w7.heap.size w7 W) (by kernel_rfl) (Below.drew (Below.refl _ _)) (fun hHeld => ?_)
   (refine tkH 0 ?_; refine tkH 1 ?_; refine tkH 2 ?_)
   refine nxH 3 (fun K hK => ?_)
   go_simp
   refine (HNOW.out _ hHeld).mono ?_
   rintro e w8 ⟨rfl, hb8⟩
   have hHeld8 := hHeld.trans (hb8.mono hHeld.size)
   clear hHeld hb8
   refine hK.out _ _ hHeld8 (fun hHeld => ?_)
   clear hK K; refine puH ?_
   (refine tkH 4 ?_; refine tkH 5 ?_)
   refine wpAnyH_done (by kernel_rfl) ?_ _
   by_cases heq : (Mk.mk m0 m1 m2 m3 m4 m5 m6 m7) = (Mk.mk n0 n1 n2 n3 n4 n5 n6 n7)
   ·have e7 : mkB (Mk.mk m0 m1 m2 m3 m4 m5 m6 m7) (Mk.mk n0 n1 n2 n3 n4 n5 n6 n7) = true := decide_eq_true heq
    simp only [e7, Bool.not_true]
    have hfin : LdOut base g mb n (.slice (some ⟨b, 0, none⟩) l.length c) nx l er (updL er (fun r e => if f ≤ r ∧ r < p + 1 then updE er kd f t gp hp ev after r e else e) 0 (l.map EH.e)) w1 w8 := by
     have h8 := HL6.out.below (HB67.out.trans (hHeld8.mono HB67.out.size))
     rw [List.length_set, HLL.out] at h8
     refine ⟨_, h8, mark_next HM.out HX.out HI.out (by omega) hfp ?_, HS6.out.1.trans (Sti.of_below (Y := LdIn.Mine g mb (.slice (some ⟨b, 0, none⟩) l.length c) l) (HB67.out.trans (hHeld8.mono HB67.out.size))) (fun k hk => .inl hk), HS6.out.2⟩
     rw [List.map_set, HXX.out, updE_more hk hfp hpt HTK.out]
     have h9 : (⟨m0, m1, m2, m3, m4, m5, m6, m7⟩ : Mk) = nowM er x.e := by rw [HNM2.out]; exact heq
     dsimp only
     rw [if_pos h9]
    have HFIN := Lib.hid hfin
    have hfp1 : p + 1 ≤ t := by omega
    have hfp2 : f ≤ p + 1 := by omega
    have kxe := HFIN.out.choose_spec.2.2.1.bk KX1.out HNM.out.2
    clear hfin heq hHeld hHeld8 x0 x1 x2 x3 x4 x5 x6 x7 x8 x9
    go_wp2
    go_roundw
    case rel => exact ⟨p + 1, hfp2, hfp1, by go_num, HFIN⟩
    case measure => simp [intOf]; omega
   ·have e7 : mkB (Mk.mk m0 m1 m2 m3 m4 m5 m6 m7) (Mk.mk n0 n1 n2 n3 n4 n5 n6 n7) = false := decide_eq_false heq
    simp only [e7, Bool.not_false]
    have hb68 := HB67.out.trans (hHeld8.mono HB67.out.size)
    have hL8 := HL6.out.below hb68
    have hE8 := HE6.out.below hb68
    have k8 := K11.out.ext hHeld8
    obtain ⟨Ag, gc, hvg, -, -, -, -⟩ := own_form hE8.i.g
    have hgl : xx.e.gv.length ≤ 500001 := by rw [HXX.out]; exact hxl.2
    have c5 := hE8.cells.2.2.2.2.1
    obtain ⟨-, -, cb8, hbk8⟩ := own_far (k := b) hL8.row rfl
    have nb8 : ¬ xx.Has b := hE8.i.not hbk8 (by decide) (by decide)
    have nm8 : ¬ xx.Has w6.heap.size := hE8.i.not k8 (by decide) (by decide)
    have hF : ∀ W, Sti xx.Has w8 W → (W.cell? ⟨b, ι * 18 + 17, none⟩ = some xx.vg ∧ W.cell? ⟨w6.heap.size, 0, none⟩ = some (.int .u16 m0) ∧ W.cell? ⟨w6.heap.size, 1, none⟩ = some (.int .u16 m1) ∧ W.cell? ⟨w6.heap.size, 2, none⟩ = some (.int .u16 m2) ∧ W.cell? ⟨w6.heap.size, 3, none⟩ = some (.int .u16 m3) ∧ W.cell? ⟨w6.heap.size, 4, none⟩ = some (.int .u16 m4) ∧ W.cell? ⟨w6.heap.size, 5, none⟩ = some (.int .u16 m5) ∧ W.cell? ⟨w6.heap.size, 6, none⟩ = some (.int .u16 m6) ∧ W.cell? ⟨w6.heap.size, 7, none⟩ = some (.int .u16 m7)) := fun W hb => by
     have k := hb.bk k8 nm8
     exact ⟨(World.cell?_of_block (a := ⟨b, ι * 18 + 17, none⟩) (hb.block b hE8.lt nb8)).trans c5, k.cell 0, k.cell 1, k.cell 2, k.cell 3, k.cell 4, k.cell 5, k.cell 6, k.cell 7⟩
    have HF := Lib.hid hF
    have hbD : Below w8.heap.size w8 w8.drew := Below.drew (Below.refl _ _)
    have HL8 := Lib.hid hL8
    have HE8 := Lib.hid hE8
    have HBK8 := Lib.hid hbk8
    have hlb8 := hE8.lt
    have hz8 : base ≤ w8.heap.size := by have := hb68.size; have := HS6.out.1.size; omega
    clear hF hL8 hE8 hbk8 c5 k8 hHeld heq x0 x1 x2 x3 x4 x5 x6 x7 x8 x9
    go_upto_region 9 with fail
    refine wp_normal ?_
    refine region_L [12] (S := fun w' => Sti xx.Has w8 w') (by kernel_rfl) (Sti.of_below (Below.drew (Below.refl _ _))) (fun hHeld => ?_)
    generalize w8.drew = wD at *
    (refine tkL 0 ?_; refine tkL 1 ?_; refine tkL 2 ?_; refine tkL 3 ?_; refine tkL 4 ?_; refine tkL 5 ?_; refine tkL 6 ?_; refine tkL 7 ?_)
    refine nxL 8 (fun K hK => ?_)
    go_simp
    have hb9 : Below wD.heap.size wD (wD.alloc (.cells #[.int .i64 ev, .int .u16 m0, .int .u16 m1, .int .u16 m2, .int .u16 m3, .int .u16 m4, .int .u16 m5, .int .u16 m6, .int .u16 m7] 226)) := belowA
    refine hK.out _ _ (hHeld.trans (Sti.of_below (Y := xx.Has) hb9) (fun k hk => .inl hk)) (fun hHeld9 => ?_)
    clear hK K; refine puL ?_
    have hb89 := hbD.trans (hb9.mono hbD.size)
    have hk9 := Bk.new wD 226 #[.int .i64 ev, .int .u16 m0, .int .u16 m1, .int .u16 m2, .int .u16 m3, .int .u16 m4, .int .u16 m5, .int .u16 m6, .int .u16 m7]
    have hz9 := hb89.size
    clear hHeld
    generalize wD.alloc (.cells #[.int .i64 ev, .int .u16 m0, .int .u16 m1, .int .u16 m2, .int .u16 m3, .int .u16 m4, .int .u16 m5, .int .u16 m6, .int .u16 m7] 226) = wE at *
    have hog := own_below HE8.out.i.g hb89
    refine nxL 9 (fun K hK => ?_)
    refine app_at_step Tryz.underlying127 info_given rfl (by decide) base xx.vg xx.e.gv.length _ hog (by unfold maxLen; omega) (by omega) (by omega) wD.heap.size #[.int .i64 ev, .int .u16 m0, .int .u16 m1, .int .u16 m2, .int .u16 m3, .int .u16 m4, .int .u16 m5, .int .u16 m6, .int .u16 m7] hk9 rfl (by simp [Value.oneCell']) rfl (.tmp 56) (.tmp 60) rfl hvg.symm rfl ?_
    intro g6 cap6 w10 hown10 hgr10 hat10 hlt10
    obtain ⟨hL11, hs10, hbl10⟩ := HL8.out.grow_g (y := ⟨ev, (Mk.mk m0 m1 m2 m3 m4 m5 m6 m7)⟩) HX6.out hb89 hev hown10 hgr10 (hat10.imp id (fun e => by rw [e]; exact Nat.le_refl _))
    refine hK.out _ _ hs10 (fun hHeld => ?_)
    clear hK K; refine puL ?_
    (refine tkL 10 ?_; refine tkL 11 ?_)
    have hb10 : w10.heap[b]? = w8.heap[b]? := hs10.block b hlb8 nb8
    have y0 : w10.cell? ⟨b, ι * 18 + 17, none⟩ = some xx.vg := (HF.out w10 hs10).1
    have y1 := (show Bk w10 b 129 cb8 from hb10.trans HBK8.out).frozen
    have y2 := def_lt' (show Bk w10 b 129 cb8 from hb10.trans HBK8.out)
    refine ltL 12 (fun K hK => ?_)
    go_simp
    refine hK.out _ _ ?_
    refine anyL_done (by kernel_rfl) ?_
    have hs18 : Sti (LdIn.Mine g mb (.slice (some ⟨b, 0, none⟩) l.length c) l) w1 w8 := HS6.out.1.trans (Sti.of_below (Y := LdIn.Mine g mb (.slice (some ⟨b, 0, none⟩) l.length c) l) hb68) (fun k hk => .inl hk)
    obtain ⟨hs11, hmine11⟩ := upd_sti (o := ι * 18 + 17) (.slice (some ⟨g6, 0, none⟩) (xx.e.gv.length + 1) cap6) hs18 HS6.out.2 HX6.out hs10 hbl10
    have hfin : LdOut base g mb n (.slice (some ⟨b, 0, none⟩) l.length c) nx l er (updL er (fun r e => if f ≤ r ∧ r < p + 1 then updE er kd f t gp hp ev after r e else e) 0 (l.map EH.e)) w1 (w10.setCell ⟨b, ι * 18 + 17, none⟩ (.slice (some ⟨g6, 0, none⟩) (xx.e.gv.length + 1) cap6)) := by
     rw [List.length_set, HLL.out] at hL11
     refine ⟨_, hL11, mark_next HM.out HX.out HI.out (by omega) hfp ?_, hs11, hmine11⟩
     rw [List.map_set, List.map_set, List.set_set, HXX.out, updE_more hk hfp hpt HTK.out]
     have h9 : ¬ (⟨m0, m1, m2, m3, m4, m5, m6, m7⟩ : Mk) = nowM er x.e := by
      rw [HNM2.out]
      intro h10
      rw [h10] at e7
      unfold mkB at e7
      simp at e7
     dsimp only
     rw [if_neg h9]
    have HFIN := Lib.hid hfin
    have hfp1 : p + 1 ≤ t := by omega
    have hfp2 : f ≤ p + 1 := by omega
    clear hfin hHeld hHeld9 hHeld8 hL11 hs10 hbl10 hs11 hmine11 hown10 hgr10 hat10 y0 y1 y2 hog hk9 hb9 hb89 hvg hb10
    generalize w10.setCell ⟨b, ι * 18 + 17, none⟩ (.slice (some ⟨g6, 0, none⟩) (xx.e.gv.length + 1) cap6) = w11 at *
    go_wp2
    go_roundw
    case rel => exact ⟨p + 1, hfp2, hfp1, by go_num, HFIN⟩
    case measure => simp [intOf]; omega
  ·obtain rfl : t = p := by omega
   have hfin : LdOut base g mb n (.slice A l.length c) nx l er (updL er (updE er kd f t gp hp ev after) 0 (l.map EH.e)) w wr := by
    have := hO.out
    rw [mark_all hk] at this
    exact LdOut.comp (Sti.of_below HB01.out) (fun k hk => .inl hk) this
   have HFIN := Lib.hid hfin
   clear hfin
   go_wp2
   go_end0
   exact ⟨⟨_, rfl⟩, HFIN.out⟩
theorem shB_zero {k f t g h i m v : Int} {n n' : Nat} (h0 : shB k f t g h i m v n n' = true) : 0 ≤ g ∧ 0 ≤ h ∧ 0 ≤ i ∧ (3 ≤ k → n = 0) := by
 obtain ⟨⟨b0, b1, b2⟩, hk, h2, -⟩ := shB_spec h0
 unfold shB at h0
 rw [Bool.and_eq_true] at h0
 obtain ⟨-, hs⟩ := h0
 rcases hk with rfl | rfl | rfl | rfl | rfl
 ·rw [if_pos rfl] at hs
  have : g = 0 ∧ h = 0 ∧ i = 0 ∧ m = 0 ∧ v = 0 ∧ n' = 0 ∧ n ≤ 20000 := by simpa [sh1] using hs
  omega
 ·have := h2 rfl
  omega
 ·rw [if_neg (by omega), if_neg (by omega), if_pos (by omega)] at hs
  have : g = 0 ∧ h = 0 ∧ i = 0 ∧ n = 0 ∧ n' = 0 := by simpa [sh3] using hs
  omega
 ·rw [if_neg (by omega), if_neg (by omega), if_pos (by omega)] at hs
  have : g = 0 ∧ h = 0 ∧ i = 0 ∧ n = 0 ∧ n' = 0 := by simpa [sh3] using hs
  omega
 ·rw [if_neg (by omega), if_neg (by omega), if_neg (by omega), if_pos rfl] at hs
  have : g = 0 ∧ h = 0 ∧ i = 0 ∧ m = 0 ∧ v = 0 ∧ n = 0 ∧ (n' : Int) = t - f ∧ n' ≤ 20000 := by simpa [sh5] using hs
  omega
/-- by how many tokens a step makes a row longer -/
def shiftS (k f t g h : Int) (n : Nat) : Int := if k = 1 then n - (t - f) else if k = 2 then n - ((g - f) + (t - h)) else 0
theorem inB_ok {x : Int} (h : 0 ≤ x ∧ x ≤ 1073741824) : inB x = true := by
 unfold inB
 simp
 omega
theorem shiftM_mapB {k f t g h i m v : Int} {n n' : Nat} (h0 : shB k f t g h i m v n n' = true) : shiftM (mapB k f t g h i m v n n') = shiftS k f t g h n := by
 obtain ⟨⟨b0, b1, b2⟩, hk, h2, h1⟩ := shB_spec h0
 unfold mapB
 rw [if_pos h0]
 unfold mapS shiftS
 rcases (show k = 1 ∨ k = 2 ∨ 3 ≤ k by omega) with rfl | rfl | h3
 ·have hn := h1 rfl
  rw [if_pos (.inl rfl), if_pos rfl]
  have hr : rightM [⟨f, t - f, n⟩] = true := by
   simp only [rightM, rightFrom, List.length_cons, List.length_nil, Bool.and_eq_true, decide_eq_true_eq]
   exact ⟨by omega, ⟨⟨⟨inB_ok (by omega), inB_ok (by omega)⟩, inB_ok (by omega)⟩, by omega⟩, trivial⟩
  unfold shiftM
  rw [if_pos hr]
  simp [shiftL]
 ·obtain ⟨g1, g2, g3, g4, g5, g6⟩ := h2 rfl
  rw [if_neg (show ¬ (2 : Int) = 1 by omega), if_pos rfl]
  by_cases hgh : g = h
  ·rw [if_pos (.inr ⟨rfl, hgh⟩)]
   have hr : rightM [⟨f, t - f, n⟩] = true := by
    simp only [rightM, rightFrom, List.length_cons, List.length_nil, Bool.and_eq_true, decide_eq_true_eq]
    exact ⟨by omega, ⟨⟨⟨inB_ok (by omega), inB_ok (by omega)⟩, inB_ok (by omega)⟩, by omega⟩, trivial⟩
   unfold shiftM
   rw [if_pos hr]
   simp [shiftL]
   omega
  ·rw [if_neg (by omega), if_pos rfl]
   have hr : rightM [⟨f, g - f, i⟩, ⟨h, t - h, (n : Int) - i⟩] = true := by
    simp only [rightM, rightFrom, List.length_cons, List.length_nil, Bool.and_eq_true, decide_eq_true_eq]
    exact ⟨by omega, ⟨⟨⟨inB_ok (by omega), inB_ok (by omega)⟩, inB_ok (by omega)⟩, by omega⟩, ⟨⟨⟨inB_ok (by omega), inB_ok (by omega)⟩, inB_ok (by omega)⟩, by omega⟩, trivial⟩
   unfold shiftM
   rw [if_pos hr]
   simp [shiftL]
   omega
 ·rw [if_neg (by omega), if_neg (by omega), if_neg (by omega), if_neg (by omega)]
  rfl
theorem mapB_len (k f t g h i m v : Int) (n n' : Nat) : (mapB k f t g h i m v n n').length ≤ 2 := by
 unfold mapB mapS
 split
 ·split
  ·simp
  ·split <;> simp
 ·simp
/-- how many tokens a step makes -/
theorem doesL_shift {k f t g h i m v : Int} {n n' : Nat} (h0 : shB k f t g h i m v n n' = true) (sl l : List Tok) (mk : Nat → Mk) (hsl : sl.length = n) (ht : t ≤ l.length) : ((doesL k.toNat f.toNat t.toNat g.toNat h.toNat i.toNat sl mk l).length : Int) = l.length + shiftS k f t g h n := by
 obtain ⟨⟨b0, b1, b2⟩, hk, h2, h1⟩ := shB_spec h0
 unfold shiftS
 rcases (show k = 1 ∨ k = 2 ∨ 3 ≤ k by omega) with rfl | rfl | h3
 ·rw [if_pos rfl, show (1 : Int).toNat = 1 from rfl, doesL_one]
  simp only [List.length_append, List.length_take, List.length_drop]
  omega
 ·obtain ⟨g1, g2, g3, g4, g5, g6⟩ := h2 rfl
  rw [if_neg (by omega), if_pos rfl, show (2 : Int).toNat = 2 from rfl, doesL_two]
  simp only [List.length_append, List.length_take, List.length_drop]
  omega
 ·rw [if_neg (by omega), if_neg (by omega), doesL_more _ _ _ _ _ _ _ _ (by omega), markL_len]
  omega
theorem ldo_any (base g mb n : Nat) (sv : Value) (nx ev : Int) (l : List EH) (er : Int → Bool) (k f t gp hp i m v : Int) (XA YA PA : Option Addr) (xn xc yn yc pn pc : Nat) (sl after : List Tok) (st : List Mk) (w : World)
 (h : LdIn w base g mb n sv nx l er) (hb : base ≤ w.heap.size) (hlen : l.length ≤ 50000) (hnx : 0 ≤ nx ∧ nx ≤ 100000000) (hsh : shB k f t gp hp i m v xn yn = true) (ht : t ≤ cntP er (l.map EH.e))
 (hx : Rd w w.heap.size 12 XA xn (toks sl)) (hxc : xn ≤ xc) (hxn : xn ≤ 20000) (hxA : 0 < xn → ∀ a, XA = some a → ¬ LdIn.Mine g mb sv l a.block) (hy : Rd w w.heap.size 8 YA yn (mks st)) (hyn : yn ≤ 20000)
 (ha : Rd w w.heap.size 12 PA pn (toks after)) (hpn : (pn : Int) = cntP er (l.map EH.e) + shiftS k f t gp hp xn) (haA : 0 < pn → ∀ a, PA = some a → ¬ LdIn.Mine g mb sv l a.block) (hev : Bd ev) (hlim : ∀ x ∈ l, x.e.tk.length ≤ 500000 ∧ x.e.ov.length ≤ 500000 ∧ x.e.gv.length ≤ 500000) :
 Calls Tryz.prog 13 #[.pointer (some ⟨g, 0, none⟩), .agg #[.int .i64 k, .int .i64 f, .int .i64 t, .int .i64 gp, .int .i64 hp, .int .i64 i, .int .i64 m, .int .i64 v, .slice XA xn xc, .slice YA yn yc], .int .i64 ev, .slice PA pn pc] w
  fun e w' => e = .returned (.int .i64 0) ∧ LdDone base g mb n sv (nx + sl.length) l er (stepE er k.toNat f.toNat t.toNat gp.toNat hp.toNat i.toNat sl ev nx after (l.map EH.e)) w w' := by
 have hxl := hx.tlen
 obtain ⟨A, c, rfl, hlc, -⟩ := h.form
 obtain ⟨⟨b0, b1, b2⟩, hk, h2, h1⟩ := shB_spec hsh
 obtain ⟨z1, z2, z3, z4⟩ := shB_zero hsh
 have hcl := cntP_le (er := er) (l.map EH.e)
 rw [List.length_map] at hcl
 have hss : shiftS k f t gp hp xn ≤ xn := by
  unfold shiftS
  split
  ·omega
  ·split
   ·rename_i h3
    have := h2 h3
    omega
   ·omega
 have hms := shiftM_mapB hsh
 have hsha := fun W (hb : Below w.heap.size w W) => shape_any k f t gp hp i m v XA YA xn yn xc yc W sl st (by unfold maxLen; omega) (by unfold maxLen; omega) ((hx.below hb).more hb.size) ((hy.below hb).more hb.size)
 have hmap := fun W (hb : Below w.heap.size w W) => map_any k f t gp hp i m v XA YA xn yn xc yc W sl st (by unfold maxLen; omega) (by unfold maxLen; omega) ((hx.below hb).more hb.size) ((hy.below hb).more hb.size)
 have hpl := fun W (hb : Below w.heap.size w W) => places_any base g mb n A c nx l er W (h.below hb) (by omega)
 rw [hsh] at hsha
 obtain ⟨L, hL⟩ : ∃ L, L = mapB k f t gp hp i m v xn yn := ⟨_, rfl⟩
 have hLl : L.length ≤ 2 := by rw [hL]; exact mapB_len _ _ _ _ _ _ _ _ _ _
 rw [← hL] at hmap hms
 have hlg := def_lt' h.k
 have HSH := Lib.hid hsha
 have HMP := Lib.hid hmap
 have HPL := Lib.hid hpl
 have HH := Lib.hid h
 have HX := Lib.hid (And.intro hx hxl)
 have HA := Lib.hid ha
 have HMS := Lib.hid hms
 have HLM := Lib.hid hlim
 have HXA := Lib.hid (And.intro hxA haA)
 have HPN := Lib.hid hpn
 have H2 := Lib.hid (And.intro h2 z4)
 clear hsha hmap hpl h hx hxl hy ha hms hlim hxA haA hL h2 z4 h1
 obtain ⟨kd, rfl⟩ : ∃ k' : Nat, k = (k' : Int) := ⟨k.toNat, by omega⟩
 obtain ⟨f, rfl⟩ : ∃ f' : Nat, f = (f' : Int) := ⟨f.toNat, by omega⟩
 obtain ⟨t, rfl⟩ : ∃ t' : Nat, t = (t' : Int) := ⟨t.toNat, by omega⟩
 obtain ⟨gp, rfl⟩ : ∃ g' : Nat, gp = (g' : Int) := ⟨gp.toNat, by omega⟩
 obtain ⟨hp, rfl⟩ : ∃ h' : Nat, hp = (h' : Int) := ⟨hp.toNat, by omega⟩
 obtain ⟨i, rfl⟩ : ∃ i' : Nat, i = (i' : Int) := ⟨i.toNat, by omega⟩
 have hpl2 := plc_len (er := er) l
 obtain ⟨N, hN⟩ : ∃ N, N = cntP er (l.map EH.e) := ⟨_, rfl⟩
 have HN := Lib.hid hN
 rw [← hN] at ht hpn hcl hpl2
 have hpn2 : pn ≤ 100000 := by omega
 obtain ⟨S, hS⟩ : ∃ S, S = shiftS (kd : Int) f t gp hp xn := ⟨_, rfl⟩
 rw [← hS] at hpn HMS
 have e2 : IntKind.i64.wrap ((N : Int) + S) = (pn : Int) := by rw [IntWalk.i64_in _ (by omega)]; omega
 have hsf := fun W (A2 : Option Addr) (c2 : Nat) (hr : Rd W W.heap.size 3 A2 L.length (rgs L)) => shift_any A2 L.length c2 L W (by unfold maxLen; omega) (fun _ => hr) rfl
 rw [HMS.out] at hsf
 have HSF := Lib.hid hsf
 have HPN2 := Lib.hid hpn
 have HS0 := Lib.hid hS
 clear hN hsh hpn hS hsf HPN
 simp only [Int.toNat_natCast]
 go_enter Tryz.func13, Tryz.ntmps13
 go_upto_region 1 with fail
 have kx0 := Bk.new w 45 #[.int .i64 (kd : Int), .int .i64 (f : Int), .int .i64 (t : Int), .int .i64 (gp : Int), .int .i64 (hp : Int), .int .i64 (i : Int), .int .i64 m, .int .i64 v, .slice XA xn xc, .slice YA yn yc]
 have hb0 : Below w.heap.size w (w.alloc (.cells #[.int .i64 (kd : Int), .int .i64 (f : Int), .int .i64 (t : Int), .int .i64 (gp : Int), .int .i64 (hp : Int), .int .i64 (i : Int), .int .i64 m, .int .i64 v, .slice XA xn xc, .slice YA yn yc] 45)) := belowA
 generalize w.alloc (.cells #[.int .i64 (kd : Int), .int .i64 (f : Int), .int .i64 (t : Int), .int .i64 (gp : Int), .int .i64 (hp : Int), .int .i64 (i : Int), .int .i64 m, .int .i64 v, .slice XA xn xc, .slice YA yn yc] 45) = w0 at *
 obtain ⟨x0, x1, x2, x3, x4, x5, x6, x7, x8, x9⟩ := bk10 kx0
 go_wp2_with (go_at_call 57; fail)
 refine (HSH.out w0 hb0).mono ?_
 rintro e w1 ⟨rfl, hb1⟩
 have hb01 : Below w.heap.size w w1 := hb0.trans (hb1.mono hb0.size)
 have kx1 := kx0.ext hb1
 clear x0 x1 x2 x3 x4 x5 x6 x7 x8 x9 kx0 hb0 hb1
 obtain ⟨x0, x1, x2, x3, x4, x5, x6, x7, x8, x9⟩ := bk10 kx1
 go_wp2_with (go_at_call 58; fail)
 refine (HPL.out w1 hb01).mono ?_
 rintro e w2 ⟨pv, rfl, hrow, hb2⟩
 obtain ⟨Ap, cp, rfl, -, -, -, -⟩ := own_form hrow
 have hb02 : Below w.heap.size w w2 := hb01.trans (hb2.mono hb01.size)
 have kx2 := kx1.ext hb2
 obtain ⟨M, hM⟩ : ∃ M, M = (plc er l).length := ⟨_, rfl⟩
 rw [← hM] at hpl2 ⊢
 have e1 : IntKind.i64.wrap ((M : Int) - 1) = (N : Int) := by rw [IntWalk.i64_in _ (by omega)]; omega
 have hMN : (M : Int) - 1 = N := by omega
 have HMN := Lib.hid hMN
 clear x0 x1 x2 x3 x4 x5 x6 x7 x8 x9 kx1 hb01 hb2 hrow hM hMN hpl2
 obtain ⟨x0, x1, x2, x3, x4, x5, x6, x7, x8, x9⟩ := bk10 kx2
 go_wp2_with (go_at_call 60; fail)
 refine (HMP.out w2 hb02).mono ?_
 rintro e w3 ⟨A2, c2, rfl, hr2, -, hb3⟩
 have hb03 : Below w.heap.size w w3 := hb02.trans (hb3.mono hb02.size)
 have kx3 := kx2.ext hb3
 have hsf := HSF.out w3 A2 c2 hr2
 have HSF3 := Lib.hid hsf
 clear x0 x1 x2 x3 x4 x5 x6 x7 x8 x9 kx2 hb02 hb3 hr2 hsf
 obtain ⟨x0, x1, x2, x3, x4, x5, x6, x7, x8, x9⟩ := bk10 kx3
 go_wp2_with (go_at_call 59; fail)
 refine HSF3.out.mono ?_
 rintro e w4 ⟨rfl, hb4⟩
 have hb04 : Below w.heap.size w w4 := hb03.trans (hb4.mono hb03.size)
 have kx4 := kx3.ext hb4
 have hz4 := hb04.size
 have e3 : (t : Int) ≤ N := by omega
 have hfin : ∀ W, LdDone base g mb n (.slice A l.length c) (nx + sl.length) l er (stepE er kd f t gp hp i sl ev nx after (l.map EH.e)) w4 W → LdDone base g mb n (.slice A l.length c) (nx + sl.length) l er (stepE er kd f t gp hp i sl ev nx after (l.map EH.e)) w W := fun W hd => by
  obtain ⟨sv', l', q1, q2, q3, q4⟩ := hd
  exact ⟨sv', l', q1, q2, (Sti.of_below hb04).trans q3 (fun k hk => .inl hk), fun k hk => (q4 k hk).imp id (fun h => Nat.le_trans hz4 h)⟩
 have HFIN := Lib.hid hfin
 clear x0 x1 x2 x3 x4 x5 x6 x7 x8 x9 kx3 hb03 hb4 hfin
 obtain ⟨x0, x1, x2, x3, x4, x5, x6, x7, x8, x9⟩ := bk10 kx4
 have h4 := HH.out.below hb04
 have hxr := Rd.stiW (Y := fun _ => False) HX.out.1 (Sti.of_below hb04) (fun _ _ _ h => h)
 have har := Rd.stiW (Y := fun _ => False) HA.out (Sti.of_below hb04) (fun _ _ _ h => h)
 have htN : t ≤ cntP er (l.map EH.e) := by rw [← HN.out]; omega
 by_cases hk2 : kd ≤ 2
 ·have hspl := splice_any base g mb n A c nx ev l er kd f t gp hp i xn xc yn yc m v XA YA sl after w4 h4 (by omega) (by omega) (by omega) (by omega) htN (fun e => by have := H2.out.1 (by omega); omega) hxr hxc HXA.out.1 hxn hev (fun x hx => (HLM.out x hx).1) hnx
  have HSPL := Lib.hid hspl
  clear hspl h4 hxr har htN
  by_cases hk1 : kd = 1
  ·have e4 : ((kd : Int) == 1) = true := by simp; omega
   clear hk1
   go_wp2_with (go_at_call 61; fail)
   refine HSPL.out.mono ?_
   rintro e w5 ⟨⟨v5, rfl⟩, hd⟩
   have HD := Lib.hid (HFIN.out w5 hd)
   clear hd
   go_wp2
   go_ret
   exact ⟨rfl, HD.out⟩
  ·have e4 : ((kd : Int) == 1) = false := by simp; omega
   have e5 : ((kd : Int) == 2) = true := by simp; omega
   clear hk1
   go_wp2_with (go_at_call 61; fail)
   refine HSPL.out.mono ?_
   rintro e w5 ⟨⟨v5, rfl⟩, hd⟩
   have HD := Lib.hid (HFIN.out w5 hd)
   clear hd
   go_wp2
   go_ret
   exact ⟨rfl, HD.out⟩
 ·have hmk := mark_any base g mb n A c nx ev l er kd f t gp hp i m v XA YA PA xn xc yn yc pn pc after w4 h4 (by omega) (by omega) (by omega) (by omega) htN har (by
   have h5 := HS0.out
   have h6 := HPN2.out
   unfold shiftS at h5
   rw [if_neg (by omega), if_neg (by omega)] at h5
   omega) hpn2 HXA.out.2 hev (fun x hx => (HLM.out x hx).2)
  have HMK := Lib.hid hmk
  have e4 : ((kd : Int) == 1) = false := by simp; omega
  have e5 : ((kd : Int) == 2) = false := by simp; omega
  clear hmk h4 hxr har htN
  go_wp2_with (go_at_call 62; fail)
  refine HMK.out.mono ?_
  rintro e w5 ⟨⟨v5, rfl⟩, hd⟩
  have hd2 : LdDone base g mb n (.slice A l.length c) (nx + sl.length) l er (stepE er kd f t gp hp i sl ev nx after (l.map EH.e)) w4 w5 := by
   have h0 := H2.out.2 (by omega)
   have hl := HX.out.2
   have hs0 : sl = [] := List.eq_nil_of_length_eq_zero (by omega)
   have he : stepE er kd f t gp hp i sl ev nx after (l.map EH.e) = updL er (updE er kd f t gp hp ev after) 0 (l.map EH.e) := by
    unfold stepE headOf tailOf
    rw [if_neg (by omega), if_neg (by omega), if_neg (by omega)]
    exact doE_none _ _ _ _ _
   rw [he, hs0]
   simpa using LdDone.of_out hd
  have HD := Lib.hid (HFIN.out w5 hd2)
  clear hd hd2
  go_wp2
  go_ret
  exact ⟨rfl, HD.out⟩
theorem doesL_m {k f t g h i : Nat} {sl D : List Tok} {m : Nat → Mk} (hk : 3 ≤ k) (ht : t ≤ D.length) (p : Nat) (hf : f ≤ p) (hp : p < t) : ((doesL k f t g h i sl m D).getD p default).m = m p := by
 unfold doesL
 rw [if_neg (by omega), if_neg (by omega), List.getD_eq_getElem?_getD, List.getElem?_mapIdx]
 obtain ⟨x, hx⟩ : ∃ x, D[p]? = some x := ⟨_, List.getElem?_eq_getElem (by omega)⟩
 rw [hx]
 simp [hf, hp]
theorem stepE_len {er : Int → Bool} {kd f t g h i : Nat} {sl : List Tok} {ev nx : Int} {after : List Tok} {es : List Ent} (hk : 1 ≤ kd) (hft : f ≤ t) (ht : t ≤ cntP er es) (h2 : kd = 2 → f ≤ g ∧ g ≤ h ∧ h ≤ t) : (stepE er kd f t g h i sl ev nx after es).length ≤ es.length + sl.length := by
 have hfr : frontOf kd t g ≤ t := by
  unfold frontOf
  split
  ·rename_i e
   have := h2 e
   omega
  ·exact Nat.le_refl _
 obtain ⟨F, hF⟩ : ∃ F, (plN er es)[frontOf kd t g]? = some F := ⟨_, List.getElem?_eq_getElem (by rw [plN_len]; omega)⟩
 obtain ⟨T, hT⟩ : ∃ T, (plN er es)[t]? = some T := ⟨_, List.getElem?_eq_getElem (by rw [plN_len]; omega)⟩
 have hFT := plN_mono _ _ _ _ _ hF hT hfr
 have hTl := plN_le _ T (List.mem_of_getElem? hT)
 unfold stepE
 rw [doE_eq _ _ _ _ _ _ 0 F T (Nat.zero_le _) hfr hF hT]
 simp only [List.length_append, List.length_take, List.length_drop, updL_len, freE_len]
 have hh : (headOf kd i sl).length + (tailOf kd i sl).length ≤ sl.length := by
  unfold headOf tailOf
  rcases (show kd = 1 ∨ kd = 2 ∨ 3 ≤ kd by omega) with rfl | rfl | h3
  ·simp
  ·simp; omega
  ·rw [if_neg (by omega), if_neg (by omega), if_neg (by omega)]; simp
 omega
/-- at most so many events at each entry -/
def Lim (B : Nat) (es : List Ent) : Prop := ∀ e ∈ es, e.tk.length ≤ B ∧ e.ov.length ≤ B ∧ e.gv.length ≤ B
theorem Lim.step {B : Nat} {er : Int → Bool} {kd f t g h i : Nat} {sl : List Tok} {ev nx : Int} {after : List Tok} {es : List Ent} (hl : Lim B es) : Lim (B + 1) (stepE er kd f t g h i sl ev nx after es) := by
 intro e he
 rcases doE_mem _ _ he with he | he | he | ⟨q, e0, h0, rfl⟩
 ·obtain ⟨t, lab, -, rfl⟩ := freE_mem he
  simp
 ·obtain ⟨t, lab, -, rfl⟩ := freE_mem he
  simp
 ·have := hl e he
  omega
 ·have := hl e0 h0
  have h5 := updE_lens (er := er) (ev := ev) (kd := kd) (f := f) (t := t) (gp := g) (hp := h) (p := q) (after := after) (e := e0)
  omega
theorem Lim.start (ev : Int) (fi : Bool) (nx : Int) (l : List Tok) : Lim 0 (freE ev fi nx l) := fun e he => by
 obtain ⟨t, lab, -, rfl⟩ := freE_mem he
 simp
/-- a ledger behind k steps, none of which is erased -/
structure LdB (k : Nat) (base g mb n : Nat) (sv : Value) (nx : Int) (l : List EH) (docs : List (List Tok)) (W : World) : Prop where
 in_ : LdIn W base g mb n sv nx l (fun _ => false)
 back : Back k (l.map EH.e) docs
 lim : Lim k (l.map EH.e)
 len : l.length ≤ 1000 + 1000 * k
 nx0 : 0 ≤ nx
 nx1 : nx ≤ 1000 + 1000 * k
theorem LdB.below {k base g mb n : Nat} {sv : Value} {nx : Int} {l : List EH} {docs : List (List Tok)} {W W' : World} (h : LdB k base g mb n sv nx l docs W) (hb : Below W.heap.size W W') : LdB k base g mb n sv nx l docs W' :=
 ⟨h.in_.below hb, h.back, h.lim, h.len, h.nx0, h.nx1⟩
theorem LdB.view {k base g mb n : Nat} {sv : Value} {nx : Int} {l : List EH} {docs : List (List Tok)} {W : World} {D : List Tok} (h : LdB k base g mb n sv nx l docs W) (hD : docs[k]? = some D) : view (fun _ => false) (l.map EH.e) = D :=
 h.back.seen k D hD _ (fun v h1 h2 => by simp; omega)
/-- what is a ledger's own grows at its end alone -/
def Owns (g mb : Nat) (sv : Value) (l : List EH) (sv' : Value) (l' : List EH) (W W' : World) : Prop := Sti (LdIn.Mine g mb sv l) W W' ∧ ∀ k, LdIn.Mine g mb sv' l' k → LdIn.Mine g mb sv l k ∨ W.heap.size ≤ k
def LdStep (k base g mb n : Nat) (sv : Value) (l : List EH) (docs : List (List Tok)) (D' : List Tok) (W : World) (e : Ending) (W' : World) : Prop :=
 e = .returned (.int .i64 0) ∧ ∃ sv' nx' l', LdB (k + 1) base g mb n sv' nx' l' (docs ++ [D']) W' ∧ Owns g mb sv l sv' l' W W'
/-- which events are erased while those above i are -/
theorem LdB.erased {k base g mb n : Nat} {sv : Value} {nx : Int} {l : List EH} {docs : List (List Tok)} {W : World} (h : LdB k base g mb n sv nx l docs W) {i : Nat} {D : List Tok} (hi : docs[i]? = some D) (er : Int → Bool) (he : ∀ v : Int, 1 ≤ v → v ≤ k → er v = decide ((i : Int) < v)) : Go.Proofs.YtmacfoebfpljoaaGreat.view er (l.map EH.e) = D :=
 h.back.seen i D hi er he
def chr (r : Int) : Tok := ⟨4, 0, 0, r, ⟨0, 0, 0, 0, 0, 0, 0, 0⟩⟩
def TextOut (n : Nat) (rs : List Int) (w : World) (e : Ending) (w' : World) : Prop := ∃ v, e = .returned v ∧ w'.ownsRow w.heap.size 126 12 v n (toks (rs.map chr)) ∧ Below w.heap.size w w'
theorem info_tok' : (Tryz.prog.info? 126).map (fun i => (i.zero, i.size, i.bytes)) = some (some (.agg zeroTok), 12, 48) := by kernel_rfl
theorem toks_append (a b : List Tok) : toks (a ++ b) = toks a ++ toks b := by simp [toks]
theorem text_gen (n : Nat) (rs : List Int) (b : Nat) (Z : Array Value) (w : World) (hn : rs.length = n) (hn1 : n ≤ 100) (hb : b < w.heap.size) (hc : ∀ q r, rs[q]? = some r → w.cell? ⟨b, q, none⟩ = some (.int .i32 r))
 (hmk : ∀ w, (Instr.makeSlice 22 (.int .i64 0) (.int .i64 (n : Int))).run Tryz.prog w = .ok (.slice (some ⟨w.heap.size, 0, none⟩) 0 n) (w.alloc (.cells Z 126))) (hZ : Z.size = n * 12) :
 Calls Tryz.prog 52 #[.slice (some ⟨b, 0, none⟩) n n] w (TextOut n rs w) := by
 have hown0 : (w.alloc (.cells Z 126)).ownsRow w.heap.size 126 12 (.slice (some ⟨w.heap.size, 0, none⟩) 0 n) 0 [] :=
  ⟨by simp, .inr ⟨w.heap.size, n, _, rfl, Nat.le_refl _, heap_alloc_new w _, by omega, by unfold maxLen; omega, by simp [hZ], by simp⟩⟩
 have hb1 : Below w.heap.size w (w.alloc (.cells Z 126)) := belowA
 have HC := Lib.hid hc
 have HN := Lib.hid hn
 have HO := Lib.hid hown0
 clear hc hn hZ hown0
 go_enter Tryz.func52, Tryz.ntmps52
 go_wp2
 generalize w.alloc (.cells Z 126) = w0 at *
 clear hmk
 go_loopw [3, 11] (fun v j wr => ∃ q : Nat, q ≤ n ∧ j = .int .i64 q ∧ Below w.heap.size w wr ∧ Hid (wr.ownsRow w.heap.size 126 12 v q (toks ((rs.take q).map chr)))) (fun _ j _ => n - (intOf j).toNat)
 case atStart => exact ⟨0, by omega, rfl, hb1, HO⟩
 case round =>
  obtain ⟨q, hq, rfl, hbr, hown⟩ := hrel
  have hbz := hbr.size
  by_cases hqn : q < n
  ·have e3 : (q : Int) < n := by omega
   obtain ⟨r, hr⟩ : ∃ r, rs[q]? = some r := ⟨_, List.getElem?_eq_getElem (by have := HN.out; omega)⟩
   have hcr := (hbr.cell (p := ⟨b, q, none⟩) hb).trans (HC.out q r hr)
   have hsn : toks ((rs.take (q + 1)).map chr) = toks ((rs.take q).map chr) ++ (chr r).cells := by
    rw [List.take_add_one, hr, Option.toList_some, List.map_append, toks_append]
    simp [toks]
   have HSN := Lib.hid hsn
   clear hr hsn hb1
   go_wp2_with (at_builtin; ((refine app_one Tryz.underlying22 info_tok' rfl (by decide) wr w.heap.size _ q _ hown.out (by unfold maxLen; omega) (by omega) hbz _ rfl (by simp [Value.oneCell']) rfl _ _ rfl rfl rfl ?_); intro g4 cap4 w4 hown4 hgr4 hat4 hlt4))
   have hb4 := below_own hbr hown.out hgr4 hbz (Nat.le_refl _)
   have hfin : w4.ownsRow w.heap.size 126 12 (.slice (some ⟨g4, 0, none⟩) (q + 1) cap4) (q + 1) (toks ((rs.take (q + 1)).map chr)) := by
    rw [HSN.out]
    exact hown4
   have HFIN := Lib.hid hfin
   clear hown4 hgr4 hfin
   go_roundw
   case rel => exact ⟨q + 1, by omega, by go_num, hb4, HFIN⟩
   case measure => simp [intOf]; omega
  ·obtain rfl : n = q := by omega
   have ho := hown.out
   rw [List.take_of_length_le (by rw [HN.out]; exact Nat.le_refl _)] at ho
   have HO2 := Lib.hid ho
   clear ho hown
   go_wp2
   go_ret
   exact ⟨_, rfl, HO2.out, hbr⟩
abbrev zeroToks3 : Array Value := zeroTok ++ zeroTok ++ zeroTok
theorem text1_any (r : Int) (b : Nat) (w : World) (k : Bk w b 21 #[.int .i32 r]) : Calls Tryz.prog 52 #[.slice (some ⟨b, 0, none⟩) 1 1] w (TextOut 1 [r] w) :=
 text_gen 1 [r] b zeroTok w rfl (by omega) (def_lt' k) (fun q x hx => by
  rw [k.cell]
  have : q = 0 := by have := (List.getElem?_eq_some_iff.1 hx).1; simp at this; omega
  subst this
  injection hx with hx
  subst hx
  rfl) (fun _ => by kernel_rfl) rfl
theorem text3_any (r s u : Int) (b : Nat) (w : World) (k : Bk w b 21 #[.int .i32 r, .int .i32 s, .int .i32 u]) : Calls Tryz.prog 52 #[.slice (some ⟨b, 0, none⟩) 3 3] w (TextOut 3 [r, s, u] w) :=
 text_gen 3 [r, s, u] b zeroToks3 w rfl (by omega) (def_lt' k) (fun q x hx => by
  rw [k.cell]
  have : q < 3 := (List.getElem?_eq_some_iff.1 hx).1
  obtain rfl | rfl | rfl : q = 0 ∨ q = 1 ∨ q = 2 := by omega
  all_goals (injection hx with hx; subst hx; rfl)) (fun _ => by kernel_rfl) rfl
end Go.Proofs.YtmacfoebfpljoaaGreat
