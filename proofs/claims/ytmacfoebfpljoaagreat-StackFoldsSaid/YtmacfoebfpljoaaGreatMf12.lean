/- merged texts: RfD RfL RfE RfN K3 -/
import Derived.Test.YtmacfoebfpljoaaGreatMf11
import Derived.Test.YtmacfoebfpljoaaGreatMf4
import Derived.Test.YtmacfoebfpljoaaGreatMf3
import Derived.Test.YtmacfoebfpljoaaGreatMf7
namespace Go.Proofs.YtmacfoebfpljoaaGreat
open Go.RowKit
theorem size_set (W : World) (a : Addr) (u : Value) : (W.setCell a u).heap.size = W.heap.size := by simp [World.setCell]
/-- one map of the document's route is told as the program's -/
theorem dstep {ms : List (List Rg)} {f : IMap} {k : Nat} {m : List Rg} {o1 side : Int} {o2 o3 : Bool} {x : Pl} (hm : ms[k]? = some m) (hr : rightM m = true) (hp0 : 0 ≤ o1) (hp1 : o1 ≤ 1099511627776) (hx : tellM m o1 side = x) (hmok : MirOk f ms.length) (hml : ∀ m ∈ ms, rightM m = true) :
    (∃ (κ : Nat) (mk : List Rg) (r : Nat), x.gone = true ∧ f k = some (κ : Int) ∧ k < κ ∧ κ < ms.length ∧ ms[κ]? = some mk ∧ recD mk x.range x.off = r ∧ rStep ms f side k ⟨o1, o2, o3, 0, 0⟩ = .ok (κ + 1, ⟨r, o2, o3, 0, 0⟩)) ∨
    (∃ (κ : Nat) (mk : List Rg), x.gone = true ∧ f k = some (κ : Int) ∧ k < κ ∧ κ < ms.length ∧ ms[κ]? = some mk ∧ recD mk x.range x.off < 0 ∧ rStep ms f side k ⟨o1, o2, o3, 0, 0⟩ = .ok (k + 1, ⟨x.pos, o2 || x.gone, o3 || x.inside, 0, 0⟩)) ∨
    (x.gone = false ∧ rStep ms f side k ⟨o1, o2, o3, 0, 0⟩ = .ok (k + 1, ⟨x.pos, o2 || x.gone, o3 || x.inside, 0, 0⟩)) ∨
    (x.gone = true ∧ (f k).getD (-1) ≤ k ∧ rStep ms f side k ⟨o1, o2, o3, 0, 0⟩ = .ok (k + 1, ⟨x.pos, o2 || x.gone, o3 || x.inside, 0, 0⟩)) := by
  have hgd : ms.getD k [] = m := by rw [List.getD_eq_getElem?_getD, hm]; rfl
  have ht : tellS m o1 side = (x, 0) := by unfold tellS; rw [if_pos hr, if_pos ⟨hp0, hp1⟩, hx]
  have hs : rStep ms f side k ⟨o1, o2, o3, 0, 0⟩ = if (recR ms f k x.gone x.range x.off).2.2 = true then .ok ((recR ms f k x.gone x.range x.off).1.toNat + 1, ⟨(recR ms f k x.gone x.range x.off).2.1, o2, o3, 0, 0⟩) else .ok (k + 1, ⟨x.pos, o2 || x.gone, o3 || x.inside, 0, 0⟩) := by
    unfold rStep
    rw [hgd]
    simp only [ht]
    simp
  rw [hs]
  cases hg : x.gone with
  | false =>
    right; right; left
    have : (recR ms f k false x.range x.off).2.2 = false := by unfold recR; cases f k <;> simp
    refine ⟨rfl, ?_⟩
    rw [if_neg (by rw [this]; simp)]
  | true =>
    by_cases hf : (f k).getD (-1) ≤ k
    · right; right; right
      refine ⟨rfl, hf, ?_⟩
      have : (recR ms f k true x.range x.off).2.2 = false := by
        unfold recR
        cases hfk : f k with
        | none => rfl
        | some v =>
          rw [hfk] at hf
          have := hmok k v hfk
          simp at hf
          simp only
          rw [if_neg (by omega)]
      rw [if_neg (by rw [this]; simp)]
    · cases hfk : f k with
      | none => exact absurd (by rw [hfk]; show (-1 : Int) ≤ k; omega) hf
      | some v =>
        rw [hfk] at hf
        simp at hf
        have := hmok k v hfk
        obtain ⟨κ, rfl⟩ : ∃ κ : Nat, v = κ := ⟨v.toNat, by omega⟩
        obtain ⟨mk, hmk⟩ : ∃ mk, ms[κ]? = some mk := ⟨_, List.getElem?_eq_getElem (by omega)⟩
        have hmd : ms.getD κ [] = mk := by rw [List.getD_eq_getElem?_getD, hmk]; rfl
        have hag := rec_agree x.range x.off (hml mk (List.mem_of_getElem? hmk))
        have hrr : recR ms f k true x.range x.off = ((κ : Int), recS mk x.range x.off) := by
          unfold recR
          rw [hfk]
          simp only
          rw [if_pos ⟨trivial, by omega⟩, Int.toNat_natCast, hmd]
        rw [hrr]
        simp only
        rw [hag.1, hag.2]
        by_cases hd : 0 ≤ recD mk x.range x.off
        · left
          refine ⟨κ, mk, (recD mk x.range x.off).toNat, trivial, rfl, by omega, by omega, hmk, by omega, ?_⟩
          rw [if_pos (decide_eq_true hd), Int.toNat_natCast, show max (recD mk x.range x.off) 0 = (((recD mk x.range x.off).toNat : Nat) : Int) by omega]
        · right; left
          refine ⟨κ, mk, trivial, rfl, by omega, by omega, hmk, by omega, ?_⟩
          rw [if_neg (by simpa using hd)]
/-- what the document's Tell answers -/
def dTell (ms : List (List Rg)) (f : IMap) (p side : Int) : Pl × Bool := ((rTell ms f p side).1, decide ((rTell ms f p side).2 = 0))
set_option maxRecDepth 100000 in
set_option maxHeartbeats 8000000 in
theorem dtell_route (w : World) (ms : List (List Rg)) (f : IMap) (Am Ao : Option Addr) (cm co : Nat) (p side : Int) (hx : RefIs w w.heap.size Am Ao ms.length ms (ofsOf f ms.length)) (hmok : MirOk f ms.length) (hms : ms.length < 5000) (hml : ∀ m ∈ ms, rightM m = true) :
    Calls Tryz.prog 183 #[.agg #[.slice Am ms.length cm, .slice Ao ms.length co], .int .i64 p, .int .i64 side] w fun e w' => e = .returned (.tuple #[(dTell ms f p side).1.val, .bool (dTell ms f p side).2]) ∧ Below w.heap.size w w' := by
  have hb0 : Below w.heap.size w (w.alloc (.cells #[.slice Am ms.length cm, .slice Ao ms.length co] 245)) := (Below.refl _ _).alloc (Nat.le_refl _) _
  have kb := Bk.new w 245 #[.slice Am ms.length cm, .slice Ao ms.length co]
  have z0 := kb.cell 0; have z1 := kb.cell 1
  dsimp at z0 z1
  have hx0 := (hx.below hb0).more hb0.size
  have hsz : (w.alloc (.cells #[.slice Am ms.length cm, .slice Ao ms.length co] 245)).heap.size = w.heap.size + 1 := by simp
  clear hx
  go_enter Tryz.func183, Tryz.ntmps183
  go_wp2
  generalize w.alloc (.cells #[.slice Am ms.length cm, .slice Ao ms.length co] 245) = w0 at *
  have hF : ∀ w', Below w0.heap.size w0 w' → w'.cell? ⟨w.heap.size, 0, none⟩ = some (.slice Am ms.length cm) ∧ w'.cell? ⟨w.heap.size, 1, none⟩ = some (.slice Ao ms.length co) :=
    fun w' hb => ⟨(hb.cell (p := ⟨w.heap.size, 0, none⟩) (by simp; omega)).trans z0, (hb.cell (p := ⟨w.heap.size, 1, none⟩) (by simp; omega)).trans z1⟩
  have HFO := Lib.hid hF
  clear hF
  go_loopw [9] (fun i wr => ∃ (k : Nat) (o : Pl), k ≤ ms.length ∧ i = .int .i64 k ∧ Hid (rRun ms f side (ms.length - k) k o = rTell ms f p side) ∧ Below w0.heap.size w0 wr ∧ w0.heap.size + 2 ≤ wr.heap.size ∧ Bk wr (w.heap.size + 1) 301 #[.int .i64 0, .bool false, .bool false, .int .i64 0, .int .i64 0] ∧ Bk wr (w.heap.size + 1 + 1) 301 #[.int .i64 o.pos, .bool o.gone, .bool o.inside, .int .i64 0, .int .i64 0] ∧ Hid (o.range = 0 ∧ o.off = 0)) (fun i _ => ms.length - (intOf i).toNat)
  case atStart => exact ⟨0, { Pl.zero with pos := p }, by omega, rfl, rfl, belowA, by simp, by rw [← hsz]; exact (Bk.new w0 _ _).alloc _, Bk.made _ _ (by simp; omega), ⟨rfl, rfl⟩⟩
  case round =>
    obtain ⟨k, ⟨o1, o2, o3, o4, o5⟩, hk, rfl, hI, hbr, hz, k6, k8, ho⟩ := hrel
    obtain ⟨rfl, rfl⟩ : o4 = 0 ∧ o5 = 0 := ho.out
    clear ho
    simp only at k8
    have c0 := (HFO.out _ hbr).1
    have c1 := (HFO.out _ hbr).2
    have d0 := k8.cell 0; have d1 := k8.cell 1; have d2 := k8.cell 2; have d3 := k8.cell 3; have d4 := k8.cell 4
    have b0 := k6.cell 0; have b1 := k6.cell 1; have b2 := k6.cell 2; have b3 := k6.cell 3; have b4 := k6.cell 4
    have bf := k6.frozen
    dsimp at b0 b1 b2 b3 b4 d0 d1 d2 d3 d4
    by_cases hkn : k < ms.length
    · obtain ⟨m, hm⟩ : ∃ m, ms[k]? = some m := ⟨_, List.getElem?_eq_getElem hkn⟩
      have hmr := hml m (List.mem_of_getElem? hm)
      have hst := rRun_step (f := f) (side := side) (o := ⟨o1, o2, o3, 0, 0⟩) hkn
      rw [hI.out] at hst
      have e3 : (k : Int) < ms.length := by omega
      by_cases hp : 0 ≤ o1 ∧ o1 ≤ 1099511627776
      · obtain ⟨b, o, A, c, rfl, hb, hc, hrd⟩ := hx0.at_ hm
        obtain ⟨b', o', rfl, hb', hc'⟩ := hx0.of_ (ofsOf_get f hkn)
        obtain ⟨hp1, hp2⟩ := hp
        obtain ⟨⟨x1, x2, x3, x4, x5⟩, hX⟩ : ∃ x, tellM m o1 side = x := ⟨_, rfl⟩
        have hds := dstep (f := f) (o2 := o2) (o3 := o3) hm hmr hp1 hp2 hX hmok hml
        have htc := fun W (hb : Below w0.heap.size w0 W) => rtell_any A m.length c m o1 side W ((hrd.below hb).more hb.size) hmr hp1 hp2
        rw [hX] at htc
        simp only [Pl.val] at htc
        simp only at hds
        have hF : ∀ w', Below wr.heap.size wr w' → (w'.cell? ⟨w.heap.size, 0, none⟩ = some (.slice (some ⟨b, o, none⟩) ms.length cm) ∧ w'.cell? ⟨w.heap.size, 1, none⟩ = some (.slice (some ⟨b', o', none⟩) ms.length co)) ∧ w'.cell? ⟨b, o + k, none⟩ = some (.slice A m.length c) ∧ w'.cell? ⟨b', o' + k, none⟩ = some (.int .i64 ((f k).getD (-1))) ∧ w'.cell? ⟨w.heap.size + 1 + 1, 0, none⟩ = some (.int .i64 o1) :=
          fun w' hb2 => ⟨HFO.out _ (hbr.trans (hb2.mono (by omega))), ((hbr.trans (hb2.mono (by omega))).cell (p := ⟨b, o + k, none⟩) hb).trans hc, ((hbr.trans (hb2.mono (by omega))).cell (p := ⟨b', o' + k, none⟩) hb').trans hc', (hb2.cell (p := ⟨w.heap.size + 1 + 1, 0, none⟩) (by simp; omega)).trans d0⟩
        have HF := Lib.hid hF
        have HT := Lib.hid htc
        have HDS := Lib.hid hds
        have HST := Lib.hid hst
        have HX0 := Lib.hid hx0
        clear hF htc hds hst hI hX hrd hx0
        go_wp2
        go_cut [10] from 28 to 90 (fun v wx => ∃ b10 : Nat, v = .pointer (some ⟨b10, 0, none⟩) ∧ Below wr.heap.size wr wx ∧ wr.heap.size ≤ b10 ∧ Bk wx b10 301 #[.int .i64 x1, .bool x2, .bool x3, .int .i64 x4, .int .i64 x5])
        case first =>
          refine wp_normal ?_
          refine wp_region_held_drew (S := fun w' => Below wr.heap.size wr w') (by kernel_rfl) ((Below.refl _ _).drew) (fun hHeld => ?_)
          (refine tkH 0 ?_; refine tkH 1 ?_; refine tkH 2 ?_; refine tkH 3 ?_; refine tkH 4 ?_; refine tkH 5 ?_; refine tkH 6 ?_; refine tkH 7 ?_)
          refine wpAnyH_ready (rs := [8, 9]) (by kernel_rfl) (by simp) ?_; refine (AllReadyH.cons (o := _) (by simp only [List.getElem?_toArray, List.getElem?_cons_succ, List.getElem?_cons_zero]; rfl) (fun K hK => ?_) (AllReadyH.cons (o := _) (by simp only [List.getElem?_toArray, List.getElem?_cons_succ, List.getElem?_cons_zero]; rfl) (fun K hK => ?_) AllReadyH.nil))
          · go_simp
            go_at_call 215
            refine (HT.out _ hbr.drew).mono ?_
            rintro e w2 ⟨rfl, hb2⟩
            have hb3 : Below wr.heap.size wr w2 := Below.trans ((Below.refl _ _).drew) hb2
            have hb3s := hb3.size
            refine hK.out _ _ hb3 (fun hHeld => ?_)
            clear hK K; refine puH ?_
            refine nxH 9 (fun K hK => ?_)
            go_simp
            refine hK.out _ _ belowA (fun hHeld => ?_)
            clear hK K; refine puH ?_
            refine nxH 10 (fun K hK => ?_)
            go_simp
            refine hK.out _ _ belowA (fun hHeld => ?_)
            clear hK K; refine puH ?_
            refine wpAnyH_done (by kernel_rfl) ?_ _
            go_wp2
            go_meet
            exact ⟨_, rfl, hHeld, hb3s, Bk.new w2 _ _⟩
          · go_simp
            refine hK.out _ _ belowA (fun hHeld => ?_)
            clear hK K; refine puH ?_
            refine nxH 8 (fun K hK => ?_)
            go_simp
            go_at_call 215
            refine (HT.out _ (hbr.trans belowA)).mono ?_
            rintro e w2 ⟨rfl, hb2⟩
            have hb3 : Below wr.heap.size wr w2 := Below.trans belowA (hb2.mono (by simp))
            have k10 : Bk w2 wr.heap.size 301 #[.int .i64 0, .bool false, .bool false, .int .i64 0, .int .i64 0] := (Bk.drew (Bk.new wr 301 #[.int .i64 0, .bool false, .bool false, .int .i64 0, .int .i64 0])).ext hb2
            have c0 := k10.cell 0; have c1 := k10.cell 1; have c2 := k10.cell 2; have c3 := k10.cell 3; have c4 := k10.cell 4
            have cf := k10.frozen; have cl := def_lt' k10
            dsimp at c0 c1 c2 c3 c4
            refine hK.out _ _ hb3 (fun hHeld => ?_)
            clear hK K; refine puH ?_
            refine nxH 10 (fun K hK => ?_)
            go_simp
            refine hK.out _ _ belowA (fun hHeld => ?_)
            clear hK K; refine puH ?_
            refine wpAnyH_done (by kernel_rfl) ?_ _
            go_wp2
            go_meet
            exact ⟨_, rfl, hHeld, Nat.le_refl _, ((((k10.set_ 0 (.int .i64 x1)).set_ 1 (.bool x2)).set_ 2 (.bool x3)).set_ 3 (.int .i64 x4)).set_ 4 (.int .i64 x5)⟩
        case rest =>
          obtain ⟨b10, rfl, hb3, hb10, q10⟩ := hcut
          have q8 := k8.ext hb3
          have q6 := k6.ext hb3
          have hbx : Below w0.heap.size w0 wc := hbr.trans (hb3.mono (by omega))
          have hsx := hb3.size
          have hl8 := def_lt' q8
          have hlx := def_lt' q10
          clear b0 b1 b2 b3 b4 bf d0 d1 d2 d3 d4
          have a0 := q10.cell 0; have a1 := q10.cell 1; have a2 := q10.cell 2; have a3 := q10.cell 3; have a4 := q10.cell 4
          have t0 := q8.cell 0; have t1 := q8.cell 1; have t2 := q8.cell 2; have tf := q8.frozen
          dsimp at a0 a1 a2 a3 a4 t0 t1 t2
          obtain ⟨⟨e0, e1⟩, e2, e4, e5⟩ := HF.out _ hb3
          rcases HDS.out with ⟨κ, mk, r, rfl, hfk, h1, h2, hmk, hrd, hS⟩ | ⟨κ, mk, rfl, hfk, h1, h2, hmk, hrd, hS⟩ | ⟨rfl, hS⟩ | ⟨rfl, hfk, hS⟩
          · obtain ⟨bκ, oκ, Aκ, cκ, eκ, hbκ, hcκ, hrκ⟩ := HX0.out.at_ hmk
            injection eκ with eκ
            injection eκ with eκ1 eκ2
            subst eκ1 eκ2
            rw [hfk] at e4
            simp only [Option.getD_some] at e4
            have hrr := fun W (hb : Below w0.heap.size w0 W) => rrec_any Aκ mk.length cκ mk x4 x5 W ((hrκ.below hb).more hb.size) (hml mk (List.mem_of_getElem? hmk))
            have eκ3 := (hbx.cell (p := ⟨b, o + κ, none⟩) hb).trans hcκ
            have lb : b < wc.heap.size := by omega
            have lb' : b' < wc.heap.size := by omega
            have lw : w.heap.size < wc.heap.size := by omega
            have hF : ∀ w', Below wc.heap.size wc w' → (w'.cell? ⟨w.heap.size, 0, none⟩ = some (.slice (some ⟨b, o, none⟩) ms.length cm) ∧ w'.cell? ⟨w.heap.size, 1, none⟩ = some (.slice (some ⟨b', o', none⟩) ms.length co)) ∧ w'.cell? ⟨b, o + κ, none⟩ = some (.slice Aκ mk.length cκ) ∧ w'.cell? ⟨b', o' + k, none⟩ = some (.int .i64 κ) ∧ w'.cell? ⟨b10, 3, none⟩ = some (.int .i64 x4) ∧ w'.cell? ⟨b10, 4, none⟩ = some (.int .i64 x5) :=
              fun w' hb2 => ⟨⟨(hb2.cell (p := ⟨w.heap.size, 0, none⟩) lw).trans e0, (hb2.cell (p := ⟨w.heap.size, 1, none⟩) lw).trans e1⟩, (hb2.cell (p := ⟨b, o + κ, none⟩) lb).trans eκ3, (hb2.cell (p := ⟨b', o' + k, none⟩) lb').trans e4, (hb2.cell (p := ⟨b10, 3, none⟩) hlx).trans a3, (hb2.cell (p := ⟨b10, 4, none⟩) hlx).trans a4⟩
            clear HF
            have HF := Lib.hid hF
            have HRR := Lib.hid hrr
            have e6 : (k : Int) < κ := by omega
            have e7 : (κ : Int) < ms.length := by omega
            have HRE := Lib.hid hrd
            have hst := HST.out
            rw [hS] at hst
            simp only at hst
            have HN := Lib.hid hst.symm
            clear hF hrr HST HDS hrd hst hS hcκ hfk
            go_wp2
            refine wp_normal ?_
            refine wp_region_held_drew (S := fun w' => Below wc.heap.size wc w') (by kernel_rfl) ((Below.refl _ _).drew) (fun hHeld => ?_)
            (refine tkH 0 ?_; refine tkH 1 ?_; refine tkH 2 ?_; refine tkH 3 ?_; refine tkH 4 ?_; refine tkH 5 ?_; refine tkH 6 ?_; refine tkH 7 ?_; refine tkH 8 ?_; refine tkH 9 ?_; refine tkH 10 ?_; refine tkH 11 ?_; refine tkH 12 ?_)
            refine nxH 13 (fun K hK => ?_)
            go_simp
            go_at_call 216
            refine (HRR.out _ hbx.drew).mono ?_
            rintro e w4 ⟨rfl, hb4⟩
            have hb4' : Below wc.heap.size wc w4 := Below.trans ((Below.refl _ _).drew) hb4
            refine hK.out _ _ hb4' (fun hHeld => ?_)
            clear hK K; refine puH ?_
            (refine tkH 14 ?_)
            refine wpAnyH_done (by kernel_rfl) ?_ _
            have hbz : Below w0.heap.size w0 w4 := hbx.trans (hb4'.mono (by omega))
            have hb4s := hb4'.size
            have s8 := q8.ext hb4'
            have s6 := q6.ext hb4'
            have s10 := q10.ext hb4'
            have t0 := s8.cell 0; have t1 := s8.cell 1; have t2 := s8.cell 2; have y0 := s10.cell 0; have y1 := s10.cell 1; have y2 := s10.cell 2; have tf := s8.frozen; have tl := def_lt' s8; have yl := def_lt' s10
            dsimp at t0 t1 t2 y0 y1 y2
            have g := HF.out _ hb4'
            have g0 := g.1.1; have g1 := g.1.2; have g2 := g.2.2.1
            rw [HRE.out]
            have ne1 : w.heap.size + 1 + 1 ≠ b' := by omega
            have ne2 : w.heap.size + 1 + 1 ≠ w.heap.size := by omega
            have v0 : (w4.setCell ⟨w.heap.size + 1 + 1, 0, none⟩ (.int .i64 r)).cell? ⟨w.heap.size, 1, none⟩ = some (.slice (some ⟨b', o', none⟩) ms.length co) := (World.cell?_setCell_far _ _ _ _ ne2).trans g1
            have v1 : (w4.setCell ⟨w.heap.size + 1 + 1, 0, none⟩ (.int .i64 r)).cell? ⟨b', o' + k, none⟩ = some (.int .i64 κ) := (World.cell?_setCell_far _ _ _ _ ne1).trans g2
            go_wp2
            go_roundw
            case rel => exact ⟨κ + 1, ⟨r, o2, o3, 0, 0⟩, by omega, by go_num, HN.out, Below.setCell hbz (by simp; omega) _, by rw [size_set]; omega, s6.far (by simp) _, s8.set_ 0 _, ⟨rfl, rfl⟩⟩
            case measure => simp [intOf]; omega
          · obtain ⟨bκ, oκ, Aκ, cκ, eκ, hbκ, hcκ, hrκ⟩ := HX0.out.at_ hmk
            injection eκ with eκ
            injection eκ with eκ1 eκ2
            subst eκ1 eκ2
            rw [hfk] at e4
            simp only [Option.getD_some] at e4
            have hrr := fun W (hb : Below w0.heap.size w0 W) => rrec_any Aκ mk.length cκ mk x4 x5 W ((hrκ.below hb).more hb.size) (hml mk (List.mem_of_getElem? hmk))
            have eκ3 := (hbx.cell (p := ⟨b, o + κ, none⟩) hb).trans hcκ
            have lb : b < wc.heap.size := by omega
            have lb' : b' < wc.heap.size := by omega
            have lw : w.heap.size < wc.heap.size := by omega
            have hF : ∀ w', Below wc.heap.size wc w' → (w'.cell? ⟨w.heap.size, 0, none⟩ = some (.slice (some ⟨b, o, none⟩) ms.length cm) ∧ w'.cell? ⟨w.heap.size, 1, none⟩ = some (.slice (some ⟨b', o', none⟩) ms.length co)) ∧ w'.cell? ⟨b, o + κ, none⟩ = some (.slice Aκ mk.length cκ) ∧ w'.cell? ⟨b', o' + k, none⟩ = some (.int .i64 κ) ∧ w'.cell? ⟨b10, 3, none⟩ = some (.int .i64 x4) ∧ w'.cell? ⟨b10, 4, none⟩ = some (.int .i64 x5) :=
              fun w' hb2 => ⟨⟨(hb2.cell (p := ⟨w.heap.size, 0, none⟩) lw).trans e0, (hb2.cell (p := ⟨w.heap.size, 1, none⟩) lw).trans e1⟩, (hb2.cell (p := ⟨b, o + κ, none⟩) lb).trans eκ3, (hb2.cell (p := ⟨b', o' + k, none⟩) lb').trans e4, (hb2.cell (p := ⟨b10, 3, none⟩) hlx).trans a3, (hb2.cell (p := ⟨b10, 4, none⟩) hlx).trans a4⟩
            clear HF
            have HF := Lib.hid hF
            have HRR := Lib.hid hrr
            have e6 : (k : Int) < κ := by omega
            have e7 : (κ : Int) < ms.length := by omega
            have HRE := Lib.hid hrd
            have hst := HST.out
            rw [hS] at hst
            simp only at hst
            have HN := Lib.hid hst.symm
            clear hF hrr HST HDS hrd hst hS hcκ hfk
            go_wp2
            refine wp_normal ?_
            refine wp_region_held_drew (S := fun w' => Below wc.heap.size wc w') (by kernel_rfl) ((Below.refl _ _).drew) (fun hHeld => ?_)
            (refine tkH 0 ?_; refine tkH 1 ?_; refine tkH 2 ?_; refine tkH 3 ?_; refine tkH 4 ?_; refine tkH 5 ?_; refine tkH 6 ?_; refine tkH 7 ?_; refine tkH 8 ?_; refine tkH 9 ?_; refine tkH 10 ?_; refine tkH 11 ?_; refine tkH 12 ?_)
            refine nxH 13 (fun K hK => ?_)
            go_simp
            go_at_call 216
            refine (HRR.out _ hbx.drew).mono ?_
            rintro e w4 ⟨rfl, hb4⟩
            have hb4' : Below wc.heap.size wc w4 := Below.trans ((Below.refl _ _).drew) hb4
            refine hK.out _ _ hb4' (fun hHeld => ?_)
            clear hK K; refine puH ?_
            (refine tkH 14 ?_)
            refine wpAnyH_done (by kernel_rfl) ?_ _
            have hbz : Below w0.heap.size w0 w4 := hbx.trans (hb4'.mono (by omega))
            have hb4s := hb4'.size
            have s8 := q8.ext hb4'
            have s6 := q6.ext hb4'
            have s10 := q10.ext hb4'
            have t0 := s8.cell 0; have t1 := s8.cell 1; have t2 := s8.cell 2; have y0 := s10.cell 0; have y1 := s10.cell 1; have y2 := s10.cell 2; have tf := s8.frozen; have tl := def_lt' s8; have yl := def_lt' s10
            dsimp at t0 t1 t2 y0 y1 y2
            have g := HF.out _ hb4'
            have g0 := g.1.1; have g1 := g.1.2; have g2 := g.2.2.1
            have hrn := HRE.out
            cases o2 <;> cases o3 <;> cases x3
            all_goals
              go_wp2
              go_roundw
              case rel => exact ⟨k + 1, _, by omega, by go_num, HN.out, Below.setCell (Below.setCell (Below.setCell hbz (by simp; omega) _) (by simp; omega) _) (by simp; omega) _, by rw [size_set, size_set, size_set]; omega, ((s6.far (by simp) _).far (by simp) _).far (by simp) _, ((s8.set_ 0 _).set_ 1 _).set_ 2 _, ⟨rfl, rfl⟩⟩
              case measure => simp [intOf]; omega
          · have hst := HST.out
            rw [hS] at hst
            simp only at hst
            have HN := Lib.hid hst.symm
            clear HST HDS hst hS
            cases o2 <;> cases o3 <;> cases x3
            all_goals
              go_wp2
              go_roundw
              case rel => exact ⟨k + 1, _, by omega, by go_num, HN.out, Below.setCell (Below.setCell (Below.setCell hbx (by simp; omega) _) (by simp; omega) _) (by simp; omega) _, by rw [size_set, size_set, size_set]; omega, ((q6.far (by simp) _).far (by simp) _).far (by simp) _, ((q8.set_ 0 _).set_ 1 _).set_ 2 _, ⟨rfl, rfl⟩⟩
              case measure => simp [intOf]; omega
          · have hst := HST.out
            rw [hS] at hst
            simp only at hst
            have HN := Lib.hid hst.symm
            clear HST HDS hst hS
            generalize (f k).getD (-1) = gk at *
            cases o2 <;> cases o3 <;> cases x3
            all_goals
              go_wp2
              go_roundw
              case rel => exact ⟨k + 1, _, by omega, by go_num, HN.out, Below.setCell (Below.setCell (Below.setCell hbx (by simp; omega) _) (by simp; omega) _) (by simp; omega) _, by rw [size_set, size_set, size_set]; omega, ((q6.far (by simp) _).far (by simp) _).far (by simp) _, ((q8.set_ 0 _).set_ 1 _).set_ 2 _, ⟨rfl, rfl⟩⟩
              case measure => simp [intOf]; omega
      · have he : rTell ms f p side = (Pl.zero, 3) := by
          rw [hst]
          unfold rStep
          have hgd : ms.getD k [] = m := by rw [List.getD_eq_getElem?_getD, hm]; rfl
          rw [hgd]
          have ht : tellS m o1 side = (Pl.zero, 3) := by unfold tellS; rw [if_pos hmr, if_neg hp]
          simp [ht]
        have HE := Lib.hid he
        clear hst he hI
        have hp' : o1 < 0 ∨ (0 ≤ o1 ∧ 1099511627776 < o1) := by omega
        rcases hp' with hp' | ⟨hp1, hp2⟩
        all_goals
          go_wp2
          have r6 : Bk _ (w.heap.size + 1) 301 #[.int .i64 0, .bool false, .bool false, .int .i64 0, .int .i64 0] := ((((k6.set_ 0 (.int .i64 0)).set_ 1 (.bool false)).set_ 2 (.bool false)).set_ 3 (.int .i64 0)).set_ 4 (.int .i64 0)
          have b0 := r6.cell 0; have b1 := r6.cell 1; have b2 := r6.cell 2; have b3 := r6.cell 3; have b4 := r6.cell 4
          dsimp at b0 b1 b2 b3 b4
          refine bodyPost_ret (v := .tuple #[(dTell ms f p side).1.val, .bool (dTell ms f p side).2]) ?_ rfl ⟨rfl, hb0.trans (Below.mono (B := w0.heap.size) belowA (by omega))⟩
          unfold dTell
          rw [HE.out]
          simp [results, Tryz.results183, go_sem, Pl.val, Pl.zero, b0, b1, b2, b3, b4]
    · obtain rfl : k = ms.length := by omega
      have hI2 := hI.out
      rw [rRun_end (Nat.le_refl _)] at hI2
      have HE := Lib.hid hI2
      clear hI hI2
      go_wp2
      have r6 : Bk _ (w.heap.size + 1) 301 #[.int .i64 o1, .bool o2, .bool o3, .int .i64 0, .int .i64 0] := ((((k6.set_ 0 (.int .i64 o1)).set_ 1 (.bool o2)).set_ 2 (.bool o3)).set_ 3 (.int .i64 0)).set_ 4 (.int .i64 0)
      have b0 := r6.cell 0; have b1 := r6.cell 1; have b2 := r6.cell 2; have b3 := r6.cell 3; have b4 := r6.cell 4
      dsimp at b0 b1 b2 b3 b4
      refine bodyPost_ret (v := .tuple #[(dTell ms f p side).1.val, .bool (dTell ms f p side).2]) ?_ rfl ⟨rfl, hb0.trans (Below.mono (B := w0.heap.size) belowA (by omega))⟩
      unfold dTell
      rw [← HE.out]
      simp [results, Tryz.results183, go_sem, Pl.val, b0, b1, b2, b3, b4]
/-- the maps: back over the links, the map, and over what the kept ones came to -/
def mapsL (m : List Rg) : List Lk → List (List Rg)
  | [] => [m]
  | k :: ks => k.back :: (mapsL m ks ++ (if k.kept = true then [k.over] else []))
/-- which mirrors which -/
def mirL (m : List Rg) : List Lk → IMap
  | [] => fun _ => none
  | k :: ks => fun i =>
    if k.kept = true ∧ i = 0 then some ((mapsL m ks).length + 1 : Nat)
    else if k.kept = true ∧ i = ((mapsL m ks).length + 1 : Nat) then some 0
    else (mirL m ks (i - 1)).map (· + 1)
theorem mapsL_len (m : List Rg) (ks : List Lk) : (mapsL m ks).length ≤ 2 * ks.length + 1 := by
  induction ks with
  | nil => simp [mapsL]
  | cons k ks ih => simp only [mapsL, List.length_cons, List.length_append]; split <;> simp <;> omega
theorem mirL_ok (m : List Rg) (ks : List Lk) : MirOk (mirL m ks) (mapsL m ks).length := by
  induction ks with
  | nil => intro i k h; simp [mirL] at h
  | cons k ks ih =>
    intro i v h
    have hl : (mapsL m ks).length + 1 ≤ (mapsL m (k :: ks)).length := by simp [mapsL]
    have hl2 : k.kept = true → (mapsL m (k :: ks)).length = (mapsL m ks).length + 2 := by intro hk; simp [mapsL, hk]
    unfold mirL at h
    split at h
    · rename_i h1
      have := hl2 h1.1
      injection h with h
      omega
    · split at h
      · rename_i h1
        have := hl2 h1.1
        injection h with h
        omega
      · cases hx : mirL m ks (i - 1) with
        | none => rw [hx] at h; cases h
        | some y =>
          rw [hx] at h
          simp only [Option.map_some, Option.some.injEq] at h
          have := ih _ _ hx
          omega
section
variable {ms : List (List Rg)} {f : IMap} {side : Int} {i : Nat} {o : Pl}
theorem rStep_bad (h1 : ¬ (tellS (ms.getD i []) o.pos side).2 = 0) : rStep ms f side i o = .error (tellS (ms.getD i []) o.pos side).2 := by
  unfold rStep
  exact if_pos h1
theorem rStep_rec (h1 : (tellS (ms.getD i []) o.pos side).2 = 0) (h2 : (recR ms f i (tellS (ms.getD i []) o.pos side).1.gone (tellS (ms.getD i []) o.pos side).1.range (tellS (ms.getD i []) o.pos side).1.off).2.2 = true) :
    rStep ms f side i o = .ok ((recR ms f i (tellS (ms.getD i []) o.pos side).1.gone (tellS (ms.getD i []) o.pos side).1.range (tellS (ms.getD i []) o.pos side).1.off).1.toNat + 1, { o with pos := (recR ms f i (tellS (ms.getD i []) o.pos side).1.gone (tellS (ms.getD i []) o.pos side).1.range (tellS (ms.getD i []) o.pos side).1.off).2.1 }) := by
  unfold rStep
  exact (if_neg (fun h => h h1)).trans (if_pos h2)
theorem rStep_go (h1 : (tellS (ms.getD i []) o.pos side).2 = 0) (h2 : ¬ (recR ms f i (tellS (ms.getD i []) o.pos side).1.gone (tellS (ms.getD i []) o.pos side).1.range (tellS (ms.getD i []) o.pos side).1.off).2.2 = true) :
    rStep ms f side i o = .ok (i + 1, { o with pos := (tellS (ms.getD i []) o.pos side).1.pos, gone := o.gone || (tellS (ms.getD i []) o.pos side).1.gone, inside := o.inside || (tellS (ms.getD i []) o.pos side).1.inside }) := by
  unfold rStep
  exact (if_neg (fun h => h h1)).trans (if_neg h2)
theorem rStep_bad' {l : List Rg} (hg : ms.getD i [] = l) (h1 : ¬ (tellS l o.pos side).2 = 0) : rStep ms f side i o = .error (tellS l o.pos side).2 := by
  subst hg; exact rStep_bad h1
theorem rStep_go' {l : List Rg} (hg : ms.getD i [] = l) (h1 : (tellS l o.pos side).2 = 0) (h2 : (recR ms f i (tellS l o.pos side).1.gone (tellS l o.pos side).1.range (tellS l o.pos side).1.off).2.2 = false) :
    rStep ms f side i o = .ok (i + 1, { o with pos := (tellS l o.pos side).1.pos, gone := o.gone || (tellS l o.pos side).1.gone, inside := o.inside || (tellS l o.pos side).1.inside }) := by
  subst hg; exact rStep_go h1 (by rw [h2]; simp)
end
def addFl (g n : Bool) (o : Pl) : Pl := { o with gone := g || o.gone, inside := n || o.inside }
/-- flags are carried along -/
theorem rRun_flags {ms : List (List Rg)} {f : IMap} {side : Int} (g n : Bool) : ∀ (k i : Nat) (o : Pl), rRun ms f side k i (addFl g n o) = (if (rRun ms f side k i o).2 = 0 then (addFl g n (rRun ms f side k i o).1, 0) else rRun ms f side k i o) := by
  intro k
  induction k with
  | zero => intro i o; rfl
  | succ k ih =>
    intro i o
    simp only [rRun]
    split
    · have hs : rStep ms f side i (addFl g n o) = match rStep ms f side i o with | .error e => .error e | .ok (j, o') => .ok (j, addFl g n o') := by
        by_cases h1 : (tellS (ms.getD i []) o.pos side).2 = 0
        · by_cases h2 : (recR ms f i (tellS (ms.getD i []) o.pos side).1.gone (tellS (ms.getD i []) o.pos side).1.range (tellS (ms.getD i []) o.pos side).1.off).2.2 = true
          · rw [rStep_rec (o := addFl g n o) h1 h2, rStep_rec h1 h2]
            rfl
          · rw [rStep_go (o := addFl g n o) h1 h2, rStep_go h1 h2]
            simp only [addFl, Bool.or_assoc]
        · rw [rStep_bad (o := addFl g n o) h1, rStep_bad h1]
          rfl
      rw [hs]
      cases hr : rStep ms f side i o with
      | error e =>
        simp only
        have : e ≠ 0 := by
          unfold rStep at hr
          simp only at hr
          split at hr
          · rename_i h; injection hr with hr; omega
          · split at hr <;> cases hr
        rw [if_neg this]
      | ok q => obtain ⟨j, o'⟩ := q; exact ih j o'
    · rfl
theorem rStep_err {ms : List (List Rg)} {f : IMap} {side : Int} {i : Nat} {o : Pl} {e : Int} (hr : rStep ms f side i o = .error e) : e ≠ 0 := by
  unfold rStep at hr
  simp only at hr
  split at hr
  · rename_i h; injection hr with hr; omega
  · split at hr <;> cases hr
/-- a route in the midst of a longer one -/
theorem rRun_embed {ms post : List (List Rg)} {b : List Rg} {f f' : IMap} {side : Int} (hok : MirOk f ms.length) (hf : ∀ i : Nat, i < ms.length → f' ((i : Int) + 1) = (f i).map (· + 1)) :
    ∀ (n i : Nat) (o : Pl), ms.length - i = n → i ≤ ms.length → rRun (b :: (ms ++ post)) f' side ((b :: (ms ++ post)).length - (i + 1)) (i + 1) o =
      (if (rRun ms f side (ms.length - i) i o).2 = 0 then rRun (b :: (ms ++ post)) f' side ((b :: (ms ++ post)).length - (ms.length + 1)) (ms.length + 1) (rRun ms f side (ms.length - i) i o).1 else (Pl.zero, (rRun ms f side (ms.length - i) i o).2)) := by
  intro n
  induction n using Nat.strongRecOn with
  | _ n ih =>
    intro i o hn hi
    by_cases he : i = ms.length
    · subst he
      rw [Nat.sub_self]
      simp [rRun]
    · have hlt : i < ms.length := by omega
      have hlt' : i + 1 < (b :: (ms ++ post)).length := by simp; omega
      rw [rRun_step hlt', rRun_step hlt]
      have hg : (b :: (ms ++ post)).getD (i + 1) [] = ms.getD i [] := by
        simp only [List.getD_eq_getElem?_getD, List.getElem?_cons_succ]
        rw [List.getElem?_append_left hlt]
      have hrec : ∀ g x y, recR (b :: (ms ++ post)) f' (i + 1) g x y = (if (recR ms f i g x y).2.2 = true then ((recR ms f i g x y).1 + 1, (recR ms f i g x y).2.1, true) else recR (b :: (ms ++ post)) f' (i + 1) g x y) ∧ (recR (b :: (ms ++ post)) f' (i + 1) g x y).2.2 = (recR ms f i g x y).2.2 := by
        intro g x y
        unfold recR
        have := hf i hlt
        rw [show (((i + 1 : Nat) : Nat) : Int) = (i : Int) + 1 by omega, this]
        cases hx : f i with
        | none => simp
        | some v =>
          have hv := hok _ _ hx
          obtain ⟨κ, rfl⟩ : ∃ κ : Nat, v = κ := ⟨v.toNat, by omega⟩
          have hgk : (b :: (ms ++ post)).getD (κ + 1) [] = ms.getD κ [] := by
            simp only [List.getD_eq_getElem?_getD, List.getElem?_cons_succ]
            rw [List.getElem?_append_left (by omega)]
          simp only [Option.map_some]
          by_cases hc : g = true ∧ (i : Int) ≤ κ
          · rw [if_pos hc, if_pos ⟨hc.1, by omega⟩, show ((κ : Int) + 1).toNat = κ + 1 by omega, hgk, Int.toNat_natCast]
            simp only
            refine ⟨?_, trivial⟩
            split
            · rename_i h
              exact Prod.ext rfl (Prod.ext rfl h)
            · rfl
          · rw [if_neg hc, if_neg (fun h => hc ⟨h.1, by omega⟩)]
            simp
      have hs : rStep (b :: (ms ++ post)) f' side (i + 1) o = match rStep ms f side i o with | .error e => .error e | .ok (j, o') => .ok (j + 1, o') := by
        unfold rStep
        rw [hg]
        simp only
        by_cases h1 : (tellS (ms.getD i []) o.pos side).2 ≠ 0
        · rw [if_pos h1, if_pos h1]
        · rw [if_neg h1, if_neg h1]
          have hh := hrec (tellS (ms.getD i []) o.pos side).1.gone (tellS (ms.getD i []) o.pos side).1.range (tellS (ms.getD i []) o.pos side).1.off
          rw [hh.2]
          by_cases hc : (recR ms f i (tellS (ms.getD i []) o.pos side).1.gone (tellS (ms.getD i []) o.pos side).1.range (tellS (ms.getD i []) o.pos side).1.off).2.2 = true
          · obtain ⟨κ, hκ, _, _⟩ := recR_ok hok.in_ hc
            rw [if_pos hc, if_pos hc, hh.1, if_pos hc, hκ]
            simp only
            rw [show ((κ : Int) + 1).toNat = κ + 1 by omega, Int.toNat_natCast]
          · rw [if_neg hc, if_neg hc]
      rw [hs]
      cases hr : rStep ms f side i o with
      | error e =>
        have := rStep_err hr
        simp only
        rw [if_neg this]
      | ok q =>
        obtain ⟨j, o'⟩ := q
        have hup := rStep_up hr
        simp only
        by_cases hj : j ≤ ms.length
        · exact ih (ms.length - j) (by omega) j o' rfl hj
        · exfalso
          unfold rStep at hr
          simp only at hr
          split at hr
          · cases hr
          · split at hr
            · rename_i hc
              obtain ⟨κ, hκ, _, h3⟩ := recR_ok hok.in_ hc
              injection hr with hr
              injection hr with hr _
              omega
            · injection hr with hr
              injection hr with hr _
              omega
/-- what two tellings have in common -/
structure Alike (a b : Pl × Int) : Prop where
  ok : a.2 = 0 ↔ b.2 = 0
  pos : b.2 = 0 → a.1.pos = b.1.pos
  gone : b.2 = 0 → a.1.gone = b.1.gone
  inside : b.2 = 0 → a.1.inside = b.1.inside
theorem tellL_route (m : List Rg) (s : Int) : ∀ (ks : List Lk) (p : Int), Alike (rTell (mapsL m ks) (mirL m ks) p s) (tellL m ks p s) := by
  intro ks
  induction ks with
  | nil =>
    intro p
    have h : rTell (mapsL m []) (mirL m []) p s = if (tellS m p s).2 ≠ 0 then (Pl.zero, (tellS m p s).2) else (⟨(tellS m p s).1.pos, (tellS m p s).1.gone, (tellS m p s).1.inside, 0, 0⟩, 0) := by
      unfold rTell mapsL
      simp only [List.length_cons, List.length_nil, rRun]
      rw [if_pos (by omega)]
      unfold rStep
      simp only [List.getD_cons_zero, mirL, recR, Pl.zero, Bool.false_or]
      by_cases hc : (tellS m p s).2 ≠ 0
      · rw [if_pos hc, if_pos hc]
      · rw [if_neg hc, if_neg hc]
        simp
    rw [h]
    unfold tellL
    by_cases hc : (tellS m p s).2 ≠ 0
    · rw [if_pos hc]
      exact ⟨Iff.rfl, fun h => absurd h hc, fun h => absurd h hc, fun h => absurd h hc⟩
    · rw [if_neg hc]
      exact ⟨by simp; simpa using hc, fun _ => rfl, fun _ => rfl, fun _ => rfl⟩
  | cons k ks ih =>
    intro p
    have hM : mapsL m (k :: ks) = k.back :: (mapsL m ks ++ (if k.kept = true then [k.over] else [])) := rfl
    have hlen : 0 < (mapsL m (k :: ks)).length := by rw [hM]; simp
    have hfs : ∀ i : Nat, i < (mapsL m ks).length → mirL m (k :: ks) ((i : Int) + 1) = (mirL m ks i).map (· + 1) := by
      intro i hi
      show (if k.kept = true ∧ (i : Int) + 1 = 0 then some (((mapsL m ks).length + 1 : Nat) : Int) else if k.kept = true ∧ (i : Int) + 1 = ((mapsL m ks).length + 1 : Nat) then some 0 else (mirL m ks ((i : Int) + 1 - 1)).map (· + 1)) = _
      rw [if_neg (by omega), if_neg (by omega), show (i : Int) + 1 - 1 = i by omega]
    have h0 : rTell (mapsL m (k :: ks)) (mirL m (k :: ks)) p s = match rStep (mapsL m (k :: ks)) (mirL m (k :: ks)) s 0 { Pl.zero with pos := p } with | .error e => (Pl.zero, e) | .ok (j, o') => rRun (mapsL m (k :: ks)) (mirL m (k :: ks)) s ((mapsL m (k :: ks)).length - j) j o' := by
      have := rRun_step (ms := mapsL m (k :: ks)) (f := mirL m (k :: ks)) (side := s) (i := 0) (o := { Pl.zero with pos := p }) hlen
      exact this
    have hg0 : (mapsL m (k :: ks)).getD 0 [] = k.back := by rw [hM]; rfl
    rw [h0]
    unfold rStep
    rw [hg0]
    show Alike _ (tellL m (k :: ks) p s)
    unfold tellL
    simp only
    obtain ⟨P, c⟩ := tellS k.back p s
    by_cases hc : c ≠ 0
    · rw [if_pos hc, if_pos hc]
      exact ⟨Iff.rfl, fun h => absurd h hc, fun h => absurd h hc, fun h => absurd h hc⟩
    rw [if_neg hc, if_neg hc]
    -- the rest of the route, when nothing is recovered
    have hrest : ∀ (T : Pl × Int), T = rRun (mapsL m (k :: ks)) (mirL m (k :: ks)) s ((mapsL m (k :: ks)).length - 1) 1 ⟨P.pos, P.gone, P.inside, 0, 0⟩ →
        Alike T (let q := tellL m ks P.pos s
      if q.2 ≠ 0 ∨ k.kept = false then ((⟨q.1.pos, decide (q.2 = 0) && (q.1.gone || P.gone), decide (q.2 = 0) && (q.1.inside || P.inside), q.1.range, q.1.off⟩ : Pl), q.2)
      else
        let x := tellS k.over q.1.pos s
        if x.2 ≠ 0 then (Pl.zero, x.2) else (⟨x.1.pos, P.gone || q.1.gone || x.1.gone, P.inside || q.1.inside || x.1.inside, 0, 0⟩, 0)) := by
      intro T hT
      have he := rRun_embed (b := k.back) (post := if k.kept = true then [k.over] else []) (f' := mirL m (k :: ks)) (side := s) (mirL_ok m ks) hfs (mapsL m ks).length 0 ⟨P.pos, P.gone, P.inside, 0, 0⟩ (by omega) (by omega)
      rw [← hM] at he
      rw [Nat.zero_add, Nat.sub_zero] at he
      rw [he] at hT
      have hfl := rRun_flags (ms := mapsL m ks) (f := mirL m ks) (side := s) P.gone P.inside (mapsL m ks).length 0 { Pl.zero with pos := P.pos }
      have hadd : addFl P.gone P.inside { Pl.zero with pos := P.pos } = ⟨P.pos, P.gone, P.inside, 0, 0⟩ := by simp [addFl, Pl.zero]
      rw [hadd] at hfl
      rw [hfl] at hT
      have hq := ih P.pos
      unfold rTell at hq
      generalize rRun (mapsL m ks) (mirL m ks) s (mapsL m ks).length 0 { Pl.zero with pos := P.pos } = R at hT hq
      generalize tellL m ks P.pos s = q at hq
      simp only
      by_cases hq0 : q.2 = 0
      · have hR0 : R.2 = 0 := hq.ok.2 hq0
        have e1 := hq.pos hq0
        have e2 := hq.gone hq0
        have e3 := hq.inside hq0
        rw [if_pos hR0] at hT
        simp only [if_true] at hT
        by_cases hk : k.kept = true
        · have hx : rRun (mapsL m (k :: ks)) (mirL m (k :: ks)) s ((mapsL m (k :: ks)).length - ((mapsL m ks).length + 1)) ((mapsL m ks).length + 1) (addFl P.gone P.inside R.1) =
              if (tellS k.over R.1.pos s).2 ≠ 0 then (Pl.zero, (tellS k.over R.1.pos s).2) else ({ addFl P.gone P.inside R.1 with pos := (tellS k.over R.1.pos s).1.pos, gone := (P.gone || R.1.gone) || (tellS k.over R.1.pos s).1.gone, inside := (P.inside || R.1.inside) || (tellS k.over R.1.pos s).1.inside }, 0) := by
            have hl : (mapsL m (k :: ks)).length = (mapsL m ks).length + 2 := by rw [hM]; simp [hk]
            rw [hl, show (mapsL m ks).length + 2 - ((mapsL m ks).length + 1) = 1 by omega]
            simp only [rRun]
            rw [if_pos (by omega)]
            have hgl : (mapsL m (k :: ks)).getD ((mapsL m ks).length + 1) [] = k.over := by
              rw [hM, if_pos hk]
              simp [List.getD_eq_getElem?_getD]
            by_cases hc2 : (tellS k.over R.1.pos s).2 = 0
            · have hrr : (recR (mapsL m (k :: ks)) (mirL m (k :: ks)) ((mapsL m ks).length + 1) (tellS k.over R.1.pos s).1.gone (tellS k.over R.1.pos s).1.range (tellS k.over R.1.pos s).1.off).2.2 = false := by
                have hm1 : mirL m (k :: ks) (((mapsL m ks).length + 1 : Nat) : Int) = some 0 := by
                  show (if k.kept = true ∧ (((mapsL m ks).length + 1 : Nat) : Int) = 0 then some (((mapsL m ks).length + 1 : Nat) : Int) else if k.kept = true ∧ (((mapsL m ks).length + 1 : Nat) : Int) = ((mapsL m ks).length + 1 : Nat) then some 0 else _) = _
                  rw [if_neg (by omega), if_pos ⟨hk, rfl⟩]
                unfold recR
                rw [hm1]
                simp only
                rw [if_neg (by omega)]
              rw [rStep_go' (o := addFl P.gone P.inside R.1) hgl hc2 hrr, if_neg (fun h => h hc2)]
              rfl
            · rw [rStep_bad' (o := addFl P.gone P.inside R.1) hgl hc2, if_pos hc2]
              rfl
          rw [hx, e1, e2, e3] at hT
          rw [if_neg (by rw [hk]; simp [hq0]), hT]
          by_cases hc2 : (tellS k.over q.1.pos s).2 ≠ 0
          · rw [if_pos hc2, if_pos hc2]
            exact ⟨Iff.rfl, fun h => absurd h hc2, fun h => absurd h hc2, fun h => absurd h hc2⟩
          · rw [if_neg hc2, if_neg hc2]
            exact ⟨Iff.rfl, fun _ => rfl, fun _ => rfl, fun _ => rfl⟩
        · have hk' : k.kept = false := by simpa using hk
          have hl : (mapsL m (k :: ks)).length = (mapsL m ks).length + 1 := by rw [hM]; simp [hk]
          rw [rRun_end (by omega)] at hT
          rw [if_pos (.inr hk'), hT]
          refine ⟨by simp [hq0], fun _ => e1, fun _ => ?_, fun _ => ?_⟩
          · simp [addFl, hq0, e2, Bool.or_comm]
          · simp [addFl, hq0, e3, Bool.or_comm]
      · have hR0 : ¬ R.2 = 0 := fun h => hq0 (hq.ok.1 h)
        rw [if_neg hR0, if_neg hR0] at hT
        rw [if_pos (.inl hq0), hT]
        exact ⟨by simp [hR0, hq0], fun h => absurd h hq0, fun h => absurd h hq0, fun h => absurd h hq0⟩
    by_cases hg : (P.gone && k.kept) = true
    · have hg1 : P.gone = true := by revert hg; cases P.gone <;> simp
      have hk : k.kept = true := by revert hg; cases k.kept <;> simp
      rw [if_pos hg]
      have hl : (mapsL m (k :: ks)).length = (mapsL m ks).length + 2 := by rw [hM]; simp [hk]
      have hgl : (mapsL m (k :: ks)).getD ((mapsL m ks).length + 1) [] = k.over := by
        rw [hM, if_pos hk]
        simp [List.getD_eq_getElem?_getD]
      have hrr : recR (mapsL m (k :: ks)) (mirL m (k :: ks)) 0 P.gone P.range P.off = ((((mapsL m ks).length + 1 : Nat) : Int), recS k.over P.range P.off) := by
        unfold recR mirL
        rw [if_pos ⟨hk, rfl⟩]
        simp only
        rw [if_pos ⟨hg1, by omega⟩, Int.toNat_natCast, hgl]
      unfold recO
      simp only
      rw [hrr]
      simp only
      by_cases hrec : (recS k.over P.range P.off).2 = true
      · rw [if_pos hrec, if_pos hrec]
        simp only
        rw [Int.toNat_natCast, rRun_end (by omega)]
        exact ⟨Iff.rfl, fun _ => rfl, fun _ => rfl, fun _ => rfl⟩
      · rw [if_neg hrec, if_neg hrec]
        simp only
        have := hrest _ rfl
        simpa [Pl.zero] using this
    · rw [if_neg hg]
      have hrr : (recR (mapsL m (k :: ks)) (mirL m (k :: ks)) 0 P.gone P.range P.off).2.2 = false := by
        unfold recR mirL
        by_cases hk : k.kept = true
        · rw [if_pos ⟨hk, rfl⟩]
          simp only
          rw [if_neg (by intro h; apply hg; rw [h.1, hk]; rfl)]
        · rw [if_neg (fun h => hk h.1), if_neg (fun h => hk h.1)]
          have : mirL m ks (((0 : Nat) : Int) - 1) = none := (mirL_ok m ks).none_ (by omega)
          rw [this]
          rfl
      rw [hrr]
      simp only
      have := hrest _ rfl
      simpa [Pl.zero] using this
theorem refis_one {vs : List Value} {ms : List (List Rg)} {n : Nat} (h1 : ms.length = n) (h2 : vs.length = n) (h : ∀ (i : Nat) (m : List Rg), ms[i]? = some m → ∃ A c, vs[i]? = some (.slice A m.length c) ∧ True) : ∀ u ∈ vs, u.oneCell' = true := by
  intro u hu
  obtain ⟨i, hi⟩ := List.mem_iff_getElem?.1 hu
  have hlt := (List.getElem?_eq_some_iff.1 hi).1
  obtain ⟨A, c, e, _⟩ := h i _ (List.getElem?_eq_getElem (by omega))
  rw [hi] at e
  injection e with e
  subst e
  rfl
/-- one more map: the maps and mirrors, as the document keeps them -/
def ofsAdd (ofs : List Int) (of : Int) : List Int := if 0 ≤ of then (ofs ++ [of]).set of.toNat ofs.length else ofs ++ [of]
theorem ofsAdd_len (ofs : List Int) (of : Int) : (ofsAdd ofs of).length = ofs.length + 1 := by unfold ofsAdd; split <;> simp
/-- what the document's Tell answers over links: a place, and whether there is one -/
def docL (m : List Rg) (ks : List Lk) (p s : Int) : Pl × Bool := dTell (mapsL m ks) (mirL m ks) p s
structure DocTells (T : Int → Int → Pl × Int) (D : Int → Int → Pl × Bool) : Prop where
  ok : ∀ p s, (D p s).2 = decide ((T p s).2 = 0)
  pos : ∀ p s, (T p s).2 = 0 → (D p s).1.pos = (T p s).1.pos
  gone : ∀ p s, (T p s).2 = 0 → (D p s).1.gone = (T p s).1.gone
  inside : ∀ p s, (T p s).2 = 0 → (D p s).1.inside = (T p s).1.inside
theorem docL_tells (m : List Rg) (ks : List Lk) : DocTells (tellL m ks) (docL m ks) := by
  have h := fun p s => tellL_route m s ks p
  refine ⟨fun p s => ?_, fun p s hc => (h p s).pos hc, fun p s hc => (h p s).gone hc, fun p s hc => (h p s).inside hc⟩
  unfold docL dTell
  simp only [decide_eq_decide]
  exact (h p s).ok
/-- a route in memory whose telling is D -/
def DocRt (w : World) (B : Nat) (r : Value) (D : Int → Int → Pl × Bool) : Prop := B ≤ w.heap.size ∧ ∀ W, Below B w W → ∀ p s, Calls Tryz.prog 183 #[r, .int .i64 p, .int .i64 s] W fun e W' => e = .returned (.tuple #[(D p s).1.val, .bool (D p s).2]) ∧ Below W.heap.size W W'
theorem DocRt.ext {w w' : World} {B : Nat} {r : Value} {D : Int → Int → Pl × Bool} (h : DocRt w B r D) (hb : Below B w w') : DocRt w' B r D := ⟨Nat.le_trans h.1 hb.size, fun W hW => h.2 W (hb.trans hW)⟩
theorem docRt_of {w : World} {m : List Rg} {ks : List Lk} {Am Ao : Option Addr} {cm co : Nat} (hx : RefIs w w.heap.size Am Ao (mapsL m ks).length (mapsL m ks) (ofsOf (mirL m ks) (mapsL m ks).length)) (hms : (mapsL m ks).length < 5000) (hml : ∀ l ∈ mapsL m ks, rightM l = true) :
    DocRt w w.heap.size (.agg #[.slice Am (mapsL m ks).length cm, .slice Ao (mapsL m ks).length co]) (docL m ks) :=
  ⟨Nat.le_refl _, fun W hb p s => dtell_route W (mapsL m ks) (mirL m ks) Am Ao cm co p s ((hx.below hb).more hb.size) (mirL_ok m ks) hms hml⟩
/-- mirrors behind d more maps -/
def shO (d : Nat) (l : List Int) : List Int := l.map fun x => if x < 0 then -1 else x + d
theorem shO_len (d : Nat) (l : List Int) : (shO d l).length = l.length := by simp [shO]
theorem shO_append (d : Nat) (a b : List Int) : shO d (a ++ b) = shO d a ++ shO d b := by simp [shO]
theorem shO_shO (d e : Nat) (l : List Int) : shO d (shO e l) = shO (d + e) l := by
  unfold shO
  rw [List.map_map]
  apply List.map_congr_left
  intro x _
  simp only [Function.comp]
  split
  · rfl
  · rw [if_neg (by omega)]; omega
theorem ofs_cons (m : List Rg) (k : Lk) (ks : List Lk) : ofsOf (mirL m (k :: ks)) (mapsL m (k :: ks)).length =
    (if k.kept = true then (((mapsL m ks).length + 1 : Nat) : Int) :: (shO 1 (ofsOf (mirL m ks) (mapsL m ks).length) ++ [0]) else -1 :: shO 1 (ofsOf (mirL m ks) (mapsL m ks).length)) := by
  have hok := mirL_ok m ks
  have hn : mirL m ks (-1) = none := hok.none_ (by omega)
  have hg : ∀ (i : Nat), ((mirL m ks (i : Int)).map (· + 1)).getD (-1) = (if (mirL m ks (i : Int)).getD (-1) < 0 then -1 else (mirL m ks (i : Int)).getD (-1) + ((1 : Nat) : Int)) := by
    intro i
    cases hx : mirL m ks (i : Int) with
    | none => rfl
    | some v =>
      have := hok _ _ hx
      simp only [Option.map_some, Option.getD_some]
      rw [if_neg (by omega)]
      rfl
  apply List.ext_getElem?
  intro i
  by_cases hk : k.kept = true
  · rw [if_pos hk]
    have hl : (mapsL m (k :: ks)).length = (mapsL m ks).length + 2 := by simp [mapsL, hk]
    by_cases hi : i < (mapsL m ks).length + 2
    · rw [ofsOf_get _ (by omega)]
      cases i with
      | zero => simp [mirL, hk]
      | succ i =>
        rw [List.getElem?_cons_succ]
        by_cases hi2 : i < (mapsL m ks).length
        · rw [List.getElem?_append_left (by rw [shO_len, ofsOf_len]; omega), shO, List.getElem?_map, ofsOf_get _ hi2, Option.map_some]
          congr 1
          rw [← hg]
          simp only [mirL]
          rw [if_neg (by omega), if_neg (by omega), show ((i + 1 : Nat) : Int) - 1 = i by omega]
        · have e : i = (mapsL m ks).length := by omega
          subst e
          rw [List.getElem?_append_right (by rw [shO_len, ofsOf_len]; omega), shO_len, ofsOf_len, Nat.sub_self]
          simp only [mirL]
          rw [if_neg (by omega), if_pos (by simp [hk])]
          rfl
    · rw [List.getElem?_eq_none (by rw [ofsOf_len]; omega), List.getElem?_eq_none (by simp [shO_len, ofsOf_len]; omega)]
  · rw [if_neg hk]
    have hl : (mapsL m (k :: ks)).length = (mapsL m ks).length + 1 := by simp [mapsL, hk]
    by_cases hi : i < (mapsL m ks).length + 1
    · rw [ofsOf_get _ (by omega)]
      cases i with
      | zero =>
        simp only [mirL]
        rw [if_neg (fun h => hk h.1), if_neg (fun h => hk h.1), show ((0 : Nat) : Int) - 1 = -1 by omega, hn]
        rfl
      | succ i =>
        rw [List.getElem?_cons_succ, shO, List.getElem?_map, ofsOf_get _ (by omega), Option.map_some]
        congr 1
        rw [← hg]
        simp only [mirL]
        rw [if_neg (fun h => hk h.1), if_neg (fun h => hk h.1), show ((i + 1 : Nat) : Int) - 1 = i by omega]
    · rw [List.getElem?_eq_none (by rw [ofsOf_len]; omega), List.getElem?_eq_none (by simp [shO_len, ofsOf_len]; omega)]
/-- the route on the way: of 'pre' only the way back is there -/
def stM (m : List Rg) (pre ks : List Lk) : List (List Rg) := pre.map Lk.back ++ mapsL m ks
def stO (m : List Rg) (pre ks : List Lk) : List Int := List.replicate pre.length (-1) ++ shO pre.length (ofsOf (mirL m ks) (mapsL m ks).length)
theorem stM_kept (m : List Rg) (pre ks : List Lk) (k : Lk) (hk : k.kept = true) : stM m pre (k :: ks) = stM m (pre ++ [k]) ks ++ [k.over] := by simp [stM, mapsL, hk]
theorem stM_lost (m : List Rg) (pre ks : List Lk) (k : Lk) (hk : k.kept = false) : stM m pre (k :: ks) = stM m (pre ++ [k]) ks := by simp [stM, mapsL, hk]
theorem stO_lost (m : List Rg) (pre ks : List Lk) (k : Lk) (hk : k.kept = false) : stO m pre (k :: ks) = stO m (pre ++ [k]) ks := by
  unfold stO
  rw [ofs_cons, if_neg (by simp [hk]), List.length_append, show pre.length + [k].length = pre.length + 1 from rfl, List.replicate_succ', show shO pre.length ((-1) :: shO 1 (ofsOf (mirL m ks) (mapsL m ks).length)) = [-1] ++ shO pre.length (shO 1 (ofsOf (mirL m ks) (mapsL m ks).length)) from rfl, shO_shO, List.append_assoc]
theorem stO_kept (m : List Rg) (pre ks : List Lk) (k : Lk) (hk : k.kept = true) : stO m pre (k :: ks) = ofsAdd (stO m (pre ++ [k]) ks) pre.length := by
  have hl : (stO m (pre ++ [k]) ks).length = pre.length + 1 + (mapsL m ks).length := by simp [stO, shO_len, ofsOf_len]
  unfold ofsAdd
  rw [if_pos (by omega), hl, Int.toNat_natCast]
  unfold stO
  rw [ofs_cons, if_pos hk, List.length_append, show pre.length + [k].length = pre.length + 1 from rfl, List.replicate_succ', List.append_assoc, List.append_assoc]
  rw [List.set_append, if_neg (by simp)]
  simp only [List.length_replicate, Nat.sub_self, List.cons_append, List.nil_append, List.set_cons_zero]
  congr 1
  rw [show (((mapsL m ks).length + 1 : Nat) : Int) :: (shO 1 (ofsOf (mirL m ks) (mapsL m ks).length) ++ [0]) = [(((mapsL m ks).length + 1 : Nat) : Int)] ++ (shO 1 (ofsOf (mirL m ks) (mapsL m ks).length) ++ [0]) from rfl, shO_append, shO_append, shO_shO]
  simp only [shO, List.map_cons, List.map_nil, List.cons_append, List.nil_append]
  rw [if_neg (by omega), if_neg (by omega)]
  simp
  omega
theorem stM_nil (m : List Rg) (ks : List Lk) : stM m [] ks = mapsL m ks := rfl
theorem stO_nil (m : List Rg) (ks : List Lk) : stO m [] ks = ofsOf (mirL m ks) (mapsL m ks).length := by
  unfold stO shO ofsOf
  simp only [List.length_nil, List.replicate_zero, List.nil_append, List.map_map]
  apply List.map_congr_left
  intro i _
  simp only [Function.comp]
  cases hx : mirL m ks (i : Int) with
  | none => rfl
  | some v =>
    have := mirL_ok m ks _ _ hx
    simp only [Option.getD_some]
    rw [if_neg (by omega)]
    simp
theorem stM_start (m : List Rg) (ks : List Lk) : stM m ks [] = ks.map Lk.back ++ [m] := rfl
theorem stO_start (m : List Rg) (ks : List Lk) : stO m ks [] = List.replicate ks.length (-1) ++ [-1] := by simp [stO, shO, ofsOf, mirL, mapsL]
section
variable {P : Program} {ops : Array Oper} {Q : Exit → Act → World → Prop} {md : Region.Mode} {S : World → Prop} {ks : List Nat}
/-- k waits for i, by at most so many steps -/
def waitsD (md : Region.Mode) (ops : Array Oper) : Nat → Nat → Nat → Bool
  | 0, _, _ => false
  | d + 1, k, i => match ops[k]? with | some o => o.after.any fun e => Region.binds md e && (decide (e.on = i) || waitsD md ops d e.on i) | none => false
theorem listed_of {l : Array Bool} {i : Nat} (hc : Closed md ops l) : ∀ (d k : Nat), waitsD md ops d k i = true → l.getD k false = true → l.getD i false = true := by
  intro d
  induction d with
  | zero => intro k h _; cases h
  | succ d ih =>
    intro k h hk
    unfold waitsD at h
    cases ho : ops[k]? with
    | none => rw [ho] at h; cases h
    | some o =>
      rw [ho] at h
      obtain ⟨e, he, hb⟩ := Array.any_eq_true'.1 h
      simp only [Bool.and_eq_true, Bool.or_eq_true, decide_eq_true_eq] at hb
      have hl := hc _ _ ho hk e he hb.1
      rcases hb.2 with h2 | h2
      · rw [← h2]; exact hl
      · exact ih _ h2 hl
theorem not_readyD {k i d : Nat} {l : Array Bool} (hc : Closed md ops l) (hw : waitsD md ops d k i = true) (hi : l.getD i true = false) : k ∉ Region.ready md ops l := by
  intro hk
  have hi' : l.getD i false ≠ true := by
    intro h
    rcases Nat.lt_or_ge i l.size with hs | hs
    · simp [hs] at h hi; rw [hi] at h; cases h
    · simp [Array.getElem?_eq_none hs] at hi
  obtain ⟨_, o, ho, hall⟩ := mem_ready.1 hk
  cases d with
  | zero => cases hw
  | succ d =>
    unfold waitsD at hw
    rw [ho] at hw
    obtain ⟨e, he, hb⟩ := Array.any_eq_true'.1 hw
    simp only [Bool.and_eq_true, Bool.or_eq_true, decide_eq_true_eq] at hb
    have hl := hall e he hb.1
    rcases hb.2 with h | h
    · rw [h] at hl; exact hi' hl
    · exact hi' (listed_of hc d _ h hl)
/-- operation i is taken first: those of ks wait for it, or were there -/
theorem takeD {i : Nat} {oi : Oper} {v : Value} (hi : ops[i]? = some oi) (hsel : ∀ (j : Nat) (o : Oper) cs b, ops[j]? = some o → o.op ≠ .select cs b)
    (hQ : ∀ c a w, Q (.panic c) (a.put oi.dst v) w → Q (.panic c) a w) (n : Nat) :
    ∀ (l : Array Bool) (a : Act) (w : World), (∀ k ∈ ks, l.getD k false = true ∨ waitsD md ops ops.size k i = true) → Closed md ops l → (∀ j oj, ops[j]? = some oj → j ≠ i → l.getD j true = false → (∀ e ∈ oj.after, Region.binds md e = true → e.on ≠ i) → oi.apart ops oj = true) →
      i ∈ Region.ready md ops l → YieldsIf P ops S oi v a → S w → AnyL P md ops Q S ks n (l.setIfInBounds i true) (a.put oi.dst v) w → AnyL P md ops Q S ks (n + 1) l a w := by
  have un : ∀ {l : Array Bool} {k : Nat}, l.getD k false = true → ¬ l.getD k true = false := by
    intro l k h h0
    rcases Nat.lt_or_ge k l.size with h1 | h1
    · simp [h1] at h h0; rw [h0] at h; cases h
    · simp [Array.getElem?_eq_none h1] at h
  have other : ∀ {l : Array Bool} {j : Nat}, (∀ k ∈ ks, l.getD k false = true ∨ waitsD md ops ops.size k i = true) → Closed md ops l → i ∈ Region.ready md ops l → j ∈ Region.ready md ops l → j ≠ i → j ∉ ks ∧ l.getD j true = false ∧ ∃ oj, ops[j]? = some oj ∧ ∀ e ∈ oj.after, Region.binds md e = true → e.on ≠ i := by
    intro l j hwt hc hr hj hji
    refine ⟨fun e => ?_, ?_⟩
    · rcases hwt j e with h | h
      · exact un h (mem_ready.1 hj).1
      · exact not_readyD hc h (mem_ready.1 hr).1 hj
    obtain ⟨h1, oj, h2, h3⟩ := mem_ready.1 hj
    refine ⟨h1, oj, h2, fun e he hb heq => ?_⟩
    have hx := h3 e he hb
    rw [heq] at hx
    exact un hx (mem_ready.1 hr).1
  induction n with
  | zero =>
    intro l a w hwt hc hfree hr hy hS H
    refine ⟨fun h => absurd (h ▸ hr) (by simp), fun j hj => ?_⟩
    by_cases hji : j = i
    · subst hji; exact hy.wpOp hi hS ⟨fun _ => hS, H⟩
    · exact absurd (H.1 ▸ ready_mono hj hji) (by simp)
  | succ n ih =>
    intro l a w hwt hc hfree hr hy hS H
    refine ⟨fun h => absurd (h ▸ hr) (by simp), fun j hj => ?_⟩
    by_cases hji : j = i
    · subst hji; exact hy.wpOp hi hS ⟨fun _ => hS, H⟩
    obtain ⟨hjk, hjun, oj, hoj, hnot⟩ := other hwt hc hr hj hji
    refine wpOp_mono (fun a' w' h3 => ⟨fun _ => h3.2.1 hjk, ih (l.setIfInBounds j true) a' w' (fun k hk => (hwt k hk).imp getD_set_mono id) (hc.set hj) ?_ (ready_mono hr (Ne.symm hji)) h3.1 (h3.2.1 hjk) ?_⟩)
      (wpOp_putIf hoj (hfree j oj hoj hji hjun hnot) (fun cs b => hsel i oi cs b hi) (fun cs b => hsel j oj cs b hoj) hQ hy (H.2 j (ready_mono hj hji)))
    · intro m om hom hmi hun hno
      refine hfree m om hom hmi ?_ hno
      by_cases hjm : j = m
      · subst hjm; exact hjun
      · rw [getD_set_ne true hjm] at hun; exact hun
    · rw [Array.setIfInBounds_comm _ _ hji]
      exact h3.2.2
/-- one of ks that reads no memory is taken first -/
theorem takeP {i : Nat} {oi : Oper} {v : Value} (hi : ops[i]? = some oi) (hik : i ∈ ks) (hsel : ∀ (j : Nat) (o : Oper) cs b, ops[j]? = some o → o.op ≠ .select cs b)
    (hQ : ∀ c a w, Q (.panic c) (a.put oi.dst v) w → Q (.panic c) a w) (n : Nat) :
    ∀ (l : Array Bool) (a : Act) (w : World), (∀ j oj, ops[j]? = some oj → j ≠ i → l.getD j true = false → (∀ e ∈ oj.after, Region.binds md e = true → e.on ≠ i) → oi.apart ops oj = true) →
      i ∈ Region.ready md ops l → YieldsIf P ops (fun _ => True) oi v a → AnyL P md ops Q S ks n (l.setIfInBounds i true) (a.put oi.dst v) w → AnyL P md ops Q S ks (n + 1) l a w := by
  have un : ∀ {l : Array Bool} {k : Nat}, l.getD k false = true → ¬ l.getD k true = false := by
    intro l k h h0
    rcases Nat.lt_or_ge k l.size with h1 | h1
    · simp [h1] at h h0; rw [h0] at h; cases h
    · simp [Array.getElem?_eq_none h1] at h
  have other : ∀ {l : Array Bool} {j : Nat}, i ∈ Region.ready md ops l → j ∈ Region.ready md ops l → j ≠ i → l.getD j true = false ∧ ∃ oj, ops[j]? = some oj ∧ ∀ e ∈ oj.after, Region.binds md e = true → e.on ≠ i := by
    intro l j hr hj hji
    obtain ⟨h1, oj, h2, h3⟩ := mem_ready.1 hj
    refine ⟨h1, oj, h2, fun e he hb heq => ?_⟩
    have hx := h3 e he hb
    rw [heq] at hx
    exact un hx (mem_ready.1 hr).1
  induction n with
  | zero =>
    intro l a w hfree hr hy H
    refine ⟨fun h => absurd (h ▸ hr) (by simp), fun j hj => ?_⟩
    by_cases hji : j = i
    · subst hji; exact hy.wpOp hi trivial ⟨fun h => absurd hik h, H⟩
    · exact absurd (H.1 ▸ ready_mono hj hji) (by simp)
  | succ n ih =>
    intro l a w hfree hr hy H
    refine ⟨fun h => absurd (h ▸ hr) (by simp), fun j hj => ?_⟩
    by_cases hji : j = i
    · subst hji; exact hy.wpOp hi trivial ⟨fun h => absurd hik h, H⟩
    obtain ⟨hjun, oj, hoj, hnot⟩ := other hr hj hji
    refine wpOp_mono (fun a' w' h3 => ⟨h3.2.1, ih (l.setIfInBounds j true) a' w' ?_ (ready_mono hr (Ne.symm hji)) h3.1 ?_⟩)
      (wpOp_putIf hoj (hfree j oj hoj hji hjun hnot) (fun cs b => hsel i oi cs b hi) (fun cs b => hsel j oj cs b hoj) hQ hy (H.2 j (ready_mono hj hji)))
    · intro m om hom hmi hun hno
      refine hfree m om hom hmi ?_ hno
      by_cases hjm : j = m
      · subst hjm; exact hjun
      · rw [getD_set_ne true hjm] at hun; exact hun
    · rw [Array.setIfInBounds_comm _ _ hji]
      exact h3.2.2
theorem takeD_if {i : Nat} {oi : Oper} {v : Value} {n : Nat} {l : Array Bool} {a : Act} {w : World} (hi : ops[i]? = some oi)
    (hs : Region.noSelect ops = true) (hf : Region.free md ops l i = true) (hr : ((Region.ready md ops l).contains i && ks.all (fun k => l.getD k false || waitsD md ops ops.size k i) && closedB md ops l) = true)
    (hQ : ∀ c a w, Q (.panic c) (a.put oi.dst v) w → Q (.panic c) a w) (hw : Region.wanted oi (yielded ops a.tmps) = true) (hy : ∀ w, S w → (execOp a.eval oi).run P w = .ok (.value v) w) (hS : S w)
    (h : AnyL P md ops Q S ks n (l.setIfInBounds i true) (a.put oi.dst v) w) : AnyL P md ops Q S ks (n + 1) l a w := by
  rw [Bool.and_eq_true, Bool.and_eq_true] at hr
  exact takeD hi (Region.noSelect_spec hs) hQ n l a w (by simpa using hr.1.2) (closedB_spec hr.2) (Region.free_spec hi hf) (by simpa using hr.1.1) (.inl ⟨hw, hy⟩) hS h
theorem takeP_if {i : Nat} {oi : Oper} {v : Value} {n : Nat} {l : Array Bool} {a : Act} {w : World} (hi : ops[i]? = some oi)
    (hs : Region.noSelect ops = true) (hf : Region.free md ops l i = true) (hr : ((Region.ready md ops l).contains i && ks.contains i) = true)
    (hQ : ∀ c a w, Q (.panic c) (a.put oi.dst v) w → Q (.panic c) a w) (hw : Region.wanted oi (yielded ops a.tmps) = true) (hy : ∀ w, (fun _ => True) w → (execOp a.eval oi).run P w = .ok (.value v) w) (_ : True)
    (h : AnyL P md ops Q S ks n (l.setIfInBounds i true) (a.put oi.dst v) w) : AnyL P md ops Q S ks (n + 1) l a w := by
  rw [Bool.and_eq_true] at hr
  exact takeP hi (by simpa using hr.2) (Region.noSelect_spec hs) hQ n l a w (Region.free_spec hi hf) (by simpa using hr.1) (.inl ⟨hw, hy⟩) h
theorem tkD (i : Nat) {oi : Oper} {v : Value} {fuel : Nat} {listed : Array Bool} {a a' : Act} {w : World} (h : AnyL P md ops Q S ks fuel (listed.setIfInBounds i true) a' w) (hi : ops[i]? = some oi := by simp only [List.getElem?_toArray, List.getElem?_cons_succ, List.getElem?_cons_zero]; rfl)
    (hs : Region.noSelect ops = true := by kernel_rfl) (hf : Region.free md ops listed i = true := by kernel_rfl) (hr : ((Region.ready md ops listed).contains i && ks.all (fun k => listed.getD k false || waitsD md ops ops.size k i) && closedB md ops listed) = true := by kernel_rfl)
    (hQ : ∀ c a w, Q (.panic c) (a.put oi.dst v) w → Q (.panic c) a w := by exact fun _ _ _ h => h) (hw : Region.wanted oi (yielded ops a.tmps) = true := by rfl)
    (hy : ∀ w, S w → (execOp a.eval oi).run P w = .ok (.value v) w := by (focus ((intro w hSw; (try have hSw := HF.out _ hSw); (try dsimp only at hSw); go_simp); try exact rfl)))
    (hS : S w := by assumption)
    (ha : a.put oi.dst v = a' := by (simp only [Act.put, List.setIfInBounds_toArray, List.set_cons_zero, List.set_cons_succ]; rfl)) : AnyL P md ops Q S ks (fuel + 1) listed a w := by
  subst ha
  exact takeD_if hi hs hf hr hQ hw hy hS h
theorem tkP (i : Nat) {oi : Oper} {v : Value} {fuel : Nat} {listed : Array Bool} {a a' : Act} {w : World} (h : AnyL P md ops Q S ks fuel (listed.setIfInBounds i true) a' w) (hi : ops[i]? = some oi := by simp only [List.getElem?_toArray, List.getElem?_cons_succ, List.getElem?_cons_zero]; rfl)
    (hs : Region.noSelect ops = true := by kernel_rfl) (hf : Region.free md ops listed i = true := by kernel_rfl) (hr : ((Region.ready md ops listed).contains i && ks.contains i) = true := by kernel_rfl)
    (hQ : ∀ c a w, Q (.panic c) (a.put oi.dst v) w → Q (.panic c) a w := by exact fun _ _ _ h => h) (hw : Region.wanted oi (yielded ops a.tmps) = true := by rfl)
    (hy : ∀ w, (fun _ => True) w → (execOp a.eval oi).run P w = .ok (.value v) w := by (focus ((intro w hSw; (try have hSw := HF.out _ hSw); (try dsimp only at hSw); go_simp); try exact rfl)))
    (ha : a.put oi.dst v = a' := by (simp only [Act.put, List.setIfInBounds_toArray, List.set_cons_zero, List.set_cons_succ]; rfl)) : AnyL P md ops Q S ks (fuel + 1) listed a w := by
  subst ha
  exact takeP_if hi hs hf hr hQ hw hy trivial h
end
end Go.Proofs.YtmacfoebfpljoaaGreat
