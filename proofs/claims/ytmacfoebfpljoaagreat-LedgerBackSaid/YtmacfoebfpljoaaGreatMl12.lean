/- merged texts: Hnh Hni Hnj Hnb Hnk Hnl Hwe -/
import Derived.Test.YtmacfoebfpljoaaGreatMl11
import Derived.Test.YtmacfoebfpljoaaGreatMl9
import Derived.Test.YtmacfoebfpljoaaGreatMl10
import Derived.Test.YtmacfoebfpljoaaGreatMl8
import Derived.Test.YtmacfoebfpljoaaGreatMl7
namespace Go.Proofs.YtmacfoebfpljoaaGreat
open Go.RowKit
set_option linter.unusedVariables false
def NodeOut11 (n : Nat) (l : List Pt) (w : World) (e : Ending) (w' : World) : Prop := ∃ (b : Bool) (er : Int), e = .returned (.tuple #[.bool b, .int .i64 er]) ∧ (er = 0 → 0 < n → mn l (n - 1) ≤ 256) ∧ Below w.heap.size w w'
def ManyO (y : Nat) (w : World) (e : Ending) (w' : World) : Prop := e = .returned (.int .i64 (y : Int)) ∧ Below w.heap.size w w'
section
variable (base : Nat) (nv mv : Value) (ns : List Nd) (ms : List Mr) (PA TA EA : Option Addr) (pn pc tn tc en ec : Nat) (w : World)
set_option maxRecDepth 100000 in
set_option maxHeartbeats 16000000 in
theorem node11s_any (pb n c mb xc : Nat) (A XA : Option Addr) (l : List Pt) (mg : List Mg) (hD : DeclIn w base nv mv ns ms) (hp : Parts w pb (.slice A n c) n l) (hn : n ≤ 1000) (hg : MgsIn w mb (.slice XA mg.length xc) mg) (hgl : mg.length ≤ 100000) : Calls Tryz.prog 51 #[.agg #[nv, mv, .slice PA pn pc, .slice TA tn tc, .slice EA en ec], .slice A n c, .slice XA mg.length xc] w (NodeOut11 n l w) := by
  obtain ⟨NA, nc, rfl, -, -, -, -⟩ := own_form hD.n
  obtain ⟨MA, mc, rfl, -, -, -, -⟩ := own_form hD.m
  have hil := fun t W (hb : Below w.heap.size w W) => inline_any base _ _ ns ms PA TA EA pn pc tn tc en ec W t (hD.below hb)
  have HIL := Lib.hid hil
  have hma : 0 < n → ∀ W, Below w.heap.size w W → Calls Tryz.prog 104 #[.slice A n c, .int .i64 ((n : Int) - 1)] W (ManyO (min (mn l (n - 1)) 257) W) := fun h0 W hb => by
    have h := many_all n c A l n (n - 1) (by omega) pb W (hp.below hb) (by omega) hn
    rwa [show (((n - 1 : Nat) : Int)) = (n : Int) - 1 by omega] at h
  have HMA := Lib.hid hma
  have hof := fun (h0 : 0 < n → mn l (n - 1) ≤ 256) W (hb : Below w.heap.size w W) => of7_any pb n c mb xc A XA l mg W (hp.below hb) hn (hg.below hb) hgl h0
  have HOF := Lib.hid hof
  have HG := Lib.hid hg
  clear hil hma hof hD hp hg
  obtain ⟨gl, hgl2⟩ : ∃ gl, gl = mg.length := ⟨_, rfl⟩
  rw [← hgl2] at hgl HG HOF ⊢
  have HGL := Lib.hid hgl2
  clear hgl2
  go_enter Tryz.func51, Tryz.ntmps51
  go_upto_region 1 with fail
  have ks := Bk.new w 32 #[.slice NA ns.length nc, .slice MA ms.length mc, .slice PA pn pc, .slice TA tn tc, .slice EA en ec]
  have hb0 : Below w.heap.size w (w.alloc (.cells #[.slice NA ns.length nc, .slice MA ms.length mc, .slice PA pn pc, .slice TA tn tc, .slice EA en ec] 32)) := belowA
  generalize w.alloc (.cells #[.slice NA ns.length nc, .slice MA ms.length mc, .slice PA pn pc, .slice TA tn tc, .slice EA en ec] 32) = w0 at *
  go_wp2
  go_loopw [8, 9, 10] (fun u v j wr => ∃ (k : Nat) (x y : Bool), k ≤ gl ∧ j = .int .i64 k ∧ u = .bool x ∧ v = .bool y ∧ Below w.heap.size w wr ∧ Bk wr w.heap.size 32 #[.slice NA ns.length nc, .slice MA ms.length mc, .slice PA pn pc, .slice TA tn tc, .slice EA en ec]) (fun _ _ j _ => gl - (intOf j).toNat)
  case atStart => exact ⟨0, false, false, by omega, rfl, rfl, rfl, hb0, ks⟩
  case round =>
    clear hb0 ks
    obtain ⟨k, x, y, hk, rfl, rfl, rfl, hbo, kso⟩ := hrel
    rename World => wo
    by_cases hlt : k < gl
    · have e3 : (k : Int) < gl := by omega
      obtain ⟨p, hp⟩ : ∃ p, mg[k]? = some p := ⟨_, List.getElem?_eq_getElem (by have := HGL.out; omega)⟩
      have hpo := HG.out.own p (List.mem_of_getElem? hp)
      have hpl := HG.out.ol p (List.mem_of_getElem? hp)
      obtain ⟨b, o, rfl, hb, -, c1⟩ := HG.out.at_ hp
      obtain ⟨Ap, cp, ep, -, -, -, hr⟩ := own_form hpo
      rw [ep] at c1
      obtain ⟨zn, hzn⟩ : ∃ zn, zn = p.on.length := ⟨_, rfl⟩
      rw [← hzn] at hr hpl c1
      have HC := Lib.hid c1
      have HR := Lib.hid hr
      have d1 := (hbo.cell (p := ⟨b, o + k * 2 + 1, none⟩) hb).trans c1
      clear hp hpo c1 hr ep hzn
      by_cases hz : zn = 0
      · have e4 : ((zn : Int) == 0) = true := by rw [beq_iff_eq]; omega
        go_wp2
        go_ret2
        exact ⟨_, _, rfl, (fun h => by omega), hbo⟩
      have e4 : ((zn : Int) == 0) = false := beq_false_of_ne (by omega)
      go_wp2
      clear d1
      go_loopw [8, 9, 11] (fun u v j wr => ∃ (q : Nat) (x y : Bool), q ≤ zn ∧ j = .int .i64 q ∧ u = .bool x ∧ v = .bool y ∧ Below w.heap.size w wr ∧ Bk wr w.heap.size 32 #[.slice NA ns.length nc, .slice MA ms.length mc, .slice PA pn pc, .slice TA tn tc, .slice EA en ec]) (fun _ _ j _ => zn - (intOf j).toNat)
      case atStart => exact ⟨0, x, y, by omega, rfl, rfl, rfl, hbo, kso⟩
      case round =>
        clear hbo kso
        obtain ⟨q, x, y, hq, rfl, rfl, rfl, hbr, ksr⟩ := hrel
        rename World => wr
        have d1 := (hbr.cell (p := ⟨b, o + k * 2 + 1, none⟩) hb).trans HC.out
        by_cases hql : q < zn
        · have e5 : (q : Int) < zn := by omega
          obtain ⟨zb, zo, z, rfl, hzb, -, hzc⟩ := HR.out.is_at hql
          have hF : ∀ W, (Below w.heap.size w W ∧ Bk W w.heap.size 32 #[.slice NA ns.length nc, .slice MA ms.length mc, .slice PA pn pc, .slice TA tn tc, .slice EA en ec]) → (W.cell? ⟨w.heap.size, 0, none⟩ = some (.slice NA ns.length nc) ∧ W.cell? ⟨w.heap.size, 1, none⟩ = some (.slice MA ms.length mc) ∧ W.cell? ⟨w.heap.size, 2, none⟩ = some (.slice PA pn pc) ∧ W.cell? ⟨w.heap.size, 3, none⟩ = some (.slice TA tn tc) ∧ W.cell? ⟨w.heap.size, 4, none⟩ = some (.slice EA en ec)) ∧ W.cell? ⟨b, o + k * 2 + 1, none⟩ = some (.slice (some ⟨zb, zo, none⟩) zn cp) ∧ W.cell? ⟨zb, zo + q, none⟩ = some (.int .i64 z) := fun W h => ⟨bk5 h.2, (h.1.cell (p := ⟨b, o + k * 2 + 1, none⟩) hb).trans HC.out, (h.1.cell (p := ⟨zb, zo + q, none⟩) hzb).trans hzc⟩
          have HF := Lib.hid hF
          clear hF
          go_upto_region 11 with fail
          clear d1 hzc
          refine wp_normal ?_
          refine wp_region_held_drew (S := fun W => Below w.heap.size w W ∧ Bk W w.heap.size 32 #[.slice NA ns.length nc, .slice MA ms.length mc, .slice PA pn pc, .slice TA tn tc, .slice EA en ec]) (by kernel_rfl) ⟨hbr.drew, ksr.drew⟩ (fun hHeld => ?_)
          clear hbr ksr
          cases x with
          | true =>
            (refine tkH 0 ?_; refine tkH 1 ?_; refine tnH 2 ?_; refine tnH 3 ?_; refine tnH 4 ?_; refine tnH 5 ?_; refine tnH 6 ?_; refine tnH 7 ?_; refine tnH 8 ?_; refine tnH 9 ?_; refine tnH 10 ?_; refine tnH 11 ?_; refine tkH 12 ?_; refine tkH 13 ?_)
            refine wpAnyH_done (by kernel_rfl) ?_ _
            go_upto_region 12 with fail
            refine wp_normal ?_
            refine wp_region_held_drew (S := fun W => Below w.heap.size w W ∧ Bk W w.heap.size 32 #[.slice NA ns.length nc, .slice MA ms.length mc, .slice PA pn pc, .slice TA tn tc, .slice EA en ec]) (by kernel_rfl) ⟨hHeld.1.drew, hHeld.2.drew⟩ (fun hHeld => ?_)
            cases y with
            | true =>
              (refine tkH 0 ?_; refine tkH 1 ?_; refine tnH 2 ?_; refine tnH 3 ?_; refine tnH 4 ?_; refine tnH 5 ?_; refine tnH 6 ?_; refine tnH 7 ?_; refine tnH 8 ?_; refine tnH 9 ?_; refine tnH 10 ?_; refine tnH 11 ?_; refine tnH 12 ?_; refine tkH 13 ?_; refine tkH 14 ?_)
              refine wpAnyH_done (by kernel_rfl) ?_ _
              go_wp2
              go_roundw
              case rel => exact ⟨q + 1, true, true, by omega, by go_num, rfl, rfl, hHeld⟩
              case measure => simp [intOf]; omega
            | false =>
              (refine tkH 0 ?_; refine tkH 1 ?_; refine tkH 2 ?_; refine tkH 3 ?_; refine tkH 4 ?_; refine tkH 5 ?_; refine tkH 6 ?_; refine tkH 7 ?_; refine tkH 8 ?_; refine tkH 9 ?_; refine tkH 10 ?_)
              refine nxH 11 (fun K hK => ?_)
              go_simp
              go_at_call 103
              refine (HIL.out z _ hHeld.1).mono ?_
              rintro e w6 ⟨⟨b6, rfl⟩, hb6⟩
              refine hK.out _ _ ⟨hHeld.1.trans (hb6.mono hHeld.1.size), hHeld.2.ext hb6⟩ (fun hHeld => ?_)
              clear hK K; refine puH ?_
              (refine tkH 12 ?_; refine tkH 13 ?_; refine tkH 14 ?_)
              refine wpAnyH_done (by kernel_rfl) ?_ _
              go_wp2
              go_roundw
              case rel => exact ⟨q + 1, true, _, by omega, by go_num, rfl, rfl, hHeld⟩
              case measure => simp [intOf]; omega
          | false =>
            (refine tkH 0 ?_; refine tkH 1 ?_; refine tkH 2 ?_; refine tkH 3 ?_; refine tkH 4 ?_; refine tkH 5 ?_; refine tkH 6 ?_; refine tkH 7 ?_; refine tkH 8 ?_; refine tkH 9 ?_; refine tkH 10 ?_)
            refine nxH 11 (fun K hK => ?_)
            go_simp
            go_at_call 103
            refine (HIL.out z _ hHeld.1).mono ?_
            rintro e w5 ⟨⟨b5, rfl⟩, hb5⟩
            refine hK.out _ _ ⟨hHeld.1.trans (hb5.mono hHeld.1.size), hHeld.2.ext hb5⟩ (fun hHeld => ?_)
            clear hK K; refine puH ?_
            (refine tkH 12 ?_; refine tkH 13 ?_)
            refine wpAnyH_done (by kernel_rfl) ?_ _
            go_upto_region 12 with fail
            refine wp_normal ?_
            refine wp_region_held_drew (S := fun W => Below w.heap.size w W ∧ Bk W w.heap.size 32 #[.slice NA ns.length nc, .slice MA ms.length mc, .slice PA pn pc, .slice TA tn tc, .slice EA en ec]) (by kernel_rfl) ⟨hHeld.1.drew, hHeld.2.drew⟩ (fun hHeld => ?_)
            cases y with
            | true =>
              (refine tkH 0 ?_; refine tkH 1 ?_; refine tnH 2 ?_; refine tnH 3 ?_; refine tnH 4 ?_; refine tnH 5 ?_; refine tnH 6 ?_; refine tnH 7 ?_; refine tnH 8 ?_; refine tnH 9 ?_; refine tnH 10 ?_; refine tnH 11 ?_; refine tnH 12 ?_; refine tkH 13 ?_; refine tkH 14 ?_)
              refine wpAnyH_done (by kernel_rfl) ?_ _
              go_wp2
              go_roundw
              case rel => exact ⟨q + 1, b5, true, by omega, by go_num, rfl, rfl, hHeld⟩
              case measure => simp [intOf]; omega
            | false =>
              (refine tkH 0 ?_; refine tkH 1 ?_; refine tkH 2 ?_; refine tkH 3 ?_; refine tkH 4 ?_; refine tkH 5 ?_; refine tkH 6 ?_; refine tkH 7 ?_; refine tkH 8 ?_; refine tkH 9 ?_; refine tkH 10 ?_)
              refine nxH 11 (fun K hK => ?_)
              go_simp
              go_at_call 103
              refine (HIL.out z _ hHeld.1).mono ?_
              rintro e w6 ⟨⟨b6, rfl⟩, hb6⟩
              refine hK.out _ _ ⟨hHeld.1.trans (hb6.mono hHeld.1.size), hHeld.2.ext hb6⟩ (fun hHeld => ?_)
              clear hK K; refine puH ?_
              (refine tkH 12 ?_; refine tkH 13 ?_; refine tkH 14 ?_)
              refine wpAnyH_done (by kernel_rfl) ?_ _
              go_wp2
              go_roundw
              case rel => exact ⟨q + 1, b5, _, by omega, by go_num, rfl, rfl, hHeld⟩
              case measure => simp [intOf]; omega
        · obtain rfl : q = zn := by omega
          go_wp2
          go_roundw
          case rel => exact ⟨k + 1, x, y, by omega, by go_num, rfl, rfl, hbr, ksr⟩
          case measure => simp [intOf]; omega
    · obtain rfl : k = gl := by omega
      cases hxy : (x && y) with
      | true =>
        have ex : x = true := by cases x <;> simp_all
        have ey : y = true := by cases y <;> simp_all
        subst ex
        subst ey
        clear hxy
        go_wp2
        go_ret2
        exact ⟨_, _, rfl, (fun h => by omega), hbo⟩
      | false =>
        cases x <;> cases y <;> (try (simp at hxy; done))
        all_goals
          clear hxy
          by_cases h0 : 0 < n
          · have n0 : (0 : Int) < n := by omega
            obtain ⟨s0, s1, s2, s3, s4⟩ := bk5 kso
            go_wp2_with (go_at_call 104; fail)
            refine (HMA.out h0 _ hbo).mono ?_
            rintro e w5 ⟨rfl, hb5⟩
            have hbo5 := hbo.trans (hb5.mono hbo.size)
            obtain ⟨Y, hY⟩ : ∃ Y, Y = min (mn l (n - 1)) 257 := ⟨_, rfl⟩
            rw [← hY]
            have HY := Lib.hid hY
            clear hY s0 s1 s2 s3 s4
            by_cases hbig : 256 < Y
            · have e7 : (256 : Int) < Y := by omega
              go_wp2
              go_ret2
              exact ⟨_, _, rfl, (fun h => by omega), hbo5⟩
            · have e7 : ¬ (256 : Int) < Y := by omega
              have hm := Lib.hid (show 0 < n → mn l (n - 1) ≤ 256 from fun _ => by have := HY.out; omega)
              go_wp2_with (go_at_call 106; fail)
              refine (HOF.out hm.out _ hbo5).mono ?_
              rintro e w6 ⟨m, on, bh, f, e, em, rfl, hm256, hV, hb6⟩
              have hbo6 := hbo5.trans (hb6.mono hbo5.size)
              have hnw := Lib.hid (new8_any _ m _ _ _ _ em w6 hV hm256)
              clear hV
              go_wp2_with (go_at_call 105; fail)
              refine hnw.out.mono ?_
              rintro e w7 ⟨A0, A1, A2, z0, z1, z2, z3, z4, z5, b7, rfl, hb7⟩
              have hbo7 := hbo6.trans (hb7.mono hbo6.size); have hz7 := hbo7.size
              cases b7
              all_goals
                go_wp2
                go_ret2
                exact ⟨_, _, rfl, (fun _ => hm.out), belowA⟩
          · have n0 : ¬ (0 : Int) < n := by omega
            have hm := Lib.hid (show 0 < n → mn l (n - 1) ≤ 256 from fun h => absurd h h0)
            have e0 : ((n : Int) == 0) = true := by rw [beq_iff_eq]; omega
            go_wp2_with (go_at_call 106; fail)
            refine (HOF.out hm.out _ hbo).mono ?_
            rintro e w6 ⟨m, on, bh, f, e, em, rfl, hm256, hV, hb6⟩
            have hbo6 := hbo.trans (hb6.mono hbo.size)
            have hnw := Lib.hid (new8_any _ m _ _ _ _ em w6 hV hm256)
            clear hV
            go_wp2_with (go_at_call 105; fail)
            refine hnw.out.mono ?_
            rintro e w7 ⟨A0, A1, A2, z0, z1, z2, z3, z4, z5, b7, rfl, hb7⟩
            have hbo7 := hbo6.trans (hb7.mono hbo6.size); have hz7 := hbo7.size
            cases b7
            all_goals
              go_wp2
              go_ret2
              exact ⟨_, _, rfl, (fun _ => hm.out), belowA⟩
end
section
variable {w w' : World} {Y : Nat → Prop} {T : TypeId}
theorem own_sti {base size n : Nat} {e : TypeId} {v : Value} {xs : List Value} (h : w.ownsRow base e size v n xs) (hs : Sti Y w w') (hY : ∀ i, Y i → ∃ cs, Bk w i T cs) (hne : e ≠ T) : w'.ownsRow base e size v n xs :=
  hs.own h (fun g hg y => by
    obtain ⟨cs, hc⟩ := hY g y
    obtain ⟨ds, hd⟩ := own_row_ty h g hg
    exact hne (hd.ty hc))
theorem bk_sti {b : Nat} {t : TypeId} {cs : Array Value} (h : Bk w b t cs) (hs : Sti Y w w') (hY : ∀ i, Y i → ∃ cs, Bk w i T cs) (hne : t ≠ T) : Bk w' b t cs :=
  hs.bk h (fun y => by obtain ⟨c, hc⟩ := hY _ y; exact hne (h.ty hc))
theorem DeclIn.sti {base : Nat} {nv mv : Value} {ns : List Nd} {ms : List Mr} (h : DeclIn w base nv mv ns ms) (hs : Sti Y w w') (hY : ∀ i, Y i → ∃ cs, Bk w i T cs) (h1 : 113 ≠ T) (h2 : 183 ≠ T) (h3 : 9 ≠ T) : DeclIn w' base nv mv ns ms :=
  ⟨own_sti h.n hs hY h1, h.nl, own_sti h.m hs hY h2, h.ml, fun p hp => ⟨own_sti (h.ni p hp).g hs hY h3, (h.ni p hp).gl, own_sti (h.ni p hp).m hs hY h3, (h.ni p hp).ml, (h.ni p hp).ex⟩, fun p hp => ⟨own_sti (h.mi p hp).b hs hY h3, (h.mi p hp).bl⟩⟩
theorem Parts.sti {base k : Nat} {v : Value} {l : List Pt} (h : Parts w base v k l) (hs : Sti Y w w') (hY : ∀ i, Y i → ∃ cs, Bk w i T cs) (h1 : 192 ≠ T) (h2 : 3 ≠ T) : Parts w' base v k l :=
  ⟨own_sti h.row hs hY h1, fun i p hp => own_sti (h.own i p hp) hs hY h2, h.ok, h.s⟩
theorem MgsIn.sti {base : Nat} {v : Value} {l : List Mg} (h : MgsIn w base v l) (hs : Sti Y w w') (hY : ∀ i, Y i → ∃ cs, Bk w i T cs) (h1 : 195 ≠ T) (h2 : 3 ≠ T) : MgsIn w' base v l :=
  ⟨own_sti h.row hs hY h1, fun p hp => own_sti (h.own p hp) hs hY h2, h.ol⟩
end
/-- a node's expression -/
structure Pe where
  v : Value
  n : Nat
  l : List Pt
/-- what is made of the lines: expressions, whether they have texts, what their names mean -/
structure SIn (w : World) (B : Nat) (pv tv ev : Value) (ps : List Pe) (tn : Nat) (mg : List Mg) : Prop where
  p : w.ownsRow B 108 1 pv ps.length (ps.map (·.v))
  pi : ∀ x ∈ ps, Parts w B x.v x.n x.l
  pn : ∀ x ∈ ps, x.n ≤ 1000 ∧ (0 < x.n → mn x.l (x.n - 1) ≤ 256)
  t : ∃ bs, w.ownsRow B 4 1 tv tn bs
  m : MgsIn w B ev mg
theorem info_lp : (Tryz.prog.info? 108).map (fun i => (i.zero, i.size, i.bytes)) = some (some (.slice none 0 0), 1, 24) := by kernel_rfl
section
variable {w w' : World} {B tn : Nat} {pv tv ev v' : Value} {ps : List Pe} {mg : List Mg} {Y : Nat → Prop} {T : TypeId}
theorem SIn.nil (w : World) (B : Nat) : SIn w B (.slice none 0 0) (.slice none 0 0) (.slice none 0 0) [] 0 [] := ⟨World.ownsRow_nil _ _ _ _, (fun x h => by cases h), (fun x h => by cases h), ⟨[], World.ownsRow_nil _ _ _ _⟩, MgsIn.nil _ _⟩
theorem SIn.below (h : SIn w B pv tv ev ps tn mg) (hb : Below w.heap.size w w') : SIn w' B pv tv ev ps tn mg := by
  obtain ⟨bs, ht⟩ := h.t
  exact ⟨own_below h.p hb, fun x hx => (h.pi x hx).below hb, h.pn, ⟨bs, own_below ht hb⟩, h.m.below hb⟩
theorem SIn.base_ {B' : Nat} (h : SIn w B pv tv ev ps tn mg) (hb : B' ≤ B) : SIn w B' pv tv ev ps tn mg := by
  obtain ⟨bs, ht⟩ := h.t
  exact ⟨own_base h.p hb, fun x hx => (h.pi x hx).base_ hb, h.pn, ⟨bs, own_base ht hb⟩, h.m.base_ hb⟩
theorem SIn.sti (h : SIn w B pv tv ev ps tn mg) (hs : Sti Y w w') (hY : ∀ i, Y i → ∃ cs, Bk w i T cs) (h1 : 108 ≠ T) (h2 : 192 ≠ T) (h3 : 3 ≠ T) (h4 : 4 ≠ T) (h5 : 195 ≠ T) : SIn w' B pv tv ev ps tn mg := by
  obtain ⟨bs, ht⟩ := h.t
  exact ⟨own_sti h.p hs hY h1, fun x hx => (h.pi x hx).sti hs hY h2 h3, h.pn, ⟨bs, own_sti ht hs hY h4⟩, h.m.sti hs hY h5 h3⟩
theorem SIn.pushP {x : Pe} (h : SIn w B pv tv ev ps tn mg) (hx : Parts w B x.v x.n x.l) (hn : x.n ≤ 1000 ∧ (0 < x.n → mn x.l (x.n - 1) ≤ 256)) (hg : w.grownBy w' pv.ownBlock) (ho : w'.ownsRow B 108 1 v' (ps.length + 1) (ps.map (·.v) ++ [x.v])) : SIn w' B v' tv ev (ps ++ [x]) tn mg := by
  obtain ⟨bs, ht⟩ := h.t
  have hs : Sti (fun i => pv.ownBlock = some i) w w' := Sti.of_gr hg (fun i h => h)
  have hY := own_row_ty h.p
  refine ⟨by rw [List.length_append, List.map_append]; exact ho, fun y hy => ?_, fun y hy => ?_, ⟨bs, own_sti ht hs hY (by decide)⟩, h.m.sti hs hY (by decide) (by decide)⟩
  · rcases List.mem_append.1 hy with hy | hy
    · exact (h.pi y hy).sti hs hY (by decide) (by decide)
    · simp at hy; subst hy; exact hx.sti hs hY (by decide) (by decide)
  · rcases List.mem_append.1 hy with hy | hy
    · exact h.pn y hy
    · simp at hy; subst hy; exact hn
theorem SIn.pushT {u : Value} {bs : List Value} (h : SIn w B pv tv ev ps tn mg) (hb : w.ownsRow B 4 1 tv tn bs) (hg : w.grownBy w' tv.ownBlock) (ho : w'.ownsRow B 4 1 v' (tn + 1) (bs ++ [u])) : SIn w' B pv v' ev ps (tn + 1) mg := by
  have hs : Sti (fun i => tv.ownBlock = some i) w w' := Sti.of_gr hg (fun i h => h)
  have hY := own_row_ty hb
  exact ⟨own_sti h.p hs hY (by decide), fun y hy => (h.pi y hy).sti hs hY (by decide) (by decide), h.pn, ⟨_, ho⟩, h.m.sti hs hY (by decide) (by decide)⟩
theorem SIn.pushM {mg2 : List Mg} {v2 : Value} (h : SIn w B pv tv ev ps tn mg) (hm : MgsIn w B v2 mg2) (hg : w.grownBy w' ev.ownBlock) (ho : w'.ownsRow B 195 2 v' (mg.length + mg2.length) (mgs mg ++ mgs mg2)) : SIn w' B pv tv v' ps tn (mg ++ mg2) := by
  obtain ⟨bs, ht⟩ := h.t
  have hs : Sti (fun i => ev.ownBlock = some i) w w' := Sti.of_gr hg (fun i h => h)
  have hY := own_row_ty h.m.row
  refine ⟨own_sti h.p hs hY (by decide), fun y hy => (h.pi y hy).sti hs hY (by decide) (by decide), h.pn, ⟨bs, own_sti ht hs hY (by decide)⟩, ⟨by rw [List.length_append, mgs_append]; exact ho, fun p hp => ?_, fun p hp => ?_⟩⟩
  · rcases List.mem_append.1 hp with hp | hp
    · exact own_sti (h.m.own p hp) hs hY (by decide)
    · exact own_sti (hm.own p hp) hs hY (by decide)
  · rcases List.mem_append.1 hp with hp | hp
    · exact h.m.ol p hp
    · exact hm.ol p hp
end
abbrev zeroSc : Array Value := #[.slice none 0 0, .slice none 0 0, .slice none 0 0, .slice none 0 0, .slice none 0 0]
/-- on the way -/
structure SI (w wr : World) (db : Nat) (nv mv pv tv ev : Value) (ns : List Nd) (ms : List Mr) (ps : List Pe) (tn : Nat) (mg : List Mg) : Prop where
  r : Bk wr w.heap.size 32 zeroSc
  d : Bk wr db 27 #[nv, mv]
  s : Bk wr (db + 1) 32 #[nv, mv, pv, tv, ev]
  i : DeclIn wr w.heap.size nv mv ns ms
  x : SIn wr w.heap.size pv tv ev ps tn mg
  b : Below w.heap.size w wr
  h : w.heap.size < db
section
variable {w wr w' : World} {db tn : Nat} {nv mv pv tv ev v' u : Value} {ns : List Nd} {ms : List Mr} {ps : List Pe} {mg : List Mg}
theorem SI.below (h : SI w wr db nv mv pv tv ev ns ms ps tn mg) (hb : Below wr.heap.size wr w') : SI w w' db nv mv pv tv ev ns ms ps tn mg :=
  ⟨h.r.ext hb, h.d.ext hb, h.s.ext hb, h.i.below hb, h.x.below hb, h.b.trans (hb.mono h.b.size), h.h⟩
/-- a row of it has grown, and the field is set -/
theorem SI.put {row : Option Nat} {T : TypeId} {j : Nat} {pv' tv' ev' : Value} {ps' : List Pe} {tn' : Nat} {mg' : List Mg} (h : SI w wr db nv mv pv tv ev ns ms ps tn mg) (hg : wr.grownBy w' row) (hT : ∀ i, row = some i → ∃ cs, Bk wr i T cs) (hr : ∀ i, row = some i → w.heap.size ≤ i) (h1 : 32 ≠ T) (h2 : 27 ≠ T) (h3 : 113 ≠ T) (h4 : 183 ≠ T) (h5 : 9 ≠ T) (hx : SIn w' w.heap.size pv' tv' ev' ps' tn' mg') (hk : Bk (w'.setCell ⟨db + 1, j, none⟩ u) (db + 1) 32 #[nv, mv, pv', tv', ev']) : SI w (w'.setCell ⟨db + 1, j, none⟩ u) db nv mv pv' tv' ev' ns ms ps' tn' mg' := by
  have hh := h.h
  have hs : Sti (fun i => row = some i) wr w' := Sti.of_gr hg (fun i h => h)
  have ks := bk_sti h.s hs hT h1
  have hs2 : Sti (fun i => i = db + 1) w' (w'.setCell ⟨db + 1, j, none⟩ u) := Sti.set_ (Y := fun i => i = db + 1) (p := ⟨db + 1, j, none⟩) (Sti.refl _ w') (.inl rfl) u
  have hY2 : ∀ i, i = db + 1 → ∃ cs, Bk w' i 32 cs := fun i e => by subst e; exact ⟨_, ks⟩
  exact ⟨hs2.bk (bk_sti h.r hs hT h1) (by omega), hs2.bk (bk_sti h.d hs hT h2) (by omega), hk, (h.i.sti hs hT h3 h4 h5).sti hs2 hY2 (by decide) (by decide) (by decide), hx.sti hs2 hY2 (by decide) (by decide) (by decide) (by decide) (by decide), (h.b.trans (hbelow_gr hg hr h.b.size)).setCell (by simp; omega) _, h.h⟩
end
def NewOut11 (w : World) (e : Ending) (w' : World) : Prop := ∃ (NA MA PA TA EA : Option Addr) (nn nc mn_ mc pn pc tn tc en ec : Nat) (ns : List Nd) (ms : List Mr) (ps : List Pe) (bn : Nat) (mg : List Mg) (er : Int), e = .returned (.tuple #[.agg #[.slice NA nn nc, .slice MA mn_ mc, .slice PA pn pc, .slice TA tn tc, .slice EA en ec], .int .i64 er]) ∧ DeclIn w' w.heap.size (.slice NA nn nc) (.slice MA mn_ mc) ns ms ∧ SIn w' w.heap.size (.slice PA pn pc) (.slice TA tn tc) (.slice EA en ec) ps bn mg ∧ ps.length = ns.length ∧ mg.length ≤ 10000 ∧ Below w.heap.size w w'
theorem mgs_one_cell {w : World} {base : Nat} {v : Value} {l : List Mg} (h : MgsIn w base v l) : ∀ u ∈ mgs l, u.oneCell' = true := by
  intro u hu
  simp only [mgs, List.mem_flatMap] at hu
  obtain ⟨p, hp, hu⟩ := hu
  obtain ⟨A, c, e, -, -, -, -⟩ := own_form (h.own p hp)
  simp only [Mg.cells, List.mem_cons, List.not_mem_nil, or_false] at hu
  rcases hu with rfl | rfl
  · simp [Value.oneCell']
  · rw [e]; simp [Value.oneCell']
theorem SI.left {w wr : World} {db tn : Nat} {nv mv pv tv ev : Value} {ns : List Nd} {ms : List Mr} {ps : List Pe} {mg : List Mg} (h : SI w wr db nv mv pv tv ev ns ms ps tn mg) : DeclIn (set5 wr w.heap.size nv mv pv tv ev) w.heap.size nv mv ns ms ∧ SIn (set5 wr w.heap.size nv mv pv tv ev) w.heap.size pv tv ev ps tn mg ∧ Bk (set5 wr w.heap.size nv mv pv tv ev) w.heap.size 32 #[nv, mv, pv, tv, ev] ∧ Below w.heap.size w (set5 wr w.heap.size nv mv pv tv ev) := by
  have hs := set5_sti wr w.heap.size nv mv pv tv ev
  have hY : ∀ i, i = w.heap.size → ∃ cs, Bk wr i 32 cs := fun i e => by subst e; exact ⟨_, h.r⟩
  exact ⟨h.i.sti hs hY (by decide) (by decide) (by decide), h.x.sti hs hY (by decide) (by decide) (by decide) (by decide) (by decide), set5_bk h.r _ _ _ _ _, set5_below h.b (Nat.le_refl _) _ _ _ _ _⟩
/-- nothing is left -/
theorem none_left {w wr : World} (hr : Bk wr w.heap.size 32 zeroSc) (hb : Below w.heap.size w wr) (er : Int) : NewOut11 w (.returned (.tuple #[.agg #[.slice none 0 0, .slice none 0 0, .slice none 0 0, .slice none 0 0, .slice none 0 0], .int .i64 er])) (set5 wr w.heap.size (.slice none 0 0) (.slice none 0 0) (.slice none 0 0) (.slice none 0 0) (.slice none 0 0)) ∧ Bk (set5 wr w.heap.size (.slice none 0 0) (.slice none 0 0) (.slice none 0 0) (.slice none 0 0) (.slice none 0 0)) w.heap.size 32 #[.slice none 0 0, .slice none 0 0, .slice none 0 0, .slice none 0 0, .slice none 0 0] :=
  ⟨⟨none, none, none, none, none, 0, 0, 0, 0, 0, 0, 0, 0, 0, 0, [], [], [], 0, [], er, rfl, DeclIn.nil _ _, SIn.nil _ _, rfl, by simp, set5_below hb (Nat.le_refl _) _ _ _ _ _⟩, set5_bk hr _ _ _ _ _⟩
set_option maxRecDepth 100000 in
set_option maxHeartbeats 32000000 in
theorem new11_any (s : ByteArray) (w : World) (hs : s.size ≤ maxLen) : Calls Tryz.prog 8 #[.string s] w (NewOut11 w) := by
  go_enter Tryz.func8, Tryz.ntmps8
  go_upto_region 1 with fail
  have kr : Bk (w.alloc (.cells zeroSc 32)) w.heap.size 32 zeroSc := Bk.new w _ _
  have hb0 : Below w.heap.size w (w.alloc (.cells zeroSc 32)) := belowA
  generalize w.alloc (.cells zeroSc 32) = w0 at *
  have hps := Lib.hid (parse10_any s w0 hs)
  clear hs
  go_wp2_with (go_at_call 47; fail)
  refine hps.out.mono ?_
  rintro e w1 ⟨nv, mv, ns, ms, at_, er, rfl, hD, hb1⟩
  obtain ⟨NA, nc, rfl, -, -, -, -⟩ := own_form hD.n
  obtain ⟨MA, mc, rfl, -, -, -, -⟩ := own_form hD.m
  have hnl := hD.nl
  have kr1 := kr.ext hb1
  have hb01 := hb0.trans (hb1.mono hb0.size)
  have hrl := def_lt' kr1
  have hba : Below w1.heap.size w1 (w1.alloc (.cells #[.slice NA ns.length nc, .slice MA ms.length mc] 27)) := belowA
  have kd := Bk.new w1 27 #[.slice NA ns.length nc, .slice MA ms.length mc]
  obtain ⟨db, hdb⟩ : ∃ db, db = w1.heap.size := ⟨_, rfl⟩
  go_upto_region 2 with fail
  rw [← hdb] at hba kd ⊢
  generalize hw2 : w1.alloc (.cells #[.slice NA ns.length nc, .slice MA ms.length mc] 27) = w2 at *
  have hsz2 : w2.heap.size = db + 1 := by rw [← hw2, hdb]; simp
  have kr2 := kr1.ext (hdb ▸ hba)
  have hb02 : Below w.heap.size w w2 := hb01.trans ((hdb ▸ hba : Below w1.heap.size w1 w2).mono (by omega))
  have hD2 := (hD.base_ hb0.size).below (hdb ▸ hba)
  have hlt : w.heap.size < db := by omega
  clear hw2 hps hb0 hb1 kr kr1 hb01 hba hD hdb
  by_cases her : er = 0
  · have e0 : (er != 0) = false := by simp [her]
    have hI3 : SI w (w2.alloc (.cells #[.slice NA ns.length nc, .slice MA ms.length mc, .slice none 0 0, .slice none 0 0, .slice none 0 0] 32)) db (.slice NA ns.length nc) (.slice MA ms.length mc) (.slice none 0 0) (.slice none 0 0) (.slice none 0 0) ns ms [] 0 [] := by
      have hbb : Below w2.heap.size w2 (w2.alloc (.cells #[.slice NA ns.length nc, .slice MA ms.length mc, .slice none 0 0, .slice none 0 0, .slice none 0 0] 32)) := belowA
      exact ⟨kr2.ext hbb, kd.ext hbb, Bk.made _ _ (by omega), hD2.below hbb, SIn.nil _ _, hb02.trans (hbb.mono hb02.size), hlt⟩
    obtain ⟨d0, d1⟩ := bk2 kd
    go_upto_region 5 with fail
    generalize w2.alloc (.cells #[.slice NA ns.length nc, .slice MA ms.length mc, .slice none 0 0, .slice none 0 0, .slice none 0 0] 32) = w3 at *
    have hI3 := Lib.hid hI3
    clear d0 d1 her kr2 hb02 hD2 kd hsz2
    obtain ⟨s0, s1, s2, s3, s4⟩ := bk5 hI3.out.s
    have hnm := Lib.hid (names_any w.heap.size _ _ ns ms none none none 0 0 0 0 0 0 w3 hI3.out.i)
    go_wp2_with (go_at_call 48; fail)
    refine hnm.out.mono ?_
    rintro e w4 ⟨⟨er2, rfl⟩, hb4⟩
    have hI4 := Lib.hid (hI3.out.below hb4)
    clear s0 s1 s2 s3 s4 hnm hI3 hb4
    by_cases her2 : er2 = 0
    · have e2 : (er2 != 0) = false := by simp [her2]
      clear her2
      go_wp2
      go_loopw [8] (fun j wr => ∃ (k bn : Nat) (pv tv ev : Value) (ps : List Pe) (mg : List Mg), k ≤ ns.length ∧ j = .int .i64 k ∧ ps.length = k ∧ bn = k ∧ mg.length ≤ 400 * k ∧ Hid (SI w wr db (.slice NA ns.length nc) (.slice MA ms.length mc) pv tv ev ns ms ps bn mg)) (fun j _ => ns.length - (intOf j).toNat)
      case atStart => exact ⟨0, 0, _, _, _, [], [], by omega, rfl, rfl, rfl, by simp, hI4⟩
      case round =>
        clear hI4
        obtain ⟨k, bn, pv, tv, ev, ps, mg, hk, rfl, hpl, hbn, hml, hI⟩ := hrel
        obtain ⟨PA, pc, rfl, -, -, -, -⟩ := own_form hI.out.x.p
        obtain ⟨bs, hbs⟩ := hI.out.x.t
        obtain ⟨TA, tc, rfl, -, -, -, -⟩ := own_form hbs
        obtain ⟨EA, ec, rfl, -, -, -, -⟩ := own_form hI.out.x.m.row
        have HBS := Lib.hid hbs
        clear hbs
        by_cases hkl : k < ns.length
        · have e3 : (k : Int) < ns.length := by omega
          obtain ⟨p, hp⟩ : ∃ p, ns[k]? = some p := ⟨_, List.getElem?_eq_getElem hkl⟩
          have hpi := hI.out.i.ni p (List.mem_of_getElem? hp)
          obtain ⟨eb, eo, rfl, heb, hcc⟩ := hI.out.i.node hp
          have c8 : wr.cell? ⟨eb, eo + k * 9 + 8, none⟩ = some (.string p.ex) := hcc 8 (by omega)
          have hex := hpi.ex
          obtain ⟨px, hpx⟩ : ∃ px, px = p.ex := ⟨_, rfl⟩
          rw [← hpx] at c8 hex
          have hps := Lib.hid (parse6_any px wr (by omega))
          clear hcc hp hpi hpx
          obtain ⟨d0, d1⟩ := bk2 hI.out.d
          have HPL := Lib.hid hpl
          have HBN := Lib.hid hbn
          have hps1 : ps.length + 1 ≤ 1000 := by omega
          clear hpl hbn
          go_wp2_with (go_at_call 49; fail)
          refine hps.out.mono ?_
          rintro e w5 ⟨xv, xa, xe, rfl, ⟨xn, xl, hpt, hxn, hxw⟩, hb5⟩
          obtain ⟨XA, xc, rfl, -, -, -, -⟩ := own_form hpt.row
          have hI5 := Lib.hid (hI.out.below hb5)
          have hz5 := hI.out.b.size
          have hpt := Lib.hid (hpt.base_ hz5)
          clear d0 d1 c8 hps hI hb5
          obtain ⟨s0, s1, s2, s3, s4⟩ := bk5 hI5.out.s
          have hmn := Lib.hid (means_any w.heap.size _ _ ns ms PA TA EA ps.length pc bn tc mg.length ec w5 w.heap.size xn xc XA xl hI5.out.i hpt.out (by omega))
          go_wp2_with (go_at_call 50; fail)
          refine hmn.out.mono ?_
          rintro e w6 ⟨lv, lm, rfl, hlm, hll, hb6⟩
          obtain ⟨LA, lc, rfl, -, -, -, -⟩ := own_form hlm.row
          have hI6 := Lib.hid (hI5.out.below hb6)
          have hpt6 := Lib.hid (hpt.out.below hb6)
          have hlm6 := Lib.hid (hlm.base_ hI5.out.b.size)
          clear s0 s1 s2 s3 s4 hmn hI5 hpt hlm hb6
          obtain ⟨s0, s1, s2, s3, s4⟩ := bk5 hI6.out.s
          have hnd := Lib.hid (node11s_any w.heap.size _ _ ns ms PA TA EA ps.length pc bn tc mg.length ec w6 w.heap.size xn xc w.heap.size lc XA LA xl lm hI6.out.i hpt6.out (by omega) hlm6.out (by omega))
          go_wp2_with (go_at_call 51; fail)
          refine hnd.out.mono ?_
          rintro e w7 ⟨nb, er7, rfl, hmn7, hb7⟩
          have hI7 := Lib.hid (hI6.out.below hb7)
          have hpt7 := Lib.hid (hpt6.out.below hb7)
          have hlm7 := Lib.hid (hlm6.out.below hb7)
          have hmn7 := Lib.hid hmn7
          clear s0 s1 s2 s3 s4 hnd hI6 hpt6 hlm6 hb7
          by_cases her7 : er7 = 0
          · have e7 : (er7 != 0) = false := by simp [her7]
            have hmn8 := Lib.hid (hmn7.out her7)
            clear her7 hmn7
            have hz7 := hI7.out.b.size
            obtain ⟨s0, s1, s2, s3, s4⟩ := bk5 hI7.out.s
            have sf := hI7.out.s.frozen; have sl := def_lt' hI7.out.s
            go_upto_region 17 with (at_builtin; ((refine app_one Tryz.underlying28 info_lp rfl (by decide) w7 w.heap.size _ ps.length _ hI7.out.x.p (by unfold maxLen; omega) (by omega) (by omega) _ rfl (by simp [Value.oneCell']) rfl _ _ rfl rfl rfl ?_); intro g8 cap8 w8 hown8 hgr8 hat8 hlt8; have hs8 : Sti (fun i => (Value.slice PA ps.length pc).ownBlock = some i) w7 w8 := Sti.of_gr hgr8 (fun i h => h); have ks8 := bk_sti hI7.out.s hs8 (own_row_ty hI7.out.x.p) (by decide); have sf8 := ks8.frozen; have sl8 := def_lt' ks8; obtain ⟨u0, u1, u2, u3, u4⟩ := bk5 ks8))
            have hI9 := Lib.hid (hI7.out.put (j := 2) (u := .slice (some ⟨g8, 0, none⟩) (ps.length + 1) cap8) hgr8 (own_row_ty hI7.out.x.p) (own_ge hI7.out.x.p) (by decide) (by decide) (by decide) (by decide) (by decide) (hI7.out.x.pushP (x := ⟨.slice XA xn xc, xn, xl⟩) hpt7.out ⟨show xn ≤ 1000 by omega, hmn8.out⟩ hgr8 hown8) (ks8.set_ 2 _))
            have hlm9 := (hlm7.out.sti hs8 (own_row_ty hI7.out.x.p) (by decide) (by decide)).sti (Sti.set_ (Y := fun i => i = db + 1) (p := ⟨db + 1, 2, none⟩) (Sti.refl _ w8) (.inl rfl) (.slice (some ⟨g8, 0, none⟩) (ps.length + 1) cap8)) (T := 32) (fun i e => by subst e; exact ⟨_, ks8⟩) (by decide) (by decide)
            generalize w8.setCell ⟨db + 1, 2, none⟩ (.slice (some ⟨g8, 0, none⟩) (ps.length + 1) cap8) = w9 at *
            have hlm9 := Lib.hid hlm9
            clear s0 s1 s2 s3 s4 sf sl u0 u1 u2 u3 u4 sf8 sl8 ks8 hs8 hat8 hgr8 hown8 hI7 hpt7 hlm7 hmn8
            have hz9 := hI9.out.b.size
            obtain ⟨bs, hbs⟩ := hI9.out.x.t
            have HB9 := Lib.hid hbs
            clear hbs
            obtain ⟨s0, s1, s2, s3, s4⟩ := bk5 hI9.out.s
            have sf := hI9.out.s.frozen; have sl := def_lt' hI9.out.s
            have hbk := HBN.out
            have hb1 : bn + 1 ≤ 1000 := by omega
            clear hbk
            go_upto_region 18 with (at_builtin; ((refine app_one Tryz.underlying29 info_b rfl (by decide) w9 w.heap.size _ bn _ HB9.out (by unfold maxLen; omega) (by omega) (by omega) _ rfl (by simp [Value.oneCell']) rfl _ _ rfl rfl rfl ?_); intro g8 cap8 w8 hown8 hgr8 hat8 hlt8; have hs8 : Sti (fun i => (Value.slice TA bn tc).ownBlock = some i) w9 w8 := Sti.of_gr hgr8 (fun i h => h); have ks8 := bk_sti hI9.out.s hs8 (own_row_ty HB9.out) (by decide); have sf8 := ks8.frozen; have sl8 := def_lt' ks8; obtain ⟨u0, u1, u2, u3, u4⟩ := bk5 ks8))
            have hI11 := Lib.hid (hI9.out.put (j := 3) (u := .slice (some ⟨g8, 0, none⟩) (bn + 1) cap8) hgr8 (own_row_ty HB9.out) (own_ge HB9.out) (by decide) (by decide) (by decide) (by decide) (by decide) (hI9.out.x.pushT HB9.out hgr8 hown8) (ks8.set_ 3 _))
            have hlm11 := (hlm9.out.sti hs8 (own_row_ty HB9.out) (by decide) (by decide)).sti (Sti.set_ (Y := fun i => i = db + 1) (p := ⟨db + 1, 3, none⟩) (Sti.refl _ w8) (.inl rfl) (.slice (some ⟨g8, 0, none⟩) (bn + 1) cap8)) (T := 32) (fun i e => by subst e; exact ⟨_, ks8⟩) (by decide) (by decide)
            generalize w8.setCell ⟨db + 1, 3, none⟩ (.slice (some ⟨g8, 0, none⟩) (bn + 1) cap8) = w11 at *
            have hlm11 := Lib.hid hlm11
            clear s0 s1 s2 s3 s4 sf sl u0 u1 u2 u3 u4 sf8 sl8 ks8 hs8 hat8 hgr8 hown8 hI9 hlm9 HB9
            have hz11 := hI11.out.b.size
            obtain ⟨s0, s1, s2, s3, s4⟩ := bk5 hI11.out.s
            have sf := hI11.out.s.frozen; have sl := def_lt' hI11.out.s
            obtain ⟨LA', lc', le, -, -, hLA, hlr⟩ := own_form hlm11.out.row
            injection le with le1 le2 le3
            rw [← le1] at hlr hLA
            have HLR := Lib.hid hlr
            have HLA := Lib.hid (show LA = none → lm.length = 0 from fun h => (hLA h).1)
            have hml2 : mg.length + lm.length ≤ 400 * (k + 1) := by omega
            clear le1 le3 hlr hLA
            go_wp2_with (at_builtin; ((refine app_rd Tryz.underlying30 info_mg rfl (by decide) w11 w.heap.size _ mg.length _ hI11.out.x.m.row _ LA lm.length lc (mgs lm) HLR.out HLA.out (mgs_one_cell hlm11.out) (by unfold maxLen; omega) (by omega) (by omega) rfl _ _ rfl rfl rfl ?_); intro v8 w8 hown8 hgr8 hat8; have hs8 : Sti (fun i => (Value.slice EA mg.length ec).ownBlock = some i) w11 w8 := Sti.of_gr hgr8 (fun i h => h); have ks8 := bk_sti hI11.out.s hs8 (own_row_ty hI11.out.x.m.row) (by decide); have sf8 := ks8.frozen; have sl8 := def_lt' ks8; obtain ⟨u0, u1, u2, u3, u4⟩ := bk5 ks8; obtain ⟨A8, c8, rfl, -, -, -, -⟩ := own_form hown8))
            have hI12 := Lib.hid (hI11.out.put (j := 4) (u := .slice A8 (mg.length + lm.length) c8) hgr8 (own_row_ty hI11.out.x.m.row) (own_ge hI11.out.x.m.row) (by decide) (by decide) (by decide) (by decide) (by decide) (hI11.out.x.pushM hlm11.out hgr8 hown8) (ks8.set_ 4 _))
            go_roundw
            case rel => exact ⟨k + 1, bn + 1, _, _, _, _, _, by omega, by go_num, by simp; exact HPL.out, by have := HBN.out; omega, by simpa using hml2, hI12⟩
            case measure => simp [intOf]; omega
          · have e7 : (er7 != 0) = true := by simp [her7]
            obtain ⟨hL1, hL2⟩ := none_left hI7.out.r hI7.out.b er7
            unfold set5 at hL1 hL2
            have HE := Lib.hid (And.intro hL1 hL2)
            clear hL1 hL2 her7
            obtain ⟨r0, r1, r2, r3, r4⟩ := bk5 (show Bk _ w.heap.size 32 zeroSc from hI7.out.r)
            have rf := hI7.out.r.frozen; have rl := def_lt' hI7.out.r
            go_wp2
            obtain ⟨z0, z1, z2, z3, z4⟩ := bk5 HE.out.2
            exact bodyPost_ret (v := .tuple #[.agg #[.slice none 0 0, .slice none 0 0, .slice none 0 0, .slice none 0 0, .slice none 0 0], .int .i64 er7]) (by simp [results, Tryz.results8, go_sem, z0, z1, z2, z3, z4]) rfl HE.out.1
        · obtain rfl : k = ns.length := by omega
          obtain ⟨hL0, hL1, hL2, hL3⟩ := hI.out.left
          have hfin : NewOut11 w (.returned (.tuple #[.agg #[.slice NA ns.length nc, .slice MA ms.length mc, .slice PA ps.length pc, .slice TA bn tc, .slice EA mg.length ec], .int .i64 0])) _ := ⟨NA, MA, PA, TA, EA, _, nc, _, mc, _, pc, _, tc, _, ec, ns, ms, ps, bn, mg, 0, rfl, hL0, hL1, hpl, by omega, hL3⟩
          obtain ⟨s0, s1, s2, s3, s4⟩ := bk5 hI.out.s
          obtain ⟨d0, d1⟩ := bk2 hI.out.d
          obtain ⟨r0, r1, r2, r3, r4⟩ := bk5 (show Bk _ w.heap.size 32 zeroSc from hI.out.r)
          have rf := hI.out.r.frozen; have rl := def_lt' hI.out.r
          unfold set5 at hfin hL2
          have HE := Lib.hid (And.intro hfin hL2)
          have HPL := Lib.hid hpl
          have HBN := Lib.hid hbn
          clear hL0 hL1 hL2 hL3 hfin hpl hbn
          go_wp2
          obtain ⟨z0, z1, z2, z3, z4⟩ := bk5 HE.out.2
          exact bodyPost_ret (v := .tuple #[.agg #[.slice NA ns.length nc, .slice MA ms.length mc, .slice PA ps.length pc, .slice TA bn tc, .slice EA mg.length ec], .int .i64 0]) (by simp [results, Tryz.results8, go_sem, z0, z1, z2, z3, z4]) rfl HE.out.1
    · have e2 : (er2 != 0) = true := by simp [her2]
      obtain ⟨hL1, hL2⟩ := none_left hI4.out.r hI4.out.b er2
      unfold set5 at hL1 hL2
      have HE := Lib.hid (And.intro hL1 hL2)
      clear hL1 hL2 her2
      obtain ⟨r0, r1, r2, r3, r4⟩ := bk5 (show Bk _ w.heap.size 32 zeroSc from hI4.out.r)
      have rf := hI4.out.r.frozen; have rl := def_lt' hI4.out.r
      go_wp2
      obtain ⟨z0, z1, z2, z3, z4⟩ := bk5 HE.out.2
      exact bodyPost_ret (v := .tuple #[.agg #[.slice none 0 0, .slice none 0 0, .slice none 0 0, .slice none 0 0, .slice none 0 0], .int .i64 er2]) (by simp [results, Tryz.results8, go_sem, z0, z1, z2, z3, z4]) rfl HE.out.1
  · have e0 : (er != 0) = true := by simp [her]
    obtain ⟨hL1, hL2⟩ := none_left kr2 hb02 er
    unfold set5 at hL1 hL2
    have HE := Lib.hid (And.intro hL1 hL2)
    clear hL1 hL2 her
    obtain ⟨r0, r1, r2, r3, r4⟩ := bk5 (show Bk _ w.heap.size 32 zeroSc from kr2)
    have rf := kr2.frozen; have rl := def_lt' kr2
    go_wp2
    obtain ⟨z0, z1, z2, z3, z4⟩ := bk5 HE.out.2
    exact bodyPost_ret (v := .tuple #[.agg #[.slice none 0 0, .slice none 0 0, .slice none 0 0, .slice none 0 0, .slice none 0 0], .int .i64 er]) (by simp [results, Tryz.results8, go_sem, z0, z1, z2, z3, z4]) rfl HE.out.1
set_option maxRecDepth 100000 in
set_option maxHeartbeats 16000000 in
theorem goes_any (B m : Nat) (on bh f e : Value) (em : Bool) (WA : Option Addr) (wn wc : Nat) (wl : List Int) (w : World) (hV : NetV w B m on bh f e) (hm : m ≤ 256) (hw : Rd w w.heap.size 1 WA wn (is wl)) (hwn : wn ≤ 1000000) : Calls Tryz.prog 225 #[.agg #[on, bh, f, e, .bool em], .slice WA wn wc] w (AnyB w) := by
  obtain ⟨Ao, co, rfl⟩ := hV.ron.form
  obtain ⟨Ab, cb, rfl⟩ := hV.rbh.form
  obtain ⟨Af, cf, lf, rfl, hlf, -, -⟩ := hV.f.form
  obtain ⟨Ae, ce, le, rfl, hle, her, -⟩ := hV.e.form
  have hll := hle.len
  obtain ⟨en, hen⟩ : ∃ en, en = le.length := ⟨_, rfl⟩
  rw [← hen] at hll her hV ⊢
  have HER := Lib.hid her.to_is
  clear her hle hen
  generalize lf.length = fn at *
  have HV := Lib.hid hV
  have HW := Lib.hid hw
  clear hV hw hlf
  go_enter Tryz.func225, Tryz.ntmps225
  go_upto_region 1 with fail
  have ks := Bk.new w 205 #[.slice Ao m co, .slice Ab m cb, .slice Af fn cf, .slice Ae en ce, .bool em]
  have hb0 : Below w.heap.size w (w.alloc (.cells #[.slice Ao m co, .slice Ab m cb, .slice Af fn cf, .slice Ae en ce, .bool em] 205)) := belowA
  generalize w.alloc (.cells #[.slice Ao m co, .slice Ab m cb, .slice Af fn cf, .slice Ae en ce, .bool em] 205) = w0 at *
  obtain ⟨s0, s1, s2, s3, s4⟩ := bk5 ks
  have hf0 := Lib.hid ((HV.out.f.below hb0).mono (Nat.le_refl _) (Nat.zero_le _))
  go_wp2
  clear s0 s1 s2 s3 s4
  go_loopw [5, 6, 7] (fun b v j wr => ∃ (k : Nat) (x : Bool), k ≤ wn ∧ j = .int .i64 k ∧ b = .bool x ∧ Hid (NsIn wr 0 m v) ∧ Below w.heap.size w wr ∧ Bk wr w.heap.size 205 #[.slice Ao m co, .slice Ab m cb, .slice Af fn cf, .slice Ae en ce, .bool em]) (fun _ _ j _ => wn - (intOf j).toNat)
  case atStart => exact ⟨0, em, by omega, rfl, rfl, hf0, hb0, ks⟩
  case round =>
    clear hb0 ks hf0
    obtain ⟨k, x, hk, rfl, rfl, hnow, hbo, kso⟩ := hrel
    rename World => wo
    obtain ⟨An, cn, ln, rfl, hrn, hrd, -⟩ := hnow.out.form
    have hnl := hrn.len
    obtain ⟨nn, hnn⟩ : ∃ nn, nn = ln.length := ⟨_, rfl⟩
    rw [← hnn] at hnl hnow hrd ⊢
    have HN := Lib.hid hnn
    have HRN := Lib.hid hrn
    have HRD := Lib.hid hrd
    clear hnn hrn hrd
    by_cases hlt : k < wn
    · have e3 : (k : Int) < wn := by omega
      obtain ⟨wb, wo_, y, rfl, hwb, -, hyc⟩ := HW.out.is_at hlt
      have HY := Lib.hid hyc
      clear hyc
      go_wp2
      go_loopw [5, 8, 9] (fun b v j wr => ∃ (q : Nat) (x : Bool), q ≤ nn ∧ j = .int .i64 q ∧ b = .bool x ∧ Hid (NsIn wr 0 m v) ∧ Below wo.heap.size wo wr) (fun _ _ j _ => nn - (intOf j).toNat)
      case atStart => exact ⟨0, false, by omega, rfl, rfl, Lib.hid (NsIn.nil _ _ _), Below.refl _ _⟩
      case round =>
        obtain ⟨q, x, hq, rfl, rfl, hnx, hbr⟩ := hrel
        rename World => wr
        by_cases hql : q < nn
        · have e4 : (q : Int) < nn := by omega
          obtain ⟨nb, no, z, rfl, hnb, hz, hzc⟩ := HRD.out.nt_at hql
          have hzm := HRN.out.2 z (List.mem_of_getElem? hz)
          have hbw : Below w.heap.size w wr := hbo.trans (hbr.mono hbo.size)
          have hVr := HV.out.below hbw
          obtain ⟨og, u, rfl, -, hog, huc, hui, -⟩ := hVr.ron.at_ hzm
          obtain ⟨bg, u2, rfl, -, hbg, hu2c, hu2i, -⟩ := hVr.rbh.at_ hzm
          obtain ⟨Au, cu, lu, rfl, hlu, hur, -⟩ := hui.form
          have hlul := hlu.len
          obtain ⟨un, hun⟩ : ∃ un, un = lu.length := ⟨_, rfl⟩
          rw [← hun] at hlul hur huc hui
          obtain ⟨A2, c2, l2, rfl, -, -, -⟩ := hu2i.form
          generalize l2.length = n2 at *
          have ksr := kso.ext hbr
          have e5 : (z : Int) < m := by omega
          have hnbr : nb < wr.heap.size := Nat.lt_of_lt_of_le hnb hbr.size
          have hF : ∀ W, Below wr.heap.size wr W → W.cell? ⟨w.heap.size, 0, none⟩ = some (.slice (some ⟨og, 0, none⟩) m co) ∧ W.cell? ⟨w.heap.size, 1, none⟩ = some (.slice (some ⟨bg, 0, none⟩) m cb) ∧ W.cell? ⟨w.heap.size, 2, none⟩ = some (.slice Af fn cf) ∧ W.cell? ⟨w.heap.size, 3, none⟩ = some (.slice Ae en ce) ∧ W.cell? ⟨w.heap.size, 4, none⟩ = some (.bool em) ∧ W.cell? ⟨nb, no + q, none⟩ = some (.int .i64 (z : Int)) ∧ W.cell? ⟨wb, wo_ + k, none⟩ = some (.int .i64 y) ∧ W.cell? ⟨og, z, none⟩ = some (.slice Au un cu) ∧ W.cell? ⟨bg, z, none⟩ = some (.slice A2 n2 c2) := fun W h => by
            have kW := ksr.ext h
            exact ⟨kW.cell 0, kW.cell 1, kW.cell 2, kW.cell 3, kW.cell 4, (h.cell (by simpa using hnbr)).trans ((hbr.cell (by simpa using hnb)).trans hzc), ((hbw.trans (h.mono hbw.size)).cell (by simpa using hwb)).trans HY.out, (h.cell (by simpa using hog)).trans huc, (h.cell (by simpa using hbg)).trans hu2c⟩
          have HF := Lib.hid hF
          have HU := Lib.hid hur.to_is
          have HU2 := Lib.hid hu2i
          have HHU := Lib.hid (fun W (hb : Below wr.heap.size wr W) => has3_any Au un cu _ y W ((HU.out.below hb).more hb.size) (by unfold maxLen; omega))
          have HHE := Lib.hid (fun W (hb : Below wr.heap.size wr W) => has3_any Ae en ce _ z W ((HER.out.below (hbw.trans (hb.mono hbw.size))).more (Nat.le_trans hbw.size hb.size)) (by unfold maxLen; omega))
          have HKS := Lib.hid ksr
          clear hF hzc hz huc hu2c hui hu2i hur hVr hlu hun ksr
          go_upto_region 11 with fail
          refine wp_normal ?_
          refine wp_region_held_drew (S := fun W => Below wr.heap.size wr W) (by kernel_rfl) (Below.refl _ _).drew (fun hHeld => ?_)
          (refine tkH 0 ?_; refine tkH 1 ?_; refine tkH 2 ?_; refine tkH 3 ?_; refine tkH 4 ?_; refine tkH 5 ?_; refine tkH 6 ?_; refine tkH 7 ?_; refine tkH 8 ?_; refine tkH 9 ?_; refine tkH 10 ?_; refine tkH 11 ?_)
          refine nxH 12 (fun K hK => ?_)
          go_simp
          go_at_call 124
          refine (HHU.out _ hHeld).mono ?_
          rintro e w5 ⟨rfl, hb5⟩
          generalize decide (y ∈ lu.map fun (i : Nat) => (i : Int)) = d
          have hb05 := hHeld.trans (hb5.mono hHeld.size)
          refine hK.out _ _ hb05 (fun hHeld => ?_)
          clear hK K; refine puH ?_
          refine wpAnyH_done (by kernel_rfl) ?_ _
          cases d with
          | false =>
            go_wp2
            go_roundw
            case rel => exact ⟨q + 1, x, by omega, by go_num, rfl, Lib.hid (hnx.out.below hHeld), hbr.trans (hHeld.mono hbr.size)⟩
            case measure => simp [intOf]; omega
          | true =>
            rename World => w5
            have hnx5 := Lib.hid (hnx.out.below hHeld)
            obtain ⟨Av, cv, lv, rfl, -, -, -⟩ := hnx5.out.form
            generalize lv.length = vn at *
            cases x with
            | true =>
              go_upto_region 12 with fail
              refine wp_normal ?_
              refine wp_region_held_drew (S := fun W => Below wr.heap.size wr W) (by kernel_rfl) hHeld.drew (fun hHeld => ?_)
              (refine tkH 0 ?_; refine tkH 1 ?_; refine tnH 2 ?_; refine tnH 3 ?_; refine tnH 4 ?_; refine tnH 5 ?_; refine tnH 6 ?_; refine tnH 7 ?_; refine tnH 8 ?_; refine tkH 9 ?_; refine tkH 10 ?_)
              refine wpAnyH_done (by kernel_rfl) ?_ _
              go_upto_region 13 with fail
              refine wp_normal ?_
              refine wp_region_held_drew (S := fun W => Below wr.heap.size wr W) (by kernel_rfl) hHeld.drew (fun hHeld => ?_)
              (refine tkH 0 ?_; refine tkH 1 ?_; refine tkH 2 ?_; refine tkH 3 ?_; refine tkH 4 ?_; refine tkH 5 ?_; refine tkH 6 ?_; refine tkH 7 ?_; refine tkH 8 ?_)
              refine nxH 9 (fun K hK => ?_)
              go_simp
              go_at_call 196
              refine (or_any _ _ 0 B m _ (by omega) (hnx.out.below hHeld) (HU2.out.below hHeld)).mono ?_
              rintro e w9 ⟨v9, rfl, hv9, hb9⟩
              obtain ⟨A9, c9, l9, rfl, -, -, -⟩ := hv9.form
              generalize l9.length = n9 at *
              have hv9' := hv9.mono (Nat.le_refl m) (Nat.zero_le _)
              refine hK.out _ _ (hHeld.trans (hb9.mono hHeld.size)) (fun hHeld => ?_)
              clear hK K; refine puH ?_
              (refine tkH 10 ?_)
              refine wpAnyH_done (by kernel_rfl) ?_ _
              go_wp2
              go_roundw
              case rel => exact ⟨q + 1, true, by omega, by go_num, rfl, Lib.hid hv9', hbr.trans (hHeld.mono hbr.size)⟩
              case measure => simp [intOf]; omega
            | false =>
              go_upto_region 12 with fail
              refine wp_normal ?_
              refine wp_region_held_drew (S := fun W => Below wr.heap.size wr W) (by kernel_rfl) hHeld.drew (fun hHeld => ?_)
              (refine tkH 0 ?_; refine tkH 1 ?_; refine tkH 2 ?_; refine tkH 3 ?_; refine tkH 4 ?_; refine tkH 5 ?_; refine tkH 6 ?_; refine tkH 7 ?_)
              refine nxH 8 (fun K hK => ?_)
              go_simp
              go_at_call 124
              refine (HHE.out _ hHeld).mono ?_
              rintro e w7 ⟨rfl, hb7⟩
              generalize decide ((z : Int) ∈ le.map fun (i : Nat) => (i : Int)) = d
              refine hK.out _ _ (hHeld.trans (hb7.mono hHeld.size)) (fun hHeld => ?_)
              clear hK K; refine puH ?_
              (refine tkH 9 ?_; refine tkH 10 ?_)
              refine wpAnyH_done (by kernel_rfl) ?_ _
              go_upto_region 13 with fail
              refine wp_normal ?_
              refine wp_region_held_drew (S := fun W => Below wr.heap.size wr W) (by kernel_rfl) hHeld.drew (fun hHeld => ?_)
              (refine tkH 0 ?_; refine tkH 1 ?_; refine tkH 2 ?_; refine tkH 3 ?_; refine tkH 4 ?_; refine tkH 5 ?_; refine tkH 6 ?_; refine tkH 7 ?_; refine tkH 8 ?_)
              refine nxH 9 (fun K hK => ?_)
              go_simp
              go_at_call 196
              refine (or_any _ _ 0 B m _ (by omega) (hnx.out.below hHeld) (HU2.out.below hHeld)).mono ?_
              rintro e w9 ⟨v9, rfl, hv9, hb9⟩
              obtain ⟨A9, c9, l9, rfl, -, -, -⟩ := hv9.form
              generalize l9.length = n9 at *
              have hv9' := hv9.mono (Nat.le_refl m) (Nat.zero_le _)
              refine hK.out _ _ (hHeld.trans (hb9.mono hHeld.size)) (fun hHeld => ?_)
              clear hK K; refine puH ?_
              (refine tkH 10 ?_)
              refine wpAnyH_done (by kernel_rfl) ?_ _
              go_wp2
              go_roundw
              case rel => exact ⟨q + 1, d, by omega, by go_num, rfl, Lib.hid hv9', hbr.trans (hHeld.mono hbr.size)⟩
              case measure => simp [intOf]; omega
        · obtain rfl : q = nn := by omega
          go_wp2
          go_roundw
          case rel => exact ⟨k + 1, x, by omega, by go_num, rfl, hnx, hbo.trans (hbr.mono hbo.size), kso.ext hbr⟩
          case measure => simp [intOf]; omega
    · obtain rfl : k = wn := by omega
      go_wp2
      go_ret
      exact ⟨⟨_, rfl⟩, hbo⟩
/-- a schema, as it lies -/
structure Sc (w : World) (base : Nat) (nv mv pv tv ev : Value) (ns : List Nd) (ms : List Mr) (ps : List Pe) (bn : Nat) (mg : List Mg) : Prop where
  d : DeclIn w base nv mv ns ms
  x : SIn w base pv tv ev ps bn mg
  l : ps.length = ns.length
  m : mg.length ≤ 10000
theorem Sc.below {w w' : World} {base bn : Nat} {nv mv pv tv ev : Value} {ns : List Nd} {ms : List Mr} {ps : List Pe} {mg : List Mg} (h : Sc w base nv mv pv tv ev ns ms ps bn mg) (hb : Below w.heap.size w w') : Sc w' base nv mv pv tv ev ns ms ps bn mg := ⟨h.d.below hb, h.x.below hb, h.l, h.m⟩
theorem Rws.base_ {w : World} {B B' m K : Nat} {v : Value} (h : Rws w B m v K) (hb : B' ≤ B) : Rws w B' m v K := by
  obtain ⟨vs, h1, h2⟩ := h
  exact ⟨vs, own_base h1 hb, fun u hu => (h2 u hu).mono (Nat.le_refl _) hb⟩
theorem NetV.base_ {w : World} {B B' m : Nat} {on bh f e : Value} (h : NetV w B m on bh f e) (hb : B' ≤ B) : NetV w B' m on bh f e := ⟨h.ron.base_ hb, h.rbh.base_ hb, h.f.mono (Nat.le_refl _) hb, h.e.mono (Nat.le_refl _) hb⟩
section
variable (base : Nat) (nv mv pv tv ev : Value) (ns : List Nd) (ms : List Mr) (ps : List Pe) (bn : Nat) (mg : List Mg) (w : World)
set_option maxRecDepth 100000 in
set_option maxHeartbeats 8000000 in
theorem net11_any (t : Nat) (ht : t < ns.length) (h : Sc w base nv mv pv tv ev ns ms ps bn mg) : Calls Tryz.prog 224 #[.agg #[nv, mv, pv, tv, ev], .int .i64 ((t : Int) + 1)] w (NetOut w) := by
  obtain ⟨NA, nc, rfl, -, -, -, -⟩ := own_form h.d.n
  obtain ⟨MA, mc, rfl, -, -, -, -⟩ := own_form h.d.m
  obtain ⟨PA, pc, rfl, -, -, -, hpr⟩ := own_form h.x.p
  obtain ⟨bs, hbs⟩ := h.x.t
  obtain ⟨TA, tc, rfl, -, -, -, -⟩ := own_form hbs
  obtain ⟨EA, ec, rfl, -, -, -, -⟩ := own_form h.x.m.row
  obtain ⟨x, hx⟩ : ∃ x, ps[t]? = some x := ⟨_, List.getElem?_eq_getElem (by rw [h.l]; exact ht)⟩
  have hxp := h.x.pi x (List.mem_of_getElem? hx)
  have hxn := h.x.pn x (List.mem_of_getElem? hx)
  obtain ⟨xv, xn, xl⟩ := x
  dsimp only at hxp hxn
  obtain ⟨XA, xc, rfl, -, -, -, -⟩ := own_form hxp.row
  have hnl := h.d.nl
  have hpl : ps.length ≤ 24 := by rw [h.l]; exact hnl
  have htp : t < ps.length := by rw [h.l]; exact ht
  obtain ⟨b, o, u, rfl, hb, hu, hc⟩ := hpr.at1 htp
  rw [List.getElem?_map, hx] at hu
  injection hu with hu
  subst hu
  have hof := fun W (hb : Below w.heap.size w W) => of7_any base xn xc base ec XA EA xl mg W (hxp.below hb) hxn.1 (h.x.m.below hb) (by have := h.m; omega) hxn.2
  have HOF := Lib.hid hof
  have HC := Lib.hid hc
  have e3 : (t : Int) < ps.length := by omega
  have t0 : (0 : Int) ≤ t := by omega
  have t1 : (t : Int) ≤ 24 := by omega
  have hwr : IntKind.i64.wrap (t : Int) = (t : Int) := by rw [IntKind.wrap_i64]; omega
  clear hof h hbs hpr hx hxp hxn hc
  go_enter Tryz.func224, Tryz.ntmps224
  go_upto_region 1 with fail
  have kb : Bk ((w.alloc (.cells #[.slice NA ns.length nc, .slice MA ms.length mc, .slice (some ⟨b, o, none⟩) ps.length pc, .slice TA bn tc, .slice EA mg.length ec] 32)).alloc (.cells zeroT 205)) w.heap.size 32 #[.slice NA ns.length nc, .slice MA ms.length mc, .slice (some ⟨b, o, none⟩) ps.length pc, .slice TA bn tc, .slice EA mg.length ec] := (Bk.new w _ _).alloc _
  have kr : Bk ((w.alloc (.cells #[.slice NA ns.length nc, .slice MA ms.length mc, .slice (some ⟨b, o, none⟩) ps.length pc, .slice TA bn tc, .slice EA mg.length ec] 32)).alloc (.cells zeroT 205)) (w.heap.size + 1) 205 zeroT := Bk.made _ _ (by simp)
  have hb0 : Below w.heap.size w ((w.alloc (.cells #[.slice NA ns.length nc, .slice MA ms.length mc, .slice (some ⟨b, o, none⟩) ps.length pc, .slice TA bn tc, .slice EA mg.length ec] 32)).alloc (.cells zeroT 205)) := belowA
  generalize (w.alloc (.cells #[.slice NA ns.length nc, .slice MA ms.length mc, .slice (some ⟨b, o, none⟩) ps.length pc, .slice TA bn tc, .slice EA mg.length ec] 32)).alloc (.cells zeroT 205) = w0 at *
  have hF : ∀ W, (Below w.heap.size w W ∧ Bk W w.heap.size 32 #[.slice NA ns.length nc, .slice MA ms.length mc, .slice (some ⟨b, o, none⟩) ps.length pc, .slice TA bn tc, .slice EA mg.length ec] ∧ Bk W (w.heap.size + 1) 205 zeroT) → W.cell? ⟨w.heap.size, 1, none⟩ = some (.slice MA ms.length mc) ∧ W.cell? ⟨w.heap.size, 2, none⟩ = some (.slice (some ⟨b, o, none⟩) ps.length pc) ∧ W.cell? ⟨w.heap.size, 4, none⟩ = some (.slice EA mg.length ec) ∧ W.cell? ⟨b, o + t, none⟩ = some (.slice XA xn xc) := fun W h => ⟨h.2.1.cell 1, h.2.1.cell 2, h.2.1.cell 4, (h.1.cell (p := ⟨b, o + t, none⟩) hb).trans HC.out⟩
  have HF := Lib.hid hF
  clear hF
  refine wp_normal ?_
  refine region_L (S := fun W => Below w.heap.size w W ∧ Bk W w.heap.size 32 #[.slice NA ns.length nc, .slice MA ms.length mc, .slice (some ⟨b, o, none⟩) ps.length pc, .slice TA bn tc, .slice EA mg.length ec] ∧ Bk W (w.heap.size + 1) 205 zeroT) [9] (by kernel_rfl) ⟨hb0.drew, kb.drew, kr.drew⟩ (fun hHeld => ?_)
  (refine tkL 0 ?_; refine tkL 1 ?_; refine tkL 2 ?_; refine tkL 3 ?_; refine tkL 4 ?_; refine tkL 5 ?_; refine tkL 6 ?_; refine tkL 7 ?_)
  refine nxL 8 (fun K hK => ?_)
  go_simp
  go_at_call 106
  refine (HOF.out _ hHeld.1).mono ?_
  rintro e w5 ⟨m, on, bh, f, e, em, rfl, hm, hV, hb5'⟩
  have hb5 : Below w0.heap.size w0 w5 := Below.trans (Below.refl _ _).drew hb5'
  have hV := hV
  have hz0 := hb0.size
  have kr5 := kr.ext hb5
  obtain ⟨Ao, co, rfl⟩ := hV.ron.form
  obtain ⟨Ab, cb, rfl⟩ := hV.rbh.form
  obtain ⟨Af, cf, lf, rfl, -, -, -⟩ := hV.f.form
  obtain ⟨Ae, ce, le, rfl, -, -, -⟩ := hV.e.form
  generalize lf.length = fn at *
  generalize le.length = en at *
  have hs5 := set5_sti w5 (w.heap.size + 1) (.slice Ao m co) (.slice Ab m cb) (.slice Af fn cf) (.slice Ae en ce) (.bool em)
  have hV5 := (hV.sti kr5 hs5).base_ (show w.heap.size ≤ _ from hz0)
  have hL2 := set5_bk (show Bk _ (w.heap.size + 1) 205 zeroT from kr5) (.slice Ao m co) (.slice Ab m cb) (.slice Af fn cf) (.slice Ae en ce) (.bool em)
  have hL1 := set5_below (b := w.heap.size + 1) (hb0.trans (hb5.mono hz0)) (by omega) (.slice Ao m co) (.slice Ab m cb) (.slice Af fn cf) (.slice Ae en ce) (.bool em)
  unfold set5 at hV5 hL2 hL1
  have HE := Lib.hid (And.intro hL2 (show NetOut w (.returned (.agg #[.slice Ao m co, .slice Ab m cb, .slice Af fn cf, .slice Ae en ce, .bool em])) _ from ⟨m, _, _, _, _, _, rfl, hm, hV5, hL1⟩))
  have hHeld5 := And.intro (hb0.trans (hb5.mono hz0)) (And.intro (kb.ext hb5) kr5)
  obtain ⟨r0, r1, r2, r3, r4⟩ := bk5 (show Bk _ (w.heap.size + 1) 205 zeroT from kr5)
  have rf := kr5.frozen; have rl := def_lt' kr5
  clear hs5 hV5 hL2 hL1 hV hb5' hwr
  refine hK.out _ _ hHeld5 (fun hHeld => ?_)
  clear hK K; refine puL ?_
  refine ltL 9 (fun K hK => ?_)
  go_simp
  refine hK.out _ _ ?_
  refine anyL_done (by kernel_rfl) ?_
  obtain ⟨z0, z1, z2, z3, z4⟩ := bk5 HE.out.1
  go_wp2
  exact bodyPost_ret (v := .agg #[.slice Ao m co, .slice Ab m cb, .slice Af fn cf, .slice Ae en ce, .bool em]) (by simp [results, Tryz.results224, go_sem, z0, z1, z2, z3, z4]) rfl HE.out.2
end
theorem Sc.form {w : World} {base bn : Nat} {nv mv pv tv ev : Value} {ns : List Nd} {ms : List Mr} {ps : List Pe} {mg : List Mg} (h : Sc w base nv mv pv tv ev ns ms ps bn mg) : ∃ (NA MA PA TA EA : Option Addr) (nc mc pc tc ec : Nat), nv = .slice NA ns.length nc ∧ mv = .slice MA ms.length mc ∧ pv = .slice PA ps.length pc ∧ tv = .slice TA bn tc ∧ ev = .slice EA mg.length ec := by
  obtain ⟨NA, nc, rfl, -, -, -, -⟩ := own_form h.d.n
  obtain ⟨MA, mc, rfl, -, -, -, -⟩ := own_form h.d.m
  obtain ⟨PA, pc, rfl, -, -, -, -⟩ := own_form h.x.p
  obtain ⟨bs, hbs⟩ := h.x.t
  obtain ⟨TA, tc, rfl, -, -, -, -⟩ := own_form hbs
  obtain ⟨EA, ec, rfl, -, -, -, -⟩ := own_form h.x.m.row
  exact ⟨NA, MA, PA, TA, EA, nc, mc, pc, tc, ec, rfl, rfl, rfl, rfl, rfl⟩
section
variable (base : Nat) (nv mv pv tv ev : Value) (ns : List Nd) (ms : List Mr) (ps : List Pe) (bn : Nat) (mg : List Mg) (w : World)
set_option maxRecDepth 100000 in
set_option maxHeartbeats 8000000 in
theorem fits11_any (t : Int) (KA : Option Addr) (kn kc : Nat) (kl : List Int) (h : Sc w base nv mv pv tv ev ns ms ps bn mg) (hk : Rd w w.heap.size 1 KA kn (is kl)) (hkn : kn ≤ 1000000) : Calls Tryz.prog 201 #[.agg #[nv, mv, pv, tv, ev], .int .i64 t, .slice KA kn kc] w (AnyB w) := by
  obtain ⟨NA, MA, PA, TA, EA, nc, mc, pc, tc, ec, rfl, rfl, rfl, rfl, rfl⟩ := h.form
  have hth := fun W (hb : Below w.heap.size w W) => there_any base _ _ ns ms PA TA EA ps.length pc bn tc mg.length ec W t (h.d.below hb)
  have hnd := fun (k : Nat) (p : Nd) (hp : ns[k]? = some p) W (hb : Below w.heap.size w W) => node11_any base _ _ ns ms PA TA EA ps.length pc bn tc mg.length ec W k p hp (h.d.below hb)
  have hfm := fun p (hp : p ∈ ns) => h.d.ni p hp
  have hnt := fun (k : Nat) (hk : k < ns.length) W (hb : Below w.heap.size w W) => net11_any base _ _ _ _ _ ns ms ps bn mg W k hk (h.below hb)
  have HTH := Lib.hid hth
  have HND := Lib.hid hnd
  have HFM := Lib.hid hfm
  have HNT := Lib.hid hnt
  have HK := Lib.hid hk
  clear hth hnd hfm hnt h hk
  by_cases h0 : t = 0
  · subst h0
    go_enter Tryz.func201, Tryz.ntmps201
    go_wp2
    go_ret
    exact ⟨⟨_, rfl⟩, belowA⟩
  have e0 : (t == 0) = false := beq_false_of_ne h0
  by_cases hin : 1 ≤ t ∧ t ≤ ns.length
  · obtain ⟨k, rfl⟩ : ∃ k : Nat, t = (k : Int) + 1 := ⟨(t - 1).toNat, by omega⟩
    obtain ⟨p, hp⟩ : ∃ p, ns[k]? = some p := ⟨_, List.getElem?_eq_getElem (by omega)⟩
    have hkl : k < ns.length := by omega
    have HP := Lib.hid hp
    have hpi := HFM.out p (List.mem_of_getElem? hp)
    obtain ⟨nm, gv, gs, il, pk, lf, at_, all, mk, ml, ex⟩ := p
    obtain ⟨Ag, cg, eg, -, -, -, -⟩ := own_form hpi.g
    obtain ⟨Ak, ck, ek, -, -, -, -⟩ := own_form hpi.m
    dsimp only at eg ek
    subst eg
    subst ek
    clear hpi
    have HT := Lib.hid (show decide (1 ≤ (k : Int) + 1 ∧ (k : Int) + 1 ≤ ns.length) = true from decide_eq_true hin)
    clear hp h0
    go_enter Tryz.func201, Tryz.ntmps201
    go_upto_region 1 with fail
    have ks : Bk (w.alloc (.cells #[.slice NA ns.length nc, .slice MA ms.length mc, .slice PA ps.length pc, .slice TA bn tc, .slice EA mg.length ec] 32)) w.heap.size 32 #[.slice NA ns.length nc, .slice MA ms.length mc, .slice PA ps.length pc, .slice TA bn tc, .slice EA mg.length ec] := Bk.new w _ _
    have hb0 : Below w.heap.size w (w.alloc (.cells #[.slice NA ns.length nc, .slice MA ms.length mc, .slice PA ps.length pc, .slice TA bn tc, .slice EA mg.length ec] 32)) := belowA
    generalize w.alloc (.cells #[.slice NA ns.length nc, .slice MA ms.length mc, .slice PA ps.length pc, .slice TA bn tc, .slice EA mg.length ec] 32) = w0 at *
    obtain ⟨s0, s1, s2, s3, s4⟩ := bk5 ks
    go_wp2_with (go_at_call 152; fail)
    refine (HTH.out w0 hb0).mono ?_
    rw [HT.out]
    rintro e w1 ⟨rfl, hb1⟩
    have hb01 := hb0.trans (hb1.mono hb0.size)
    have ks1 := ks.ext hb1
    clear s0 s1 s2 s3 s4
    obtain ⟨s0, s1, s2, s3, s4⟩ := bk5 ks1
    go_wp2_with (go_at_call 153; fail)
    refine (HND.out k _ HP.out w1 hb01).mono ?_
    rintro e w2 ⟨rfl, hb2⟩
    dsimp only [Nd.arr]
    have hb02 := hb01.trans (hb2.mono hb01.size)
    have ks2 := ks1.ext hb2
    clear s0 s1 s2 s3 s4
    obtain ⟨s0, s1, s2, s3, s4⟩ := bk5 ks2
    cases lf with
    | true =>
      go_wp2
      go_ret
      exact ⟨⟨_, rfl⟩, hb02⟩
    | false =>
      go_wp2_with (go_at_call 152; fail)
      refine (HTH.out w2 hb02).mono ?_
      rw [HT.out]
      rintro e w3 ⟨rfl, hb3⟩
      have hb03 := hb02.trans (hb3.mono hb02.size)
      have ks3 := ks2.ext hb3
      clear s0 s1 s2 s3 s4
      obtain ⟨s0, s1, s2, s3, s4⟩ := bk5 ks3
      go_wp2_with (go_at_call 224; fail)
      refine (HNT.out k hkl w3 hb03).mono ?_
      rintro e w4 ⟨m, on, bh, f, e, em, rfl, hm, hV, hb4⟩
      have hb04 := hb03.trans (hb4.mono hb03.size)
      have hgo := Lib.hid (goes_any w3.heap.size m on bh f e em KA kn kc kl w4 hV hm ((HK.out.below hb04).more hb04.size) hkn)
      clear hV s0 s1 s2 s3 s4
      go_wp2_with (go_at_call 225; fail)
      refine hgo.out.mono ?_
      rintro e w5 ⟨⟨b, rfl⟩, hb5⟩
      go_wp2
      go_ret
      exact ⟨⟨_, rfl⟩, hb04.trans (hb5.mono hb04.size)⟩
  · have HT := Lib.hid (show decide (1 ≤ t ∧ t ≤ ns.length) = false from decide_eq_false hin)
    clear hin h0
    go_enter Tryz.func201, Tryz.ntmps201
    go_upto_region 1 with fail
    have ks : Bk (w.alloc (.cells #[.slice NA ns.length nc, .slice MA ms.length mc, .slice PA ps.length pc, .slice TA bn tc, .slice EA mg.length ec] 32)) w.heap.size 32 #[.slice NA ns.length nc, .slice MA ms.length mc, .slice PA ps.length pc, .slice TA bn tc, .slice EA mg.length ec] := Bk.new w _ _
    have hb0 : Below w.heap.size w (w.alloc (.cells #[.slice NA ns.length nc, .slice MA ms.length mc, .slice PA ps.length pc, .slice TA bn tc, .slice EA mg.length ec] 32)) := belowA
    generalize w.alloc (.cells #[.slice NA ns.length nc, .slice MA ms.length mc, .slice PA ps.length pc, .slice TA bn tc, .slice EA mg.length ec] 32) = w0 at *
    obtain ⟨s0, s1, s2, s3, s4⟩ := bk5 ks
    go_wp2_with (go_at_call 152; fail)
    refine (HTH.out w0 hb0).mono ?_
    rw [HT.out]
    rintro e w1 ⟨rfl, hb1⟩
    have hb01 := hb0.trans (hb1.mono hb0.size)
    have ks1 := ks.ext hb1
    clear s0 s1 s2 s3 s4
    obtain ⟨s0, s1, s2, s3, s4⟩ := bk5 ks1
    go_wp2_with (go_at_call 152; fail)
    refine (HTH.out w1 hb01).mono ?_
    rw [HT.out]
    rintro e w2 ⟨rfl, hb2⟩
    go_wp2
    go_ret
    exact ⟨⟨_, rfl⟩, hb01.trans (hb2.mono hb01.size)⟩
end
section
variable (base : Nat) (nv mv pv tv ev : Value) (ns : List Nd) (ms : List Mr) (ps : List Pe) (bn : Nat) (mg : List Mg) (w : World)
set_option maxRecDepth 100000 in
set_option maxHeartbeats 16000000 in
theorem node17_any (t : Int) (A : Option Addr) (n c : Nat) (l : List Tok) (h : Sc w base nv mv pv tv ev ns ms ps bn mg) (hr : Rd w w.heap.size 12 A n (toks l)) (hn : n ≤ 100000) (hw : Wh l) : Calls Tryz.prog 163 #[.agg #[nv, mv, pv, tv, ev], .int .i64 t, .slice A n c] w (AnyI w) := by
  obtain ⟨NA, MA, PA, TA, EA, nc, mc, pc, tc, ec, rfl, rfl, rfl, rfl, rfl⟩ := h.form
  have hlt := hr.tlen
  have hfi := fun (KA : Option Addr) (kn kc : Nat) (kl : List Int) W (hb : Below w.heap.size w W) (hk : Rd W W.heap.size 1 KA kn (is kl)) (hkn : kn ≤ 1000000) => fits11_any base _ _ _ _ _ ns ms ps bn mg W t KA kn kc kl (h.below hb) hk hkn
  have hwi := fun a0 a1 a2 a3 a4 a5 a6 a7 W (hb : Below w.heap.size w W) => within12_any base _ _ ns ms PA TA EA ps.length pc bn tc mg.length ec W t a0 a1 a2 a3 a4 a5 a6 a7 (h.d.below hb)
  have hk7 := fun W (hb : Below w.heap.size w W) => kids17_any A n c l W ((hr.below hb).more hb.size) hn hw
  have hk4 := fun W (hb : Below w.heap.size w W) => kids14_any A n c l W ((hr.below hb).more hb.size) hn hw
  have HFI := Lib.hid hfi
  have HWI := Lib.hid hwi
  have HK7 := Lib.hid hk7
  have HK4 := Lib.hid hk4
  have H := Lib.hid hr
  have HL := Lib.hid hlt
  clear hfi hwi hk7 hk4 hr h hw hlt
  go_enter Tryz.func163, Tryz.ntmps163
  go_upto_region 1 with fail
  have ks := Bk.new w 32 #[.slice NA ns.length nc, .slice MA ms.length mc, .slice PA ps.length pc, .slice TA bn tc, .slice EA mg.length ec]
  have hb0 : Below w.heap.size w (w.alloc (.cells #[.slice NA ns.length nc, .slice MA ms.length mc, .slice PA ps.length pc, .slice TA bn tc, .slice EA mg.length ec] 32)) := belowA
  generalize w.alloc (.cells #[.slice NA ns.length nc, .slice MA ms.length mc, .slice PA ps.length pc, .slice TA bn tc, .slice EA mg.length ec] 32) = w0 at *
  have hF : ∀ W, (Below w.heap.size w W ∧ Bk W w.heap.size 32 #[.slice NA ns.length nc, .slice MA ms.length mc, .slice PA ps.length pc, .slice TA bn tc, .slice EA mg.length ec]) → W.cell? ⟨w.heap.size, 0, none⟩ = some (.slice NA ns.length nc) ∧ W.cell? ⟨w.heap.size, 1, none⟩ = some (.slice MA ms.length mc) ∧ W.cell? ⟨w.heap.size, 2, none⟩ = some (.slice PA ps.length pc) ∧ W.cell? ⟨w.heap.size, 3, none⟩ = some (.slice TA bn tc) ∧ W.cell? ⟨w.heap.size, 4, none⟩ = some (.slice EA mg.length ec) := fun W h => bk5 h.2
  have HF := Lib.hid hF
  clear hF
  refine wp_normal ?_
  refine wp_region_held_drew (S := fun W => Below w.heap.size w W ∧ Bk W w.heap.size 32 #[.slice NA ns.length nc, .slice MA ms.length mc, .slice PA ps.length pc, .slice TA bn tc, .slice EA mg.length ec]) (by kernel_rfl) ⟨hb0.drew, ks.drew⟩ (fun hHeld => ?_)
  (refine tkH 0 ?_; refine tkH 1 ?_; refine tkH 2 ?_)
  refine nxH 3 (fun K hK => ?_)
  go_simp
  go_at_call 202
  refine (HK7.out _ hHeld.1).mono ?_
  rintro e w5 ⟨KA, kc, kl, rfl, hko, hkl, hb5⟩
  obtain ⟨KA', kc', le, -, -, -, hkr⟩ := own_form hko
  injection le with le1 le2 le3
  rw [← le1] at hkr
  have hkl2 : kl.length ≤ 100000 := by rw [HL.out] at hkl; omega
  have HKR := Lib.hid hkr
  clear hko le1 le2 le3 hkr hkl
  have hb05 := hHeld.1.trans (hb5.mono hHeld.1.size)
  refine hK.out _ _ ⟨hb05, hHeld.2.ext hb5⟩ (fun hHeld => ?_)
  clear hK K; refine puH ?_
  refine nxH 4 (fun K hK => ?_)
  go_simp
  go_at_call 201
  refine (HFI.out KA kl.length kc kl _ hHeld.1 HKR.out (by omega)).mono ?_
  rintro e w6 ⟨⟨b6, rfl⟩, hb6⟩
  refine hK.out _ _ ⟨hHeld.1.trans (hb6.mono hHeld.1.size), hHeld.2.ext hb6⟩ (fun hHeld => ?_)
  clear hK K; refine puH ?_
  (refine tkH 5 ?_)
  refine wpAnyH_done (by kernel_rfl) ?_ _
  clear hb05 hb5 hb6 HKR hkl2
  cases b6 with
  | false =>
    go_wp2
    go_ret
    exact ⟨⟨_, rfl⟩, hHeld.1⟩
  | true =>
    simp only [Bool.not_true]
    obtain ⟨hbo, kso⟩ := hHeld
    go_wp2_with (go_at_call 203; fail)
    refine (HK4.out _ hbo).mono ?_
    rintro e w7 ⟨KA, kc, prl, rfl, hko, hps, hpl, hb7⟩
    obtain ⟨KA', kc', le, -, -, -, hkr⟩ := own_form hko
    injection le with le1 le2 le3
    rw [← le1] at hkr
    obtain ⟨kn, hkn⟩ : ∃ kn, kn = prl.length := ⟨_, rfl⟩
    rw [← hkn] at hkr hpl ⊢
    have HKR := Lib.hid hkr
    have HPS := Lib.hid hps
    rw [HL.out] at hpl
    have hbo7 := hbo.trans (hb7.mono hbo.size)
    have ks7 := kso.ext hb7
    clear hko le1 le2 le3 hkr hps hkn hbo kso hb7 KA' kc'
    go_wp2
    go_loopw [8] (fun j wr => ∃ k : Nat, k ≤ kn ∧ j = .int .i64 k ∧ Below w7.heap.size w7 wr ∧ Bk wr w.heap.size 32 #[.slice NA ns.length nc, .slice MA ms.length mc, .slice PA ps.length pc, .slice TA bn tc, .slice EA mg.length ec]) (fun j _ => kn - (intOf j).toNat)
    case atStart => exact ⟨0, by omega, rfl, Below.refl _ _, ks7⟩
    case round =>
      clear ks7
      obtain ⟨k, hk, rfl, hbr, ksr⟩ := hrel
      have hbw : Below w.heap.size w wr := hbo7.trans (hbr.mono hbo7.size)
      by_cases hlt : k < kn
      · have e3 : (k : Int) < kn := by omega
        obtain ⟨kb, ko, p, hp, rfl, hkb, hpc, -⟩ := pr_at ((HKR.out.below hbr).more hbr.size) hlt
        have hpn : p.1 < n := by have := HPS.out p (List.mem_of_getElem? hp); rw [HL.out] at this; exact this
        obtain ⟨pq, pe⟩ := p
        dsimp only at hpc hpn
        obtain ⟨tb, tq, tk, htk, rfl, htb, htc⟩ := tok_at ((H.out.below hbw).more hbw.size) hpn
        obtain ⟨k0, t0, a0, r0, m0, m1, m2, m3, m4, m5, m6, m7⟩ := tk
        obtain ⟨q0, q1, q2, q3, q4, q5, q6, q7, q8, q9, q10, q11⟩ := tok12 htc
        have e4 : (pq : Int) < n := by omega
        have e5 : (0 : Int) ≤ pq := by omega
        clear hp htk htc
        go_upto_region 8 with fail
        have kt := Bk.new wr 126 (tokA k0 t0 a0 r0 m0 m1 m2 m3 m4 m5 m6 m7)
        have hba : Below wr.heap.size wr (wr.alloc (.cells (tokA k0 t0 a0 r0 m0 m1 m2 m3 m4 m5 m6 m7) 126)) := belowA
        generalize wr.alloc (.cells (tokA k0 t0 a0 r0 m0 m1 m2 m3 m4 m5 m6 m7) 126) = w2 at *
        have hb2 := hbr.trans (hba.mono hbr.size)
        have hb02 := hbw.trans (hba.mono hbw.size)
        have ks2 := ksr.ext hba
        clear q0 q1 q2 q3 q4 q5 q6 q7 q8 q9 q10 q11 hpc
        obtain ⟨q0, q1, q2, q3, q4, q5, q6, q7, q8, q9, q10, q11⟩ := bk12 kt
        obtain ⟨s0, s1, s2, s3, s4⟩ := bk5 ks2
        by_cases hk2 : 2 < k0
        · go_wp2_with (go_at_call 204; fail)
          refine (HWI.out m0 m1 m2 m3 m4 m5 m6 m7 _ hb02).mono ?_
          rintro e w4 ⟨⟨b4, rfl⟩, hb4⟩
          cases b4 with
          | true =>
            go_wp2
            go_roundw
            case rel => exact ⟨k + 1, by omega, by go_num, hb2.trans (hb4.mono hb2.size), ks2.ext hb4⟩
            case measure => simp [intOf]; omega
          | false =>
            go_wp2
            go_ret
            exact ⟨⟨_, rfl⟩, hb02.trans (hb4.mono hb02.size)⟩
        · go_wp2
          go_roundw
          case rel => exact ⟨k + 1, by omega, by go_num, hb2, ks2⟩
          case measure => simp [intOf]; omega
      · obtain rfl : k = kn := by omega
        go_wp2
        go_ret
        exact ⟨⟨_, rfl⟩, hbw⟩
end
end Go.Proofs.YtmacfoebfpljoaaGreat
