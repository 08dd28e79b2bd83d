/- merged texts: Hve Hvf Hse Hta Htb K1 K2 Pu K3 -/
import Derived.Test.YtmacfoebfpljoaaGreatMa7
import Derived.Deep.CutBlock
import Derived.Test.YtmacfoebfpljoaaGreatMa6
import Derived.Test.YtmacfoebfpljoaaGreatMa1
set_option maxRecDepth 100000
set_option maxHeartbeats 16000000
namespace Go.Proofs.YtmacfoebfpljoaaGreat
open Go.RowKit
set_option linter.unusedVariables false
@[go_sem] theorem field_nd5 (x0 x1 x2 x3 x4 x5 x6 x7 x8 : Value) (w : World) : (Instr.field 113 (.agg #[x0, x1, x2, x3, x4, x5, x6, x7, x8]) 5).run Tryz.prog w = .ok x5 w := by kernel_rfl
theorem right01_any (r : Int) (w : World) : Calls Tryz.prog 200 #[.int .i32 r] w (AnyB w) := by
 go_enter Tryz.func200, Tryz.ntmps200
 by_cases h1 : 0 ≤ r
 ·by_cases h2 : r ≤ 1114111
  ·by_cases h3 : r < 55296
   all_goals
    go_wp2
    all_goals go_ret
    all_goals exact ⟨⟨_, rfl⟩, belowA⟩
  ·go_wp2
   all_goals go_ret
   all_goals exact ⟨⟨_, rfl⟩, belowA⟩
 ·go_wp2
  all_goals go_ret
  all_goals exact ⟨⟨_, rfl⟩, belowA⟩
section
variable (base : Nat) (nv mv : Value) (ns : List Nd) (ms : List Mr) (PA TA EA : Option Addr) (pn pc tn tc en ec : Nat) (w : World)
theorem max13_any (k : Nat) (p : Nd) (hp : ns[k]? = some p) (hD : DeclIn w base nv mv ns ms) : Calls Tryz.prog 198 #[.agg #[nv, mv, .slice PA pn pc, .slice TA tn tc, .slice EA en ec], .int .i64 ((k : Int) + 1)] w (AnyI w) := by
 obtain ⟨NA, nc, rfl, -, -, -, -⟩ := own_form hD.n
 obtain ⟨MA, mc, rfl, -, -, -, -⟩ := own_form hD.m
 have hnd := fun W (hb : Below w.heap.size w W) => node11_any base _ _ ns ms PA TA EA pn pc tn tc en ec W k p hp (hD.below hb)
 have HND := Lib.hid hnd
 have hpi := hD.ni p (List.mem_of_getElem? hp)
 obtain ⟨nm, gv, gs, il, pk, lf, at_, all, mk, ml, ex⟩ := p
 obtain ⟨Ag, cg, eg, -, -, -, -⟩ := own_form hpi.g
 obtain ⟨Ak, ck, ek, -, -, -, -⟩ := own_form hpi.m
 dsimp only at eg ek
 subst eg
 subst ek
 clear hpi hp hnd hD
 go_enter Tryz.func198, Tryz.ntmps198
 go_upto_region 1 with fail
 have ks : Bk (w.alloc (.cells #[.slice NA ns.length nc, .slice MA ms.length mc, .slice PA pn pc, .slice TA tn tc, .slice EA en ec] 32)) w.heap.size 32 #[.slice NA ns.length nc, .slice MA ms.length mc, .slice PA pn pc, .slice TA tn tc, .slice EA en ec] := Bk.new w _ _
 have hb0 : Below w.heap.size w (w.alloc (.cells #[.slice NA ns.length nc, .slice MA ms.length mc, .slice PA pn pc, .slice TA tn tc, .slice EA en ec] 32)) := belowA
 generalize w.alloc (.cells #[.slice NA ns.length nc, .slice MA ms.length mc, .slice PA pn pc, .slice TA tn tc, .slice EA en ec] 32) = w0 at *
 obtain ⟨s0, s1, s2, s3, s4⟩ := bk5 ks
 go_wp2_with (go_at_call 153; fail)
 refine (HND.out w0 hb0).mono ?_
 rintro e w2 ⟨rfl, hb2⟩
 dsimp only [Nd.arr]
 go_wp2
 go_ret
 exact ⟨⟨_, rfl⟩, hb0.trans (hb2.mono hb0.size)⟩
/-- on the way: the schema, a token -/
structure TI (w wr : World) (S M : Array Value) : Prop where
 s : Bk wr w.heap.size 32 S
 m : Bk wr (w.heap.size + 1) 126 M
 b : Below w.heap.size w wr
omit w in
theorem TI.below {w wr w' : World} {S M : Array Value} (h : TI w wr S M) (hb : Below wr.heap.size wr w') : TI w w' S M := ⟨h.s.ext hb, h.m.ext hb, h.b.trans (hb.mono h.b.size)⟩
theorem inline13_any (k t a r m0 m1 m2 m3 m4 m5 m6 m7 : Int) (hD : DeclIn w base nv mv ns ms) : Calls Tryz.prog 111 #[.agg #[nv, mv, .slice PA pn pc, .slice TA tn tc, .slice EA en ec], .agg (tokA k t a r m0 m1 m2 m3 m4 m5 m6 m7)] w (AnyB w) := by
 obtain ⟨NA, nc, rfl, -, -, -, -⟩ := own_form hD.n
 obtain ⟨MA, mc, rfl, -, -, -, -⟩ := own_form hD.m
 have hil := fun W (hb : Below w.heap.size w W) => inline_any base _ _ ns ms PA TA EA pn pc tn tc en ec W t (hD.below hb)
 have HIL := Lib.hid hil
 clear hil hD
 have h3 : (k == 4) = true ∨ ((k == 4) = false ∧ (k == 3) = true) ∨ ((k == 4) = false ∧ (k == 3) = false) := by cases (k == 4) <;> cases (k == 3) <;> simp
 go_enter Tryz.func111, Tryz.ntmps111
 go_upto_region 1 with fail
 have hI0 : TI w ((w.alloc (.cells #[.slice NA ns.length nc, .slice MA ms.length mc, .slice PA pn pc, .slice TA tn tc, .slice EA en ec] 32)).alloc (.cells (tokA k t a r m0 m1 m2 m3 m4 m5 m6 m7) 126)) #[.slice NA ns.length nc, .slice MA ms.length mc, .slice PA pn pc, .slice TA tn tc, .slice EA en ec] (tokA k t a r m0 m1 m2 m3 m4 m5 m6 m7) := ⟨(Bk.new w _ _).alloc _, Bk.made _ _ (by simp), belowA⟩
 generalize (w.alloc (.cells #[.slice NA ns.length nc, .slice MA ms.length mc, .slice PA pn pc, .slice TA tn tc, .slice EA en ec] 32)).alloc (.cells (tokA k t a r m0 m1 m2 m3 m4 m5 m6 m7) 126) = w0 at *
 obtain ⟨q0, q1, q2, q3, q4, q5, q6, q7, q8, q9, q10, q11⟩ := bk12 hI0.m
 obtain ⟨s0, s1, s2, s3, s4⟩ := bk5 hI0.s
 rcases h3 with e | ⟨e, e'⟩ | ⟨e, e'⟩
 ·go_wp2
  go_ret
  exact ⟨⟨_, rfl⟩, hI0.b⟩
 ·go_wp2_with (go_at_call 103; fail)
  refine (HIL.out _ hI0.b).mono ?_
  rintro e w1 ⟨⟨b1, rfl⟩, hb1⟩
  go_wp2
  go_ret
  exact ⟨⟨_, rfl⟩, (hI0.below hb1).b⟩
 ·go_wp2
  go_ret
  exact ⟨⟨_, rfl⟩, hI0.b⟩
end
section
variable (base : Nat) (nv mv : Value) (ns : List Nd) (ms : List Mr) (PA TA EA : Option Addr) (pn pc tn tc en ec : Nat) (w : World)
theorem right13_any (k t a r m0 m1 m2 m3 m4 m5 m6 m7 : Int) (hD : DeclIn w base nv mv ns ms) : Calls Tryz.prog 158 #[.agg #[nv, mv, .slice PA pn pc, .slice TA tn tc, .slice EA en ec], .agg (tokA k t a r m0 m1 m2 m3 m4 m5 m6 m7)] w (AnyB w) := by
 obtain ⟨NA, nc, rfl, -, -, -, -⟩ := own_form hD.n
 obtain ⟨MA, mc, rfl, -, -, -, -⟩ := own_form hD.m
 have hth := fun W (hb : Below w.heap.size w W) => there_any base _ _ ns ms PA TA EA pn pc tn tc en ec W t (hD.below hb)
 have hma := fun (k : Nat) (p : Nd) (hp : ns[k]? = some p) W (hb : Below w.heap.size w W) => max13_any base _ _ ns ms PA TA EA pn pc tn tc en ec W k p hp (hD.below hb)
 have hlf := fun W (hb : Below w.heap.size w W) => leaf_any base _ _ ns ms PA TA EA pn pc tn tc en ec W t (hD.below hb)
 have hil := fun W (hb : Below w.heap.size w W) => inline_any base _ _ ns ms PA TA EA pn pc tn tc en ec W t (hD.below hb)
 have hr2 := fun a0 a1 a2 a3 a4 a5 a6 a7 W (hb : Below w.heap.size w W) => right12_any base _ _ ns ms PA TA EA pn pc tn tc en ec W a0 a1 a2 a3 a4 a5 a6 a7 (hD.below hb)
 have hr1 := fun W (hb : Below w.heap.size w W) => right01_any r W
 have HTH := Lib.hid hth
 have HMA := Lib.hid hma
 have HLF := Lib.hid hlf
 have HIL := Lib.hid hil
 have HR2 := Lib.hid hr2
 have HR1 := Lib.hid hr1
 clear hth hma hlf hil hr2 hr1 hD
 go_enter Tryz.func158, Tryz.ntmps158
 go_upto_region 1 with fail
 have hI0 : TI w ((w.alloc (.cells #[.slice NA ns.length nc, .slice MA ms.length mc, .slice PA pn pc, .slice TA tn tc, .slice EA en ec] 32)).alloc (.cells (tokA k t a r m0 m1 m2 m3 m4 m5 m6 m7) 126)) #[.slice NA ns.length nc, .slice MA ms.length mc, .slice PA pn pc, .slice TA tn tc, .slice EA en ec] (tokA k t a r m0 m1 m2 m3 m4 m5 m6 m7) := ⟨(Bk.new w _ _).alloc _, Bk.made _ _ (by simp), belowA⟩
 generalize (w.alloc (.cells #[.slice NA ns.length nc, .slice MA ms.length mc, .slice PA pn pc, .slice TA tn tc, .slice EA en ec] 32)).alloc (.cells (tokA k t a r m0 m1 m2 m3 m4 m5 m6 m7) 126) = w0 at *
 have hF : ∀ W, TI w W #[.slice NA ns.length nc, .slice MA ms.length mc, .slice PA pn pc, .slice TA tn tc, .slice EA en ec] (tokA k t a r m0 m1 m2 m3 m4 m5 m6 m7) → (W.cell? ⟨w.heap.size, 0, none⟩ = some (.slice NA ns.length nc) ∧ W.cell? ⟨w.heap.size, 1, none⟩ = some (.slice MA ms.length mc) ∧ W.cell? ⟨w.heap.size, 2, none⟩ = some (.slice PA pn pc) ∧ W.cell? ⟨w.heap.size, 3, none⟩ = some (.slice TA tn tc) ∧ W.cell? ⟨w.heap.size, 4, none⟩ = some (.slice EA en ec)) ∧ W.cell? ⟨w.heap.size + 1, 1, none⟩ = some (.int .i64 t) ∧ W.cell? ⟨w.heap.size + 1, 2, none⟩ = some (.int .i64 a) ∧ W.cell? ⟨w.heap.size + 1, 3, none⟩ = some (.int .i32 r) := fun W h => ⟨bk5 h.s, h.m.cell 1, h.m.cell 2, h.m.cell 3⟩
 have HF := Lib.hid hF
 clear hF
 go_cut [5] (fun u wx => ∃ b : Bool, u = .bool b ∧ Hid (TI w wx #[.slice NA ns.length nc, .slice MA ms.length mc, .slice PA pn pc, .slice TA tn tc, .slice EA en ec] (tokA k t a r m0 m1 m2 m3 m4 m5 m6 m7)))
 case first =>
  by_cases hin : 1 ≤ t ∧ t ≤ ns.length
  ·obtain ⟨k', rfl⟩ : ∃ k : Nat, t = (k : Int) + 1 := ⟨(t - 1).toNat, by omega⟩
   obtain ⟨p, hp⟩ : ∃ p, ns[k']? = some p := ⟨_, List.getElem?_eq_getElem (by omega)⟩
   have HP := Lib.hid hp
   have HT := Lib.hid (show decide (1 ≤ (k' : Int) + 1 ∧ (k' : Int) + 1 ≤ ns.length) = true from decide_eq_true hin)
   clear hp hin
   by_cases ha : 0 ≤ a
   all_goals
    refine wp_normal ?_
    refine wp_region_held_drew (S := fun W => TI w W #[.slice NA ns.length nc, .slice MA ms.length mc, .slice PA pn pc, .slice TA tn tc, .slice EA en ec] (tokA k ((k' : Int) + 1) a r m0 m1 m2 m3 m4 m5 m6 m7)) (by kernel_rfl) (show TI w w0.drew _ _ from ⟨hI0.s.drew, hI0.m.drew, hI0.b.drew⟩) (fun hHeld => ?_)
    (refine tkH 0 ?_; refine tkH 1 ?_; refine tkH 2 ?_)
    refine nxH 3 (fun K hK => ?_)
    go_simp
    go_at_call 152
    refine (HTH.out _ hHeld.b).mono ?_
    rw [HT.out]
    rintro e w1 ⟨rfl, hb1⟩
    refine hK.out _ _ (hHeld.below hb1) (fun hHeld => ?_)
    clear hK K; (try simp only [Act.put, List.setIfInBounds_toArray, List.set_cons_zero, List.set_cons_succ])
    (refine tkH 4 ?_; refine tkH 5 ?_; refine tkH 6 ?_; refine tkH 7 ?_; refine tkH 8 ?_; refine tkH 9 ?_)
    first
    | ((refine tkH 10 ?_; refine tkH 11 ?_; refine tkH 12 ?_; refine tkH 13 ?_; refine tkH 14 ?_)
       refine nxH 15 (fun K hK => ?_)
       go_simp
       go_at_call 198
       refine (HMA.out k' _ HP.out _ hHeld.b).mono ?_
       rintro e w2 ⟨⟨v, rfl⟩, hb2⟩
       refine hK.out _ _ (hHeld.below hb2) (fun hHeld => ?_)
       clear hK K; (try simp only [Act.put, List.setIfInBounds_toArray, List.set_cons_zero, List.set_cons_succ])
       by_cases hav : a ≤ v
       ·(refine tkH 16 ?_; refine tkH 17 ?_; refine tkH 18 ?_; refine tkH 19 ?_; refine tkH 20 ?_; refine tkH 21 ?_; refine tkH 22 ?_; refine tkH 23 ?_)
        refine wpAnyH_done (by kernel_rfl) ?_ _
        go_wp2
        go_meet
        exact ⟨_, rfl, Lib.hid hHeld⟩
       ·(refine tkH 16 ?_; refine tkH 17 ?_; refine tkH 18 ?_; refine tnH 19 ?_; refine tnH 20 ?_; refine tnH 21 ?_; refine tkH 22 ?_; refine tkH 23 ?_)
        refine wpAnyH_done (by kernel_rfl) ?_ _
        go_wp2
        go_meet
        exact ⟨_, rfl, Lib.hid hHeld⟩)
    | ((refine tnH 10 ?_; refine tnH 11 ?_; refine tnH 12 ?_; refine tnH 13 ?_; refine tnH 14 ?_; refine tnH 15 ?_; refine tnH 16 ?_; refine tkH 17 ?_; refine tkH 18 ?_; refine tnH 19 ?_; refine tnH 20 ?_; refine tnH 21 ?_; refine tkH 22 ?_; refine tkH 23 ?_)
       refine wpAnyH_done (by kernel_rfl) ?_ _
       go_wp2
       go_meet
       exact ⟨_, rfl, Lib.hid hHeld⟩)
  ·have HT := Lib.hid (show decide (1 ≤ t ∧ t ≤ ns.length) = false from decide_eq_false hin)
   clear hin
   refine wp_normal ?_
   refine wp_region_held_drew (S := fun W => TI w W #[.slice NA ns.length nc, .slice MA ms.length mc, .slice PA pn pc, .slice TA tn tc, .slice EA en ec] (tokA k t a r m0 m1 m2 m3 m4 m5 m6 m7)) (by kernel_rfl) (show TI w w0.drew _ _ from ⟨hI0.s.drew, hI0.m.drew, hI0.b.drew⟩) (fun hHeld => ?_)
   (refine tkH 0 ?_; refine tkH 1 ?_; refine tkH 2 ?_)
   refine nxH 3 (fun K hK => ?_)
   go_simp
   go_at_call 152
   refine (HTH.out _ hHeld.b).mono ?_
   rw [HT.out]
   rintro e w1 ⟨rfl, hb1⟩
   refine hK.out _ _ (hHeld.below hb1) (fun hHeld => ?_)
   clear hK K; (try simp only [Act.put, List.setIfInBounds_toArray, List.set_cons_zero, List.set_cons_succ])
   (refine tkH 4 ?_; refine tnH 5 ?_; refine tnH 6 ?_; refine tnH 7 ?_; refine tkH 8 ?_; refine tkH 9 ?_; refine tnH 10 ?_; refine tnH 11 ?_; refine tnH 12 ?_; refine tnH 13 ?_; refine tnH 14 ?_; refine tnH 15 ?_; refine tnH 16 ?_; refine tkH 17 ?_; refine tkH 18 ?_; refine tnH 19 ?_; refine tnH 20 ?_; refine tnH 21 ?_; refine tkH 22 ?_; refine tkH 23 ?_)
   refine wpAnyH_done (by kernel_rfl) ?_ _
   go_wp2
   go_meet
   exact ⟨_, rfl, Lib.hid hHeld⟩
 case rest =>
 obtain ⟨nd, rfl, hI1⟩ := hcut
 clear hI0 HF HTH HMA
 obtain ⟨q0, q1, q2, q3, q4, q5, q6, q7, q8, q9, q10, q11⟩ := bk12 hI1.out.m
 obtain ⟨s0, s1, s2, s3, s4⟩ := bk5 hI1.out.s
 by_cases h1 : k = 1
 ·subst h1
  cases nd with
  | false =>
    go_wp2
    go_ret
    exact ⟨⟨_, rfl⟩, hI1.out.b⟩
  | true =>
    go_wp2_with (go_at_call 199; fail)
    refine (HLF.out _ hI1.out.b).mono ?_
    rintro e w2 ⟨⟨b2, rfl⟩, hb2⟩
    have hI2 := Lib.hid (hI1.out.below hb2)
    clear q0 q1 q2 q3 q4 q5 q6 q7 q8 q9 q10 q11 s0 s1 s2 s3 s4 hI1 hb2
    obtain ⟨q0, q1, q2, q3, q4, q5, q6, q7, q8, q9, q10, q11⟩ := bk12 hI2.out.m
    obtain ⟨s0, s1, s2, s3, s4⟩ := bk5 hI2.out.s
    cases b2 with
    | true =>
      go_wp2
      go_ret
      exact ⟨⟨_, rfl⟩, hI2.out.b⟩
    | false =>
      go_wp2
      go_ret
      exact ⟨⟨_, rfl⟩, hI2.out.b⟩
 by_cases h2 : k = 2
 ·subst h2
  go_wp2
  all_goals go_ret
  all_goals exact ⟨⟨_, rfl⟩, hI1.out.b⟩
 by_cases h3 : k = 3
 ·subst h3
  cases nd with
  | false =>
    go_wp2
    go_ret
    exact ⟨⟨_, rfl⟩, hI1.out.b⟩
  | true =>
    go_wp2_with (go_at_call 199; fail)
    refine (HLF.out _ hI1.out.b).mono ?_
    rintro e w2 ⟨⟨b2, rfl⟩, hb2⟩
    have hI2 := Lib.hid (hI1.out.below hb2)
    clear q0 q1 q2 q3 q4 q5 q6 q7 q8 q9 q10 q11 s0 s1 s2 s3 s4 hI1 hb2
    obtain ⟨q0, q1, q2, q3, q4, q5, q6, q7, q8, q9, q10, q11⟩ := bk12 hI2.out.m
    obtain ⟨s0, s1, s2, s3, s4⟩ := bk5 hI2.out.s
    cases b2 with
    | true =>
      cases hbare : mkB (Mk.mk m0 m1 m2 m3 m4 m5 m6 m7) (Mk.mk 0 0 0 0 0 0 0 0) with
      | true =>
        go_wp2
        go_ret
        exact ⟨⟨_, rfl⟩, hI2.out.b⟩
      | false =>
        go_wp2_with (go_at_call 103; fail)
        refine (HIL.out _ hI2.out.b).mono ?_
        rintro e w3 ⟨⟨b3, rfl⟩, hb3⟩
        have hI3 := Lib.hid (hI2.out.below hb3)
        clear q0 q1 q2 q3 q4 q5 q6 q7 q8 q9 q10 q11 s0 s1 s2 s3 s4 hI2 hb3
        obtain ⟨q0, q1, q2, q3, q4, q5, q6, q7, q8, q9, q10, q11⟩ := bk12 hI3.out.m
        obtain ⟨s0, s1, s2, s3, s4⟩ := bk5 hI3.out.s
        cases b3 with
        | true =>
          go_wp2_with (go_at_call 109; fail)
          refine (HR2.out m0 m1 m2 m3 m4 m5 m6 m7 _ hI3.out.b).mono ?_
          rintro e w4 ⟨⟨b4, rfl⟩, hb4⟩
          have hI4 := Lib.hid (hI3.out.below hb4)
          clear q0 q1 q2 q3 q4 q5 q6 q7 q8 q9 q10 q11 s0 s1 s2 s3 s4 hI3 hb4
          obtain ⟨q0, q1, q2, q3, q4, q5, q6, q7, q8, q9, q10, q11⟩ := bk12 hI4.out.m
          obtain ⟨s0, s1, s2, s3, s4⟩ := bk5 hI4.out.s
          cases b4 with
          | true =>
            go_wp2
            go_ret
            exact ⟨⟨_, rfl⟩, hI4.out.b⟩
          | false =>
            go_wp2
            go_ret
            exact ⟨⟨_, rfl⟩, hI4.out.b⟩
        | false =>
          go_wp2
          go_ret
          exact ⟨⟨_, rfl⟩, hI3.out.b⟩
    | false =>
      go_wp2
      go_ret
      exact ⟨⟨_, rfl⟩, hI2.out.b⟩
 by_cases h4 : k = 4
 ·subst h4
  cases ht0 : (t == 0) with
  | false =>
    go_wp2
    go_ret
    exact ⟨⟨_, rfl⟩, hI1.out.b⟩
  | true =>
    cases ha0 : (a == 0) with
    | false =>
      go_wp2
      go_ret
      exact ⟨⟨_, rfl⟩, hI1.out.b⟩
    | true =>
      go_wp2_with (go_at_call 200; fail)
      refine (HR1.out _ hI1.out.b).mono ?_
      rintro e w2 ⟨⟨b2, rfl⟩, hb2⟩
      have hI2 := Lib.hid (hI1.out.below hb2)
      clear q0 q1 q2 q3 q4 q5 q6 q7 q8 q9 q10 q11 s0 s1 s2 s3 s4 hI1 hb2
      obtain ⟨q0, q1, q2, q3, q4, q5, q6, q7, q8, q9, q10, q11⟩ := bk12 hI2.out.m
      obtain ⟨s0, s1, s2, s3, s4⟩ := bk5 hI2.out.s
      cases b2 with
      | true =>
        go_wp2_with (go_at_call 109; fail)
        refine (HR2.out m0 m1 m2 m3 m4 m5 m6 m7 _ hI2.out.b).mono ?_
        rintro e w3 ⟨⟨b3, rfl⟩, hb3⟩
        have hI3 := Lib.hid (hI2.out.below hb3)
        clear q0 q1 q2 q3 q4 q5 q6 q7 q8 q9 q10 q11 s0 s1 s2 s3 s4 hI2 hb3
        obtain ⟨q0, q1, q2, q3, q4, q5, q6, q7, q8, q9, q10, q11⟩ := bk12 hI3.out.m
        obtain ⟨s0, s1, s2, s3, s4⟩ := bk5 hI3.out.s
        cases b3 with
        | true =>
          go_wp2
          go_ret
          exact ⟨⟨_, rfl⟩, hI3.out.b⟩
        | false =>
          go_wp2
          go_ret
          exact ⟨⟨_, rfl⟩, hI3.out.b⟩
      | false =>
        go_wp2
        go_ret
        exact ⟨⟨_, rfl⟩, hI2.out.b⟩
 have e1 : (k == 1) = false := beq_false_of_ne h1
 have e2 : (k == 2) = false := beq_false_of_ne h2
 have e3 : (k == 3) = false := beq_false_of_ne h3
 have e4 : (k == 4) = false := beq_false_of_ne h4
 clear h1 h2 h3 h4
 go_wp2
 go_ret
 exact ⟨⟨_, rfl⟩, hI1.out.b⟩
end
/-- a name, and the symbols that it means -/
structure Mg where
 nm : ByteArray
 v : Value
 on : List Int
def Mg.cells (p : Mg) : List Value := [.string p.nm, p.v]
def mgs (l : List Mg) : List Value := l.flatMap Mg.cells
theorem mgs_append (a b : List Mg) : mgs (a ++ b) = mgs a ++ mgs b := by simp [mgs]
theorem mgs_one (p : Mg) : mgs [p] = [.string p.nm, p.v] := by simp [mgs, Mg.cells]
theorem info_mg : (Tryz.prog.info? 195).map (fun i => (i.zero, i.size, i.bytes)) = some (some (.agg #[.string ByteArray.empty, .slice none 0 0]), 2, 40) := by kernel_rfl
structure MgsIn (w : World) (base : Nat) (v : Value) (l : List Mg) : Prop where
 row : w.ownsRow base 195 2 v l.length (mgs l)
 own : ∀ p ∈ l, w.ownsRow base 3 1 p.v p.on.length (is p.on)
 ol : ∀ p ∈ l, p.on.length ≤ 24
section
variable {w w' : World} {base : Nat} {v v' : Value} {l : List Mg}
theorem MgsIn.nil (w : World) (base : Nat) : MgsIn w base (.slice none 0 0) [] := ⟨World.ownsRow_nil _ _ _ _, (fun p h => by cases h), (fun p h => by cases h)⟩
theorem MgsIn.below (h : MgsIn w base v l) (hb : Below w.heap.size w w') : MgsIn w' base v l := ⟨own_below h.row hb, fun p hp => own_below (h.own p hp) hb, h.ol⟩
theorem MgsIn.base_ {base' : Nat} (h : MgsIn w base v l) (hb : base' ≤ base) : MgsIn w base' v l := ⟨own_base h.row hb, fun p hp => own_base (h.own p hp) hb, h.ol⟩
theorem MgsIn.push {p : Mg} (h : MgsIn w base v l) (hp : w.ownsRow base 3 1 p.v p.on.length (is p.on)) (hl : p.on.length ≤ 24) (hg : w.grownBy w' v.ownBlock) (ho : w'.ownsRow base 195 2 v' (l.length + 1) (mgs l ++ [.string p.nm, p.v])) : MgsIn w' base v' (l ++ [p]) := by
 refine ⟨by rw [List.length_append, mgs_append, mgs_one]; exact ho, fun q hq => ?_, fun q hq => ?_⟩
 ·rcases List.mem_append.1 hq with hq | hq
  ·exact hown_grow (h.own q hq) hg (hown_type (h.own q hq) h.row (by decide))
  ·simp at hq; subst hq; exact hown_grow hp hg (hown_type hp h.row (by decide))
 ·rcases List.mem_append.1 hq with hq | hq
  ·exact h.ol q hq
  ·simp at hq; subst hq; exact hl
theorem MgsIn.at_ {k n c : Nat} {A : Option Addr} {p : Mg} (h : MgsIn w base (.slice A n c) l) (hk : l[k]? = some p) : ∃ b o, A = some ⟨b, o, none⟩ ∧ b < w.heap.size ∧ w.cell? ⟨b, o + k * 2, none⟩ = some (.string p.nm) ∧ w.cell? ⟨b, o + k * 2 + 1, none⟩ = some p.v := by
 obtain ⟨A', c', e, -, -, -, r⟩ := own_form h.row
 injection e with e1 e2 e3
 subst e1
 obtain ⟨b, o, e, hb, hc⟩ := Rd.el Mg.cells (fun _ => rfl) r rfl hk
 exact ⟨b, o, e, hb, hc 0 (by omega), hc 1 (by omega)⟩
end
def MgsOut (m : Nat) (w : World) (e : Ending) (w' : World) : Prop := ∃ (v : Value) (l : List Mg), e = .returned v ∧ MgsIn w' w.heap.size v l ∧ l.length ≤ m ∧ Below w.heap.size w w'
section
variable (base : Nat) (nv mv : Value) (ns : List Nd) (ms : List Mr) (PA TA EA : Option Addr) (pn pc tn tc en ec : Nat) (w : World)
theorem means_any (pb n c : Nat) (A : Option Addr) (l : List Pt) (hD : DeclIn w base nv mv ns ms) (hp : Parts w pb (.slice A n c) n l) (hn : n ≤ 1000) : Calls Tryz.prog 50 #[.agg #[nv, mv, .slice PA pn pc, .slice TA tn tc, .slice EA en ec], .slice A n c] w (MgsOut n w) := by
 obtain ⟨NA, nc, rfl, -, -, -, -⟩ := own_form hD.n
 obtain ⟨MA, mc, rfl, -, -, -, -⟩ := own_form hD.m
 have hfi := fun s W (hb : Below w.heap.size w W) => find_any base _ _ ns ms PA TA EA pn pc tn tc en ec W s (hD.below hb)
 have hgp := fun s W (hb : Below w.heap.size w W) => group_any base _ _ ns ms PA TA EA pn pc tn tc en ec W s (hD.below hb)
 have HFI := Lib.hid hfi
 have HGP := Lib.hid hgp
 have HP := Lib.hid hp
 clear hfi hgp hD hp
 go_enter Tryz.func50, Tryz.ntmps50
 go_upto_region 1 with fail
 have kss : Bk (w.alloc (.cells #[.slice NA ns.length nc, .slice MA ms.length mc, .slice PA pn pc, .slice TA tn tc, .slice EA en ec] 32)) w.heap.size 32 #[.slice NA ns.length nc, .slice MA ms.length mc, .slice PA pn pc, .slice TA tn tc, .slice EA en ec] := Bk.new w _ _
 have hbs : Below w.heap.size w (w.alloc (.cells #[.slice NA ns.length nc, .slice MA ms.length mc, .slice PA pn pc, .slice TA tn tc, .slice EA en ec] 32)) := belowA
 generalize w.alloc (.cells #[.slice NA ns.length nc, .slice MA ms.length mc, .slice PA pn pc, .slice TA tn tc, .slice EA en ec] 32) = w0 at *
 have hz0 := hbs.size
 go_wp2
 go_loopw [5, 6] (fun v j wr => ∃ (q : Nat) (L : List Mg), q ≤ n ∧ j = .int .i64 q ∧ L.length ≤ q ∧ Hid (MgsIn wr w.heap.size v L) ∧ Below w.heap.size w wr ∧ Bk wr w.heap.size 32 #[.slice NA ns.length nc, .slice MA ms.length mc, .slice PA pn pc, .slice TA tn tc, .slice EA en ec]) (fun _ j _ => n - (intOf j).toNat)
 case atStart => exact ⟨0, [], by omega, rfl, by simp, Lib.hid (MgsIn.nil _ _), hbs, kss⟩
 case round =>
  clear hbs kss
  obtain ⟨q, L, hq, rfl, hL, hM, hbr, ksr⟩ := hrel
  have hz := hbr.size
  obtain ⟨A5, c5, rfl, -, -, -, -⟩ := own_form hM.out.row
  by_cases hlt : q < n
  ·have e3 : (q : Int) < n := by omega
   obtain ⟨p, hp⟩ : ∃ p, l[q]? = some p := ⟨_, List.getElem?_eq_getElem (by rw [HP.out.len]; exact hlt)⟩
   have hPr := HP.out.below hbr
   obtain ⟨ab, ao, rfl, hab, hcc⟩ := hPr.at_ hp
   have d0 : wr.cell? ⟨ab, ao + q * 5, none⟩ = some (.int .i64 p.k) := hcc 0 (by omega)
   have d3 : wr.cell? ⟨ab, ao + q * 5 + 3, none⟩ = some (.string p.nm) := hcc 3 (by omega)
   generalize p.k = pk at *
   generalize p.nm = nm at *
   clear hcc hp hPr
   by_cases hk1 : pk = 1
   ·have e4 : (pk != 1) = false := by simp [hk1]
    clear hk1
    have hF : ∀ W, Below wr.heap.size wr W → W.cell? ⟨w.heap.size, 0, none⟩ = some (.slice NA ns.length nc) ∧ W.cell? ⟨w.heap.size, 1, none⟩ = some (.slice MA ms.length mc) ∧ W.cell? ⟨w.heap.size, 2, none⟩ = some (.slice PA pn pc) ∧ W.cell? ⟨w.heap.size, 3, none⟩ = some (.slice TA tn tc) ∧ W.cell? ⟨w.heap.size, 4, none⟩ = some (.slice EA en ec) ∧ W.cell? ⟨ab, ao + q * 5 + 3, none⟩ = some (.string nm) := fun W h => ⟨(ksr.ext h).cell 0, (ksr.ext h).cell 1, (ksr.ext h).cell 2, (ksr.ext h).cell 3, (ksr.ext h).cell 4, (h.cell (by simpa using hab)).trans d3⟩
    have HF := Lib.hid hF
    clear hF
    go_upto_region 6 with fail
    go_cut [7] (fun u wx => ∃ (b7 : Nat) (v7 : Value) (on : List Int), u = .pointer (some ⟨b7, 0, none⟩) ∧ wr.heap.size ≤ b7 ∧ Bk wx b7 195 #[.string nm, v7] ∧ Hid (wx.ownsRow wr.heap.size 3 1 v7 on.length (is on)) ∧ on.length ≤ 24 ∧ Below wr.heap.size wr wx)
    case first =>
     refine wp_normal ?_
     refine wp_region_held_drew (S := fun W => Below wr.heap.size wr W) (by kernel_rfl) (Below.refl _ _).drew (fun hHeld => ?_)
     (refine tkH 0 ?_; refine tkH 1 ?_; refine tkH 2 ?_; refine tkH 3 ?_; refine tkH 4 ?_; refine tkH 5 ?_; refine tkH 6 ?_; refine tkH 7 ?_; refine tkH 8 ?_; refine tkH 9 ?_; refine tkH 10 ?_)
     refine wpAnyH_ready (rs := [11, 13]) (by kernel_rfl) (by simp) ?_; refine (AllReadyH.cons (o := _) (by simp only [List.getElem?_toArray, List.getElem?_cons_succ, List.getElem?_cons_zero]; rfl) (fun K hK => ?_) (AllReadyH.cons (o := _) (by simp only [List.getElem?_toArray, List.getElem?_cons_succ, List.getElem?_cons_zero]; rfl) (fun K hK => ?_) AllReadyH.nil))
     ·go_simp
      go_at_call 102
      refine (HGP.out nm _ hbr.drew).mono ?_
      rintro e w5 ⟨v5, on, rfl, ho5, hl5, hb5⟩
      obtain ⟨A7, c7, rfl, -, -, -, -⟩ := own_form ho5
      have hb05 : Below wr.heap.size wr w5 := Below.trans (Below.refl _ _).drew hb5
      have hz05 := hb05.size
      refine hK.out _ _ hb05 (fun hHeld => ?_)
      clear hK K; (try simp only [Act.put, List.setIfInBounds_toArray, List.set_cons_zero, List.set_cons_succ])
      (refine tkH 12 ?_)
      refine nxH 13 (fun K hK => ?_)
      go_simp
      refine hK.out _ _ belowA (fun hHeld => ?_)
      clear hK K; (try simp only [Act.put, List.setIfInBounds_toArray, List.set_cons_zero, List.set_cons_succ])
      refine nxH 14 (fun K hK => ?_)
      go_simp
      refine hK.out _ _ belowA (fun hHeld => ?_)
      clear hK K; (try simp only [Act.put, List.setIfInBounds_toArray, List.set_cons_zero, List.set_cons_succ])
      refine wpAnyH_done (by kernel_rfl) ?_ _
      go_wp2
      go_meet
      exact ⟨_, _, on, rfl, hb05.size, Bk.new w5 _ _, Lib.hid (own_below ho5 ((Below.refl _ _).alloc (Nat.le_refl _) _)), hl5, hHeld⟩
     ·go_simp
      refine hK.out _ _ belowA (fun hHeld => ?_)
      clear hK K; (try simp only [Act.put, List.setIfInBounds_toArray, List.set_cons_zero, List.set_cons_succ])
      refine nxH 11 (fun K hK => ?_)
      go_simp
      go_at_call 102
      refine (HGP.out nm _ belowA).mono ?_
      rintro e w5 ⟨v5, on, rfl, ho5, hl5, hb5⟩
      obtain ⟨A7, c7, rfl, -, -, -, -⟩ := own_form ho5
      have hb05 : Below wr.heap.size wr w5 := Below.trans hHeld (hb5.mono (by simp))
      have hz05 := hb05.size
      have k7 : Bk w5 wr.heap.size 195 #[.string { data := #[] }, .slice none 0 0] := (Bk.drew (Bk.new wr 195 _)).ext hb5
      obtain ⟨y0, y1⟩ := bk2 k7
      have yf := k7.frozen; have yl := def_lt' k7
      refine hK.out _ _ hb05 (fun hHeld => ?_)
      clear hK K; (try simp only [Act.put, List.setIfInBounds_toArray, List.set_cons_zero, List.set_cons_succ])
      (refine tkH 12 ?_)
      refine nxH 14 (fun K hK => ?_)
      go_simp
      refine hK.out _ _ belowA (fun hHeld => ?_)
      clear hK K; (try simp only [Act.put, List.setIfInBounds_toArray, List.set_cons_zero, List.set_cons_succ])
      refine wpAnyH_done (by kernel_rfl) ?_ _
      go_wp2
      go_meet
      have k71 : Bk _ wr.heap.size 195 #[.string nm, .slice none 0 0] := k7.set_ 0 (.string nm)
      have ho6 := own_base ho5 (show wr.heap.size ≤ _ by simp)
      have ho7 := ownsRow_setCell_other ho6 (own_ne ho6 k7 (by decide)) (a := ⟨wr.heap.size, 0, none⟩) (.string nm)
      exact ⟨_, _, on, rfl, Nat.le_refl _, k71.set_ 1 _, Lib.hid (ownsRow_setCell_other ho7 (own_ne ho7 k71 (by decide)) _), hl5, hHeld⟩
    case rest =>
    obtain ⟨b7, v7, on, rfl, hb7, k7, ho7, hl7, hbc⟩ := hcut
    have hb0c := hbr.trans (hbc.mono hz)
    have hzc := hbc.size
    have hMc := Lib.hid (hM.out.below hbc)
    have ksc := ksr.ext hbc
    obtain ⟨A7, c7, rfl, -, -, -, -⟩ := own_form ho7.out
    have hF : ∀ W, Below wc.heap.size wc W → W.cell? ⟨w.heap.size, 0, none⟩ = some (.slice NA ns.length nc) ∧ W.cell? ⟨w.heap.size, 1, none⟩ = some (.slice MA ms.length mc) ∧ W.cell? ⟨w.heap.size, 2, none⟩ = some (.slice PA pn pc) ∧ W.cell? ⟨w.heap.size, 3, none⟩ = some (.slice TA tn tc) ∧ W.cell? ⟨w.heap.size, 4, none⟩ = some (.slice EA en ec) ∧ W.cell? ⟨ab, ao + q * 5 + 3, none⟩ = some (.string nm) := fun W h => HF.out W (hbc.trans (h.mono hzc))
    have HF := Lib.hid hF
    clear hF
    go_upto_region 7 with fail
    refine wp_normal ?_
    refine wp_region_held_drew (S := fun W => Below wc.heap.size wc W) (by kernel_rfl) (Below.refl _ _).drew (fun hHeld => ?_)
    (refine tkH 0 ?_; refine tkH 1 ?_; refine tkH 2 ?_; refine tkH 3 ?_; refine tkH 4 ?_; refine tkH 5 ?_)
    refine nxH 6 (fun K hK => ?_)
    go_simp
    go_at_call 97
    refine (HFI.out nm _ hb0c.drew).mono ?_
    rintro e w6 ⟨x, rfl, hx1, hx2, hb6⟩
    replace hb6 : Below wc.heap.size wc w6 := Below.trans (Below.refl _ _).drew hb6
    refine hK.out _ _ hb6 (fun hHeld => ?_)
    clear hK K; (try simp only [Act.put, List.setIfInBounds_toArray, List.set_cons_zero, List.set_cons_succ])
    (refine tkH 7 ?_)
    refine wpAnyH_done (by kernel_rfl) ?_ _
    have hb06 := hb0c.trans (hb6.mono hb0c.size)
    have hM6 := Lib.hid (hMc.out.below hb6)
    have ks6 := ksc.ext hb6
    have k76 := k7.ext hb6
    have ho6 := own_base (own_below ho7.out hb6) hz
    have hz6 := hb06.size
    have hl6 := def_lt' k76
    obtain ⟨y0, y1⟩ := bk2 k76
    have yf := k76.frozen
    have ksr0 := ksr
    have hrb : (Value.slice A5 L.length c5).ownBlock ≠ some b7 := fun e => by have := own_lt hM.out.row _ e; omega
    clear d0 d3 HF hM ho7 hMc ksc ksr k7
    by_cases hx : 0 ≤ x
    ·have k7s : Bk _ b7 195 #[.string nm, (.slice (some ⟨w6.heap.size, 0, none⟩) 1 1)] := k76.set_ 1 (.slice (some ⟨w6.heap.size, 0, none⟩) 1 1)
     have hM7 : MgsIn (w6.setCell ⟨b7, 1, none⟩ (.slice (some ⟨w6.heap.size, 0, none⟩) 1 1)) w.heap.size (.slice A5 L.length c5) L := ⟨ownsRow_setCell_other hM6.out.row hrb _, fun p hp => ownsRow_setCell_other (hM6.out.own p hp) (own_ne (hM6.out.own p hp) k76 (by decide)) _, hM6.out.ol⟩
     have hb7w : w.heap.size < b7 := by have := def_lt' ksr0; omega
     have hb7s : Below w.heap.size w (w6.setCell ⟨b7, 1, none⟩ (.slice (some ⟨w6.heap.size, 0, none⟩) 1 1)) := hb06.setCell (show w.heap.size ≤ b7 by omega) _
     have hbx : Below (World.heap (w6.setCell ⟨b7, 1, none⟩ (.slice (some ⟨w6.heap.size, 0, none⟩) 1 1))).size (w6.setCell ⟨b7, 1, none⟩ (.slice (some ⟨w6.heap.size, 0, none⟩) 1 1)) ((w6.setCell ⟨b7, 1, none⟩ (.slice (some ⟨w6.heap.size, 0, none⟩) 1 1)).alloc (.cells #[.int .i64 x] 3)) := (Below.refl _ _).alloc (Nat.le_refl _) _
     have hsz : (World.heap (w6.setCell ⟨b7, 1, none⟩ (.slice (some ⟨w6.heap.size, 0, none⟩) 1 1))).size = w6.heap.size := by simp
     have kx1 := k7s.ext hbx
     have hM8 := Lib.hid (hM7.below hbx)
     have ks8 := (ks6.far (p := ⟨b7, 1, none⟩) (by simp; omega) (.slice (some ⟨w6.heap.size, 0, none⟩) 1 1)).ext hbx
     have hb8 := hb7s.trans (hbx.mono hb7s.size)
     have ho8 := own_sole (w6.setCell ⟨b7, 1, none⟩ (.slice (some ⟨w6.heap.size, 0, none⟩) 1 1)) w.heap.size 3 #[.int .i64 x] hb7s.size
     rw [hsz] at ho8
     go_upto_region 10 with fail
     generalize ((w6.setCell ⟨b7, 1, none⟩ (.slice (some ⟨w6.heap.size, 0, none⟩) 1 1)).alloc (.cells #[.int .i64 x] 3)) = w8 at *
     clear hbx hsz k7s hM7 hb7s
     have hz8 := hb8.size
     clear y0 y1
     obtain ⟨y0, y1⟩ := bk2 kx1
     go_wp2_with (at_builtin; ((refine app_one Tryz.underlying30 info_mg rfl (by decide) _ w.heap.size _ L.length _ hM8.out.row (by unfold maxLen; omega) (by omega) (by omega) _ rfl (by simp [Value.oneCell']) rfl _ _ rfl rfl rfl ?_); intro g9 cap9 w9 hown9 hgr9 hat9 hlt9))
     have hP8 := hM8.out.push (p := ⟨nm, .slice (some ⟨w6.heap.size, 0, none⟩) 1 1, [x]⟩) ho8 (by simp) hgr9 hown9
     go_roundw
     case rel => exact ⟨q + 1, _, by omega, by go_num, by simp; omega, Lib.hid hP8, below_own hb8 hM8.out.row hgr9 hz8 (Nat.le_refl _), ks8.grown hgr9 (own_ne hM8.out.row ks8 (by decide))⟩
     case measure => simp [intOf]; omega
    ·go_upto_region 10 with fail
     go_wp2_with (at_builtin; ((refine app_one Tryz.underlying30 info_mg rfl (by decide) _ w.heap.size _ L.length _ hM6.out.row (by unfold maxLen; omega) (by omega) (by omega) _ rfl (by simp [Value.oneCell']) rfl _ _ rfl rfl rfl ?_); intro g9 cap9 w9 hown9 hgr9 hat9 hlt9))
     have hP8 := hM6.out.push (p := ⟨nm, .slice A7 on.length c7, on⟩) ho6 hl7 hgr9 hown9
     go_roundw
     case rel => exact ⟨q + 1, _, by omega, by go_num, by simp; omega, Lib.hid hP8, below_own hb06 hM6.out.row hgr9 hz6 (Nat.le_refl _), ks6.grown hgr9 (own_ne hM6.out.row ks6 (by decide))⟩
     case measure => simp [intOf]; omega
   ·have e4 : (pk != 1) = true := by simp [hk1]
    clear hk1
    go_wp2
    go_roundw
    case rel => exact ⟨q + 1, L, by omega, by go_num, by omega, hM, hbr, ksr⟩
    case measure => simp [intOf]; omega
  ·obtain rfl : q = n := by omega
   go_wp2
   exact bodyPost_ret (v := .slice A5 L.length c5) (by simp [results, Tryz.results50, go_sem]) rfl ⟨_, L, rfl, hM.out, hL, hbr⟩
end
theorem means7_any (base c : Nat) (A : Option Addr) (l : List Mg) (s : ByteArray) (w : World) (h : MgsIn w base (.slice A l.length c) l) (hl : l.length ≤ 100000) : Calls Tryz.prog 195 #[.slice A l.length c, .string s] w (NsOut 256 w) := by
 have H := Lib.hid h
 clear h
 obtain ⟨n, hn⟩ : ∃ n, n = l.length := ⟨_, rfl⟩
 rw [← hn] at H hl ⊢
 have HN := Lib.hid hn
 clear hn
 go_enter Tryz.func195, Tryz.ntmps195
 go_wp2
 go_loop [5] (fun j => ∃ k : Nat, k ≤ n ∧ j = .int .i64 k) (fun j => n - (intOf j).toNat)
 case atStart => exact ⟨0, by omega, rfl⟩
 case round =>
  obtain ⟨k, hk, rfl⟩ := hrel
  by_cases hlt : k < n
  ·have e3 : (k : Int) < n := by omega
   obtain ⟨p, hp⟩ : ∃ p, l[k]? = some p := ⟨_, List.getElem?_eq_getElem (by have := HN.out; omega)⟩
   have hpo := H.out.own p (List.mem_of_getElem? hp)
   have hpl := H.out.ol p (List.mem_of_getElem? hp)
   obtain ⟨b, o, rfl, hb, c0, c1⟩ := H.out.at_ hp
   obtain ⟨Ap, cp, ep, -, -, -, hr⟩ := own_form hpo
   rw [ep] at c1
   have hls := Lib.hid (list3_any Ap p.on.length cp p.on w hr (by unfold maxLen; omega))
   clear hp hpo hr ep
   cases he : (p.nm.toList == s.toList) with
   | true =>
     go_wp2_with (go_at_call 222; fail)
     refine hls.out.mono ?_
     rintro e w1 ⟨v, rfl, hv, hb1⟩
     go_wp2
     go_ret
     exact ⟨v, rfl, hv, hb1⟩
   | false =>
     go_wp2
     go_round
     case rel => exact ⟨k + 1, by omega, by go_num⟩
     case measure => simp [intOf]; omega
  ·obtain rfl : k = n := by omega
   go_wp2
   go_ret
   exact ⟨_, rfl, NsIn.nil _ _ _, Below.refl _ _⟩
/-- how often a part is laid -/
def tms (p : Pt) : Nat := if p.k = 4 then (if p.hi < 0 then (max p.lo 1).toNat else p.hi.toNat) else 1
/-- how many places a part has -/
def mn (l : List Pt) (i : Nat) : Nat :=
 match l[i]? with
 | none => 0
 | some p => if p.k = 1 then 1 else ((p.ks.map fun x => if x < i then mn l x else 0).sum) * tms p
termination_by i
theorem mn_eq {l : List Pt} {i : Nat} {p : Pt} (hp : l[i]? = some p) (hk : ∀ x ∈ p.ks, x < i) : mn l i = if p.k = 1 then 1 else (p.ks.map (mn l)).sum * tms p := by
 rw [mn, hp]
 dsimp only
 split
 ·rfl
 ·congr 2
  exact List.map_congr_left fun x hx => by rw [if_pos (hk x hx)]
theorem map_take {l : List Pt} {ks : List Nat} {q x : Nat} (h : ks[q]? = some x) : ((ks.take (q + 1)).map (mn l)).sum = ((ks.take q).map (mn l)).sum + mn l x := by
 rw [List.take_add_one, h, Option.toList_some, List.map_append, List.sum_append]; simp
theorem min_mul (a t : Nat) (ht : t ≤ 20) : min (min a 257 * t) 257 = min (a * t) 257 := by
 rcases Nat.lt_or_ge 257 a with h | h
 ·rw [Nat.min_eq_right (Nat.le_of_lt h)]
  rcases Nat.eq_zero_or_pos t with rfl | ht
  ·simp
  ·rw [Nat.min_eq_right (Nat.le_mul_of_pos_right 257 ht), Nat.min_eq_right (Nat.le_trans (Nat.le_of_lt h) (Nat.le_mul_of_pos_right a ht))]
 ·rw [Nat.min_eq_left h]
def ManyAny (n c : Nat) (A : Option Addr) (l : List Pt) (i : Nat) : Prop := ∀ (base : Nat) (w : World), Parts w base (.slice A n c) n l → i < n → n ≤ 1000 → Calls Tryz.prog 104 #[.slice A n c, .int .i64 i] w fun e w' => e = .returned (.int .i64 (min (mn l i) 257 : Nat)) ∧ Below w.heap.size w w'
theorem many_step (n c : Nat) (A : Option Addr) (l : List Pt) (i : Nat) (ih : ∀ i', i' < i → ManyAny n c A l i') : ManyAny n c A l i := by
 intro base w hp hi hn
 obtain ⟨p, hpi⟩ : ∃ p, l[i]? = some p := ⟨_, List.getElem?_eq_getElem (by rw [hp.len]; exact hi)⟩
 have hok := hp.ok i p hpi
 have hkown := hp.own i p hpi
 have hkl : p.ks.length = p.m := by have := hkown.1; simpa [nts] using this
 have hmn := mn_eq hpi hok.kid
 obtain ⟨ab, ao, rfl, hab, hcc⟩ := hp.at_ hpi
 have c0 : w.cell? ⟨ab, ao + i * 5, none⟩ = some (.int .i64 p.k) := hcc 0 (by omega)
 have c1 : w.cell? ⟨ab, ao + i * 5 + 1, none⟩ = some (.int .i64 p.lo) := hcc 1 (by omega)
 have c2 : w.cell? ⟨ab, ao + i * 5 + 2, none⟩ = some (.int .i64 p.hi) := hcc 2 (by omega)
 have c3 : w.cell? ⟨ab, ao + i * 5 + 3, none⟩ = some (.string p.nm) := hcc 3 (by omega)
 have c4 : w.cell? ⟨ab, ao + i * 5 + 4, none⟩ = some (.slice p.A p.m p.c) := hcc 4 (by omega)
 unfold tms at hmn
 obtain ⟨pk, plo, phi, pnm, pA, pm, pc, pks, ps⟩ := p
 obtain ⟨⟨k1, k2⟩, ⟨lo1, lo2⟩, ⟨hi1, hi2⟩, nm1, -, -, m1, kid1⟩ := hok
 dsimp only at *
 have HP := Lib.hid hp
 have HKO := Lib.hid hkown
 have HKL := Lib.hid hkl
 have HKID := Lib.hid kid1
 have IH := Lib.hid ih
 have HMN := Lib.hid hmn
 have i0 : (0 : Int) ≤ i := by omega
 have i1 : (i : Int) < n := by omega
 clear hp hkown hkl kid1 ih hcc hpi hmn
 go_enter Tryz.func104, Tryz.ntmps104
 go_upto_region 2 with fail
 have kp := Bk.new w 192 #[.int .i64 pk, .int .i64 plo, .int .i64 phi, .string pnm, .slice pA pm pc]
 have hb0 : Below w.heap.size w (w.alloc (.cells #[.int .i64 pk, .int .i64 plo, .int .i64 phi, .string pnm, .slice pA pm pc] 192)) := belowA
 generalize w.alloc (.cells #[.int .i64 pk, .int .i64 plo, .int .i64 phi, .string pnm, .slice pA pm pc] 192) = w0 at *
 clear c0 c1 c2 c3 c4
 obtain ⟨q0, q1, q2, q3, q4⟩ := bk5 kp
 by_cases hk1 : pk = 1
 ·have e1 : (pk == 1) = true := by simp [hk1]
  have HE := Lib.hid (show mn l i = 1 by rw [HMN.out, if_pos hk1])
  clear hk1
  go_wp2
  go_ret
  exact ⟨ret_int (by rw [HE.out]; rfl), hb0⟩
 have e1 : (pk == 1) = false := beq_false_of_ne hk1
 have HE := Lib.hid (show mn l i = _ by rw [HMN.out, if_neg hk1])
 clear hk1 HMN
 go_wp2
 go_loopw [6, 7] (fun v j wr => ∃ (q : Nat) (z : Int), q ≤ pm ∧ j = .int .i64 q ∧ v = .int .i64 z ∧ 0 ≤ z ∧ z ≤ 257 ∧ Hid (z = (min ((pks.take q).map (mn l)).sum 257 : Nat)) ∧ Below w0.heap.size w0 wr) (fun _ j _ => pm - (intOf j).toNat)
 case atStart => exact ⟨0, 0, by omega, rfl, rfl, by omega, by omega, Lib.hid (by simp), Below.refl _ _⟩
 case round =>
  obtain ⟨q, z, hq, rfl, rfl, hz1, hz2, hz, hbr⟩ := hrel
  have kpr := kp.ext hbr
  clear q0 q1 q2 q3 q4
  obtain ⟨q0, q1, q2, q3, q4⟩ := bk5 kpr
  have hbw := hb0.trans (hbr.mono hb0.size)
  by_cases hlt : q < pm
  ·have e3 : (q : Int) < pm := by omega
   obtain ⟨x, hx⟩ : ∃ x, pks[q]? = some x := ⟨_, List.getElem?_eq_getElem (by rw [HKL.out]; exact hlt)⟩
   have hxi := HKID.out x (List.mem_of_getElem? hx)
   have hkx := map_take (l := l) hx
   obtain ⟨kb, ko, rfl, hkc⟩ := nts_cell (own_below HKO.out hbw) (show 0 < pm by omega)
   have hk0 := hkc q x hx
   have hih := Lib.hid (IH.out x hxi base wr (HP.out.below hbw) (by omega) hn)
   have HKX := Lib.hid hkx
   clear hx hkc hkx
   go_wp2_with (go_at_call 104; fail)
   refine hih.out.mono ?_
   rintro e w1 ⟨rfl, hb1⟩
   obtain ⟨y, hy⟩ : ∃ y : Nat, y = min (mn l x) 257 := ⟨_, rfl⟩
   have hy2 : y ≤ 257 := by omega
   have HY := Lib.hid hy
   rw [← hy]
   clear hy
   go_wp2
   all_goals
    (go_roundw
     case rel => exact ⟨q + 1, _, by omega, by go_num, rfl, by omega, by omega, Lib.hid (by rw [HKX.out]; have h1 := hz.out; have h2 := HY.out; omega), hbr.trans (hb1.mono hbr.size)⟩
     case measure => simp [intOf]; omega)
  ·obtain rfl : pm = q := by omega
   have hfull : z = (min (pks.map (mn l)).sum 257 : Nat) := by
    have := hz.out
    rwa [List.take_of_length_le (by rw [HKL.out]; exact Nat.le_refl _)] at this
   obtain ⟨S, hS⟩ : ∃ S, S = (pks.map (mn l)).sum := ⟨_, rfl⟩
   rw [← hS] at hfull
   have HES : Hid (mn l i = S * (if pk = 4 then (if phi < 0 then (max plo 1).toNat else phi.toNat) else 1)) := Lib.hid (by rw [HE.out, hS])
   clear hz HE hS
   by_cases hk4 : pk = 4
   ·have e4 : (pk == 4) = true := by simp [hk4]
    by_cases hneg : phi < 0
    ·obtain ⟨t, ht⟩ : ∃ t : Nat, (t : Int) = max plo 1 := ⟨(max plo 1).toNat, by omega⟩
     have ht1 : t ≤ 20 ∧ 1 ≤ t := by omega
     have HR : Hid (min (mn l i) 257 = min (min S 257 * t) 257) := Lib.hid (by rw [HES.out, if_pos hk4, if_pos hneg, min_mul S t ht1.1, ← ht, Int.toNat_natCast])
     have HF := Lib.hid hfull
     have HT := Lib.hid ht
     by_cases hl : plo < 1
     ·have hzz : z = ((min S 257 * t : Nat) : Int) := by
       have h1 := HT.out
       have h2 : t = 1 := by omega
       rw [h2, Nat.mul_one]
       exact HF.out
      have HZ := Lib.hid hzz
      clear hzz
      clear hk4 hfull ht
      go_wp2
      all_goals
       go_ret
       exact ⟨ret_int (by rw [HR.out]; have h1 := HZ.out; omega), hbw⟩
     ·have hzz : ∀ u : Int, u = z * plo → u = ((min S 257 * t : Nat) : Int) := by
       intro u hu
       have h1 := HT.out
       have h2 : plo = t := by omega
       rw [hu, h2, HF.out]
       simp
      have HZ := Lib.hid hzz
      clear hzz
      have hp1 : 0 ≤ z * plo := Int.mul_nonneg hz1 (by omega)
      have hp2 : z * plo ≤ 5140 := Int.le_trans (Int.mul_le_mul hz2 (show plo ≤ 20 by omega) (by omega) (by omega)) (by omega)
      clear hk4 hfull ht
      go_wp2
      all_goals
       go_ret
       exact ⟨ret_int (by rw [HR.out]; have h1 := HZ.out _ rfl; omega), hbw⟩
    ·obtain ⟨t, rfl⟩ : ∃ t : Nat, phi = (t : Int) := ⟨phi.toNat, by omega⟩
     have ht1 : t ≤ 20 := by omega
     have HR : Hid (min (mn l i) 257 = min (min S 257 * t) 257) := Lib.hid (by rw [HES.out, if_pos hk4, if_neg hneg, min_mul S t ht1, Int.toNat_natCast])
     have HF := Lib.hid hfull
     have hprod : (0 : Int) ≤ z * t ∧ z * t ≤ 5140 :=
      ⟨Int.mul_nonneg hz1 (by omega), Int.le_trans (Int.mul_le_mul hz2 (show (t : Int) ≤ 20 by omega) (by omega) (by omega)) (by omega)⟩
     obtain ⟨hp1, hp2⟩ := hprod
     have HZ : Hid (∀ u : Int, u = z * t → u = ((min S 257 * t : Nat) : Int)) := Lib.hid (fun u hu => by rw [hu, HF.out]; simp)
     clear hk4 hfull
     go_wp2
     all_goals
      go_ret
      exact ⟨ret_int (by rw [HR.out]; have h1 := HZ.out _ rfl; omega), hbw⟩
   ·have e4 : (pk == 4) = false := beq_false_of_ne hk4
    have HR : Hid (min (mn l i) 257 = min S 257) := Lib.hid (by rw [HES.out, if_neg hk4, Nat.mul_one])
    have HF := Lib.hid hfull
    clear hk4 hfull
    go_wp2
    all_goals
     go_ret
     exact ⟨ret_int (by rw [HR.out]; have := HF.out; omega), hbw⟩
/-- blocks but those of Y are as they were -/
structure Sti (Y : Nat → Prop) (w w' : World) : Prop where
 os : w'.os = w.os
 tape : w'.tape = w.tape
 output : w'.output = w.output
 size : w.heap.size ≤ w'.heap.size
 block : ∀ i, i < w.heap.size → ¬ Y i → w'.heap[i]? = w.heap[i]?
section
variable {Y Z : Nat → Prop} {w w' w'' : World}
theorem Sti.refl (Y : Nat → Prop) (w : World) : Sti Y w w := ⟨rfl, rfl, rfl, Nat.le_refl _, fun _ _ _ => rfl⟩
theorem Sti.of_below (h : Below w.heap.size w w') : Sti Y w w' := ⟨h.os, h.tape, h.output, h.size, fun i hi _ => h.block i hi⟩
theorem Sti.of_gr {row : Option Nat} (h : w.grownBy w' row) (hX : ∀ i, row = some i → Y i) : Sti Y w w' := ⟨h.os, h.tape, h.output, h.size, fun i hi hx => h.block i hi (fun e => hx (hX i e.symm))⟩
theorem Sti.trans (h : Sti Y w w') (k : Sti Z w' w'') (hY : ∀ i, Z i → Y i ∨ w.heap.size ≤ i) : Sti Y w w'' := ⟨k.os.trans h.os, k.tape.trans h.tape, k.output.trans h.output, Nat.le_trans h.size k.size, fun i hi hx => (k.block i (Nat.lt_of_lt_of_le hi h.size) (fun hz => by rcases hY i hz with h1 | h1; (· exact hx h1); (· omega))).trans (h.block i hi hx)⟩
theorem Sti.wide (h : Sti Y w w') (hY : ∀ i, Y i → Z i ∨ w.heap.size ≤ i) : Sti Z w w' := (Sti.refl Z w).trans h hY
theorem Sti.below {B : Nat} (h : Sti Y w w') (hX : ∀ i, Y i → B ≤ i) (hB : B ≤ w.heap.size) : Below B w w' := ⟨h.os, h.tape, h.output, h.size, fun i hi => h.block i (by omega) (fun hx => by have := hX i hx; omega)⟩
theorem Sti.set_ {p : Addr} (h : Sti Y w w') (hp : Y p.block ∨ w.heap.size ≤ p.block) (u : Value) : Sti Y w (w'.setCell p u) :=
 h.trans (Z := fun i => i = p.block) ⟨rfl, rfl, rfl, by simp [World.setCell], fun i hi hn => Below.heap_setCell w' p u i hn⟩ (fun i hi => by have hi : i = p.block := hi; rw [hi]; exact hp)
theorem Sti.own {base : Nat} {e : TypeId} {size : Nat} {v : Value} {n : Nat} {xs : List Value} (h : Sti Y w w') (ho : w.ownsRow base e size v n xs) (hy : ∀ g, v.ownBlock = some g → ¬ Y g) : w'.ownsRow base e size v n xs := by
 obtain ⟨h1, h2⟩ := ho
 refine ⟨h1, ?_⟩
 rcases h2 with h2 | ⟨g, cap, cur, hv, hb, hh, r⟩
 ·exact .inl h2
 ·exact .inr ⟨g, cap, cur, hv, hb, (h.block g (def_lt' hh) (hy g (by rw [hv]; rfl))).trans hh, r⟩
theorem Sti.bk {b : Nat} {t : TypeId} {cs : Array Value} (h : Sti Y w w') (k : Bk w b t cs) (hy : ¬ Y b) : Bk w' b t cs := (h.block b (def_lt' k) hy).trans k
theorem Sti.ns {base m : Nat} {v : Value} (h : Sti Y w w') (ho : NsIn w base m v) (hy : ∀ g, v.ownBlock = some g → ¬ Y g) : NsIn w' base m v := by
 obtain ⟨cs, h1, h2⟩ := ho
 exact ⟨cs, h.own h1 hy, h2⟩
end
/-- the block is none of a list of numbers -/
theorem NsIn.ne {w : World} {base m b : Nat} {t : TypeId} {cs : Array Value} {v : Value} (h : NsIn w base m v) (k : Bk w b t cs) (hne : 3 ≠ t) : v.ownBlock ≠ some b := by
 obtain ⟨xs, h1, -⟩ := h
 exact own_ne h1 k hne
theorem NsIn.ne_row {w : World} {base base' m n size : Nat} {e : TypeId} {v v' : Value} {xs : List Value} (h : NsIn w base m v) (k : w.ownsRow base' e size v' n xs) (hne : 3 ≠ e) : ∀ g, v'.ownBlock = some g → v.ownBlock ≠ some g := by
 obtain ⟨ys, h1, -⟩ := h
 exact hown_type h1 k hne
/-- rows of rising lists -/
def Rws (w : World) (B m : Nat) (v : Value) (K : Nat) : Prop := ∃ vs : List Value, w.ownsRow B 51 1 v K vs ∧ ∀ u ∈ vs, NsIn w B m u
theorem info_li : (Tryz.prog.info? 51).map (fun i => (i.zero, i.size, i.bytes)) = some (some (.slice none 0 0), 1, 24) := by kernel_rfl
section
variable {w w' : World} {B m K : Nat} {v v' : Value} {Y : Nat → Prop}
theorem Rws.nil (w : World) (B m : Nat) : Rws w B m (.slice none 0 0) 0 := ⟨[], World.ownsRow_nil _ _ _ _, (fun u h => by cases h)⟩
theorem Rws.below (h : Rws w B m v K) (hb : Below w.heap.size w w') : Rws w' B m v K := by
 obtain ⟨vs, h1, h2⟩ := h
 exact ⟨vs, own_below h1 hb, fun u hu => (h2 u hu).below hb⟩
theorem Rws.mono {m' : Nat} (h : Rws w B m v K) (hm : m ≤ m') : Rws w B m' v K := by
 obtain ⟨vs, h1, h2⟩ := h
 exact ⟨vs, h1, fun u hu => (h2 u hu).mono hm (Nat.le_refl _)⟩
theorem Rws.sti (h : Rws w B m v K) (hs : Sti Y w w') (hv : ∀ g, v.ownBlock = some g → ¬ Y g) (hy : ∀ u, NsIn w B m u → ∀ g, u.ownBlock = some g → ¬ Y g) : Rws w' B m v K := by
 obtain ⟨vs, h1, h2⟩ := h
 exact ⟨vs, hs.own h1 hv, fun u hu => hs.ns (h2 u hu) (hy u (h2 u hu))⟩
theorem Rws.form (h : Rws w B m v K) : ∃ A c, v = .slice A K c := by
 obtain ⟨vs, h1, h2⟩ := h
 obtain ⟨A, c, e, -⟩ := own_form h1
 exact ⟨A, c, e⟩
theorem Rws.at_ {A : Option Addr} {c k : Nat} (h : Rws w B m (.slice A K c) K) (hk : k < K) : ∃ (g : Nat) (u : Value), A = some ⟨g, 0, none⟩ ∧ B ≤ g ∧ g < w.heap.size ∧ w.cell? ⟨g, k, none⟩ = some u ∧ NsIn w B m u ∧ (∀ i, w.frozen? ⟨g, i, none⟩ = false) := by
 obtain ⟨vs, h1, h2⟩ := h
 obtain ⟨hl, h3⟩ := h1
 rcases h3 with ⟨h4, h5⟩ | ⟨g, cap, cur, hv, hb, hh, hnc, hcm, hsz, htk⟩
 ·omega
 ·injection hv with e1 e2 e3
  have hlt : k < vs.length := by rw [hl]; omega
  obtain ⟨x, hu⟩ : ∃ x, vs[k]? = some x := ⟨_, List.getElem?_eq_getElem hlt⟩
  refine ⟨g, x, e1, hb, def_lt' hh, ?_, h2 _ (List.mem_of_getElem? hu), fun i => ?_⟩
  ·have hk' : Bk w g 51 cur := hh
   rw [hk'.cell k]
   rw [← htk, List.getElem?_take] at hu
   split at hu
   ·simpa using hu
   ·cases hu
  ·have hk' : Bk w g 51 cur := hh
   exact hk'.frozen i
/-- an element is set -/
theorem own_put1 {e : TypeId} {base g cap k n : Nat} {xs : List Value} (h : w.ownsRow base e 1 (.slice (some ⟨g, 0, none⟩) n cap) n xs) (hk : k < n) (u : Value) : (w.setCell ⟨g, k, none⟩ u).ownsRow base e 1 (.slice (some ⟨g, 0, none⟩) n cap) n (xs.set k u) := by
 obtain ⟨hl, h3⟩ := h
 refine ⟨by simpa using hl, .inr ?_⟩
 rcases h3 with ⟨h4, h5⟩ | ⟨g', cap', cur, hv, hb, hh, hnc, hcm, hsz, htk⟩
 ·omega
 ·injection hv with e1 e2 e3
  injection e1 with e1
  injection e1 with e1
  subst e1
  subst e3
  have hk' : Bk w g e cur := hh
  refine ⟨g, cap, cur.setIfInBounds k u, rfl, hb, hk'.set_ k u, hnc, hcm, by simpa using hsz, ?_⟩
  rw [Array.toList_setIfInBounds, ← htk, List.take_set]
theorem Rws.put {g c k : Nat} {u : Value} (h : Rws w B m (.slice (some ⟨g, 0, none⟩) K c) K) (hk : k < K) (hu : NsIn w B m u) : Rws (w.setCell ⟨g, k, none⟩ u) B m (.slice (some ⟨g, 0, none⟩) K c) K := by
 obtain ⟨vs, h1, h2⟩ := h
 have ns : ∀ x, NsIn w B m x → NsIn (w.setCell ⟨g, k, none⟩ u) B m x := fun x ⟨cs, k1, k2⟩ => ⟨cs, ownsRow_setCell_other k1 (hown_type k1 h1 (by decide) g rfl) _, k2⟩
 refine ⟨vs.set k u, own_put1 h1 hk u, fun x hx => ?_⟩
 rcases List.mem_or_eq_of_mem_set hx with hx | rfl
 ·exact ns x (h2 x hx)
 ·exact ns _ hu
theorem Rws.push {u : Value} (h : Rws w B m v K) (hu : NsIn w B m u) (hg : w.grownBy w' v.ownBlock) (ho : ∀ vs : List Value, w.ownsRow B 51 1 v K vs → w'.ownsRow B 51 1 v' (K + 1) (vs ++ [u])) : Rws w' B m v' (K + 1) := by
 obtain ⟨vs, h1, h2⟩ := h
 have ns : ∀ x, NsIn w B m x → NsIn w' B m x := fun x ⟨cs, k1, k2⟩ => ⟨cs, hown_grow k1 hg (hown_type k1 h1 (by decide)), k2⟩
 refine ⟨vs ++ [u], ho vs h1, fun x hx => ?_⟩
 rcases List.mem_append.1 hx with hx | hx
 ·exact ns x (h2 x hx)
 ·simp at hx; subst hx; exact ns _ hu
end
theorem set_size (w : World) (p : Addr) (u : Value) : (w.setCell p u).heap.size = w.heap.size := by simp [World.setCell]
/-- what `then` leaves -/
structure ThenI (B m ob xb : Nat) (o0 bh of oe : Value) (om : Bool) (x0 x1 xf xe : Value) (xm : Bool) (w wr : World) : Prop where
 o : Bk wr ob 205 #[o0, bh, of, oe, .bool om]
 x : Bk wr xb 205 #[x0, x1, xf, xe, .bool xm]
 r : Rws wr B m bh m
 f : NsIn wr B m of
 e : NsIn wr B m oe
 xf : NsIn wr B m xf
 xe : NsIn wr B m xe
 s : Sti (fun i => i = ob ∨ bh.ownBlock = some i) w wr
 h : w.heap.size ≤ xb
 l : ob < w.heap.size
theorem ThenI.below {B m ob xb : Nat} {o0 bh of oe x0 x1 xf xe : Value} {om xm : Bool} {w wr wx : World} (h : ThenI B m ob xb o0 bh of oe om x0 x1 xf xe xm w wr) (hb : Below wr.heap.size wr wx) : ThenI B m ob xb o0 bh of oe om x0 x1 xf xe xm w wx :=
 ⟨h.o.ext hb, h.x.ext hb, h.r.below hb, h.f.below hb, h.e.below hb, h.xf.below hb, h.xe.below hb, h.s.trans (Sti.of_below (Y := fun _ => False) hb) (fun i hi => hi.elim), h.h, h.l⟩
theorem ThenI.put {B m ob xb g c k : Nat} {o0 of oe x0 x1 xf xe u : Value} {om xm : Bool} {w wr : World} (h : ThenI B m ob xb o0 (.slice (some ⟨g, 0, none⟩) m c) of oe om x0 x1 xf xe xm w wr) (hk : k < m) (hu : NsIn wr B m u) : ThenI B m ob xb o0 (.slice (some ⟨g, 0, none⟩) m c) of oe om x0 x1 xf xe xm w (wr.setCell ⟨g, k, none⟩ u) := by
 obtain ⟨vs, hr1, hr2⟩ := id h.r
 have ns : ∀ x, NsIn wr B m x → NsIn (wr.setCell ⟨g, k, none⟩ u) B m x := fun x ⟨cs, k1, k2⟩ => ⟨cs, ownsRow_setCell_other k1 (hown_type k1 hr1 (by decide) g rfl) _, k2⟩
 have n1 : ob ≠ g := fun e => own_ne hr1 h.o (by decide) (by rw [e]; rfl)
 have n2 : xb ≠ g := fun e => own_ne hr1 h.x (by decide) (by rw [e]; rfl)
 exact ⟨h.o.far (p := ⟨g, k, none⟩) n1 _, h.x.far (p := ⟨g, k, none⟩) n2 _, h.r.put hk hu, ns _ h.f, ns _ h.e, ns _ h.xf, ns _ h.xe, h.s.set_ (p := ⟨g, k, none⟩) (.inl (.inr rfl)) _, h.h, h.l⟩
/-- a field of the net is set -/
theorem ThenI.set {B m ob xb : Nat} {o0 bh of oe of' oe' x0 x1 xf xe : Value} {om om' xm : Bool} {w wr : World} (h : ThenI B m ob xb o0 bh of oe om x0 x1 xf xe xm w wr) (j : Nat) (u : Value) (hk : Bk (wr.setCell ⟨ob, j, none⟩ u) ob 205 #[o0, bh, of', oe', .bool om']) (hf : NsIn wr B m of') (he : NsIn wr B m oe') : ThenI B m ob xb o0 bh of' oe' om' x0 x1 xf xe xm w (wr.setCell ⟨ob, j, none⟩ u) := by
 have ns : ∀ x, NsIn wr B m x → NsIn (wr.setCell ⟨ob, j, none⟩ u) B m x := fun x hx => by
  have hne := hx.ne h.o (by decide)
  obtain ⟨cs, k1, k2⟩ := hx
  exact ⟨cs, ownsRow_setCell_other k1 hne _, k2⟩
 obtain ⟨vs, hr1, hr2⟩ := id h.r
 have hl := h.l
 have hh := h.h
 exact ⟨hk, h.x.far (p := ⟨ob, j, none⟩) (by simp; omega) _, ⟨vs, ownsRow_setCell_other hr1 (own_ne hr1 h.o (by decide)) _, fun x hx => ns x (hr2 x hx)⟩, ns _ hf, ns _ he, ns _ h.xf, ns _ h.xe, h.s.set_ (p := ⟨ob, j, none⟩) (.inl (.inl rfl)) _, h.h, h.l⟩
end Go.Proofs.YtmacfoebfpljoaaGreat
namespace Go.Proofs.YtmacfoebfpljoaaGreat
open Go.RowKit
section
variable {P : Program} {ops : Array Oper} {Q : Exit → Act → World → Prop} {md : Region.Mode} {S : World → Prop} {k : Nat}
/-- whatever comes up, S holds behind it, unless it is the k-th -/
def AnyK (P : Program) (md : Region.Mode) (ops : Array Oper) (Q : Exit → Act → World → Prop) (S : World → Prop) (k : Nat) : Nat → Array Bool → Act → World → Prop
 | 0, l, a, w => Region.ready md ops l = [] ∧ Q .normal a w
 | n + 1, l, a, w => (Region.ready md ops l = [] → Q .normal a w) ∧ ∀ i ∈ Region.ready md ops l, wpOp P ops Q i (fun a' w' => (i ≠ k → S w') ∧ AnyK P md ops Q S k n (l.setIfInBounds i true) a' w') a w
/-- k waits for i -/
def waits (md : Region.Mode) (ops : Array Oper) (k i : Nat) : Bool := match ops[k]? with | some o => o.after.any fun e => Region.binds md e && decide (e.on = i) | none => true
/-- whichever of rs comes next -/
def ReadyK (P : Program) (md : Region.Mode) (ops : Array Oper) (Q : Exit → Act → World → Prop) (S : World → Prop) (k n : Nat) (l : Array Bool) (a : Act) (w : World) (rs : List Nat) : Prop :=
 ∀ i ∈ rs, wpOp P ops Q i (fun a' w' => (i ≠ k → S w') ∧ AnyK P md ops Q S k n (l.setIfInBounds i true) a' w') a w
theorem ReadyK.nil {n : Nat} {l : Array Bool} {a : Act} {w : World} : ReadyK P md ops Q S k n l a w [] := fun _ h => by cases h
theorem ReadyK.cons {n : Nat} {l : Array Bool} {a : Act} {w : World} {i : Nat} {o : Oper} {rs : List Nat} (ho : ops[i]? = some o)
 (h : ∀ K : Act → World → Prop, Shut (∀ a w, S w → (S w → AnyK P md ops Q S k n (l.setIfInBounds i true) a w) → K a w) → if Region.wanted o (yielded ops a.tmps) = true then Oper.wp P o a w K Q else K (a.put o.dst undef) w)
 (hs : ReadyK P md ops Q S k n l a w rs) : ReadyK P md ops Q S k n l a w (i :: rs) := by
 intro j hj
 rcases List.mem_cons.1 hj with rfl | hj
 ·exact wpOp_step ho fun K hK => h K fun a w hS hW => hK a w ⟨fun _ => hS, hW hS⟩
 ·exact hs j hj
end
section
variable {P : Program} {ops : Array Oper} {Q : Exit → Act → World → Prop} {md : Region.Mode} {S : World → Prop} {ks : List Nat}
/-- whatever comes up, S holds behind it, unless it is one of ks -/
def AnyL (P : Program) (md : Region.Mode) (ops : Array Oper) (Q : Exit → Act → World → Prop) (S : World → Prop) (ks : List Nat) : Nat → Array Bool → Act → World → Prop
 | 0, l, a, w => Region.ready md ops l = [] ∧ Q .normal a w
 | n + 1, l, a, w => (Region.ready md ops l = [] → Q .normal a w) ∧ ∀ i ∈ Region.ready md ops l, wpOp P ops Q i (fun a' w' => (i ∉ ks → S w') ∧ AnyL P md ops Q S ks n (l.setIfInBounds i true) a' w') a w
theorem any_of_L (n : Nat) : ∀ (l : Array Bool) (a : Act) (w : World), AnyL P md ops Q S ks n l a w → wpAny P md ops Q n l a w := by
 induction n with
 | zero => intro l a w h; exact h
 | succ n ih => intro l a w h; exact ⟨h.1, fun i hi => wpOp_mono (fun a' w' h' => ih _ a' w' h'.2) (h.2 i hi)⟩
/-- what is listed has its forerunners listed -/
def Closed (md : Region.Mode) (ops : Array Oper) (l : Array Bool) : Prop := ∀ (j : Nat) (o : Oper), ops[j]? = some o → l.getD j false = true → ∀ e ∈ o.after, Region.binds md e = true → l.getD e.on false = true
def closedB (md : Region.Mode) (ops : Array Oper) (l : Array Bool) : Bool := (List.range ops.size).all fun j => match ops[j]? with | some o => !(l.getD j false) || o.after.all (fun e => !(Region.binds md e) || l.getD e.on false) | none => true
theorem closedB_spec {l : Array Bool} (h : closedB md ops l = true) : Closed md ops l := by
 intro j o ho hl e he hb
 have hj := (Array.getElem?_eq_some_iff.1 ho).1
 have := List.all_eq_true.1 h j (List.mem_range.2 hj)
 rw [ho] at this
 simp only [hl, Bool.not_true, Bool.false_or] at this
 have h2 := Array.all_eq_true'.1 this e he
 simpa [hb] using h2
theorem getD_set_mono {l : Array Bool} {m j : Nat} (h : l.getD m false = true) : (l.setIfInBounds j true).getD m false = true := by
 simp only [Array.getD_eq_getD_getElem?, Array.getElem?_setIfInBounds] at *
 by_cases e : j = m
 ·subst e
  rw [if_pos rfl]
  split
  ·rfl
  ·rename_i hh
   rw [Array.getElem?_eq_none (by omega)] at h
   cases h
 ·rw [if_neg e]; exact h
theorem Closed.set {l : Array Bool} {j : Nat} (h : Closed md ops l) (hj : j ∈ Region.ready md ops l) : Closed md ops (l.setIfInBounds j true) := by
 intro m o ho hm e he hb
 by_cases ejm : j = m
 ·subst ejm
  obtain ⟨_, o', ho', hall⟩ := mem_ready.1 hj
  rw [ho] at ho'
  injection ho' with ho'
  subst ho'
  exact getD_set_mono (hall e he hb)
 ·refine getD_set_mono (h m o ho ?_ e he hb)
  simpa [Array.getElem?_setIfInBounds, ejm] using hm
/-- k waits for i, or for one that does -/
def waits2 (md : Region.Mode) (ops : Array Oper) (k i : Nat) : Bool := match ops[k]? with | some o => o.after.any fun e => Region.binds md e && (decide (e.on = i) || (ops[e.on]?.isSome && waits md ops e.on i)) | none => true
theorem not_ready2 {k i : Nat} {l : Array Bool} (hc : Closed md ops l) (hw : waits2 md ops k i = true) (hi : l.getD i true = false) : k ∉ Region.ready md ops l := by
 intro hk
 have hi' : l.getD i false ≠ true := by
  intro h
  rcases Nat.lt_or_ge i l.size with hs | hs
  ·simp [hs] at h hi; rw [hi] at h; cases h
  ·simp [Array.getElem?_eq_none hs] at hi
 obtain ⟨_, o, ho, hall⟩ := mem_ready.1 hk
 unfold waits2 at hw
 rw [ho] at hw
 obtain ⟨e, he, hb⟩ := Array.any_eq_true'.1 hw
 simp only [Bool.and_eq_true, Bool.or_eq_true, decide_eq_true_eq] at hb
 have hl := hall e he hb.1
 rcases hb.2 with h | ⟨h1, h2⟩
 ·rw [h] at hl; exact hi' hl
 ·obtain ⟨o2, ho2⟩ := Option.isSome_iff_exists.1 h1
  unfold waits at h2
  rw [ho2] at h2
  obtain ⟨e2, he2, hb2⟩ := Array.any_eq_true'.1 h2
  simp only [Bool.and_eq_true, decide_eq_true_eq] at hb2
  have := hc _ _ ho2 hl e2 he2 hb2.1
  rw [hb2.2] at this
  exact hi' this
/-- operation i is taken first: those of ks wait for it -/
theorem takeL {i : Nat} {oi : Oper} {v : Value} (hi : ops[i]? = some oi) (hsel : ∀ (j : Nat) (o : Oper) cs b, ops[j]? = some o → o.op ≠ .select cs b)
 (hQ : ∀ c a w, Q (.panic c) (a.put oi.dst v) w → Q (.panic c) a w) (hwt : ∀ k ∈ ks, waits2 md ops k i = true) (n : Nat) :
 ∀ (l : Array Bool) (a : Act) (w : World), Closed md ops l → (∀ j oj, ops[j]? = some oj → j ≠ i → l.getD j true = false → (∀ e ∈ oj.after, Region.binds md e = true → e.on ≠ i) → oi.apart ops oj = true) →
  i ∈ Region.ready md ops l → YieldsIf P ops S oi v a → S w → AnyL P md ops Q S ks n (l.setIfInBounds i true) (a.put oi.dst v) w → AnyL P md ops Q S ks (n + 1) l a w := by
 have other : ∀ {l : Array Bool} {j : Nat}, Closed md ops l → i ∈ Region.ready md ops l → j ∈ Region.ready md ops l → j ≠ i → j ∉ ks ∧ l.getD j true = false ∧ ∃ oj, ops[j]? = some oj ∧ ∀ e ∈ oj.after, Region.binds md e = true → e.on ≠ i := by
  intro l j hc hr hj hji
  refine ⟨fun e => not_ready2 hc (hwt j e) (mem_ready.1 hr).1 hj, ?_⟩
  obtain ⟨h1, oj, h2, h3⟩ := mem_ready.1 hj
  refine ⟨h1, oj, h2, fun e he hb heq => ?_⟩
  have hx := h3 e he hb
  have h0 := (mem_ready.1 hr).1
  rw [heq] at hx
  rcases Nat.lt_or_ge i l.size with h | h
  ·simp [h] at h0 hx; rw [h0] at hx; cases hx
  ·simp [Array.getElem?_eq_none h] at h0
 induction n with
 | zero =>
   intro l a w hc hfree hr hy hS H
   refine ⟨fun h => absurd (h ▸ hr) (by simp), fun j hj => ?_⟩
   by_cases hji : j = i
   ·subst hji; exact hy.wpOp hi hS ⟨fun _ => hS, H⟩
   ·exact absurd (H.1 ▸ ready_mono hj hji) (by simp)
 | succ n ih =>
   intro l a w hc hfree hr hy hS H
   refine ⟨fun h => absurd (h ▸ hr) (by simp), fun j hj => ?_⟩
   by_cases hji : j = i
   ·subst hji; exact hy.wpOp hi hS ⟨fun _ => hS, H⟩
   obtain ⟨hjk, hjun, oj, hoj, hnot⟩ := other hc hr hj hji
   refine wpOp_mono (fun a' w' h3 => ⟨fun _ => h3.2.1 hjk, ih (l.setIfInBounds j true) a' w' (hc.set hj) ?_ (ready_mono hr (Ne.symm hji)) h3.1 (h3.2.1 hjk) ?_⟩)
    (wpOp_putIf hoj (hfree j oj hoj hji hjun hnot) (fun cs b => hsel i oi cs b hi) (fun cs b => hsel j oj cs b hoj) hQ hy (H.2 j (ready_mono hj hji)))
   ·intro m om hom hmi hun hno
    refine hfree m om hom hmi ?_ hno
    by_cases hjm : j = m
    ·subst hjm; exact hjun
    ·rw [getD_set_ne true hjm] at hun; exact hun
   ·rw [Array.setIfInBounds_comm _ _ hji]
    exact h3.2.2
theorem takeL_if {i : Nat} {oi : Oper} {v : Value} {n : Nat} {l : Array Bool} {a : Act} {w : World} (hi : ops[i]? = some oi)
 (hs : Region.noSelect ops = true) (hf : Region.free md ops l i = true) (hr : ((Region.ready md ops l).contains i && ks.all (fun k => waits2 md ops k i) && closedB md ops l) = true)
 (hQ : ∀ c a w, Q (.panic c) (a.put oi.dst v) w → Q (.panic c) a w) (hw : Region.wanted oi (yielded ops a.tmps) = true) (hy : ∀ w, S w → (execOp a.eval oi).run P w = .ok (.value v) w) (hS : S w)
 (h : AnyL P md ops Q S ks n (l.setIfInBounds i true) (a.put oi.dst v) w) : AnyL P md ops Q S ks (n + 1) l a w := by
 rw [Bool.and_eq_true, Bool.and_eq_true] at hr
 exact takeL hi (Region.noSelect_spec hs) hQ (by simpa using hr.1.2) n l a w (closedB_spec hr.2) (Region.free_spec hi hf) (by simpa using hr.1.1) (.inl ⟨hw, hy⟩) hS h
/-- whichever of rs comes next -/
def ReadyL (P : Program) (md : Region.Mode) (ops : Array Oper) (Q : Exit → Act → World → Prop) (S : World → Prop) (ks : List Nat) (n : Nat) (l : Array Bool) (a : Act) (w : World) (rs : List Nat) : Prop :=
 ∀ i ∈ rs, wpOp P ops Q i (fun a' w' => (i ∉ ks → S w') ∧ AnyL P md ops Q S ks n (l.setIfInBounds i true) a' w') a w
theorem ReadyL.nil {n : Nat} {l : Array Bool} {a : Act} {w : World} : ReadyL P md ops Q S ks n l a w [] := fun _ h => by cases h
theorem ReadyL.cons {n : Nat} {l : Array Bool} {a : Act} {w : World} {i : Nat} {o : Oper} {rs : List Nat} (ho : ops[i]? = some o)
 (h : ∀ K : Act → World → Prop, Shut (∀ a w, S w → (S w → AnyL P md ops Q S ks n (l.setIfInBounds i true) a w) → K a w) → if Region.wanted o (yielded ops a.tmps) = true then Oper.wp P o a w K Q else K (a.put o.dst undef) w)
 (hs : ReadyL P md ops Q S ks n l a w rs) : ReadyL P md ops Q S ks n l a w (i :: rs) := by
 intro j hj
 rcases List.mem_cons.1 hj with rfl | hj
 ·exact wpOp_step ho fun K hK => h K fun a w hS hW => hK a w ⟨fun _ => hS, hW hS⟩
 ·exact hs j hj
theorem anyL_ready {rs : List Nat} {n : Nat} {l : Array Bool} {a : Act} {w : World} (hr : Region.ready md ops l = rs) (hne : rs ≠ []) (h : ReadyL P md ops Q S ks n l a w rs) : AnyL P md ops Q S ks (n + 1) l a w :=
 ⟨fun e => absurd (hr.symm.trans e) hne, fun i hi => h i (hr ▸ hi)⟩
/-- one of the last ones -/
theorem anyL_late {i : Nat} {o : Oper} {n : Nat} {l : Array Bool} {a : Act} {w : World} (hr : Region.ready md ops l = [i]) (hi : ks.contains i = true) (ho : ops[i]? = some o)
 (h : ∀ K : Act → World → Prop, Shut (∀ a w, AnyL P md ops Q S ks n (l.setIfInBounds i true) a w → K a w) → if Region.wanted o (yielded ops a.tmps) = true then Oper.wp P o a w K Q else K (a.put o.dst undef) w) : AnyL P md ops Q S ks (n + 1) l a w := by
 refine ⟨fun e => (by rw [hr] at e; cases e), fun j hj => ?_⟩
 rw [hr] at hj
 obtain rfl : j = i := by simpa using hj
 exact wpOp_step ho fun K hK => h K fun a w hq => hK a w ⟨fun h => absurd (by simpa using hi) h, hq⟩
theorem anyL_done {n : Nat} {l : Array Bool} {a : Act} {w : World} (hr : Region.ready md ops l = []) (hq : Q .normal a w) : AnyL P md ops Q S ks n l a w := by
 cases n with
 | zero => exact ⟨hr, hq⟩
 | succ n => exact ⟨fun _ => hq, fun j hj => by rw [hr] at hj; cases hj⟩
/-- the beginning -/
theorem region_L {id : Nat} {a : Act} {w : World} (ks : List Nat) (hm : P.follows .mixedOrders = true) (hS : S w.drew)
 (h : S w.drew → AnyL P .any ops Q S ks ops.size (Array.replicate ops.size false) a w.drew) : (Code.region id ops true).wp P Q a w :=
 wp_region_any hm (any_of_L _ _ _ _ (h hS))
theorem region_round_L {lp n id : Nat} {a : Act} {w : World} (ks : List Nat) (hno : ¬ LetsOut Q) (hd : noDefer ops = true) (hm : P.follows .mixedOrders = true) (hS : S w.drew)
 (h : S w.drew → AnyL P .any ops Q S ks ops.size (Array.replicate ops.size false) a w.drew) : (Code.region id ops true).wpIn (Fence.wide.inRound lp) n P Q a w :=
 wpIn_region_any hm (wpAny_round hno hd _ _ _ _ (any_of_L _ _ _ _ (h hS)))
theorem tkL (i : Nat) {oi : Oper} {v : Value} {fuel : Nat} {listed : Array Bool} {a a' : Act} {w : World} (h : AnyL P md ops Q S ks fuel (listed.setIfInBounds i true) a' w) (hi : ops[i]? = some oi := by simp only [List.getElem?_toArray, List.getElem?_cons_succ, List.getElem?_cons_zero]; rfl)
 (hs : Region.noSelect ops = true := by kernel_rfl) (hf : Region.free md ops listed i = true := by kernel_rfl) (hr : ((Region.ready md ops listed).contains i && ks.all (fun k => waits2 md ops k i) && closedB md ops listed) = true := by kernel_rfl)
 (hQ : ∀ c a w, Q (.panic c) (a.put oi.dst v) w → Q (.panic c) a w := by exact fun _ _ _ h => h) (hw : Region.wanted oi (yielded ops a.tmps) = true := by rfl)
 (hy : ∀ w, S w → (execOp a.eval oi).run P w = .ok (.value v) w := by (focus ((intro w hSw; (try have hSw := HF.out _ hSw); (try dsimp only at hSw); go_simp); try exact rfl)))
 (hS : S w := by assumption)
 (ha : a.put oi.dst v = a' := by (simp only [Act.put, List.setIfInBounds_toArray, List.set_cons_zero, List.set_cons_succ]; rfl)) : AnyL P md ops Q S ks (fuel + 1) listed a w := by
 subst ha
 exact takeL_if hi hs hf hr hQ hw hy hS h
theorem nxL (i : Nat) {o : Oper} {n : Nat} {l : Array Bool} {a : Act} {w : World}
 (h : ∀ K : Act → World → Prop, Shut (∀ a w, S w → (S w → AnyL P md ops Q S ks n (l.setIfInBounds i true) a w) → K a w) → if Region.wanted o (yielded ops a.tmps) = true then Oper.wp P o a w K Q else K (a.put o.dst undef) w)
 (hr : Region.ready md ops l = [i] := by kernel_rfl) (ho : ops[i]? = some o := by simp only [List.getElem?_toArray, List.getElem?_cons_succ, List.getElem?_cons_zero]; rfl) : AnyL P md ops Q S ks (n + 1) l a w :=
 anyL_ready hr (by simp) (ReadyL.cons ho h ReadyL.nil)
theorem ltL (i : Nat) {o : Oper} {n : Nat} {l : Array Bool} {a : Act} {w : World}
 (h : ∀ K : Act → World → Prop, Shut (∀ a w, AnyL P md ops Q S ks n (l.setIfInBounds i true) a w → K a w) → if Region.wanted o (yielded ops a.tmps) = true then Oper.wp P o a w K Q else K (a.put o.dst undef) w)
 (hr : Region.ready md ops l = [i] := by kernel_rfl) (hi : ks.contains i = true := by kernel_rfl) (ho : ops[i]? = some o := by simp only [List.getElem?_toArray, List.getElem?_cons_succ, List.getElem?_cons_zero]; rfl) : AnyL P md ops Q S ks (n + 1) l a w :=
 anyL_late hr hi ho h
end
section
variable {P : Program} {ops : Array Oper} {Q : Exit → Act → World → Prop} {md : Region.Mode} {S : World → Prop} {ks : List Nat}
theorem puH {fuel : Nat} {listed : Array Bool} {a a' : Act} {w : World} (h : wpAnyH P md ops Q S fuel listed a' w) (ha : a = a' := by ((try simp only [Act.put, List.setIfInBounds_toArray, List.set_cons_zero, List.set_cons_succ]); rfl)) : wpAnyH P md ops Q S fuel listed a w := by
 subst ha
 exact h
theorem puL {fuel : Nat} {listed : Array Bool} {a a' : Act} {w : World} (h : AnyL P md ops Q S ks fuel listed a' w) (ha : a = a' := by ((try simp only [Act.put, List.setIfInBounds_toArray, List.set_cons_zero, List.set_cons_succ]); rfl)) : AnyL P md ops Q S ks fuel listed a w := by
 subst ha
 exact h
end
section
variable {P : Program} {ops : Array Oper} {Q : Exit → Act → World → Prop} {md : Region.Mode} {S : World → Prop} {ks : List Nat}
/-- k waits for i, by at most so many steps -/
def waitsD (md : Region.Mode) (ops : Array Oper) : Nat → Nat → Nat → Bool
 | 0, _, _ => false
 | d + 1, k, i => match ops[k]? with | some o => o.after.any fun e => Region.binds md e && (decide (e.on = i) || waitsD md ops d e.on i) | none => false
theorem listed_of {l : Array Bool} {i : Nat} (hc : Closed md ops l) : ∀ (d k : Nat), waitsD md ops d k i = true → l.getD k false = true → l.getD i false = true := by
 intro d
 induction d with
 | zero => intro k h _; cases h
 | succ d ih =>
   intro k h hk
   unfold waitsD at h
   cases ho : ops[k]? with
   | none => rw [ho] at h; cases h
   | some o =>
     rw [ho] at h
     obtain ⟨e, he, hb⟩ := Array.any_eq_true'.1 h
     simp only [Bool.and_eq_true, Bool.or_eq_true, decide_eq_true_eq] at hb
     have hl := hc _ _ ho hk e he hb.1
     rcases hb.2 with h2 | h2
     ·rw [← h2]; exact hl
     ·exact ih _ h2 hl
theorem not_readyD {k i d : Nat} {l : Array Bool} (hc : Closed md ops l) (hw : waitsD md ops d k i = true) (hi : l.getD i true = false) : k ∉ Region.ready md ops l := by
 intro hk
 have hi' : l.getD i false ≠ true := by
  intro h
  rcases Nat.lt_or_ge i l.size with hs | hs
  ·simp [hs] at h hi; rw [hi] at h; cases h
  ·simp [Array.getElem?_eq_none hs] at hi
 obtain ⟨_, o, ho, hall⟩ := mem_ready.1 hk
 cases d with
 | zero => cases hw
 | succ d =>
   unfold waitsD at hw
   rw [ho] at hw
   obtain ⟨e, he, hb⟩ := Array.any_eq_true'.1 hw
   simp only [Bool.and_eq_true, Bool.or_eq_true, decide_eq_true_eq] at hb
   have hl := hall e he hb.1
   rcases hb.2 with h | h
   ·rw [h] at hl; exact hi' hl
   ·exact hi' (listed_of hc d _ h hl)
/-- operation i is taken first: those of ks wait for it, or were there -/
theorem takeD {i : Nat} {oi : Oper} {v : Value} (hi : ops[i]? = some oi) (hsel : ∀ (j : Nat) (o : Oper) cs b, ops[j]? = some o → o.op ≠ .select cs b)
 (hQ : ∀ c a w, Q (.panic c) (a.put oi.dst v) w → Q (.panic c) a w) (n : Nat) :
 ∀ (l : Array Bool) (a : Act) (w : World), (∀ k ∈ ks, l.getD k false = true ∨ waitsD md ops ops.size k i = true) → Closed md ops l → (∀ j oj, ops[j]? = some oj → j ≠ i → l.getD j true = false → (∀ e ∈ oj.after, Region.binds md e = true → e.on ≠ i) → oi.apart ops oj = true) →
  i ∈ Region.ready md ops l → YieldsIf P ops S oi v a → S w → AnyL P md ops Q S ks n (l.setIfInBounds i true) (a.put oi.dst v) w → AnyL P md ops Q S ks (n + 1) l a w := by
 have un : ∀ {l : Array Bool} {k : Nat}, l.getD k false = true → ¬ l.getD k true = false := by
  intro l k h h0
  rcases Nat.lt_or_ge k l.size with h1 | h1
  ·simp [h1] at h h0; rw [h0] at h; cases h
  ·simp [Array.getElem?_eq_none h1] at h
 have other : ∀ {l : Array Bool} {j : Nat}, (∀ k ∈ ks, l.getD k false = true ∨ waitsD md ops ops.size k i = true) → Closed md ops l → i ∈ Region.ready md ops l → j ∈ Region.ready md ops l → j ≠ i → j ∉ ks ∧ l.getD j true = false ∧ ∃ oj, ops[j]? = some oj ∧ ∀ e ∈ oj.after, Region.binds md e = true → e.on ≠ i := by
  intro l j hwt hc hr hj hji
  refine ⟨fun e => ?_, ?_⟩
  ·rcases hwt j e with h | h
   ·exact un h (mem_ready.1 hj).1
   ·exact not_readyD hc h (mem_ready.1 hr).1 hj
  obtain ⟨h1, oj, h2, h3⟩ := mem_ready.1 hj
  refine ⟨h1, oj, h2, fun e he hb heq => ?_⟩
  have hx := h3 e he hb
  rw [heq] at hx
  exact un hx (mem_ready.1 hr).1
 induction n with
 | zero =>
   intro l a w hwt hc hfree hr hy hS H
   refine ⟨fun h => absurd (h ▸ hr) (by simp), fun j hj => ?_⟩
   by_cases hji : j = i
   ·subst hji; exact hy.wpOp hi hS ⟨fun _ => hS, H⟩
   ·exact absurd (H.1 ▸ ready_mono hj hji) (by simp)
 | succ n ih =>
   intro l a w hwt hc hfree hr hy hS H
   refine ⟨fun h => absurd (h ▸ hr) (by simp), fun j hj => ?_⟩
   by_cases hji : j = i
   ·subst hji; exact hy.wpOp hi hS ⟨fun _ => hS, H⟩
   obtain ⟨hjk, hjun, oj, hoj, hnot⟩ := other hwt hc hr hj hji
   refine wpOp_mono (fun a' w' h3 => ⟨fun _ => h3.2.1 hjk, ih (l.setIfInBounds j true) a' w' (fun k hk => (hwt k hk).imp getD_set_mono id) (hc.set hj) ?_ (ready_mono hr (Ne.symm hji)) h3.1 (h3.2.1 hjk) ?_⟩)
    (wpOp_putIf hoj (hfree j oj hoj hji hjun hnot) (fun cs b => hsel i oi cs b hi) (fun cs b => hsel j oj cs b hoj) hQ hy (H.2 j (ready_mono hj hji)))
   ·intro m om hom hmi hun hno
    refine hfree m om hom hmi ?_ hno
    by_cases hjm : j = m
    ·subst hjm; exact hjun
    ·rw [getD_set_ne true hjm] at hun; exact hun
   ·rw [Array.setIfInBounds_comm _ _ hji]
    exact h3.2.2
theorem takeD_if {i : Nat} {oi : Oper} {v : Value} {n : Nat} {l : Array Bool} {a : Act} {w : World} (hi : ops[i]? = some oi)
 (hs : Region.noSelect ops = true) (hf : Region.free md ops l i = true) (hr : ((Region.ready md ops l).contains i && ks.all (fun k => l.getD k false || waitsD md ops ops.size k i) && closedB md ops l) = true)
 (hQ : ∀ c a w, Q (.panic c) (a.put oi.dst v) w → Q (.panic c) a w) (hw : Region.wanted oi (yielded ops a.tmps) = true) (hy : ∀ w, S w → (execOp a.eval oi).run P w = .ok (.value v) w) (hS : S w)
 (h : AnyL P md ops Q S ks n (l.setIfInBounds i true) (a.put oi.dst v) w) : AnyL P md ops Q S ks (n + 1) l a w := by
 rw [Bool.and_eq_true, Bool.and_eq_true] at hr
 exact takeD hi (Region.noSelect_spec hs) hQ n l a w (by simpa using hr.1.2) (closedB_spec hr.2) (Region.free_spec hi hf) (by simpa using hr.1.1) (.inl ⟨hw, hy⟩) hS h
theorem takeD_not {i : Nat} {oi : Oper} {n : Nat} {l : Array Bool} {a : Act} {w : World} (hi : ops[i]? = some oi)
 (hs : Region.noSelect ops = true) (hf : Region.free md ops l i = true) (hr : ((Region.ready md ops l).contains i && ks.all (fun k => l.getD k false || waitsD md ops ops.size k i) && closedB md ops l) = true)
 (hQ : ∀ c a w, Q (.panic c) (a.put oi.dst undef) w → Q (.panic c) a w) (hw : Region.wanted oi (yielded ops a.tmps) = false) (hS : S w)
 (h : AnyL P md ops Q S ks n (l.setIfInBounds i true) (a.put oi.dst undef) w) : AnyL P md ops Q S ks (n + 1) l a w := by
 rw [Bool.and_eq_true, Bool.and_eq_true] at hr
 exact takeD hi (Region.noSelect_spec hs) hQ n l a w (by simpa using hr.1.2) (closedB_spec hr.2) (Region.free_spec hi hf) (by simpa using hr.1.1) (.inr ⟨hw, rfl⟩) hS h
theorem tkD (i : Nat) {oi : Oper} {v : Value} {fuel : Nat} {listed : Array Bool} {a a' : Act} {w : World} (h : AnyL P md ops Q S ks fuel (listed.setIfInBounds i true) a' w) (hi : ops[i]? = some oi := by simp only [List.getElem?_toArray, List.getElem?_cons_succ, List.getElem?_cons_zero]; rfl)
 (hs : Region.noSelect ops = true := by kernel_rfl) (hf : Region.free md ops listed i = true := by kernel_rfl) (hr : ((Region.ready md ops listed).contains i && ks.all (fun k => listed.getD k false || waitsD md ops ops.size k i) && closedB md ops listed) = true := by kernel_rfl)
 (hQ : ∀ c a w, Q (.panic c) (a.put oi.dst v) w → Q (.panic c) a w := by exact fun _ _ _ h => h) (hw : Region.wanted oi (yielded ops a.tmps) = true := by rfl)
 (hy : ∀ w, S w → (execOp a.eval oi).run P w = .ok (.value v) w := by (focus ((intro w hSw; (try have hSw := HF.out _ hSw); (try dsimp only at hSw); go_simp); try exact rfl)))
 (hS : S w := by assumption)
 (ha : a.put oi.dst v = a' := by (simp only [Act.put, List.setIfInBounds_toArray, List.set_cons_zero, List.set_cons_succ]; rfl)) : AnyL P md ops Q S ks (fuel + 1) listed a w := by
 subst ha
 exact takeD_if hi hs hf hr hQ hw hy hS h
theorem tnD (i : Nat) {oi : Oper} {fuel : Nat} {listed : Array Bool} {a a' : Act} {w : World} (h : AnyL P md ops Q S ks fuel (listed.setIfInBounds i true) a' w) (hi : ops[i]? = some oi := by simp only [List.getElem?_toArray, List.getElem?_cons_succ, List.getElem?_cons_zero]; rfl)
 (hs : Region.noSelect ops = true := by kernel_rfl) (hf : Region.free md ops listed i = true := by kernel_rfl) (hr : ((Region.ready md ops listed).contains i && ks.all (fun k => listed.getD k false || waitsD md ops ops.size k i) && closedB md ops listed) = true := by kernel_rfl)
 (hQ : ∀ c a w, Q (.panic c) (a.put oi.dst undef) w → Q (.panic c) a w := by exact fun _ _ _ h => h) (hw : Region.wanted oi (yielded ops a.tmps) = false := by rfl)
 (hS : S w := by assumption)
 (ha : a.put oi.dst undef = a' := by (simp only [Act.put, List.setIfInBounds_toArray, List.set_cons_zero, List.set_cons_succ]; rfl)) : AnyL P md ops Q S ks (fuel + 1) listed a w := by
 subst ha
 exact takeD_not hi hs hf hr hQ hw hS h
end
end Go.Proofs.YtmacfoebfpljoaaGreat
