/- merged texts: Ho Hq Hra Hrb Hrc -/
import Derived.Test.YtmacfoebfpljoaaGreatMa4
import Derived.Deep.CutBlock
set_option maxRecDepth 100000
set_option maxHeartbeats 16000000
namespace Go.Proofs.YtmacfoebfpljoaaGreat
open Go.RowKit
set_option linter.unusedVariables false
abbrev zeroN : Array Value := #[.string { data := #[] }, .slice none 0 0, .bool false, .bool false, .bool false, .int .i64 0, .bool false, .slice none 0 0, .string { data := #[] }]
/-- how a node's line is left -/
theorem node_left {w W : World} {p p2 : Nd} (kr : Bk W w.heap.size 113 p2.arr) (hi : p.In W w.heap.size) (hb : Below w.heap.size w W) : p.In (set9 W w.heap.size (.string p.nm) p.gv (.bool p.il) (.bool p.pk) (.bool p.lf) (.int .i64 p.at_) (.bool p.all) p.mv (.string p.ex)) w.heap.size ∧ Below w.heap.size w (set9 W w.heap.size (.string p.nm) p.gv (.bool p.il) (.bool p.pk) (.bool p.lf) (.int .i64 p.at_) (.bool p.all) p.mv (.string p.ex)) ∧ Bk (set9 W w.heap.size (.string p.nm) p.gv (.bool p.il) (.bool p.pk) (.bool p.lf) (.int .i64 p.at_) (.bool p.all) p.mv (.string p.ex)) w.heap.size 113 #[.string p.nm, p.gv, .bool p.il, .bool p.pk, .bool p.lf, .int .i64 p.at_, .bool p.all, p.mv, .string p.ex] :=
 ⟨⟨set9_own kr hi.g (by decide) _ _ _ _ _ _ _ _ _, hi.gl, set9_own kr hi.m (by decide) _ _ _ _ _ _ _ _ _, hi.ml, hi.ex⟩, hb.trans (set9_below (Nat.le_refl _) _ _ _ _ _ _ _ _ _), set9_bk kr _ _ _ _ _ _ _ _ _⟩
theorem node10_any (A : Option Addr) (n c : Nat) (l : List ByteArray) (w : World) (h : Rd w w.heap.size 1 A n (strs l)) (hl : szs l ≤ 65538) (hnc : n ≤ c) (hcm : c ≤ maxLen) (h2 : 2 ≤ n) : Calls Tryz.prog 147 #[.slice A n c] w (NodeOut w) := by
 unfold maxLen at hcm
 have hll := strs_len h
 have hn := szs_len l
 have hn2 : n ≤ 65538 := by omega
 have H := Lib.hid h
 have HL := Lib.hid (And.intro hll hl)
 obtain ⟨ab, ao, x1, rfl, hab, -, hx1⟩ := strs_at h (show 1 < n by omega)
 have e1 : (1 : Int) < n := by omega
 clear h hll hn hl
 go_enter Tryz.func147, Tryz.ntmps147
 go_upto_region 2 with fail
 have kr : Bk ((w.alloc (.cells zeroN 113)).alloc (.cells #[.string x1, .slice none 0 0, .bool false, .bool false, .bool true, .int .i64 0, .bool false, .slice none 0 0, .string { data := #[] }] 113)) w.heap.size 113 Nd.zero.arr := (Bk.new w _ _).alloc _
 have kn : Bk ((w.alloc (.cells zeroN 113)).alloc (.cells #[.string x1, .slice none 0 0, .bool false, .bool false, .bool true, .int .i64 0, .bool false, .slice none 0 0, .string { data := #[] }] 113)) (w.heap.size + 1) 113 (⟨x1, .slice none 0 0, [], false, false, true, 0, false, .slice none 0 0, [], { data := #[] }⟩ : Nd).arr := Bk.made _ _ (by simp)
 have hb0 : Below w.heap.size w ((w.alloc (.cells zeroN 113)).alloc (.cells #[.string x1, .slice none 0 0, .bool false, .bool false, .bool true, .int .i64 0, .bool false, .slice none 0 0, .string { data := #[] }] 113)) := belowA
 generalize (w.alloc (.cells zeroN 113)).alloc (.cells #[.string x1, .slice none 0 0, .bool false, .bool false, .bool true, .int .i64 0, .bool false, .slice none 0 0, .string { data := #[] }] 113) = w0 at *
 have hI0 := Lib.hid (show NodeI w w0 2 (.slice none 0 0) [] ⟨x1, .slice none 0 0, [], false, false, true, 0, false, .slice none 0 0, [], { data := #[] }⟩ from ⟨World.ownsRow_nil _ _ _ _, by simp, kr, kn, ⟨World.ownsRow_nil _ _ _ _, by simp, World.ownsRow_nil _ _ _ _, by simp, by show (0 : Nat) ≤ _; omega⟩, by simp, hb0, (fun j hj => by simp [Value.ownBlock] at hj), (fun j hj => by simp [Value.ownBlock] at hj)⟩)
 clear kr kn hb0 hx1
 go_wp2
 go_loopw [5, 6] (fun v j wr => ∃ (k : Nat) (ml : List ByteArray) (p : Nd), k ≤ n ∧ j = .int .i64 k ∧ Hid (NodeI w wr k v ml p)) (fun _ j _ => n - (intOf j).toNat)
 case atStart => exact ⟨2, [], _, by omega, rfl, hI0⟩
 case round =>
  clear hI0
  obtain ⟨k, ml, p, hk, rfl, hI⟩ := hrel
  obtain ⟨Am, cm, rfl, hm1, hm2, -, hmr⟩ := own_form hI.out.own
  have HM := Lib.hid hmr
  have hbw := hI.out.b
  have hz := hbw.size
  have hmlen := hI.out.mlen
  obtain ⟨nm, gv, gs, il, pk, lf, at_, all, mv, ms, ex⟩ := p
  have hgl := hI.out.g
  obtain ⟨Ag, cg, eg, -, -, -, -⟩ := own_form hI.out.i.g
  obtain ⟨Ak, ck, ek, -, -, -, -⟩ := own_form hI.out.i.m
  dsimp only at eg ek
  subst eg
  subst ek
  have rf := hI.out.r.frozen; have rl := def_lt' hI.out.r
  have nf := hI.out.n.frozen; have nl := def_lt' hI.out.n
  obtain ⟨q0, q1, q2, q3, q4, q5, q6, q7, q8⟩ := bk9 hI.out.n
  obtain ⟨r0, r1, r2, r3, r4, r5, r6, r7, r8⟩ := bk9 (show Bk wr w.heap.size 113 zeroN from hI.out.r)
  dsimp only at hgl
  clear hmr hm1 hm2
  by_cases hlt : k < n
  ·have e3 : (k : Int) < n := by omega
   obtain ⟨b', o', y, hA, hb', hy, hyc⟩ := strs_at (H.out.below hbw) hlt
   obtain ⟨rfl, rfl⟩ : ab = b' ∧ ao = o' := by simpa using hA
   have HY := Lib.hid (szs_mem (List.mem_of_getElem? hy))
   have hy2 : y.size ≤ 65538 := by have := HY.out; have := HL.out.2; omega
   clear hA hy
   by_cases hcol : (y.toList == [58]) = true
   ·have e4 : (k : Int) + 1 ≤ n := by omega
    have e5 : (k : Int) + 1 ≤ c := by omega
    have hszr : szs (l.drop (k + 1)) ≤ 65538 := Nat.le_trans (szs_drop_le l (k + 1)) HL.out.2
    have hr1 : Rd wr wr.heap.size 1 (some ⟨ab, ao + (k + 1), none⟩) (n - (k + 1)) (strs (l.drop (k + 1))) := ((rd_rest H.out (show k + 1 ≤ n by omega)).below hbw).more hz
    have hr0 : c = k + 1 → Rd wr wr.heap.size 1 (some ⟨ab, ao, none⟩) (n - (k + 1)) (strs (l.drop (k + 1))) := fun h => by
     rw [show n - (k + 1) = 0 by omega, List.drop_of_length_le (by rw [HL.out.1]; omega)]
     exact Rd.nil_ _ _ _ _
    have hj := fun A' c' hr => join_any A' (n - (k + 1)) c' (l.drop (k + 1)) wr hr (by omega)
    have HJJ := Lib.hid hj
    have HR1 := Lib.hid hr1
    have HR0 := Lib.hid hr0
    have HS := Lib.hid hszr
    clear hj hr1 hr0 hszr
    by_cases hcap : c = k + 1
    case' pos =>
     have HJ := Lib.hid (HJJ.out _ 0 (HR0.out hcap))
     clear HJJ HR1 HR0
     go_wp2_with (go_at_call 188; fail)
    case' neg =>
     have HJ := Lib.hid (HJJ.out _ (c - (k + 1)) HR1.out)
     clear HJJ HR1 HR0
     go_wp2_with (go_at_call 188; fail)
    all_goals
     refine HJ.out.mono ?_
     rintro e w1 ⟨⟨s, rfl, hs⟩, hb1⟩
     have hp6 := Lib.hid (parse6_any s w1 (by have := HS.out; omega))
     go_wp2_with (go_at_call 49; fail)
     refine hp6.out.mono ?_
     rintro e w2 ⟨v2, at2, er, rfl, ⟨n2, l2, hP, hn2', hw2⟩, hb2⟩
     obtain ⟨A2, c2, rfl, -, -, -, -⟩ := own_form hP.row
     have hb12 : Below wr.heap.size wr w2 := hb1.trans (hb2.mono hb1.size)
     have hI2 := hI.out.below hb12
     have h4 := hI2.set (p' := ⟨nm, .slice Ag gs.length cg, gs, il, pk, false, at_, all, .slice Ak ms.length ck, ms, ex⟩) 4 (.bool false) (hI2.n.set_ 4 _) rfl rfl rfl rfl hI.out.i.ex
     have hP4 := Lib.hid (hP.grow (row := some (w.heap.size + 1)) (gr_set (p := ⟨w.heap.size + 1, 4, none⟩) (World.grownBy.refl w2 _) (.inl rfl) (.bool false)) (fun g hg => by cases hg; exact own_ne hP.row hI2.n (by decide)) (fun i p hp g hg => by cases hg; exact own_ne (hP.own i p hp) hI2.n (by decide)))
     have H4 := Lib.hid h4
     have rf2 := hI2.r.frozen; have rl2 := def_lt' hI2.r
     have nf2 := hI2.n.frozen; have nl2 := def_lt' hI2.n
     obtain ⟨s0, s1, s2, s3, s4, s5, s6, s7, s8⟩ := bk9 hI2.n
     obtain ⟨t0, t1, t2, t3, t4, t5, t6, t7, t8⟩ := bk9 (show Bk w2 w.heap.size 113 zeroN from hI2.r)
     clear hP h4 hI2
     by_cases h0 : n2 = 0
     ·have f0 : ¬ (0 : Int) < n2 := by omega
      clear h0
      go_wp2
      have hL := node_left H4.out.r H4.out.i H4.out.b
      dsimp only at hL
      obtain ⟨hL1, hL2, hL3⟩ := hL
      unfold set9 at hL1 hL2 hL3
      obtain ⟨z0, z1, z2, z3, z4, z5, z6, z7, z8⟩ := bk9 hL3
      exact bodyPost_ret (v := .tuple #[.agg #[.string nm, .slice Ag gs.length cg, .bool il, .bool pk, .bool false, .int .i64 at_, .bool all, .slice Ak ms.length ck, .string ex], .bool (er == 0)]) (by simp [results, Tryz.results147, go_sem, z0, z1, z2, z3, z4, z5, z6, z7, z8]) rfl ⟨(⟨nm, .slice Ag gs.length cg, gs, il, pk, false, at_, all, .slice Ak ms.length ck, ms, ex⟩ : Nd), _, rfl, hL1, hL2⟩
     ·have f0 : (0 : Int) < n2 := by omega
      have hsh := fun hn => show6_any n2 c2 _ A2 l2 _ hP4.out (by omega) hn hw2
      have HSH := Lib.hid (hsh (by omega))
      clear hsh h0
      go_wp2_with (go_at_call 189; fail)
      refine HSH.out.mono ?_
      rintro e w4 ⟨s4', rfl, hs4, hb4⟩
      have hI4 := H4.out.below hb4
      have h5 := hI4.set (p' := ⟨nm, .slice Ag gs.length cg, gs, il, pk, false, at_, all, .slice Ak ms.length ck, ms, s4'⟩) 8 (.string s4') (hI4.n.set_ 8 _) rfl rfl rfl rfl hs4
      have H5 := Lib.hid h5
      have rf4 := hI4.r.frozen; have rl4 := def_lt' hI4.r
      have nf4 := hI4.n.frozen; have nl4 := def_lt' hI4.n
      obtain ⟨a0, a1, a2, a3, a4, a5, a6, a7, a8⟩ := bk9 hI4.n
      obtain ⟨d0, d1, d2, d3, d4, d5, d6, d7, d8⟩ := bk9 (show Bk w4 w.heap.size 113 zeroN from hI4.r)
      clear h5 hI4
      go_wp2
      have hL := node_left H5.out.r H5.out.i H5.out.b
      dsimp only at hL
      obtain ⟨hL1, hL2, hL3⟩ := hL
      unfold set9 at hL1 hL2 hL3
      obtain ⟨z0, z1, z2, z3, z4, z5, z6, z7, z8⟩ := bk9 hL3
      exact bodyPost_ret (v := .tuple #[.agg #[.string nm, .slice Ag gs.length cg, .bool il, .bool pk, .bool false, .int .i64 at_, .bool all, .slice Ak ms.length ck, .string s4'], .bool (er == 0)]) (by simp [results, Tryz.results147, go_sem, z0, z1, z2, z3, z4, z5, z6, z7, z8]) rfl ⟨(⟨nm, .slice Ag gs.length cg, gs, il, pk, false, at_, all, .slice Ak ms.length ck, ms, s4'⟩ : Nd), _, rfl, hL1, hL2⟩
   ·replace hcol : (y.toList == [58]) = false := by simpa using hcol
    have hct := Lib.hid (cut10_any y wr (by unfold maxLen; omega))
    go_wp2_with (go_at_call 185; fail)
    refine hct.out.mono ?_
    rintro e w1 ⟨x, v, hb, rfl, hx, hv, hb1⟩
    have hI1 := Lib.hid (hI.out.below hb1)
    have hha := has10_any Am ml.length cm ml x w1 ((HM.out.below hb1).more hb1.size) (by unfold maxLen; omega)
    have HHA := Lib.hid hha
    clear hha hct q0 q1 q2 q3 q4 q5 q6 q7 q8 r0 r1 r2 r3 r4 r5 r6 r7 r8 rf rl nf nl
    go_wp2_with (go_at_call 151; fail)
    refine HHA.out.mono ?_
    rintro e w2 ⟨⟨b0, rfl⟩, hb2⟩
    have hI2 := Lib.hid (hI1.out.below hb2)
    have hz2 := hI2.out.b.size
    go_upto_block 2 with (at_builtin; ((refine app_one Tryz.underlying111 info_str rfl (by decide) w2 w.heap.size _ ml.length _ hI2.out.own (by unfold maxLen; omega) (by omega) hz2 _ rfl (by simp [Value.oneCell']) rfl _ _ rfl rfl rfl ?_); intro g4 cap4 w4 hown4 hgr4 hat4 hlt4))
    have hI4 := Lib.hid (hI2.out.push hgr4 hown4 hat4)
    clear hown4 hgr4 hat4 hI1 hI2 HHA hI HM hlt4 hz2 hb1 hb2
    go_cut [13] (fun u wx => ∃ (bb : Bool) (p' : Nd), u = .bool bb ∧ Hid (NodeI w wx (k + 1) (.slice (some ⟨g4, 0, none⟩) (ml.length + 1) cap4) (ml ++ [x]) p'))
    case first =>
     go_upto_region 16 with fail
     go_cut [69] (fun u wx => ∃ bb : Bool, u = .bool bb ∧ wx = w4)
     case first =>
      cases hxg : (x.toList == [103, 114, 111, 117, 112]) <;> cases hb
      all_goals
       go_wp2
       go_meet
       exact ⟨_, rfl, rfl⟩
     case rest =>
     obtain ⟨bb, rfl, hwc⟩ := hcut
     rw [← hwc] at hI4
     clear hwc
     have rf4 := hI4.out.r.frozen; have rl4 := def_lt' hI4.out.r; have nf4 := hI4.out.n.frozen; have nl4 := def_lt' hI4.out.n; obtain ⟨s04, s14, s24, s34, s44, s54, s64, s74, s84⟩ := bk9 hI4.out.n
     have hz4 := hI4.out.b.size
     cases bb with
     | true =>
       have hr2 : Rd wc wc.heap.size 1 Ag gs.length (strs gs) := by
        obtain ⟨Ag2, cg2, eg2, -, -, -, hr2⟩ := own_form hI4.out.i.g
        injection eg2 with ea eb ec
        subst ea
        exact hr2
       have HR2 := Lib.hid hr2
       clear hr2
       have hnm := Lib.hid (name_any v wc (by unfold maxLen; omega))
       go_upto_region 17 with fail
       go_cut [13] (fun u wx => ∃ bb : Bool, u = .bool bb ∧ Below wc.heap.size wc wx)
       case first =>
        go_wp2_with (go_at_call 145; fail)
        refine hnm.out.mono ?_
        rintro e w5 ⟨⟨b1, rfl⟩, hb5⟩
        have hI5 := Lib.hid (hI4.out.below hb5)
        have rf5 := hI5.out.r.frozen; have rl5 := def_lt' hI5.out.r; have nf5 := hI5.out.n.frozen; have nl5 := def_lt' hI5.out.n; obtain ⟨s05, s15, s25, s35, s45, s55, s65, s75, s85⟩ := bk9 hI5.out.n
        cases b1 with
        | false =>
          go_wp2
          go_meet
          exact ⟨_, rfl, hb5⟩
        | true =>
          have hha := has10_any Ag gs.length cg gs v w5 ((HR2.out.below hb5).more hb5.size) (by unfold maxLen; omega)
          have HHA := Lib.hid hha
          clear hha
          go_wp2_with (go_at_call 151; fail)
          refine HHA.out.mono ?_
          rintro e w6 ⟨⟨b2, rfl⟩, hb6⟩
          have hb56 := hb5.trans (hb6.mono hb5.size)
          have hI6 := Lib.hid (hI4.out.below hb56)
          have rf6 := hI6.out.r.frozen; have rl6 := def_lt' hI6.out.r; have nf6 := hI6.out.n.frozen; have nl6 := def_lt' hI6.out.n; obtain ⟨s06, s16, s26, s36, s46, s56, s66, s76, s86⟩ := bk9 hI6.out.n
          cases b2
          all_goals
           go_wp2
           go_meet
           exact ⟨_, rfl, hb56⟩
       case rest =>
       obtain ⟨bb, rfl, hb5⟩ := hcut
       have hI5 := Lib.hid (hI4.out.below hb5)
       have rf5 := hI5.out.r.frozen; have rl5 := def_lt' hI5.out.r; have nf5 := hI5.out.n.frozen; have nl5 := def_lt' hI5.out.n; obtain ⟨s05, s15, s25, s35, s45, s55, s65, s75, s85⟩ := bk9 hI5.out.n
       have hz5 := hI5.out.b.size
       go_wp2_with (at_builtin; ((refine app_one Tryz.underlying111 info_str rfl (by decide) _ w.heap.size _ gs.length _ hI5.out.i.g (by unfold maxLen; omega) (by omega) hz5 _ rfl (by simp [Value.oneCell']) rfl _ _ rfl rfl rfl ?_); intro g6 cap6 w6 hown6 hgr6 hat6 hlt6; have kn6 := hI5.out.n.grown hgr6 (own_ne hI5.out.i.g hI5.out.n (by decide)); have nf6 := kn6.frozen; have nl6 := def_lt' kn6; obtain ⟨m0, m1, m2, m3, m4, m5, m6, m7, m8⟩ := bk9 kn6))
       go_meet
       exact ⟨_, _, rfl, Lib.hid (hI5.out.grp (by show gs.length + 3 ≤ _; omega) (by omega) hgr6 hown6 hat6)⟩
     | false =>
       have hvl := Lib.hid (value_any v wc (by unfold maxLen; omega))
       have hls := Lib.hid (list10_any v wc (by omega))
       rcases words4 x.toList with ⟨t1, t2, t3, t4⟩ | ⟨t1, t2, t3, t4⟩ | ⟨t1, t2, t3, t4⟩ | ⟨t1, t2, t3, t4⟩ | ⟨t1, t2, t3, t4⟩
       all_goals cases hb
       all_goals cases b0
       all_goals go_wp2_with (first | (go_at_call 186; (refine hvl.out.mono ?_); rintro e w5 ⟨⟨z, rfl, -, -⟩, hb5⟩; have hI5 := Lib.hid (hI4.out.below hb5); have rf5 := hI5.out.r.frozen; have rl5 := def_lt' hI5.out.r; have nf5 := hI5.out.n.frozen; have nl5 := def_lt' hI5.out.n; obtain ⟨s05, s15, s25, s35, s45, s55, s65, s75, s85⟩ := bk9 hI5.out.n) | (go_at_call 187; (refine hls.out.mono ?_); rintro e w5 ⟨a5, v5, b5, rfl, htx, hb5⟩; have hI5 := Lib.hid (hI4.out.below hb5); obtain ⟨l5, ho5, hs5⟩ := htx.own; obtain ⟨A5, c5, rfl, -, -, -, -⟩ := own_form ho5; have rf5 := hI5.out.r.frozen; have rl5 := def_lt' hI5.out.r; have nf5 := hI5.out.n.frozen; have nl5 := def_lt' hI5.out.n; obtain ⟨s05, s15, s25, s35, s45, s55, s65, s75, s85⟩ := bk9 hI5.out.n))
       all_goals go_meet
       all_goals first
        | exact ⟨_, _, rfl, hI4⟩
        | exact ⟨_, _, rfl, Lib.hid (hI4.out.set (p' := ⟨nm, .slice Ag gs.length cg, gs, true, pk, lf, at_, all, .slice Ak ms.length ck, ms, ex⟩) 2 (.bool true) (hI4.out.n.set_ 2 _) rfl rfl rfl rfl hI4.out.i.ex)⟩
        | exact ⟨_, _, rfl, Lib.hid (hI4.out.set (p' := ⟨nm, .slice Ag gs.length cg, gs, il, true, lf, at_, all, .slice Ak ms.length ck, ms, ex⟩) 3 (.bool true) (hI4.out.n.set_ 3 _) rfl rfl rfl rfl hI4.out.i.ex)⟩
        | exact ⟨_, _, rfl, Lib.hid (hI5.out.set (p' := ⟨nm, .slice Ag gs.length cg, gs, il, pk, lf, z, all, .slice Ak ms.length ck, ms, ex⟩) 5 (.int .i64 z) (hI5.out.n.set_ 5 _) rfl rfl rfl rfl hI4.out.i.ex)⟩
        | exact ⟨_, _, rfl, Lib.hid (hI4.out.mks hb5 ho5 (by have := szs_len l5; omega) a5)⟩
    case rest =>
    obtain ⟨bb, p', rfl, hI6⟩ := hcut
    have rf := hI6.out.r.frozen; have rl := def_lt' hI6.out.r
    obtain ⟨r0, r1, r2, r3, r4, r5, r6, r7, r8⟩ := bk9 (show Bk _ w.heap.size 113 zeroN from hI6.out.r)
    cases bb with
    | true =>
      go_wp2
      go_roundw
      case rel => exact ⟨k + 1, ml ++ [x], p', by omega, by go_num, hI6⟩
      case measure => simp [intOf]; omega
    | false =>
      go_wp2
      have hL := node_left (p := Nd.zero) hI6.out.r (Nd.zero_in _ _) hI6.out.b
      dsimp only [Nd.zero] at hL
      obtain ⟨hL1, hL2, hL3⟩ := hL
      unfold set9 at hL1 hL2 hL3
      obtain ⟨z0, z1, z2, z3, z4, z5, z6, z7, z8⟩ := bk9 hL3
      exact bodyPost_ret (v := .tuple #[.agg zeroN, .bool false]) (by simp [results, Tryz.results147, go_sem, z0, z1, z2, z3, z4, z5, z6, z7, z8]) rfl ⟨Nd.zero, _, rfl, hL1, hL2⟩
  ·obtain rfl : n = k := by omega
   go_wp2
   have hL := node_left hI.out.r hI.out.i hI.out.b
   dsimp only at hL
   obtain ⟨hL1, hL2, hL3⟩ := hL
   unfold set9 at hL1 hL2 hL3
   obtain ⟨z0, z1, z2, z3, z4, z5, z6, z7, z8⟩ := bk9 hL3
   exact bodyPost_ret (v := .tuple #[.agg #[.string nm, .slice Ag gs.length cg, .bool il, .bool pk, .bool lf, .int .i64 at_, .bool all, .slice Ak ms.length ck, .string ex], .bool true]) (by simp [results, Tryz.results147, go_sem, z0, z1, z2, z3, z4, z5, z6, z7, z8]) rfl ⟨(⟨nm, .slice Ag gs.length cg, gs, il, pk, lf, at_, all, .slice Ak ms.length ck, ms, ex⟩ : Nd), _, rfl, hL1, hL2⟩
/-- what a line says of a mark -/
structure Mr where
 nm : ByteArray
 val : Int
 all : Bool
 bv : Value
 bs : List ByteArray
def Mr.arr (p : Mr) : Array Value := #[.string p.nm, .int .i64 p.val, .bool p.all, p.bv]
def Mr.zero : Mr := ⟨{ data := #[] }, 0, false, .slice none 0 0, []⟩
structure Mr.In (p : Mr) (w : World) (base : Nat) : Prop where
 b : w.ownsRow base 9 1 p.bv p.bs.length (strs p.bs)
 bl : p.bs.length ≤ 70000
theorem Mr.In.below {p : Mr} {w w' : World} {base : Nat} (h : p.In w base) (hb : Below w.heap.size w w') : p.In w' base := ⟨own_below h.b hb, h.bl⟩
theorem Mr.In.base_ {p : Mr} {w : World} {base base' : Nat} (h : p.In w base) (hb : base' ≤ base) : p.In w base' := ⟨own_base h.b hb, h.bl⟩
theorem Mr.zero_in (w : World) (base : Nat) : Mr.zero.In w base := ⟨World.ownsRow_nil _ _ _ _, by simp [Mr.zero]⟩
theorem bk4 {w : World} {b : Nat} {t : TypeId} {x0 x1 x2 x3 : Value} (k : Bk w b t #[x0, x1, x2, x3]) : w.cell? ⟨b, 0, none⟩ = some x0 ∧ w.cell? ⟨b, 1, none⟩ = some x1 ∧ w.cell? ⟨b, 2, none⟩ = some x2 ∧ w.cell? ⟨b, 3, none⟩ = some x3 :=
 ⟨k.cell 0, k.cell 1, k.cell 2, k.cell 3⟩
def set4 (w : World) (b : Nat) (x0 x1 x2 x3 : Value) : World := (((w.setCell ⟨b, 0, none⟩ x0).setCell ⟨b, 1, none⟩ x1).setCell ⟨b, 2, none⟩ x2).setCell ⟨b, 3, none⟩ x3
theorem set4_bk {w : World} {b : Nat} {t : TypeId} {y0 y1 y2 y3 : Value} (k : Bk w b t #[y0, y1, y2, y3]) (x0 x1 x2 x3 : Value) : Bk (set4 w b x0 x1 x2 x3) b t #[x0, x1, x2, x3] := by
 have q0 : Bk _ b t #[x0, y1, y2, y3] := k.set_ 0 x0
 have q1 : Bk _ b t #[x0, x1, y2, y3] := q0.set_ 1 x1
 have q2 : Bk _ b t #[x0, x1, x2, y3] := q1.set_ 2 x2
 have q3 : Bk _ b t #[x0, x1, x2, x3] := q2.set_ 3 x3
 exact q3
theorem set4_below {w : World} {base b : Nat} (hb : base ≤ b) (x0 x1 x2 x3 : Value) : Below base w (set4 w b x0 x1 x2 x3) := by
 unfold set4
 iterate 4 with_reducible refine Below.setCell ?_ hb _
 exact Below.refl _ _
theorem set4_own {w : World} {b : Nat} {t : TypeId} {cs : Array Value} (k : Bk w b t cs) {base : Nat} {e : TypeId} {size : Nat} {v : Value} {n : Nat} {xs : List Value} (h : w.ownsRow base e size v n xs) (hne : e ≠ t) (x0 x1 x2 x3 : Value) : (set4 w b x0 x1 x2 x3).ownsRow base e size v n xs := by
 have hb := own_ne h k hne
 exact ownsRow_setCell_other (ownsRow_setCell_other (ownsRow_setCell_other (ownsRow_setCell_other h hb x0) hb x1) hb x2) hb x3
/-- in the midst of a line -/
structure MarkI (w wr : World) (k : Nat) (met : Value) (ml : List ByteArray) (p : Mr) : Prop where
 own : wr.ownsRow w.heap.size 9 1 met ml.length (strs ml)
 mlen : ml.length + 2 ≤ k
 r : Bk wr w.heap.size 183 Mr.zero.arr
 n : Bk wr (w.heap.size + 1) 183 p.arr
 i : p.In wr w.heap.size
 b : Below w.heap.size w wr
 dj : ∀ j, met.ownBlock = some j → p.bv.ownBlock ≠ some j
theorem MarkI.below {w wr wx : World} {k : Nat} {met : Value} {ml : List ByteArray} {p : Mr} (h : MarkI w wr k met ml p) (hb : Below wr.heap.size wr wx) : MarkI w wx k met ml p :=
 ⟨own_below h.own hb, h.mlen, h.r.ext hb, h.n.ext hb, h.i.below hb, h.b.trans (hb.mono h.b.size), h.dj⟩
theorem MarkI.set {w wr : World} {k : Nat} {met : Value} {ml : List ByteArray} {p p' : Mr} (h : MarkI w wr k met ml p) (j : Nat) (u : Value) (hp : Bk (wr.setCell ⟨w.heap.size + 1, j, none⟩ u) (w.heap.size + 1) 183 p'.arr) (e1 : p'.bv = p.bv) (e2 : p'.bs = p.bs) : MarkI w (wr.setCell ⟨w.heap.size + 1, j, none⟩ u) k met ml p' :=
 ⟨ownsRow_setCell_other h.own (own_ne h.own h.n (by decide)) _, h.mlen, h.r.far (by simp) _, hp, ⟨by rw [e1, e2]; exact ownsRow_setCell_other h.i.b (own_ne h.i.b h.n (by decide)) _, by rw [e2]; exact h.i.bl⟩, h.b.setCell (by simp) _, by rw [e1]; exact h.dj⟩
theorem MarkI.push {w wr w' : World} {k g4 cap4 : Nat} {met : Value} {ml : List ByteArray} {p : Mr} {x : ByteArray} (h : MarkI w wr k met ml p) (hg : wr.grownBy w' met.ownBlock) (ho : w'.ownsRow w.heap.size 9 1 (.slice (some ⟨g4, 0, none⟩) (ml.length + 1) cap4) (ml.length + 1) (strs ml ++ [.string x])) (hat : met.ownBlock = some g4 ∨ wr.heap.size < g4) : MarkI w w' (k + 1) (.slice (some ⟨g4, 0, none⟩) (ml.length + 1) cap4) (ml ++ [x]) p := by
 refine ⟨by simpa [strs] using ho, by simp; have := h.mlen; omega, h.r.grown hg (own_ne h.own h.r (by decide)), h.n.grown hg (own_ne h.own h.n (by decide)), ⟨hown_grow h.i.b hg (fun j hj => h.dj j hj), h.i.bl⟩, below_own h.b h.own hg h.b.size (Nat.le_refl _), fun j hj e2 => ?_⟩
 have e : g4 = j := by simpa [Value.ownBlock] using hj
 subst e
 rcases hat with h1 | h1
 ·exact h.dj _ h1 e2
 ·have := own_lt h.i.b _ e2; omega
/-- its bars -/
theorem MarkI.bars {w wr w' : World} {k : Nat} {met v : Value} {ml l : List ByteArray} {p : Mr} (h : MarkI w wr k met ml p) (hb : Below wr.heap.size wr w') (ho : w'.ownsRow wr.heap.size 9 1 v l.length (strs l)) (hl : l.length ≤ 70000) (a : Bool) : MarkI w ((w'.setCell ⟨w.heap.size + 1, 2, none⟩ (.bool a)).setCell ⟨w.heap.size + 1, 3, none⟩ v) k met ml { p with all := a, bv := v, bs := l } := by
 have h' := h.below hb
 have h6 := h'.set (p' := { p with all := a }) 2 (.bool a) (h'.n.set_ 2 _) rfl rfl
 have hz := hb.size
 have hv := own_base ho h.b.size
 have hv6 := ownsRow_setCell_other hv (own_ne hv h'.n (by decide)) (a := ⟨w.heap.size + 1, 2, none⟩) (.bool a)
 refine ⟨ownsRow_setCell_other h6.own (own_ne h6.own h6.n (by decide)) _, h.mlen, h6.r.far (by simp) _, h6.n.set_ 3 _, ⟨ownsRow_setCell_other hv6 (own_ne hv6 h6.n (by decide)) _, hl⟩, h6.b.setCell (by simp) _, fun j hj e => ?_⟩
 have h1 := own_ge ho j e
 have h2 := own_lt h.own j hj
 omega
def MarkOut (w : World) (e : Ending) (w' : World) : Prop := ∃ (p : Mr) (ok : Bool), e = .returned (.tuple #[.agg p.arr, .bool ok]) ∧ p.In w' w.heap.size ∧ Below w.heap.size w w'
abbrev zeroM : Array Value := #[.string { data := #[] }, .int .i64 0, .bool false, .slice none 0 0]
theorem mark_left {w W : World} {p p2 : Mr} (kr : Bk W w.heap.size 183 p2.arr) (hi : p.In W w.heap.size) (hb : Below w.heap.size w W) : p.In (set4 W w.heap.size (.string p.nm) (.int .i64 p.val) (.bool p.all) p.bv) w.heap.size ∧ Below w.heap.size w (set4 W w.heap.size (.string p.nm) (.int .i64 p.val) (.bool p.all) p.bv) ∧ Bk (set4 W w.heap.size (.string p.nm) (.int .i64 p.val) (.bool p.all) p.bv) w.heap.size 183 #[.string p.nm, .int .i64 p.val, .bool p.all, p.bv] :=
 ⟨⟨set4_own kr hi.b (by decide) _ _ _ _, hi.bl⟩, hb.trans (set4_below (Nat.le_refl _) _ _ _ _), set4_bk kr _ _ _ _⟩
theorem mark10_any (A : Option Addr) (n c : Nat) (l : List ByteArray) (w : World) (h : Rd w w.heap.size 1 A n (strs l)) (hl : szs l ≤ 65538) (h2 : 2 ≤ n) : Calls Tryz.prog 146 #[.slice A n c] w (MarkOut w) := by
 have hll := strs_len h
 have hn := szs_len l
 have hn2 : n ≤ 65538 := by omega
 have H := Lib.hid h
 have HL := Lib.hid (And.intro hll hl)
 obtain ⟨ab, ao, x1, rfl, hab, -, hx1⟩ := strs_at h (show 1 < n by omega)
 have e1 : (1 : Int) < n := by omega
 clear h hll hn hl
 go_enter Tryz.func146, Tryz.ntmps146
 go_upto_region 2 with fail
 have kr : Bk ((w.alloc (.cells zeroM 183)).alloc (.cells #[.string x1, .int .i64 0, .bool false, .slice none 0 0] 183)) w.heap.size 183 Mr.zero.arr := (Bk.new w _ _).alloc _
 have kn : Bk ((w.alloc (.cells zeroM 183)).alloc (.cells #[.string x1, .int .i64 0, .bool false, .slice none 0 0] 183)) (w.heap.size + 1) 183 (⟨x1, 0, false, .slice none 0 0, []⟩ : Mr).arr := Bk.made _ _ (by simp)
 have hb0 : Below w.heap.size w ((w.alloc (.cells zeroM 183)).alloc (.cells #[.string x1, .int .i64 0, .bool false, .slice none 0 0] 183)) := belowA
 generalize (w.alloc (.cells zeroM 183)).alloc (.cells #[.string x1, .int .i64 0, .bool false, .slice none 0 0] 183) = w0 at *
 have hI0 := Lib.hid (show MarkI w w0 2 (.slice none 0 0) [] ⟨x1, 0, false, .slice none 0 0, []⟩ from ⟨World.ownsRow_nil _ _ _ _, by simp, kr, kn, ⟨World.ownsRow_nil _ _ _ _, by simp⟩, hb0, (fun j hj => by simp [Value.ownBlock] at hj)⟩)
 clear kr kn hb0 hx1
 go_wp2
 go_loopw [5, 6] (fun v j wr => ∃ (k : Nat) (ml : List ByteArray) (p : Mr), k ≤ n ∧ j = .int .i64 k ∧ Hid (MarkI w wr k v ml p)) (fun _ j _ => n - (intOf j).toNat)
 case atStart => exact ⟨2, [], _, by omega, rfl, hI0⟩
 case round =>
  clear hI0
  obtain ⟨k, ml, p, hk, rfl, hI⟩ := hrel
  obtain ⟨Am, cm, rfl, hm1, hm2, -, hmr⟩ := own_form hI.out.own
  have HM := Lib.hid hmr
  have hbw := hI.out.b
  have hz := hbw.size
  have hmlen := hI.out.mlen
  obtain ⟨nm, val, all, bv, bs⟩ := p
  obtain ⟨Ag, cg, eg, -, -, -, -⟩ := own_form hI.out.i.b
  dsimp only at eg
  subst eg
  have rf := hI.out.r.frozen; have rl := def_lt' hI.out.r
  have nf := hI.out.n.frozen; have nl := def_lt' hI.out.n
  obtain ⟨q0, q1, q2, q3⟩ := bk4 hI.out.n
  obtain ⟨r0, r1, r2, r3⟩ := bk4 (show Bk wr w.heap.size 183 zeroM from hI.out.r)
  clear hmr hm1 hm2
  by_cases hlt : k < n
  ·have e3 : (k : Int) < n := by omega
   obtain ⟨b', o', y, hA, hb', hy, hyc⟩ := strs_at (H.out.below hbw) hlt
   obtain ⟨rfl, rfl⟩ : ab = b' ∧ ao = o' := by simpa using hA
   have HY := Lib.hid (szs_mem (List.mem_of_getElem? hy))
   have hy2 : y.size ≤ 65538 := by have := HY.out; have := HL.out.2; omega
   clear hA hy
   have hct := Lib.hid (cut10_any y wr (by unfold maxLen; omega))
   go_wp2_with (go_at_call 185; fail)
   refine hct.out.mono ?_
   rintro e w1 ⟨x, v, hb, rfl, hx, hv, hb1⟩
   have hI1 := Lib.hid (hI.out.below hb1)
   have hha := has10_any Am ml.length cm ml x w1 ((HM.out.below hb1).more hb1.size) (by unfold maxLen; omega)
   have HHA := Lib.hid hha
   clear hha hct q0 q1 q2 q3 r0 r1 r2 r3 rf rl nf nl
   go_upto_region 7 with fail
   go_cut [10] (fun u wx => ∃ bb : Bool, u = .bool bb ∧ Below w1.heap.size w1 wx)
   case first =>
    cases hb with
    | false =>
      go_wp2
      go_meet
      exact ⟨_, rfl, Below.refl _ _⟩
    | true =>
      go_wp2_with (go_at_call 151; fail)
      refine HHA.out.mono ?_
      rintro e w2 ⟨⟨b0, rfl⟩, hb2⟩
      go_wp2
      go_meet
      exact ⟨_, rfl, hb2⟩
   case rest =>
   obtain ⟨b0, rfl, hb2⟩ := hcut
   have hI2 := Lib.hid (hI1.out.below hb2)
   have hz2 := hI2.out.b.size
   go_upto_if 45 with (at_builtin; ((refine app_one Tryz.underlying111 info_str rfl (by decide) _ w.heap.size _ ml.length _ hI2.out.own (by unfold maxLen; omega) (by omega) hz2 _ rfl (by simp [Value.oneCell']) rfl _ _ rfl rfl rfl ?_); intro g4 cap4 w4 hown4 hgr4 hat4 hlt4))
   have hI4 := Lib.hid (hI2.out.push hgr4 hown4 hat4)
   clear hown4 hgr4 hat4 hI1 hI2 HHA hI HM hlt4 hz2 hb1 hb2
   go_cut [10] (fun u wx => ∃ (bb : Bool) (p' : Mr), u = .bool bb ∧ Hid (MarkI w wx (k + 1) (.slice (some ⟨g4, 0, none⟩) (ml.length + 1) cap4) (ml ++ [x]) p'))
   case first =>
    have rf4 := hI4.out.r.frozen; have rl4 := def_lt' hI4.out.r; have nf4 := hI4.out.n.frozen; have nl4 := def_lt' hI4.out.n; obtain ⟨s0, s1, s2, s3⟩ := bk4 hI4.out.n
    have hz4 := hI4.out.b.size
    have hvl := Lib.hid (value_any v w4 (by unfold maxLen; omega))
    have hls := Lib.hid (list10_any v w4 (by omega))
    cases t1 : (x.toList == [118, 97, 108]) <;> cases t2 : (x.toList == [98, 97, 114, 115])
    all_goals cases b0
    all_goals go_wp2_with (first | (go_at_call 186; (refine hvl.out.mono ?_); rintro e w5 ⟨⟨z, rfl, -, -⟩, hb5⟩; have hI5 := Lib.hid (hI4.out.below hb5); have rf5 := hI5.out.r.frozen; have rl5 := def_lt' hI5.out.r; have nf5 := hI5.out.n.frozen; have nl5 := def_lt' hI5.out.n; obtain ⟨m0, m1, m2, m3⟩ := bk4 hI5.out.n) | (go_at_call 187; (refine hls.out.mono ?_); rintro e w5 ⟨a5, v5, b5, rfl, htx, hb5⟩; have hI5 := Lib.hid (hI4.out.below hb5); obtain ⟨l5, ho5, hs5⟩ := htx.own; obtain ⟨A5, c5, rfl, -, -, -, -⟩ := own_form ho5; have rf5 := hI5.out.r.frozen; have rl5 := def_lt' hI5.out.r; have nf5 := hI5.out.n.frozen; have nl5 := def_lt' hI5.out.n; obtain ⟨m0, m1, m2, m3⟩ := bk4 hI5.out.n))
    all_goals go_meet
    all_goals first
     | exact ⟨_, _, rfl, hI4⟩
     | exact ⟨_, _, rfl, Lib.hid (hI5.out.set (p' := ⟨nm, z, all, .slice Ag bs.length cg, bs⟩) 1 (.int .i64 z) (hI5.out.n.set_ 1 _) rfl rfl)⟩
     | exact ⟨_, _, rfl, Lib.hid (hI4.out.bars hb5 ho5 (by have := szs_len l5; omega) a5)⟩
   case rest =>
   obtain ⟨bb, p', rfl, hI6⟩ := hcut
   have rf := hI6.out.r.frozen; have rl := def_lt' hI6.out.r
   obtain ⟨r0, r1, r2, r3⟩ := bk4 (show Bk _ w.heap.size 183 zeroM from hI6.out.r)
   cases bb with
   | true =>
     go_wp2
     go_roundw
     case rel => exact ⟨k + 1, ml ++ [x], p', by omega, by go_num, hI6⟩
     case measure => simp [intOf]; omega
   | false =>
     go_wp2
     have hL := mark_left (p := Mr.zero) hI6.out.r (Mr.zero_in _ _) hI6.out.b
     dsimp only [Mr.zero] at hL
     obtain ⟨hL1, hL2, hL3⟩ := hL
     unfold set4 at hL1 hL2 hL3
     obtain ⟨z0, z1, z2, z3⟩ := bk4 hL3
     exact bodyPost_ret (v := .tuple #[.agg zeroM, .bool false]) (by simp [results, Tryz.results146, go_sem, z0, z1, z2, z3]) rfl ⟨Mr.zero, _, rfl, hL1, hL2⟩
  ·obtain rfl : n = k := by omega
   go_wp2
   have hL := mark_left hI.out.r hI.out.i hI.out.b
   dsimp only at hL
   obtain ⟨hL1, hL2, hL3⟩ := hL
   unfold set4 at hL1 hL2 hL3
   obtain ⟨z0, z1, z2, z3⟩ := bk4 hL3
   exact bodyPost_ret (v := .tuple #[.agg #[.string nm, .int .i64 val, .bool all, .slice Ag bs.length cg], .bool true]) (by simp [results, Tryz.results146, go_sem, z0, z1, z2, z3]) rfl ⟨(⟨nm, val, all, .slice Ag bs.length cg, bs⟩ : Mr), _, rfl, hL1, hL2⟩
def nds (l : List Nd) : List Value := l.flatMap fun p => p.arr.toList
def mrs (l : List Mr) : List Value := l.flatMap fun p => p.arr.toList
theorem nds_snoc (l : List Nd) (p : Nd) : nds (l ++ [p]) = nds l ++ p.arr.toList := by simp [nds]
theorem mrs_snoc (l : List Mr) (p : Mr) : mrs (l ++ [p]) = mrs l ++ p.arr.toList := by simp [mrs]
theorem info_nd : (Tryz.prog.info? 113).map (fun i => (i.zero, i.size, i.bytes)) = some (some (.agg #[.string ByteArray.empty, .slice none 0 0, .bool false, .bool false, .bool false, .int .i64 0, .bool false, .slice none 0 0, .string ByteArray.empty]), 9, 104) := by kernel_rfl
theorem info_mr : (Tryz.prog.info? 183).map (fun i => (i.zero, i.size, i.bytes)) = some (some (.agg #[.string ByteArray.empty, .int .i64 0, .bool false, .slice none 0 0]), 4, 56) := by kernel_rfl
/-- what lines say, as it lies -/
structure DeclIn (w : World) (base : Nat) (nv mv : Value) (ns : List Nd) (ms : List Mr) : Prop where
 n : w.ownsRow base 113 9 nv ns.length (nds ns)
 nl : ns.length ≤ 24
 m : w.ownsRow base 183 4 mv ms.length (mrs ms)
 ml : ms.length ≤ 8
 ni : ∀ p ∈ ns, p.In w base
 mi : ∀ p ∈ ms, p.In w base
section
variable {w w' : World} {base : Nat} {nv mv : Value} {ns : List Nd} {ms : List Mr}
theorem DeclIn.nil (w : World) (base : Nat) : DeclIn w base (.slice none 0 0) (.slice none 0 0) [] [] := ⟨World.ownsRow_nil _ _ _ _, by simp, World.ownsRow_nil _ _ _ _, by simp, (fun p h => by cases h), (fun p h => by cases h)⟩
theorem DeclIn.below (h : DeclIn w base nv mv ns ms) (hb : Below w.heap.size w w') : DeclIn w' base nv mv ns ms :=
 ⟨own_below h.n hb, h.nl, own_below h.m hb, h.ml, fun p hp => (h.ni p hp).below hb, fun p hp => (h.mi p hp).below hb⟩
theorem DeclIn.base_ {base' : Nat} (h : DeclIn w base nv mv ns ms) (hb : base' ≤ base) : DeclIn w base' nv mv ns ms :=
 ⟨own_base h.n hb, h.nl, own_base h.m hb, h.ml, fun p hp => (h.ni p hp).base_ hb, fun p hp => (h.mi p hp).base_ hb⟩
/-- a block of another kind is written -/
theorem DeclIn.put {t : TypeId} {b : Nat} {cs : Array Value} (h : DeclIn w base nv mv ns ms) (k : Bk w b t cs) (h1 : 113 ≠ t) (h2 : 183 ≠ t) (h3 : 9 ≠ t) (i : Nat) (u : Value) : DeclIn (w.setCell ⟨b, i, none⟩ u) base nv mv ns ms :=
 ⟨ownsRow_setCell_other h.n (own_ne h.n k h1) _, h.nl, ownsRow_setCell_other h.m (own_ne h.m k h2) _, h.ml, fun p hp => ⟨ownsRow_setCell_other (h.ni p hp).g (own_ne (h.ni p hp).g k h3) _, (h.ni p hp).gl, ownsRow_setCell_other (h.ni p hp).m (own_ne (h.ni p hp).m k h3) _, (h.ni p hp).ml, (h.ni p hp).ex⟩, fun p hp => ⟨ownsRow_setCell_other (h.mi p hp).b (own_ne (h.mi p hp).b k h3) _, (h.mi p hp).bl⟩⟩
theorem Nd.In.grow {p : Nd} {row : Option Nat} {e : TypeId} {size n : Nat} {v : Value} {xs : List Value} (h : p.In w base) (hg : w.grownBy w' row) (ho : w.ownsRow base e size v n xs) (hr : row = v.ownBlock) (hne : 9 ≠ e) : p.In w' base := by
 subst hr
 exact ⟨hown_grow h.g hg (hown_type h.g ho hne), h.gl, hown_grow h.m hg (hown_type h.m ho hne), h.ml, h.ex⟩
theorem Mr.In.grow {p : Mr} {row : Option Nat} {e : TypeId} {size n : Nat} {v : Value} {xs : List Value} (h : p.In w base) (hg : w.grownBy w' row) (ho : w.ownsRow base e size v n xs) (hr : row = v.ownBlock) (hne : 9 ≠ e) : p.In w' base := by
 subst hr
 exact ⟨hown_grow h.b hg (hown_type h.b ho hne), h.bl⟩
theorem DeclIn.pushN {p : Nd} {nv' : Value} (h : DeclIn w base nv mv ns ms) (hp : p.In w base) (hl : ns.length < 24) (hg : w.grownBy w' nv.ownBlock) (ho : w'.ownsRow base 113 9 nv' (ns.length + 1) (nds ns ++ p.arr.toList)) : DeclIn w' base nv' mv (ns ++ [p]) ms :=
 ⟨by rw [List.length_append, nds_snoc]; exact ho, by simp; omega, hown_grow h.m hg (hown_type h.m h.n (by decide)), h.ml, fun q hq => by
  rcases List.mem_append.1 hq with hq | hq
  ·exact (h.ni q hq).grow hg h.n rfl (by decide)
  ·simp at hq; subst hq; exact hp.grow hg h.n rfl (by decide), fun q hq => (h.mi q hq).grow hg h.n rfl (by decide)⟩
theorem DeclIn.pushM {p : Mr} {mv' : Value} (h : DeclIn w base nv mv ns ms) (hp : p.In w base) (hl : ms.length < 8) (hg : w.grownBy w' mv.ownBlock) (ho : w'.ownsRow base 183 4 mv' (ms.length + 1) (mrs ms ++ p.arr.toList)) : DeclIn w' base nv mv' ns (ms ++ [p]) :=
 ⟨hown_grow h.n hg (hown_type h.n h.m (by decide)), h.nl, by rw [List.length_append, mrs_snoc]; exact ho, by simp; omega, fun q hq => (h.ni q hq).grow hg h.m rfl (by decide), fun q hq => by
  rcases List.mem_append.1 hq with hq | hq
  ·exact (h.mi q hq).grow hg h.m rfl (by decide)
  ·simp at hq; subst hq; exact hp.grow hg h.m rfl (by decide)⟩
/-- one node: its cells -/
theorem DeclIn.node {k : Nat} {A : Option Addr} {n c : Nat} {p : Nd} (h : DeclIn w base (.slice A n c) mv ns ms) (hk : ns[k]? = some p) : ∃ b o, A = some ⟨b, o, none⟩ ∧ b < w.heap.size ∧ ∀ i, i < 9 → w.cell? ⟨b, o + k * 9 + i, none⟩ = p.arr.toList[i]? := by
 obtain ⟨A', c', e, -, -, -, r⟩ := own_form h.n
 injection e with e1 e2 e3
 subst e1
 exact Rd.el (fun p : Nd => p.arr.toList) (fun _ => rfl) r rfl hk
theorem DeclIn.mark {k : Nat} {A : Option Addr} {n c : Nat} {p : Mr} (h : DeclIn w base nv (.slice A n c) ns ms) (hk : ms[k]? = some p) : ∃ b o, A = some ⟨b, o, none⟩ ∧ b < w.heap.size ∧ ∀ i, i < 4 → w.cell? ⟨b, o + k * 4 + i, none⟩ = p.arr.toList[i]? := by
 obtain ⟨A', c', e, -, -, -, r⟩ := own_form h.m
 injection e with e1 e2 e3
 subst e1
 exact Rd.el (fun p : Mr => p.arr.toList) (fun _ => rfl) r rfl hk
end
def AddOut (base : Nat) (nv mv : Value) (w : World) (e : Ending) (w' : World) : Prop := ∃ (nv' mv' : Value) (ns' : List Nd) (ms' : List Mr) (er : Int) (row : Option Nat), e = .returned (.tuple #[.agg #[nv', mv'], .int .i64 er]) ∧ DeclIn w' base nv' mv' ns' ms' ∧ w.grownBy w' row ∧ (row = nv.ownBlock ∨ row = mv.ownBlock)
theorem bk2 {w : World} {b : Nat} {t : TypeId} {x0 x1 : Value} (k : Bk w b t #[x0, x1]) : w.cell? ⟨b, 0, none⟩ = some x0 ∧ w.cell? ⟨b, 1, none⟩ = some x1 := ⟨k.cell 0, k.cell 1⟩
/-- what was said stays, and comes out -/
theorem add_left {w W : World} {base : Nat} {nv mv y0 y1 : Value} {ns : List Nd} {ms : List Mr} {row : Option Nat} (h : DeclIn W base nv mv ns ms) (hb : w.grownBy W row) (kr : Bk W (w.heap.size + 1) 27 #[y0, y1]) : DeclIn ((W.setCell ⟨w.heap.size + 1, 0, none⟩ nv).setCell ⟨w.heap.size + 1, 1, none⟩ mv) base nv mv ns ms ∧ Bk ((W.setCell ⟨w.heap.size + 1, 0, none⟩ nv).setCell ⟨w.heap.size + 1, 1, none⟩ mv) (w.heap.size + 1) 27 #[nv, mv] ∧ w.grownBy ((W.setCell ⟨w.heap.size + 1, 0, none⟩ nv).setCell ⟨w.heap.size + 1, 1, none⟩ mv) row := by
 have k1 : Bk _ (w.heap.size + 1) 27 #[nv, y1] := kr.set_ 0 nv
 exact ⟨(h.put kr (by decide) (by decide) (by decide) 0 nv).put k1 (by decide) (by decide) (by decide) 1 mv, k1.set_ 1 mv, gr_set (gr_set hb (.inr (by simp)) _) (.inr (by simp)) _⟩
theorem add10_any (base : Nat) (nv mv : Value) (ns : List Nd) (ms : List Mr) (A : Option Addr) (n c : Nat) (l : List ByteArray) (w : World) (hbw : base ≤ w.heap.size) (hD : DeclIn w base nv mv ns ms) (h : Rd w w.heap.size 1 A n (strs l)) (hl : szs l ≤ 65538) (hnc : n ≤ c) (hcm : c ≤ maxLen) : Calls Tryz.prog 96 #[.agg #[nv, mv], .slice A n c] w (AddOut base nv mv w) := by
 obtain ⟨NA, nc, rfl, -, -, -, -⟩ := own_form hD.n
 obtain ⟨MA, mc, rfl, -, -, -, -⟩ := own_form hD.m
 have hnn := hD.nl
 have hmm := hD.ml
 have hn2 : n ≤ 65538 := by have h1 := strs_len h; have h2 := szs_len l; omega
 have H := Lib.hid h
 have HD := Lib.hid hD
 have HCM := Lib.hid hcm
 clear h hD hcm
 go_enter Tryz.func96, Tryz.ntmps96
 go_upto_region 1 with fail
 have kd : Bk ((w.alloc (.cells #[.slice NA ns.length nc, .slice MA ms.length mc] 27)).alloc (.cells #[.slice none 0 0, .slice none 0 0] 27)) w.heap.size 27 #[.slice NA ns.length nc, .slice MA ms.length mc] := (Bk.new w _ _).alloc _
 have kr : Bk ((w.alloc (.cells #[.slice NA ns.length nc, .slice MA ms.length mc] 27)).alloc (.cells #[.slice none 0 0, .slice none 0 0] 27)) (w.heap.size + 1) 27 #[.slice none 0 0, .slice none 0 0] := Bk.made _ _ (by simp)
 have hb0 : Below w.heap.size w ((w.alloc (.cells #[.slice NA ns.length nc, .slice MA ms.length mc] 27)).alloc (.cells #[.slice none 0 0, .slice none 0 0] 27)) := belowA
 generalize (w.alloc (.cells #[.slice NA ns.length nc, .slice MA ms.length mc] 27)).alloc (.cells #[.slice none 0 0, .slice none 0 0] 27) = w0 at *
 go_cut [33] (fun u wx => ∃ bb : Bool, u = .bool bb ∧ (bb = false → 2 ≤ n) ∧ Below w0.heap.size w0 wx)
 case first =>
  by_cases h2 : n < 2
  ·have e2 : (n : Int) < 2 := by omega
   go_wp2
   go_meet
   exact ⟨_, rfl, (fun h => by cases h), Below.refl _ _⟩
  ·have e2 : ¬ (n : Int) < 2 := by omega
   have e1 : (1 : Int) < n := by omega
   have e0 : 0 < n := by omega
   obtain ⟨ab, ao, x1, rfl, hab, -, hx1⟩ := strs_at (H.out.below hb0) (show 1 < n by omega)
   obtain ⟨ab', ao', x0, hA, -, hxx, hx0⟩ := strs_at (H.out.below hb0) (show 0 < n by omega)
   obtain ⟨rfl, rfl⟩ : ab = ab' ∧ ao = ao' := by simpa using hA
   have hz0 := hb0.size
   have hs1 : x1.size ≤ 65538 := by
    obtain ⟨_, _, x1', _, _, hxl, hc'⟩ := strs_at (H.out.below hb0) (show 1 < n by omega)
    rename_i b1 o1 hA1 _
    obtain ⟨rfl, rfl⟩ : ab = b1 ∧ ao = o1 := by simpa using hA1
    rw [hx1] at hc'
    injection hc' with hc'
    injection hc' with hc'
    subst hc'
    have := szs_mem (List.mem_of_getElem? hxl)
    omega
   have hnm := Lib.hid (name_any x1 w0 (by unfold maxLen; omega))
   clear hA hxx
   go_wp2_with (go_at_call 145; fail)
   refine hnm.out.mono ?_
   rintro e w1 ⟨⟨b1, rfl⟩, hb1⟩
   have hy0 := (hb1.cell (p := ⟨ab, ao + 0, none⟩) (show ab < w0.heap.size by omega)).trans hx0
   rw [Nat.add_zero] at hy0
   have hab1 : ab < w1.heap.size := by have := hb1.size; omega
   cases b1 with
   | false =>
     go_wp2
     go_meet
     exact ⟨_, rfl, (fun h => by cases h), hb1⟩
   | true =>
     cases t1 : (x0.toList == [110, 111, 100, 101]) <;> cases t2 : (x0.toList == [109, 97, 114, 107])
     all_goals
      have t1' : (x0.toList != [110, 111, 100, 101]) = !(x0.toList == [110, 111, 100, 101]) := rfl
      have t2' : (x0.toList != [109, 97, 114, 107]) = !(x0.toList == [109, 97, 114, 107]) := rfl
      rw [t1] at t1'
      rw [t2] at t2'
      go_wp2
      go_meet
      exact ⟨_, rfl, (fun _ => by omega), hb1⟩
 case rest =>
 obtain ⟨bb, rfl, hb2, hbc⟩ := hcut
 have hb1 := hb0.trans (hbc.mono hb0.size)
 have kd1 := kd.ext hbc
 have kr1 := kr.ext hbc
 have hD1 := Lib.hid (HD.out.below hb1)
 have rf := kr1.frozen; have rl := def_lt' kr1
 obtain ⟨d0, d1⟩ := bk2 kd1
 obtain ⟨r0, r1⟩ := bk2 kr1
 have hz1 := hb1.size
 clear kd kr hbc hb0
 cases bb with
 | true =>
   go_wp2
   obtain ⟨g1, g2, g3⟩ := add_left hD1.out (below_gr (row := (Value.slice NA ns.length nc).ownBlock) hb1) kr1
   obtain ⟨z0, z1⟩ := bk2 g2
   exact bodyPost_ret (v := .tuple #[.agg #[.slice NA ns.length nc, .slice MA ms.length mc], .int .i64 2]) (by simp [results, Tryz.results96, go_sem, z0, z1]) rfl ⟨_, _, ns, ms, 2, _, rfl, g1, g3, .inl rfl⟩
 | false =>
   have h2 := hb2 rfl
   clear hb2
   obtain ⟨ab, ao, x0, rfl, hab, -, hx0⟩ := strs_at (H.out.below hb1) (show 0 < n by omega)
   rw [Nat.add_zero] at hx0
   have e0 : 0 < n := by omega
   have hrd := Lib.hid ((H.out.below hb1).more hz1)
   cases t2 : (x0.toList == [109, 97, 114, 107]) with
   | true =>
     have hmk := Lib.hid (mark10_any _ n c l _ hrd.out hl h2)
     go_wp2_with (go_at_call 146; fail)
     refine hmk.out.mono ?_
     rintro e w2 ⟨⟨nm, val, all, bv, bs⟩, ok, rfl, hpi, hb2⟩
     obtain ⟨Ag, cg, eg, -, -, -, -⟩ := own_form hpi.b
     dsimp only at eg
     subst eg
     have HPI := Lib.hid hpi
     dsimp only [Mr.arr]
     go_upto_region 5 with fail
     have k6 : Bk (w2.alloc (.cells #[.string nm, .int .i64 val, .bool all, .slice Ag bs.length cg] 183)) w2.heap.size 183 (⟨nm, val, all, .slice Ag bs.length cg, bs⟩ : Mr).arr := Bk.new w2 _ _
     have hb23 : Below w2.heap.size w2 (w2.alloc (.cells #[.string nm, .int .i64 val, .bool all, .slice Ag bs.length cg] 183)) := belowA
     generalize w2.alloc (.cells #[.string nm, .int .i64 val, .bool all, .slice Ag bs.length cg] 183) = w3 at *
     have hb13 := hb2.trans (hb23.mono hb2.size)
     have kd3 := kd1.ext hb13
     have kr3 := kr1.ext hb13
     have hD3 := Lib.hid (hD1.out.below hb13)
     have HPI3 := Lib.hid (hpi.below hb23)
     have hb3 := hb1.trans (hb13.mono hz1)
     have hz3 := hb3.size
     clear d0 d1 r0 r1 rf rl kd1 kr1 hmk hx0 hpi hb23 hb13 hb2
     cases ok with
     | false =>
       have rf := kr3.frozen; have rl := def_lt' kr3
       obtain ⟨d0, d1⟩ := bk2 kd3
       obtain ⟨r0, r1⟩ := bk2 kr3
       go_wp2
       obtain ⟨g1, g2, g3⟩ := add_left hD3.out (below_gr (row := (Value.slice NA ns.length nc).ownBlock) hb3) kr3
       obtain ⟨z0, z1⟩ := bk2 g2
       exact bodyPost_ret (v := .tuple #[.agg #[.slice NA ns.length nc, .slice MA ms.length mc], .int .i64 2]) (by simp [results, Tryz.results96, go_sem, z0, z1]) rfl ⟨_, _, ns, ms, 2, _, rfl, g1, g3, .inl rfl⟩
     | true =>
       go_wp2
       go_loopw [8] (fun j wr => ∃ k : Nat, k ≤ ms.length ∧ j = .int .i64 k ∧ Below w3.heap.size w3 wr) (fun j _ => ms.length - (intOf j).toNat)
       case atStart => exact ⟨0, by omega, rfl, Below.refl _ _⟩
       case round =>
        obtain ⟨k, hk, rfl, hbr⟩ := hrel
        have kd4 := kd3.ext hbr
        have kr4 := kr3.ext hbr
        have k64 := k6.ext hbr
        have hD4 := Lib.hid (hD3.out.below hbr)
        have hb4 := hb3.trans (hbr.mono hz3)
        have hz4 := hb4.size
        have rf := kr4.frozen; have rl := def_lt' kr4
        have df := kd4.frozen; have dl := def_lt' kd4
        obtain ⟨d0, d1⟩ := bk2 kd4
        obtain ⟨r0, r1⟩ := bk2 kr4
        obtain ⟨s0, s1, s2, s3⟩ := bk4 k64
        by_cases hlt : k < ms.length
        ·have e3 : (k : Int) < ms.length := by omega
         obtain ⟨q, hq⟩ : ∃ q, ms[k]? = some q := ⟨_, List.getElem?_eq_getElem hlt⟩
         obtain ⟨qb, qo, rfl, hqb, hqc⟩ := hD4.out.mark hq
         have hq0 : wr.cell? ⟨qb, qo + k * 4, none⟩ = some (.string q.nm) := hqc 0 (by omega)
         clear hqc hq
         go_upto_region 10 with fail
         go_cut [62] (fun u wx => ∃ bb : Bool, u = .bool bb ∧ Below wr.heap.size wr wx)
         case first =>
          go_quiet (fail)
          go_wp2
          go_meet
          exact ⟨_, rfl, below_drewN (Below.refl _ _) _⟩
         case rest =>
         obtain ⟨bb, rfl, hb5⟩ := hcut
         have kr5 := kr4.ext hb5
         have hD5 := Lib.hid (hD4.out.below hb5)
         have hbr5 := hbr.trans (hb5.mono hbr.size)
         have hb05 := hb4.trans (hb5.mono hz4)
         obtain ⟨d0, d1⟩ := bk2 (kd4.ext hb5)
         obtain ⟨r0, r1⟩ := bk2 kr5
         have rf := kr5.frozen; have rl := def_lt' kr5
         cases bb with
         | true =>
           go_wp2
           obtain ⟨g1, g2, g3⟩ := add_left hD5.out (below_gr (row := (Value.slice NA ns.length nc).ownBlock) hb05) kr5
           obtain ⟨z0, z1⟩ := bk2 g2
           exact bodyPost_ret (v := .tuple #[.agg #[.slice NA ns.length nc, .slice (some ⟨qb, qo, none⟩) ms.length mc], .int .i64 9]) (by simp [results, Tryz.results96, go_sem, z0, z1]) rfl ⟨_, _, ns, ms, 9, _, rfl, g1, g3, .inl rfl⟩
         | false =>
           go_wp2
           go_roundw
           case rel => exact ⟨k + 1, by omega, by go_num, hbr5⟩
           case measure => simp [intOf]; omega
        ·obtain rfl : k = ms.length := by omega
         by_cases h8 : ms.length = 8
         ·have e8 : ((ms.length : Int) == 8) = true := by rw [beq_iff_eq]; omega
          have H8 := Lib.hid h8
          clear h8
          go_wp2
          obtain ⟨g1, g2, g3⟩ := add_left hD4.out (below_gr (row := (Value.slice NA ns.length nc).ownBlock) hb4) kr4
          obtain ⟨z0, z1⟩ := bk2 g2
          exact bodyPost_ret (v := .tuple #[.agg #[.slice NA ns.length nc, .slice MA ms.length mc], .int .i64 4]) (by simp [results, Tryz.results96, go_sem, z0, z1]) rfl ⟨_, _, ns, ms, 4, _, rfl, g1, g3, .inl rfl⟩
         ·have e8 : ((ms.length : Int) == 8) = false := beq_false_of_ne (by omega)
          have HPI4 := Lib.hid ((HPI3.out.below hbr).base_ (show base ≤ _ by omega))
          have h8l : ms.length < 8 := by omega
          clear h8
          go_wp2_with (at_builtin; ((refine app_one Tryz.underlying25 info_mr rfl (by decide) wr base _ ms.length _ hD4.out.m (by unfold maxLen; omega) (by omega) (by omega) _ rfl (by simp [Value.oneCell']) rfl _ _ rfl rfl rfl ?_); intro g7 cap7 w7 hown7 hgr7 hat7 hlt7; have kd7 := kd4.grown hgr7 (own_ne hD4.out.m kd4 (by decide)); have kr7 := kr4.grown hgr7 (own_ne hD4.out.m kr4 (by decide)); have df7 := kd7.frozen; have dl7 := def_lt' kd7; have rf7 := kr7.frozen; have rl7 := def_lt' kr7; obtain ⟨m0, m1⟩ := bk2 kd7; obtain ⟨u0, u1⟩ := bk2 kr7))
          have hD7 := hD4.out.pushM HPI4.out (by omega) hgr7 hown7
          have hD8 := hD7.put kd7 (by decide) (by decide) (by decide) 1 (.slice (some ⟨g7, 0, none⟩) (ms.length + 1) cap7)
          have kr8 := kr7.far (p := ⟨w.heap.size, 1, none⟩) (by simp) (.slice (some ⟨g7, 0, none⟩) (ms.length + 1) cap7)
          have hg8 := gr_set (p := ⟨w.heap.size, 1, none⟩) ((below_gr (row := (Value.slice MA ms.length mc).ownBlock) hb4).andThen hgr7 (fun j h => .inr h)) (.inr (Nat.le_refl _)) (.slice (some ⟨g7, 0, none⟩) (ms.length + 1) cap7)
          obtain ⟨g1, g2, g3⟩ := add_left hD8 hg8 kr8
          obtain ⟨z0, z1⟩ := bk2 g2
          exact bodyPost_ret (v := .tuple #[.agg #[.slice NA ns.length nc, .slice (some ⟨g7, 0, none⟩) (ms.length + 1) cap7], .int .i64 0]) (by simp [results, Tryz.results96, go_sem, z0, z1]) rfl ⟨_, _, ns, _, 0, _, rfl, g1, g3, .inr rfl⟩
   | false =>
     have hmk := Lib.hid (node10_any _ n c l _ hrd.out hl hnc HCM.out h2)
     go_wp2_with (go_at_call 147; fail)
     refine hmk.out.mono ?_
     rintro e w2 ⟨⟨nm, gv, gs, il, pk, lf, at_, all, mv, mk, ex⟩, ok, rfl, hpi, hb2⟩
     obtain ⟨Ag, cg, eg, -, -, -, -⟩ := own_form hpi.g
     obtain ⟨Ak, ck, ek, -, -, -, -⟩ := own_form hpi.m
     dsimp only at eg ek
     subst eg
     subst ek
     have HPI := Lib.hid hpi
     dsimp only [Nd.arr]
     go_upto_region 17 with fail
     have k6 : Bk (w2.alloc (.cells #[.string nm, .slice Ag gs.length cg, .bool il, .bool pk, .bool lf, .int .i64 at_, .bool all, .slice Ak mk.length ck, .string ex] 113)) w2.heap.size 113 (⟨nm, .slice Ag gs.length cg, gs, il, pk, lf, at_, all, .slice Ak mk.length ck, mk, ex⟩ : Nd).arr := Bk.new w2 _ _
     have hb23 : Below w2.heap.size w2 (w2.alloc (.cells #[.string nm, .slice Ag gs.length cg, .bool il, .bool pk, .bool lf, .int .i64 at_, .bool all, .slice Ak mk.length ck, .string ex] 113)) := belowA
     generalize w2.alloc (.cells #[.string nm, .slice Ag gs.length cg, .bool il, .bool pk, .bool lf, .int .i64 at_, .bool all, .slice Ak mk.length ck, .string ex] 113) = w3 at *
     have hb13 := hb2.trans (hb23.mono hb2.size)
     have kd3 := kd1.ext hb13
     have kr3 := kr1.ext hb13
     have hD3 := Lib.hid (hD1.out.below hb13)
     have HPI3 := Lib.hid (hpi.below hb23)
     have hb3 := hb1.trans (hb13.mono hz1)
     have hz3 := hb3.size
     clear d0 d1 r0 r1 rf rl kd1 kr1 hmk hx0 hpi hb23 hb13 hb2
     cases ok with
     | false =>
       have rf := kr3.frozen; have rl := def_lt' kr3
       obtain ⟨d0, d1⟩ := bk2 kd3
       obtain ⟨r0, r1⟩ := bk2 kr3
       go_wp2
       obtain ⟨g1, g2, g3⟩ := add_left hD3.out (below_gr (row := (Value.slice NA ns.length nc).ownBlock) hb3) kr3
       obtain ⟨z0, z1⟩ := bk2 g2
       exact bodyPost_ret (v := .tuple #[.agg #[.slice NA ns.length nc, .slice MA ms.length mc], .int .i64 2]) (by simp [results, Tryz.results96, go_sem, z0, z1]) rfl ⟨_, _, ns, ms, 2, _, rfl, g1, g3, .inl rfl⟩
     | true =>
       have rf := kr3.frozen; have rl := def_lt' kr3
       obtain ⟨d0, d1⟩ := bk2 kd3
       obtain ⟨r0, r1⟩ := bk2 kr3
       obtain ⟨s0, s1, s2, s3, s4, s5, s6, s7, s8⟩ := bk9 k6
       cases tt : (nm.toList == [116, 101, 120, 116]) with
       | true =>
         go_wp2
         obtain ⟨g1, g2, g3⟩ := add_left hD3.out (below_gr (row := (Value.slice NA ns.length nc).ownBlock) hb3) kr3
         obtain ⟨z0, z1⟩ := bk2 g2
         exact bodyPost_ret (v := .tuple #[.agg #[.slice NA ns.length nc, .slice MA ms.length mc], .int .i64 9]) (by simp [results, Tryz.results96, go_sem, z0, z1]) rfl ⟨_, _, ns, ms, 9, _, rfl, g1, g3, .inl rfl⟩
       | false =>
       go_wp2
       clear rf rl d0 d1 r0 r1 s0 s1 s2 s3 s4 s5 s6 s7 s8
       go_loopw [11] (fun j wr => ∃ k : Nat, k ≤ ns.length ∧ j = .int .i64 k ∧ Below w3.heap.size w3 wr) (fun j _ => ns.length - (intOf j).toNat)
       case atStart => exact ⟨0, by omega, rfl, Below.refl _ _⟩
       case round =>
        obtain ⟨k, hk, rfl, hbr⟩ := hrel
        have kd4 := kd3.ext hbr
        have kr4 := kr3.ext hbr
        have k64 := k6.ext hbr
        have hD4 := Lib.hid (hD3.out.below hbr)
        have hb4 := hb3.trans (hbr.mono hz3)
        have hz4 := hb4.size
        have rf := kr4.frozen; have rl := def_lt' kr4
        have df := kd4.frozen; have dl := def_lt' kd4
        obtain ⟨d0, d1⟩ := bk2 kd4
        obtain ⟨r0, r1⟩ := bk2 kr4
        obtain ⟨s0, s1, s2, s3, s4, s5, s6, s7, s8⟩ := bk9 k64
        by_cases hlt : k < ns.length
        ·have e3 : (k : Int) < ns.length := by omega
         obtain ⟨q, hq⟩ : ∃ q, ns[k]? = some q := ⟨_, List.getElem?_eq_getElem hlt⟩
         obtain ⟨qb, qo, rfl, hqb, hqc⟩ := hD4.out.node hq
         have hq0 : wr.cell? ⟨qb, qo + k * 9, none⟩ = some (.string q.nm) := hqc 0 (by omega)
         clear hqc hq
         go_upto_region 24 with fail
         go_cut [103] (fun u wx => ∃ bb : Bool, u = .bool bb ∧ Below wr.heap.size wr wx)
         case first =>
          go_quiet (fail)
          go_wp2
          go_meet
          exact ⟨_, rfl, below_drewN (Below.refl _ _) _⟩
         case rest =>
         obtain ⟨bb, rfl, hb5⟩ := hcut
         have kr5 := kr4.ext hb5
         have hD5 := Lib.hid (hD4.out.below hb5)
         have hbr5 := hbr.trans (hb5.mono hbr.size)
         have hb05 := hb4.trans (hb5.mono hz4)
         obtain ⟨d0, d1⟩ := bk2 (kd4.ext hb5)
         obtain ⟨r0, r1⟩ := bk2 kr5
         have rf := kr5.frozen; have rl := def_lt' kr5
         cases bb with
         | true =>
           go_wp2
           obtain ⟨g1, g2, g3⟩ := add_left hD5.out (below_gr (row := (Value.slice (some ⟨qb, qo, none⟩) ns.length nc).ownBlock) hb05) kr5
           obtain ⟨z0, z1⟩ := bk2 g2
           exact bodyPost_ret (v := .tuple #[.agg #[.slice (some ⟨qb, qo, none⟩) ns.length nc, .slice MA ms.length mc], .int .i64 9]) (by simp [results, Tryz.results96, go_sem, z0, z1]) rfl ⟨_, _, ns, ms, 9, _, rfl, g1, g3, .inl rfl⟩
         | false =>
           go_wp2
           go_roundw
           case rel => exact ⟨k + 1, by omega, by go_num, hbr5⟩
           case measure => simp [intOf]; omega
        ·obtain rfl : k = ns.length := by omega
         by_cases h8 : ns.length = 24
         ·have e8 : ((ns.length : Int) == 24) = true := by rw [beq_iff_eq]; omega
          have H8 := Lib.hid h8
          clear h8
          go_wp2
          obtain ⟨g1, g2, g3⟩ := add_left hD4.out (below_gr (row := (Value.slice NA ns.length nc).ownBlock) hb4) kr4
          obtain ⟨z0, z1⟩ := bk2 g2
          exact bodyPost_ret (v := .tuple #[.agg #[.slice NA ns.length nc, .slice MA ms.length mc], .int .i64 4]) (by simp [results, Tryz.results96, go_sem, z0, z1]) rfl ⟨_, _, ns, ms, 4, _, rfl, g1, g3, .inl rfl⟩
         ·have e8 : ((ns.length : Int) == 24) = false := beq_false_of_ne (by omega)
          have HPI4 := Lib.hid ((HPI3.out.below hbr).base_ (show base ≤ _ by omega))
          have h8l : ns.length < 24 := by omega
          clear h8
          go_wp2_with (at_builtin; ((refine app_one Tryz.underlying24 info_nd rfl (by decide) wr base _ ns.length _ hD4.out.n (by unfold maxLen; omega) (by omega) (by omega) _ rfl (by simp [Value.oneCell']) rfl _ _ rfl rfl rfl ?_); intro g7 cap7 w7 hown7 hgr7 hat7 hlt7; have kd7 := kd4.grown hgr7 (own_ne hD4.out.n kd4 (by decide)); have kr7 := kr4.grown hgr7 (own_ne hD4.out.n kr4 (by decide)); have df7 := kd7.frozen; have dl7 := def_lt' kd7; have rf7 := kr7.frozen; have rl7 := def_lt' kr7; obtain ⟨m0, m1⟩ := bk2 kd7; obtain ⟨u0, u1⟩ := bk2 kr7))
          have hD7 := hD4.out.pushN HPI4.out (by omega) hgr7 hown7
          have hD8 := hD7.put kd7 (by decide) (by decide) (by decide) 0 (.slice (some ⟨g7, 0, none⟩) (ns.length + 1) cap7)
          have kr8 := kr7.far (p := ⟨w.heap.size, 0, none⟩) (by simp) (.slice (some ⟨g7, 0, none⟩) (ns.length + 1) cap7)
          have hg8 := gr_set (p := ⟨w.heap.size, 0, none⟩) ((below_gr (row := (Value.slice NA ns.length nc).ownBlock) hb4).andThen hgr7 (fun j h => .inr h)) (.inr (Nat.le_refl _)) (.slice (some ⟨g7, 0, none⟩) (ns.length + 1) cap7)
          obtain ⟨g1, g2, g3⟩ := add_left hD8 hg8 kr8
          obtain ⟨z0, z1⟩ := bk2 g2
          exact bodyPost_ret (v := .tuple #[.agg #[.slice (some ⟨g7, 0, none⟩) (ns.length + 1) cap7, .slice MA ms.length mc], .int .i64 0]) (by simp [results, Tryz.results96, go_sem, z0, z1]) rfl ⟨_, _, _, ms, 0, _, rfl, g1, g3, .inl rfl⟩
def DeclOut (w : World) (e : Ending) (w' : World) : Prop := ∃ (nv mv : Value) (ns : List Nd) (ms : List Mr) (at_ er : Int), e = .returned (.tuple #[.agg #[nv, mv], .int .i64 at_, .int .i64 er]) ∧ DeclIn w' w.heap.size nv mv ns ms ∧ Below w.heap.size w w'
/-- what was said is left -/
theorem decl_left {w W : World} {base : Nat} {nv mv y0 y1 : Value} {ns : List Nd} {ms : List Mr} (h : DeclIn W base nv mv ns ms) (hb : Below w.heap.size w W) (kr : Bk W w.heap.size 27 #[y0, y1]) : DeclIn ((W.setCell ⟨w.heap.size, 0, none⟩ nv).setCell ⟨w.heap.size, 1, none⟩ mv) base nv mv ns ms ∧ Bk ((W.setCell ⟨w.heap.size, 0, none⟩ nv).setCell ⟨w.heap.size, 1, none⟩ mv) w.heap.size 27 #[nv, mv] ∧ Below w.heap.size w ((W.setCell ⟨w.heap.size, 0, none⟩ nv).setCell ⟨w.heap.size, 1, none⟩ mv) := by
 have k1 : Bk _ w.heap.size 27 #[nv, y1] := kr.set_ 0 nv
 exact ⟨(h.put kr (by decide) (by decide) (by decide) 0 nv).put k1 (by decide) (by decide) (by decide) 1 mv, k1.set_ 1 mv, (hb.setCell (Nat.le_refl _) _).setCell (Nat.le_refl _) _⟩
structure DeclI (w wr : World) (db : Nat) (lv : Value) (ls : List ByteArray) (nv mv : Value) (ns : List Nd) (ms : List Mr) : Prop where
 r : Bk wr w.heap.size 27 #[.slice none 0 0, .slice none 0 0]
 d : Bk wr db 27 #[nv, mv]
 i : DeclIn wr w.heap.size nv mv ns ms
 l : wr.ownsRow w.heap.size 9 1 lv ls.length (strs ls)
 b : Below w.heap.size w wr
 h : w.heap.size < db
theorem DeclI.below {w wr wx : World} {db : Nat} {lv nv mv : Value} {ls : List ByteArray} {ns : List Nd} {ms : List Mr} (h : DeclI w wr db lv ls nv mv ns ms) (hb : Below wr.heap.size wr wx) : DeclI w wx db lv ls nv mv ns ms :=
 ⟨h.r.ext hb, h.d.ext hb, h.i.below hb, own_below h.l hb, h.b.trans (hb.mono h.b.size), h.h⟩
theorem DeclI.add {w wr wx : World} {db : Nat} {lv nv mv nv' mv' : Value} {ls : List ByteArray} {ns ns' : List Nd} {ms ms' : List Mr} {row : Option Nat} (h : DeclI w wr db lv ls nv mv ns ms) (hi : DeclIn wx w.heap.size nv' mv' ns' ms') (hg : wr.grownBy wx row) (hr : row = nv.ownBlock ∨ row = mv.ownBlock) : DeclI w ((wx.setCell ⟨db, 0, none⟩ nv').setCell ⟨db, 1, none⟩ mv') db lv ls nv' mv' ns' ms' := by
 have hbx : Below w.heap.size wr wx := hbelow_gr hg (fun g e => by rcases hr with h1 | h1; (· exact own_ge h.i.n g (by rw [← h1]; exact e)); (· exact own_ge h.i.m g (by rw [← h1]; exact e))) h.b.size
 have kr : Bk wx w.heap.size 27 #[.slice none 0 0, .slice none 0 0] := h.r.grown hg (fun e => by rcases hr with h1 | h1; (· exact own_ne h.i.n h.r (by decide) (by rw [← h1]; exact e)); (· exact own_ne h.i.m h.r (by decide) (by rw [← h1]; exact e)))
 have kd : Bk wx db 27 #[nv, mv] := h.d.grown hg (fun e => by rcases hr with h1 | h1; (· exact own_ne h.i.n h.d (by decide) (by rw [← h1]; exact e)); (· exact own_ne h.i.m h.d (by decide) (by rw [← h1]; exact e)))
 have hl : wx.ownsRow w.heap.size 9 1 lv ls.length (strs ls) := hown_grow h.l hg (fun g e => by rcases hr with h1 | h1; (· exact hown_type h.l h.i.n (by decide) g (by rw [← h1]; exact e)); (· exact hown_type h.l h.i.m (by decide) g (by rw [← h1]; exact e)))
 have k1 : Bk _ db 27 #[nv', mv] := kd.set_ 0 nv'
 have hh := h.h
 have l1 := ownsRow_setCell_other hl (own_ne hl kd (by decide)) (a := ⟨db, 0, none⟩) nv'
 exact ⟨(kr.far (by simp; omega) _).far (by simp; omega) _, k1.set_ 1 mv', (hi.put kd (by decide) (by decide) (by decide) 0 nv').put k1 (by decide) (by decide) (by decide) 1 mv', ownsRow_setCell_other l1 (own_ne l1 k1 (by decide)) _, ((h.b.trans hbx).setCell (by simp; omega) _).setCell (by simp; omega) _, hh⟩
theorem parse10_any (s : ByteArray) (w : World) (hs : s.size ≤ maxLen) : Calls Tryz.prog 47 #[.string s] w (DeclOut w) := by
 go_enter Tryz.func47, Tryz.ntmps47
 go_upto_region 1 with fail
 have kr : Bk (w.alloc (.cells #[.slice none 0 0, .slice none 0 0] 27)) w.heap.size 27 #[.slice none 0 0, .slice none 0 0] := Bk.new w _ _
 have hb0 : Below w.heap.size w (w.alloc (.cells #[.slice none 0 0, .slice none 0 0] 27)) := belowA
 generalize w.alloc (.cells #[.slice none 0 0, .slice none 0 0] 27) = w0 at *
 have hln := Lib.hid (lines_any s w0 hs)
 clear hs
 go_wp2_with (go_at_call 94; fail)
 refine hln.out.mono ?_
 rintro e w1 ⟨v, at_, er, rfl, htx, hb1⟩
 obtain ⟨ls, ho, hsz⟩ := htx.own
 obtain ⟨A, c, rfl, -, -, -, -⟩ := own_form ho
 have kr1 := kr.ext hb1
 have hb01 := hb0.trans (hb1.mono hb0.size)
 have hz1 := hb01.size
 have rf := kr1.frozen; have rl := def_lt' kr1
 obtain ⟨r0, r1⟩ := bk2 kr1
 have hlen := szs_len ls
 by_cases her : er = 0
 ·have e0 : (er != 0) = false := by simp [her]
  have hI0 : DeclI w (w1.alloc (.cells #[.slice none 0 0, .slice none 0 0] 27)) w1.heap.size (.slice A ls.length c) ls (.slice none 0 0) (.slice none 0 0) [] [] :=
   ⟨kr1.alloc _, Bk.new w1 _ _, DeclIn.nil _ _, own_base (own_below ho ((Below.refl w1.heap.size w1).alloc (Nat.le_refl _) _)) hb0.size, hb01.alloc hz1 _, rl⟩
  have HI0 := Lib.hid hI0
  clear hI0 her
  go_upto_region 5 with fail
  generalize w1.alloc (.cells #[.slice none 0 0, .slice none 0 0] 27) = w2 at *
  clear r0 r1 rf rl kr1 kr ho htx hb01 hb0 hln
  go_wp2
  go_loopw [9] (fun j wr => ∃ (k : Nat) (nv mv : Value) (ns : List Nd) (ms : List Mr), k ≤ ls.length ∧ j = .int .i64 k ∧ Hid (DeclI w wr w1.heap.size (.slice A ls.length c) ls nv mv ns ms)) (fun j _ => ls.length - (intOf j).toNat)
  case atStart => exact ⟨0, _, _, [], [], by omega, rfl, HI0⟩
  case round =>
   clear HI0
   obtain ⟨k, nv, mv, ns, ms, hk, rfl, hI⟩ := hrel
   obtain ⟨NA, nc, rfl, -, -, -, -⟩ := own_form hI.out.i.n
   obtain ⟨MA, mc, rfl, -, -, -, -⟩ := own_form hI.out.i.m
   have rf := hI.out.r.frozen; have rl := def_lt' hI.out.r
   have df := hI.out.d.frozen; have dl := def_lt' hI.out.d
   have hh := hI.out.h
   obtain ⟨r0, r1⟩ := bk2 hI.out.r
   obtain ⟨d0, d1⟩ := bk2 hI.out.d
   by_cases hlt : k < ls.length
   ·have e3 : (k : Int) < ls.length := by omega
    obtain ⟨A', c', eA, -, -, -, hrd⟩ := own_form hI.out.l
    injection eA with ea eb ec
    subst ea
    obtain ⟨ab, ao, y, rfl, hab, hy, hyc⟩ := strs_at hrd hlt
    have hy2 : y.size + 1 ≤ 65537 := Nat.le_trans (szs_mem (List.mem_of_getElem? hy)) hsz
    have hsp := Lib.hid (split_any y wr (by omega))
    clear hy hrd eb ec
    go_wp2_with (go_at_call 95; fail)
    refine hsp.out.mono ?_
    rintro e w3 ⟨v3, er3, rfl, htx3, hb3⟩
    obtain ⟨l3, ho3, hsz3⟩ := htx3.own
    obtain ⟨A3, c3, rfl, hn3, hc3, -, hr3⟩ := own_form ho3
    have hI3 := Lib.hid (hI.out.below hb3)
    have HR3 := Lib.hid hr3
    clear r0 r1 d0 d1 rf rl df dl hsp htx3 ho3 hr3
    have rf := hI3.out.r.frozen; have rl := def_lt' hI3.out.r
    have df := hI3.out.d.frozen; have dl := def_lt' hI3.out.d
    obtain ⟨r0, r1⟩ := bk2 hI3.out.r
    obtain ⟨d0, d1⟩ := bk2 hI3.out.d
    have hbad0 : ∀ er : Int, (er == 0) = false → (er != 0) = true := fun er h => by rw [bne, h]; rfl
    have HBAD := Lib.hid hbad0
    clear hbad0
    by_cases her3 : er3 = 0
    ·subst her3
     by_cases hl3 : 0 < l3.length
     ·have e5 : (0 : Int) < l3.length := by omega
      have had := Lib.hid (add10_any w.heap.size _ _ ns ms A3 l3.length c3 l3 w3 hI3.out.b.size hI3.out.i HR3.out (by omega) hn3 hc3)
      go_wp2_with (go_at_call 96; fail)
      refine had.out.mono ?_
      rintro e w4 ⟨nv', mv', ns', ms', er4, row, rfl, hi4, hg4, hrow⟩
      obtain ⟨NA', nc', rfl, -, -, -, -⟩ := own_form hi4.n
      obtain ⟨MA', mc', rfl, -, -, -, -⟩ := own_form hi4.m
      have hI5 := Lib.hid (hI3.out.add hi4 hg4 hrow)
      have kr4 : Bk w4 w.heap.size 27 #[.slice none 0 0, .slice none 0 0] := hI3.out.r.grown hg4 (fun e => by rcases hrow with h1 | h1; (· exact own_ne hI3.out.i.n hI3.out.r (by decide) (by rw [← h1]; exact e)); (· exact own_ne hI3.out.i.m hI3.out.r (by decide) (by rw [← h1]; exact e)))
      have kd4 : Bk w4 w1.heap.size 27 #[.slice NA ns.length nc, .slice MA ms.length mc] := hI3.out.d.grown hg4 (fun e => by rcases hrow with h1 | h1; (· exact own_ne hI3.out.i.n hI3.out.d (by decide) (by rw [← h1]; exact e)); (· exact own_ne hI3.out.i.m hI3.out.d (by decide) (by rw [← h1]; exact e)))
      clear had hi4 hg4 hrow r0 r1 d0 d1 rf rl df dl
      have rf := kr4.frozen; have rl := def_lt' kr4
      have df := kd4.frozen; have dl := def_lt' kd4
      obtain ⟨r0, r1⟩ := bk2 kr4
      obtain ⟨d0, d1⟩ := bk2 kd4
      by_cases her4 : er4 = 0
      ·subst her4
       go_wp2
       go_roundw
       case rel => exact ⟨k + 1, _, _, ns', ms', by omega, by go_num, hI5⟩
       case measure => simp [intOf]; omega
      ·have e6 : (er4 == 0) = false := beq_false_of_ne her4
       have e7 := HBAD.out er4 e6
       clear her4
       go_wp2
       obtain ⟨g1, g2, g3⟩ := decl_left (DeclIn.nil _ w.heap.size) hI5.out.b hI5.out.r
       obtain ⟨z0, z1⟩ := bk2 g2
       exact bodyPost_ret (v := .tuple #[.agg #[.slice none 0 0, .slice none 0 0], .int .i64 ((k : Int) + 1), .int .i64 er4]) (by simp [results, Tryz.results47, go_sem, z0, z1]) rfl ⟨_, _, [], [], _, _, rfl, g1, g3⟩
     ·have e5 : ¬ (0 : Int) < l3.length := by omega
      go_wp2
      go_roundw
      case rel => exact ⟨k + 1, _, _, ns, ms, by omega, by go_num, hI3⟩
      case measure => simp [intOf]; omega
    ·have e6 : (er3 == 0) = false := beq_false_of_ne her3
     have e7 := HBAD.out er3 e6
     clear her3
     go_wp2
     obtain ⟨g1, g2, g3⟩ := decl_left (DeclIn.nil _ w.heap.size) hI3.out.b hI3.out.r
     obtain ⟨z0, z1⟩ := bk2 g2
     exact bodyPost_ret (v := .tuple #[.agg #[.slice none 0 0, .slice none 0 0], .int .i64 ((k : Int) + 1), .int .i64 er3]) (by simp [results, Tryz.results47, go_sem, z0, z1]) rfl ⟨_, _, [], [], _, _, rfl, g1, g3⟩
   ·obtain rfl : k = ls.length := by omega
    go_wp2
    obtain ⟨g1, g2, g3⟩ := decl_left hI.out.i hI.out.b hI.out.r
    obtain ⟨z0, z1⟩ := bk2 g2
    exact bodyPost_ret (v := .tuple #[.agg #[.slice NA ns.length nc, .slice MA ms.length mc], .int .i64 0, .int .i64 0]) (by simp [results, Tryz.results47, go_sem, z0, z1]) rfl ⟨_, _, ns, ms, _, _, rfl, g1, g3⟩
 ·have e0 : (er != 0) = true := by simp [her]
  clear her
  go_wp2
  obtain ⟨g1, g2, g3⟩ := decl_left (DeclIn.nil _ w.heap.size) hb01 kr1
  obtain ⟨z0, z1⟩ := bk2 g2
  exact bodyPost_ret (v := .tuple #[.agg #[.slice none 0 0, .slice none 0 0], .int .i64 at_, .int .i64 er]) (by simp [results, Tryz.results47, go_sem, z0, z1]) rfl ⟨_, _, [], [], _, _, rfl, g1, g3⟩
end Go.Proofs.YtmacfoebfpljoaaGreat
