/- merged texts: Htk Htl Htm Hna Hnc Hnd Hne -/
import Derived.Test.YtmacfoebfpljoaaGreatMa9
import Derived.Deep.CutBlock
import Derived.Test.YtmacfoebfpljoaaGreatMa8
import Derived.Test.YtmacfoebfpljoaaGreatMa6
import Derived.Deep.OwnRows
import Derived.Deep.WholeRow
set_option maxRecDepth 100000
set_option maxHeartbeats 16000000
namespace Go.Proofs.YtmacfoebfpljoaaGreat
open Go.RowKit
set_option linter.unusedVariables false
theorem part_times (w00 : World) (pb n c mb ec : Nat) (A EA : Option Addr) (l : List Pt) (mg : List Mg) (i : Nat) (p : Pt) (hpi : l[i]? = some p) (hk : p.k = 4) (hp : Parts w00 pb (.slice A n c) n l) (hn : n ≤ 1000) (hg : MgsIn w00 mb (.slice EA mg.length ec) mg) (hgl : mg.length ≤ 100000) (ih : ∀ i', i' < i → PartAny w00 pb n c mb ec A EA l mg i') : PartAny w00 pb n c mb ec A EA l mg i := by
 intro nb m on bh f e em w hbw hnet hm
 have hzw := hbw.size
 have hok := hp.ok i p hpi
 have hin : i < n := by have := hp.len; have := (List.getElem?_eq_some_iff.1 hpi).1; omega
 have hkown := own_below (hp.own i p hpi) hbw
 have hkl : p.ks.length = p.m := by have := hkown.1; simpa [nts] using this
 have hmn := mn_eq hpi hok.kid
 obtain ⟨ab, ao, rfl, hab, hcc⟩ := (hp.below hbw).at_ hpi
 have c0 : w.cell? ⟨ab, ao + i * 5, none⟩ = some (.int .i64 p.k) := hcc 0 (by omega)
 have c1 : w.cell? ⟨ab, ao + i * 5 + 1, none⟩ = some (.int .i64 p.lo) := hcc 1 (by omega)
 have c2 : w.cell? ⟨ab, ao + i * 5 + 2, none⟩ = some (.int .i64 p.hi) := hcc 2 (by omega)
 have c3 : w.cell? ⟨ab, ao + i * 5 + 3, none⟩ = some (.string p.nm) := hcc 3 (by omega)
 have c4 : w.cell? ⟨ab, ao + i * 5 + 4, none⟩ = some (.slice p.A p.m p.c) := hcc 4 (by omega)
 unfold tms at hmn
 obtain ⟨pk, plo, phi, pnm, pA, pm, pc, pks, ps⟩ := p
 obtain ⟨⟨k1, k2⟩, ⟨lo1, lo2⟩, ⟨hi1, hi2⟩, nm1, hone, -, m1, kid1⟩ := hok
 dsimp only at *
 have HP := Lib.hid hp
 have HG := Lib.hid hg
 have HKO := Lib.hid hkown
 have HKL := Lib.hid hkl
 have HKID := Lib.hid kid1
 have IH := Lib.hid ih
 have HMN := Lib.hid hmn
 have HNET := Lib.hid hnet
 have HONE := Lib.hid hone
 have HM := Lib.hid hm
 have i0 : (0 : Int) ≤ i := by omega
 have i1 : (i : Int) < n := by omega
 have HK := Lib.hid hk
 clear hp hkown hkl kid1 ih hcc hpi hmn hone hg hnet hk hm
 have HGE := Lib.hid (And.intro HNET.out.ron.ge HNET.out.rbh.ge)
 have hky : ∀ g, (Pt.v ⟨pk, plo, phi, pnm, pA, pm, pc, pks, ps⟩).ownBlock = some g → ¬ (g = nb ∨ on.ownBlock = some g ∨ bh.ownBlock = some g) := by
  rintro g hg (h0 | h0 | h0)
  ·subst h0; exact own_ne HKO.out HNET.out.n (by decide) hg
  ·obtain ⟨vs, hv, -⟩ := id HNET.out.ron; exact hown_type HKO.out hv (by decide) g h0 hg
  ·obtain ⟨vs, hv, -⟩ := id HNET.out.rbh; exact hown_type HKO.out hv (by decide) g h0 hg
 have HKY := Lib.hid hky
 have hnbl := def_lt' HNET.out.n
 clear hky
 have hpm : pm = 1 := HONE.out HK.out
 subst hpm
 obtain ⟨x, hx⟩ : ∃ x, pks[0]? = some x := ⟨_, List.getElem?_eq_getElem (by rw [HKL.out]; omega)⟩
 have hpks : pks = [x] := by
  have := HKL.out
  match pks, this, hx with
  | [y], _, h => simp at h; rw [h]
 have hxi := HKID.out x (List.mem_of_getElem? hx)
 obtain ⟨t, ht⟩ : ∃ t : Nat, t = (if phi < 0 then (max plo 1).toNat else phi.toNat) := ⟨_, rfl⟩
 have htl : t ≤ 20 := by rw [ht]; split <;> omega
 obtain ⟨X, hX⟩ : ∃ X, X = mn l x := ⟨_, rfl⟩
 have hmt : mn l i = X * t := by rw [HMN.out, if_neg (by rw [HK.out]; omega), if_pos HK.out, ← ht, hpks, hX]; simp
 have HT := Lib.hid (show (t : Int) = if phi < 0 then max plo 1 else phi by rw [ht]; split <;> omega)
 have HX := Lib.hid hX
 have hbnd : m + X * t ≤ 256 := by have := HM.out; rw [hmt] at this; exact this
 have HB := Lib.hid hbnd
 obtain ⟨kb, kj, rfl, hkc⟩ := nts_cell HKO.out (show 0 < 1 by omega)
 have hk0 := hkc 0 x hx
 rw [Nat.add_zero] at hk0
 have HK0 := Lib.hid hk0
 have HMT := Lib.hid hmt
 have x0 : (0 : Int) ≤ x := by omega
 have x1 : (x : Int) < n := by omega
 have e1 : (pk == 1) = false := by rw [HK.out]; rfl
 have e3 : (pk == 3) = false := by rw [HK.out]; rfl
 have e2 : (pk == 2) = false := by rw [HK.out]; rfl
 clear hx hpks ht hX hmt hbnd hkc hk0 HMN HKL HKID
 go_enter Tryz.func157, Tryz.ntmps157
 go_upto_region 3 with fail
 have kr : Bk (((w.alloc (.cells zeroT 205)).alloc (.cells #[.int .i64 pk, .int .i64 plo, .int .i64 phi, .string pnm, .slice (some ⟨kb, kj, none⟩) 1 pc] 192)).alloc (.cells zeroT 205)) w.heap.size 205 zeroT := ((Bk.new w _ _).alloc _).alloc _
 have kp : Bk (((w.alloc (.cells zeroT 205)).alloc (.cells #[.int .i64 pk, .int .i64 plo, .int .i64 phi, .string pnm, .slice (some ⟨kb, kj, none⟩) 1 pc] 192)).alloc (.cells zeroT 205)) (w.heap.size + 1) 192 #[.int .i64 pk, .int .i64 plo, .int .i64 phi, .string pnm, .slice (some ⟨kb, kj, none⟩) 1 pc] := (Bk.made _ _ (by simp)).alloc _
 have ko : Bk (((w.alloc (.cells zeroT 205)).alloc (.cells #[.int .i64 pk, .int .i64 plo, .int .i64 phi, .string pnm, .slice (some ⟨kb, kj, none⟩) 1 pc] 192)).alloc (.cells zeroT 205)) (w.heap.size + 2) 205 zeroT := Bk.made _ _ (by simp)
 have hb0 : Below w.heap.size w (((w.alloc (.cells zeroT 205)).alloc (.cells #[.int .i64 pk, .int .i64 plo, .int .i64 phi, .string pnm, .slice (some ⟨kb, kj, none⟩) 1 pc] 192)).alloc (.cells zeroT 205)) := belowA
 generalize ((w.alloc (.cells zeroT 205)).alloc (.cells #[.int .i64 pk, .int .i64 plo, .int .i64 phi, .string pnm, .slice (some ⟨kb, kj, none⟩) 1 pc] 192)).alloc (.cells zeroT 205) = w0 at *
 have hI0 := Lib.hid (PI.zero HNET.out hzw hb0 kr kp ko)
 clear kr kp ko hb0 c0 c1 c2 c3 c4 HNET
 obtain ⟨s0, s1, s2, s3, s4⟩ := bk5 hI0.out.o
 obtain ⟨q0, q1, q2, q3, q4⟩ := bk5 hI0.out.p
 obtain ⟨r0, r1, r2, r3, r4⟩ := bk5 (show Bk _ w.heap.size 205 zeroT from hI0.out.r)
 have sf := hI0.out.o.frozen; have sl := def_lt' hI0.out.o
 have rf := hI0.out.r.frozen; have rl := def_lt' hI0.out.r
 have hkx : ∀ W, Sti (fun i => i = nb ∨ on.ownBlock = some i ∨ bh.ownBlock = some i) w W → W.cell? ⟨kb, kj, none⟩ = some (.int .i64 (x : Int)) := fun W hW => by
  have hkl0 : kb < w.heap.size := block_lt_of HK0.out
  have h1 := hW.block kb hkl0 (HKY.out kb rfl)
  exact (World.cell?_of_block (a := ⟨kb, kj, none⟩) h1).trans HK0.out
 have HKX := Lib.hid hkx
 clear hkx
 have hI1 := Lib.hid (hI0.out.set 4 (.bool true) (hI0.out.o.set_ 4 _) hI0.out.nfi hI0.out.nei)
 go_upto_region 20 with fail
 clear hI0
 clear s0 s1 s2 s3 s4 q0 q1 q2 q3 q4 r0 r1 r2 r3 r4 sf sl rf rl
 generalize w0.setCell ⟨w.heap.size + 2, 4, none⟩ (.bool true) = w1 at *
 obtain ⟨s0, s1, s2, s3, s4⟩ := bk5 hI1.out.o
 obtain ⟨q0, q1, q2, q3, q4⟩ := bk5 hI1.out.p
 obtain ⟨r0, r1, r2, r3, r4⟩ := bk5 (show Bk _ w.heap.size 205 zeroT from hI1.out.r)
 have sf := hI1.out.o.frozen; have sl := def_lt' hI1.out.o
 have rf := hI1.out.r.frozen; have rl := def_lt' hI1.out.r
 go_upto_if 133 with fail
 go_cut [16] (fun v wx => v = .int .i64 t ∧ wx = w1)
 case first =>
  by_cases hneg : phi < 0
  ·have ht := HT.out
   rw [if_pos hneg] at ht
   have HTT := Lib.hid ht
   clear ht
   by_cases hlo : plo < 1
   all_goals
    go_wp2
    go_meet
    exact ⟨by congr 1; have := HTT.out; omega, rfl⟩
  ·have ht := HT.out
   rw [if_neg hneg] at ht
   have HTT := Lib.hid ht
   clear ht
   go_wp2
   go_meet
   exact ⟨by congr 1; have := HTT.out; omega, rfl⟩
 case rest =>
 obtain ⟨rfl, rfl⟩ := hcut
 clear s0 s1 s2 s3 s4 q0 q1 q2 q3 q4 r0 r1 r2 r3 r4 sf sl rf rl
 go_wp2
 go_loopw [17, 18] (fun av j wr => ∃ (k M : Nat) (on' bh' : Value) (xs : List Nt), k ≤ t ∧ j = .int .i64 k ∧ Hid (M = m + X * k ∧ xs.length = k) ∧ Hid (PI w w00.heap.size nb on bh f e em #[.int .i64 pk, .int .i64 plo, .int .i64 phi, .string pnm, .slice (some ⟨kb, kj, none⟩) 1 pc] wr M on' bh' (.slice none 0 0) (.slice none 0 0) true) ∧ Hid (NtsIn wr (w.heap.size + 3) w00.heap.size M av xs)) (fun _ j _ => t - (intOf j).toNat)
 case atStart => exact ⟨0, m, on, bh, [], by omega, rfl, Lib.hid ⟨by simp, rfl⟩, hI1, Lib.hid (NtsIn.nil _ _ _ _)⟩
 case round =>
  clear hI1
  obtain ⟨k, M, on', bh', xs, hk, rfl, hM, hI, hN⟩ := hrel
  rename World => wo
  obtain ⟨Av, cv, rfl, -, -, -, -⟩ := own_form hN.out.a
  obtain ⟨s0, s1, s2, s3, s4⟩ := bk5 hI.out.o
  obtain ⟨q0, q1, q2, q3, q4⟩ := bk5 hI.out.p
  obtain ⟨r0, r1, r2, r3, r4⟩ := bk5 (show Bk _ w.heap.size 205 zeroT from hI.out.r)
  have sf := hI.out.o.frozen; have sl := def_lt' hI.out.o
  have rf := hI.out.r.frozen; have rl := def_lt' hI.out.r
  have hkr0 := HKX.out wo hI.out.s
  have hb3 : w.heap.size + 3 ≤ wo.heap.size := by omega
  have hkbl := block_lt_of hkr0
  have hbr := hI.out.s.below (B := w00.heap.size) (by rintro j (h0 | h0 | h0); (· have := hI.out.net.h; omega); (· exact HGE.out.1 j h0); (· exact HGE.out.2 j h0)) hzw
  have hbrw : Below w00.heap.size w00 wo := hbw.trans hbr
  have hzo := hbrw.size
  by_cases hlt : k < t
  ·have e4 : (k : Int) < t := by omega
   have hXk : M + mn l x = m + X * (k + 1) := by rw [Nat.mul_succ, ← HX.out]; have := hM.out.1; omega
   have hle : X * (k + 1) ≤ X * t := Nat.mul_le_mul_left X hlt
   have hbound : M + mn l x ≤ 256 := by have := HB.out; omega
   have hih := Lib.hid (IH.out x hxi nb M on' bh' f e em wo hbrw hI.out.net hbound)
   have HXK := Lib.hid hXk
   have HBD := Lib.hid hbound
   clear hXk hle
   go_wp2_with (go_at_call 157; fail)
   refine hih.out.mono ?_
   rintro e9 w5 ⟨xfi, xei, xxm, on2, bh2, rfl, hn5, hxf5, hxe5, hs5, ho5, hh5⟩
   have hI5 := Lib.hid (hI.out.rec_ hn5 hs5 ho5 hh5)
   have hz5 := hs5.size
   have hN5 : NtsIn w5 (w.heap.size + 3) w00.heap.size (M + mn l x) (.slice Av xs.length cv) xs := by
    refine NtsIn.mono (hN.out.sti hs5 ?_ ?_) (Nat.le_add_right _ _)
    ·rintro g hg (h0 | h0 | h0)
     ·have := own_ge hN.out.a g hg; omega
     ·obtain ⟨vs, hv, -⟩ := id hI.out.net.ron; exact hown_type hN.out.a hv (by decide) g h0 hg
     ·obtain ⟨vs, hv, -⟩ := id hI.out.net.rbh; exact hown_type hN.out.a hv (by decide) g h0 hg
    ·rintro u hu g hg (h0 | h0 | h0)
     ·subst h0; exact hu.ne hI.out.net.n (by decide) hg
     ·exact hu.ne_rws hI.out.net.ron g h0 hg
     ·exact hu.ne_rws hI.out.net.rbh g h0 hg
   obtain ⟨Ag, cg, lg, rfl, -, -, -⟩ := hxf5.form
   obtain ⟨Ah, ch, lh, rfl, hlh, -, hoh⟩ := hxe5.form
   have hlh2 := hlh.len
   generalize lg.length = gn at *
   obtain ⟨hnn, hhn⟩ : ∃ hnn, hnn = lh.length := ⟨_, rfl⟩
   rw [← hhn] at hxe5 hoh hlh2
   have HHN := Lib.hid hhn
   have HLH := Lib.hid hlh
   have HX5 := Lib.hid (And.intro hxf5 (And.intro hxe5 hoh))
   have HN5 := Lib.hid hN5
   rw [← hhn]
   clear hn5 hs5 ho5 hh5 hxf5 hxe5 hI hih hN hN5 hkr0 hhn hlh hoh hkbl
   clear s0 s1 s2 s3 s4 q0 q1 q2 q3 q4 r0 r1 r2 r3 r4 sf sl rf rl
   go_upto_region 35 with fail
   have hb6 : Below w5.heap.size w5 (w5.alloc (.cells #[.slice none 0 0, .slice none 0 0, .slice Ag gn cg, .slice Ah hnn ch, .bool xxm] 205)) := belowA
   have kx := Bk.new w5 205 #[.slice none 0 0, .slice none 0 0, .slice Ag gn cg, .slice Ah hnn ch, .bool xxm]
   generalize w5.alloc (.cells #[.slice none 0 0, .slice none 0 0, .slice Ag gn cg, .slice Ah hnn ch, .bool xxm] 205) = w6 at *
   have hI6 := Lib.hid (hI5.out.below hb6)
   have HN6 := Lib.hid (HN5.out.below hb6)
   have HX6 := Lib.hid (And.intro (HX5.out.1.below hb6) (And.intro (HX5.out.2.1.below hb6) (own_below HX5.out.2.2 hb6)))
   have hav : ∀ g, (Value.slice Av xs.length cv).ownBlock = some g → g ≠ w5.heap.size := fun g hg => by have := own_lt HN5.out.a g hg; omega
   have HAV := Lib.hid hav
   have hz6 := hb6.size
   clear hI5 HX5 HN5 hb6 hav
   obtain ⟨s0, s1, s2, s3, s4⟩ := bk5 hI6.out.o
   obtain ⟨q0, q1, q2, q3, q4⟩ := bk5 hI6.out.p
   obtain ⟨r0, r1, r2, r3, r4⟩ := bk5 (show Bk _ w.heap.size 205 zeroT from hI6.out.r)
   have sf := hI6.out.o.frozen; have sl := def_lt' hI6.out.o
   have rf := hI6.out.r.frozen; have rl := def_lt' hI6.out.r
   obtain ⟨y0, y1, y2, y3, y4⟩ := bk5 kx
   go_cut [158] (fun v wx => ∃ bb : Bool, v = .bool bb ∧ wx = w6)
   case first =>
    by_cases hneg : phi < 0
    ·go_wp2
     go_meet
     exact ⟨_, rfl, rfl⟩
    ·go_wp2
     go_meet
     exact ⟨_, rfl, rfl⟩
   case rest =>
   obtain ⟨bb, rfl, hw6⟩ := hcut
   replace hw6 := hw6.symm
   subst hw6
   go_upto_if 158 with fail
   go_cut [20] (fun _ wx => Hid (PI w w00.heap.size nb on bh f e em #[.int .i64 pk, .int .i64 plo, .int .i64 phi, .string pnm, .slice (some ⟨kb, kj, none⟩) 1 pc] wx (M + mn l x) on2 bh2 (.slice none 0 0) (.slice none 0 0) true) ∧ Hid (NtsIn wx (w.heap.size + 3) w00.heap.size (M + mn l x) (.slice Av xs.length cv) xs) ∧ Bk wx w5.heap.size 205 #[.slice none 0 0, .slice none 0 0, .slice Ag gn cg, .slice Ah hnn ch, .bool xxm] ∧ Hid (NsIn wx w00.heap.size (M + mn l x) (.slice Ag gn cg) ∧ NsIn wx w00.heap.size (M + mn l x) (.slice Ah hnn ch)) ∧ w5.heap.size < wx.heap.size)
   case first =>
    cases bb with
    | false =>
      go_wp2
      go_meet
      exact ⟨hI6, HN6, kx, Lib.hid ⟨HX6.out.1, HX6.out.2.1⟩, def_lt' kx⟩
    | true =>
      obtain ⟨Ab2, cb2, rfl⟩ := hI6.out.net.rbh.form
      obtain ⟨vsb, hvb, -⟩ := id hI6.out.net.rbh
      have hohs : ∀ g, (Value.slice Ah hnn ch).ownBlock = some g → ¬ (Value.slice Ab2 (M + mn l x) cb2).ownBlock = some g := fun g hg h0 => hown_type HX6.out.2.2 hvb (by decide) g h0 hg
      have HOH := Lib.hid hohs
      clear hohs hvb
      go_wp2
      go_loopw [20] (fun j wr => ∃ q : Nat, q ≤ hnn ∧ j = .int .i64 q ∧ Hid ((PI w w00.heap.size nb on bh f e em #[.int .i64 pk, .int .i64 plo, .int .i64 phi, .string pnm, .slice (some ⟨kb, kj, none⟩) 1 pc] wr (M + mn l x) on2 (.slice Ab2 (M + mn l x) cb2) (.slice none 0 0) (.slice none 0 0) true) ∧ (NtsIn wr (w.heap.size + 3) w00.heap.size (M + mn l x) (.slice Av xs.length cv) xs) ∧ Bk wr w5.heap.size 205 #[.slice none 0 0, .slice none 0 0, .slice Ag gn cg, .slice Ah hnn ch, .bool xxm] ∧ NsIn wr w00.heap.size (M + mn l x) (.slice Ag gn cg) ∧ Sti (fun i => (Value.slice Ab2 (M + mn l x) cb2).ownBlock = some i) w6 wr)) (fun j _ => hnn - (intOf j).toNat)
      case atStart => exact ⟨0, by omega, rfl, Lib.hid ⟨hI6.out, HN6.out, kx, HX6.out.1, Sti.refl _ _⟩⟩
      case round =>
       clear s0 s1 s2 s3 s4 q0 q1 q2 q3 q4 r0 r1 r2 r3 r4 sf sl rf rl
       clear y0 y1 y2 y3 y4
       obtain ⟨q, hq, rfl, hL⟩ := hrel
       have hIL := Lib.hid hL.out.1
       have hNL := Lib.hid hL.out.2.1
       have kxL := hL.out.2.2.1
       have hxL := Lib.hid hL.out.2.2.2.1
       have hsL := Lib.hid hL.out.2.2.2.2
       clear hL
       obtain ⟨y0, y1, y2, y3, y4⟩ := bk5 kxL
       obtain ⟨n0, n1, n2, n3, n4⟩ := bk5 hIL.out.net.n
       have nl := def_lt' hIL.out.net.n
       by_cases hql : q < hnn
       ·have e5 : (q : Int) < hnn := by omega
        have hrdr : Rd wr wr.heap.size 1 Ah hnn (nts lh) := by
         obtain ⟨A', c', e1, -, -, -, r⟩ := own_form (hsL.out.own HX6.out.2.2 HOH.out)
         injection e1 with e1 e2 e3
         subst e1
         exact r
        obtain ⟨eb, eo, t', rfl, heb, ht, htc⟩ := hrdr.nt_at hql
        have htm := HLH.out.2 t' (List.mem_of_getElem? ht)
        obtain ⟨g, u, rfl, hBg, hgw, huc, hu, hgf⟩ := hIL.out.net.rbh.at_ htm
        obtain ⟨Au, cu, lu, rfl, -, -, -⟩ := hu.form
        have t0 : (0 : Int) ≤ t' := by omega
        have t1 : (t' : Int) < (M + mn l x : Nat) := by omega
        have t1b : (t' : Int) < (M : Int) + (mn l x : Int) := by omega
        have k0 : (0 : Int) ≤ q := by omega
        have hF : ∀ W, Below wr.heap.size wr W → W.cell? ⟨nb, 1, none⟩ = some (.slice (some ⟨g, 0, none⟩) (M + mn l x) cb2) ∧ W.cell? ⟨w5.heap.size, 3, none⟩ = some (.slice (some ⟨eb, eo, none⟩) hnn ch) ∧ W.cell? ⟨w5.heap.size, 2, none⟩ = some (.slice Ag gn cg) ∧ W.cell? ⟨eb, eo + q, none⟩ = some (.int .i64 t') ∧ W.cell? ⟨g, t', none⟩ = some (.slice Au lu.length cu) := fun W h => ⟨(hIL.out.net.n.ext h).cell 1, (kxL.ext h).cell 3, (kxL.ext h).cell 2, (h.cell (by simpa using heb)).trans htc, (h.cell (by simpa using hgw)).trans huc⟩
        have HF := Lib.hid hF
        have HU := Lib.hid hu
        have hbB : w00.heap.size ≤ wr.heap.size := by have := hIL.out.s.size; omega
        clear hF hrdr ht
        generalize lu.length = un at *
        go_upto_region 39 with fail
        clear y0 y1 y2 y3 y4 n0 n1 n2 n3 n4 nl
        refine wp_normal ?_
        refine region_L (S := fun W => Below wr.heap.size wr W) [24] (by kernel_rfl) (Below.refl _ _).drew (fun hHeld => ?_)
        (refine tkL 0 ?_; refine tkL 1 ?_; refine tkL 2 ?_; refine tkL 3 ?_; refine tkL 4 ?_; refine tkL 5 ?_; refine tkL 6 ?_; refine tkL 7 ?_; refine tkL 8 ?_; refine tkL 9 ?_; refine tkL 10 ?_; refine tkL 11 ?_; refine tkL 12 ?_; refine tkL 13 ?_; refine tkL 14 ?_; refine tkL 15 ?_; refine tkL 16 ?_; refine tkL 17 ?_; refine tkL 18 ?_; refine tkL 19 ?_; refine tkL 20 ?_; refine tkL 21 ?_)
        refine nxL 22 (fun K hK => ?_)
        go_simp
        go_at_call 196
        refine (or_any _ _ w00.heap.size w00.heap.size (M + mn l x) _ (by omega) (HU.out.below (w' := wr.drew) (Below.refl _ _).drew) (hxL.out.below (w' := wr.drew) (Below.refl _ _).drew)).mono ?_
        rintro e7 w7 ⟨v7, rfl, hv7, hb7'⟩
        have hb7 : Below wr.heap.size wr w7 := Below.trans (Below.refl _ _).drew hb7'
        have hv7' : NsIn w7 w00.heap.size (M + mn l x) v7 := hv7.mono (Nat.le_refl _) hbB
        have HL8 := Lib.hid (loop_put hIL.out hNL.out kxL hxL.out hsL.out hb7 htm hv7')
        obtain ⟨A7, c7, l7, rfl, -, -, -⟩ := hv7.form
        have hgc7 : w7.cell? ⟨g, t', none⟩ = some (.slice Au un cu) := (hb7.cell (by simpa using hgw)).trans huc
        have hgf7 : w7.frozen? ⟨g, t', none⟩ = false := (hb7.frozen (p := ⟨g, t', none⟩) (by simpa using hgw)).trans (hgf t')
        refine hK.out _ _ hb7 (fun hHeld => ?_)
        clear hK K; refine puL ?_
        (refine tkL 23 ?_)
        refine ltL 24 (fun K hK => ?_)
        go_simp
        refine hK.out _ _ ?_
        refine anyL_done (by kernel_rfl) ?_
        go_wp2
        go_roundw
        case rel => exact ⟨q + 1, by omega, by go_num, HL8⟩
        case measure => simp [intOf]; omega
       ·obtain rfl : q = hnn := by omega
        have hxe := hsL.out.ns HX6.out.2.1 HOH.out
        have hxl := def_lt' kxL
        go_wp2
        go_meet
        exact ⟨hIL, hNL, kxL, Lib.hid ⟨hxL.out, hxe⟩, hxl⟩
   case rest =>
   obtain ⟨hI7, HN7, kx7, HX7, hl7⟩ := hcut
   clear s0 s1 s2 s3 s4 q0 q1 q2 q3 q4 r0 r1 r2 r3 r4 sf sl rf rl
   clear y0 y1 y2 y3 y4 HX6 HN6 hI6 kx
   obtain ⟨y0, y1, y2, y3, y4⟩ := bk5 kx7
   have hb37 : w.heap.size + 3 ≤ wc.heap.size := by omega
   have hxl7 : xs.length ≤ 20 := by have := hM.out.2; omega
   have HO7 := Lib.hid HN7.out.a
   go_wp2_with (at_builtin; ((refine app_one Tryz.underlying317 info_nt rfl (by decide) wc (w.heap.size + 3) _ xs.length _ HO7.out (by unfold maxLen; omega) (by omega) (by omega) _ rfl (by simp [Value.oneCell']) rfl _ _ rfl rfl rfl ?_); intro g9 cap9 w9 hown9 hgr9 hat9 hlt9))
   have hs9 : Sti (fun i => (Value.slice Av xs.length cv).ownBlock = some i) wc w9 := Sti.of_gr hgr9 (fun i h => h)
   have hI9 := Lib.hid (hI7.out.sti hs9 (fun i hi => own_ge HO7.out i hi) (fun i hi => own_bk HO7.out hi))
   have hN9 := Lib.hid (HN7.out.push (x := ⟨.slice Ag gn cg, .slice Ah hnn ch, xxm⟩) HX7.out hgr9 hown9)
   go_roundw
   case rel => exact ⟨k + 1, M + mn l x, on2, bh2, _, by omega, by go_num, Lib.hid ⟨HXK.out, by rw [List.length_append]; have h2 := hM.out.2; simp; omega⟩, hI9, hN9⟩
   case measure => simp [intOf]; omega
  ·have hkt : k = t := by omega
   subst hkt
   have hMM : M = m + mn l i := by rw [HMT.out]; exact hM.out.1
   have hM256 : M ≤ 256 := by have := HM.out; omega
   have hxsl := hM.out.2
   have HXS := Lib.hid hxsl
   subst hMM
   generalize hMg : m + mn l i = MM at *
   have HMG := Lib.hid hMg
   clear hMg hxsl hM
   obtain ⟨Ab, cb, rfl⟩ := hI.out.net.rbh.form
   obtain ⟨z, hz⟩ : ∃ z : Nat, z = min k plo.toNat := ⟨_, rfl⟩
   have hz1 : z ≤ k := by omega
   have hz2 : (z : Int) ≤ plo := by omega
   have hz3 : z = k ∨ (z : Int) = plo := by omega
   have HZ3 := Lib.hid hz3
   clear hz hz3
   go_wp2
   clear s0 s1 s2 s3 s4 q0 q1 q2 q3 q4 r0 r1 r2 r3 r4 sf sl rf rl
   go_loopw [21] (fun j wr => ∃ (q : Nat) (fi ei : Value) (xm : Bool), q ≤ z ∧ j = .int .i64 q ∧ Hid (PI w w00.heap.size nb on bh f e em #[.int .i64 pk, .int .i64 plo, .int .i64 phi, .string pnm, .slice (some ⟨kb, kj, none⟩) 1 pc] wr MM on' (.slice Ab MM cb) fi ei xm) ∧ Hid (NtsIn wr (w.heap.size + 3) w00.heap.size MM (.slice Av xs.length cv) xs)) (fun j _ => z - (intOf j).toNat)
   case atStart => exact ⟨0, _, _, _, by omega, rfl, hI, hN⟩
   case round =>
    clear hI hN
    obtain ⟨q, fi, ei, xm, hq, rfl, hI, hN⟩ := hrel
    obtain ⟨Af, cf, lf, rfl, -, -, -⟩ := hI.out.nfi.form
    obtain ⟨Ae, ce, le, rfl, -, -, -⟩ := hI.out.nei.form
    generalize lf.length = fn at *
    generalize le.length = en at *
    obtain ⟨s0, s1, s2, s3, s4⟩ := bk5 hI.out.o
    obtain ⟨q0, q1, q2, q3, q4⟩ := bk5 hI.out.p
    obtain ⟨r0, r1, r2, r3, r4⟩ := bk5 (show Bk _ w.heap.size 205 zeroT from hI.out.r)
    have sf := hI.out.o.frozen; have sl := def_lt' hI.out.o
    have rf := hI.out.r.frozen; have rl := def_lt' hI.out.r
    have hbB : w00.heap.size ≤ wr.heap.size := by have := hI.out.s.size; omega
    go_upto_region 42 with fail
    go_cut [202] (fun v wx => v = .bool (decide (q < z)) ∧ wx = wr)
    case first =>
     by_cases h1 : q < z
     ·have HD := Lib.hid (show decide (q < z) = true from decide_eq_true h1)
      have f1 : (q : Int) < k := by omega
      have f2 : (q : Int) < plo := by omega
      go_wp2
      go_meet
      exact ⟨by rw [HD.out], rfl⟩
     ·have HD := Lib.hid (show decide (q < z) = false from decide_eq_false h1)
      by_cases h2 : q < k
      ·have f1 : (q : Int) < k := by omega
       have f2 : ¬ (q : Int) < plo := by have := HZ3.out; omega
       go_wp2
       go_meet
       exact ⟨by rw [HD.out], rfl⟩
      ·have f1 : ¬ (q : Int) < k := by omega
       go_wp2
       go_meet
       exact ⟨by rw [HD.out], rfl⟩
    case rest =>
    obtain ⟨rfl, hwc⟩ := hcut
    replace hwc := hwc.symm
    subst hwc
    by_cases h1 : q < z
    ·have hd : decide (q < z) = true := decide_eq_true h1
     obtain ⟨y, hy⟩ : ∃ y, xs[q]? = some y := ⟨_, List.getElem?_eq_getElem (by have := HXS.out; omega)⟩
     have hyi := hN.out.i y (List.mem_of_getElem? hy)
     obtain ⟨vb, vo, rfl, hvb, hvc⟩ := hN.out.at_ hy
     obtain ⟨yf, ye, ym⟩ := y
     obtain ⟨Ay, cy, ly, ey, -, -, -⟩ := hyi.1.form
     obtain ⟨Az, cz, lz, ez, -, -, -⟩ := hyi.2.form
     dsimp only at ey ez
     subst ey
     subst ez
     have v0 : wr.cell? ⟨vb, vo + q * 5, none⟩ = some (.slice none 0 0) := hvc 0 (by omega)
     have v1 : wr.cell? ⟨vb, vo + q * 5 + 1, none⟩ = some (.slice none 0 0) := hvc 1 (by omega)
     have v2 : wr.cell? ⟨vb, vo + q * 5 + 2, none⟩ = some (.slice Ay ly.length cy) := hvc 2 (by omega)
     have v3 : wr.cell? ⟨vb, vo + q * 5 + 3, none⟩ = some (.slice Az lz.length cz) := hvc 3 (by omega)
     have v4 : wr.cell? ⟨vb, vo + q * 5 + 4, none⟩ = some (.bool ym) := hvc 4 (by omega)
     have hql : (q : Int) < xs.length := by have := HXS.out; omega
     have hsq := Lib.hid (seq_any w00.heap.size MM nb (w.heap.size + 2) on' _ f e _ _ _ _ _ _ em xm ym wr hM256 hbB (by omega) hI.out.net.n hI.out.o hI.out.net.rbh hI.out.nfi hI.out.nei hyi.1 hyi.2)
     clear hvc hy hyi
     go_wp2_with (go_at_call 197; fail)
     refine hsq.out.mono ?_
     rintro e7 w7 ⟨fi7, ei7, xm7, rfl, k7, hr7, hf7, he7, hs7⟩
     have hI7 := Lib.hid (hI.out.seq k7 hr7 hf7 he7 hs7)
     have hN7 := Lib.hid (nts_seq hI.out hN.out hs7 (.inl rfl) hI.out.o)
     clear k7 hr7 hf7 he7 hs7 hsq
     go_wp2
     go_roundw
     case rel => exact ⟨q + 1, _, _, _, by omega, by go_num, hI7, hN7⟩
     case measure => simp [intOf]; omega
    ·rw [decide_eq_false h1]
     rename World => wt
     have hb9 : Below wt.heap.size wt (wt.alloc (.cells #[.slice none 0 0, .slice none 0 0, .slice none 0 0, .slice none 0 0, .bool true] 205)) := belowA
     have kt := Bk.new wt 205 #[.slice none 0 0, .slice none 0 0, .slice none 0 0, .slice none 0 0, .bool true]
     have hlt3 : w.heap.size + 3 ≤ wt.heap.size := by have := def_lt' hI.out.o; omega
     have hav : (Value.slice Av xs.length cv).ownBlock ≠ some wt.heap.size := fun e0 => absurd (own_lt hN.out.a _ e0) (Nat.lt_irrefl _)
     have HAV := Lib.hid hav
     clear hav
     go_upto_region 46 with fail
     clear s0 s1 s2 s3 s4 q0 q1 q2 q3 q4 r0 r1 r2 r3 r4 sf sl rf rl
     generalize wt.alloc (.cells #[.slice none 0 0, .slice none 0 0, .slice none 0 0, .slice none 0 0, .bool true] 205) = w9 at *
     have hI9 := Lib.hid (hI.out.below hb9)
     have hN9 := Lib.hid (hN.out.below hb9)
     have hT9 := Lib.hid (And.intro kt (And.intro (NsIn.nil w9 w00.heap.size MM) (NsIn.nil w9 w00.heap.size MM)))
     clear hI hN hb9 kt
     go_wp2
     go_loopw [23] (fun j wr => ∃ (u : Int) (tf te : Value) (tm : Bool), -1 ≤ u ∧ u < k ∧ j = .int .i64 u ∧ Hid (PI w w00.heap.size nb on bh f e em #[.int .i64 pk, .int .i64 plo, .int .i64 phi, .string pnm, .slice (some ⟨kb, kj, none⟩) 1 pc] wr MM on' (.slice Ab MM cb) (.slice Af fn cf) (.slice Ae en ce) xm) ∧ Hid (NtsIn wr (w.heap.size + 3) w00.heap.size MM (.slice Av xs.length cv) xs) ∧ Hid (Bk wr wt.heap.size 205 #[.slice none 0 0, .slice none 0 0, tf, te, .bool tm] ∧ NsIn wr w00.heap.size MM tf ∧ NsIn wr w00.heap.size MM te)) (fun j _ => (intOf j + 1).toNat)
     case atStart => exact ⟨(k : Int) - 1, _, _, _, by omega, by omega, rfl, hI9, hN9, hT9⟩
     case round =>
      clear hI9 hN9 hT9
      obtain ⟨u, tf, te, tm, hu1, hu2, rfl, hI, hN, hT⟩ := hrel
      obtain ⟨Ag, cg, lg, rfl, -, -, -⟩ := hT.out.2.1.form
      obtain ⟨Ah, ch, lh, rfl, -, -, -⟩ := hT.out.2.2.form
      generalize lg.length = gn at *
      generalize lh.length = hnn at *
      obtain ⟨s0, s1, s2, s3, s4⟩ := bk5 hI.out.o
      obtain ⟨q0, q1, q2, q3, q4⟩ := bk5 hI.out.p
      obtain ⟨r0, r1, r2, r3, r4⟩ := bk5 (show Bk _ w.heap.size 205 zeroT from hI.out.r)
      have sf := hI.out.o.frozen; have sl := def_lt' hI.out.o
      have rf := hI.out.r.frozen; have rl := def_lt' hI.out.r
      obtain ⟨y0, y1, y2, y3, y4⟩ := bk5 hT.out.1
      have tl := def_lt' hT.out.1
      have hbB9 : w00.heap.size ≤ wr.heap.size := by have := hI.out.s.size; omega
      by_cases hge : plo ≤ u
      ·obtain ⟨p', rfl⟩ : ∃ p' : Nat, u = (p' : Int) := ⟨u.toNat, by omega⟩
       obtain ⟨y, hy⟩ : ∃ y, xs[p']? = some y := ⟨_, List.getElem?_eq_getElem (by have := HXS.out; omega)⟩
       have hyi := hN.out.i y (List.mem_of_getElem? hy)
       obtain ⟨vb, vo, rfl, hvb, hvc⟩ := hN.out.at_ hy
       obtain ⟨yf, ye, ym⟩ := y
       obtain ⟨Ay, cy, ly, ey, -, -, -⟩ := hyi.1.form
       obtain ⟨Az, cz, lz, ez, -, -, -⟩ := hyi.2.form
       dsimp only at ey ez
       subst ey
       subst ez
       have v0 : wr.cell? ⟨vb, vo + p' * 5, none⟩ = some (.slice none 0 0) := hvc 0 (by omega)
       have v1 : wr.cell? ⟨vb, vo + p' * 5 + 1, none⟩ = some (.slice none 0 0) := hvc 1 (by omega)
       have v2 : wr.cell? ⟨vb, vo + p' * 5 + 2, none⟩ = some (.slice Ay ly.length cy) := hvc 2 (by omega)
       have v3 : wr.cell? ⟨vb, vo + p' * 5 + 3, none⟩ = some (.slice Az lz.length cz) := hvc 3 (by omega)
       have v4 : wr.cell? ⟨vb, vo + p' * 5 + 4, none⟩ = some (.bool ym) := hvc 4 (by omega)
       have hql : (p' : Int) < xs.length := by have := HXS.out; omega
       have HYI := Lib.hid hyi
       generalize ly.length = yn at *
       generalize lz.length = zn at *
       clear hvc hy hyi
       go_upto_region 50 with fail
       have hb6 : Below wr.heap.size wr (wr.alloc (.cells #[.slice none 0 0, .slice none 0 0, .slice Ay yn cy, .slice Az zn cz, .bool ym] 205)) := belowA
       have kx := Bk.new wr 205 #[.slice none 0 0, .slice none 0 0, .slice Ay yn cy, .slice Az zn cz, .bool ym]
       generalize wr.alloc (.cells #[.slice none 0 0, .slice none 0 0, .slice Ay yn cy, .slice Az zn cz, .bool ym] 205) = w6 at *
       have hI6 := Lib.hid (hI.out.below hb6)
       have hN6 := Lib.hid (hN.out.below hb6)
       have hT6 := Lib.hid (And.intro (hT.out.1.ext hb6) (And.intro (hT.out.2.1.below hb6) (hT.out.2.2.below hb6)))
       have hY6 := Lib.hid (And.intro (HYI.out.1.below hb6) (HYI.out.2.below hb6))
       have hax : (Value.slice (some ⟨vb, vo, none⟩) xs.length cv).ownBlock ≠ some wr.heap.size := fun e0 => absurd (own_lt hN.out.a _ e0) (Nat.lt_irrefl _)
       have hz6 := hb6.size
       have hxb3 : w.heap.size + 3 ≤ wr.heap.size := by omega
       clear y0 y1 y2 y3 y4 v0 v1 v2 v3 v4
       clear s0 s1 s2 s3 s4 q0 q1 q2 q3 q4 r0 r1 r2 r3 r4 sf sl rf rl
       obtain ⟨y0, y1, y2, y3, y4⟩ := bk5 hT6.out.1
       have hsq := Lib.hid (seq_any w00.heap.size MM nb wr.heap.size on' _ f e _ _ _ _ _ _ em ym tm w6 hM256 (by omega) (by omega) hI6.out.net.n kx hI6.out.net.rbh hY6.out.1 hY6.out.2 hT6.out.2.1 hT6.out.2.2)
       go_wp2_with (go_at_call 197; fail)
       refine hsq.out.mono ?_
       rintro e7 w7 ⟨fi7, ei7, xm7, rfl, k7, hr7, hf7, he7, hs7⟩
       have hI7 := hI6.out.seqx hxb3 kx hr7 hs7
       have hN7 := nts_seq hI6.out hN6.out hs7 (.inr hax) kx
       have kt7 := hs7.bk hT6.out.1 (by rintro (h0 | h0); (· omega); (· exact hI6.out.net.rbh.ne hT6.out.1 (by decide) h0))
       have hP := Lib.hid (tail_put hI7 hN7 k7 kt7 hxb3 hlt3 (by omega) hax HAV.out hf7 he7)
       obtain ⟨A7, c7, l7, rfl, -, -, -⟩ := hf7.form
       obtain ⟨A8, c8, l8, rfl, -, -, -⟩ := he7.form
       generalize l7.length = n7 at *
       generalize l8.length = n8 at *
       clear y0 y1 y2 y3 y4
       obtain ⟨y0, y1, y2, y3, y4⟩ := bk5 k7
       obtain ⟨u0, u1, u2, u3, u4⟩ := bk5 kt7
       have xf7 := k7.frozen; have xl7 := def_lt' k7
       have tf7 := kt7.frozen; have tl7 := def_lt' kt7
       have hne7 : wt.heap.size < wr.heap.size := tl
       unfold set5 at hP
       clear hI7 hN7 hr7 hs7 hf7 he7 hsq
       go_wp2
       go_roundw
       case rel => exact ⟨(p' : Int) - 1, _, _, _, by omega, by omega, rfl, Lib.hid hP.out.1, Lib.hid hP.out.2.1, Lib.hid hP.out.2.2⟩
       case measure => simp [intOf]
      ·have hsq := Lib.hid (seq_any w00.heap.size MM nb (w.heap.size + 2) on' _ f e _ _ _ _ _ _ em xm tm wr hM256 hbB9 (by omega) hI.out.net.n hI.out.o hI.out.net.rbh hI.out.nfi hI.out.nei hT.out.2.1 hT.out.2.2)
       go_wp2_with (go_at_call 197; fail)
       refine hsq.out.mono ?_
       rintro e7 w7 ⟨fi7, ei7, xm7, rfl, k7, hr7, hf7, he7, hs7⟩
       have hI7 := hI.out.seq k7 hr7 hf7 he7 hs7
       obtain ⟨A7, c7, l7, rfl, -, -, -⟩ := hf7.form
       obtain ⟨A8, c8, l8, rfl, -, -, -⟩ := he7.form
       generalize l7.length = n7 at *
       generalize l8.length = n8 at *
       have hI8 := Lib.hid hI7
       clear k7 hr7 hf7 he7 hs7 hsq hI7 y0 y1 y2 y3 y4
       clear s0 s1 s2 s3 s4 q0 q1 q2 q3 q4 r0 r1 r2 r3 r4 sf sl rf rl
       obtain ⟨s0, s1, s2, s3, s4⟩ := bk5 hI8.out.o
       obtain ⟨q0, q1, q2, q3, q4⟩ := bk5 hI8.out.p
       obtain ⟨r0, r1, r2, r3, r4⟩ := bk5 (show Bk _ w.heap.size 205 zeroT from hI8.out.r)
       have sf := hI8.out.o.frozen; have sl := def_lt' hI8.out.o
       have rf := hI8.out.r.frozen; have rl := def_lt' hI8.out.r
       go_wp2
       have hI9 := hI8.out
       rw [← HMG.out] at hI9
       obtain ⟨hL1, hL2⟩ := hI9.left
       unfold set5 at hL1 hL2
       obtain ⟨z0, z1, z2, z3, z4⟩ := bk5 hL2
       exact bodyPost_ret (v := .agg #[.slice none 0 0, .slice none 0 0, .slice A7 n7 c7, .slice A8 n8 c8, .bool xm7]) (by simp [results, Tryz.results157, go_sem, z0, z1, z2, z3, z4]) rfl hL1
theorem part_all (w00 : World) (pb n c mb ec : Nat) (A EA : Option Addr) (l : List Pt) (mg : List Mg) (hp : Parts w00 pb (.slice A n c) n l) (hn : n ≤ 1000) (hg : MgsIn w00 mb (.slice EA mg.length ec) mg) (hgl : mg.length ≤ 100000) (M : Nat) : ∀ i, i < M → i < n → PartAny w00 pb n c mb ec A EA l mg i := by
 induction M with
 | zero => intro i hi; omega
 | succ M ih =>
   intro i hi hin
   have hih : ∀ i', i' < i → PartAny w00 pb n c mb ec A EA l mg i' := fun i' h => ih i' (by omega) (by omega)
   obtain ⟨p, hpi⟩ : ∃ p, l[i]? = some p := ⟨_, List.getElem?_eq_getElem (by rw [hp.len]; exact hin)⟩
   have hk := (hp.ok i p hpi).k
   rcases (show p.k = 1 ∨ p.k = 2 ∨ p.k = 3 ∨ p.k = 4 by omega) with h | h | h | h
   ·exact part_one w00 pb n c mb ec A EA l mg i p hpi h hp hn hg hgl hih
   ·exact part_seq w00 pb n c mb ec A EA l mg i p hpi h hp hn hg hgl hih
   ·exact part_or w00 pb n c mb ec A EA l mg i p hpi h hp hn hg hgl hih
   ·exact part_times w00 pb n c mb ec A EA l mg i p hpi h hp hn hg hgl hih
theorem many_all (n c : Nat) (A : Option Addr) (l : List Pt) (M : Nat) : ∀ i, i < M → ManyAny n c A l i := by
 induction M with
 | zero => intro i hi; omega
 | succ M ih => intro i hi; exact many_step n c A l i fun i' h => ih i' (by omega)
/-- a net, by its fields -/
structure NetV (w : World) (B m : Nat) (on bh f e : Value) : Prop where
 ron : Rws w B 256 on m
 rbh : Rws w B m bh m
 f : NsIn w B m f
 e : NsIn w B m e
theorem NetV.below {w w' : World} {B m : Nat} {on bh f e : Value} (h : NetV w B m on bh f e) (hb : Below w.heap.size w w') : NetV w' B m on bh f e := ⟨h.ron.below hb, h.rbh.below hb, h.f.below hb, h.e.below hb⟩
def NetOut (w : World) (en : Ending) (w' : World) : Prop := ∃ (m : Nat) (on bh f e : Value) (em : Bool), en = .returned (.agg #[on, bh, f, e, .bool em]) ∧ m ≤ 256 ∧ NetV w' w.heap.size m on bh f e ∧ Below w.heap.size w w'
theorem set5_below {w wr : World} {b : Nat} (h : Below w.heap.size w wr) (hb : w.heap.size ≤ b) (x0 x1 x2 x3 x4 : Value) : Below w.heap.size w (set5 wr b x0 x1 x2 x3 x4) :=
 ((((h.setCell hb _).setCell hb _).setCell hb _).setCell hb _).setCell hb _
theorem NetV.sti {w w' : World} {B m b : Nat} {on bh f e : Value} {cs : Array Value} (h : NetV w B m on bh f e) (k : Bk w b 205 cs) (hs : Sti (fun i => i = b) w w') : NetV w' B m on bh f e := by
 refine ⟨h.ron.sti hs ?_ ?_, h.rbh.sti hs ?_ ?_, hs.ns h.f ?_, hs.ns h.e ?_⟩
 ·rintro g hg h0; have h0 : g = b := h0; subst h0; exact h.ron.ne k (by decide) hg
 ·rintro u hu g hg h0; have h0 : g = b := h0; subst h0; exact hu.ne k (by decide) hg
 ·rintro g hg h0; have h0 : g = b := h0; subst h0; exact h.rbh.ne k (by decide) hg
 ·rintro u hu g hg h0; have h0 : g = b := h0; subst h0; exact hu.ne k (by decide) hg
 ·rintro g hg h0; have h0 : g = b := h0; subst h0; exact h.f.ne k (by decide) hg
 ·rintro g hg h0; have h0 : g = b := h0; subst h0; exact h.e.ne k (by decide) hg
theorem of7_any (pb n c mb ec : Nat) (A EA : Option Addr) (l : List Pt) (mg : List Mg) (w : World) (hp : Parts w pb (.slice A n c) n l) (hn : n ≤ 1000) (hg : MgsIn w mb (.slice EA mg.length ec) mg) (hgl : mg.length ≤ 100000) (hm : 0 < n → mn l (n - 1) ≤ 256) : Calls Tryz.prog 106 #[.slice A n c, .slice EA mg.length ec] w (NetOut w) := by
 by_cases h0 : n = 0
 ·subst h0
  clear hp hn hg hm
  go_enter Tryz.func106, Tryz.ntmps106
  go_upto_region 2 with fail
  have kr : Bk ((w.alloc (.cells zeroT 205)).alloc (.cells #[.slice none 0 0, .slice none 0 0, .slice none 0 0, .slice none 0 0, .bool true] 205)) w.heap.size 205 zeroT := (Bk.new w _ _).alloc _
  have kn : Bk ((w.alloc (.cells zeroT 205)).alloc (.cells #[.slice none 0 0, .slice none 0 0, .slice none 0 0, .slice none 0 0, .bool true] 205)) (w.heap.size + 1) 205 #[.slice none 0 0, .slice none 0 0, .slice none 0 0, .slice none 0 0, .bool true] := Bk.made _ _ (by simp)
  have hb0 : Below w.heap.size w ((w.alloc (.cells zeroT 205)).alloc (.cells #[.slice none 0 0, .slice none 0 0, .slice none 0 0, .slice none 0 0, .bool true] 205)) := belowA
  generalize (w.alloc (.cells zeroT 205)).alloc (.cells #[.slice none 0 0, .slice none 0 0, .slice none 0 0, .slice none 0 0, .bool true] 205) = w0 at *
  obtain ⟨s0, s1, s2, s3, s4⟩ := bk5 kn
  obtain ⟨r0, r1, r2, r3, r4⟩ := bk5 (show Bk _ w.heap.size 205 zeroT from kr)
  have rf := kr.frozen; have rl := def_lt' kr
  go_wp2
  have hL2 := set5_bk (show Bk _ w.heap.size 205 zeroT from kr) (.slice none 0 0) (.slice none 0 0) (.slice none 0 0) (.slice none 0 0) (.bool true)
  have hL1 := set5_below hb0 (Nat.le_refl _) (.slice none 0 0) (.slice none 0 0) (.slice none 0 0) (.slice none 0 0) (.bool true)
  unfold set5 at hL1 hL2
  obtain ⟨z0, z1, z2, z3, z4⟩ := bk5 hL2
  exact bodyPost_ret (v := .agg #[.slice none 0 0, .slice none 0 0, .slice none 0 0, .slice none 0 0, .bool true]) (by simp [results, Tryz.results106, go_sem, z0, z1, z2, z3, z4]) rfl ⟨0, _, _, _, _, _, rfl, by omega, ⟨Rws.nil _ _ _, Rws.nil _ _ _, NsIn.nil _ _ _, NsIn.nil _ _ _⟩, hL1⟩
 ·have hpa := part_all w pb n c mb ec A EA l mg hp hn hg hgl n (n - 1) (by omega) (by omega)
  have hmn := hm (by omega)
  obtain ⟨n', rfl⟩ : ∃ n', n = n' + 1 := ⟨n - 1, by omega⟩
  simp only [Nat.add_sub_cancel] at hpa hmn
  have HPA := Lib.hid hpa
  have HMN := Lib.hid hmn
  have n1 : (n' : Int) ≤ 1000 := by omega
  have n0 : (0 : Int) ≤ n' := by omega
  have e8 : ((n' : Int) + 1 == 0) = false := beq_false_of_ne (by omega)
  clear hp hn hg hgl hm hpa h0 hmn
  go_enter Tryz.func106, Tryz.ntmps106
  go_upto_region 2 with fail
  have kr : Bk ((w.alloc (.cells zeroT 205)).alloc (.cells #[.slice none 0 0, .slice none 0 0, .slice none 0 0, .slice none 0 0, .bool true] 205)) w.heap.size 205 zeroT := (Bk.new w _ _).alloc _
  have kn : Bk ((w.alloc (.cells zeroT 205)).alloc (.cells #[.slice none 0 0, .slice none 0 0, .slice none 0 0, .slice none 0 0, .bool true] 205)) (w.heap.size + 1) 205 #[.slice none 0 0, .slice none 0 0, .slice none 0 0, .slice none 0 0, .bool true] := Bk.made _ _ (by simp)
  have hb0 : Below w.heap.size w ((w.alloc (.cells zeroT 205)).alloc (.cells #[.slice none 0 0, .slice none 0 0, .slice none 0 0, .slice none 0 0, .bool true] 205)) := belowA
  generalize (w.alloc (.cells zeroT 205)).alloc (.cells #[.slice none 0 0, .slice none 0 0, .slice none 0 0, .slice none 0 0, .bool true] 205) = w0 at *
  have hcall := Lib.hid (HPA.out (w.heap.size + 1) 0 (.slice none 0 0) (.slice none 0 0) (.slice none 0 0) (.slice none 0 0) true w0 hb0 ⟨kn, Rws.nil _ _ _, Rws.nil _ _ _, (fun g h => by cases h), by omega⟩ (by have := HMN.out; omega))
  go_wp2_with (go_at_call 157; fail)
  refine hcall.out.mono ?_
  rintro e w1 ⟨fi, ei, xm, on1, bh1, rfl, hnet, hfi, hei, hs, -, -⟩
  have kr1 := hs.bk kr (by rintro (h | h | h); (· omega); (· cases h); (· cases h))
  have hz := hs.size
  have hl0 := def_lt' kn
  have hb1 : Below w.heap.size w w1 := hb0.trans (hs.below (B := w.heap.size) (by rintro j (h | h | h); (· omega); (· cases h); (· cases h)) (by omega))
  obtain ⟨Ao, co, rfl⟩ := hnet.ron.form
  obtain ⟨Ab, cb, rfl⟩ := hnet.rbh.form
  obtain ⟨Af, cf, lf, rfl, hlf, -, -⟩ := hfi.form
  obtain ⟨Ae, ce, le, rfl, hle, -, -⟩ := hei.form
  generalize lf.length = fn at *
  generalize le.length = en at *
  obtain ⟨M, hM⟩ : ∃ M, M = 0 + mn l n' := ⟨_, rfl⟩
  rw [← hM] at hnet hfi hei
  have hm256 : M ≤ 256 := by have := HMN.out; omega
  clear hM
  have hb2 : Below w1.heap.size w1 (w1.alloc (.cells #[.slice none 0 0, .slice none 0 0, .slice Af fn cf, .slice Ae en ce, .bool xm] 205)) := belowA
  have kx := Bk.new w1 205 #[.slice none 0 0, .slice none 0 0, .slice Af fn cf, .slice Ae en ce, .bool xm]
  have hxl : w.heap.size + 1 < w1.heap.size := by omega
  go_upto_region 5 with fail
  generalize w1.alloc (.cells #[.slice none 0 0, .slice none 0 0, .slice Af fn cf, .slice Ae en ce, .bool xm] 205) = w2 at *
  have kn2 := hnet.n.ext hb2
  have kr2 := kr1.ext hb2
  have hV2 : NetV w2 w.heap.size M (.slice Ao M co) (.slice Ab M cb) (.slice Af fn cf) (.slice Ae en ce) := ⟨hnet.ron.below hb2, hnet.rbh.below hb2, hfi.below hb2, hei.below hb2⟩
  have hb22 : Below w.heap.size w w2 := hb1.trans (hb2.mono (by omega))
  obtain ⟨s0, s1, s2, s3, s4⟩ := bk5 kn2
  obtain ⟨r0, r1, r2, r3, r4⟩ := bk5 (show Bk _ w.heap.size 205 zeroT from kr2)
  obtain ⟨y0, y1, y2, y3, y4⟩ := bk5 kx
  have rf := kr2.frozen; have rl := def_lt' kr2
  have sf := kn2.frozen; have sl := def_lt' kn2
  have kn3 : Bk _ (w.heap.size + 1) 205 #[.slice Ao M co, .slice Ab M cb, .slice Af fn cf, .slice none 0 0, .bool true] := kn2.set_ 2 (.slice Af fn cf)
  have kn4 : Bk _ (w.heap.size + 1) 205 #[.slice Ao M co, .slice Ab M cb, .slice Af fn cf, .slice Ae en ce, .bool true] := kn3.set_ 3 (.slice Ae en ce)
  have kn5 : Bk _ (w.heap.size + 1) 205 #[.slice Ao M co, .slice Ab M cb, .slice Af fn cf, .slice Ae en ce, .bool xm] := kn4.set_ 4 (.bool xm)
  have hs5 : Sti (fun i => i = w.heap.size + 1) w2 _ := (((Sti.refl (fun i => i = w.heap.size + 1) w2).set_ (p := ⟨w.heap.size + 1, 2, none⟩) (.inl rfl) (.slice Af fn cf)).set_ (p := ⟨w.heap.size + 1, 3, none⟩) (.inl rfl) (.slice Ae en ce)).set_ (p := ⟨w.heap.size + 1, 4, none⟩) (.inl rfl) (.bool xm)
  have hV5 := hV2.sti kn2 hs5
  have kr5 := hs5.bk kr2 (by omega)
  have hb5 := (((hb22.setCell (p := ⟨w.heap.size + 1, 2, none⟩) (by simp) (.slice Af fn cf)).setCell (p := ⟨w.heap.size + 1, 3, none⟩) (by simp) (.slice Ae en ce)).setCell (p := ⟨w.heap.size + 1, 4, none⟩) (by simp) (.bool xm))
  have hs6 := set5_sti (((w2.setCell ⟨w.heap.size + 1, 2, none⟩ (.slice Af fn cf)).setCell ⟨w.heap.size + 1, 3, none⟩ (.slice Ae en ce)).setCell ⟨w.heap.size + 1, 4, none⟩ (.bool xm)) w.heap.size (.slice Ao M co) (.slice Ab M cb) (.slice Af fn cf) (.slice Ae en ce) (.bool xm)
  have hV6 := hV5.sti kr5 hs6
  have hL2 := set5_bk (show Bk _ w.heap.size 205 zeroT from kr5) (.slice Ao M co) (.slice Ab M cb) (.slice Af fn cf) (.slice Ae en ce) (.bool xm)
  have hL1 := set5_below hb5 (Nat.le_refl _) (.slice Ao M co) (.slice Ab M cb) (.slice Af fn cf) (.slice Ae en ce) (.bool xm)
  unfold set5 at hL1 hL2 hV6
  have HE := Lib.hid (And.intro hL2 (show NetOut w (.returned (.agg #[.slice Ao M co, .slice Ab M cb, .slice Af fn cf, .slice Ae en ce, .bool xm])) _ from ⟨M, _, _, _, _, _, rfl, hm256, hV6, hL1⟩))
  clear kn3 kn4 kn5 hs5 hV5 kr5 hb5 hs6 hV6 hL2 hL1 hm256
  go_wp2
  obtain ⟨z0, z1, z2, z3, z4⟩ := bk5 HE.out.1
  exact bodyPost_ret (v := .agg #[.slice Ao M co, .slice Ab M cb, .slice Af fn cf, .slice Ae en ce, .bool xm]) (by simp [results, Tryz.results106, go_sem, z0, z1, z2, z3, z4]) rfl HE.out.2
theorem two3_any (A B : Option Addr) (n c n2 c2 : Nat) (l l2 : List Int) (w : World) (h : Rd w w.heap.size 1 A n (is l)) (hn : n ≤ maxLen) (h2 : Rd w w.heap.size 1 B n2 (is l2)) (hn2 : n2 ≤ maxLen) : Calls Tryz.prog 156 #[.slice A n c, .slice B n2 c2, .int .i64 1] w (NsOut 256 w) := by
 have hha := fun x W (hb : Below w.heap.size w W) => has3_any A n c l x W ((h.below hb).more hb.size) hn
 have hhb := fun x W (hb : Below w.heap.size w W) => has3_any B n2 c2 l2 x W ((h2.below hb).more hb.size) hn2
 have HHA := Lib.hid hha
 have HHB := Lib.hid hhb
 clear hha hhb h hn h2 hn2
 go_enter Tryz.func156, Tryz.ntmps156
 go_wp2
 go_loopw [7, 8] (fun v j wr => ∃ (k : Nat) (cs : List Nat), k ≤ 256 ∧ j = .int .i64 k ∧ Hid (Ris k cs) ∧ Hid (wr.ownsRow w.heap.size 3 1 v cs.length (nts cs)) ∧ cs.length ≤ k ∧ Below w.heap.size w wr) (fun _ j _ => 256 - (intOf j).toNat)
 case atStart => exact ⟨0, [], by omega, rfl, Lib.hid (Ris.nil _), Lib.hid (World.ownsRow_nil _ _ _ _), by simp, Below.refl _ _⟩
 case round =>
  obtain ⟨k, cs, hk, rfl, hR, hown, hcl, hbr⟩ := hrel
  have hz := hbr.size
  by_cases hlt : k < 256
  ·have e3 : (k : Int) < 256 := by omega
   go_wp2_with (go_at_call 124; fail)
   refine (HHA.out k wr hbr).mono ?_
   rintro e w1 ⟨rfl, hb1⟩
   have hb01 := hbr.trans (hb1.mono hz)
   have hown1 := own_below hown.out hb1
   have hz1 := hb01.size
   generalize decide ((k : Int) ∈ l) = q1
   go_wp2_with (go_at_call 124; fail)
   refine (HHB.out k w1 hb01).mono ?_
   rintro e w2 ⟨rfl, hb2⟩
   have hb02 := hb01.trans (hb2.mono hz1)
   have hown2 := own_below hown1 hb2
   have hz2 := hb02.size
   generalize decide ((k : Int) ∈ l2) = q2
   clear hown1
   cases q1 <;> cases q2
   case true.true =>
    go_wp2_with (at_builtin; ((refine app_one Tryz.underlying51 info_in rfl (by decide) w2 w.heap.size _ cs.length _ hown2 (by unfold maxLen; omega) (by omega) hz2 _ rfl (by simp [Value.oneCell']) rfl _ _ rfl rfl rfl ?_); intro g4 cap4 w4 hown4 hgr4 hat4 hlt4))
    have hb4 := below_own hb02 hown2 hgr4 hz2 (Nat.le_refl _)
    go_roundw
    case rel => exact ⟨k + 1, cs ++ [k], by omega, by go_num, Lib.hid ((hR.out.mono (by omega)).snoc (fun y hy => hR.out.2 y hy) (by omega)), Lib.hid (by rw [List.length_append, nts_snoc]; exact hown4), by simp; omega, hb4⟩
    case measure => simp [intOf]; omega
   all_goals
    go_wp2
    go_roundw
    case rel => exact ⟨k + 1, cs, by omega, by go_num, Lib.hid (hR.out.mono (by omega)), Lib.hid hown2, by omega, hb02⟩
    case measure => simp [intOf]; omega
  ·obtain rfl : k = 256 := by omega
   obtain ⟨A1, c1, rfl, -, -, -, -⟩ := own_form hown.out
   go_wp2
   exact bodyPost_ret (v := .slice A1 cs.length c1) (by simp [results, Tryz.results156, go_sem]) rfl ⟨_, rfl, ⟨cs, hown.out, hR.out⟩, hbr⟩
theorem same3_any (A B : Option Addr) (n c n2 c2 : Nat) (l l2 : List Int) (w : World) (h : Rd w w.heap.size 1 A n (is l)) (hn : n ≤ maxLen) (h2 : Rd w w.heap.size 1 B n2 (is l2)) (hn2 : n2 ≤ maxLen) : Calls Tryz.prog 194 #[.slice A n c, .slice B n2 c2] w (AnyB w) := by
 unfold maxLen at hn hn2
 have H := Lib.hid h
 have H2 := Lib.hid h2
 clear h h2
 by_cases hne : n = n2
 ·subst hne
  go_enter Tryz.func194, Tryz.ntmps194
  go_wp2
  go_loopw [5] (fun j wr => ∃ k : Nat, k ≤ n ∧ j = .int .i64 k ∧ Below w.heap.size w wr) (fun j _ => n - (intOf j).toNat)
  case atStart => exact ⟨0, by omega, rfl, Below.refl _ _⟩
  case round =>
   obtain ⟨k, hk, rfl, hbr⟩ := hrel
   by_cases hlt : k < n
   ·have e3 : (k : Int) < n := by omega
    obtain ⟨b, o, y, rfl, hb, -, hc⟩ := (H.out.below hbr).is_at hlt
    obtain ⟨b', o', y', rfl, hb', -, hc'⟩ := (H2.out.below hbr).is_at hlt
    go_upto_region 6 with fail
    go_quiet (fail)
    rename_i nq
    have hbq := below_drewN hbr nq
    cases he : (y != y') <;> go_wp2
    ·go_roundw
     case rel => exact ⟨k + 1, by omega, by go_num, hbq⟩
     case measure => simp [intOf]; omega
    ·go_ret
     exact ⟨⟨_, rfl⟩, hbq⟩
   ·obtain rfl : k = n := by omega
    go_wp2
    go_ret
    exact ⟨⟨_, rfl⟩, hbr⟩
 ·go_enter Tryz.func194, Tryz.ntmps194
  have e1 : ((n : Int) != n2) = true := by simp; omega
  go_wp2
  all_goals go_ret
  all_goals exact ⟨⟨_, rfl⟩, belowA⟩
theorem bk3 {w : World} {b : Nat} {t : TypeId} {x0 x1 x2 : Value} (k : Bk w b t #[x0, x1, x2]) : w.cell? ⟨b, 0, none⟩ = some x0 ∧ w.cell? ⟨b, 1, none⟩ = some x1 ∧ w.cell? ⟨b, 2, none⟩ = some x2 := ⟨k.cell 0, k.cell 1, k.cell 2⟩
def FindOut (K : Nat) (w : World) (e : Ending) (w' : World) : Prop := ∃ r : Int, e = .returned (.int .i64 r) ∧ -1 ≤ r ∧ r < K ∧ Below w.heap.size w w'
theorem find8_any (B K tb b2 m : Nat) (sets nx ac s : Value) (w : World) (kt : Bk w tb 201 #[sets, nx, ac]) (hr : Rws w B 256 sets K) (hK : K ≤ 300) (hK1 : 1 ≤ K) (hs : NsIn w b2 m s) (hm : m ≤ 1000) : Calls Tryz.prog 155 #[.pointer (some ⟨tb, 0, none⟩), s] w (FindOut K w) := by
 obtain ⟨A, c, rfl⟩ := hr.form
 obtain ⟨As, cs, ls, rfl, hls, hrs, -⟩ := hs.form
 have hsl := hls.len
 have HS := Lib.hid hrs.to_is
 have HR := Lib.hid hr
 obtain ⟨sn, hsn⟩ : ∃ sn, sn = ls.length := ⟨_, rfl⟩
 rw [← hsn] at hsl HS ⊢
 have htl := def_lt' kt
 clear hr hs hls hrs hsn
 go_enter Tryz.func155, Tryz.ntmps155
 go_wp2
 go_loopw [5] (fun j wr => ∃ k : Nat, 1 ≤ k ∧ k ≤ K ∧ j = .int .i64 k ∧ Below w.heap.size w wr) (fun j _ => K - (intOf j).toNat)
 case atStart => exact ⟨1, by omega, by omega, rfl, Below.refl _ _⟩
 case round =>
  obtain ⟨k, hk1, hk, rfl, hbr⟩ := hrel
  obtain ⟨t0, t1, t2⟩ := bk3 (kt.ext hbr)
  by_cases hlt : k < K
  ·have e3 : (k : Int) < K := by omega
   obtain ⟨g, u, rfl, -, hg, huc, hui, -⟩ := (HR.out.below hbr).at_ hlt
   obtain ⟨Au, cu, lu, rfl, hlu, hur, -⟩ := hui.form
   have hlul := hlu.len
   have HU := Lib.hid hur.to_is
   obtain ⟨un, hun⟩ : ∃ un, un = lu.length := ⟨_, rfl⟩
   rw [← hun] at hlul HU huc
   clear hui hlu hur hun
   go_wp2_with (go_at_call 194; fail)
   refine (same3_any Au As un cu sn cs _ _ wr (HU.out.more (Nat.le_refl _)) (by unfold maxLen; omega) ((HS.out.below hbr).more hbr.size) (by unfold maxLen; omega)).mono ?_
   rintro e w1 ⟨⟨b, rfl⟩, hb1⟩
   have hb01 := hbr.trans (hb1.mono hbr.size)
   cases b with
   | true =>
     go_wp2
     go_ret
     exact ⟨k, rfl, by omega, by omega, hb01⟩
   | false =>
     go_wp2
     go_roundw
     case rel => exact ⟨k + 1, by omega, by omega, by go_num, hb01⟩
     case measure => simp [intOf]; omega
  ·obtain rfl : k = K := by omega
   go_wp2
   go_ret
   exact ⟨-1, rfl, by omega, by omega, hbr⟩
theorem info_b : (Tryz.prog.info? 4).map (fun i => (i.zero, i.size, i.bytes)) = some (some (.bool false), 1, 1) := by kernel_rfl
theorem make_bools (n : Nat) (hn : n ≤ 1000) (w : World) : (Instr.makeSlice 29 (.int .i64 (n : Int)) (.int .i64 (n : Int))).run Tryz.prog w = .ok (.slice (some ⟨w.heap.size, 0, none⟩) n n) (w.alloc (.cells (madeCells #[.bool false] n) 4)) :=
 run_make_row' _ _ _ 1 Tryz.underlying29 info_b rfl _ _ n (by omega) (by omega) w
/-- a row of truths -/
def Bls (w : World) (g m : Nat) : Prop := ∃ cs : Array Value, Bk w g 4 cs ∧ cs.size = m ∧ ∀ i, i < m → ∃ b : Bool, cs[i]? = some (.bool b)
theorem Bls.ext {w w' : World} {g m : Nat} (h : Bls w g m) (hb : Below w.heap.size w w') : Bls w' g m := by
 obtain ⟨cs, h1, h2⟩ := h
 exact ⟨cs, h1.ext hb, h2⟩
theorem Bls.made (w : World) (m : Nat) : Bls (w.alloc (.cells (madeCells #[.bool false] m) 4)) w.heap.size m := by
 refine ⟨_, Bk.new w _ _, by simp [madeCells], fun i hi => ⟨false, ?_⟩⟩
 simp [madeCells, hi, Nat.mod_one]
theorem Bls.far {w : World} {g m : Nat} (h : Bls w g m) {p : Addr} (hp : g ≠ p.block) (u : Value) : Bls (w.setCell p u) g m := by
 obtain ⟨cs, h1, h2⟩ := h
 exact ⟨cs, h1.far hp u, h2⟩
theorem Bls.set_ {w : World} {g m : Nat} (h : Bls w g m) (i : Nat) (b : Bool) : Bls (w.setCell ⟨g, i, none⟩ (.bool b)) g m := by
 obtain ⟨cs, h1, h2, h3⟩ := h
 refine ⟨_, h1.set_ i (.bool b), by simpa using h2, fun j hj => ?_⟩
 rw [Array.getElem?_setIfInBounds]
 split
 ·rename_i e
  subst e
  rw [if_pos (by omega)]
  exact ⟨b, rfl⟩
 ·exact h3 j hj
theorem Bls.cell {w : World} {g m i : Nat} (h : Bls w g m) (hi : i < m) : ∃ b : Bool, w.cell? ⟨g, i, none⟩ = some (.bool b) := by
 obtain ⟨cs, h1, h2, h3⟩ := h
 obtain ⟨b, hb⟩ := h3 i hi
 exact ⟨b, by rw [h1.cell]; exact hb⟩
theorem Bls.frozen {w : World} {g m : Nat} (h : Bls w g m) (i : Nat) : w.frozen? ⟨g, i, none⟩ = false := by
 obtain ⟨cs, h1, -⟩ := h
 exact h1.frozen i
theorem Bls.lt {w : World} {g m : Nat} (h : Bls w g m) : g < w.heap.size := by
 obtain ⟨cs, h1, -⟩ := h
 exact def_lt' h1
theorem Bls.grown {w w' : World} {g m base n : Nat} {v : Value} {xs : List Value} (h : Bls w g m) (hg : w.grownBy w' v.ownBlock) (ho : w.ownsRow base 3 1 v n xs) : Bls w' g m := by
 obtain ⟨cs, h1, h2⟩ := h
 exact ⟨cs, h1.grown hg (own_ne ho h1 (by decide)), h2⟩
theorem setRow_bk {W : World} {b : Nat} {t : TypeId} {cs : Array Value} (k : Bk W b t cs) (vs : Array Value) : Bk (W.setRow b vs) b t vs := setRow_heap W b cs vs t (0, 0) k
theorem setRow_sti (W : World) (b : Nat) (vs : Array Value) : Sti (fun i => i = b) W (W.setRow b vs) :=
 ⟨rfl, rfl, rfl, by simp, fun i hi hn => by
  have hn : ¬ i = b := hn
  unfold World.setRow
  rw [Array.getElem?_modify, if_neg (fun e => hn e.symm)]⟩
theorem setRow_below {w W : World} {b : Nat} (h : Below w.heap.size w W) (hb : w.heap.size ≤ b) (vs : Array Value) : Below w.heap.size w (W.setRow b vs) :=
 h.trans ((setRow_sti W b vs).below (fun i hi => by have hi : i = b := hi; omega) h.size)
section
variable {P : Program} {ops : Array Oper} {rest : List Oper} {o : Oper} {a : Act} {Q : Exit → Act → World → Prop}
/-- a whole row is stored -/
theorem wpList_store_all (w : World) (hg : o.guard = none) (t : TypeId) (p x : Operand) (ho : o.op = .store t p x) (b : Nat) (old vs : Array Value) (he : a.eval p = .pointer (some ⟨b, 0, none⟩)) (hx : a.eval x = .agg vs) (k : Bk w b t old) (hi : (P.info? t).map (·.size) = some vs.size) (hs : old.size = vs.size) (h1 : vs.all (·.oneCell') = true)
 (h : wpList P ops Q rest (a.put o.dst undef) (w.setRow b vs)) : wpList P ops Q (o :: rest) a w := by
 refine wpList_plain hg fun K hK => ?_
 have hr := run_storeVar_row (P := P) w b t t old vs k hi hs h1
 unfold Oper.wp
 simp [execOp, ho, he, hx, Instr.storeAt, Instr.sureAddr, hr, Result.andThen]
 exact hK _ _ h
/-- a whole row is loaded -/
theorem wpList_load_all (w : World) (hg : o.guard = none) (t : TypeId) (p : Operand) (ho : o.op = .load t p) (b : Nat) (cs : Array Value) (he : a.eval p = .pointer (some ⟨b, 0, none⟩)) (k : Bk w b t cs) (n : Nat) (e : TypeId) (hu : P.underlying t = some (.array n e)) (hi : (P.info? t).map (·.size) = some cs.size)
 (h : wpList P ops Q rest (a.put o.dst (.agg cs)) w) : wpList P ops Q (o :: rest) a w := by
 refine wpList_plain hg fun K hK => ?_
 have hr := run_loadVar_row (P := P) w b t t cs (0, 0) _ k hu rfl hi
 unfold Oper.wp
 simp [execOp, ho, he, Instr.loadAt, Instr.sureAddr, hr, Result.andThen]
 exact hK _ _ h
end
abbrev nil32 : Array Value := #[.slice none 0 0, .slice none 0 0, .slice none 0 0, .slice none 0 0, .slice none 0 0, .slice none 0 0, .slice none 0 0, .slice none 0 0, .slice none 0 0, .slice none 0 0, .slice none 0 0, .slice none 0 0, .slice none 0 0, .slice none 0 0, .slice none 0 0, .slice none 0 0, .slice none 0 0, .slice none 0 0, .slice none 0 0, .slice none 0 0, .slice none 0 0, .slice none 0 0, .slice none 0 0, .slice none 0 0, .slice none 0 0, .slice none 0 0, .slice none 0 0, .slice none 0 0, .slice none 0 0, .slice none 0 0, .slice none 0 0, .slice none 0 0]
theorem nil32_get {s : Nat} {u : Value} (h : nil32[s]? = some u) : u = .slice none 0 0 := by
 have h2 : u ∈ nil32.toList := List.mem_of_getElem? (by rw [Array.getElem?_toList]; exact h)
 simpa [nil32] using h2
/-- the sets behind a state, as they lie -/
structure Outs (w : World) (B ob : Nat) (vs : Array Value) (P : Nat → Nat) : Prop where
 bk : Bk w ob 262 vs
 sz : vs.size = 32
 ni : ∀ (s : Nat) (u : Value), vs[s]? = some u → NsIn w B (P s) u
 dj : ∀ (s s' : Nat) (u u' : Value) (g : Nat), vs[s]? = some u → vs[s']? = some u' → u.ownBlock = some g → u'.ownBlock = some g → s = s'
theorem Outs.zero {w : World} {B ob : Nat} {P : Nat → Nat} (k : Bk w ob 262 nil32) : Outs w B ob nil32 P :=
 ⟨k, rfl, fun s u h => by rw [nil32_get h]; exact NsIn.nil _ _ _, fun s s' u u' g h h' e e' => by rw [nil32_get h] at e; cases e⟩
theorem Outs.below {w w' : World} {B ob : Nat} {vs : Array Value} {P : Nat → Nat} (h : Outs w B ob vs P) (hb : Below w.heap.size w w') : Outs w' B ob vs P :=
 ⟨h.bk.ext hb, h.sz, fun s u hu => (h.ni s u hu).below hb, h.dj⟩
theorem Outs.mono {w : World} {B ob : Nat} {vs : Array Value} {P P' : Nat → Nat} (h : Outs w B ob vs P) (hp : ∀ s, P s ≤ P' s) : Outs w B ob vs P' :=
 ⟨h.bk, h.sz, fun s u hu => (h.ni s u hu).mono (hp s) (Nat.le_refl _), h.dj⟩
/-- one more in one of them -/
theorem Outs.push {w w' : World} {B ob s g cap M : Nat} {vs : Array Value} {P : Nat → Nat} {v : Value} {xs : List Nat} {x : Nat} (h : Outs w B ob vs P) (hs : vs[s]? = some v) (ho : w.ownsRow B 3 1 v xs.length (nts xs)) (hx : Ris M xs) (hlt : ∀ y ∈ xs, y < x) (hM : x < M)
 (hg : w.grownBy w' v.ownBlock) (ho' : w'.ownsRow B 3 1 (.slice (some ⟨g, 0, none⟩) (xs.length + 1) cap) (xs.length + 1) (nts xs ++ [.int .i64 (x : Int)])) (hat : v.ownBlock = some g ∨ w.heap.size < g) :
 Outs (w'.setCell ⟨ob, s, none⟩ (.slice (some ⟨g, 0, none⟩) (xs.length + 1) cap)) B ob (vs.setIfInBounds s (.slice (some ⟨g, 0, none⟩) (xs.length + 1) cap)) (fun j => if j = s then M else P j) := by
 have hsz := h.sz
 have hsl : s < 32 := by have := (Array.getElem?_eq_some_iff.1 hs).1; omega
 have k' : Bk w' ob 262 vs := h.bk.grown hg (own_ne ho h.bk (by decide))
 have key : ∀ j u, vs[j]? = some u → j ≠ s → NsIn w' B (P j) u := fun j u hu hj => by
  obtain ⟨cs, h1, h2⟩ := h.ni j u hu
  exact ⟨cs, hown_grow h1 hg (fun q hq e => hj (h.dj j s u v q hu hs e hq)), h2⟩
 have lt : ∀ (j : Nat) (u : Value) (q : Nat), vs[j]? = some u → u.ownBlock = some q → q < w.heap.size := fun j u q hu e => (h.ni j u hu).lt q e
 refine ⟨k'.set_ s _, by simpa using hsz, fun j u hu => ?_, fun j j' u u' q hu hu' e e' => ?_⟩
 ·rw [Array.getElem?_setIfInBounds] at hu
  by_cases hj : s = j
  ·subst hj
   rw [if_pos rfl, if_pos (by omega)] at hu
   rw [if_pos rfl]
   injection hu with hu
   subst hu
   have hN : NsIn w' B M (.slice (some ⟨g, 0, none⟩) (xs.length + 1) cap) := ⟨xs ++ [x], by rw [List.length_append, nts_snoc]; exact ho', hx.snoc hlt hM⟩
   exact hN.put k' (by decide) _
  ·rw [if_neg hj] at hu
   rw [if_neg (fun e => hj e.symm)]
   exact (key j u hu (fun e => hj e.symm)).put k' (by decide) _
 ·rw [Array.getElem?_setIfInBounds] at hu hu'
  by_cases hj : s = j <;> by_cases hj' : s = j'
  ·omega
  ·rw [if_pos hj, if_pos (by omega)] at hu
   rw [if_neg hj'] at hu'
   injection hu with hu
   subst hu
   have eg : g = q := by simpa [Value.ownBlock] using e
   subst eg
   rcases hat with h1 | h1
   ·exact absurd (h.dj s j' v u' g hs hu' h1 e') hj'
   ·have := lt j' u' g hu' e'; omega
  ·rw [if_neg hj] at hu
   rw [if_pos hj', if_pos (by omega)] at hu'
   injection hu' with hu'
   subst hu'
   have eg : g = q := by simpa [Value.ownBlock] using e'
   subst eg
   rcases hat with h1 | h1
   ·exact absurd (h.dj s j v u g hs hu h1 e) hj
   ·have := lt j u g hu e; omega
  ·rw [if_neg hj] at hu
   rw [if_neg hj'] at hu'
   exact h.dj j j' u u' q hu hu' e e'
theorem size32 : (Tryz.prog.info? 262).map (·.size) = some 32 := by kernel_rfl
theorem size32z : (Tryz.prog.info? 262).map (·.size) = some nil32.size := size32
theorem nil32_one : nil32.all (·.oneCell') = true := by simp [nil32, Value.oneCell']
def BehindOut (m : Nat) (w : World) (e : Ending) (w' : World) : Prop := ∃ vs : Array Value, e = .returned (.agg vs) ∧ vs.size = 32 ∧ (∀ (s : Nat) (u : Value), vs[s]? = some u → NsIn w' w.heap.size m u) ∧ Below w.heap.size w w'
abbrev NetC (Ao Ab Af Ae : Option Addr) (m co cb fn cf en ce : Nat) (em : Bool) : Array Value := #[.slice Ao m co, .slice Ab m cb, .slice Af fn cf, .slice Ae en ce, .bool em]
/-- on the way through `behind`: its own blocks -/
structure BI (w wr : World) (m : Nat) (N : Array Value) : Prop where
 n : Bk wr w.heap.size 205 N
 r : Bk wr (w.heap.size + 1) 262 nil32
 b : Bls wr (w.heap.size + 2) m
 l : Below w.heap.size w wr
theorem BI.below {w wr w' : World} {m : Nat} {N : Array Value} (h : BI w wr m N) (hb : Below wr.heap.size wr w') : BI w w' m N := ⟨h.n.ext hb, h.r.ext hb, h.b.ext hb, h.l.trans (hb.mono h.l.size)⟩
theorem BI.put {w wr : World} {m : Nat} {N : Array Value} (h : BI w wr m N) (i : Nat) (x : Bool) : BI w (wr.setCell ⟨w.heap.size + 2, i, none⟩ (.bool x)) m N :=
 ⟨h.n.far (p := ⟨w.heap.size + 2, i, none⟩) (by simp) _, h.r.far (p := ⟨w.heap.size + 2, i, none⟩) (by simp) _, h.b.set_ i x, h.l.setCell (by simp) _⟩
theorem BI.grown {w wr w' : World} {m n ob s : Nat} {N : Array Value} {v u : Value} {xs : List Value} (h : BI w wr m N) (hg : wr.grownBy w' v.ownBlock) (ho : wr.ownsRow w.heap.size 3 1 v n xs) (hob : w.heap.size + 2 < ob) : BI w (w'.setCell ⟨ob, s, none⟩ u) m N :=
 ⟨(h.n.grown hg (own_ne ho h.n (by decide))).far (p := ⟨ob, s, none⟩) (by simp; omega) _, (h.r.grown hg (own_ne ho h.r (by decide))).far (p := ⟨ob, s, none⟩) (by simp; omega) _, (h.b.grown hg ho).far (p := ⟨ob, s, none⟩) (by simp; omega) _, (below_own h.l ho hg h.l.size (Nat.le_refl _)).setCell (by simp; omega) _⟩
theorem not_taken {l : List Nat} {k x m : Nat} (hr : Ris m l) (hk : l[k]? = some x) : x ∉ l.take k := by
 intro h
 obtain ⟨j, hj⟩ := List.mem_iff_getElem?.1 h
 rw [List.getElem?_take] at hj
 split at hj
 ·rename_i hlt
  obtain ⟨h1, e1⟩ := List.getElem?_eq_some_iff.1 hj
  obtain ⟨h2, e2⟩ := List.getElem?_eq_some_iff.1 hk
  have := (List.pairwise_iff_getElem.1 hr.1) j k h1 h2 hlt
  omega
 ·cases hj
theorem behind8_any (B B2 m K tb at_ : Nat) (on bh f e sets nx ac : Value) (em : Bool) (w : World) (hV : NetV w B m on bh f e) (hm : m ≤ 256) (kt : Bk w tb 201 #[sets, nx, ac]) (hr : Rws w B2 m sets K) (hK : K ≤ 300) (ha : at_ < K) : Calls Tryz.prog 154 #[.pointer (some ⟨tb, 0, none⟩), .agg #[on, bh, f, e, .bool em], .int .i64 at_] w (BehindOut m w) := by
 obtain ⟨Ao, co, rfl⟩ := hV.ron.form
 obtain ⟨Ab, cb, rfl⟩ := hV.rbh.form
 obtain ⟨Af, cf, lf, rfl, hlf, hrf, -⟩ := hV.f.form
 obtain ⟨Ae, ce, le, rfl, hle, -, -⟩ := hV.e.form
 obtain ⟨fn, hfn⟩ : ∃ fn, fn = lf.length := ⟨_, rfl⟩
 have hfl := hlf.len
 rw [← hfn] at hV hrf hfl ⊢
 have HLF := Lib.hid hlf
 have HRF := Lib.hid hrf
 generalize le.length = en at *
 clear hlf hrf hle hfn
 have HV := Lib.hid hV
 have HT := Lib.hid kt
 have HR := Lib.hid hr
 obtain ⟨As, cs, rfl⟩ := hr.form
 have htl := def_lt' kt
 obtain ⟨sg, u, rfl, -, hsg, huc, hui, -⟩ := hr.at_ ha
 obtain ⟨Au, cu, lu, rfl, hlu, hru, -⟩ := hui.form
 obtain ⟨un, hun⟩ : ∃ un, un = lu.length := ⟨_, rfl⟩
 have hul := hlu.len
 rw [← hun] at hru hul huc
 have HLU := Lib.hid hlu
 have HRU := Lib.hid hru
 have HUC := Lib.hid huc
 clear hV kt hr hlu hru hun hui huc
 have hmk := make_bools m (by omega)
 go_enter Tryz.func154, Tryz.ntmps154
 go_upto_region 2 with fail
 clear hmk
 have hI0 : BI w (((w.alloc (.cells #[.slice Ao m co, .slice Ab m cb, .slice Af fn cf, .slice Ae en ce, .bool em] 205)).alloc (.cells nil32 262)).alloc (.cells (madeCells #[.bool false] m) 4)) m (NetC Ao Ab Af Ae m co cb fn cf en ce em) := by
  refine ⟨((Bk.new w _ _).alloc _).alloc _, (Bk.made _ _ (by simp)).alloc _, ?_, belowA⟩
  have h := Bls.made ((w.alloc (.cells #[.slice Ao m co, .slice Ab m cb, .slice Af fn cf, .slice Ae en ce, .bool em] 205)).alloc (.cells nil32 262)) m
  rw [show ((w.alloc (.cells #[.slice Ao m co, .slice Ab m cb, .slice Af fn cf, .slice Ae en ce, .bool em] 205)).alloc (.cells nil32 262)).heap.size = w.heap.size + 2 by simp] at h
  exact h
 generalize ((w.alloc (.cells #[.slice Ao m co, .slice Ab m cb, .slice Af fn cf, .slice Ae en ce, .bool em] 205)).alloc (.cells nil32 262)).alloc (.cells (madeCells #[.bool false] m) 4) = w0 at *
 have a0 : (0 : Int) ≤ at_ := by omega
 have a1 : (at_ : Int) < K := by omega
 go_upto_block 0 with fail
 go_cut [8] (fun _ wx => BI w wx m (NetC Ao Ab Af Ae m co cb fn cf en ce em))
 case first =>
  go_wp2
  go_loopw [8] (fun j wr => ∃ q : Nat, q ≤ fn ∧ j = .int .i64 q ∧ BI w wr m (NetC Ao Ab Af Ae m co cb fn cf en ce em)) (fun j _ => fn - (intOf j).toNat)
  case atStart => exact ⟨0, by omega, rfl, hI0⟩
  case round =>
   clear hI0
   obtain ⟨q, hq, rfl, hI⟩ := hrel
   obtain ⟨n0, n1, n2, n3, n4⟩ := bk5 hI.n
   by_cases hgo : at_ = 0 ∧ q < fn
   ·obtain ⟨rfl, hlt⟩ := hgo
    have e3 : (q : Int) < fn := by omega
    obtain ⟨fb, fo, z, rfl, hfb, hz, hzc⟩ := (HRF.out.below hI.l).nt_at hlt
    have hzm := HLF.out.2 z (List.mem_of_getElem? hz)
    have hzm' : (z : Int) < m := by omega
    obtain ⟨bx, hbx⟩ := hI.b.cell hzm
    have bf := hI.b.frozen z
    have bl := hI.b.lt
    clear hz
    go_wp2
    go_roundw
    case rel => exact ⟨q + 1, by omega, by go_num, hI.put z true⟩
    case measure => simp [intOf]; omega
   ·have hg2 : ((at_ : Int) == 0) = false ∨ (((at_ : Int) == 0) = true ∧ ¬ (q : Int) < fn) := by
     by_cases h0 : at_ = 0
     ·exact .inr ⟨by simp [h0], by omega⟩
     ·exact .inl (beq_false_of_ne (by omega))
    clear hgo
    rcases hg2 with e4 | ⟨e4, e5⟩
    all_goals
     go_wp2
     go_meet
     exact hI
 case rest =>
 rename World => wy
 have hI := hcut
 clear hcut hI0
 go_wp2
 go_loopw [9] (fun j wr => ∃ q : Nat, q ≤ un ∧ j = .int .i64 q ∧ BI w wr m (NetC Ao Ab Af Ae m co cb fn cf en ce em)) (fun j _ => un - (intOf j).toNat)
 case atStart => exact ⟨0, by omega, rfl, hI⟩
 case round =>
  clear hI
  obtain ⟨q, hq, rfl, hI⟩ := hrel
  obtain ⟨n0, n1, n2, n3, n4⟩ := bk5 hI.n
  obtain ⟨t0, t1, t2⟩ := bk3 (HT.out.ext hI.l)
  have d0 := (hI.l.cell (p := ⟨sg, at_, none⟩) hsg).trans HUC.out
  by_cases hlt : q < un
  ·have e3 : (q : Int) < un := by omega
   obtain ⟨fb, fo, z, rfl, hfb, hz, hzc⟩ := (HRU.out.below hI.l).nt_at hlt
   have hzm := HLU.out.2 z (List.mem_of_getElem? hz)
   have hzm' : (z : Int) < m := by omega
   obtain ⟨bg, y, rfl, -, hbg, hyc, hyi, -⟩ := HV.out.rbh.at_ hzm
   obtain ⟨Ay, cy, ly, rfl, hly, hry, -⟩ := hyi.form
   obtain ⟨yn, hyn⟩ : ∃ yn, yn = ly.length := ⟨_, rfl⟩
   have hyl := hly.len
   rw [← hyn] at hry hyl hyc
   have d1 := (hI.l.cell (p := ⟨bg, z, none⟩) hbg).trans hyc
   have HLY := Lib.hid hly
   have HRY := Lib.hid hry
   clear hyi hly hry hyn hz hyc
   go_upto_region 9 with fail
   go_quiet (fail)
   rename_i nq
   have hI1 := hI.below (below_drewN (Below.refl _ _) nq)
   clear n0 n1 n2 n3 n4 t0 t1 t2 d0 d1 hzc hI
   go_wp2
   go_loopw [11] (fun j wr => ∃ q : Nat, q ≤ yn ∧ j = .int .i64 q ∧ BI w wr m (NetC Ao (some ⟨bg, 0, none⟩) Af Ae m co cb fn cf en ce em)) (fun j _ => yn - (intOf j).toNat)
   case atStart => exact ⟨0, by omega, rfl, hI1⟩
   case round =>
    clear hI1
    obtain ⟨x, hx, rfl, hI⟩ := hrel
    by_cases hxl : x < yn
    ·have e4 : (x : Int) < yn := by omega
     obtain ⟨xb, xo, y, rfl, hxb, hy, hyc⟩ := (HRY.out.below hI.l).nt_at hxl
     have hym := HLY.out.2 y (List.mem_of_getElem? hy)
     have hym' : (y : Int) < m := by omega
     obtain ⟨bx, hbx⟩ := hI.b.cell hym
     have bf := hI.b.frozen y
     have bl := hI.b.lt
     clear hy
     go_wp2
     go_roundw
     case rel => exact ⟨x + 1, by omega, by go_num, hI.put y true⟩
     case measure => simp [intOf]; omega
    ·obtain rfl : x = yn := by omega
     go_wp2
     go_roundw
     case rel => exact ⟨q + 1, by omega, by go_num, hI⟩
     case measure => simp [intOf]; omega
  ·obtain rfl : q = un := by omega
   go_upto_region 15 with ((with_reducible refine wpList_store_all (wr.alloc (.cells nil32 262)) ?hg 262 (.tmp 12) (.tmp 76) ?ho wr.heap.size nil32 nil32 ?he ?hx (Bk.new wr _ _) size32z rfl nil32_one ?_); (case hg => rfl); (case ho => rfl); (case he => rfl); (case hx => rfl))
   have hbl := hI.b.lt
   obtain ⟨ob, hob⟩ : ∃ ob, ob = wr.heap.size := ⟨_, rfl⟩
   have hI4 : BI w ((wr.alloc (.cells nil32 262)).setRow wr.heap.size nil32) m (NetC Ao Ab Af Ae m co cb fn cf en ce em) := by
    rw [World.setRow_alloc_new]
    exact hI.below ((Below.refl _ _).alloc (Nat.le_refl _) _)
   have kO4 : Bk ((wr.alloc (.cells nil32 262)).setRow wr.heap.size nil32) ob 262 nil32 := by
    rw [World.setRow_alloc_new, hob]
    exact Bk.new wr _ _
   rw [← hob] at hbl
   rw [← hob] at hI4 kO4 ⊢
   generalize (wr.alloc (.cells nil32 262)).setRow ob nil32 = w4 at *
   clear hob n0 n1 n2 n3 n4 t0 t1 t2 d0 hI
   go_wp2
   go_loopw [13] (fun j wr => ∃ (p : Nat) (vs : Array Value), p ≤ m ∧ j = .int .i64 p ∧ BI w wr m (NetC Ao Ab Af Ae m co cb fn cf en ce em) ∧ Hid (Outs wr w.heap.size ob vs fun _ => p)) (fun j _ => m - (intOf j).toNat)
   case atStart => exact ⟨0, nil32, by omega, rfl, hI4, Lib.hid (Outs.zero kO4)⟩
   case round =>
    clear hI4 kO4
    obtain ⟨p, vs, hp, rfl, hI, hO⟩ := hrel
    by_cases hpl : p < m
    ·have e4 : (p : Int) < m := by omega
     obtain ⟨og, y, rfl, -, hog, hyc, hyi, -⟩ := HV.out.ron.at_ hpl
     obtain ⟨Ay, cy, ly, rfl, hly, hry, -⟩ := hyi.form
     obtain ⟨yn, hyn⟩ : ∃ yn, yn = ly.length := ⟨_, rfl⟩
     have hyl := hly.len
     rw [← hyn] at hry hyl hyc
     have HLY := Lib.hid hly
     have HRY := Lib.hid hry
     have HYC := Lib.hid hyc
     clear hyi hly hry hyn hyc
     go_wp2
     go_loopw [14] (fun j wr => ∃ (k : Nat) (vs : Array Value), k ≤ yn ∧ j = .int .i64 k ∧ BI w wr m (NetC (some ⟨og, 0, none⟩) Ab Af Ae m co cb fn cf en ce em) ∧ Hid (Outs wr w.heap.size ob vs fun s => if s ∈ ly.take k then p + 1 else p)) (fun j _ => yn - (intOf j).toNat)
     case atStart => exact ⟨0, vs, by omega, rfl, hI, Lib.hid (hO.out.mono (fun s => by simp))⟩
     case round =>
      clear hI hO
      obtain ⟨k, vs, hk, rfl, hI, hO⟩ := hrel
      rename World => wr
      obtain ⟨n0, n1, n2, n3, n4⟩ := bk5 hI.n
      have d0 := (hI.l.cell (p := ⟨og, p, none⟩) hog).trans HYC.out
      obtain ⟨bx, hbx⟩ := hI.b.cell hpl
      cases bx with
      | false =>
        go_wp2
        go_roundw
        case rel => exact ⟨p + 1, vs, by omega, by go_num, hI, Lib.hid (hO.out.mono (fun s => by split <;> omega))⟩
        case measure => simp [intOf]; omega
      | true =>
        by_cases hkl : k < yn
        ·have e5 : (k : Int) < yn := by omega
         obtain ⟨xb, xo, s, rfl, hxb, hs, hsc⟩ := (HRY.out.below hI.l).nt_at hkl
         have hnt := Lib.hid (not_taken HLY.out hs)
         have HS := Lib.hid hs
         clear hs
         by_cases h32 : s < 32
         ·have e6 : (s : Int) < 32 := by omega
          have s0 : (0 : Int) ≤ s := by omega
          have hsz := hO.out.sz
          obtain ⟨v, hv⟩ : ∃ v, vs[s]? = some v := ⟨_, Array.getElem?_eq_getElem (by omega)⟩
          have hvi := hO.out.ni s v hv
          rw [if_neg hnt.out] at hvi
          obtain ⟨xs, hxo, hxr⟩ := hvi
          obtain ⟨Av, cv, rfl, -, -, -, -⟩ := own_form hxo
          have ko := hO.out.bk
          have hvc : wr.cell? ⟨ob, s, none⟩ = some (.slice Av xs.length cv) := by rw [ko.cell]; exact hv
          have hxl := hxr.len
          have hzw := hI.l.size
          go_wp2_with (at_builtin; ((refine app_one Tryz.underlying51 info_in rfl (by decide) wr w.heap.size _ xs.length _ hxo (by unfold maxLen; omega) (by omega) hzw _ rfl (by simp [Value.oneCell']) rfl _ _ rfl rfl rfl ?_); intro g5 cap5 w5 hown5 hgr5 hat5 hlt5; have ko5 := ko.grown hgr5 (own_ne hxo ko (by decide)); have of5 := ko5.frozen; have ol5 := def_lt' ko5; have oc5 := (ko5.cell s).trans hv))
          have hI5 := hI.grown (ob := ob) (s := s) (u := .slice (some ⟨g5, 0, none⟩) (xs.length + 1) cap5) hgr5 hxo hbl
          have hO5 := hO.out.push hv hxo (M := p + 1) (hxr.mono (by omega)) (fun y hy => hxr.2 y hy) (Nat.lt_succ_self p) hgr5 hown5 hat5
          have hO6 := Lib.hid (hO5.mono (P' := fun j => if j ∈ ly.take (k + 1) then p + 1 else p) (fun j => by
           have hmem : j ∈ ly.take (k + 1) ↔ j ∈ ly.take k ∨ j = s := by
            rw [List.take_add_one, HS.out, Option.toList_some, List.mem_append]
            simp
           by_cases hj : j = s
           ·rw [if_pos hj, if_pos (hmem.2 (.inr hj))]; exact Nat.le_refl _
           ·rw [if_neg hj]
            by_cases hj2 : j ∈ ly.take k
            ·rw [if_pos hj2, if_pos (hmem.2 (.inl hj2))]; exact Nat.le_refl _
            ·rw [if_neg hj2, if_neg (by rw [hmem]; intro h; rcases h with h | h; (· exact hj2 h); (· exact hj h))]; exact Nat.le_refl _))
          go_roundw
          case rel => exact ⟨k + 1, _, by omega, by go_num, hI5, hO6⟩
          case measure => simp [intOf]; omega
         ·have e6 : ¬ (s : Int) < 32 := by omega
          go_wp2
          go_roundw
          case rel => exact ⟨k + 1, vs, by omega, by go_num, hI, Lib.hid (hO.out.mono (fun j => by
           by_cases hj2 : j ∈ ly.take k
           ·rw [if_pos hj2, if_pos (by rw [List.take_add_one]; exact List.mem_append_left _ hj2)]; exact Nat.le_refl _
           ·rw [if_neg hj2]; split <;> omega))⟩
          case measure => simp [intOf]; omega
        ·obtain rfl : k = yn := by omega
         go_wp2
         go_roundw
         case rel => exact ⟨p + 1, vs, by omega, by go_num, hI, Lib.hid (hO.out.mono (fun s => by split <;> omega))⟩
         case measure => simp [intOf]; omega
    ·obtain rfl : p = m := by omega
     have ko := hO.out.bk
     have hsz := hO.out.sz
     have hone : vs.all (·.oneCell') = true := Array.all_eq_true_iff_forall_mem.2 fun u hu => by
      obtain ⟨j, hj⟩ := Array.mem_iff_getElem?.1 hu
      obtain ⟨A, c, cs, rfl, -⟩ := (hO.out.ni j u hj).form
      simp [Value.oneCell']
     have hs32 : (Tryz.prog.info? 262).map (·.size) = some vs.size := by rw [hsz]; exact size32
     have HIR := Lib.hid hI.r
     have HS32 := Lib.hid hs32
     have HSZ := Lib.hid (show nil32.size = vs.size by rw [hsz]; rfl)
     have hk9 := setRow_bk hI.r vs
     have hs9 := setRow_sti wr (w.heap.size + 1) vs
     have hb9 := setRow_below hI.l (b := w.heap.size + 1) (by omega) vs
     have hni : ∀ (s : Nat) (u : Value), vs[s]? = some u → NsIn (wr.setRow (w.heap.size + 1) vs) w.heap.size p u := fun s u hu => hs9.ns (hO.out.ni s u hu) (fun g hg e => by
      have e : g = w.heap.size + 1 := e
      subst e
      exact (hO.out.ni s u hu).ne hI.r (by decide) hg)
     have HE := Lib.hid (show BehindOut p w (.returned (.agg vs)) (wr.setRow (w.heap.size + 1) vs) from ⟨vs, rfl, hsz, hni, hb9⟩)
     have HK9 := Lib.hid hk9
     clear hs32 hsz hk9 hs9 hb9 hni
     go_wp2_with (first | ((with_reducible refine wpList_load_all wr ?hg 262 (.tmp 12) ?ho ob vs ?he ko 32 51 Tryz.underlying262 HS32.out ?_); (case hg => rfl); (case ho => rfl); (case he => rfl)) | ((with_reducible refine wpList_store_all wr ?hg 262 (.tmp 6) (.tmp 117) ?ho (w.heap.size + 1) nil32 vs ?he ?hx HIR.out HS32.out HSZ.out hone ?_); (case hg => rfl); (case ho => rfl); (case he => rfl); (case hx => rfl)))
     exact bodyPost_ret (v := .agg vs) (results_cell_row Tryz.results154 _ _ (w.heap.size + 1) 262 vs (0, 0) _ rfl HK9.out Tryz.underlying262 rfl HS32.out) rfl HE.out
end Go.Proofs.YtmacfoebfpljoaaGreat
