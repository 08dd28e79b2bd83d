/- merged texts: Hth Hti Htj Htk Htl Htm -/
import Derived.Test.YtmacfoebfpljoaaGreatMl9
import Derived.Deep.CutBlock
namespace Go.Proofs.YtmacfoebfpljoaaGreat
open Go.RowKit
set_option linter.unusedVariables false
/-- a further place, whose followers aren't laid yet -/
structure PJ (w : World) (B nb : Nat) (on0 bh0 f e : Value) (em : Bool) (pc : Array Value) (wr : World) (m : Nat) (on bh : Value) : Prop where
  n : Bk wr nb 205 #[on, bh, f, e, .bool em]
  ron : Rws wr B 256 on (m + 1)
  rbh : Rws wr B m bh m
  dj : ∀ g, on.ownBlock = some g → bh.ownBlock ≠ some g
  h : B ≤ nb
  r : Bk wr w.heap.size 205 zeroT
  p : Bk wr (w.heap.size + 1) 192 pc
  o : Bk wr (w.heap.size + 2) 205 zeroT
  s : Sti (fun i => i = nb ∨ on0.ownBlock = some i ∨ bh0.ownBlock = some i) w wr
  no : ∀ g, on.ownBlock = some g → on0.ownBlock = some g ∨ w.heap.size ≤ g
  nh : ∀ g, bh.ownBlock = some g → bh0.ownBlock = some g ∨ w.heap.size ≤ g
  lt : nb < w.heap.size
  bw : B ≤ w.heap.size
section
variable {w wr w' : World} {B nb m : Nat} {on0 bh0 f e on bh : Value} {em : Bool} {pc : Array Value}
theorem PJ.below (h : PJ w B nb on0 bh0 f e em pc wr m on bh) (hb : Below wr.heap.size wr w') : PJ w B nb on0 bh0 f e em pc w' m on bh :=
  ⟨h.n.ext hb, h.ron.below hb, h.rbh.below hb, h.dj, h.h, h.r.ext hb, h.p.ext hb, h.o.ext hb, h.s.trans (Sti.of_below (Y := fun _ => False) hb) (fun i hi => hi.elim), h.no, h.nh, h.lt, h.bw⟩
theorem rows_put {w w' : World} {B m K : Nat} {v v' u : Value} {vs : List Value} (h1 : w.ownsRow B 51 1 v K vs) (h2 : ∀ u ∈ vs, NsIn w B m u) (hu : NsIn w B m u) (hs : Sti (fun i => v.ownBlock = some i) w w') (ho : w'.ownsRow B 51 1 v' (K + 1) (vs ++ [u])) : Rws w' B m v' (K + 1) := by
  refine ⟨vs ++ [u], ho, fun x hx => ?_⟩
  have key : ∀ y, NsIn w B m y → NsIn w' B m y := fun y hy => hs.ns hy (fun g hg h0 => hy.ne_row h1 (by decide) g h0 hg)
  rcases List.mem_append.1 hx with hx | hx
  · exact key x (h2 x hx)
  · simp at hx; subst hx; exact key _ hu
theorem PI.onA {g6 cap6 : Nat} {v : Value} {vs : List Value} (h : PI w B nb on0 bh0 f e em pc wr m on bh (.slice none 0 0) (.slice none 0 0) false) (h1 : wr.ownsRow B 51 1 on m vs) (h2 : ∀ u ∈ vs, NsIn wr B 256 u) (hv : NsIn wr B 256 v) (hg : wr.grownBy w' on.ownBlock) (ho : w'.ownsRow B 51 1 (.slice (some ⟨g6, 0, none⟩) (m + 1) cap6) (m + 1) (vs ++ [v])) (hat : on.ownBlock = some g6 ∨ wr.heap.size ≤ g6) : PJ w B nb on0 bh0 f e em pc (w'.setCell ⟨nb, 0, none⟩ (.slice (some ⟨g6, 0, none⟩) (m + 1) cap6)) m (.slice (some ⟨g6, 0, none⟩) (m + 1) cap6) bh := by
  have hs : Sti (fun i => on.ownBlock = some i) wr w' := Sti.of_gr hg (fun i h => h)
  have hn := h.net
  have hz := h.s.size
  have hlt := h.lt
  have kn : Bk w' nb 205 #[on, bh, f, e, .bool em] := hs.bk hn.n (hn.ron.ne hn.n (by decide))
  have ron := rows_put h1 h2 hv hs ho
  have rbh : Rws w' B m bh m := hn.rbh.sti hs (fun g hg h0 => hn.dj g h0 hg) (fun u hu g hg h0 => hu.ne_rws hn.ron g h0 hg)
  refine ⟨kn.set_ 0 _, ron.put_ kn (by decide) (by decide) _, rbh.put_ kn (by decide) (by decide) _, fun g hg hb => ?_, hn.h, (hs.bk h.r (hn.ron.ne h.r (by decide))).far (p := ⟨nb, 0, none⟩) (by simp; omega) _, (hs.bk h.p (hn.ron.ne h.p (by decide))).far (p := ⟨nb, 0, none⟩) (by simp; omega) _, (hs.bk h.o (hn.ron.ne h.o (by decide))).far (p := ⟨nb, 0, none⟩) (by simp; omega) _, (h.s.trans hs (fun i hi => ?_)).set_ (p := ⟨nb, 0, none⟩) (.inl (.inl rfl)) _, fun g hg => ?_, h.nh, h.lt, h.bw⟩
  · have e6 : g6 = g := by simpa [Value.ownBlock] using hg
    subst e6
    rcases hat with h0 | h0
    · exact hn.dj _ h0 hb
    · have := hn.rbh.lt _ hb; omega
  · rcases h.no i hi with h3 | h3
    · exact .inl (.inr (.inl h3))
    · exact .inr h3
  · have e6 : g6 = g := by simpa [Value.ownBlock] using hg
    subst e6
    rcases hat with h0 | h0
    · exact h.no _ h0
    · exact .inr (by omega)
theorem PJ.bhA {g6 cap6 : Nat} {vs : List Value} (h : PJ w B nb on0 bh0 f e em pc wr m on bh) (h1 : wr.ownsRow B 51 1 bh m vs) (h2 : ∀ u ∈ vs, NsIn wr B m u) (hg : wr.grownBy w' bh.ownBlock) (ho : w'.ownsRow B 51 1 (.slice (some ⟨g6, 0, none⟩) (m + 1) cap6) (m + 1) (vs ++ [.slice none 0 0])) (hat : bh.ownBlock = some g6 ∨ wr.heap.size ≤ g6) : PI w B nb on0 bh0 f e em pc (w'.setCell ⟨nb, 1, none⟩ (.slice (some ⟨g6, 0, none⟩) (m + 1) cap6)) (m + 1) on (.slice (some ⟨g6, 0, none⟩) (m + 1) cap6) (.slice none 0 0) (.slice none 0 0) false := by
  have hs : Sti (fun i => bh.ownBlock = some i) wr w' := Sti.of_gr hg (fun i h => h)
  have hz := h.s.size
  have hlt := h.lt
  have kn : Bk w' nb 205 #[on, bh, f, e, .bool em] := hs.bk h.n (h.rbh.ne h.n (by decide))
  have rbh := (rows_put h1 h2 (NsIn.nil _ _ _) hs ho).mono (Nat.le_succ m)
  have ron : Rws w' B 256 on (m + 1) := h.ron.sti hs (fun g hg h0 => h.dj g hg h0) (fun u hu g hg h0 => hu.ne_rws h.rbh g h0 hg)
  refine ⟨⟨kn.set_ 1 _, ron.put_ kn (by decide) (by decide) _, rbh.put_ kn (by decide) (by decide) _, fun g hg hb => ?_, h.h⟩, (hs.bk h.r (h.rbh.ne h.r (by decide))).far (p := ⟨nb, 1, none⟩) (by simp; omega) _, (hs.bk h.p (h.rbh.ne h.p (by decide))).far (p := ⟨nb, 1, none⟩) (by simp; omega) _, (hs.bk h.o (h.rbh.ne h.o (by decide))).far (p := ⟨nb, 1, none⟩) (by simp; omega) _, NsIn.nil _ _ _, NsIn.nil _ _ _, (h.s.trans hs (fun i hi => ?_)).set_ (p := ⟨nb, 1, none⟩) (.inl (.inl rfl)) _, h.no, fun g hg => ?_, h.lt, h.bw⟩
  · have e6 : g6 = g := by simpa [Value.ownBlock] using hb
    subst e6
    rcases hat with h0 | h0
    · exact h.dj _ hg h0
    · have := h.ron.lt _ hg; omega
  · rcases h.nh i hi with h3 | h3
    · exact .inl (.inr (.inr h3))
    · exact .inr h3
  · have e6 : g6 = g := by simpa [Value.ownBlock] using hg
    subst e6
    rcases hat with h0 | h0
    · exact h.nh _ h0
    · exact .inr (by omega)
end
set_option maxRecDepth 100000 in
set_option maxHeartbeats 16000000 in
theorem part_one (w00 : World) (pb n c mb ec : Nat) (A EA : Option Addr) (l : List Pt) (mg : List Mg) (i : Nat) (p : Pt) (hpi : l[i]? = some p) (hk : p.k = 1) (hp : Parts w00 pb (.slice A n c) n l) (hn : n ≤ 1000) (hg : MgsIn w00 mb (.slice EA mg.length ec) mg) (hgl : mg.length ≤ 100000) (ih : ∀ i', i' < i → PartAny w00 pb n c mb ec A EA l mg i') : PartAny w00 pb n c mb ec A EA l mg i := by
  intro nb m on bh f e em w hbw hnet hm
  have hzw := hbw.size
  have hok := hp.ok i p hpi
  have hin : i < n := by have := hp.len; have := (List.getElem?_eq_some_iff.1 hpi).1; omega
  have hkown := own_below (hp.own i p hpi) hbw
  have hkl : p.ks.length = p.m := by have := hkown.1; simpa [nts] using this
  have hmn := mn_eq hpi hok.kid
  obtain ⟨ab, ao, rfl, hab, hcc⟩ := (hp.below hbw).at_ hpi
  have c0 : w.cell? ⟨ab, ao + i * 5, none⟩ = some (.int .i64 p.k) := hcc 0 (by omega)
  have c1 : w.cell? ⟨ab, ao + i * 5 + 1, none⟩ = some (.int .i64 p.lo) := hcc 1 (by omega)
  have c2 : w.cell? ⟨ab, ao + i * 5 + 2, none⟩ = some (.int .i64 p.hi) := hcc 2 (by omega)
  have c3 : w.cell? ⟨ab, ao + i * 5 + 3, none⟩ = some (.string p.nm) := hcc 3 (by omega)
  have c4 : w.cell? ⟨ab, ao + i * 5 + 4, none⟩ = some (.slice p.A p.m p.c) := hcc 4 (by omega)
  unfold tms at hmn
  obtain ⟨pk, plo, phi, pnm, pA, pm, pc, pks, ps⟩ := p
  obtain ⟨⟨k1, k2⟩, ⟨lo1, lo2⟩, ⟨hi1, hi2⟩, nm1, hone, -, m1, kid1⟩ := hok
  dsimp only at *
  have HP := Lib.hid hp
  have HG := Lib.hid hg
  have HKO := Lib.hid hkown
  have HKL := Lib.hid hkl
  have HKID := Lib.hid kid1
  have IH := Lib.hid ih
  have HMN := Lib.hid hmn
  have HNET := Lib.hid hnet
  have HONE := Lib.hid hone
  have HM := Lib.hid hm
  have i0 : (0 : Int) ≤ i := by omega
  have i1 : (i : Int) < n := by omega
  have HK := Lib.hid hk
  clear hp hkown hkl kid1 ih hcc hpi hmn hone hg hnet hk hm
  have HGE := Lib.hid (And.intro HNET.out.ron.ge HNET.out.rbh.ge)
  have hky : ∀ g, (Pt.v ⟨pk, plo, phi, pnm, pA, pm, pc, pks, ps⟩).ownBlock = some g → ¬ (g = nb ∨ on.ownBlock = some g ∨ bh.ownBlock = some g) := by
    rintro g hg (h0 | h0 | h0)
    · subst h0; exact own_ne HKO.out HNET.out.n (by decide) hg
    · obtain ⟨vs, hv, -⟩ := id HNET.out.ron; exact hown_type HKO.out hv (by decide) g h0 hg
    · obtain ⟨vs, hv, -⟩ := id HNET.out.rbh; exact hown_type HKO.out hv (by decide) g h0 hg
  have HKY := Lib.hid hky
  have hnbl := def_lt' HNET.out.n
  clear hky
  rw [show mn l i = 1 by rw [HMN.out, if_pos HK.out]]
  go_enter Tryz.func157, Tryz.ntmps157
  go_upto_region 3 with fail
  have kr : Bk (((w.alloc (.cells zeroT 205)).alloc (.cells #[.int .i64 pk, .int .i64 plo, .int .i64 phi, .string pnm, .slice pA pm pc] 192)).alloc (.cells zeroT 205)) w.heap.size 205 zeroT := ((Bk.new w _ _).alloc _).alloc _
  have kp : Bk (((w.alloc (.cells zeroT 205)).alloc (.cells #[.int .i64 pk, .int .i64 plo, .int .i64 phi, .string pnm, .slice pA pm pc] 192)).alloc (.cells zeroT 205)) (w.heap.size + 1) 192 #[.int .i64 pk, .int .i64 plo, .int .i64 phi, .string pnm, .slice pA pm pc] := (Bk.made _ _ (by simp)).alloc _
  have ko : Bk (((w.alloc (.cells zeroT 205)).alloc (.cells #[.int .i64 pk, .int .i64 plo, .int .i64 phi, .string pnm, .slice pA pm pc] 192)).alloc (.cells zeroT 205)) (w.heap.size + 2) 205 zeroT := Bk.made _ _ (by simp)
  have hb0 : Below w.heap.size w (((w.alloc (.cells zeroT 205)).alloc (.cells #[.int .i64 pk, .int .i64 plo, .int .i64 phi, .string pnm, .slice pA pm pc] 192)).alloc (.cells zeroT 205)) := belowA
  generalize ((w.alloc (.cells zeroT 205)).alloc (.cells #[.int .i64 pk, .int .i64 plo, .int .i64 phi, .string pnm, .slice pA pm pc] 192)).alloc (.cells zeroT 205) = w0 at *
  have hI0 := Lib.hid (PI.zero HNET.out hzw hb0 kr kp ko)
  clear kr kp ko hb0 c0 c1 c2 c3 c4 HNET
  have e1 : (pk == 1) = true := by rw [HK.out]; rfl
  have HE := Lib.hid (show mn l i = 1 by rw [HMN.out, if_pos HK.out])
  have hm2 : m + 1 ≤ 256 := by have := HM.out; have := HE.out; omega
  clear HMN
  obtain ⟨Ao, co, rfl⟩ := hI0.out.net.ron.form
  obtain ⟨Ah, ch, rfl⟩ := hI0.out.net.rbh.form
  have hne : nb ≠ w.heap.size + 1 := by omega
  obtain ⟨s0, s1, s2, s3, s4⟩ := bk5 hI0.out.o
  obtain ⟨q0, q1, q2, q3, q4⟩ := bk5 hI0.out.p
  obtain ⟨r0, r1, r2, r3, r4⟩ := bk5 (show Bk _ w.heap.size 205 zeroT from hI0.out.r)
  have sf := hI0.out.o.frozen; have sl := def_lt' hI0.out.o
  have rf := hI0.out.r.frozen; have rl := def_lt' hI0.out.r
  obtain ⟨n0, n1, n2, n3, n4⟩ := bk5 hI0.out.net.n
  have nf := hI0.out.net.n.frozen; have nl := def_lt' hI0.out.net.n
  have hbr0 := hI0.out.s.below (B := w00.heap.size) (by rintro j (h0 | h0 | h0); (· have := hI0.out.net.h; omega); (· exact HGE.out.1 j h0); (· exact HGE.out.2 j h0)) hzw
  have hMG := Lib.hid (HG.out.below (hbw.trans hbr0))
  have hF : ∀ W, (Bk W nb 205 #[.slice Ao m co, .slice Ah m ch, f, e, .bool em] ∧ Bk W (w.heap.size + 1) 192 #[.int .i64 pk, .int .i64 plo, .int .i64 phi, .string pnm, .slice pA pm pc]) → W.cell? ⟨nb, 0, none⟩ = some (.slice Ao m co) ∧ W.cell? ⟨w.heap.size + 1, 3, none⟩ = some (.string pnm) := fun W h => ⟨h.1.cell 0, h.2.cell 3⟩
  have HF := Lib.hid hF
  clear hF
  go_upto_region 5 with fail
  clear s0 s1 s2 s3 s4 q0 q1 q2 q3 q4 r0 r1 r2 r3 r4 sf sl rf rl
  clear n0 n1 n2 n3 n4 nf nl
  refine wp_normal ?_
  refine region_L (S := fun W => Bk W nb 205 #[.slice Ao m co, .slice Ah m ch, f, e, .bool em] ∧ Bk W (w.heap.size + 1) 192 #[.int .i64 pk, .int .i64 plo, .int .i64 phi, .string pnm, .slice pA pm pc]) [13] (by kernel_rfl) ⟨hI0.out.net.n.drew, hI0.out.p.drew⟩ (fun hHeld => ?_)
  (refine tkL 0 ?_; refine tkL 1 ?_; refine tkL 2 ?_; refine tkL 3 ?_; refine tkL 4 ?_; refine tkL 5 ?_; refine tkL 6 ?_; refine tkL 7 ?_)
  refine nxL 8 (fun K hK => ?_)
  go_simp
  go_at_call 195
  refine (means7_any mb ec _ mg pnm _ (hMG.out.below (w' := w0.drew) (Below.refl _ _).drew) hgl).mono ?_
  rintro e5 w5 ⟨v5, rfl, hv5, hb5'⟩
  have hb5 : Below w0.heap.size w0 w5 := Below.trans (Below.refl _ _).drew hb5'
  have hI5 := Lib.hid (hI0.out.below hb5)
  have hbB : w00.heap.size ≤ w0.heap.size := by have := hI0.out.s.size; omega
  have hv5' : NsIn w5 w00.heap.size 256 v5 := hv5.mono (Nat.le_refl _) hbB
  have hz5 := hb5.size
  obtain ⟨A5, c5, l5, rfl, -, -, -⟩ := hv5.form
  generalize l5.length = n5 at *
  refine hK.out _ _ ⟨hI5.out.net.n, hI5.out.p⟩ (fun hHeld => ?_)
  clear hK K; refine puL ?_
  refine nxL 9 (fun K hK => ?_)
  go_simp
  refine hK.out _ _ ⟨hI5.out.net.n.alloc _, hI5.out.p.alloc _⟩ (fun hHeld => ?_)
  clear hK K; refine puL ?_
  have hbA : Below w5.heap.size w5 (w5.alloc (.cells #[.slice A5 n5 c5] 51)) := belowA
  have kA := Bk.new w5 51 #[.slice A5 n5 c5]
  generalize w5.alloc (.cells #[.slice A5 n5 c5] 51) = wA at *
  have hIA := Lib.hid (hI5.out.below hbA)
  have hvA := hv5'.below hbA
  have hzA := hbA.size
  obtain ⟨vs, hr1, hr2⟩ := id hIA.out.net.ron
  refine nxL 10 (fun K hK => ?_)
  refine app_at_step Tryz.underlying198 info_li rfl (by decide) w00.heap.size _ m vs hr1 (by unfold maxLen; omega) (by omega) (by omega) w5.heap.size #[.slice A5 n5 c5] kA rfl (by simp [Value.oneCell']) rfl _ _ rfl rfl rfl ?_
  intro g6 cap6 w6 hown6 hgr6 hat6 hlt6
  have hs6 : Sti (fun i => (Value.slice Ao m co).ownBlock = some i) wA w6 := Sti.of_gr hgr6 (fun i h => h)
  have kn6 := hs6.bk hIA.out.net.n (hIA.out.net.ron.ne hIA.out.net.n (by decide))
  have kp6 := hs6.bk hIA.out.p (hIA.out.net.ron.ne hIA.out.p (by decide))
  have hJ := Lib.hid (hIA.out.onA hr1 hr2 hvA hgr6 hown6 (by rcases hat6 with h | h; (· exact .inl h); (· exact .inr (by omega))))
  have n0 := kn6.cell 0
  have nf := kn6.frozen; have nl := def_lt' kn6
  dsimp at n0
  refine hK.out _ _ ⟨kn6, kp6⟩ (fun hHeld => ?_)
  clear hK K; refine puL ?_
  (refine tkL 11 ?_; refine tkL 12 ?_)
  refine ltL 13 (fun K hK => ?_)
  go_simp
  refine hK.out _ _ ?_
  refine anyL_done (by kernel_rfl) ?_
  clear n0 nf nl kn6 kp6 hs6 hr1 hr2 hown6 hgr6 hat6 hHeld hIA hvA kA HF hK
  generalize w6.setCell ⟨nb, 0, none⟩ (.slice (some ⟨g6, 0, none⟩) (m + 1) cap6) = w7 at *
  obtain ⟨n0, n1, n2, n3, n4⟩ := bk5 hJ.out.n
  have nf := hJ.out.n.frozen; have nl := def_lt' hJ.out.n
  have hbB7 : w00.heap.size ≤ w7.heap.size := by have := hJ.out.s.size; omega
  obtain ⟨vs7, hr71, hr72⟩ := id hJ.out.rbh
  go_upto_region 7 with (at_builtin; ((refine app_one Tryz.underlying198 info_li rfl (by decide) w7 w00.heap.size _ m vs7 hr71 (by unfold maxLen; omega) (by omega) (by omega) _ rfl (by simp [Value.oneCell']) rfl _ _ rfl rfl rfl ?_); intro g8 cap8 w8 hown8 hgr8 hat8 hlt8; have hs8 : Sti (fun i => (Value.slice Ah m ch).ownBlock = some i) w7 w8 := Sti.of_gr hgr8 (fun i h => h); have kn8 := hs8.bk hJ.out.n (hJ.out.rbh.ne hJ.out.n (by decide)); have nf8 := kn8.frozen; have nl8 := def_lt' kn8; obtain ⟨m0, m1', m2, m3, m4⟩ := bk5 kn8))
  have hI9 := Lib.hid (hJ.out.bhA hr71 hr72 hgr8 hown8 (by rcases hat8 with h | h; (· exact .inl h); (· exact .inr (by omega))))
  clear m0 m1' m2 m3 m4 nf8 nl8 kn8 hs8 hat8 hgr8 hown8 n0 n1 n2 n3 n4 nf nl hr71 hr72 hJ
  generalize w8.setCell ⟨nb, 1, none⟩ (.slice (some ⟨g8, 0, none⟩) (m + 1) cap8) = w9 at *
  have hone : ∀ W : World, NsIn (W.alloc (.cells #[.int .i64 (m : Int)] 3)) W.heap.size (m + 1) (.slice (some ⟨W.heap.size, 0, none⟩) 1 1) := fun W => ⟨[m], own_sole W W.heap.size 3 #[.int .i64 (m : Int)] (Nat.le_refl _), ⟨by simp, fun x hx => by simp at hx; omega⟩⟩
  have HONE2 := Lib.hid hone
  clear hone
  have hb9 : w00.heap.size ≤ w9.heap.size := by have := hI9.out.s.size; omega
  have hl9 := def_lt' hI9.out.o
  have hI9A := hI9.out.below (show Below w9.heap.size w9 (w9.alloc (.cells #[.int .i64 (m : Int)] 3)) from (Below.refl _ _).alloc (Nat.le_refl _) _)
  have hI9B := hI9A.set 2 (.slice (some ⟨w9.heap.size, 0, none⟩) 1 1) (hI9A.o.set_ 2 _) ((HONE2.out w9).mono (Nat.le_refl _) hb9) hI9A.nei
  rw [World.setCell_alloc_past _ _ _ _ hl9] at hI9B
  have hI10 := Lib.hid hI9B
  obtain ⟨s0, s1, s2, s3, s4⟩ := bk5 hI9.out.o
  obtain ⟨q0, q1, q2, q3, q4⟩ := bk5 hI9.out.p
  obtain ⟨r0, r1, r2, r3, r4⟩ := bk5 (show Bk _ w.heap.size 205 zeroT from hI9.out.r)
  have sf := hI9.out.o.frozen; have sl := def_lt' hI9.out.o
  have rf := hI9.out.r.frozen; have rl := def_lt' hI9.out.r
  go_upto_region 8 with fail
  clear hI9 hI9A hI9B
  clear s0 s1 s2 s3 s4 q0 q1 q2 q3 q4 r0 r1 r2 r3 r4 sf sl rf rl
  generalize (w9.setCell ⟨w.heap.size + 2, 2, none⟩ (.slice (some ⟨w9.heap.size, 0, none⟩) 1 1)).alloc (.cells #[.int .i64 (m : Int)] 3) = w10 at *
  have hb10 : w00.heap.size ≤ w10.heap.size := by have := hI10.out.s.size; omega
  have hl10 := def_lt' hI10.out.o
  have hI10A := hI10.out.below (show Below w10.heap.size w10 (w10.alloc (.cells #[.int .i64 (m : Int)] 3)) from (Below.refl _ _).alloc (Nat.le_refl _) _)
  have hI10B := hI10A.set 3 (.slice (some ⟨w10.heap.size, 0, none⟩) 1 1) (hI10A.o.set_ 3 _) hI10A.nfi ((HONE2.out w10).mono (Nat.le_refl _) hb10)
  rw [World.setCell_alloc_past _ _ _ _ hl10] at hI10B
  have hI11 := Lib.hid hI10B
  obtain ⟨s0, s1, s2, s3, s4⟩ := bk5 hI10.out.o
  obtain ⟨q0, q1, q2, q3, q4⟩ := bk5 hI10.out.p
  obtain ⟨r0, r1, r2, r3, r4⟩ := bk5 (show Bk _ w.heap.size 205 zeroT from hI10.out.r)
  have sf := hI10.out.o.frozen; have sl := def_lt' hI10.out.o
  have rf := hI10.out.r.frozen; have rl := def_lt' hI10.out.r
  go_upto_region 9 with fail
  clear hI10 hI10A hI10B
  clear s0 s1 s2 s3 s4 q0 q1 q2 q3 q4 r0 r1 r2 r3 r4 sf sl rf rl
  generalize (w10.setCell ⟨w.heap.size + 2, 3, none⟩ (.slice (some ⟨w10.heap.size, 0, none⟩) 1 1)).alloc (.cells #[.int .i64 (m : Int)] 3) = w11 at *
  obtain ⟨s0, s1, s2, s3, s4⟩ := bk5 hI11.out.o
  obtain ⟨q0, q1, q2, q3, q4⟩ := bk5 hI11.out.p
  obtain ⟨r0, r1, r2, r3, r4⟩ := bk5 (show Bk _ w.heap.size 205 zeroT from hI11.out.r)
  have sf := hI11.out.o.frozen; have sl := def_lt' hI11.out.o
  have rf := hI11.out.r.frozen; have rl := def_lt' hI11.out.r
  go_wp2
  obtain ⟨hL1, hL2⟩ := hI11.out.left
  unfold set5 at hL1 hL2
  obtain ⟨z0, z1, z2, z3, z4⟩ := bk5 hL2
  exact bodyPost_ret (v := .agg #[.slice none 0 0, .slice none 0 0, .slice (some ⟨w9.heap.size, 0, none⟩) 1 1, .slice (some ⟨w10.heap.size, 0, none⟩) 1 1, .bool false]) (by simp [results, Tryz.results157, go_sem, z0, z1, z2, z3, z4]) rfl hL1
structure Nt where
  (f e : Value)
  m : Bool
def Nt.cells (x : Nt) : List Value := [.slice none 0 0, .slice none 0 0, x.f, x.e, .bool x.m]
def nets (l : List Nt) : List Value := l.flatMap Nt.cells
theorem nets_snoc (l : List Nt) (x : Nt) : nets (l ++ [x]) = nets l ++ [.slice none 0 0, .slice none 0 0, x.f, x.e, .bool x.m] := by simp [nets, Nt.cells]
theorem info_nt : (Tryz.prog.info? 205).map (fun i => (i.zero, i.size, i.bytes)) = some (some (.agg #[.slice none 0 0, .slice none 0 0, .slice none 0 0, .slice none 0 0, .bool false]), 5, 104) := by kernel_rfl
/-- nets in a row -/
structure NtsIn (wr : World) (b3 B M : Nat) (av : Value) (xs : List Nt) : Prop where
  a : wr.ownsRow b3 205 5 av xs.length (nets xs)
  i : ∀ x ∈ xs, NsIn wr B M x.f ∧ NsIn wr B M x.e
section
variable {w wr w' : World} {b3 B nb m M : Nat} {on0 bh0 f e on bh fi ei av av' : Value} {em xm : Bool} {pc : Array Value} {xs : List Nt} {Y : Nat → Prop}
theorem NtsIn.nil (wr : World) (b3 B M : Nat) : NtsIn wr b3 B M (.slice none 0 0) [] := ⟨World.ownsRow_nil _ _ _ _, (fun x h => by cases h)⟩
theorem NtsIn.below (h : NtsIn wr b3 B M av xs) (hb : Below wr.heap.size wr w') : NtsIn w' b3 B M av xs := ⟨own_below h.a hb, fun x hx => ⟨(h.i x hx).1.below hb, (h.i x hx).2.below hb⟩⟩
theorem NtsIn.mono {M' : Nat} (h : NtsIn wr b3 B M av xs) (hm : M ≤ M') : NtsIn wr b3 B M' av xs := ⟨h.a, fun x hx => ⟨(h.i x hx).1.mono hm (Nat.le_refl _), (h.i x hx).2.mono hm (Nat.le_refl _)⟩⟩
theorem NtsIn.sti (h : NtsIn wr b3 B M av xs) (hs : Sti Y wr w') (ha : ∀ g, av.ownBlock = some g → ¬ Y g) (hn : ∀ u, NsIn wr B M u → ∀ g, u.ownBlock = some g → ¬ Y g) : NtsIn w' b3 B M av xs :=
  ⟨hs.own h.a ha, fun x hx => ⟨hs.ns (h.i x hx).1 (hn _ (h.i x hx).1), hs.ns (h.i x hx).2 (hn _ (h.i x hx).2)⟩⟩
theorem NtsIn.at_ {A : Option Addr} {n c k : Nat} {x : Nt} (h : NtsIn wr b3 B M (.slice A n c) xs) (hk : xs[k]? = some x) : ∃ b o, A = some ⟨b, o, none⟩ ∧ b < wr.heap.size ∧ ∀ i, i < 5 → wr.cell? ⟨b, o + k * 5 + i, none⟩ = x.cells[i]? := by
  obtain ⟨A', c', e, -, -, -, r⟩ := own_form h.a
  injection e with e1 e2 e3
  subst e1
  exact Rd.el Nt.cells (fun _ => rfl) r rfl hk
theorem own_bk {w : World} {base g size n : Nat} {e : TypeId} {v : Value} {xs : List Value} (h : w.ownsRow base e size v n xs) (hg : v.ownBlock = some g) : ∃ cs, Bk w g e cs := by
  rcases h.2 with ⟨rfl, _⟩ | ⟨g', cap, cur, rfl, _, hh, _⟩
  · simp [Value.ownBlock] at hg
  · have e1 : g' = g := by simpa [Value.ownBlock] using hg
    subst e1
    exact ⟨cur, hh⟩
/-- a further one -/
theorem NtsIn.push {x : Nt} (h : NtsIn wr b3 B M av xs) (hx : NsIn wr B M x.f ∧ NsIn wr B M x.e) (hg : wr.grownBy w' av.ownBlock) (ho : w'.ownsRow b3 205 5 av' (xs.length + 1) (nets xs ++ [.slice none 0 0, .slice none 0 0, x.f, x.e, .bool x.m])) : NtsIn w' b3 B M av' (xs ++ [x]) := by
  have hs : Sti (fun i => av.ownBlock = some i) wr w' := Sti.of_gr hg (fun i h => h)
  have key : ∀ y, NsIn wr B M y → NsIn w' B M y := fun y hy => hs.ns hy (fun g hg h0 => hy.ne_row h.a (by decide) g h0 hg)
  refine ⟨by rw [List.length_append, nets_snoc]; exact ho, fun y hy => ?_⟩
  rcases List.mem_append.1 hy with hy | hy
  · exact ⟨key _ (h.i y hy).1, key _ (h.i y hy).2⟩
  · simp at hy; subst hy; exact ⟨key _ hx.1, key _ hx.2⟩
/-- blocks of nets of one's own are written -/
theorem PI.sti (h : PI w B nb on0 bh0 f e em pc wr m on bh fi ei xm) (hs : Sti Y wr w') (hY : ∀ i, Y i → w.heap.size + 3 ≤ i) (hT : ∀ i, Y i → ∃ cs, Bk wr i 205 cs) : PI w B nb on0 bh0 f e em pc w' m on bh fi ei xm := by
  have hlt := h.lt
  have hz := h.s.size
  have hn := h.net
  have nsk : ∀ u, NsIn wr B m u → ∀ g, u.ownBlock = some g → ¬ Y g := fun u hu g hg h0 => by obtain ⟨cs, k⟩ := hT g h0; exact hu.ne k (by decide) hg
  have nsk2 : ∀ u, NsIn wr B 256 u → ∀ g, u.ownBlock = some g → ¬ Y g := fun u hu g hg h0 => by obtain ⟨cs, k⟩ := hT g h0; exact hu.ne k (by decide) hg
  refine ⟨⟨hs.bk hn.n (fun h0 => by have := hY _ h0; omega), hn.ron.sti hs (fun g hg h0 => by obtain ⟨cs, k⟩ := hT g h0; exact hn.ron.ne k (by decide) hg) nsk2, hn.rbh.sti hs (fun g hg h0 => by obtain ⟨cs, k⟩ := hT g h0; exact hn.rbh.ne k (by decide) hg) nsk, hn.dj, hn.h⟩, hs.bk h.r (fun h0 => by have := hY _ h0; omega), hs.bk h.p (fun h0 => by have := hY _ h0; omega), hs.bk h.o (fun h0 => by have := hY _ h0; omega), hs.ns h.nfi (nsk _ h.nfi), hs.ns h.nei (nsk _ h.nei), h.s.trans hs (fun i hi => .inr (by have := hY _ hi; omega)), h.no, h.nh, h.lt, h.bw⟩
/-- what stands behind a place is set -/
theorem PI.putBh {g c k : Nat} {u : Value} (h : PI w B nb on0 bh0 f e em pc wr m on (.slice (some ⟨g, 0, none⟩) m c) fi ei xm) (hk : k < m) (hu : NsIn wr B m u) : PI w B nb on0 bh0 f e em pc (wr.setCell ⟨g, k, none⟩ u) m on (.slice (some ⟨g, 0, none⟩) m c) fi ei xm := by
  have hn := h.net
  have hs : Sti (fun i => (Value.slice (some ⟨g, 0, none⟩) m c).ownBlock = some i) wr (wr.setCell ⟨g, k, none⟩ u) := Sti.set_ (Y := fun i => (Value.slice (some ⟨g, 0, none⟩) m c).ownBlock = some i) (p := ⟨g, k, none⟩) (Sti.refl _ wr) (.inl (show (Value.slice (some ⟨g, 0, none⟩) m c).ownBlock = some g from rfl)) u
  have nsk : ∀ M u, NsIn wr B M u → ∀ g', u.ownBlock = some g' → ¬ (Value.slice (some ⟨g, 0, none⟩) m c).ownBlock = some g' := fun M u hu g' hg h0 => hu.ne_rws hn.rbh g' h0 hg
  refine ⟨⟨hs.bk hn.n (hn.rbh.ne hn.n (by decide)), hn.ron.sti hs (fun g' hg h0 => hn.dj g' hg h0) (nsk 256), hn.rbh.put hk hu, hn.dj, hn.h⟩, hs.bk h.r (hn.rbh.ne h.r (by decide)), hs.bk h.p (hn.rbh.ne h.p (by decide)), hs.bk h.o (hn.rbh.ne h.o (by decide)), hs.ns h.nfi (nsk m _ h.nfi), hs.ns h.nei (nsk m _ h.nei), h.s.trans hs (fun i hi => ?_), h.no, h.nh, h.lt, h.bw⟩
  rcases h.nh i hi with h3 | h3
  · exact .inl (.inr (.inr h3))
  · exact .inr h3
/-- behind a seq of another net of one's own -/
theorem PI.seqx {xb : Nat} (h : PI w B nb on0 bh0 f e em pc wr m on bh fi ei xm) (hx : w.heap.size + 3 ≤ xb) {cs : Array Value} (kx : Bk wr xb 205 cs) (hr : Rws w' B m bh m) (hs : Sti (fun i => i = xb ∨ bh.ownBlock = some i) wr w') : PI w B nb on0 bh0 f e em pc w' m on bh fi ei xm := by
  have hlt := h.lt
  have hz := h.s.size
  have hn := h.net
  have nsk : ∀ M u, NsIn wr B M u → ∀ g', u.ownBlock = some g' → ¬ (g' = xb ∨ bh.ownBlock = some g') := fun M u hu g' hg h0 => by
    rcases h0 with h0 | h0
    · subst h0; exact hu.ne kx (by decide) hg
    · exact hu.ne_rws hn.rbh g' h0 hg
  refine ⟨⟨hs.bk hn.n ?_, hn.ron.sti hs ?_ (nsk 256), hr, hn.dj, hn.h⟩, hs.bk h.r ?_, hs.bk h.p ?_, hs.bk h.o ?_, hs.ns h.nfi (nsk m _ h.nfi), hs.ns h.nei (nsk m _ h.nei), h.s.trans hs ?_, h.no, h.nh, h.lt, h.bw⟩
  · rintro (h0 | h0)
    · omega
    · exact hn.rbh.ne hn.n (by decide) h0
  · rintro g hg (h0 | h0)
    · subst h0; exact hn.ron.ne kx (by decide) hg
    · exact hn.dj g hg h0
  · rintro (h0 | h0)
    · omega
    · exact hn.rbh.ne h.r (by decide) h0
  · rintro (h0 | h0)
    · omega
    · exact hn.rbh.ne h.p (by decide) h0
  · rintro (h0 | h0)
    · omega
    · exact hn.rbh.ne h.o (by decide) h0
  · rintro i (h0 | h0)
    · exact .inr (by omega)
    · rcases h.nh i h0 with h3 | h3
      · exact .inl (.inr (.inr h3))
      · exact .inr h3
end
theorem loop_put {w w6 wr w7 : World} {B nb m xb g c k b3 : Nat} {on0 bh0 f e on fi ei av u v : Value} {em xm : Bool} {pc xc : Array Value} {xs : List Nt} (hI : PI w B nb on0 bh0 f e em pc wr m on (.slice (some ⟨g, 0, none⟩) m c) fi ei xm) (hN : NtsIn wr b3 B m av xs) (kx : Bk wr xb 205 xc) (hx : NsIn wr B m v) (hs : Sti (fun i => (Value.slice (some ⟨g, 0, none⟩) m c).ownBlock = some i) w6 wr) (hb : Below wr.heap.size wr w7) (hk : k < m) (hu : NsIn w7 B m u) :
    PI w B nb on0 bh0 f e em pc (w7.setCell ⟨g, k, none⟩ u) m on (.slice (some ⟨g, 0, none⟩) m c) fi ei xm ∧ NtsIn (w7.setCell ⟨g, k, none⟩ u) b3 B m av xs ∧ Bk (w7.setCell ⟨g, k, none⟩ u) xb 205 xc ∧ NsIn (w7.setCell ⟨g, k, none⟩ u) B m v ∧ Sti (fun i => (Value.slice (some ⟨g, 0, none⟩) m c).ownBlock = some i) w6 (w7.setCell ⟨g, k, none⟩ u) := by
  have hI7 := hI.below hb
  obtain ⟨vs7, hvs7, -⟩ := id hI7.net.rbh
  have hsg : Sti (fun i => (Value.slice (some ⟨g, 0, none⟩) m c).ownBlock = some i) w7 (w7.setCell ⟨g, k, none⟩ u) := Sti.set_ (Y := fun i => (Value.slice (some ⟨g, 0, none⟩) m c).ownBlock = some i) (p := ⟨g, k, none⟩) (Sti.refl _ w7) (.inl (show (Value.slice (some ⟨g, 0, none⟩) m c).ownBlock = some g from rfl)) u
  have hN7 := hN.below hb
  have hx7 := hx.below hb
  exact ⟨hI7.putBh hk hu, hN7.sti hsg (fun g' hg h0 => hown_type hN7.a hvs7 (by decide) g' h0 hg) (fun u hu g' hg h0 => hu.ne_row hvs7 (by decide) g' h0 hg), hsg.bk (kx.ext hb) (own_ne hvs7 (kx.ext hb) (by decide)), hsg.ns hx7 (fun g' hg h0 => hx7.ne_row hvs7 (by decide) g' h0 hg), (hs.trans (Sti.of_below (Y := fun _ => False) hb) (fun i hi => hi.elim)).trans hsg (fun i hi => .inl hi)⟩
theorem nts_seq {w wr w' : World} {B nb m xb : Nat} {on0 bh0 f e on bh fi ei av : Value} {em xm : Bool} {pc xc : Array Value} {xs : List Nt} (hI : PI w B nb on0 bh0 f e em pc wr m on bh fi ei xm) (hN : NtsIn wr (w.heap.size + 3) B m av xs) (hs : Sti (fun i => i = xb ∨ bh.ownBlock = some i) wr w') (hx : xb = w.heap.size + 2 ∨ av.ownBlock ≠ some xb) (kx : Bk wr xb 205 xc) : NtsIn w' (w.heap.size + 3) B m av xs := by
  obtain ⟨vs, hv, -⟩ := id hI.net.rbh
  refine hN.sti hs ?_ ?_
  · rintro g hg (h0 | h0)
    · subst h0
      rcases hx with h1 | h1
      · have := own_ge hN.a g hg; omega
      · exact h1 hg
    · exact hown_type hN.a hv (by decide) g h0 hg
  · rintro u hu g hg (h0 | h0)
    · subst h0; exact hu.ne kx (by decide) hg
    · exact hu.ne_row hv (by decide) g h0 hg
theorem tail_put {w w7 : World} {B nb m xb tb : Nat} {on0 bh0 f e on bh fi ei av x0 x1 x4 xf xe t0 t1 t2 t3 t4 : Value} {em xm : Bool} {pc : Array Value} {xs : List Nt} (hI : PI w B nb on0 bh0 f e em pc w7 m on bh fi ei xm) (hN : NtsIn w7 (w.heap.size + 3) B m av xs) (kx : Bk w7 xb 205 #[x0, x1, xf, xe, x4]) (kt : Bk w7 tb 205 #[t0, t1, t2, t3, t4]) (hxb : w.heap.size + 3 ≤ xb) (htb : w.heap.size + 3 ≤ tb) (hne : xb ≠ tb) (hax : av.ownBlock ≠ some xb) (hat : av.ownBlock ≠ some tb) (hf : NsIn w7 B m xf) (he : NsIn w7 B m xe) :
    PI w B nb on0 bh0 f e em pc (set5 (w7.setCell ⟨xb, 4, none⟩ (.bool true)) tb x0 x1 xf xe (.bool true)) m on bh fi ei xm ∧ NtsIn (set5 (w7.setCell ⟨xb, 4, none⟩ (.bool true)) tb x0 x1 xf xe (.bool true)) (w.heap.size + 3) B m av xs ∧ Bk (set5 (w7.setCell ⟨xb, 4, none⟩ (.bool true)) tb x0 x1 xf xe (.bool true)) tb 205 #[x0, x1, xf, xe, .bool true] ∧ NsIn (set5 (w7.setCell ⟨xb, 4, none⟩ (.bool true)) tb x0 x1 xf xe (.bool true)) B m xf ∧ NsIn (set5 (w7.setCell ⟨xb, 4, none⟩ (.bool true)) tb x0 x1 xf xe (.bool true)) B m xe := by
  have h1 : Sti (fun i => i = xb ∨ i = tb) w7 (w7.setCell ⟨xb, 4, none⟩ (.bool true)) := Sti.set_ (Y := fun i => i = xb ∨ i = tb) (p := ⟨xb, 4, none⟩) (Sti.refl _ w7) (.inl (.inl rfl)) _
  have hs := h1.trans (set5_sti (w7.setCell ⟨xb, 4, none⟩ (.bool true)) tb x0 x1 xf xe (.bool true)) (fun i hi => .inl (.inr hi))
  have kt1 : Bk (w7.setCell ⟨xb, 4, none⟩ (.bool true)) tb 205 #[t0, t1, t2, t3, t4] := kt.far (p := ⟨xb, 4, none⟩) (fun e => hne e.symm) _
  have nsk : ∀ u, NsIn w7 B m u → ∀ g, u.ownBlock = some g → ¬ (g = xb ∨ g = tb) := by
    rintro u hu g hg (h0 | h0)
    · subst h0; exact hu.ne kx (by decide) hg
    · subst h0; exact hu.ne kt (by decide) hg
  refine ⟨hI.sti hs ?_ ?_, hN.sti hs ?_ nsk, set5_bk kt1 _ _ _ _ _, hs.ns hf (nsk _ hf), hs.ns he (nsk _ he)⟩
  · rintro i (h0 | h0) <;> omega
  · rintro i (h0 | h0)
    · subst h0; exact ⟨_, kx⟩
    · subst h0; exact ⟨_, kt⟩
  · rintro g hg (h0 | h0)
    · subst h0; exact hax hg
    · subst h0; exact hat hg
set_option maxRecDepth 100000 in
set_option maxHeartbeats 16000000 in
theorem part_times (w00 : World) (pb n c mb ec : Nat) (A EA : Option Addr) (l : List Pt) (mg : List Mg) (i : Nat) (p : Pt) (hpi : l[i]? = some p) (hk : p.k = 4) (hp : Parts w00 pb (.slice A n c) n l) (hn : n ≤ 1000) (hg : MgsIn w00 mb (.slice EA mg.length ec) mg) (hgl : mg.length ≤ 100000) (ih : ∀ i', i' < i → PartAny w00 pb n c mb ec A EA l mg i') : PartAny w00 pb n c mb ec A EA l mg i := by
  intro nb m on bh f e em w hbw hnet hm
  have hzw := hbw.size
  have hok := hp.ok i p hpi
  have hin : i < n := by have := hp.len; have := (List.getElem?_eq_some_iff.1 hpi).1; omega
  have hkown := own_below (hp.own i p hpi) hbw
  have hkl : p.ks.length = p.m := by have := hkown.1; simpa [nts] using this
  have hmn := mn_eq hpi hok.kid
  obtain ⟨ab, ao, rfl, hab, hcc⟩ := (hp.below hbw).at_ hpi
  have c0 : w.cell? ⟨ab, ao + i * 5, none⟩ = some (.int .i64 p.k) := hcc 0 (by omega)
  have c1 : w.cell? ⟨ab, ao + i * 5 + 1, none⟩ = some (.int .i64 p.lo) := hcc 1 (by omega)
  have c2 : w.cell? ⟨ab, ao + i * 5 + 2, none⟩ = some (.int .i64 p.hi) := hcc 2 (by omega)
  have c3 : w.cell? ⟨ab, ao + i * 5 + 3, none⟩ = some (.string p.nm) := hcc 3 (by omega)
  have c4 : w.cell? ⟨ab, ao + i * 5 + 4, none⟩ = some (.slice p.A p.m p.c) := hcc 4 (by omega)
  unfold tms at hmn
  obtain ⟨pk, plo, phi, pnm, pA, pm, pc, pks, ps⟩ := p
  obtain ⟨⟨k1, k2⟩, ⟨lo1, lo2⟩, ⟨hi1, hi2⟩, nm1, hone, -, m1, kid1⟩ := hok
  dsimp only at *
  have HP := Lib.hid hp
  have HG := Lib.hid hg
  have HKO := Lib.hid hkown
  have HKL := Lib.hid hkl
  have HKID := Lib.hid kid1
  have IH := Lib.hid ih
  have HMN := Lib.hid hmn
  have HNET := Lib.hid hnet
  have HONE := Lib.hid hone
  have HM := Lib.hid hm
  have i0 : (0 : Int) ≤ i := by omega
  have i1 : (i : Int) < n := by omega
  have HK := Lib.hid hk
  clear hp hkown hkl kid1 ih hcc hpi hmn hone hg hnet hk hm
  have HGE := Lib.hid (And.intro HNET.out.ron.ge HNET.out.rbh.ge)
  have hky : ∀ g, (Pt.v ⟨pk, plo, phi, pnm, pA, pm, pc, pks, ps⟩).ownBlock = some g → ¬ (g = nb ∨ on.ownBlock = some g ∨ bh.ownBlock = some g) := by
    rintro g hg (h0 | h0 | h0)
    · subst h0; exact own_ne HKO.out HNET.out.n (by decide) hg
    · obtain ⟨vs, hv, -⟩ := id HNET.out.ron; exact hown_type HKO.out hv (by decide) g h0 hg
    · obtain ⟨vs, hv, -⟩ := id HNET.out.rbh; exact hown_type HKO.out hv (by decide) g h0 hg
  have HKY := Lib.hid hky
  have hnbl := def_lt' HNET.out.n
  clear hky
  have hpm : pm = 1 := HONE.out HK.out
  subst hpm
  obtain ⟨x, hx⟩ : ∃ x, pks[0]? = some x := ⟨_, List.getElem?_eq_getElem (by rw [HKL.out]; omega)⟩
  have hpks : pks = [x] := by
    have := HKL.out
    match pks, this, hx with
    | [y], _, h => simp at h; rw [h]
  have hxi := HKID.out x (List.mem_of_getElem? hx)
  obtain ⟨t, ht⟩ : ∃ t : Nat, t = (if phi < 0 then (max plo 1).toNat else phi.toNat) := ⟨_, rfl⟩
  have htl : t ≤ 20 := by rw [ht]; split <;> omega
  obtain ⟨X, hX⟩ : ∃ X, X = mn l x := ⟨_, rfl⟩
  have hmt : mn l i = X * t := by rw [HMN.out, if_neg (by rw [HK.out]; omega), if_pos HK.out, ← ht, hpks, hX]; simp
  have HT := Lib.hid (show (t : Int) = if phi < 0 then max plo 1 else phi by rw [ht]; split <;> omega)
  have HX := Lib.hid hX
  have hbnd : m + X * t ≤ 256 := by have := HM.out; rw [hmt] at this; exact this
  have HB := Lib.hid hbnd
  obtain ⟨kb, kj, rfl, hkc⟩ := nts_cell HKO.out (show 0 < 1 by omega)
  have hk0 := hkc 0 x hx
  rw [Nat.add_zero] at hk0
  have HK0 := Lib.hid hk0
  have HMT := Lib.hid hmt
  have x0 : (0 : Int) ≤ x := by omega
  have x1 : (x : Int) < n := by omega
  have e1 : (pk == 1) = false := by rw [HK.out]; rfl
  have e3 : (pk == 3) = false := by rw [HK.out]; rfl
  have e2 : (pk == 2) = false := by rw [HK.out]; rfl
  clear hx hpks ht hX hmt hbnd hkc hk0 HMN HKL HKID
  go_enter Tryz.func157, Tryz.ntmps157
  go_upto_region 3 with fail
  have kr : Bk (((w.alloc (.cells zeroT 205)).alloc (.cells #[.int .i64 pk, .int .i64 plo, .int .i64 phi, .string pnm, .slice (some ⟨kb, kj, none⟩) 1 pc] 192)).alloc (.cells zeroT 205)) w.heap.size 205 zeroT := ((Bk.new w _ _).alloc _).alloc _
  have kp : Bk (((w.alloc (.cells zeroT 205)).alloc (.cells #[.int .i64 pk, .int .i64 plo, .int .i64 phi, .string pnm, .slice (some ⟨kb, kj, none⟩) 1 pc] 192)).alloc (.cells zeroT 205)) (w.heap.size + 1) 192 #[.int .i64 pk, .int .i64 plo, .int .i64 phi, .string pnm, .slice (some ⟨kb, kj, none⟩) 1 pc] := (Bk.made _ _ (by simp)).alloc _
  have ko : Bk (((w.alloc (.cells zeroT 205)).alloc (.cells #[.int .i64 pk, .int .i64 plo, .int .i64 phi, .string pnm, .slice (some ⟨kb, kj, none⟩) 1 pc] 192)).alloc (.cells zeroT 205)) (w.heap.size + 2) 205 zeroT := Bk.made _ _ (by simp)
  have hb0 : Below w.heap.size w (((w.alloc (.cells zeroT 205)).alloc (.cells #[.int .i64 pk, .int .i64 plo, .int .i64 phi, .string pnm, .slice (some ⟨kb, kj, none⟩) 1 pc] 192)).alloc (.cells zeroT 205)) := belowA
  generalize ((w.alloc (.cells zeroT 205)).alloc (.cells #[.int .i64 pk, .int .i64 plo, .int .i64 phi, .string pnm, .slice (some ⟨kb, kj, none⟩) 1 pc] 192)).alloc (.cells zeroT 205) = w0 at *
  have hI0 := Lib.hid (PI.zero HNET.out hzw hb0 kr kp ko)
  clear kr kp ko hb0 c0 c1 c2 c3 c4 HNET
  obtain ⟨s0, s1, s2, s3, s4⟩ := bk5 hI0.out.o
  obtain ⟨q0, q1, q2, q3, q4⟩ := bk5 hI0.out.p
  obtain ⟨r0, r1, r2, r3, r4⟩ := bk5 (show Bk _ w.heap.size 205 zeroT from hI0.out.r)
  have sf := hI0.out.o.frozen; have sl := def_lt' hI0.out.o
  have rf := hI0.out.r.frozen; have rl := def_lt' hI0.out.r
  have hkx : ∀ W, Sti (fun i => i = nb ∨ on.ownBlock = some i ∨ bh.ownBlock = some i) w W → W.cell? ⟨kb, kj, none⟩ = some (.int .i64 (x : Int)) := fun W hW => by
    have hkl0 : kb < w.heap.size := block_lt_of HK0.out
    have h1 := hW.block kb hkl0 (HKY.out kb rfl)
    exact (World.cell?_of_block (a := ⟨kb, kj, none⟩) h1).trans HK0.out
  have HKX := Lib.hid hkx
  clear hkx
  have hI1 := Lib.hid (hI0.out.set 4 (.bool true) (hI0.out.o.set_ 4 _) hI0.out.nfi hI0.out.nei)
  go_upto_region 20 with fail
  clear hI0
  clear s0 s1 s2 s3 s4 q0 q1 q2 q3 q4 r0 r1 r2 r3 r4 sf sl rf rl
  generalize w0.setCell ⟨w.heap.size + 2, 4, none⟩ (.bool true) = w1 at *
  obtain ⟨s0, s1, s2, s3, s4⟩ := bk5 hI1.out.o
  obtain ⟨q0, q1, q2, q3, q4⟩ := bk5 hI1.out.p
  obtain ⟨r0, r1, r2, r3, r4⟩ := bk5 (show Bk _ w.heap.size 205 zeroT from hI1.out.r)
  have sf := hI1.out.o.frozen; have sl := def_lt' hI1.out.o
  have rf := hI1.out.r.frozen; have rl := def_lt' hI1.out.r
  go_upto_if 133 with fail
  go_cut [16] (fun v wx => v = .int .i64 t ∧ wx = w1)
  case first =>
    by_cases hneg : phi < 0
    · have ht := HT.out
      rw [if_pos hneg] at ht
      have HTT := Lib.hid ht
      clear ht
      by_cases hlo : plo < 1
      all_goals
        go_wp2
        go_meet
        exact ⟨by congr 1; have := HTT.out; omega, rfl⟩
    · have ht := HT.out
      rw [if_neg hneg] at ht
      have HTT := Lib.hid ht
      clear ht
      go_wp2
      go_meet
      exact ⟨by congr 1; have := HTT.out; omega, rfl⟩
  case rest =>
  obtain ⟨rfl, rfl⟩ := hcut
  clear s0 s1 s2 s3 s4 q0 q1 q2 q3 q4 r0 r1 r2 r3 r4 sf sl rf rl
  go_wp2
  go_loopw [17, 18] (fun av j wr => ∃ (k M : Nat) (on' bh' : Value) (xs : List Nt), k ≤ t ∧ j = .int .i64 k ∧ Hid (M = m + X * k ∧ xs.length = k) ∧ Hid (PI w w00.heap.size nb on bh f e em #[.int .i64 pk, .int .i64 plo, .int .i64 phi, .string pnm, .slice (some ⟨kb, kj, none⟩) 1 pc] wr M on' bh' (.slice none 0 0) (.slice none 0 0) true) ∧ Hid (NtsIn wr (w.heap.size + 3) w00.heap.size M av xs)) (fun _ j _ => t - (intOf j).toNat)
  case atStart => exact ⟨0, m, on, bh, [], by omega, rfl, Lib.hid ⟨by simp, rfl⟩, hI1, Lib.hid (NtsIn.nil _ _ _ _)⟩
  case round =>
    clear hI1
    obtain ⟨k, M, on', bh', xs, hk, rfl, hM, hI, hN⟩ := hrel
    rename World => wo
    obtain ⟨Av, cv, rfl, -, -, -, -⟩ := own_form hN.out.a
    obtain ⟨s0, s1, s2, s3, s4⟩ := bk5 hI.out.o
    obtain ⟨q0, q1, q2, q3, q4⟩ := bk5 hI.out.p
    obtain ⟨r0, r1, r2, r3, r4⟩ := bk5 (show Bk _ w.heap.size 205 zeroT from hI.out.r)
    have sf := hI.out.o.frozen; have sl := def_lt' hI.out.o
    have rf := hI.out.r.frozen; have rl := def_lt' hI.out.r
    have hkr0 := HKX.out wo hI.out.s
    have hb3 : w.heap.size + 3 ≤ wo.heap.size := by omega
    have hkbl := block_lt_of hkr0
    have hbr := hI.out.s.below (B := w00.heap.size) (by rintro j (h0 | h0 | h0); (· have := hI.out.net.h; omega); (· exact HGE.out.1 j h0); (· exact HGE.out.2 j h0)) hzw
    have hbrw : Below w00.heap.size w00 wo := hbw.trans hbr
    have hzo := hbrw.size
    by_cases hlt : k < t
    · have e4 : (k : Int) < t := by omega
      have hXk : M + mn l x = m + X * (k + 1) := by rw [Nat.mul_succ, ← HX.out]; have := hM.out.1; omega
      have hle : X * (k + 1) ≤ X * t := Nat.mul_le_mul_left X hlt
      have hbound : M + mn l x ≤ 256 := by have := HB.out; omega
      have hih := Lib.hid (IH.out x hxi nb M on' bh' f e em wo hbrw hI.out.net hbound)
      have HXK := Lib.hid hXk
      have HBD := Lib.hid hbound
      clear hXk hle
      go_wp2_with (go_at_call 157; fail)
      refine hih.out.mono ?_
      rintro e9 w5 ⟨xfi, xei, xxm, on2, bh2, rfl, hn5, hxf5, hxe5, hs5, ho5, hh5⟩
      have hI5 := Lib.hid (hI.out.rec_ hn5 hs5 ho5 hh5)
      have hz5 := hs5.size
      have hN5 : NtsIn w5 (w.heap.size + 3) w00.heap.size (M + mn l x) (.slice Av xs.length cv) xs := by
        refine NtsIn.mono (hN.out.sti hs5 ?_ ?_) (Nat.le_add_right _ _)
        · rintro g hg (h0 | h0 | h0)
          · have := own_ge hN.out.a g hg; omega
          · obtain ⟨vs, hv, -⟩ := id hI.out.net.ron; exact hown_type hN.out.a hv (by decide) g h0 hg
          · obtain ⟨vs, hv, -⟩ := id hI.out.net.rbh; exact hown_type hN.out.a hv (by decide) g h0 hg
        · rintro u hu g hg (h0 | h0 | h0)
          · subst h0; exact hu.ne hI.out.net.n (by decide) hg
          · exact hu.ne_rws hI.out.net.ron g h0 hg
          · exact hu.ne_rws hI.out.net.rbh g h0 hg
      obtain ⟨Ag, cg, lg, rfl, -, -, -⟩ := hxf5.form
      obtain ⟨Ah, ch, lh, rfl, hlh, -, hoh⟩ := hxe5.form
      have hlh2 := hlh.len
      generalize lg.length = gn at *
      obtain ⟨hnn, hhn⟩ : ∃ hnn, hnn = lh.length := ⟨_, rfl⟩
      rw [← hhn] at hxe5 hoh hlh2
      have HHN := Lib.hid hhn
      have HLH := Lib.hid hlh
      have HX5 := Lib.hid (And.intro hxf5 (And.intro hxe5 hoh))
      have HN5 := Lib.hid hN5
      rw [← hhn]
      clear hn5 hs5 ho5 hh5 hxf5 hxe5 hI hih hN hN5 hkr0 hhn hlh hoh hkbl
      clear s0 s1 s2 s3 s4 q0 q1 q2 q3 q4 r0 r1 r2 r3 r4 sf sl rf rl
      go_upto_region 35 with fail
      have hb6 : Below w5.heap.size w5 (w5.alloc (.cells #[.slice none 0 0, .slice none 0 0, .slice Ag gn cg, .slice Ah hnn ch, .bool xxm] 205)) := belowA
      have kx := Bk.new w5 205 #[.slice none 0 0, .slice none 0 0, .slice Ag gn cg, .slice Ah hnn ch, .bool xxm]
      generalize w5.alloc (.cells #[.slice none 0 0, .slice none 0 0, .slice Ag gn cg, .slice Ah hnn ch, .bool xxm] 205) = w6 at *
      have hI6 := Lib.hid (hI5.out.below hb6)
      have HN6 := Lib.hid (HN5.out.below hb6)
      have HX6 := Lib.hid (And.intro (HX5.out.1.below hb6) (And.intro (HX5.out.2.1.below hb6) (own_below HX5.out.2.2 hb6)))
      have hav : ∀ g, (Value.slice Av xs.length cv).ownBlock = some g → g ≠ w5.heap.size := fun g hg => by have := own_lt HN5.out.a g hg; omega
      have HAV := Lib.hid hav
      have hz6 := hb6.size
      clear hI5 HX5 HN5 hb6 hav
      obtain ⟨s0, s1, s2, s3, s4⟩ := bk5 hI6.out.o
      obtain ⟨q0, q1, q2, q3, q4⟩ := bk5 hI6.out.p
      obtain ⟨r0, r1, r2, r3, r4⟩ := bk5 (show Bk _ w.heap.size 205 zeroT from hI6.out.r)
      have sf := hI6.out.o.frozen; have sl := def_lt' hI6.out.o
      have rf := hI6.out.r.frozen; have rl := def_lt' hI6.out.r
      obtain ⟨y0, y1, y2, y3, y4⟩ := bk5 kx
      go_cut [158] (fun v wx => ∃ bb : Bool, v = .bool bb ∧ wx = w6)
      case first =>
        by_cases hneg : phi < 0
        · go_wp2
          go_meet
          exact ⟨_, rfl, rfl⟩
        · go_wp2
          go_meet
          exact ⟨_, rfl, rfl⟩
      case rest =>
      obtain ⟨bb, rfl, hw6⟩ := hcut
      replace hw6 := hw6.symm
      subst hw6
      go_upto_if 158 with fail
      go_cut [20] (fun _ wx => Hid (PI w w00.heap.size nb on bh f e em #[.int .i64 pk, .int .i64 plo, .int .i64 phi, .string pnm, .slice (some ⟨kb, kj, none⟩) 1 pc] wx (M + mn l x) on2 bh2 (.slice none 0 0) (.slice none 0 0) true) ∧ Hid (NtsIn wx (w.heap.size + 3) w00.heap.size (M + mn l x) (.slice Av xs.length cv) xs) ∧ Bk wx w5.heap.size 205 #[.slice none 0 0, .slice none 0 0, .slice Ag gn cg, .slice Ah hnn ch, .bool xxm] ∧ Hid (NsIn wx w00.heap.size (M + mn l x) (.slice Ag gn cg) ∧ NsIn wx w00.heap.size (M + mn l x) (.slice Ah hnn ch)) ∧ w5.heap.size < wx.heap.size)
      case first =>
        cases bb with
        | false =>
          go_wp2
          go_meet
          exact ⟨hI6, HN6, kx, Lib.hid ⟨HX6.out.1, HX6.out.2.1⟩, def_lt' kx⟩
        | true =>
          obtain ⟨Ab2, cb2, rfl⟩ := hI6.out.net.rbh.form
          obtain ⟨vsb, hvb, -⟩ := id hI6.out.net.rbh
          have hohs : ∀ g, (Value.slice Ah hnn ch).ownBlock = some g → ¬ (Value.slice Ab2 (M + mn l x) cb2).ownBlock = some g := fun g hg h0 => hown_type HX6.out.2.2 hvb (by decide) g h0 hg
          have HOH := Lib.hid hohs
          clear hohs hvb
          go_wp2
          go_loopw [20] (fun j wr => ∃ q : Nat, q ≤ hnn ∧ j = .int .i64 q ∧ Hid ((PI w w00.heap.size nb on bh f e em #[.int .i64 pk, .int .i64 plo, .int .i64 phi, .string pnm, .slice (some ⟨kb, kj, none⟩) 1 pc] wr (M + mn l x) on2 (.slice Ab2 (M + mn l x) cb2) (.slice none 0 0) (.slice none 0 0) true) ∧ (NtsIn wr (w.heap.size + 3) w00.heap.size (M + mn l x) (.slice Av xs.length cv) xs) ∧ Bk wr w5.heap.size 205 #[.slice none 0 0, .slice none 0 0, .slice Ag gn cg, .slice Ah hnn ch, .bool xxm] ∧ NsIn wr w00.heap.size (M + mn l x) (.slice Ag gn cg) ∧ Sti (fun i => (Value.slice Ab2 (M + mn l x) cb2).ownBlock = some i) w6 wr)) (fun j _ => hnn - (intOf j).toNat)
          case atStart => exact ⟨0, by omega, rfl, Lib.hid ⟨hI6.out, HN6.out, kx, HX6.out.1, Sti.refl _ _⟩⟩
          case round =>
            clear s0 s1 s2 s3 s4 q0 q1 q2 q3 q4 r0 r1 r2 r3 r4 sf sl rf rl
            clear y0 y1 y2 y3 y4
            obtain ⟨q, hq, rfl, hL⟩ := hrel
            have hIL := Lib.hid hL.out.1
            have hNL := Lib.hid hL.out.2.1
            have kxL := hL.out.2.2.1
            have hxL := Lib.hid hL.out.2.2.2.1
            have hsL := Lib.hid hL.out.2.2.2.2
            clear hL
            obtain ⟨y0, y1, y2, y3, y4⟩ := bk5 kxL
            obtain ⟨n0, n1, n2, n3, n4⟩ := bk5 hIL.out.net.n
            have nl := def_lt' hIL.out.net.n
            by_cases hql : q < hnn
            · have e5 : (q : Int) < hnn := by omega
              have hrdr : Rd wr wr.heap.size 1 Ah hnn (nts lh) := by
                obtain ⟨A', c', e1, -, -, -, r⟩ := own_form (hsL.out.own HX6.out.2.2 HOH.out)
                injection e1 with e1 e2 e3
                subst e1
                exact r
              obtain ⟨eb, eo, t', rfl, heb, ht, htc⟩ := hrdr.nt_at hql
              have htm := HLH.out.2 t' (List.mem_of_getElem? ht)
              obtain ⟨g, u, rfl, hBg, hgw, huc, hu, hgf⟩ := hIL.out.net.rbh.at_ htm
              obtain ⟨Au, cu, lu, rfl, -, -, -⟩ := hu.form
              have t0 : (0 : Int) ≤ t' := by omega
              have t1 : (t' : Int) < (M + mn l x : Nat) := by omega
              have t1b : (t' : Int) < (M : Int) + (mn l x : Int) := by omega
              have k0 : (0 : Int) ≤ q := by omega
              have hF : ∀ W, Below wr.heap.size wr W → W.cell? ⟨nb, 1, none⟩ = some (.slice (some ⟨g, 0, none⟩) (M + mn l x) cb2) ∧ W.cell? ⟨w5.heap.size, 3, none⟩ = some (.slice (some ⟨eb, eo, none⟩) hnn ch) ∧ W.cell? ⟨w5.heap.size, 2, none⟩ = some (.slice Ag gn cg) ∧ W.cell? ⟨eb, eo + q, none⟩ = some (.int .i64 t') ∧ W.cell? ⟨g, t', none⟩ = some (.slice Au lu.length cu) := fun W h => ⟨(hIL.out.net.n.ext h).cell 1, (kxL.ext h).cell 3, (kxL.ext h).cell 2, (h.cell (by simpa using heb)).trans htc, (h.cell (by simpa using hgw)).trans huc⟩
              have HF := Lib.hid hF
              have HU := Lib.hid hu
              have hbB : w00.heap.size ≤ wr.heap.size := by have := hIL.out.s.size; omega
              clear hF hrdr ht
              generalize lu.length = un at *
              go_upto_region 39 with fail
              clear y0 y1 y2 y3 y4 n0 n1 n2 n3 n4 nl
              refine wp_normal ?_
              refine region_L (S := fun W => Below wr.heap.size wr W) [24] (by kernel_rfl) (Below.refl _ _).drew (fun hHeld => ?_)
              (refine tkL 0 ?_; refine tkL 1 ?_; refine tkL 2 ?_; refine tkL 3 ?_; refine tkL 4 ?_; refine tkL 5 ?_; refine tkL 6 ?_; refine tkL 7 ?_; refine tkL 8 ?_; refine tkL 9 ?_; refine tkL 10 ?_; refine tkL 11 ?_; refine tkL 12 ?_; refine tkL 13 ?_; refine tkL 14 ?_; refine tkL 15 ?_; refine tkL 16 ?_; refine tkL 17 ?_; refine tkL 18 ?_; refine tkL 19 ?_; refine tkL 20 ?_; refine tkL 21 ?_)
              refine nxL 22 (fun K hK => ?_)
              go_simp
              go_at_call 196
              refine (or_any _ _ w00.heap.size w00.heap.size (M + mn l x) _ (by omega) (HU.out.below (w' := wr.drew) (Below.refl _ _).drew) (hxL.out.below (w' := wr.drew) (Below.refl _ _).drew)).mono ?_
              rintro e7 w7 ⟨v7, rfl, hv7, hb7'⟩
              have hb7 : Below wr.heap.size wr w7 := Below.trans (Below.refl _ _).drew hb7'
              have hv7' : NsIn w7 w00.heap.size (M + mn l x) v7 := hv7.mono (Nat.le_refl _) hbB
              have HL8 := Lib.hid (loop_put hIL.out hNL.out kxL hxL.out hsL.out hb7 htm hv7')
              obtain ⟨A7, c7, l7, rfl, -, -, -⟩ := hv7.form
              have hgc7 : w7.cell? ⟨g, t', none⟩ = some (.slice Au un cu) := (hb7.cell (by simpa using hgw)).trans huc
              have hgf7 : w7.frozen? ⟨g, t', none⟩ = false := (hb7.frozen (p := ⟨g, t', none⟩) (by simpa using hgw)).trans (hgf t')
              refine hK.out _ _ hb7 (fun hHeld => ?_)
              clear hK K; refine puL ?_
              (refine tkL 23 ?_)
              refine ltL 24 (fun K hK => ?_)
              go_simp
              refine hK.out _ _ ?_
              refine anyL_done (by kernel_rfl) ?_
              go_wp2
              go_roundw
              case rel => exact ⟨q + 1, by omega, by go_num, HL8⟩
              case measure => simp [intOf]; omega
            · obtain rfl : q = hnn := by omega
              have hxe := hsL.out.ns HX6.out.2.1 HOH.out
              have hxl := def_lt' kxL
              go_wp2
              go_meet
              exact ⟨hIL, hNL, kxL, Lib.hid ⟨hxL.out, hxe⟩, hxl⟩
      case rest =>
      obtain ⟨hI7, HN7, kx7, HX7, hl7⟩ := hcut
      clear s0 s1 s2 s3 s4 q0 q1 q2 q3 q4 r0 r1 r2 r3 r4 sf sl rf rl
      clear y0 y1 y2 y3 y4 HX6 HN6 hI6 kx
      obtain ⟨y0, y1, y2, y3, y4⟩ := bk5 kx7
      have hb37 : w.heap.size + 3 ≤ wc.heap.size := by omega
      have hxl7 : xs.length ≤ 20 := by have := hM.out.2; omega
      have HO7 := Lib.hid HN7.out.a
      go_wp2_with (at_builtin; ((refine app_one Tryz.underlying317 info_nt rfl (by decide) wc (w.heap.size + 3) _ xs.length _ HO7.out (by unfold maxLen; omega) (by omega) (by omega) _ rfl (by simp [Value.oneCell']) rfl _ _ rfl rfl rfl ?_); intro g9 cap9 w9 hown9 hgr9 hat9 hlt9))
      have hs9 : Sti (fun i => (Value.slice Av xs.length cv).ownBlock = some i) wc w9 := Sti.of_gr hgr9 (fun i h => h)
      have hI9 := Lib.hid (hI7.out.sti hs9 (fun i hi => own_ge HO7.out i hi) (fun i hi => own_bk HO7.out hi))
      have hN9 := Lib.hid (HN7.out.push (x := ⟨.slice Ag gn cg, .slice Ah hnn ch, xxm⟩) HX7.out hgr9 hown9)
      go_roundw
      case rel => exact ⟨k + 1, M + mn l x, on2, bh2, _, by omega, by go_num, Lib.hid ⟨HXK.out, by rw [List.length_append]; have h2 := hM.out.2; simp; omega⟩, hI9, hN9⟩
      case measure => simp [intOf]; omega
    · have hkt : k = t := by omega
      subst hkt
      have hMM : M = m + mn l i := by rw [HMT.out]; exact hM.out.1
      have hM256 : M ≤ 256 := by have := HM.out; omega
      have hxsl := hM.out.2
      have HXS := Lib.hid hxsl
      subst hMM
      generalize hMg : m + mn l i = MM at *
      have HMG := Lib.hid hMg
      clear hMg hxsl hM
      obtain ⟨Ab, cb, rfl⟩ := hI.out.net.rbh.form
      obtain ⟨z, hz⟩ : ∃ z : Nat, z = min k plo.toNat := ⟨_, rfl⟩
      have hz1 : z ≤ k := by omega
      have hz2 : (z : Int) ≤ plo := by omega
      have hz3 : z = k ∨ (z : Int) = plo := by omega
      have HZ3 := Lib.hid hz3
      clear hz hz3
      go_wp2
      clear s0 s1 s2 s3 s4 q0 q1 q2 q3 q4 r0 r1 r2 r3 r4 sf sl rf rl
      go_loopw [21] (fun j wr => ∃ (q : Nat) (fi ei : Value) (xm : Bool), q ≤ z ∧ j = .int .i64 q ∧ Hid (PI w w00.heap.size nb on bh f e em #[.int .i64 pk, .int .i64 plo, .int .i64 phi, .string pnm, .slice (some ⟨kb, kj, none⟩) 1 pc] wr MM on' (.slice Ab MM cb) fi ei xm) ∧ Hid (NtsIn wr (w.heap.size + 3) w00.heap.size MM (.slice Av xs.length cv) xs)) (fun j _ => z - (intOf j).toNat)
      case atStart => exact ⟨0, _, _, _, by omega, rfl, hI, hN⟩
      case round =>
        clear hI hN
        obtain ⟨q, fi, ei, xm, hq, rfl, hI, hN⟩ := hrel
        obtain ⟨Af, cf, lf, rfl, -, -, -⟩ := hI.out.nfi.form
        obtain ⟨Ae, ce, le, rfl, -, -, -⟩ := hI.out.nei.form
        generalize lf.length = fn at *
        generalize le.length = en at *
        obtain ⟨s0, s1, s2, s3, s4⟩ := bk5 hI.out.o
        obtain ⟨q0, q1, q2, q3, q4⟩ := bk5 hI.out.p
        obtain ⟨r0, r1, r2, r3, r4⟩ := bk5 (show Bk _ w.heap.size 205 zeroT from hI.out.r)
        have sf := hI.out.o.frozen; have sl := def_lt' hI.out.o
        have rf := hI.out.r.frozen; have rl := def_lt' hI.out.r
        have hbB : w00.heap.size ≤ wr.heap.size := by have := hI.out.s.size; omega
        go_upto_region 42 with fail
        go_cut [202] (fun v wx => v = .bool (decide (q < z)) ∧ wx = wr)
        case first =>
          by_cases h1 : q < z
          · have HD := Lib.hid (show decide (q < z) = true from decide_eq_true h1)
            have f1 : (q : Int) < k := by omega
            have f2 : (q : Int) < plo := by omega
            go_wp2
            go_meet
            exact ⟨by rw [HD.out], rfl⟩
          · have HD := Lib.hid (show decide (q < z) = false from decide_eq_false h1)
            by_cases h2 : q < k
            · have f1 : (q : Int) < k := by omega
              have f2 : ¬ (q : Int) < plo := by have := HZ3.out; omega
              go_wp2
              go_meet
              exact ⟨by rw [HD.out], rfl⟩
            · have f1 : ¬ (q : Int) < k := by omega
              go_wp2
              go_meet
              exact ⟨by rw [HD.out], rfl⟩
        case rest =>
        obtain ⟨rfl, hwc⟩ := hcut
        replace hwc := hwc.symm
        subst hwc
        by_cases h1 : q < z
        · have hd : decide (q < z) = true := decide_eq_true h1
          obtain ⟨y, hy⟩ : ∃ y, xs[q]? = some y := ⟨_, List.getElem?_eq_getElem (by have := HXS.out; omega)⟩
          have hyi := hN.out.i y (List.mem_of_getElem? hy)
          obtain ⟨vb, vo, rfl, hvb, hvc⟩ := hN.out.at_ hy
          obtain ⟨yf, ye, ym⟩ := y
          obtain ⟨Ay, cy, ly, ey, -, -, -⟩ := hyi.1.form
          obtain ⟨Az, cz, lz, ez, -, -, -⟩ := hyi.2.form
          dsimp only at ey ez
          subst ey
          subst ez
          have v0 : wr.cell? ⟨vb, vo + q * 5, none⟩ = some (.slice none 0 0) := hvc 0 (by omega)
          have v1 : wr.cell? ⟨vb, vo + q * 5 + 1, none⟩ = some (.slice none 0 0) := hvc 1 (by omega)
          have v2 : wr.cell? ⟨vb, vo + q * 5 + 2, none⟩ = some (.slice Ay ly.length cy) := hvc 2 (by omega)
          have v3 : wr.cell? ⟨vb, vo + q * 5 + 3, none⟩ = some (.slice Az lz.length cz) := hvc 3 (by omega)
          have v4 : wr.cell? ⟨vb, vo + q * 5 + 4, none⟩ = some (.bool ym) := hvc 4 (by omega)
          have hql : (q : Int) < xs.length := by have := HXS.out; omega
          have hsq := Lib.hid (seq_any w00.heap.size MM nb (w.heap.size + 2) on' _ f e _ _ _ _ _ _ em xm ym wr hM256 hbB (by omega) hI.out.net.n hI.out.o hI.out.net.rbh hI.out.nfi hI.out.nei hyi.1 hyi.2)
          clear hvc hy hyi
          go_wp2_with (go_at_call 197; fail)
          refine hsq.out.mono ?_
          rintro e7 w7 ⟨fi7, ei7, xm7, rfl, k7, hr7, hf7, he7, hs7⟩
          have hI7 := Lib.hid (hI.out.seq k7 hr7 hf7 he7 hs7)
          have hN7 := Lib.hid (nts_seq hI.out hN.out hs7 (.inl rfl) hI.out.o)
          clear k7 hr7 hf7 he7 hs7 hsq
          go_wp2
          go_roundw
          case rel => exact ⟨q + 1, _, _, _, by omega, by go_num, hI7, hN7⟩
          case measure => simp [intOf]; omega
        · rw [decide_eq_false h1]
          rename World => wt
          have hb9 : Below wt.heap.size wt (wt.alloc (.cells #[.slice none 0 0, .slice none 0 0, .slice none 0 0, .slice none 0 0, .bool true] 205)) := belowA
          have kt := Bk.new wt 205 #[.slice none 0 0, .slice none 0 0, .slice none 0 0, .slice none 0 0, .bool true]
          have hlt3 : w.heap.size + 3 ≤ wt.heap.size := by have := def_lt' hI.out.o; omega
          have hav : (Value.slice Av xs.length cv).ownBlock ≠ some wt.heap.size := fun e0 => absurd (own_lt hN.out.a _ e0) (Nat.lt_irrefl _)
          have HAV := Lib.hid hav
          clear hav
          go_upto_region 46 with fail
          clear s0 s1 s2 s3 s4 q0 q1 q2 q3 q4 r0 r1 r2 r3 r4 sf sl rf rl
          generalize wt.alloc (.cells #[.slice none 0 0, .slice none 0 0, .slice none 0 0, .slice none 0 0, .bool true] 205) = w9 at *
          have hI9 := Lib.hid (hI.out.below hb9)
          have hN9 := Lib.hid (hN.out.below hb9)
          have hT9 := Lib.hid (And.intro kt (And.intro (NsIn.nil w9 w00.heap.size MM) (NsIn.nil w9 w00.heap.size MM)))
          clear hI hN hb9 kt
          go_wp2
          go_loopw [23] (fun j wr => ∃ (u : Int) (tf te : Value) (tm : Bool), -1 ≤ u ∧ u < k ∧ j = .int .i64 u ∧ Hid (PI w w00.heap.size nb on bh f e em #[.int .i64 pk, .int .i64 plo, .int .i64 phi, .string pnm, .slice (some ⟨kb, kj, none⟩) 1 pc] wr MM on' (.slice Ab MM cb) (.slice Af fn cf) (.slice Ae en ce) xm) ∧ Hid (NtsIn wr (w.heap.size + 3) w00.heap.size MM (.slice Av xs.length cv) xs) ∧ Hid (Bk wr wt.heap.size 205 #[.slice none 0 0, .slice none 0 0, tf, te, .bool tm] ∧ NsIn wr w00.heap.size MM tf ∧ NsIn wr w00.heap.size MM te)) (fun j _ => (intOf j + 1).toNat)
          case atStart => exact ⟨(k : Int) - 1, _, _, _, by omega, by omega, rfl, hI9, hN9, hT9⟩
          case round =>
            clear hI9 hN9 hT9
            obtain ⟨u, tf, te, tm, hu1, hu2, rfl, hI, hN, hT⟩ := hrel
            obtain ⟨Ag, cg, lg, rfl, -, -, -⟩ := hT.out.2.1.form
            obtain ⟨Ah, ch, lh, rfl, -, -, -⟩ := hT.out.2.2.form
            generalize lg.length = gn at *
            generalize lh.length = hnn at *
            obtain ⟨s0, s1, s2, s3, s4⟩ := bk5 hI.out.o
            obtain ⟨q0, q1, q2, q3, q4⟩ := bk5 hI.out.p
            obtain ⟨r0, r1, r2, r3, r4⟩ := bk5 (show Bk _ w.heap.size 205 zeroT from hI.out.r)
            have sf := hI.out.o.frozen; have sl := def_lt' hI.out.o
            have rf := hI.out.r.frozen; have rl := def_lt' hI.out.r
            obtain ⟨y0, y1, y2, y3, y4⟩ := bk5 hT.out.1
            have tl := def_lt' hT.out.1
            have hbB9 : w00.heap.size ≤ wr.heap.size := by have := hI.out.s.size; omega
            by_cases hge : plo ≤ u
            · obtain ⟨p', rfl⟩ : ∃ p' : Nat, u = (p' : Int) := ⟨u.toNat, by omega⟩
              obtain ⟨y, hy⟩ : ∃ y, xs[p']? = some y := ⟨_, List.getElem?_eq_getElem (by have := HXS.out; omega)⟩
              have hyi := hN.out.i y (List.mem_of_getElem? hy)
              obtain ⟨vb, vo, rfl, hvb, hvc⟩ := hN.out.at_ hy
              obtain ⟨yf, ye, ym⟩ := y
              obtain ⟨Ay, cy, ly, ey, -, -, -⟩ := hyi.1.form
              obtain ⟨Az, cz, lz, ez, -, -, -⟩ := hyi.2.form
              dsimp only at ey ez
              subst ey
              subst ez
              have v0 : wr.cell? ⟨vb, vo + p' * 5, none⟩ = some (.slice none 0 0) := hvc 0 (by omega)
              have v1 : wr.cell? ⟨vb, vo + p' * 5 + 1, none⟩ = some (.slice none 0 0) := hvc 1 (by omega)
              have v2 : wr.cell? ⟨vb, vo + p' * 5 + 2, none⟩ = some (.slice Ay ly.length cy) := hvc 2 (by omega)
              have v3 : wr.cell? ⟨vb, vo + p' * 5 + 3, none⟩ = some (.slice Az lz.length cz) := hvc 3 (by omega)
              have v4 : wr.cell? ⟨vb, vo + p' * 5 + 4, none⟩ = some (.bool ym) := hvc 4 (by omega)
              have hql : (p' : Int) < xs.length := by have := HXS.out; omega
              have HYI := Lib.hid hyi
              generalize ly.length = yn at *
              generalize lz.length = zn at *
              clear hvc hy hyi
              go_upto_region 50 with fail
              have hb6 : Below wr.heap.size wr (wr.alloc (.cells #[.slice none 0 0, .slice none 0 0, .slice Ay yn cy, .slice Az zn cz, .bool ym] 205)) := belowA
              have kx := Bk.new wr 205 #[.slice none 0 0, .slice none 0 0, .slice Ay yn cy, .slice Az zn cz, .bool ym]
              generalize wr.alloc (.cells #[.slice none 0 0, .slice none 0 0, .slice Ay yn cy, .slice Az zn cz, .bool ym] 205) = w6 at *
              have hI6 := Lib.hid (hI.out.below hb6)
              have hN6 := Lib.hid (hN.out.below hb6)
              have hT6 := Lib.hid (And.intro (hT.out.1.ext hb6) (And.intro (hT.out.2.1.below hb6) (hT.out.2.2.below hb6)))
              have hY6 := Lib.hid (And.intro (HYI.out.1.below hb6) (HYI.out.2.below hb6))
              have hax : (Value.slice (some ⟨vb, vo, none⟩) xs.length cv).ownBlock ≠ some wr.heap.size := fun e0 => absurd (own_lt hN.out.a _ e0) (Nat.lt_irrefl _)
              have hz6 := hb6.size
              have hxb3 : w.heap.size + 3 ≤ wr.heap.size := by omega
              clear y0 y1 y2 y3 y4 v0 v1 v2 v3 v4
              clear s0 s1 s2 s3 s4 q0 q1 q2 q3 q4 r0 r1 r2 r3 r4 sf sl rf rl
              obtain ⟨y0, y1, y2, y3, y4⟩ := bk5 hT6.out.1
              have hsq := Lib.hid (seq_any w00.heap.size MM nb wr.heap.size on' _ f e _ _ _ _ _ _ em ym tm w6 hM256 (by omega) (by omega) hI6.out.net.n kx hI6.out.net.rbh hY6.out.1 hY6.out.2 hT6.out.2.1 hT6.out.2.2)
              go_wp2_with (go_at_call 197; fail)
              refine hsq.out.mono ?_
              rintro e7 w7 ⟨fi7, ei7, xm7, rfl, k7, hr7, hf7, he7, hs7⟩
              have hI7 := hI6.out.seqx hxb3 kx hr7 hs7
              have hN7 := nts_seq hI6.out hN6.out hs7 (.inr hax) kx
              have kt7 := hs7.bk hT6.out.1 (by rintro (h0 | h0); (· omega); (· exact hI6.out.net.rbh.ne hT6.out.1 (by decide) h0))
              have hP := Lib.hid (tail_put hI7 hN7 k7 kt7 hxb3 hlt3 (by omega) hax HAV.out hf7 he7)
              obtain ⟨A7, c7, l7, rfl, -, -, -⟩ := hf7.form
              obtain ⟨A8, c8, l8, rfl, -, -, -⟩ := he7.form
              generalize l7.length = n7 at *
              generalize l8.length = n8 at *
              clear y0 y1 y2 y3 y4
              obtain ⟨y0, y1, y2, y3, y4⟩ := bk5 k7
              obtain ⟨u0, u1, u2, u3, u4⟩ := bk5 kt7
              have xf7 := k7.frozen; have xl7 := def_lt' k7
              have tf7 := kt7.frozen; have tl7 := def_lt' kt7
              have hne7 : wt.heap.size < wr.heap.size := tl
              unfold set5 at hP
              clear hI7 hN7 hr7 hs7 hf7 he7 hsq
              go_wp2
              go_roundw
              case rel => exact ⟨(p' : Int) - 1, _, _, _, by omega, by omega, rfl, Lib.hid hP.out.1, Lib.hid hP.out.2.1, Lib.hid hP.out.2.2⟩
              case measure => simp [intOf]
            · have hsq := Lib.hid (seq_any w00.heap.size MM nb (w.heap.size + 2) on' _ f e _ _ _ _ _ _ em xm tm wr hM256 hbB9 (by omega) hI.out.net.n hI.out.o hI.out.net.rbh hI.out.nfi hI.out.nei hT.out.2.1 hT.out.2.2)
              go_wp2_with (go_at_call 197; fail)
              refine hsq.out.mono ?_
              rintro e7 w7 ⟨fi7, ei7, xm7, rfl, k7, hr7, hf7, he7, hs7⟩
              have hI7 := hI.out.seq k7 hr7 hf7 he7 hs7
              obtain ⟨A7, c7, l7, rfl, -, -, -⟩ := hf7.form
              obtain ⟨A8, c8, l8, rfl, -, -, -⟩ := he7.form
              generalize l7.length = n7 at *
              generalize l8.length = n8 at *
              have hI8 := Lib.hid hI7
              clear k7 hr7 hf7 he7 hs7 hsq hI7 y0 y1 y2 y3 y4
              clear s0 s1 s2 s3 s4 q0 q1 q2 q3 q4 r0 r1 r2 r3 r4 sf sl rf rl
              obtain ⟨s0, s1, s2, s3, s4⟩ := bk5 hI8.out.o
              obtain ⟨q0, q1, q2, q3, q4⟩ := bk5 hI8.out.p
              obtain ⟨r0, r1, r2, r3, r4⟩ := bk5 (show Bk _ w.heap.size 205 zeroT from hI8.out.r)
              have sf := hI8.out.o.frozen; have sl := def_lt' hI8.out.o
              have rf := hI8.out.r.frozen; have rl := def_lt' hI8.out.r
              go_wp2
              have hI9 := hI8.out
              rw [← HMG.out] at hI9
              obtain ⟨hL1, hL2⟩ := hI9.left
              unfold set5 at hL1 hL2
              obtain ⟨z0, z1, z2, z3, z4⟩ := bk5 hL2
              exact bodyPost_ret (v := .agg #[.slice none 0 0, .slice none 0 0, .slice A7 n7 c7, .slice A8 n8 c8, .bool xm7]) (by simp [results, Tryz.results157, go_sem, z0, z1, z2, z3, z4]) rfl hL1
theorem part_all (w00 : World) (pb n c mb ec : Nat) (A EA : Option Addr) (l : List Pt) (mg : List Mg) (hp : Parts w00 pb (.slice A n c) n l) (hn : n ≤ 1000) (hg : MgsIn w00 mb (.slice EA mg.length ec) mg) (hgl : mg.length ≤ 100000) (M : Nat) : ∀ i, i < M → i < n → PartAny w00 pb n c mb ec A EA l mg i := by
  induction M with
  | zero => intro i hi; omega
  | succ M ih =>
    intro i hi hin
    have hih : ∀ i', i' < i → PartAny w00 pb n c mb ec A EA l mg i' := fun i' h => ih i' (by omega) (by omega)
    obtain ⟨p, hpi⟩ : ∃ p, l[i]? = some p := ⟨_, List.getElem?_eq_getElem (by rw [hp.len]; exact hin)⟩
    have hk := (hp.ok i p hpi).k
    rcases (show p.k = 1 ∨ p.k = 2 ∨ p.k = 3 ∨ p.k = 4 by omega) with h | h | h | h
    · exact part_one w00 pb n c mb ec A EA l mg i p hpi h hp hn hg hgl hih
    · exact part_seq w00 pb n c mb ec A EA l mg i p hpi h hp hn hg hgl hih
    · exact part_or w00 pb n c mb ec A EA l mg i p hpi h hp hn hg hgl hih
    · exact part_times w00 pb n c mb ec A EA l mg i p hpi h hp hn hg hgl hih
theorem many_all (n c : Nat) (A : Option Addr) (l : List Pt) (M : Nat) : ∀ i, i < M → ManyAny n c A l i := by
  induction M with
  | zero => intro i hi; omega
  | succ M ih => intro i hi; exact many_step n c A l i fun i' h => ih i' (by omega)
/-- a net, by its fields -/
structure NetV (w : World) (B m : Nat) (on bh f e : Value) : Prop where
  ron : Rws w B 256 on m
  rbh : Rws w B m bh m
  f : NsIn w B m f
  e : NsIn w B m e
theorem NetV.below {w w' : World} {B m : Nat} {on bh f e : Value} (h : NetV w B m on bh f e) (hb : Below w.heap.size w w') : NetV w' B m on bh f e := ⟨h.ron.below hb, h.rbh.below hb, h.f.below hb, h.e.below hb⟩
def NetOut (w : World) (en : Ending) (w' : World) : Prop := ∃ (m : Nat) (on bh f e : Value) (em : Bool), en = .returned (.agg #[on, bh, f, e, .bool em]) ∧ m ≤ 256 ∧ NetV w' w.heap.size m on bh f e ∧ Below w.heap.size w w'
theorem set5_below {w wr : World} {b : Nat} (h : Below w.heap.size w wr) (hb : w.heap.size ≤ b) (x0 x1 x2 x3 x4 : Value) : Below w.heap.size w (set5 wr b x0 x1 x2 x3 x4) :=
  ((((h.setCell hb _).setCell hb _).setCell hb _).setCell hb _).setCell hb _
theorem NetV.sti {w w' : World} {B m b : Nat} {on bh f e : Value} {cs : Array Value} (h : NetV w B m on bh f e) (k : Bk w b 205 cs) (hs : Sti (fun i => i = b) w w') : NetV w' B m on bh f e := by
  refine ⟨h.ron.sti hs ?_ ?_, h.rbh.sti hs ?_ ?_, hs.ns h.f ?_, hs.ns h.e ?_⟩
  · rintro g hg h0; have h0 : g = b := h0; subst h0; exact h.ron.ne k (by decide) hg
  · rintro u hu g hg h0; have h0 : g = b := h0; subst h0; exact hu.ne k (by decide) hg
  · rintro g hg h0; have h0 : g = b := h0; subst h0; exact h.rbh.ne k (by decide) hg
  · rintro u hu g hg h0; have h0 : g = b := h0; subst h0; exact hu.ne k (by decide) hg
  · rintro g hg h0; have h0 : g = b := h0; subst h0; exact h.f.ne k (by decide) hg
  · rintro g hg h0; have h0 : g = b := h0; subst h0; exact h.e.ne k (by decide) hg
set_option maxRecDepth 100000 in
set_option maxHeartbeats 8000000 in
theorem of7_any (pb n c mb ec : Nat) (A EA : Option Addr) (l : List Pt) (mg : List Mg) (w : World) (hp : Parts w pb (.slice A n c) n l) (hn : n ≤ 1000) (hg : MgsIn w mb (.slice EA mg.length ec) mg) (hgl : mg.length ≤ 100000) (hm : 0 < n → mn l (n - 1) ≤ 256) : Calls Tryz.prog 106 #[.slice A n c, .slice EA mg.length ec] w (NetOut w) := by
  by_cases h0 : n = 0
  · subst h0
    clear hp hn hg hm
    go_enter Tryz.func106, Tryz.ntmps106
    go_upto_region 2 with fail
    have kr : Bk ((w.alloc (.cells zeroT 205)).alloc (.cells #[.slice none 0 0, .slice none 0 0, .slice none 0 0, .slice none 0 0, .bool true] 205)) w.heap.size 205 zeroT := (Bk.new w _ _).alloc _
    have kn : Bk ((w.alloc (.cells zeroT 205)).alloc (.cells #[.slice none 0 0, .slice none 0 0, .slice none 0 0, .slice none 0 0, .bool true] 205)) (w.heap.size + 1) 205 #[.slice none 0 0, .slice none 0 0, .slice none 0 0, .slice none 0 0, .bool true] := Bk.made _ _ (by simp)
    have hb0 : Below w.heap.size w ((w.alloc (.cells zeroT 205)).alloc (.cells #[.slice none 0 0, .slice none 0 0, .slice none 0 0, .slice none 0 0, .bool true] 205)) := belowA
    generalize (w.alloc (.cells zeroT 205)).alloc (.cells #[.slice none 0 0, .slice none 0 0, .slice none 0 0, .slice none 0 0, .bool true] 205) = w0 at *
    obtain ⟨s0, s1, s2, s3, s4⟩ := bk5 kn
    obtain ⟨r0, r1, r2, r3, r4⟩ := bk5 (show Bk _ w.heap.size 205 zeroT from kr)
    have rf := kr.frozen; have rl := def_lt' kr
    go_wp2
    have hL2 := set5_bk (show Bk _ w.heap.size 205 zeroT from kr) (.slice none 0 0) (.slice none 0 0) (.slice none 0 0) (.slice none 0 0) (.bool true)
    have hL1 := set5_below hb0 (Nat.le_refl _) (.slice none 0 0) (.slice none 0 0) (.slice none 0 0) (.slice none 0 0) (.bool true)
    unfold set5 at hL1 hL2
    obtain ⟨z0, z1, z2, z3, z4⟩ := bk5 hL2
    exact bodyPost_ret (v := .agg #[.slice none 0 0, .slice none 0 0, .slice none 0 0, .slice none 0 0, .bool true]) (by simp [results, Tryz.results106, go_sem, z0, z1, z2, z3, z4]) rfl ⟨0, _, _, _, _, _, rfl, by omega, ⟨Rws.nil _ _ _, Rws.nil _ _ _, NsIn.nil _ _ _, NsIn.nil _ _ _⟩, hL1⟩
  · have hpa := part_all w pb n c mb ec A EA l mg hp hn hg hgl n (n - 1) (by omega) (by omega)
    have hmn := hm (by omega)
    obtain ⟨n', rfl⟩ : ∃ n', n = n' + 1 := ⟨n - 1, by omega⟩
    simp only [Nat.add_sub_cancel] at hpa hmn
    have HPA := Lib.hid hpa
    have HMN := Lib.hid hmn
    have n1 : (n' : Int) ≤ 1000 := by omega
    have n0 : (0 : Int) ≤ n' := by omega
    have e8 : ((n' : Int) + 1 == 0) = false := beq_false_of_ne (by omega)
    clear hp hn hg hgl hm hpa h0 hmn
    go_enter Tryz.func106, Tryz.ntmps106
    go_upto_region 2 with fail
    have kr : Bk ((w.alloc (.cells zeroT 205)).alloc (.cells #[.slice none 0 0, .slice none 0 0, .slice none 0 0, .slice none 0 0, .bool true] 205)) w.heap.size 205 zeroT := (Bk.new w _ _).alloc _
    have kn : Bk ((w.alloc (.cells zeroT 205)).alloc (.cells #[.slice none 0 0, .slice none 0 0, .slice none 0 0, .slice none 0 0, .bool true] 205)) (w.heap.size + 1) 205 #[.slice none 0 0, .slice none 0 0, .slice none 0 0, .slice none 0 0, .bool true] := Bk.made _ _ (by simp)
    have hb0 : Below w.heap.size w ((w.alloc (.cells zeroT 205)).alloc (.cells #[.slice none 0 0, .slice none 0 0, .slice none 0 0, .slice none 0 0, .bool true] 205)) := belowA
    generalize (w.alloc (.cells zeroT 205)).alloc (.cells #[.slice none 0 0, .slice none 0 0, .slice none 0 0, .slice none 0 0, .bool true] 205) = w0 at *
    have hcall := Lib.hid (HPA.out (w.heap.size + 1) 0 (.slice none 0 0) (.slice none 0 0) (.slice none 0 0) (.slice none 0 0) true w0 hb0 ⟨kn, Rws.nil _ _ _, Rws.nil _ _ _, (fun g h => by cases h), by omega⟩ (by have := HMN.out; omega))
    go_wp2_with (go_at_call 157; fail)
    refine hcall.out.mono ?_
    rintro e w1 ⟨fi, ei, xm, on1, bh1, rfl, hnet, hfi, hei, hs, -, -⟩
    have kr1 := hs.bk kr (by rintro (h | h | h); (· omega); (· cases h); (· cases h))
    have hz := hs.size
    have hl0 := def_lt' kn
    have hb1 : Below w.heap.size w w1 := hb0.trans (hs.below (B := w.heap.size) (by rintro j (h | h | h); (· omega); (· cases h); (· cases h)) (by omega))
    obtain ⟨Ao, co, rfl⟩ := hnet.ron.form
    obtain ⟨Ab, cb, rfl⟩ := hnet.rbh.form
    obtain ⟨Af, cf, lf, rfl, hlf, -, -⟩ := hfi.form
    obtain ⟨Ae, ce, le, rfl, hle, -, -⟩ := hei.form
    generalize lf.length = fn at *
    generalize le.length = en at *
    obtain ⟨M, hM⟩ : ∃ M, M = 0 + mn l n' := ⟨_, rfl⟩
    rw [← hM] at hnet hfi hei
    have hm256 : M ≤ 256 := by have := HMN.out; omega
    clear hM
    have hb2 : Below w1.heap.size w1 (w1.alloc (.cells #[.slice none 0 0, .slice none 0 0, .slice Af fn cf, .slice Ae en ce, .bool xm] 205)) := belowA
    have kx := Bk.new w1 205 #[.slice none 0 0, .slice none 0 0, .slice Af fn cf, .slice Ae en ce, .bool xm]
    have hxl : w.heap.size + 1 < w1.heap.size := by omega
    go_upto_region 5 with fail
    generalize w1.alloc (.cells #[.slice none 0 0, .slice none 0 0, .slice Af fn cf, .slice Ae en ce, .bool xm] 205) = w2 at *
    have kn2 := hnet.n.ext hb2
    have kr2 := kr1.ext hb2
    have hV2 : NetV w2 w.heap.size M (.slice Ao M co) (.slice Ab M cb) (.slice Af fn cf) (.slice Ae en ce) := ⟨hnet.ron.below hb2, hnet.rbh.below hb2, hfi.below hb2, hei.below hb2⟩
    have hb22 : Below w.heap.size w w2 := hb1.trans (hb2.mono (by omega))
    obtain ⟨s0, s1, s2, s3, s4⟩ := bk5 kn2
    obtain ⟨r0, r1, r2, r3, r4⟩ := bk5 (show Bk _ w.heap.size 205 zeroT from kr2)
    obtain ⟨y0, y1, y2, y3, y4⟩ := bk5 kx
    have rf := kr2.frozen; have rl := def_lt' kr2
    have sf := kn2.frozen; have sl := def_lt' kn2
    have kn3 : Bk _ (w.heap.size + 1) 205 #[.slice Ao M co, .slice Ab M cb, .slice Af fn cf, .slice none 0 0, .bool true] := kn2.set_ 2 (.slice Af fn cf)
    have kn4 : Bk _ (w.heap.size + 1) 205 #[.slice Ao M co, .slice Ab M cb, .slice Af fn cf, .slice Ae en ce, .bool true] := kn3.set_ 3 (.slice Ae en ce)
    have kn5 : Bk _ (w.heap.size + 1) 205 #[.slice Ao M co, .slice Ab M cb, .slice Af fn cf, .slice Ae en ce, .bool xm] := kn4.set_ 4 (.bool xm)
    have hs5 : Sti (fun i => i = w.heap.size + 1) w2 _ := (((Sti.refl (fun i => i = w.heap.size + 1) w2).set_ (p := ⟨w.heap.size + 1, 2, none⟩) (.inl rfl) (.slice Af fn cf)).set_ (p := ⟨w.heap.size + 1, 3, none⟩) (.inl rfl) (.slice Ae en ce)).set_ (p := ⟨w.heap.size + 1, 4, none⟩) (.inl rfl) (.bool xm)
    have hV5 := hV2.sti kn2 hs5
    have kr5 := hs5.bk kr2 (by omega)
    have hb5 := (((hb22.setCell (p := ⟨w.heap.size + 1, 2, none⟩) (by simp) (.slice Af fn cf)).setCell (p := ⟨w.heap.size + 1, 3, none⟩) (by simp) (.slice Ae en ce)).setCell (p := ⟨w.heap.size + 1, 4, none⟩) (by simp) (.bool xm))
    have hs6 := set5_sti (((w2.setCell ⟨w.heap.size + 1, 2, none⟩ (.slice Af fn cf)).setCell ⟨w.heap.size + 1, 3, none⟩ (.slice Ae en ce)).setCell ⟨w.heap.size + 1, 4, none⟩ (.bool xm)) w.heap.size (.slice Ao M co) (.slice Ab M cb) (.slice Af fn cf) (.slice Ae en ce) (.bool xm)
    have hV6 := hV5.sti kr5 hs6
    have hL2 := set5_bk (show Bk _ w.heap.size 205 zeroT from kr5) (.slice Ao M co) (.slice Ab M cb) (.slice Af fn cf) (.slice Ae en ce) (.bool xm)
    have hL1 := set5_below hb5 (Nat.le_refl _) (.slice Ao M co) (.slice Ab M cb) (.slice Af fn cf) (.slice Ae en ce) (.bool xm)
    unfold set5 at hL1 hL2 hV6
    have HE := Lib.hid (And.intro hL2 (show NetOut w (.returned (.agg #[.slice Ao M co, .slice Ab M cb, .slice Af fn cf, .slice Ae en ce, .bool xm])) _ from ⟨M, _, _, _, _, _, rfl, hm256, hV6, hL1⟩))
    clear kn3 kn4 kn5 hs5 hV5 kr5 hb5 hs6 hV6 hL2 hL1 hm256
    go_wp2
    obtain ⟨z0, z1, z2, z3, z4⟩ := bk5 HE.out.1
    exact bodyPost_ret (v := .agg #[.slice Ao M co, .slice Ab M cb, .slice Af fn cf, .slice Ae en ce, .bool xm]) (by simp [results, Tryz.results106, go_sem, z0, z1, z2, z3, z4]) rfl HE.out.2
end Go.Proofs.YtmacfoebfpljoaaGreat
