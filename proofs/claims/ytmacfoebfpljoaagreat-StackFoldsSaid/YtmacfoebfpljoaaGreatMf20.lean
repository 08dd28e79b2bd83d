/- merged texts: Sm Sn Z Y Cop Rg So Sq Sr Ss St Su Sv -/
import Derived.Test.YtmacfoebfpljoaaGreatMf10
import Derived.Test.YtmacfoebfpljoaaGreatMf19
import Derived.Test.YtmacfoebfpljoaaGreatMf4
import Derived.Test.YtmacfoebfpljoaaGreatMf1
import Derived.Test.YtmacfoebfpljoaaGreatRows
import Derived.ProofKit
import Derived.OpenShut
import Derived.ShutString
import Derived.ChangeOld
import Derived.Deep.Slices
import Derived.Deep.Strs
import Derived.Test.YtmacfoebfpljoaaGreatMf7
namespace Go.Proofs.YtmacfoebfpljoaaGreat
open Go.RowKit
set_option linter.unusedVariables false
/-- steps ahead of the newest group's, the oldest group first -/
def extV (xs : List StC) (V : List GrC) : List GrC := (V.reverse.modify 0 (extC xs)).reverse
theorem extV_snoc (xs : List StC) (D : List GrC) (g : GrC) : extV xs (D ++ [g]) = D ++ [extC xs g] := by simp [extV]
theorem grs_set (D : List GrH) (g g' : GrH) (u : Value) (h : g'.cells = g.cells.set 0 u) : (grs (D ++ [g])).set (D.length * 8) u = grs (D ++ [g']) := by
  rw [grs_append, grs_append, ← grs_len, List.set_append, if_neg (Nat.lt_irrefl _)]
  simp [grs, h]
set_option maxRecDepth 100000 in
set_option maxHeartbeats 4000000 in
theorem extend_none (base bs : Nat) (lv mv : Value) (depth : Int) (Ms : List MpH) (A : Option Addr) (n c : Nat) (w : World) (h : StkAt w base bs lv mv depth [] Ms) :
    Calls Tryz.prog 27 #[.pointer (some ⟨bs, 0, none⟩), .slice A n c] w fun e w' => e = .returned (.tuple #[.int .i64 0, .int .i64 14]) ∧ Below w.heap.size w w' := by
  obtain ⟨A1, c1, rfl, -, -, -, -⟩ := own_form h.l
  have c0 : w.cell? ⟨bs, 1, none⟩ = some (.slice A1 0 c1) := h.k.cell 1
  have hlt := def_lt' h.k
  clear h
  go_enter Tryz.func27, Tryz.ntmps27
  go_wp2
  exact bodyPost_ret (v := .tuple #[.int .i64 0, .int .i64 14]) (by simp [results, Tryz.results27, go_sem]) rfl ⟨rfl, Below.refl _ _⟩
set_option maxRecDepth 100000 in
set_option maxHeartbeats 8000000 in
theorem extend_any (base bs : Nat) (lv mv : Value) (depth : Int) (L : List GrH) (Ms : List MpH) (A : Option Addr) (n c : Nat) (X : List StH) (w : World) (h : StkAt w base bs lv mv depth L Ms) (hX : ∀ w', Stir (fun i => i = bs ∨ lv.ownBlock = some i ∨ mv.ownBlock = some i) w w' → StsIn w' w'.heap.size A n X) (hA : A = none → n = 0) (hn : n ≤ 1000) (hL : L ≠ []) (hbd : ∀ g ∈ foldV (Ms.map MpH.l) (L.map GrH.val), n + g.steps.length ≤ 1000) :
    Calls Tryz.prog 27 #[.pointer (some ⟨bs, 0, none⟩), .slice A n c] w fun e w' => e = .returned (.tuple #[.int .i64 (trimV depth (extV (X.map StH.x) (foldV (Ms.map MpH.l) (L.map GrH.val))) : Nat), .int .i64 0]) ∧ StkOut base bs lv mv depth ((extV (X.map StH.x) (foldV (Ms.map MpH.l) (L.map GrH.val))).drop (trimV depth (extV (X.map StH.x) (foldV (Ms.map MpH.l) (L.map GrH.val))))) [] w w' := by
  have hlt := def_lt' h.k
  have hbz : base ≤ w.heap.size := Nat.le_of_lt (Nat.lt_of_le_of_lt h.le hlt)
  have hfo := fold_any base bs lv mv depth L Ms w h
  have HFO := Lib.hid hfo
  have HX := Lib.hid hX
  have HA := Lib.hid hA
  have HBD := Lib.hid hbd
  have HV := Lib.hid (foldV_len (Ms.map MpH.l) (L.map GrH.val))
  have hmL : (L.map GrH.val).length = L.length := List.length_map _
  have hpos : 0 < L.length := List.length_pos_iff.2 hL
  obtain ⟨A1, c1, rfl, -, -, -, -⟩ := own_form h.l
  have c0 : w.cell? ⟨bs, 1, none⟩ = some (.slice A1 L.length c1) := h.k.cell 1
  have e1 : ((L.length : Int) == 0) = false := beq_false_of_ne (by omega)
  clear h hfo hX hA hbd hL
  go_enter Tryz.func27, Tryz.ntmps27
  go_wp2_with (go_at_call 28; fail)
  refine HFO.out.mono ?_
  rintro e w2 ⟨⟨v, rfl⟩, lv1, mv1, L1, Ms1, hs2, hV1, hM1, hto⟩
  obtain rfl : Ms1 = [] := by simpa using hM1
  have hL1 : L1.length = L.length := by
    have := congrArg List.length hV1
    rw [List.length_map, HV.out, hmL] at this
    omega
  obtain ⟨D, g1, rfl⟩ : ∃ D g1, L1 = D ++ [g1] := ⟨L1.dropLast, L1.getLast (by intro h; subst h; simp at hL1; omega), (List.dropLast_concat_getLast _).symm⟩
  have hin2 := HX.out w2 hto.1
  have hz2 := hto.1.size
  obtain ⟨gb, cap, rfl⟩ : ∃ gb cap, lv1 = .slice (some ⟨gb, 0, none⟩) (D.length + 1) cap := by
    rcases hs2.l.2 with ⟨_, h0⟩ | ⟨g, cap, cur, h0, _⟩
    · simp at h0
    · exact ⟨g, cap, by rw [h0]; simp⟩
  clear e1 c0 hpos hM1 HFO
  have HS2 := Lib.hid hs2
  have HTO := Lib.hid hto
  have HIN2 := Lib.hid hin2
  have k2 := hs2.k
  clear hs2 hto hin2
  go_wp2_with (go_at_call 75; fail)
  have hb3 : Below w2.heap.size w2 (w2.alloc (.cells #[.slice A n c, .int .i64 0, .int .i64 0, .int .i64 0, .int .i64 0, .int .i64 0, .int .i64 0, .int .i64 0] 76)) := belowA
  have k3 : Bk (w2.alloc (.cells #[.slice A n c, .int .i64 0, .int .i64 0, .int .i64 0, .int .i64 0, .int .i64 0, .int .i64 0, .int .i64 0] 76)) w2.heap.size 76 (GrH.mk A n c X ⟨0, 0, 0⟩ ⟨0, 0, 0⟩ 0).cells.toArray := Bk.new w2 _ _
  generalize w2.alloc (.cells #[.slice A n c, .int .i64 0, .int .i64 0, .int .i64 0, .int .i64 0, .int .i64 0, .int .i64 0, .int .i64 0] 76) = w3 at *
  have hz3 := hb3.size
  refine (copy_any (some ⟨w2.heap.size, 0, none⟩) 1 1 [⟨A, n, c, X, ⟨0, 0, 0⟩, ⟨0, 0, 0⟩, 0⟩] w3 (one_in k3 ⟨HIN2.out.ext hb3, by show n ≤ 1000000; omega, HA.out⟩) (by omega) (fun x hx => by simp at hx; subst hx; exact hn)).mono ?_
  intro e w4 ho4
  obtain ⟨A4, n4, c4, L4, rfl, hl4, o4, hi4, hO4, hV4, hb4⟩ := grs_out ho4
  obtain ⟨g4, rfl, hg4⟩ := map_one hV4
  obtain rfl : n4 = 1 := hl4.symm
  have hb24 : Below w2.heap.size w2 w4 := hb3.trans (hb4.mono hz3)
  have hz4 := hb24.size
  have k4 := k2.ext hb24
  have hln : (D ++ [g1]).length = D.length + 1 := by simp
  have hown2 := HS2.out.l
  rw [hln] at hown2
  have hown4 := own_below hown2 hb24
  obtain ⟨g4in, b4, o4', hA4, hlt4, hcc4⟩ := hi4.at_ (k := 0) (g := g4) rfl
  subst hA4
  obtain ⟨A4', n4', c4', L4', p4, q4, lost4⟩ := g4
  simp only [GrH.val, GrC.mk.injEq] at hg4
  obtain ⟨hx4, rfl, rfl, rfl⟩ := hg4
  have hn4 : n4' = n := by
    have h1 := congrArg List.length hx4
    have h2 := g4in.sts.len
    have h3 := HIN2.out.len
    simp only [List.length_map] at h1
    dsimp only at h2
    omega
  subst hn4
  have hG1 := HS2.out.g g1 (by simp)
  have hgn1 : n4' + g1.n ≤ 1000 := by
    have h1 := HBD.out g1.val (by rw [← hV1]; simp)
    have h2 := hG1.in_.sts.len
    simp only [GrH.val, List.length_map] at h1
    omega
  have hr0 := Rd.of_own hown4
  have e0 : (D ++ [g1])[D.length]? = some g1 := by simp
  have hcc := (show GrsIn w4 w4.heap.size (some ⟨gb, 0, none⟩) (D.length + 1) (D ++ [g1]) from ⟨hr0, fun g hg => ((HS2.out.g g hg).below hb24).in_⟩).at_ e0
  obtain ⟨-, _, _, eg, -, hcc⟩ := hcc
  injection eg with eg
  injection eg with eg1 eg2
  subst eg1 eg2
  have x0 : w4.cell? ⟨gb, D.length * 8, none⟩ = some (.slice g1.A g1.n g1.c) := by have h1 := hcc 0 (by omega); simpa [GrH.cells] using h1
  have d0 : w4.cell? ⟨b4, o4', none⟩ = some (.slice A4' n4' c4') := by have h1 := hcc4 0 (by omega); simpa [GrH.cells] using h1
  have xf := World.ownsRow.frozenAt hown4 (D.length * 8)
  have y1 : w4.cell? ⟨bs, 1, none⟩ = some (.slice (some ⟨gb, 0, none⟩) (D.length + 1) cap) := k4.cell 1
  have e3 : IntKind.i64.wrap (D.length : Int) = (D.length : Int) := IntWalk.i64_in _ (by have := HS2.out.nL; simp at this; omega)
  have HO4 := Lib.hid hO4
  have HX4 := Lib.hid hx4
  have HOWN4 := Lib.hid hown4
  have HG1 := Lib.hid hG1
  have HG4 := Lib.hid g4in
  have HV1 := Lib.hid hV1
  have HV4 := Lib.hid hV4
  clear hO4 hx4 hown4 hG1 g4in hcc hcc4 hr0 e0 hown2 hV1 hL1 o4 hi4 ho4 hmL hl4 hV4 hln
  have hF : ∀ W, Bk W bs 157 #[.int .i64 depth, .slice (some ⟨gb, 0, none⟩) (D.length + 1) cap, mv1] → W.cell? ⟨bs, 1, none⟩ = some (.slice (some ⟨gb, 0, none⟩) (D.length + 1) cap) := fun W h => h.cell 1
  have HF := Lib.hid hF
  have hpos : (D.length : Int) < (D.length : Int) + 1 := by omega
  clear hF
  go_upto_region 7 with fail
  refine wp_normal ?_
  refine wp_region_held_drew (S := fun W => Bk W bs 157 #[.int .i64 depth, .slice (some ⟨gb, 0, none⟩) (D.length + 1) cap, mv1]) (by kernel_rfl) k4.drew (fun hHeld => ?_)
  (refine tkH 0 ?_; refine tkH 1 ?_; refine tkH 2 ?_; refine tkH 3 ?_; refine tkH 4 ?_; refine tkH 5 ?_; refine tkH 6 ?_; refine tkH 7 ?_; refine tkH 8 ?_; refine tkH 9 ?_; refine tkH 10 ?_; refine tkH 11 ?_)
  refine wpAnyH_done (by kernel_rfl) ?_ _
  go_wp2_with (go_at_call 76; fail)
  have hb45 : Below w4.heap.size w4 (w4.alloc (.cells #[.slice A4' n4' c4', .slice g1.A g1.n g1.c] 23)).drew := belowA
  have k5 : Bk (w4.alloc (.cells #[.slice A4' n4' c4', .slice g1.A g1.n g1.c] 23)).drew w4.heap.size 23 #[.slice A4' n4' c4', .slice g1.A g1.n g1.c] := (Bk.new w4 _ _).drew
  generalize (w4.alloc (.cells #[.slice A4' n4' c4', .slice g1.A g1.n g1.c] 23)).drew = w5 at *
  have hb25 : Below w2.heap.size w2 w5 := hb24.trans (hb45.mono hz4)
  have hz5 := hb45.size
  have hg4' := HG4.out.ext hb45
  have hg1' := (HG1.out.below hb25).in_
  refine (concat_step w4.heap.size A4' g1.A n4' c4' g1.n g1.c L4' g1.L w5 k5 hg4'.sts.1 hg1'.sts.1 hg4'.A hg1'.A hn (by omega)).mono ?_
  rintro e w6 ⟨v6, rfl, hown6, hb6⟩
  obtain ⟨A6, c6, rfl, -, -, -, -⟩ := own_form hown6
  have hb46 : Below w4.heap.size w4 w6 := hb45.trans (hb6.mono hz5)
  have hb26 : Below w2.heap.size w2 w6 := hb24.trans (hb46.mono hz4)
  have hz6 := hb46.size
  have k6 := k4.ext hb46
  have hr6 := own_below HOWN4.out hb46
  have hgbl := own_lt hr6 gb rfl
  have f6 := World.ownsRow.frozenAt hr6 (D.length * 8)
  have st6 := World.ownsRow.stored hr6 (D.length * 8) (.slice A6 (n4' + g1.n) c6)
  have hgsz : w6.cell? ⟨gb, D.length * 8, none⟩ = some (.slice g1.A g1.n g1.c) := (hb46.cell (p := ⟨gb, D.length * 8, none⟩) (by have := own_lt HOWN4.out gb rfl; simpa using this)).trans x0
  have HR6 := Lib.hid hr6
  have HOWN6 := Lib.hid hown6
  have HST6 := Lib.hid st6
  clear hr6 hown6 st6 hg4' hg1'
  have hbz5 : base ≤ w5.heap.size := Nat.le_trans hbz (Nat.le_trans hz2 (Nat.le_trans hz4 hz5))
  have hln6 : ∀ x : GrH, (D ++ [x]).length = D.length + 1 := fun x => by simp
  have hs7 : StkAt (w6.setCell ⟨gb, D.length * 8, none⟩ (.slice A6 (n4' + g1.n) c6)) base bs (.slice (some ⟨gb, 0, none⟩) (D.length + 1) cap) mv1 depth (D ++ [⟨A6, n4' + g1.n, c6, L4' ++ g1.L, g1.pin, g1.back, g1.lost⟩]) [] := by
    have st6 := HST6.out
    refine ⟨k6.grown st6.2 (own_ne HR6.out k6 (by decide)), HS2.out.le, ?_, ?_, ?_, fun m hm => (by cases hm), ?_, (by simp), ?_⟩
    · rw [hln6, ← grs_set D g1 _ (.slice A6 (n4' + g1.n) c6) rfl]
      exact st6.1
    · intro x hx
      rcases List.mem_append.1 hx with hx | hx
      · exact GrH.Own.grow (w := w6) ((HS2.out.g x (by simp [hx])).below hb26) HR6.out st6.2 (by decide) (by decide) (by decide)
      · simp only [List.mem_singleton] at hx
        subst hx
        refine ⟨?_, ?_, by show n4' + g1.n ≤ 1000000; omega⟩
        · have h1 := own_base HOWN6.out hbz5
          rw [← sts_append] at h1
          exact own_grow h1 st6.2 (own_type h1 HR6.out (by decide))
        · intro s hs
          rcases List.mem_append.1 hs with hs | hs
          · exact StH.Own.grow (w := w6) ((((HO4.out _ (List.mem_singleton_self _)).l s hs).base_ (Nat.le_trans hbz (Nat.le_trans hz2 hz3))).below hb46) HR6.out st6.2 (by decide) (by decide)
          · exact StH.Own.grow (w := w6) ((HG1.out.l s hs).below hb26) HR6.out st6.2 (by decide) (by decide)
    · have h1 := own_below HS2.out.m hb26
      exact own_grow h1 st6.2 (own_type h1 HR6.out (by decide))
    · have h1 := HS2.out.nL
      rw [hln6] at h1 ⊢
      exact h1
    · intro x hx
      rw [List.map_append] at hx
      rcases List.mem_append.1 hx with hx | hx
      · exact HS2.out.bd x (by rw [List.map_append]; exact List.mem_append.2 (.inl hx))
      · simp only [List.map_cons, List.map_nil, List.mem_singleton] at hx
        subst hx
        have h1 := HS2.out.bd g1.val (by simp)
        have h2 := congrArg List.length HX4.out
        have h3 := HIN2.out.len
        have h4 := HG1.out.in_.sts.len
        simp only [List.length_map] at h2
        refine ⟨?_, h1.2⟩
        show ((L4' ++ g1.L).map StH.x).length ≤ 1000
        rw [List.length_map, List.length_append]
        omega
  have hto7 : StkTo bs (.slice (some ⟨gb, 0, none⟩) (D.length + 1) cap) mv1 (.slice (some ⟨gb, 0, none⟩) (D.length + 1) cap) mv1 w2 (w6.setCell ⟨gb, D.length * 8, none⟩ (.slice A6 (n4' + g1.n) c6)) :=
    ⟨(Stir.of_below hb26).trans (Stir.of_gr HST6.out.2 (fun i e => .inr (.inl e))), fun i hi => .inl hi, fun i hi => .inl hi⟩
  have hval : (D ++ [(⟨A6, n4' + g1.n, c6, L4' ++ g1.L, g1.pin, g1.back, g1.lost⟩ : GrH)]).map GrH.val = extV (X.map StH.x) (foldV (Ms.map MpH.l) (L.map GrH.val)) := by
    rw [← HV1.out, List.map_append, List.map_append, List.map_cons, List.map_nil, List.map_cons, List.map_nil, extV_snoc]
    congr 2
    simp only [GrH.val, extC, List.map_append, HX4.out]
  have htr := trim_any base bs _ mv1 depth _ [] _ hs7
  rw [hval] at htr
  have HTR := Lib.hid htr
  have HTO7 := Lib.hid hto7
  clear htr hs7 hto7 hval hln6
  go_wp2_with (go_at_call 77; fail)
  generalize w6.setCell ⟨gb, D.length * 8, none⟩ (.slice A6 (n4' + g1.n) c6) = w7 at *
  refine HTR.out.mono ?_
  rintro e w8 ⟨rfl, lv8, mv8, L8, Ms8, s8, V8, M8, t8⟩
  go_wp2
  exact bodyPost_ret (v := .tuple #[.int .i64 (trimV depth (extV (X.map StH.x) (foldV (Ms.map MpH.l) (L.map GrH.val))) : Nat), .int .i64 0]) (by simp [results, Tryz.results27, go_sem]) rfl ⟨rfl, lv8, mv8, L8, Ms8, s8, V8, M8, (HTO.out.trans HTO7.out).trans t8⟩
set_option maxRecDepth 100000 in
set_option maxHeartbeats 8000000 in
theorem scopy_any (base bs : Nat) (lv mv : Value) (depth : Int) (L : List GrH) (Ms : List MpH) (w : World) (h : StkAt w base bs lv mv depth L Ms) :
    Calls Tryz.prog 36 #[.pointer (some ⟨bs, 0, none⟩)] w fun e w' => ∃ bs' lv' mv' L' Ms', e = .returned (.pointer (some ⟨bs', 0, none⟩)) ∧ StkAt w' w.heap.size bs' lv' mv' depth L' Ms' ∧ L'.map GrH.val = L.map GrH.val ∧ Ms'.map MpH.l = Ms.map MpH.l ∧ Below w.heap.size w w' := by
  have hlt := def_lt' h.k
  have HS := Lib.hid h
  obtain ⟨A1, c1, rfl, -, -, hA1, r1⟩ := own_form h.l
  obtain ⟨A2, c2, rfl, -, -, hA2, r2⟩ := own_form h.m
  have k0 := h.k
  have hcp := fun W (hb : Below w.heap.size w W) => copy_any A1 L.length c1 L W ((show GrsIn w w.heap.size A1 L.length L from ⟨r1, fun g hg => (h.g g hg).in_⟩).ext hb) (by have := h.nL; omega) (h.bd.n h.g)
  have HCP := Lib.hid hcp
  have HR2 := Lib.hid r2
  have hnM := h.nM
  clear h hcp r1 r2
  have hF : ∀ W, Below w.heap.size w W → W.cell? ⟨bs, 0, none⟩ = some (.int .i64 depth) ∧ W.cell? ⟨bs, 1, none⟩ = some (.slice A1 L.length c1) ∧ W.cell? ⟨bs, 2, none⟩ = some (.slice A2 Ms.length c2) := fun W h => ⟨(k0.ext h).cell 0, (k0.ext h).cell 1, (k0.ext h).cell 2⟩
  have HF := Lib.hid hF
  clear hF
  go_enter Tryz.func36, Tryz.ntmps36
  go_upto_region 3 with fail
  refine wp_normal ?_
  refine wp_region_held_drew (S := fun W => Below w.heap.size w W) (by kernel_rfl) ((Below.refl _ _).drew) (fun hHeld => ?_)
  (refine tkH 0 ?_; refine tkH 1 ?_; refine tkH 2 ?_; refine tkH 3 ?_; refine tkH 4 ?_; refine tkH 5 ?_; refine tkH 6 ?_; refine tkH 7 ?_)
  refine nxH 8 (fun K hK => ?_)
  go_simp
  go_at_call 75
  refine (HCP.out _ ((Below.refl _ _).drew)).mono ?_
  intro e w1 ho1
  obtain ⟨A3, n3, c3, L3, rfl, hl3, o3, hi3, hO3, hV3, hb3⟩ := grs_out ho1
  have hn3 : n3 = L.length := by have h1 := congrArg List.length hV3; simp only [List.length_map] at h1; omega
  subst hn3
  have hb1 : Below w.heap.size w w1 := ((Below.refl _ w).drew).trans hb3
  have hz1 := hb1.size
  refine hK.out _ _ hb1 (fun hHeld => ?_)
  clear hK K; refine puH ?_
  (refine tkH 9 ?_)
  refine nxH 10 (fun K hK => ?_)
  go_simp
  refine hK.out _ _ (hb1.alloc hz1 _) (fun hHeld => ?_)
  clear hK K; refine puH ?_
  (refine tkH 11 ?_)
  refine wpAnyH_done (by kernel_rfl) ?_ _
  have hs2 : StkAt (w1.alloc (.cells #[.int .i64 depth, .slice A3 L.length c3, .slice none 0 0] 157)) w.heap.size w1.heap.size (.slice A3 L.length c3) (.slice none 0 0) depth L3 [] := by
    have hba : Below w1.heap.size w1 (w1.alloc (.cells #[.int .i64 depth, .slice A3 L.length c3, .slice none 0 0] 157)) := belowA
    refine ⟨Bk.new w1 _ _, hz1, ?_, fun g hg => (hO3 g hg).below hba, World.ownsRow_nil _ _ _ _, fun m hm => (by cases hm), ?_, (by simp), ?_⟩
    · rw [hl3]
      exact own_below o3 hba
    · rw [hl3]
      exact HS.out.nL
    · rw [hV3]
      exact HS.out.bd
  have hb2 : Below w.heap.size w (w1.alloc (.cells #[.int .i64 depth, .slice A3 L.length c3, .slice none 0 0] 157)) := hb1.alloc hz1 _
  obtain ⟨P, hP⟩ : ∃ P, P = w1.heap.size := ⟨_, rfl⟩
  rw [← hP] at hs2 ⊢
  generalize w1.alloc (.cells #[.int .i64 depth, .slice A3 L.length c3, .slice none 0 0] 157) = w2 at *
  have HV3 := Lib.hid hV3
  have y2 := (HF.out w2 hb2).2.2
  clear hO3 hV3 ho1 hl3 o3 hi3 hP hz1 hb1 hb3 hHeld
  go_wp2
  go_loopw [24] (fun j wr => ∃ (q : Nat) (A4 : Option Addr) (c4 : Nat) (N : List MpH), q ≤ Ms.length ∧ N.length = q ∧ j = .int .i64 q ∧ Below w.heap.size w wr ∧ StkAt wr w.heap.size P (.slice A3 L.length c3) (.slice A4 N.length c4) depth L3 N ∧ Hid (N.map MpH.l = (Ms.take q).map MpH.l)) (fun j _ => Ms.length - (intOf j).toNat)
  case atStart => exact ⟨0, none, 0, [], by omega, rfl, rfl, hb2, hs2, Lib.hid (by simp)⟩
  case round =>
    obtain ⟨q, A4, c4, N, hq, hN, rfl, hbr, hsr, hNl⟩ := hrel
    clear hs2 y2
    by_cases hqn : q < Ms.length
    · obtain ⟨m, hx⟩ : ∃ m, Ms[q]? = some m := ⟨_, List.getElem?_eq_getElem (by omega)⟩
      obtain ⟨b, o, rfl, hb, hc⟩ := mp_at HR2.out hx
      have d0 : wr.cell? ⟨b, o + q, none⟩ = some (.slice m.A m.n m.c) := (hbr.cell (by simpa using hb)).trans hc
      have hms := HS.out.ms m (List.mem_of_getElem? hx)
      have e3 : (q : Int) < Ms.length := by omega
      have hsn : (Ms.take (q + 1)).map MpH.l = (N ++ [m]).map MpH.l := by
        rw [List.take_add_one, hx, List.map_append, List.map_append, hNl.out]
        rfl
      have HSN := Lib.hid hsn
      have hrm : Rd wr wr.heap.size 3 m.A m.n (rgs m.l) := ((Rd.of_own hms.1).below hbr).more hbr.size
      have hmA : m.A = none → m.n = 0 := own_none hms.1
      have hnm := hms.2
      have HRM := Lib.hid hrm
      have HMA := Lib.hid hmA
      have HS2 := Lib.hid hsr
      have HN := Lib.hid hN
      have hN5 : N.length ≤ 499 := by omega
      have hbz := hbr.size
      have k2 := hsr.k
      clear hsn hx hms hrm hmA hsr hN HF hc HCP k0
      have hF : ∀ W, Bk W P 157 #[.int .i64 depth, .slice A3 L.length c3, .slice A4 N.length c4] → W.cell? ⟨P, 2, none⟩ = some (.slice A4 N.length c4) := fun W h => h.cell 2
      have HF := Lib.hid hF
      clear hF
      obtain ⟨mA, mn, mc, ml⟩ := m
      dsimp only at d0 hnm HRM HMA
      go_upto_region 7 with fail
      refine wp_normal ?_
      refine region_L (S := fun W => Bk W P 157 #[.int .i64 depth, .slice A3 L.length c3, .slice A4 N.length c4]) [11] (by kernel_rfl) k2.drew (fun hHeld => ?_)
      (refine tkL 0 ?_; refine tkL 1 ?_; refine tkL 2 ?_; refine tkL 3 ?_; refine tkL 4 ?_; refine tkL 5 ?_)
      refine nxL 6 (fun K hK => ?_)
      go_simp
      go_at_call 81
      refine (clone_rgs mA mn mc ml wr.drew HRM.out HMA.out (by omega)).mono ?_
      rintro e w4 ⟨v4, rfl, o4, hb4'⟩
      obtain ⟨A5, c5', rfl, -, -, hA4, hrd4⟩ := own_form o4
      have hb4 : Below wr.heap.size wr w4 := Below.trans (Below.refl _ _).drew hb4'
      have k4 := k2.ext hb4
      refine hK.out _ _ k4 (fun hHeld => ?_)
      clear hK K; refine puL ?_
      refine nxL 7 (fun K hK => ?_)
      go_simp
      refine hK.out _ _ (k4.alloc _) (fun hHeld => ?_)
      clear hK K; refine puL ?_
      have hbA : Below w4.heap.size w4 (w4.alloc (.cells #[.slice A5 mn c5'] 94)) := belowA
      have kA := Bk.new w4 94 #[.slice A5 mn c5']
      have k4A := k4.alloc (.cells #[.slice A5 mn c5'] 94)
      generalize w4.alloc (.cells #[.slice A5 mn c5'] 94) = wA at *
      have hb2A : Below wr.heap.size wr wA := hb4.trans (hbA.mono hb4.size)
      have hzA := hb2A.size
      have hownA := own_below HS2.out.m hb2A
      refine nxL 8 (fun K hK => ?_)
      refine app_at_step Tryz.underlying86 info_rgs rfl (by decide) w.heap.size _ N.length _ hownA (by unfold maxLen; omega) (by omega) (Nat.le_trans hbz hzA) w4.heap.size #[.slice A5 mn c5'] kA rfl (by simp [Value.oneCell']) rfl (.tmp 32) (.tmp 35) rfl rfl rfl ?_
      intro g5 c5 w5 hown5 hgr5 hat5 hlt5
      have k5 := k4A.grown hgr5 (own_ne hownA k4A (by decide))
      refine hK.out _ _ k5 (fun hHeld => ?_)
      clear hK K; refine puL ?_
      (refine tkL 9 ?_; refine tkL 10 ?_)
      have x0 := k5.cell 0; have x1 := k5.cell 1; have x2 := k5.cell 2; have xf := k5.frozen; have xl := def_lt' k5
      dsimp at x0 x1 x2
      refine ltL 11 (fun K hK => ?_)
      go_simp
      refine hK.out _ _ ?_
      clear hK K; refine puL ?_
      refine anyL_done (by kernel_rfl) ?_
      have gr6 : w5.grownBy (w5.setCell ⟨P, 2, none⟩ (.slice (some ⟨g5, 0, none⟩) (N.length + 1) c5)) (some P) := gr_set (p := ⟨P, 2, none⟩) (World.grownBy.refl _ _) (.inl rfl) _
      have k6 : Bk (w5.setCell ⟨P, 2, none⟩ (.slice (some ⟨g5, 0, none⟩) (N.length + 1) c5)) P 157 #[.int .i64 depth, .slice A3 L.length c3, .slice (some ⟨g5, 0, none⟩) (N.length + 1) c5] := k5.set_ 2 _
      generalize w5.setCell ⟨P, 2, none⟩ (.slice (some ⟨g5, 0, none⟩) (N.length + 1) c5) = w6 at *
      have keep : ∀ {e size n v xs}, wA.ownsRow w.heap.size e size v n xs → e ≠ 94 → e ≠ 157 → w6.ownsRow w.heap.size e size v n xs := fun h1 hne hne2 =>
        own_grow (own_grow h1 hgr5 (own_type h1 hownA hne)) gr6 (fun g e => by injection e with e; subst e; exact own_ne (own_grow h1 hgr5 (own_type h1 hownA hne)) k5 hne2)
      have hs6 : StkAt w6 w.heap.size P (.slice A3 L.length c3) (.slice (some ⟨g5, 0, none⟩) (N.length + 1) c5) depth L3 (N ++ [⟨A5, mn, c5', ml⟩]) := by
        refine ⟨k6, HS2.out.le, keep (own_below HS2.out.l hb2A) (by decide) (by decide), ?_, ?_, ?_, HS2.out.nL, ?_, HS2.out.bd⟩
        · intro x hx
          exact (((HS2.out.g x hx).below hb2A).grow hownA hgr5 (by decide) (by decide) (by decide)).grown k5 gr6 (by decide) (by decide) (by decide)
        · rw [List.map_append, List.length_append]
          exact own_grow hown5 gr6 (fun g e => by injection e with e; subst e; exact own_ne hown5 k5 (by decide))
        · intro x hx
          rcases List.mem_append.1 hx with hx | hx
          · exact ⟨keep (own_below (HS2.out.ms x hx).1 hb2A) (by decide) (by decide), (HS2.out.ms x hx).2⟩
          · simp at hx
            subst hx
            exact ⟨keep (own_base (own_below o4 hbA) (by simpa using hbz)) (by decide) (by decide), hnm⟩
        · rw [List.length_append]; simp; omega
      have hb6 : Below w.heap.size w w6 := by
        have h1 := hbr.trans (hb2A.mono hbz)
        have h2 := below_own h1 hownA hgr5 (Nat.le_trans hbz hzA) (Nat.le_refl _)
        exact h2.grown gr6 h2.size (fun k e => by injection e with e; subst e; exact HS2.out.le)
      clear x0 x1 x2 keep hown5 hownA hgr5
      go_wp2
      go_roundw
      case rel =>
        refine ⟨q + 1, some ⟨g5, 0, none⟩, c5, N ++ [⟨A5, mn, c5', ml⟩], by omega, by simp [HN.out], by go_num, hb6, ?_, Lib.hid ?_⟩
        · rw [List.length_append]
          exact hs6
        · rw [HSN.out, List.map_append, List.map_append]
          rfl
      case measure => simp [intOf]; omega
    · obtain rfl : Ms.length = q := by omega
      go_wp2
      go_ret
      refine ⟨P, _, _, L3, N, rfl, hsr, HV3.out, ?_, hbr⟩
      rw [hNl.out, List.take_length]
end Go.Proofs.YtmacfoebfpljoaaGreat
namespace Go.Proofs.YtmacfoebfpljoaaGreat
open Go.ChangeShapes Go.WideShapes Go.ChangeAt Go.RowKit
theorem own : ownKnob Tryz.prog.godebug = none := by kernel_rfl
theorem laidOut : laidOutB Tryz.prog = true := by kernel_rfl
theorem block_lt {w : World} {a : Addr} {v : Value} (h : w.cell? a = some v) : a.block < w.heap.size := by
  unfold World.cell? at h
  rcases Nat.lt_or_ge a.block w.heap.size with hlt | hge
  · exact hlt
  · rw [Array.getElem?_eq_none hge] at h; simp at h
/-- cells that lie from an address on, as a slice that is read -/
theorem rd_of_cells {w : World} {x : Addr} {n size : Nat} {xs : List Value} (hl : xs.length = n * size) (hs : 0 < size) (h : ∀ i u, xs[i]? = some u → w.cell? (x.add i) = some u) : Rd w w.heap.size size (some x) n xs := by
  refine ⟨hl, fun hn => ?_⟩
  have hpos : 0 < xs.length := by rw [hl]; exact Nat.mul_pos hn hs
  obtain ⟨u, hu⟩ : ∃ u, xs[0]? = some u := ⟨_, List.getElem?_eq_getElem hpos⟩
  have h0 := h 0 u hu
  obtain ⟨b, o, sp⟩ := x
  have hsp : sp = none := by simpa [Addr.add] using World.cell?_spot h0
  subst hsp
  refine ⟨b, o, rfl, ?_, fun j u hu => ?_⟩
  · have := block_lt h0
    rwa [add_flat] at this
  · rw [← add_flat]; exact h j u hu
end Go.Proofs.YtmacfoebfpljoaaGreat
namespace Go.Proofs.YtmacfoebfpljoaaGreat
open Go.ChangeShapes Go.WideShapes Go.ChangeAt Go.RowKit
theorem flat_len {α : Type} (R : α → List Value) {s : Nat} (hR : ∀ x, (R x).length = s) (l : List α) : (l.flatMap R).length = l.length * s := by
  induction l with
  | nil => simp
  | cons x l ih => simp only [List.flatMap_cons, List.length_append, ih, hR, List.length_cons, Nat.add_mul]; omega
theorem flat_get {α : Type} (R : α → List Value) {s : Nat} (hR : ∀ x, (R x).length = s) {l : List α} {k i : Nat} (hi : i < s) : (l.flatMap R)[k * s + i]? = (l[k]?).bind fun x => (R x)[i]? := by
  induction l generalizing k with
  | nil => simp
  | cons x l ih =>
    rw [List.flatMap_cons]
    cases k with
    | zero => rw [List.getElem?_append_left (by rw [hR]; omega)]; simp
    | succ k =>
      rw [List.getElem?_append_right (by rw [hR, Nat.add_mul]; omega), hR, show (k + 1) * s + i - s = k * s + i by rw [Nat.add_mul]; omega, ih]
      simp
theorem open_els {H : Type} {enc : TypeId × Value → H} {W : World} {b : Nat} {sp : Nat → Bool} {hd : Bool} {T E : TypeId} {a : Option Addr} {len cap : Nat} {d : DataW H} {pl : List MemPlace}
    {α : Type} [Inhabited α] (R : α → List Value) (p : α → Prop) {s : Nat} (hT : Tryz.prog.underlying T = some (.slice E)) (hc : Tryz.prog.cellsOf E = s) (hs : 0 < s) (hR : ∀ x, (R x).length = s)
    (h : ∃ fuel, DataW.trod enc Tryz.prog W b sp hd fuel T [.slice a len cap] = some (d, pl))
    (hel : ∀ n cs y, DataW.trod enc Tryz.prog W b sp hd n E cs = some y → ∃ x, cs = R x ∧ p x) :
    ∃ l : List α, l.length = len ∧ Rd W W.heap.size s a len (l.flatMap R) ∧ len ≤ cap ∧ cap ≤ maxLen ∧ (a = none → len = 0) ∧ ∀ x ∈ l, p x := by
  obtain ⟨fuel, hf⟩ := h
  rcases Deep.open_slice hT hf with ⟨hcs, _⟩ | ⟨x, l, c, m, n, D, Pl, hcs, _, hl, hm, hmm, _, hx⟩
  · simp at hcs
    obtain ⟨rfl, rfl, rfl⟩ := hcs
    exact ⟨[], rfl, Rd.nil_ _ _ _ _, by omega, by unfold maxLen; omega, fun _ => rfl, by simp⟩
  · simp at hcs
    obtain ⟨rfl, rfl, rfl⟩ := hcs
    have hlm : len ≤ m := by rw [hmm]; split <;> omega
    obtain ⟨f, hf⟩ := Deep.choose_lt (α := α) (n := len) (p := fun i y => (∀ j, j < s → W.cell? ((x.add (i * s)).add j) = (R y)[j]?) ∧ p y) (fun i hi => by
      obtain ⟨cs', h1, h2⟩ := hx i (by omega)
      rw [hc] at h1
      obtain ⟨_, _, hcell⟩ := World.cells?_some h1
      obtain ⟨y, rfl, hy⟩ := hel _ _ _ h2
      exact ⟨y, hcell, hy⟩)
    refine ⟨(List.range len).map f, by simp, rd_of_cells (by rw [flat_len R hR]; simp) hs ?_, hl, hm, by simp, ?_⟩
    · intro j u hu
      have e1 : j = j / s * s + j % s := by rw [Nat.mul_comm]; exact (Nat.div_add_mod j s).symm
      have h1 : j % s < s := Nat.mod_lt _ hs
      rw [e1, flat_get R hR h1] at hu
      obtain ⟨y, hy, hu⟩ := Option.bind_eq_some_iff.1 hu
      rw [List.getElem?_map] at hy
      obtain ⟨i, hi, rfl⟩ := Option.map_eq_some_iff.1 hy
      obtain ⟨hlt, hi⟩ := List.getElem?_eq_some_iff.1 hi
      simp at hlt hi
      subst hi
      have := (hf _ hlt).1 _ h1
      rw [Deep.add_add, ← e1] at this
      rw [this, hu]
    · intro y hy
      obtain ⟨i, hi, rfl⟩ := List.mem_map.1 hy
      exact (hf i (List.mem_range.1 hi)).2
end Go.Proofs.YtmacfoebfpljoaaGreat
namespace Go.Proofs.YtmacfoebfpljoaaGreat
open Go.ChangeShapes Go.WideShapes Go.ChangeAt Go.RowKit
section
variable {H : Type} {enc : TypeId × Value → H} {W : World} {b : Nat} {sp : Nat → Bool} {hd : Bool}
theorem arr_at {T e : TypeId} {n fuel : Nat} {cs : List Value} {y : DataW H × List MemPlace} (hT : Tryz.prog.underlying T = some (.array n e)) (hc : Tryz.prog.cellsOf e = 1) (h : DataW.trod enc Tryz.prog W b sp hd fuel T cs = some y) :
    cs.length = Tryz.prog.cellsOf T ∧ ∀ i, i < n → ∃ m z, DataW.trod enc Tryz.prog W b sp hd m e ((cs.drop i).take 1) = some z := by
  obtain ⟨xs, m, _, _, hl, hlen, hf⟩ := DataW.trod_array hT h
  refine ⟨hl, fun i hi => ?_⟩
  have := hf i hi
  rw [hc, Nat.mul_one, List.getElem?_eq_getElem (by omega)] at this
  exact ⟨m, _, this⟩
theorem str_at {T : TypeId} {fs : Array Field} {fuel : Nat} {cs : List Value} {y : DataW H × List MemPlace} (hT : Tryz.prog.underlying T = some (.struct fs)) (h : DataW.trod enc Tryz.prog W b sp hd fuel T cs = some y) :
    cs.length = Tryz.prog.cellsOf T ∧ ∀ (i : Nat) (ty : TypeId) (off : Nat), fs[i]?.map (fun f => (f.type, f.offset)) = some (ty, off) → ∃ m z, DataW.trod enc Tryz.prog W b sp hd m ty ((cs.drop off).take (Tryz.prog.cellsOf ty)) = some z := by
  obtain ⟨xs, m, _, _, hl, hlen, hf⟩ := DataW.trod_struct hT h
  refine ⟨hl, fun i ty off hi => ?_⟩
  obtain ⟨f, hf1, hf2⟩ := Option.map_eq_some_iff.1 hi
  injection hf2 with h1 h2
  subst h1 h2
  have hlt := (Array.getElem?_eq_some_iff.1 hf1).1
  have := hf i f hf1
  rw [List.getElem?_eq_getElem (by omega)] at this
  exact ⟨m, _, this⟩
theorem open_mk (n : Nat) (cs : List Value) (y : DataW H × List MemPlace) (h : DataW.trod enc Tryz.prog W b sp hd n 124 cs = some y) : ∃ x : Mk, cs = x.cells ∧ True := by
  have hc : Tryz.prog.cellsOf 122 = 1 := by kernel_rfl
  have hc8 : Tryz.prog.cellsOf 124 = 8 := by kernel_rfl
  obtain ⟨hl, hf⟩ := arr_at (n := 8) (e := 122) (by kernel_rfl) hc h
  rw [hc8] at hl
  match cs, hl with
  | [v0, v1, v2, v3, v4, v5, v6, v7], _ =>
    obtain ⟨_, _, g0⟩ := hf 0 (by omega)
    obtain ⟨_, _, g1⟩ := hf 1 (by omega)
    obtain ⟨_, _, g2⟩ := hf 2 (by omega)
    obtain ⟨_, _, g3⟩ := hf 3 (by omega)
    obtain ⟨_, _, g4⟩ := hf 4 (by omega)
    obtain ⟨_, _, g5⟩ := hf 5 (by omega)
    obtain ⟨_, _, g6⟩ := hf 6 (by omega)
    obtain ⟨_, _, g7⟩ := hf 7 (by omega)
    simp only [List.drop_succ_cons, List.drop_zero, List.take_succ_cons, List.take_zero] at g0 g1 g2 g3 g4 g5 g6 g7
    obtain ⟨x0, e0, _, _⟩ := DataW.trod_int Tryz.underlying122 g0
    obtain ⟨x1, e1, _, _⟩ := DataW.trod_int Tryz.underlying122 g1
    obtain ⟨x2, e2, _, _⟩ := DataW.trod_int Tryz.underlying122 g2
    obtain ⟨x3, e3, _, _⟩ := DataW.trod_int Tryz.underlying122 g3
    obtain ⟨x4, e4, _, _⟩ := DataW.trod_int Tryz.underlying122 g4
    obtain ⟨x5, e5, _, _⟩ := DataW.trod_int Tryz.underlying122 g5
    obtain ⟨x6, e6, _, _⟩ := DataW.trod_int Tryz.underlying122 g6
    obtain ⟨x7, e7, _, _⟩ := DataW.trod_int Tryz.underlying122 g7
    injection e0 with e0; injection e1 with e1; injection e2 with e2; injection e3 with e3; injection e4 with e4; injection e5 with e5; injection e6 with e6; injection e7 with e7
    subst e0 e1 e2 e3 e4 e5 e6 e7
    exact ⟨⟨x0, x1, x2, x3, x4, x5, x6, x7⟩, rfl, trivial⟩
set_option maxRecDepth 100000 in
theorem open_tok (n : Nat) (cs : List Value) (y : DataW H × List MemPlace) (h : DataW.trod enc Tryz.prog W b sp hd n 126 cs = some y) : ∃ x : Tok, cs = x.cells ∧ True := by
  have hc : Tryz.prog.cellsOf 3 = 1 := by kernel_rfl
  have hc3 : Tryz.prog.cellsOf 21 = 1 := by kernel_rfl
  have hc8 : Tryz.prog.cellsOf 124 = 8 := by kernel_rfl
  have hc12 : Tryz.prog.cellsOf 126 = 12 := by kernel_rfl
  obtain ⟨hl, hf⟩ := str_at Tryz.underlying126 h
  rw [hc12] at hl
  match cs, hl with
  | [v0, v1, v2, v3, u0, u1, u2, u3, u4, u5, u6, u7], _ =>
    obtain ⟨_, _, g0⟩ := hf 0 3 0 rfl
    obtain ⟨_, _, g1⟩ := hf 1 3 1 rfl
    obtain ⟨_, _, g2⟩ := hf 2 3 2 rfl
    obtain ⟨_, _, g3⟩ := hf 3 21 3 rfl
    obtain ⟨_, _, g4⟩ := hf 4 124 4 rfl
    simp only [hc, hc3, hc8, List.drop_succ_cons, List.drop_zero, List.take_succ_cons, List.take_zero] at g0 g1 g2 g3 g4
    obtain ⟨x0, e0, _, _⟩ := DataW.trod_int Tryz.underlying3 g0
    obtain ⟨x1, e1, _, _⟩ := DataW.trod_int Tryz.underlying3 g1
    obtain ⟨x2, e2, _, _⟩ := DataW.trod_int Tryz.underlying3 g2
    obtain ⟨x3, e3, _, _⟩ := DataW.trod_int Tryz.underlying21 g3
    obtain ⟨m, e4, _⟩ := open_mk _ _ _ g4
    injection e0 with e0; injection e1 with e1; injection e2 with e2; injection e3 with e3
    subst e0 e1 e2 e3
    refine ⟨⟨x0, x1, x2, x3, m⟩, ?_, trivial⟩
    rw [Tok.cells, ← e4]
end
section
variable {H : Type} {enc : TypeId × Value → H} {W : World} {b : Nat} {sp : Nat → Bool} {hd : Bool} {a : Option Addr} {len cap : Nat} {d : DataW H} {pl : List MemPlace}
theorem open_toks (h : ∃ fuel, DataW.trod enc Tryz.prog W b sp hd fuel 22 [.slice a len cap] = some (d, pl)) : ∃ l : List Tok, l.length = len ∧ Rd W W.heap.size 12 a len (toks l) ∧ len ≤ cap ∧ cap ≤ maxLen ∧ (a = none → len = 0) := by
  obtain ⟨l, h1, h2, h3, h4, h5, _⟩ := open_els (s := 12) Tok.cells (fun _ => True) Tryz.underlying22 (by kernel_rfl) (by omega) (fun _ => rfl) h open_tok
  exact ⟨l, h1, h2, h3, h4, h5⟩
theorem open_mks (h : ∃ fuel, DataW.trod enc Tryz.prog W b sp hd fuel 43 [.slice a len cap] = some (d, pl)) : ∃ l : List Mk, l.length = len ∧ Rd W W.heap.size 8 a len (mks l) ∧ len ≤ cap ∧ cap ≤ maxLen ∧ (a = none → len = 0) := by
  obtain ⟨l, h1, h2, h3, h4, h5, _⟩ := open_els (s := 8) Mk.cells (fun _ => True) Tryz.underlying43 (by kernel_rfl) (by omega) (fun _ => rfl) h open_mk
  exact ⟨l, h1, h2, h3, h4, h5⟩
end
theorem i64_bd {x : Int} (h : (Lit.int .i64 x).wf = true) : -9223372036854775808 ≤ x ∧ x ≤ 9223372036854775807 := by
  have hmin : IntKind.i64.min = -9223372036854775808 := rfl
  have hmax : IntKind.i64.max = 9223372036854775807 := rfl
  simp only [Lit.wf, Bool.and_eq_true, decide_eq_true_eq] at h
  omega
section
variable {H : Type} {enc : TypeId × Value → H} {W : World} {b : Nat} {sp : Nat → Bool} {hd : Bool}
theorem slice_at {T E : TypeId} {fuel : Nat} {v : Value} {y : DataW H × List MemPlace} (hT : Tryz.prog.underlying T = some (.slice E)) (h : DataW.trod enc Tryz.prog W b sp hd fuel T [v] = some y) : ∃ a len cap, v = .slice a len cap := by
  rcases Deep.open_slice hT h with ⟨hcs, _⟩ | ⟨x, l, c, m, n, D, Pl, hcs, _⟩
  · simp at hcs; exact ⟨_, _, _, hcs⟩
  · simp at hcs; exact ⟨_, _, _, hcs⟩
set_option maxRecDepth 100000 in
theorem open_step (n : Nat) (cs : List Value) (y : DataW H × List MemPlace) (h : DataW.trod enc Tryz.prog W b sp hd n 45 cs = some y) : ∃ s : StH, cs = s.cells ∧ s.Raw W W.heap.size := by
  have hc : Tryz.prog.cellsOf 3 = 1 := by kernel_rfl
  have hc1 : Tryz.prog.cellsOf 22 = 1 := by kernel_rfl
  have hc2 : Tryz.prog.cellsOf 43 = 1 := by kernel_rfl
  have hc10 : Tryz.prog.cellsOf 45 = 10 := by kernel_rfl
  obtain ⟨hl, hf⟩ := str_at Tryz.underlying45 h
  rw [hc10] at hl
  match cs, hl with
  | [v0, v1, v2, v3, v4, v5, v6, v7, v8, v9], _ =>
    obtain ⟨_, _, g0⟩ := hf 0 3 0 rfl
    obtain ⟨_, _, g1⟩ := hf 1 3 1 rfl
    obtain ⟨_, _, g2⟩ := hf 2 3 2 rfl
    obtain ⟨_, _, g3⟩ := hf 3 3 3 rfl
    obtain ⟨_, _, g4⟩ := hf 4 3 4 rfl
    obtain ⟨_, _, g5⟩ := hf 5 3 5 rfl
    obtain ⟨_, _, g6⟩ := hf 6 3 6 rfl
    obtain ⟨_, _, g7⟩ := hf 7 3 7 rfl
    obtain ⟨_, ⟨_, _⟩, g8⟩ := hf 8 22 8 rfl
    obtain ⟨_, ⟨_, _⟩, g9⟩ := hf 9 43 9 rfl
    simp only [hc, hc1, hc2, List.drop_succ_cons, List.drop_zero, List.take_succ_cons, List.take_zero] at g0 g1 g2 g3 g4 g5 g6 g7 g8 g9
    obtain ⟨x0, e0, _, _⟩ := DataW.trod_int Tryz.underlying3 g0
    obtain ⟨x1, e1, _, _⟩ := DataW.trod_int Tryz.underlying3 g1
    obtain ⟨x2, e2, _, _⟩ := DataW.trod_int Tryz.underlying3 g2
    obtain ⟨x3, e3, _, _⟩ := DataW.trod_int Tryz.underlying3 g3
    obtain ⟨x4, e4, _, _⟩ := DataW.trod_int Tryz.underlying3 g4
    obtain ⟨x5, e5, _, _⟩ := DataW.trod_int Tryz.underlying3 g5
    obtain ⟨x6, e6, _, _⟩ := DataW.trod_int Tryz.underlying3 g6
    obtain ⟨x7, e7, _, _⟩ := DataW.trod_int Tryz.underlying3 g7
    injection e0 with e0; injection e1 with e1; injection e2 with e2; injection e3 with e3; injection e4 with e4; injection e5 with e5; injection e6 with e6; injection e7 with e7
    subst e0 e1 e2 e3 e4 e5 e6 e7
    obtain ⟨A, n, c, rfl⟩ := slice_at Tryz.underlying22 g8
    obtain ⟨A', n', c', rfl⟩ := slice_at Tryz.underlying43 g9
    obtain ⟨sl, _, p2, p3, p4, p5⟩ := open_toks ⟨_, g8⟩
    obtain ⟨st, _, q2, q3, q4, q5⟩ := open_mks ⟨_, g9⟩
    exact ⟨⟨A, n, c, A', n', c', ⟨x0, x1, x2, x3, x4, x5, x6, x7, sl, st⟩⟩, rfl, ⟨p2, q2, by show n ≤ maxLen; omega, by show n' ≤ maxLen; omega, p5, q5⟩⟩
theorem open_pin {fuel : Nat} {cs : List Value} {y : DataW H × List MemPlace} (h : DataW.trod enc Tryz.prog W b sp hd fuel 91 cs = some y) : ∃ p : Pn, cs = [.int .i64 p.k, .int .i64 p.a, .int .i64 p.b] := by
  have hc : Tryz.prog.cellsOf 3 = 1 := by kernel_rfl
  have hc3 : Tryz.prog.cellsOf 91 = 3 := by kernel_rfl
  obtain ⟨y0, y1, y2, m, _, hl, g0, g1, g2⟩ := Deep.trod_struct3 Tryz.underlying91 h
  simp only [hc, hc3] at hl g0 g1 g2
  match cs, hl with
  | [v0, v1, v2], _ =>
    simp at g0 g1 g2
    obtain ⟨x0, e0, _, _⟩ := DataW.trod_int Tryz.underlying3 g0
    obtain ⟨x1, e1, _, _⟩ := DataW.trod_int Tryz.underlying3 g1
    obtain ⟨x2, e2, _, _⟩ := DataW.trod_int Tryz.underlying3 g2
    injection e0 with e0; injection e1 with e1; injection e2 with e2
    subst e0 e1 e2
    exact ⟨⟨x0, x1, x2⟩, rfl⟩
theorem open_sts {a : Option Addr} {len cap : Nat} {d : DataW H} {pl : List MemPlace} (h : ∃ fuel, DataW.trod enc Tryz.prog W b sp hd fuel 23 [.slice a len cap] = some (d, pl)) : ∃ L : List StH, StsRaw W W.heap.size a len L ∧ len ≤ cap ∧ cap ≤ maxLen ∧ (a = none → len = 0) := by
  obtain ⟨l, h1, h2, h3, h4, h5, h6⟩ := open_els (s := 10) StH.cells (fun s => s.Raw W W.heap.size) Tryz.underlying23 (by kernel_rfl) (by omega) (fun _ => rfl) h open_step
  exact ⟨l, ⟨h2, h6⟩, h3, h4, h5⟩
set_option maxRecDepth 100000 in
theorem open_group (n : Nat) (cs : List Value) (y : DataW H × List MemPlace) (h : DataW.trod enc Tryz.prog W b sp hd n 93 cs = some y) : ∃ g : GrH, cs = g.cells ∧ g.Raw W W.heap.size := by
  have hc : Tryz.prog.cellsOf 3 = 1 := by kernel_rfl
  have hc1 : Tryz.prog.cellsOf 23 = 1 := by kernel_rfl
  have hc3 : Tryz.prog.cellsOf 91 = 3 := by kernel_rfl
  have hc8 : Tryz.prog.cellsOf 93 = 8 := by kernel_rfl
  obtain ⟨hl, hf⟩ := str_at Tryz.underlying93 h
  rw [hc8] at hl
  match cs, hl with
  | [v0, v1, v2, v3, v4, v5, v6, v7], _ =>
    obtain ⟨_, ⟨_, _⟩, g0⟩ := hf 0 23 0 rfl
    obtain ⟨_, _, g1⟩ := hf 1 91 1 rfl
    obtain ⟨_, _, g4⟩ := hf 2 91 4 rfl
    obtain ⟨_, _, g7⟩ := hf 3 3 7 rfl
    simp only [hc, hc1, hc3, List.drop_succ_cons, List.drop_zero, List.take_succ_cons, List.take_zero] at g0 g1 g4 g7
    obtain ⟨A, n, c, rfl⟩ := slice_at Tryz.underlying23 g0
    obtain ⟨L, q1, q2, q3, q4⟩ := open_sts ⟨_, g0⟩
    obtain ⟨p, e1⟩ := open_pin g1
    obtain ⟨p', e4⟩ := open_pin g4
    obtain ⟨x7, e7, _, w7⟩ := DataW.trod_int Tryz.underlying3 g7
    injection e1 with e1 e2; injection e2 with e2 e3; injection e3 with e3
    injection e4 with e4 e5; injection e5 with e5 e6; injection e6 with e6
    injection e7 with e7
    subst e1 e2 e3 e4 e5 e6 e7
    exact ⟨⟨A, n, c, L, p, p', x7⟩, rfl, ⟨q1, by show n ≤ maxLen; omega, q4, i64_bd w7⟩⟩
end
end Go.Proofs.YtmacfoebfpljoaaGreat
namespace Go.Proofs.YtmacfoebfpljoaaGreat
open Go.ChangeShapes Go.WideShapes Go.ChangeAt Go.RowKit
instance : Inhabited Rg := ⟨⟨0, 0, 0⟩⟩
theorem open_rg {H : Type} {enc : TypeId × Value → H} {W : World} {b : Nat} {sp : Nat → Bool} {hd : Bool} (n : Nat) (cs : List Value) (y : DataW H × List MemPlace)
    (h : DataW.trod enc Tryz.prog W b sp hd n 155 cs = some y) : ∃ r : Rg, cs = r.cells ∧ True := by
  have hc : Tryz.prog.cellsOf 3 = 1 := by kernel_rfl
  have hc3 : Tryz.prog.cellsOf 155 = 3 := by kernel_rfl
  obtain ⟨y0, y1, y2, m, _, hl, g0, g1, g2⟩ := Deep.trod_struct3 Tryz.underlying155 h
  simp only [hc, hc3] at hl g0 g1 g2
  match cs, hl with
  | [v0, v1, v2], _ =>
    simp at g0 g1 g2
    obtain ⟨x0, e0, _, _⟩ := DataW.trod_int Tryz.underlying3 g0
    obtain ⟨x1, e1, _, _⟩ := DataW.trod_int Tryz.underlying3 g1
    obtain ⟨x2, e2, _, _⟩ := DataW.trod_int Tryz.underlying3 g2
    injection e0 with e0; injection e1 with e1; injection e2 with e2
    subst e0 e1 e2
    exact ⟨⟨x0, x1, x2⟩, rfl, trivial⟩
theorem open_rgs {H : Type} {enc : TypeId × Value → H} {W : World} {b : Nat} {sp : Nat → Bool} {hd : Bool} {a : Option Addr} {len cap : Nat} {d : DataW H} {pl : List MemPlace}
    (h : ∃ fuel, DataW.trod enc Tryz.prog W b sp hd fuel 94 [.slice a len cap] = some (d, pl)) :
    ∃ l : List Rg, l.length = len ∧ Rd W W.heap.size 3 a len (rgs l) ∧ len ≤ cap ∧ cap ≤ maxLen ∧ (a = none → len = 0) := by
  obtain ⟨l, h1, h2, h3, h4, h5, _⟩ := open_els (s := 3) Rg.cells (fun _ => True) Tryz.underlying94 (by kernel_rfl) (by omega) (fun _ => rfl) h open_rg
  exact ⟨l, h1, h2, h3, h4, h5⟩
end Go.Proofs.YtmacfoebfpljoaaGreat
namespace Go.Proofs.YtmacfoebfpljoaaGreat
open Go.RowKit
set_option linter.unusedVariables false
/-- a deed as it lies -/
structure DeedH where
  k : Int
  g : GrH
  A : Option Addr
  n : Nat
  c : Nat
  m : List Rg
deriving Inhabited
def DeedH.cells (d : DeedH) : List Value := .int .i64 d.k :: (d.g.cells ++ [.slice d.A d.n d.c])
structure DeedH.Raw (w : World) (B : Nat) (d : DeedH) : Prop where
  g : d.g.Raw w B
  m : Rd w B 3 d.A d.n (rgs d.m)
  A : d.A = none → d.n = 0
  n : d.n ≤ maxLen
def deeds (L : List DeedH) : List Value := L.flatMap DeedH.cells
theorem deeds_len (L : List DeedH) : (deeds L).length = L.length * 10 := by
  induction L with
  | nil => rfl
  | cons r l ih => simp only [deeds, List.flatMap_cons, List.length_append] at *; rw [ih]; simp [DeedH.cells, GrH.cells]; omega
def DeedsRaw (w : World) (B : Nat) (A : Option Addr) (n : Nat) (L : List DeedH) : Prop := Rd w B 10 A n (deeds L) ∧ ∀ d ∈ L, d.Raw w B
section
variable {w w' : World} {B B' n : Nat} {A : Option Addr} {L : List DeedH} {d : DeedH}
theorem DeedH.Raw.below (h : d.Raw w B) (hb : Below B w w') : d.Raw w' B := ⟨h.g.below hb, h.m.below hb, h.A, h.n⟩
theorem DeedH.Raw.more (h : d.Raw w B) (hb : B ≤ B') : d.Raw w B' := ⟨h.g.more hb, h.m.more hb, h.A, h.n⟩
theorem DeedsRaw.below (h : DeedsRaw w B A n L) (hb : Below B w w') : DeedsRaw w' B A n L := ⟨h.1.below hb, fun x hx => (h.2 x hx).below hb⟩
theorem DeedsRaw.more (h : DeedsRaw w B A n L) (hb : B ≤ B') : DeedsRaw w B' A n L := ⟨h.1.more hb, fun x hx => (h.2 x hx).more hb⟩
theorem DeedsRaw.len (h : DeedsRaw w B A n L) : L.length = n := by
  have := h.1.1
  rw [deeds_len] at this
  omega
theorem DeedsRaw.at_ {k : Nat} (h : DeedsRaw w B A n L) (hx : L[k]? = some d) : d.Raw w B ∧ ∃ b o, A = some ⟨b, o, none⟩ ∧ b < B ∧ ∀ i, i < 10 → w.cell? ⟨b, o + k * 10 + i, none⟩ = d.cells[i]? :=
  ⟨h.2 d (List.mem_of_getElem? hx), h.1.el DeedH.cells (fun _ => rfl) h.len hx⟩
end
/-- how many steps the deeds have -/
def totD (L : List DeedH) : Nat := (L.map fun d => d.g.n).sum
theorem totD_snoc {L : List DeedH} {q : Nat} {d : DeedH} (hx : L[q]? = some d) : totD (L.take (q + 1)) = totD (L.take q) + d.g.n := by
  unfold totD
  rw [List.take_add_one, hx]
  simp
def SmallD (L : List DeedH) : Prop := ∀ d ∈ L, d.g.n ≤ 20 ∧ SmallS d.g.L ∧ d.n ≤ 20
theorem smalld_take {L : List DeedH} {q : Nat} {d : DeedH} (h : SmallD (L.take q)) (hx : L[q]? = some d) (h1 : d.g.n ≤ 20) (h2 : SmallS d.g.L) (h3 : d.n ≤ 20) : SmallD (L.take (q + 1)) := by
  intro s hs
  rw [List.take_add_one, hx] at hs
  rcases List.mem_append.1 hs with hs | hs
  · exact h s hs
  · simp at hs
    subst hs
    exact ⟨h1, h2, h3⟩
section
variable {H : Type} {enc : TypeId × Value → H} {W : World} {b : Nat} {sp : Nat → Bool} {hd : Bool}
set_option maxRecDepth 100000 in
theorem open_deed (n : Nat) (cs : List Value) (y : DataW H × List MemPlace) (h : DataW.trod enc Tryz.prog W b sp hd n 96 cs = some y) : ∃ d : DeedH, cs = d.cells ∧ d.Raw W W.heap.size := by
  have hc : Tryz.prog.cellsOf 3 = 1 := by kernel_rfl
  have hc1 : Tryz.prog.cellsOf 94 = 1 := by kernel_rfl
  have hc8 : Tryz.prog.cellsOf 93 = 8 := by kernel_rfl
  have hc10 : Tryz.prog.cellsOf 96 = 10 := by kernel_rfl
  obtain ⟨hl, hf⟩ := str_at Tryz.underlying96 h
  rw [hc10] at hl
  match cs, hl with
  | [v0, v1, v2, v3, v4, v5, v6, v7, v8, v9], _ =>
    obtain ⟨_, _, g0⟩ := hf 0 3 0 rfl
    obtain ⟨_, _, g1⟩ := hf 1 93 1 rfl
    obtain ⟨_, ⟨_, _⟩, g9⟩ := hf 2 94 9 rfl
    simp only [hc, hc1, hc8, List.drop_succ_cons, List.drop_zero, List.take_succ_cons, List.take_zero] at g0 g1 g9
    obtain ⟨x0, e0, _, _⟩ := DataW.trod_int Tryz.underlying3 g0
    injection e0 with e0
    subst e0
    obtain ⟨g, eg, hg⟩ := open_group _ _ _ g1
    obtain ⟨A, n, c, rfl⟩ := slice_at Tryz.underlying94 g9
    obtain ⟨m, q1, q2, q3, q4, q5⟩ := open_rgs ⟨_, g9⟩
    refine ⟨⟨x0, g, A, n, c, m⟩, ?_, ⟨hg, q2, q5, by show n ≤ maxLen; omega⟩⟩
    show _ = _ :: (g.cells ++ _)
    rw [← eg]
    rfl
theorem open_deeds {a : Option Addr} {len cap : Nat} {d : DataW H} {pl : List MemPlace} (h : ∃ fuel, DataW.trod enc Tryz.prog W b sp hd fuel 67 [.slice a len cap] = some (d, pl)) : ∃ L : List DeedH, DeedsRaw W W.heap.size a len L ∧ len ≤ cap ∧ cap ≤ maxLen ∧ (a = none → len = 0) := by
  obtain ⟨l, h1, h2, h3, h4, h5, h6⟩ := open_els (s := 10) DeedH.cells (fun s => s.Raw W W.heap.size) Tryz.underlying67 (by kernel_rfl) (by omega) (fun _ => rfl) h open_deed
  exact ⟨l, ⟨h2, h6⟩, h3, h4, h5⟩
end
set_option maxRecDepth 100000 in
set_option maxHeartbeats 8000000 in
theorem few37_any (A : Option Addr) (n c : Nat) (L : List DeedH) (w : World) (h : DeedsRaw w w.heap.size A n L) (hn : n ≤ maxLen) :
    Calls Tryz.prog 39 #[.slice A n c] w (SaysIf (n ≤ 16 ∧ SmallD L ∧ totD L ≤ 24) w) := by
  have hlen := h.len
  have H := Lib.hid h
  have HLEN := Lib.hid hlen
  clear h hlen
  unfold maxLen at hn
  go_enter Tryz.func39, Tryz.ntmps39
  go_wp2
  go_loopw [3, 4] (fun t j wr => ∃ q s : Nat, q ≤ n ∧ q ≤ 16 ∧ s ≤ 20 * q ∧ j = .int .i64 q ∧ t = .int .i64 s ∧ Hid (SmallD (L.take q)) ∧ Hid (s = totD (L.take q)) ∧ Below w.heap.size w wr) (fun _ j _ => n - (intOf j).toNat)
  case atStart => exact ⟨0, 0, by omega, by omega, by omega, rfl, rfl, Lib.hid (fun s hs => by simp at hs), Lib.hid (by simp [totD]), Below.refl _ _⟩
  case round =>
    obtain ⟨q, s, hq, hq16, hs, rfl, rfl, hsm, hst, hbr⟩ := hrel
    by_cases hqn : q < n
    · have e1 : (q : Int) < n := by omega
      by_cases h16 : q < 16
      · have e2 : (q : Int) < 16 := by omega
        obtain ⟨d, hx⟩ : ∃ d, L[q]? = some d := ⟨_, List.getElem?_eq_getElem (by have := HLEN.out; omega)⟩
        obtain ⟨din, b, o, rfl, hb, hcc⟩ := DeedsRaw.at_ (H.out.below hbr) hx
        have hg := (din.g.sts.more hbr.size)
        have hfw := few27_any d.g.A d.g.n d.g.c d.g.L wr hg din.g.n
        have htd := totD_snoc hx
        have HX := Lib.hid hx
        have HTD := Lib.hid htd
        have HFW := Lib.hid hfw
        obtain ⟨dk, ⟨gA, gn, gc, gL, ⟨pk, pa, pb⟩, ⟨bk, ba, bb⟩, glost⟩, mA, mn, mc, ml⟩ := d
        have c1 : wr.cell? ⟨b, o + q * 10 + 1, none⟩ = some (.slice gA gn gc) := by have h1 := hcc 1 (by omega); simpa [DeedH.cells, GrH.cells] using h1
        have c9 : wr.cell? ⟨b, o + q * 10 + 9, none⟩ = some (.slice mA mn mc) := by have h1 := hcc 9 (by omega); simpa [DeedH.cells, GrH.cells] using h1
        have hmn : mn ≤ maxLen := din.n
        unfold maxLen at hmn
        have hB1 := (H.out.1.below hbr)
        have hF : ∀ w', Below wr.heap.size wr w' → w'.cell? ⟨b, o + q * 10 + 1, none⟩ = some (.slice gA gn gc) ∧ w'.cell? ⟨b, o + q * 10 + 9, none⟩ = some (.slice mA mn mc) := fun w' hb' => ⟨(hb'.cell (Nat.lt_of_lt_of_le hb hbr.size)).trans c1, (hb'.cell (Nat.lt_of_lt_of_le hb hbr.size)).trans c9⟩
        have HF := Lib.hid hF
        clear hx hcc din hg hfw htd hB1 hF
        go_wp2_with (go_at_call 9; fail)
        refine HFW.out.mono ?_
        rintro e w1 ⟨v, rfl, hv, hb1⟩
        have d1 := (HF.out w1 hb1).1
        have d9 := (HF.out w1 hb1).2
        clear c1 c9
        cases v with
        | false =>
          go_wp2
          go_ret
          exact ⟨false, rfl, fun h => (by cases h), hbr.trans (hb1.mono hbr.size)⟩
        | true =>
          obtain ⟨hv1, hv2⟩ := hv rfl
          have HV2 := Lib.hid hv2
          clear hv hv2
          by_cases h20 : mn ≤ 20
          · have e4 : ¬ (20 : Int) < mn := by omega
            have e5 : IntKind.i64.wrap ((s : Int) + gn) = ((s + gn : Nat) : Int) := by rw [IntWalk.i64_in _ (by omega)]; omega
            go_wp2
            go_roundw
            case rel => exact ⟨q + 1, s + gn, by omega, by omega, by omega, by go_num, by go_num, Lib.hid (smalld_take hsm.out HX.out hv1 HV2.out h20), Lib.hid (by rw [HTD.out, hst.out]), hbr.trans (hb1.mono hbr.size)⟩
            case measure => simp [intOf]; omega
          · have e4 : (20 : Int) < mn := by omega
            go_wp2
            go_ret
            exact ⟨false, rfl, fun h => (by cases h), hbr.trans (hb1.mono hbr.size)⟩
      · obtain rfl : q = 16 := by omega
        have e3 : ¬ (n : Int) ≤ 16 := by omega
        go_wp2
        go_ret
        exact ⟨false, rfl, fun h => (by cases h), hbr⟩
    · obtain rfl : q = n := by omega
      have e3 : (q : Int) ≤ 16 := by omega
      have hsm' := hsm.out
      have hst' := hst.out
      rw [List.take_of_length_le (by rw [HLEN.out]; omega)] at hsm' hst'
      have HSM := Lib.hid hsm'
      have HST := Lib.hid hst'
      clear hsm' hst'
      by_cases h24 : s ≤ 24
      · have e5 : (s : Int) ≤ 24 := by omega
        go_wp2
        go_ret
        exact ⟨true, rfl, fun _ => ⟨by omega, HSM.out, by rw [← HST.out]; exact h24⟩, hbr⟩
      · have e5 : ¬ (s : Int) ≤ 24 := by omega
        go_wp2
        go_ret
        exact ⟨false, rfl, fun h => (by cases h), hbr⟩
theorem foldV_rev (Ms : List (List Rg)) (V : List GrC) : foldV Ms V.reverse = (foldC Ms V).reverse := by
  unfold foldV
  split
  · rename_i h
    subst h
    simp [foldC]
  · rw [List.reverse_reverse]
theorem extV_rev (xs : List StC) (V : List GrC) : extV xs V.reverse = (V.modify 0 (extC xs)).reverse := by
  unfold extV
  rw [List.reverse_reverse]
theorem push_rev (g : GrC) (V : List GrC) : V.reverse ++ [g] = (g :: V).reverse := by simp
theorem trim_rev (D : Nat) (hD : 1 ≤ D) (U : List GrC) (h : totC U ≤ 2000) : trimV D U.reverse = U.length - D ∧ U.reverse.drop (trimV D U.reverse) = (U.take (U.length - (U.length - D))).reverse := by
  have h1 : trimV D U.reverse = U.length - D := by
    rw [trimV_is D hD _ (by rw [totC_rev]; exact h), List.length_reverse]
  refine ⟨h1, ?_⟩
  rw [h1, List.drop_reverse]
/-- blocks that the program's stack writes -/
def Yof (bs : Nat) (lv mv : Value) : Nat → Prop := fun i => i = bs ∨ lv.ownBlock = some i ∨ mv.ownBlock = some i
theorem StkAt.yof {w : World} {base bs : Nat} {lv mv : Value} {depth : Int} {L : List GrH} {Ms : List MpH} (h : StkAt w base bs lv mv depth L Ms) : ∀ i, Yof bs lv mv i → base ≤ i ∧ i < w.heap.size := by
  intro i hi
  rcases hi with rfl | hi | hi
  · exact ⟨h.le, def_lt' h.k⟩
  · exact ⟨own_ge h.l i hi, own_lt h.l i hi⟩
  · exact ⟨own_ge h.m i hi, own_lt h.m i hi⟩
/-- both stacks, and what they have in common: F is the groups as they are folded; the document's lies off the blocks Z, too; Y is what the program's writes -/
structure Duo (w0 w : World) (D : Nat) (bs : Nat) (A : Option Addr) (n c : Nat) (A' : Option Addr) (n' S k : Nat) (F : List GrC) (Z Y : Nat → Prop) : Prop where
  le : n ≤ c
  below : Below w0.heap.size w0 w
  z : ∀ i, Z i → w0.heap.size ≤ i ∧ i < w.heap.size
  all : ∃ base lv mv L Ms V, Y = Yof bs lv mv ∧ F = foldC (Ms.map MpH.l) V ∧ w0.heap.size ≤ base ∧ StkAt w base bs lv mv D L Ms ∧ RStk w (fun i => Yof bs lv mv i ∨ Z i) A n A' n' V (Ms.map MpH.l) ∧ L.map GrH.val = V.reverse ∧ totC V ≤ S ∧ Ms.length ≤ k ∧ V.length ≤ D
/-- what the program's step writes later is what it wrote before, or new -/
theorem sub_of {w w1 w2 : World} {bs : Nat} {lv mv lv1 mv1 : Value} (h : StkTo bs lv mv lv1 mv1 w1 w2) (hz : w.heap.size ≤ w1.heap.size) : ∀ i, Yof bs lv1 mv1 i → Yof bs lv mv i ∨ w.heap.size ≤ i := by
  intro i hi
  rcases hi with rfl | hi | hi
  · exact .inl (.inl rfl)
  · rcases h.2.1 i hi with h2 | h2
    · exact .inl (.inr (.inl h2))
    · exact .inr (Nat.le_trans hz h2)
  · rcases h.2.2 i hi with h2 | h2
    · exact .inl (.inr (.inr h2))
    · exact .inr (Nat.le_trans hz h2)
abbrev deedA (d : DeedH) : Array Value := #[.int .i64 d.k, .slice d.g.A d.g.n d.g.c, .int .i64 d.g.pin.k, .int .i64 d.g.pin.a, .int .i64 d.g.pin.b, .int .i64 d.g.back.k, .int .i64 d.g.back.a, .int .i64 d.g.back.b, .int .i64 d.g.lost, .slice d.A d.n d.c]
/-- likewise, where some blocks besides are left out -/
theorem duo_ownX {w w' : World} {bs : Nat} {lv mv lv' mv' : Value} {A A' : Option Addr} {n n' : Nat} {V : List GrC} {Ms : List (List Rg)} (X : Nat → Prop) (h : RStk w (fun i => Yof bs lv mv i ∨ X i) A n A' n' V Ms) (hs : StkTo bs lv mv lv' mv' w w') : RStk w' (fun i => Yof bs lv' mv' i ∨ X i) A n A' n' V Ms := by
  have h1 : RStk w (fun i => (Yof bs lv mv i ∨ Yof bs lv' mv' i) ∨ X i) A n A' n' V Ms := h.wide (fun i hi => by
    rcases hi with (hi | rfl | hi | hi) | hi
    · exact .inl (.inl hi)
    · exact .inl (.inl (.inl rfl))
    · rcases hs.2.1 i hi with h2 | h2
      · exact .inl (.inl (.inr (.inl h2)))
      · exact .inr h2
    · rcases hs.2.2 i hi with h2 | h2
      · exact .inl (.inl (.inr (.inr h2)))
      · exact .inr h2
    · exact .inl (.inr hi))
  have h2 : Stir (fun i => (Yof bs lv mv i ∨ Yof bs lv' mv' i) ∨ X i) w w' := ⟨hs.1.os, hs.1.tape, hs.1.output, hs.1.size, fun i hi hx => hs.1.block i hi (fun e => hx (.inl (.inl e)))⟩
  exact (h1.stir h2).wide (fun i hi => by
    rcases hi with hi | hi
    · exact .inl (.inl (.inr hi))
    · exact .inl (.inr hi))
theorem StkAt.grown {w w' : World} {base bs : Nat} {lv mv : Value} {depth : Int} {L : List GrH} {Ms : List MpH} (h : StkAt w base bs lv mv depth L Ms) {b : Nat} {cs : Array Value} (hk : Bk w b 88 cs) (hg : w.grownBy w' (some b)) (hne : b ≠ bs) : StkAt w' base bs lv mv depth L Ms :=
  ⟨h.k.grown hg (fun e => hne (by injection e)), h.le, own_grow h.l hg (fun x e => by injection e with e; subst e; exact own_ne h.l hk (by decide)), fun g hgm => (h.g g hgm).grown hk hg (by decide) (by decide) (by decide), own_grow h.m hg (fun x e => by injection e with e; subst e; exact own_ne h.m hk (by decide)), fun m hm => ⟨own_grow (h.ms m hm).1 hg (fun x e => by injection e with e; subst e; exact own_ne (h.ms m hm).1 hk (by decide)), (h.ms m hm).2⟩, h.nL, h.nM, h.bd⟩
/-- a deed is done -/
def DoesOut (w0 w : World) (D S k : Nat) (F : List GrC) (Z Y : Nat → Prop) (e : Ending) (w' : World) : Prop := ∃ bs A n c A' n' c' Y', e = .returned (.tuple #[.pointer (some ⟨bs, 0, none⟩), .agg #[.int .i64 D, .slice A n c, .slice A' n' c'], .bool true]) ∧ Duo w0 w' D bs A n c A' n' S k F Z Y' ∧ Stir Y w w' ∧ ∀ i, Y' i → Y i ∨ w.heap.size ≤ i
set_option maxRecDepth 100000 in
set_option maxHeartbeats 8000000 in
theorem does_fold (w0 w : World) (D : Nat) (bs : Nat) (A : Option Addr) (n c : Nat) (A' : Option Addr) (n' c' S k : Nat) (d : DeedH) (F : List GrC) (Z Y : Nat → Prop) (h : Duo w0 w D bs A n c A' n' S k F Z Y) (hD : 1 ≤ D ∧ D ≤ 200) (hS : S ≤ 500) (hdk : d.k = 3) :
    Calls Tryz.prog 40 #[.pointer (some ⟨bs, 0, none⟩), .agg #[.int .i64 D, .slice A n c, .slice A' n' c'], .agg (deedA d)] w (DoesOut w0 w D S k F Z Y) := by
  obtain ⟨hnc, hb0, hZ, base, lv, mv, L, Ms, V, rfl, rfl, hbase, hs, hr, hLV, htot, hk, hVD⟩ := h
  have hb1 : Below w.heap.size w (((w.alloc (.cells #[.int .i64 D, .slice A n c, .slice A' n' c'] 88)).alloc (.cells (deedA d) 96)).alloc (.cells #[.int .i64 0, .slice none 0 0, .slice none 0 0] 88)) := belowA
  have k1 : Bk (((w.alloc (.cells #[.int .i64 D, .slice A n c, .slice A' n' c'] 88)).alloc (.cells (deedA d) 96)).alloc (.cells #[.int .i64 0, .slice none 0 0, .slice none 0 0] 88)) w.heap.size 88 #[.int .i64 D, .slice A n c, .slice A' n' c'] := ((Bk.new w _ _).alloc _).alloc _
  have k2 : Bk (((w.alloc (.cells #[.int .i64 D, .slice A n c, .slice A' n' c'] 88)).alloc (.cells (deedA d) 96)).alloc (.cells #[.int .i64 0, .slice none 0 0, .slice none 0 0] 88)) (w.heap.size + 1) 96 (deedA d) := Bk.alloc (Bk.made _ _ (by simp)) _
  have k3 : Bk (((w.alloc (.cells #[.int .i64 D, .slice A n c, .slice A' n' c'] 88)).alloc (.cells (deedA d) 96)).alloc (.cells #[.int .i64 0, .slice none 0 0, .slice none 0 0] 88)) (w.heap.size + 1 + 1) 88 #[.int .i64 0, .slice none 0 0, .slice none 0 0] := Bk.made _ _ (by simp)
  have hs1 := hs.below hb1
  have hr1 := (hr.wide (Y' := fun i => Yof bs lv mv i ∨ (Z i ∨ i = w.heap.size + 1 + 1)) (fun i hi => by rcases hi with hi | hi | hi; (· exact .inl (.inl hi)); (· exact .inl (.inr hi)); (· exact .inr (by omega)))).ext hb1
  have hyl := fun i hi => (hs.yof i hi).2
  have hfo := fold_any base bs lv mv D L Ms _ hs1
  have HFO := Lib.hid hfo
  have HR1 := Lib.hid hr1
  have HS := Lib.hid hs
  have HYL := Lib.hid hyl
  have HLV := Lib.hid hLV
  have c0 := (k2.cell 0).trans (show (deedA d)[0]? = some (Value.int .i64 3) by show some (Value.int .i64 d.k) = _; rw [hdk])
  clear hs hr hs1 hr1 hyl hfo hLV
  go_enter Tryz.func40, Tryz.ntmps40
  go_wp2_with (go_at_call 28; fail)
  generalize hwE : ((w.alloc (.cells #[.int .i64 D, .slice A n c, .slice A' n' c'] 88)).alloc (.cells (deedA d) 96)).alloc (.cells #[.int .i64 0, .slice none 0 0, .slice none 0 0] 88) = w1 at *
  clear hwE c0
  have hz1 := hb1.size
  have hl3 := def_lt' k3
  refine HFO.out.mono ?_
  rintro e w2 ⟨⟨v, rfl⟩, lv1, mv1, L1, Ms1, hs2, hV1, hM1, hto⟩
  obtain rfl : Ms1 = [] := by simpa using hM1
  have hz2 := hto.1.size
  have hnY : ∀ i, w.heap.size ≤ i → ¬ Yof bs lv mv i := fun i hi hy => by have := HYL.out i hy; omega
  have m1 : Bk w2 w.heap.size 88 #[.int .i64 D, .slice A n c, .slice A' n' c'] := (hto.1.block _ (def_lt' k1) (hnY _ (by omega))).trans k1
  have m3 : Bk w2 (w.heap.size + 1 + 1) 88 #[.int .i64 0, .slice none 0 0, .slice none 0 0] := (hto.1.block _ hl3 (hnY _ (by omega))).trans k3
  have hb2 : Below w0.heap.size w0 w2 := (hb0.trans (hb1.mono hb0.size)).trans ((hto.below (HS.out.below hb1)).mono hbase)
  have hr2 := duo_ownX _ HR1.out hto
  have hY2 : ∀ i, Yof bs lv1 mv1 i ∨ (Z i ∨ i = w.heap.size + 1 + 1) → i < w2.heap.size := fun i hi => by rcases hi with hi | hi | hi; (· exact (hs2.yof i hi).2); (· have := (hZ i hi).2; omega); (· omega)
  have hrf := rfold_any D A n c A' n' c' V (Ms.map MpH.l) w2 (fun i => Yof bs lv1 mv1 i ∨ (Z i ∨ i = w.heap.size + 1 + 1)) hY2 hnc hr2
  have HRF := Lib.hid hrf
  have HS2 := Lib.hid hs2
  have HV1 := Lib.hid hV1
  have x0 := m1.cell 0; have x1 := m1.cell 1; have x2 := m1.cell 2
  dsimp at x0 x1 x2
  have hst2 : Stir (Yof bs lv mv) w w2 := (Stir.of_below hb1).trans hto.1
  have hsub := sub_of hto hz1
  have HST := Lib.hid hst2
  have HSUB := Lib.hid hsub
  clear hrf hr2 hs2 hto HFO HR1 hV1 k1 k2 k3 hM1 hnY hst2 hsub
  go_wp2_with (go_at_call 45; fail)
  refine HRF.out.mono ?_
  rintro e w3 ⟨v3, rfl, A3, n3, c3, A4, n4, c4, rfl, hc3, hr3, hb3⟩
  have y3 := m3.ext hb3
  have q0 := y3.cell 0; have q1 := y3.cell 1; have q2 := y3.cell 2; have qf := y3.frozen; have ql := def_lt' y3
  dsimp at q0 q1 q2
  clear x0 x1 x2
  have z3 : Bk (((w3.setCell ⟨w.heap.size + 1 + 1, 0, none⟩ (.int .i64 D)).setCell ⟨w.heap.size + 1 + 1, 1, none⟩ (.slice A3 n3 c3)).setCell ⟨w.heap.size + 1 + 1, 2, none⟩ (.slice A4 n4 c4)) (w.heap.size + 1 + 1) 88 #[.int .i64 D, .slice A3 n3 c3, .slice A4 n4 c4] := ((y3.set_ 0 _).set_ 1 _).set_ 2 _
  have g3 : w3.grownBy (((w3.setCell ⟨w.heap.size + 1 + 1, 0, none⟩ (.int .i64 D)).setCell ⟨w.heap.size + 1 + 1, 1, none⟩ (.slice A3 n3 c3)).setCell ⟨w.heap.size + 1 + 1, 2, none⟩ (.slice A4 n4 c4)) (some (w.heap.size + 1 + 1)) := gr_set (p := ⟨w.heap.size + 1 + 1, 2, none⟩) (gr_set (p := ⟨w.heap.size + 1 + 1, 1, none⟩) (gr_set (p := ⟨w.heap.size + 1 + 1, 0, none⟩) (World.grownBy.refl _ _) (.inl rfl) _) (.inl rfl) _) (.inl rfl) _
  have hbsl := def_lt' HS.out.k
  have hs4 := (HS2.out.below hb3).grown y3 g3 (by omega)
  have hr4 := (hr3.stir (Stir.of_gr g3 (fun i e => by injection e with e; exact .inr (.inr e.symm)))).wide (Y' := fun i => Yof bs lv1 mv1 i ∨ Z i) (fun i hi => by rcases hi with hi | hi; (· exact .inl (.inl hi)); (· exact .inl (.inr (.inl hi))))
  have hb3' := hb2.trans (hb3.mono hb2.size)
  have hb4 : Below w0.heap.size w0 (((w3.setCell ⟨w.heap.size + 1 + 1, 0, none⟩ (.int .i64 D)).setCell ⟨w.heap.size + 1 + 1, 1, none⟩ (.slice A3 n3 c3)).setCell ⟨w.heap.size + 1 + 1, 2, none⟩ (.slice A4 n4 c4)) := hb3'.grown g3 hb3'.size (fun k e => by injection e with e; subst e; have := hb0.size; omega)
  have hst4 := (HST.out.trans (Stir.of_below hb3)).fresh (Stir.of_gr (X := fun i => i = w.heap.size + 1 + 1) g3 (fun i e => by injection e with e; exact e.symm)) (fun i e => .inr (by have : i = w.heap.size + 1 + 1 := e; omega))
  have hz4 := hst4.size
  have HST4 := Lib.hid hst4
  clear hst4
  go_wp2
  generalize ((w3.setCell ⟨w.heap.size + 1 + 1, 0, none⟩ (.int .i64 D)).setCell ⟨w.heap.size + 1 + 1, 1, none⟩ (.slice A3 n3 c3)).setCell ⟨w.heap.size + 1 + 1, 2, none⟩ (.slice A4 n4 c4) = w4 at *
  clear q0 q1 q2
  have q0 := z3.cell 0; have q1 := z3.cell 1; have q2 := z3.cell 2
  dsimp at q0 q1 q2
  exact bodyPost_ret (v := .tuple #[.pointer (some ⟨bs, 0, none⟩), .agg #[.int .i64 D, .slice A3 n3 c3, .slice A4 n4 c4], .bool true]) (by simp [results, Tryz.results40, go_sem, q0, q1, q2]) rfl ⟨bs, A3, n3, c3, A4, n4, c4, Yof bs lv1 mv1, rfl, ⟨hc3, hb4, fun i hi => ⟨(hZ i hi).1, Nat.lt_of_lt_of_le (hZ i hi).2 hz4⟩, base, lv1, mv1, L1, [], foldC (Ms.map MpH.l) V, rfl, rfl, hbase, hs4, hr4, by rw [HV1.out, HLV.out, foldV_rev], Nat.le_trans (totC_fold _ _) htot, Nat.zero_le _, by rw [foldC_len]; exact hVD⟩, HST4.out, HSUB.out⟩
theorem own_stirX {w w' : World} {X : Nat → Prop} {base size n : Nat} {e : TypeId} {v : Value} {xs : List Value} (h : w.ownsRow base e size v n xs) (hs : Stir X w w') (hX : ∀ i, X i → i < base) : w'.ownsRow base e size v n xs := by
  refine ⟨h.1, ?_⟩
  rcases h.2 with h0 | ⟨g, cap, cur, h1, h2, h3, h4⟩
  · exact .inl h0
  · refine .inr ⟨g, cap, cur, h1, h2, ?_, h4⟩
    have hlt : g < w.heap.size := by
      rcases Nat.lt_or_ge g w.heap.size with h | h
      · exact h
      · rw [Array.getElem?_eq_none h] at h3; cases h3
    rw [hs.block g hlt (fun hx => by have := hX g hx; omega)]
    exact h3
theorem GrH.Own.stirX {w w' : World} {X : Nat → Prop} {base : Nat} {g : GrH} (h : g.Own w base) (hs : Stir X w w') (hX : ∀ i, X i → i < base) : g.Own w' base :=
  ⟨own_stirX h.o hs hX, fun s hss => ⟨own_stirX (h.l s hss).1 hs hX, own_stirX (h.l s hss).2 hs hX, (h.l s hss).3, (h.l s hss).4⟩, h.n⟩
theorem StkAt.stirX {w w' : World} {X : Nat → Prop} {base bs : Nat} {lv mv : Value} {depth : Int} {L : List GrH} {Ms : List MpH} (h : StkAt w base bs lv mv depth L Ms) (hs : Stir X w w') (hX : ∀ i, X i → i < base) : StkAt w' base bs lv mv depth L Ms :=
  ⟨(hs.block bs (def_lt' h.k) (fun hx => by have := hX bs hx; have := h.le; omega)).trans h.k, h.le, own_stirX h.l hs hX, fun g hg => (h.g g hg).stirX hs hX, own_stirX h.m hs hX, fun m hm => ⟨own_stirX (h.ms m hm).1 hs hX, (h.ms m hm).2⟩, h.nL, h.nM, h.bd⟩
set_option maxRecDepth 100000 in
set_option maxHeartbeats 8000000 in
theorem does_copy (w0 w : World) (D : Nat) (bs : Nat) (A : Option Addr) (n c : Nat) (A' : Option Addr) (n' c' S k : Nat) (d : DeedH) (F : List GrC) (Z Y : Nat → Prop) (h : Duo w0 w D bs A n c A' n' S k F Z Y) (hD : 1 ≤ D ∧ D ≤ 200) (hS : S ≤ 500) (hdk : d.k ≠ 0 ∧ d.k ≠ 1 ∧ d.k ≠ 2 ∧ d.k ≠ 3 ∧ d.k ≠ 4) :
    Calls Tryz.prog 40 #[.pointer (some ⟨bs, 0, none⟩), .agg #[.int .i64 D, .slice A n c, .slice A' n' c'], .agg (deedA d)] w (DoesOut w0 w D S k F Z Y) := by
  obtain ⟨hnc, hb0, hZ, base, lv, mv, L, Ms, V, rfl, rfl, hbase, hs, hr, hLV, htot, hk, hVD⟩ := h
  have hb1 : Below w.heap.size w (((w.alloc (.cells #[.int .i64 D, .slice A n c, .slice A' n' c'] 88)).alloc (.cells (deedA d) 96)).alloc (.cells #[.int .i64 0, .slice none 0 0, .slice none 0 0] 88)) := belowA
  have k1 : Bk (((w.alloc (.cells #[.int .i64 D, .slice A n c, .slice A' n' c'] 88)).alloc (.cells (deedA d) 96)).alloc (.cells #[.int .i64 0, .slice none 0 0, .slice none 0 0] 88)) w.heap.size 88 #[.int .i64 D, .slice A n c, .slice A' n' c'] := ((Bk.new w _ _).alloc _).alloc _
  have k2 : Bk (((w.alloc (.cells #[.int .i64 D, .slice A n c, .slice A' n' c'] 88)).alloc (.cells (deedA d) 96)).alloc (.cells #[.int .i64 0, .slice none 0 0, .slice none 0 0] 88)) (w.heap.size + 1) 96 (deedA d) := Bk.alloc (Bk.made _ _ (by simp)) _
  have k3 : Bk (((w.alloc (.cells #[.int .i64 D, .slice A n c, .slice A' n' c'] 88)).alloc (.cells (deedA d) 96)).alloc (.cells #[.int .i64 0, .slice none 0 0, .slice none 0 0] 88)) (w.heap.size + 1 + 1) 88 #[.int .i64 0, .slice none 0 0, .slice none 0 0] := Bk.made _ _ (by simp)
  have hs1 := hs.below hb1
  have hr1 := (hr.wide (Y' := fun i => Yof bs lv mv i ∨ (Z i ∨ i = w.heap.size + 1 + 1)) (fun i hi => by rcases hi with hi | hi | hi; (· exact .inl (.inl hi)); (· exact .inl (.inr hi)); (· exact .inr (by omega)))).ext hb1
  have hyl := fun i hi => (hs.yof i hi).2
  have hfo := scopy_any base bs lv mv D L Ms _ hs1
  have HFO := Lib.hid hfo
  have HR1 := Lib.hid hr1
  have HS := Lib.hid hs
  have HYL := Lib.hid hyl
  have HLV := Lib.hid hLV
  have c0 := (k2.cell 0).trans (show (deedA d)[0]? = some (Value.int .i64 d.k) from rfl)
  obtain ⟨e0, e1, e2, e3, e4⟩ := hdk
  have f0 : (d.k == 0) = false := beq_false_of_ne e0
  have f1 : (d.k == 1) = false := beq_false_of_ne e1
  have f2 : (d.k == 2) = false := beq_false_of_ne e2
  have f3 : (d.k == 3) = false := beq_false_of_ne e3
  have f4 : (d.k == 4) = false := beq_false_of_ne e4
  clear hs hr hs1 hr1 hyl hfo hLV
  go_enter Tryz.func40, Tryz.ntmps40
  go_wp2_with (go_at_call 36; fail)
  generalize hwE : ((w.alloc (.cells #[.int .i64 D, .slice A n c, .slice A' n' c'] 88)).alloc (.cells (deedA d) 96)).alloc (.cells #[.int .i64 0, .slice none 0 0, .slice none 0 0] 88) = w1 at *
  clear hwE c0
  have hz1 := hb1.size
  refine HFO.out.mono ?_
  rintro e w2 ⟨bs2, lv2, mv2, L2, Ms2, rfl, hs2, hV2, hM2, hb2⟩
  have hsold := (HS.out.below hb1).below hb2
  have hpu := push_any base bs lv mv D L Ms ⟨none, 0, 0, [], ⟨0, 0, 0⟩, ⟨0, 0, 0⟩, 7⟩ w2 hsold (fun w' _ => ⟨StsIn.nil_ _ _ _, by show (0 : Nat) ≤ 1000000; omega, fun _ => rfl⟩) (by show (0 : Nat) ≤ 1000; omega) (by show -9223372036854775808 ≤ (7 : Int) ∧ (7 : Int) ≤ 9223372036854775807; omega) (by have h1 := congrArg List.length HLV.out; simp only [List.length_map, List.length_reverse] at h1; omega)
  have HPU := Lib.hid hpu
  clear hpu hsold
  go_wp2_with (go_at_call 30; fail)
  refine HPU.out.mono ?_
  rintro e w3 ⟨rfl, lv3, mv3, L3, Ms3, hs3, hV3, hM3, t3⟩
  have hfo3 := fold_any base bs lv3 mv3 D L3 Ms3 w3 hs3
  have HFO3 := Lib.hid hfo3
  have hl3 : Hid (StkTo bs lv mv lv3 mv3 w2 w3) := Lib.hid t3
  clear hfo3 t3 HPU
  go_wp2_with (go_at_call 28; fail)
  refine HFO3.out.mono ?_
  rintro e w4 ⟨⟨v, rfl⟩, lv4, mv4, L4, Ms4, hs4, hV4, hM4, t4⟩
  have hto : StkTo bs lv mv lv4 mv4 w2 w4 := hl3.out.trans t4
  have hbase2 : ∀ i, Yof bs lv mv i → i < w1.heap.size := fun i hi => Nat.lt_of_lt_of_le (HYL.out i hi) hz1
  have hnew := hs2.stirX hto.1 hbase2
  have hz2 := hb2.size
  have hz4 := hto.1.size
  have hl3' := def_lt' k3
  have hnY : ∀ i, w.heap.size ≤ i → ¬ Yof bs lv mv i := fun i hi hy => by have := HYL.out i hy; omega
  have m1 : Bk w4 w.heap.size 88 #[.int .i64 D, .slice A n c, .slice A' n' c'] := (hto.1.block _ (by omega) (hnY _ (by omega))).trans (k1.ext hb2)
  have m3 : Bk w4 (w.heap.size + 1 + 1) 88 #[.int .i64 0, .slice none 0 0, .slice none 0 0] := (hto.1.block _ (by omega) (hnY _ (by omega))).trans (k3.ext hb2)
  have hF : ∀ W, (Bk W w.heap.size 88 #[.int .i64 D, .slice A n c, .slice A' n' c'] ∧ Bk W (w.heap.size + 1 + 1) 88 #[.int .i64 0, .slice none 0 0, .slice none 0 0]) → W.cell? ⟨w.heap.size, 0, none⟩ = some (.int .i64 D) ∧ W.cell? ⟨w.heap.size, 1, none⟩ = some (.slice A n c) ∧ W.cell? ⟨w.heap.size, 2, none⟩ = some (.slice A' n' c') := fun W h => ⟨h.1.cell 0, h.1.cell 1, h.1.cell 2⟩
  have HF := Lib.hid hF
  have x0 := m1.cell 0; have x1 := m1.cell 1; have x2 := m1.cell 2
  have y0 := m3.cell 0; have y1 := m3.cell 1; have y2 := m3.cell 2; have yf := m3.frozen; have yl := def_lt' m3
  dsimp at x0 x1 x2 y0 y1 y2
  have HNEW := Lib.hid hnew
  have HYN := Lib.hid (show ∀ i, Yof bs2 lv2 mv2 i → w1.heap.size ≤ i from fun i hi => (hs2.yof i hi).1)
  have HBB := Lib.hid (show Below w0.heap.size w0 w4 from ((hb0.trans (hb1.mono hb0.size)).trans (hb2.mono (Nat.le_trans hb0.size hz1))).trans ((hto.below ((HS.out.below hb1).below hb2)).mono hbase))
  have HTO := Lib.hid hto
  clear hnew hto hs2 hs3 hs4 hbase2 hnY k1 k2 k3 HFO HFO3 hl3 t4 hF
  go_upto_region 25 with fail
  go_region
  have g5 : w4.grownBy (((w4.setCell ⟨w.heap.size + 1 + 1, 0, none⟩ (.int .i64 D)).setCell ⟨w.heap.size + 1 + 1, 1, none⟩ (.slice A n c)).setCell ⟨w.heap.size + 1 + 1, 2, none⟩ (.slice A' n' c')) (some (w.heap.size + 1 + 1)) := gr_set (p := ⟨w.heap.size + 1 + 1, 2, none⟩) (gr_set (p := ⟨w.heap.size + 1 + 1, 1, none⟩) (gr_set (p := ⟨w.heap.size + 1 + 1, 0, none⟩) (World.grownBy.refl _ _) (.inl rfl) _) (.inl rfl) _) (.inl rfl) _
  have z5 : Bk (((w4.setCell ⟨w.heap.size + 1 + 1, 0, none⟩ (.int .i64 D)).setCell ⟨w.heap.size + 1 + 1, 1, none⟩ (.slice A n c)).setCell ⟨w.heap.size + 1 + 1, 2, none⟩ (.slice A' n' c')).drew (w.heap.size + 1 + 1) 88 #[.int .i64 D, .slice A n c, .slice A' n' c'] := (((m3.set_ 0 _).set_ 1 _).set_ 2 _).drew
  have hbsn : w.heap.size + 1 + 1 ≠ bs2 := by have := HYN.out bs2 (.inl rfl); omega
  have hs5 := (HNEW.out.grown m3 g5 hbsn).below ((Below.refl _ _).drew)
  have hr5 := ((((HR1.out.wide (Y' := fun i => (Yof bs lv mv i ∨ (Z i ∨ i = w.heap.size + 1 + 1)) ∨ Yof bs2 lv2 mv2 i) (fun i hi => by rcases hi with hi | hi; (· exact .inl hi); (· exact .inr (HYN.out i hi)))).ext hb2).stir (w' := w4) ⟨HTO.out.1.os, HTO.out.1.tape, HTO.out.1.output, HTO.out.1.size, fun i hi hx => HTO.out.1.block i hi (fun e => hx (.inl (.inl e)))⟩).stir (Stir.of_gr g5 (fun i e => by injection e with e; exact .inl (.inr (.inr e.symm))))).ext ((Below.refl _ _).drew)
  have hr6 := hr5.wide (Y' := fun i => Yof bs2 lv2 mv2 i ∨ Z i) (fun i hi => by rcases hi with hi | hi; (· exact .inl (.inr hi)); (· exact .inl (.inl (.inr (.inl hi)))))
  have hb5 := (HBB.out.grown g5 HBB.out.size (fun k e => by injection e with e; subst e; have := hb0.size; omega)).drew
  have hst5 : Stir (Yof bs lv mv) w _ := ((((Stir.of_below (hb1.trans (hb2.mono hz1))).trans HTO.out.1).fresh (Stir.of_gr (X := fun i => i = w.heap.size + 1 + 1) g5 (fun i e => by injection e with e; exact e.symm)) (fun i e => .inr (by have : i = w.heap.size + 1 + 1 := e; omega)))).trans (Stir.of_below ((Below.refl _ _).drew))
  have HST5 := Lib.hid hst5
  have hz5 := hst5.size
  clear hr5 x0 x1 x2 y0 y1 y2 hst5
  generalize (((w4.setCell ⟨w.heap.size + 1 + 1, 0, none⟩ (.int .i64 D)).setCell ⟨w.heap.size + 1 + 1, 1, none⟩ (.slice A n c)).setCell ⟨w.heap.size + 1 + 1, 2, none⟩ (.slice A' n' c')).drew = w5 at *
  have q0 := z5.cell 0; have q1 := z5.cell 1; have q2 := z5.cell 2
  dsimp at q0 q1 q2
  go_wp2
  exact bodyPost_ret (v := .tuple #[.pointer (some ⟨bs2, 0, none⟩), .agg #[.int .i64 D, .slice A n c, .slice A' n' c'], .bool true]) (by simp [results, Tryz.results40, go_sem, q0, q1, q2]) rfl ⟨bs2, A, n, c, A', n', c', Yof bs2 lv2 mv2, rfl, ⟨hnc, hb5, fun i hi => ⟨(hZ i hi).1, Nat.lt_of_lt_of_le (hZ i hi).2 hz5⟩, w1.heap.size, lv2, mv2, L2, Ms2, V, rfl, by rw [hM2], Nat.le_trans hb0.size hz1, hs5, by rw [hM2]; exact hr6, by rw [hV2, HLV.out], htot, by have h1 := congrArg List.length hM2; simp only [List.length_map] at h1; omega, hVD⟩, HST5.out, fun i hi => .inr (Nat.le_trans hz1 (HYN.out i hi))⟩
theorem rd_av {w : World} {B size n : Nat} {A : Option Addr} {xs : List Value} {Y : Nat → Prop} (h : Rd w B size A n xs) (hY : ∀ i, Y i → B ≤ i) : Av Y A n := by
  intro hn a ha hy
  obtain ⟨b, o, e, hb, _⟩ := h.2 hn
  rw [ha] at e
  injection e with e
  subst e
  have h2 := hY _ hy
  simp only at h2
  omega
theorem deed_in {w0 w : World} {d : DeedH} (h : d.Raw w0 w0.heap.size) (h1 : d.g.n ≤ 20) (h2 : SmallS d.g.L) (hb : Below w0.heap.size w0 w) : d.g.In w w.heap.size :=
  ⟨((h.g.sts.in_ (fun s hs => by have := h2 s hs; omega)).below hb).more hb.size, by omega, h.g.A⟩
theorem deed_x {w0 w : World} {d : DeedH} {Y : Nat → Prop} (h : d.Raw w0 w0.heap.size) (h1 : d.g.n ≤ 20) (h2 : SmallS d.g.L) (hb : Below w0.heap.size w0 w) (hY : ∀ i, Y i → w0.heap.size ≤ i) : GrX w Y d.g :=
  ⟨deed_in h h1 h2 hb, by omega, fun s hs => ⟨by have := h2 s hs; omega, by have := h2 s hs; omega, rd_av (h.g.sts.2 s hs).rd hY, rd_av (h.g.sts.2 s hs).rd' hY⟩, rd_av h.g.sts.1 hY, h.g.lost⟩
set_option maxRecDepth 100000 in
set_option maxHeartbeats 1000000 in
theorem note_no (bs : Nat) (Am : Option Addr) (nm cm : Nat) (m : List Rg) (w : World) (hm : Rd w w.heap.size 3 Am nm (rgs m)) (hn : nm ≤ 1000) (hr : rightM m = false) :
    Calls Tryz.prog 31 #[.pointer (some ⟨bs, 0, none⟩), .slice Am nm cm] w fun e w' => e = .returned (.int .i64 1) ∧ Below w.heap.size w w' := by
  have hri := right_any Am nm cm m w (by unfold maxLen; omega) (fun _ => hm) hm.rlen
  rw [hr] at hri
  have HRI := Lib.hid hri
  clear hri hm hr
  go_enter Tryz.func31, Tryz.ntmps31
  go_wp2_with (go_at_call 80; fail)
  refine HRI.out.mono ?_
  rintro e w1 ⟨rfl, hb1⟩
  go_wp2
  go_ret
  exact ⟨rfl, hb1⟩
end Go.Proofs.YtmacfoebfpljoaaGreat
