/- stack: New, Note, Maps, Groups -/
import Derived.Test.YtmacfoebfpljoaaSg
import Derived.Test.YtmacfoebfpljoaaCmr
namespace Go.Proofs.Ytmacfoebfpljoaa
open Go.RowKit

theorem rgs_one : ∀ (l : List Rg), ∀ u ∈ rgs l, u.oneCell' = true := by
  intro l u hu
  obtain ⟨r, _, hr⟩ := List.mem_flatMap.1 hu
  simp only [Rg.cells, List.mem_cons, List.not_mem_nil, or_false] at hr
  rcases hr with rfl | rfl | rfl <;> rfl
theorem info_rgs : (Try.prog.info? 23).map (fun i => (i.zero, i.size, i.bytes)) = some (some (.slice none 0 0), 1, 24) := by kernel_rfl

set_option maxHeartbeats 400000 in
theorem clone_rgs (A : Option Addr) (n c : Nat) (l : List Rg) (w : World) (h : Rd w w.heap.size 3 A n (rgs l)) (hA : A = none → n = 0) (hn : n ≤ 1000000) :
    Calls Try.prog 30 #[.slice A n c] w (Cloned 45 3 n (rgs l) w) := by
  cases A with
  | none =>
    obtain rfl : n = 0 := hA rfl
    clear hA
    have heq := fun w' => Lib.run_eql_slice_nil (P := Try.prog) w' 23 45 none 0 c 0 0 Try.underlying23
    go_enter Try.func30, Try.ntmps30
    go_wp2
    go_ret
    exact cloned_nil _ _ _ _ _ rfl h.1
  | some a =>
    have heq := fun w' => Lib.run_eql_slice_nil (P := Try.prog) w' 23 45 (some a) n c 0 0 Try.underlying23
    go_enter Try.func30, Try.ntmps30
    go_wp2_with (at_builtin; ((with_reducible refine app_rd Try.underlying23 info_range rfl (by decide) _ w.heap.size _ 0 [] (own_empty w _ _ _ (Nat.le_refl _)) _ (some a) n c (rgs l) (h.alloc (Nat.le_refl _) _) (by simp) (rgs_one l) (by unfold maxLen; omega) (by omega) (by simp) rfl _ _ rfl rfl rfl ?_); intro v' w1 hown hgr hat))
    go_ret
    refine ⟨v', rfl, by simpa using hown, ((Below.refl _ w).alloc (Nat.le_refl _) _).grown hgr (by simp) (by intro k hk; simp [Value.ownBlock] at hk; omega)⟩

set_option maxHeartbeats 400000 in
theorem new_any (d : Int) (w : World) (h1 : 1 ≤ d) (h2 : d ≤ 200) :
    Calls Try.prog 13 #[.int .i64 d] w fun e w' => e = .returned (.tuple #[.pointer (some ⟨w.heap.size, 0, none⟩), .int .i64 0]) ∧ StkAt w' w.heap.size w.heap.size (.slice none 0 0) (.slice none 0 0) d [] [] ∧ Below w.heap.size w w' := by
  have e1 : ¬ d < 1 := by omega
  have e2 : ¬ (200 : Int) < d := by omega
  go_enter Try.func13, Try.ntmps13
  go_wp2
  refine bodyPost_ret (v := .tuple #[.pointer (some ⟨w.heap.size, 0, none⟩), .int .i64 0]) (by simp [results, Try.results13, go_sem]) rfl ⟨rfl, ⟨Bk.new w _ _, Nat.le_refl _, World.ownsRow_nil _ _ _ _, (by simp), World.ownsRow_nil _ _ _ _, (by simp), (by simp), (by simp), fun _ h => (by cases h)⟩, by repeat (first | with_reducible exact Below.refl _ _ | with_reducible assumption | (with_reducible refine below_drewN ?_ _) | (with_reducible refine Below.drew ?_) | (with_reducible refine Below.alloc ?_ ?_ _; rotate_left; focus (first | with_reducible assumption | omega | (simp; done) | (simp; omega))) | (with_reducible refine Below.setCell ?_ ?_ _; rotate_left; focus (first | with_reducible assumption | omega | (simp; done) | (simp; omega))))⟩

set_option maxHeartbeats 400000 in
theorem maps_any (base bs : Nat) (lv mv : Value) (depth : Int) (L : List GrH) (Ms : List MpH) (w : World) (h : StkAt w base bs lv mv depth L Ms) :
    Calls Try.prog 16 #[.pointer (some ⟨bs, 0, none⟩)] w fun e w' => e = .returned (.int .i64 (Ms.length : Nat)) ∧ w = w' := by
  obtain ⟨A2, c2, rfl, -, -, -, -⟩ := own_form h.m
  have c0 := h.k.cell 2
  dsimp at c0
  clear h
  go_enter Try.func16, Try.ntmps16
  go_wp2
  go_ret
  exact ⟨rfl, rfl⟩

set_option maxHeartbeats 400000 in
theorem groups_any (base bs : Nat) (lv mv : Value) (depth : Int) (L : List GrH) (Ms : List MpH) (w : World) (h : StkAt w base bs lv mv depth L Ms) :
    Calls Try.prog 17 #[.pointer (some ⟨bs, 0, none⟩)] w (GrsOut (foldC (Ms.map MpH.l) (L.map GrH.val).reverse) w) := by
  have hf := folded_any base bs lv mv depth L Ms w h
  have HF := Lib.hid hf
  clear hf h
  go_enter Try.func17, Try.ntmps17
  go_wp2_with (go_at_call 31; fail)
  refine HF.out.mono ?_
  rintro e w1 ⟨v, L', rfl, h1, h2, h3, h4⟩
  go_wp2
  go_ret
  exact ⟨v, L', rfl, h1, h2, h3, h4⟩

set_option maxRecDepth 100000 in
set_option maxHeartbeats 8000000 in
theorem note_any (base bs : Nat) (lv mv : Value) (depth : Int) (L : List GrH) (Ms : List MpH) (Am : Option Addr) (nm cm : Nat) (m : List Rg) (w : World) (h : StkAt w base bs lv mv depth L Ms) (hm : ∀ w', Stir (fun i => i = bs ∨ lv.ownBlock = some i ∨ mv.ownBlock = some i) w w' → Rd w' w'.heap.size 3 Am nm (rgs m)) (hA : Am = none → nm = 0) (hr : rightM m = true) :
    Calls Try.prog 15 #[.pointer (some ⟨bs, 0, none⟩), .slice Am nm cm] w fun e w' => e = .returned (.int .i64 0) ∧ StkOut base bs lv mv depth (if Ms.length = 500 then foldV (Ms.map MpH.l) (L.map GrH.val) else L.map GrH.val) ((if Ms.length = 500 then [] else Ms.map MpH.l) ++ [m]) w w' := by
  have hlt := def_lt' h.k
  have hbz : base ≤ w.heap.size := Nat.le_of_lt (Nat.lt_of_le_of_lt h.le hlt)
  have hm0 := hm w (Stir.of_below (Below.refl _ _))
  have hml : m.length = nm := hm0.rlen
  have hnm : nm ≤ 1000 := by
    unfold rightM at hr
    rw [Bool.and_eq_true] at hr
    have := of_decide_eq_true hr.1
    omega
  have hri := right_any Am nm cm m w (by unfold maxLen; omega) (fun _ => hm0) hml
  rw [hr] at hri
  have HRI := Lib.hid hri
  have HM := Lib.hid hm
  have HS := Lib.hid h
  obtain ⟨A2, c2, rfl, -, -, -, -⟩ := own_form h.m
  clear hri hm hm0 h
  go_enter Try.func15, Try.ntmps15
  go_wp2_with (go_at_call 20; fail)
  refine HRI.out.mono ?_
  rintro e w1 ⟨rfl, hb1⟩
  have hs1 := HS.out.below hb1
  have c0 := hs1.k.cell 2
  dsimp at c0
  have HS1 := Lib.hid hs1
  have hsz := hb1.size
  have HFO := Lib.hid (fold_any base bs lv _ depth L Ms w1 hs1)
  by_cases h500 : Ms.length = 500
  · have h5 : ((Ms.length : Int) == 500) = true := by rw [h500]; rfl
    have H5 := Lib.hid h500
    clear h500
    go_wp2_with (go_at_call 28; fail)
    refine HFO.out.mono ?_
    rintro e w2 ⟨⟨v, rfl⟩, lv1, mv1, L1, Ms1, hs2, hV1, hM1, hto⟩
    obtain rfl : Ms1 = [] := by simpa using hM1
    obtain ⟨A3, c3, rfl, -, -, -, -⟩ := own_form hs2.m
    have HS2 := Lib.hid hs2
    have hto2 : StkTo bs lv (.slice A2 Ms.length c2) lv1 (.slice A3 ([] : List MpH).length c3) w w2 := (StkTo.of_below hb1).trans hto
    have HTO := Lib.hid hto2
    have HST := Lib.hid hto2.1
    obtain ⟨N, hN⟩ : ∃ N : List MpH, N = [] := ⟨_, rfl⟩
    rw [← hN] at HS2 HTO
    have hN5 : N.length ≤ 499 := by rw [hN]; simp
    have HN := Lib.hid hN
    clear hs2 hto hto2 hM1 hN
    have k2 := HS2.out.k
    have hbz2 : base ≤ w2.heap.size := Nat.le_trans hbz HST.out.size
    have HR2 := Lib.hid (HM.out w2 HST.out)
    have hF : ∀ W, Bk W bs 75 #[.int .i64 depth, lv1, .slice A3 N.length c3] → W.cell? ⟨bs, 2, none⟩ = some (.slice A3 N.length c3) := fun W h => h.cell 2
    have HF := Lib.hid hF
    clear hF
    go_upto_region 7 with fail
    refine wp_normal ?_
    refine region_L (S := fun W => Bk W bs 75 #[.int .i64 depth, lv1, .slice A3 N.length c3]) [11] (by kernel_rfl) k2.drew (fun hHeld => ?_)
    (refine takeL_if (i := 0) (oi := _) (v := ?_) (by simp only [List.getElem?_toArray, List.getElem?_cons_zero]; rfl) (by kernel_rfl) (by kernel_rfl) (by kernel_rfl) (fun _ _ _ h => h) (by rfl) ?_ (by assumption) ?_; rotate_left; (focus ((intro w hSw; (try have hSw := HF.out _ hSw); (try dsimp only at hSw); go_simp); try exact rfl)); simp only [Act.put, List.setIfInBounds_toArray, List.set_cons_zero, List.set_cons_succ]; refine takeL_if (i := 1) (oi := _) (v := ?_) (by simp only [List.getElem?_toArray, List.getElem?_cons_succ, List.getElem?_cons_zero]; rfl) (by kernel_rfl) (by kernel_rfl) (by kernel_rfl) (fun _ _ _ h => h) (by rfl) ?_ (by assumption) ?_; rotate_left; (focus ((intro w hSw; (try have hSw := HF.out _ hSw); (try dsimp only at hSw); go_simp); try exact rfl)); simp only [Act.put, List.setIfInBounds_toArray, List.set_cons_zero, List.set_cons_succ]; refine takeL_if (i := 2) (oi := _) (v := ?_) (by simp only [List.getElem?_toArray, List.getElem?_cons_succ, List.getElem?_cons_zero]; rfl) (by kernel_rfl) (by kernel_rfl) (by kernel_rfl) (fun _ _ _ h => h) (by rfl) ?_ (by assumption) ?_; rotate_left; (focus ((intro w hSw; (try have hSw := HF.out _ hSw); (try dsimp only at hSw); go_simp); try exact rfl)); simp only [Act.put, List.setIfInBounds_toArray, List.set_cons_zero, List.set_cons_succ]; refine takeL_if (i := 3) (oi := _) (v := ?_) (by simp only [List.getElem?_toArray, List.getElem?_cons_succ, List.getElem?_cons_zero]; rfl) (by kernel_rfl) (by kernel_rfl) (by kernel_rfl) (fun _ _ _ h => h) (by rfl) ?_ (by assumption) ?_; rotate_left; (focus ((intro w hSw; (try have hSw := HF.out _ hSw); (try dsimp only at hSw); go_simp); try exact rfl)); simp only [Act.put, List.setIfInBounds_toArray, List.set_cons_zero, List.set_cons_succ]; refine takeL_if (i := 4) (oi := _) (v := ?_) (by simp only [List.getElem?_toArray, List.getElem?_cons_succ, List.getElem?_cons_zero]; rfl) (by kernel_rfl) (by kernel_rfl) (by kernel_rfl) (fun _ _ _ h => h) (by rfl) ?_ (by assumption) ?_; rotate_left; (focus ((intro w hSw; (try have hSw := HF.out _ hSw); (try dsimp only at hSw); go_simp); try exact rfl)); simp only [Act.put, List.setIfInBounds_toArray, List.set_cons_zero, List.set_cons_succ]; refine takeL_if (i := 5) (oi := _) (v := ?_) (by simp only [List.getElem?_toArray, List.getElem?_cons_succ, List.getElem?_cons_zero]; rfl) (by kernel_rfl) (by kernel_rfl) (by kernel_rfl) (fun _ _ _ h => h) (by rfl) ?_ (by assumption) ?_; rotate_left; (focus ((intro w hSw; (try have hSw := HF.out _ hSw); (try dsimp only at hSw); go_simp); try exact rfl)); simp only [Act.put, List.setIfInBounds_toArray, List.set_cons_zero, List.set_cons_succ])
    refine anyL_ready (rs := [6]) (by kernel_rfl) (by simp) ?_; refine (ReadyL.cons (o := _) (by simp only [List.getElem?_toArray, List.getElem?_cons_succ, List.getElem?_cons_zero]; rfl) (fun K hK => ?_) ReadyL.nil)
    go_simp
    go_at_call 30
    refine (clone_rgs Am nm cm m w2.drew HR2.out hA (by omega)).mono ?_
    rintro e w4 ⟨v4, rfl, o4, hb4'⟩
    obtain ⟨A4, c4, rfl, -, -, hA4, hrd4⟩ := own_form o4
    have hb4 : Below w2.heap.size w2 w4 := Below.trans (Below.refl _ _).drew hb4'
    have k4 := k2.ext hb4
    refine hK.out _ _ k4 (fun hHeld => ?_)
    clear hK K; (try simp only [Act.put, List.setIfInBounds_toArray, List.set_cons_zero, List.set_cons_succ])
    refine anyL_ready (rs := [7]) (by kernel_rfl) (by simp) ?_; refine (ReadyL.cons (o := _) (by simp only [List.getElem?_toArray, List.getElem?_cons_succ, List.getElem?_cons_zero]; rfl) (fun K hK => ?_) ReadyL.nil)
    go_simp
    refine hK.out _ _ (k4.alloc _) (fun hHeld => ?_)
    clear hK K; (try simp only [Act.put, List.setIfInBounds_toArray, List.set_cons_zero, List.set_cons_succ])
    have hbA : Below w4.heap.size w4 (w4.alloc (.cells #[.slice A4 nm c4] 23)) := by repeat (first | with_reducible exact Below.refl _ _ | with_reducible assumption | (with_reducible refine below_drewN ?_ _) | (with_reducible refine Below.drew ?_) | (with_reducible refine Below.alloc ?_ ?_ _; rotate_left; focus (first | with_reducible assumption | omega | (simp; done) | (simp; omega))) | (with_reducible refine Below.setCell ?_ ?_ _; rotate_left; focus (first | with_reducible assumption | omega | (simp; done) | (simp; omega))))
    have kA := Bk.new w4 23 #[.slice A4 nm c4]
    have k4A := k4.alloc (.cells #[.slice A4 nm c4] 23)
    generalize w4.alloc (.cells #[.slice A4 nm c4] 23) = wA at *
    have hb2A : Below w2.heap.size w2 wA := hb4.trans (hbA.mono hb4.size)
    have hzA := hb2A.size
    have hownA := own_below HS2.out.m hb2A
    refine anyL_ready (rs := [8]) (by kernel_rfl) (by simp) ?_; refine (ReadyL.cons (o := _) (by simp only [List.getElem?_toArray, List.getElem?_cons_succ, List.getElem?_cons_zero]; rfl) (fun K hK => ?_) ReadyL.nil)
    refine app_at_step Try.underlying73 info_rgs rfl (by decide) base _ N.length _ hownA (by unfold maxLen; omega) (by omega) (Nat.le_trans hbz2 hzA) w4.heap.size #[.slice A4 nm c4] kA rfl (by simp [Value.oneCell']) rfl (.tmp 22) (.tmp 25) rfl rfl rfl ?_
    intro g5 c5 w5 hown5 hgr5 hat5 hlt5
    have k5 := k4A.grown hgr5 (own_ne hownA k4A (by decide))
    refine hK.out _ _ k5 (fun hHeld => ?_)
    clear hK K; (try simp only [Act.put, List.setIfInBounds_toArray, List.set_cons_zero, List.set_cons_succ])
    (refine takeL_if (i := 9) (oi := _) (v := ?_) (by simp only [List.getElem?_toArray, List.getElem?_cons_succ, List.getElem?_cons_zero]; rfl) (by kernel_rfl) (by kernel_rfl) (by kernel_rfl) (fun _ _ _ h => h) (by rfl) ?_ (by assumption) ?_; rotate_left; (focus ((intro w hSw; (try have hSw := HF.out _ hSw); (try dsimp only at hSw); go_simp); try exact rfl)); simp only [Act.put, List.setIfInBounds_toArray, List.set_cons_zero, List.set_cons_succ]; refine takeL_if (i := 10) (oi := _) (v := ?_) (by simp only [List.getElem?_toArray, List.getElem?_cons_succ, List.getElem?_cons_zero]; rfl) (by kernel_rfl) (by kernel_rfl) (by kernel_rfl) (fun _ _ _ h => h) (by rfl) ?_ (by assumption) ?_; rotate_left; (focus ((intro w hSw; (try have hSw := HF.out _ hSw); (try dsimp only at hSw); go_simp); try exact rfl)); simp only [Act.put, List.setIfInBounds_toArray, List.set_cons_zero, List.set_cons_succ])
    have x0 := k5.cell 0; have x1 := k5.cell 1; have x2 := k5.cell 2; have xf := k5.frozen; have xl := def_lt' k5
    dsimp at x0 x1 x2
    refine anyL_late (i := 11) (o := _) (by kernel_rfl) (by kernel_rfl) (by simp only [List.getElem?_toArray, List.getElem?_cons_succ, List.getElem?_cons_zero]; rfl) (fun K hK => ?_)
    go_simp
    refine hK.out _ _ ?_
    clear hK K; (try simp only [Act.put, List.setIfInBounds_toArray, List.set_cons_zero, List.set_cons_succ])
    refine anyL_done (by kernel_rfl) ?_
    have gr6 : w5.grownBy (w5.setCell ⟨bs, 2, none⟩ (.slice (some ⟨g5, 0, none⟩) (N.length + 1) c5)) (some bs) := gr_set (p := ⟨bs, 2, none⟩) (World.grownBy.refl _ _) (.inl rfl) _
    have k6 : Bk (w5.setCell ⟨bs, 2, none⟩ (.slice (some ⟨g5, 0, none⟩) (N.length + 1) c5)) bs 75 #[.int .i64 depth, lv1, .slice (some ⟨g5, 0, none⟩) (N.length + 1) c5] := k5.set_ 2 _
    generalize w5.setCell ⟨bs, 2, none⟩ (.slice (some ⟨g5, 0, none⟩) (N.length + 1) c5) = w6 at *
    have keep : ∀ {e size n v xs}, wA.ownsRow base e size v n xs → e ≠ 23 → e ≠ 75 → w6.ownsRow base e size v n xs := fun h1 hne hne2 =>
      own_grow (own_grow h1 hgr5 (own_type h1 hownA hne)) gr6 (fun g e => by injection e with e; subst e; exact own_ne (own_grow h1 hgr5 (own_type h1 hownA hne)) k5 hne2)
    have hs6 : StkAt w6 base bs lv1 (.slice (some ⟨g5, 0, none⟩) (N.length + 1) c5) depth L1 (N ++ [⟨A4, nm, c4, m⟩]) := by
      refine ⟨k6, HS2.out.le, keep (own_below HS2.out.l hb2A) (by decide) (by decide), ?_, ?_, ?_, HS2.out.nL, ?_, HS2.out.bd⟩
      · intro x hx
        exact (((HS2.out.g x hx).below hb2A).grow hownA hgr5 (by decide) (by decide) (by decide)).grown k5 gr6 (by decide) (by decide) (by decide)
      · rw [List.map_append, List.length_append]
        exact own_grow hown5 gr6 (fun g e => by injection e with e; subst e; exact own_ne hown5 k5 (by decide))
      · intro x hx
        rcases List.mem_append.1 hx with hx | hx
        · exact ⟨keep (own_below (HS2.out.ms x hx).1 hb2A) (by decide) (by decide), (HS2.out.ms x hx).2⟩
        · simp at hx
          subst hx
          exact ⟨keep (own_base (own_below o4 hbA) (by simpa using hbz2)) (by decide) (by decide), hnm⟩
      · rw [List.length_append]; simp; omega
    have hto6 : StkTo bs lv1 (.slice A3 N.length c3) lv1 (.slice (some ⟨g5, 0, none⟩) (N.length + 1) c5) w2 w6 := by
      refine ⟨((Stir.of_below hb2A).trans (Stir.of_gr hgr5 (fun i e => .inr (.inr e)))).trans (Stir.of_gr gr6 (fun i e => by injection e with e; exact .inl e.symm)), fun i hi => .inl hi, fun i hi => ?_⟩
      simp [Value.ownBlock] at hi
      subst hi
      rcases hat5 with e | e
      · exact .inl e
      · exact .inr (by omega)
    clear x0 x1 x2 keep hown5 hownA hgr5
    go_wp2
    go_ret
    obtain rfl := HN.out
    exact ⟨rfl, lv1, _, L1, _, hs6, (by first | exact hV1 | (rw [if_pos H5.out]; exact hV1)), (by first | rfl | (rw [if_pos H5.out]; rfl)), (by have h9 := HTO.out.trans hto6; first | exact h9 | (rw [H5.out] at h9; exact h9))⟩
  · have H5 := Lib.hid h500
    have h5 : ((Ms.length : Int) == 500) = false := beq_false_of_ne (by omega)
    have hN5 : Ms.length ≤ 499 := by have := hs1.nM; omega
    have hto2 : StkTo bs lv (.slice A2 Ms.length c2) lv (.slice A2 Ms.length c2) w w1 := StkTo.of_below hb1
    have HTO := Lib.hid hto2
    have HST := Lib.hid hto2.1
    have HS2 := HS1
    clear hto2 HFO hs1 h500
    go_wp2
    have k2 := HS2.out.k
    have hbz2 : base ≤ w1.heap.size := Nat.le_trans hbz HST.out.size
    have HR2 := Lib.hid (HM.out w1 HST.out)
    have hF : ∀ W, Bk W bs 75 #[.int .i64 depth, lv, .slice A2 Ms.length c2] → W.cell? ⟨bs, 2, none⟩ = some (.slice A2 Ms.length c2) := fun W h => h.cell 2
    have HF := Lib.hid hF
    clear hF
    go_upto_region 7 with fail
    refine wp_normal ?_
    refine region_L (S := fun W => Bk W bs 75 #[.int .i64 depth, lv, .slice A2 Ms.length c2]) [11] (by kernel_rfl) k2.drew (fun hHeld => ?_)
    (refine takeL_if (i := 0) (oi := _) (v := ?_) (by simp only [List.getElem?_toArray, List.getElem?_cons_zero]; rfl) (by kernel_rfl) (by kernel_rfl) (by kernel_rfl) (fun _ _ _ h => h) (by rfl) ?_ (by assumption) ?_; rotate_left; (focus ((intro w hSw; (try have hSw := HF.out _ hSw); (try dsimp only at hSw); go_simp); try exact rfl)); simp only [Act.put, List.setIfInBounds_toArray, List.set_cons_zero, List.set_cons_succ]; refine takeL_if (i := 1) (oi := _) (v := ?_) (by simp only [List.getElem?_toArray, List.getElem?_cons_succ, List.getElem?_cons_zero]; rfl) (by kernel_rfl) (by kernel_rfl) (by kernel_rfl) (fun _ _ _ h => h) (by rfl) ?_ (by assumption) ?_; rotate_left; (focus ((intro w hSw; (try have hSw := HF.out _ hSw); (try dsimp only at hSw); go_simp); try exact rfl)); simp only [Act.put, List.setIfInBounds_toArray, List.set_cons_zero, List.set_cons_succ]; refine takeL_if (i := 2) (oi := _) (v := ?_) (by simp only [List.getElem?_toArray, List.getElem?_cons_succ, List.getElem?_cons_zero]; rfl) (by kernel_rfl) (by kernel_rfl) (by kernel_rfl) (fun _ _ _ h => h) (by rfl) ?_ (by assumption) ?_; rotate_left; (focus ((intro w hSw; (try have hSw := HF.out _ hSw); (try dsimp only at hSw); go_simp); try exact rfl)); simp only [Act.put, List.setIfInBounds_toArray, List.set_cons_zero, List.set_cons_succ]; refine takeL_if (i := 3) (oi := _) (v := ?_) (by simp only [List.getElem?_toArray, List.getElem?_cons_succ, List.getElem?_cons_zero]; rfl) (by kernel_rfl) (by kernel_rfl) (by kernel_rfl) (fun _ _ _ h => h) (by rfl) ?_ (by assumption) ?_; rotate_left; (focus ((intro w hSw; (try have hSw := HF.out _ hSw); (try dsimp only at hSw); go_simp); try exact rfl)); simp only [Act.put, List.setIfInBounds_toArray, List.set_cons_zero, List.set_cons_succ]; refine takeL_if (i := 4) (oi := _) (v := ?_) (by simp only [List.getElem?_toArray, List.getElem?_cons_succ, List.getElem?_cons_zero]; rfl) (by kernel_rfl) (by kernel_rfl) (by kernel_rfl) (fun _ _ _ h => h) (by rfl) ?_ (by assumption) ?_; rotate_left; (focus ((intro w hSw; (try have hSw := HF.out _ hSw); (try dsimp only at hSw); go_simp); try exact rfl)); simp only [Act.put, List.setIfInBounds_toArray, List.set_cons_zero, List.set_cons_succ]; refine takeL_if (i := 5) (oi := _) (v := ?_) (by simp only [List.getElem?_toArray, List.getElem?_cons_succ, List.getElem?_cons_zero]; rfl) (by kernel_rfl) (by kernel_rfl) (by kernel_rfl) (fun _ _ _ h => h) (by rfl) ?_ (by assumption) ?_; rotate_left; (focus ((intro w hSw; (try have hSw := HF.out _ hSw); (try dsimp only at hSw); go_simp); try exact rfl)); simp only [Act.put, List.setIfInBounds_toArray, List.set_cons_zero, List.set_cons_succ])
    refine anyL_ready (rs := [6]) (by kernel_rfl) (by simp) ?_; refine (ReadyL.cons (o := _) (by simp only [List.getElem?_toArray, List.getElem?_cons_succ, List.getElem?_cons_zero]; rfl) (fun K hK => ?_) ReadyL.nil)
    go_simp
    go_at_call 30
    refine (clone_rgs Am nm cm m w1.drew HR2.out hA (by omega)).mono ?_
    rintro e w4 ⟨v4, rfl, o4, hb4'⟩
    obtain ⟨A4, c4, rfl, -, -, hA4, hrd4⟩ := own_form o4
    have hb4 : Below w1.heap.size w1 w4 := Below.trans (Below.refl _ _).drew hb4'
    have k4 := k2.ext hb4
    refine hK.out _ _ k4 (fun hHeld => ?_)
    clear hK K; (try simp only [Act.put, List.setIfInBounds_toArray, List.set_cons_zero, List.set_cons_succ])
    refine anyL_ready (rs := [7]) (by kernel_rfl) (by simp) ?_; refine (ReadyL.cons (o := _) (by simp only [List.getElem?_toArray, List.getElem?_cons_succ, List.getElem?_cons_zero]; rfl) (fun K hK => ?_) ReadyL.nil)
    go_simp
    refine hK.out _ _ (k4.alloc _) (fun hHeld => ?_)
    clear hK K; (try simp only [Act.put, List.setIfInBounds_toArray, List.set_cons_zero, List.set_cons_succ])
    have hbA : Below w4.heap.size w4 (w4.alloc (.cells #[.slice A4 nm c4] 23)) := by repeat (first | with_reducible exact Below.refl _ _ | with_reducible assumption | (with_reducible refine below_drewN ?_ _) | (with_reducible refine Below.drew ?_) | (with_reducible refine Below.alloc ?_ ?_ _; rotate_left; focus (first | with_reducible assumption | omega | (simp; done) | (simp; omega))) | (with_reducible refine Below.setCell ?_ ?_ _; rotate_left; focus (first | with_reducible assumption | omega | (simp; done) | (simp; omega))))
    have kA := Bk.new w4 23 #[.slice A4 nm c4]
    have k4A := k4.alloc (.cells #[.slice A4 nm c4] 23)
    generalize w4.alloc (.cells #[.slice A4 nm c4] 23) = wA at *
    have hb2A : Below w1.heap.size w1 wA := hb4.trans (hbA.mono hb4.size)
    have hzA := hb2A.size
    have hownA := own_below HS2.out.m hb2A
    refine anyL_ready (rs := [8]) (by kernel_rfl) (by simp) ?_; refine (ReadyL.cons (o := _) (by simp only [List.getElem?_toArray, List.getElem?_cons_succ, List.getElem?_cons_zero]; rfl) (fun K hK => ?_) ReadyL.nil)
    refine app_at_step Try.underlying73 info_rgs rfl (by decide) base _ Ms.length _ hownA (by unfold maxLen; omega) (by omega) (Nat.le_trans hbz2 hzA) w4.heap.size #[.slice A4 nm c4] kA rfl (by simp [Value.oneCell']) rfl (.tmp 22) (.tmp 25) rfl rfl rfl ?_
    intro g5 c5 w5 hown5 hgr5 hat5 hlt5
    have k5 := k4A.grown hgr5 (own_ne hownA k4A (by decide))
    refine hK.out _ _ k5 (fun hHeld => ?_)
    clear hK K; (try simp only [Act.put, List.setIfInBounds_toArray, List.set_cons_zero, List.set_cons_succ])
    (refine takeL_if (i := 9) (oi := _) (v := ?_) (by simp only [List.getElem?_toArray, List.getElem?_cons_succ, List.getElem?_cons_zero]; rfl) (by kernel_rfl) (by kernel_rfl) (by kernel_rfl) (fun _ _ _ h => h) (by rfl) ?_ (by assumption) ?_; rotate_left; (focus ((intro w hSw; (try have hSw := HF.out _ hSw); (try dsimp only at hSw); go_simp); try exact rfl)); simp only [Act.put, List.setIfInBounds_toArray, List.set_cons_zero, List.set_cons_succ]; refine takeL_if (i := 10) (oi := _) (v := ?_) (by simp only [List.getElem?_toArray, List.getElem?_cons_succ, List.getElem?_cons_zero]; rfl) (by kernel_rfl) (by kernel_rfl) (by kernel_rfl) (fun _ _ _ h => h) (by rfl) ?_ (by assumption) ?_; rotate_left; (focus ((intro w hSw; (try have hSw := HF.out _ hSw); (try dsimp only at hSw); go_simp); try exact rfl)); simp only [Act.put, List.setIfInBounds_toArray, List.set_cons_zero, List.set_cons_succ])
    have x0 := k5.cell 0; have x1 := k5.cell 1; have x2 := k5.cell 2; have xf := k5.frozen; have xl := def_lt' k5
    dsimp at x0 x1 x2
    refine anyL_late (i := 11) (o := _) (by kernel_rfl) (by kernel_rfl) (by simp only [List.getElem?_toArray, List.getElem?_cons_succ, List.getElem?_cons_zero]; rfl) (fun K hK => ?_)
    go_simp
    refine hK.out _ _ ?_
    clear hK K; (try simp only [Act.put, List.setIfInBounds_toArray, List.set_cons_zero, List.set_cons_succ])
    refine anyL_done (by kernel_rfl) ?_
    have gr6 : w5.grownBy (w5.setCell ⟨bs, 2, none⟩ (.slice (some ⟨g5, 0, none⟩) (Ms.length + 1) c5)) (some bs) := gr_set (p := ⟨bs, 2, none⟩) (World.grownBy.refl _ _) (.inl rfl) _
    have k6 : Bk (w5.setCell ⟨bs, 2, none⟩ (.slice (some ⟨g5, 0, none⟩) (Ms.length + 1) c5)) bs 75 #[.int .i64 depth, lv, .slice (some ⟨g5, 0, none⟩) (Ms.length + 1) c5] := k5.set_ 2 _
    generalize w5.setCell ⟨bs, 2, none⟩ (.slice (some ⟨g5, 0, none⟩) (Ms.length + 1) c5) = w6 at *
    have keep : ∀ {e size n v xs}, wA.ownsRow base e size v n xs → e ≠ 23 → e ≠ 75 → w6.ownsRow base e size v n xs := fun h1 hne hne2 =>
      own_grow (own_grow h1 hgr5 (own_type h1 hownA hne)) gr6 (fun g e => by injection e with e; subst e; exact own_ne (own_grow h1 hgr5 (own_type h1 hownA hne)) k5 hne2)
    have hs6 : StkAt w6 base bs lv (.slice (some ⟨g5, 0, none⟩) (Ms.length + 1) c5) depth L (Ms ++ [⟨A4, nm, c4, m⟩]) := by
      refine ⟨k6, HS2.out.le, keep (own_below HS2.out.l hb2A) (by decide) (by decide), ?_, ?_, ?_, HS2.out.nL, ?_, HS2.out.bd⟩
      · intro x hx
        exact (((HS2.out.g x hx).below hb2A).grow hownA hgr5 (by decide) (by decide) (by decide)).grown k5 gr6 (by decide) (by decide) (by decide)
      · rw [List.map_append, List.length_append]
        exact own_grow hown5 gr6 (fun g e => by injection e with e; subst e; exact own_ne hown5 k5 (by decide))
      · intro x hx
        rcases List.mem_append.1 hx with hx | hx
        · exact ⟨keep (own_below (HS2.out.ms x hx).1 hb2A) (by decide) (by decide), (HS2.out.ms x hx).2⟩
        · simp at hx
          subst hx
          exact ⟨keep (own_base (own_below o4 hbA) (by simpa using hbz2)) (by decide) (by decide), hnm⟩
      · rw [List.length_append]; simp; omega
    have hto6 : StkTo bs lv (.slice A2 Ms.length c2) lv (.slice (some ⟨g5, 0, none⟩) (Ms.length + 1) c5) w1 w6 := by
      refine ⟨((Stir.of_below hb2A).trans (Stir.of_gr hgr5 (fun i e => .inr (.inr e)))).trans (Stir.of_gr gr6 (fun i e => by injection e with e; exact .inl e.symm)), fun i hi => .inl hi, fun i hi => ?_⟩
      simp [Value.ownBlock] at hi
      subst hi
      rcases hat5 with e | e
      · exact .inl e
      · exact .inr (by omega)
    clear x0 x1 x2 keep hown5 hownA hgr5
    go_wp2
    go_ret
    exact ⟨rfl, lv, _, L, _, hs6, (by first | rfl | rw [if_neg H5.out]), (by first | (rw [List.map_append]; rfl) | (rw [if_neg H5.out, List.map_append]; rfl)), HTO.out.trans hto6⟩
end Go.Proofs.Ytmacfoebfpljoaa

/- stack: the law's example; StackPends -/
namespace Go.Proofs.Ytmacfoebfpljoaa
open Go.RowKit

def gz (lost : Int) : GrH := ⟨none, 0, 0, [], ⟨0, 0, 0⟩, ⟨0, 0, 0⟩, lost⟩
theorem gz_in (lost : Int) (w : World) (B : Nat) : (gz lost).In w B := ⟨StsIn.nil_ _ _ _, by show (0 : Nat) ≤ 1000000; omega, fun _ => rfl⟩
theorem foldV_nil (V : List GrC) : foldV [] V = V := by unfold foldV; rw [if_pos rfl]
theorem trim_two (a b : GrC) : trimV 1 ([a] ++ [b]) = 1 := by
  rw [trimV_go (by simp) (.inl (by simp))]
  rw [trimV_stop (by simp)]
theorem trim_one (d : Int) (a : GrC) : trimV d ([] ++ [a]) = 0 := trimV_stop (by simp)

set_option maxRecDepth 100000 in
set_option maxHeartbeats 4000000 in
theorem live37_any (w : World) : Calls Try.prog 18 #[] w fun e w' => e = .returned (.bool true) ∧ Below w.heap.size w w' := by
  go_enter Try.func18, Try.ntmps18
  go_wp2_with (go_at_call 13; (refine (new_any 1 _ (by omega) (by omega)).mono ?_); rintro e w1 ⟨rfl, s1, hb1⟩)
  have hp1 := push_any w.heap.size w.heap.size _ _ 1 [] [] (gz 0) w1 s1 (fun w' _ => gz_in 0 w' _) (by show (0 : Nat) ≤ 1000; omega) (by show -9223372036854775808 ≤ (0 : Int) ∧ (0 : Int) ≤ 9223372036854775807; omega) (by simp)
  rw [List.map_nil, List.map_nil, foldV_nil, trim_one, List.nil_append, List.drop_zero] at hp1
  refine hp1.mono ?_
  rintro e w2 ⟨rfl, lv2, mv2, L2, Ms2, s2, V2, M2, t2⟩
  obtain rfl : Ms2 = [] := by simpa using M2
  have hb2 := hb1.trans (((t2.below s1)).mono (Nat.le_refl _))
  have hp2 := push_any w.heap.size w.heap.size _ _ 1 L2 [] (gz 3) w2 s2 (fun w' _ => gz_in 3 w' _) (by show (0 : Nat) ≤ 1000; omega) (by show -9223372036854775808 ≤ (3 : Int) ∧ (3 : Int) ≤ 9223372036854775807; omega) (by have := congrArg List.length V2; simp at this; omega)
  rw [List.map_nil, foldV_nil, V2, trim_two] at hp2
  have HP2 := Lib.hid hp2
  clear hp1 hp2 M2
  go_wp2_with (go_at_call 14; fail)
  refine HP2.out.mono ?_
  rintro e w3 ⟨rfl, lv3, mv3, L3, Ms3, s3, V3, M3, t3⟩
  obtain rfl : Ms3 = [] := by simpa using M3
  have hb3 := hb2.trans (((t3.below s2)).mono (Nat.le_refl _))
  have hgr := groups_any w.heap.size w.heap.size _ _ 1 L3 [] w3 s3
  rw [V3] at hgr
  have HGR := Lib.hid hgr
  clear hgr M3 HP2
  go_wp2_with (go_at_call 17; fail)
  refine HGR.out.mono ?_
  intro e w4 ho4
  obtain ⟨A4, n4, c4, L4, rfl, hl4, -, hin4, -, hV4, hb4⟩ := grs_out ho4
  obtain ⟨g4, rfl, hg4⟩ := map_one (a := (gz 3).val) (by rw [hV4]; rfl)
  obtain rfl : n4 = 1 := hl4.symm
  obtain ⟨gin, b, o, rfl, hb, hcc⟩ := hin4.at_ (k := 0) (g := g4) rfl
  have hgl : g4.lost = 3 := congrArg GrC.lost hg4
  have d7 := hcc 7 (by omega)
  simp only [GrH.cells, hgl] at d7
  dsimp at d7
  have hb5 := hb3.trans (hb4.mono hb3.size)
  clear hcc hin4 gin ho4 HGR
  go_wp2
  go_ret
  exact ⟨rfl, hb5⟩
end Go.Proofs.Ytmacfoebfpljoaa
