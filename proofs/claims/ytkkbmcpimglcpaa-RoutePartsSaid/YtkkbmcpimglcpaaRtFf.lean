/- route: Invert -/
import Derived.Test.YtkkbmcpimglcpaaRtFe
import Derived.Test.YtkkbmcpimglcpaaRtFa
import Derived.Test.YtkkbmcpimglcpaaIW
import Derived.Sort.CutIn
namespace Go.Proofs.Ytkkbmcpimglcpaa
open Go.RowKit Go.MapKept Go.ChangeMaps
attribute [local go_sem] Oper.semAt_some

/-- the mirrors the other way, those still to come left out -/
def invG (f : IMap) (n : Nat) (left : Int → Bool) : IMap := fun x => (f ((n : Int) - 1 - x)).bind fun v => if left ((n : Int) - 1 - x) = false ∨ left v = false then some ((n : Int) - 1 - v) else none
theorem invG_start {f : IMap} {n : Nat} (hs : SymF f) : invG f n (fun k => (f k).isSome) = fun _ => none := by
  funext x
  unfold invG
  cases hf : f ((n : Int) - 1 - x) with
  | none => rfl
  | some v =>
    have h2 := hs _ _ hf
    simp [hf, h2]
theorem invG_step {f : IMap} {n : Nat} {a b : Int} {left : Int → Bool} (hs : SymF f) (ha : f a = some b) : invG f n (fun x => left x && decide (x ≠ a)) = upd (upd (invG f n left) ((n : Int) - 1 - a) ((n : Int) - 1 - b)) ((n : Int) - 1 - b) ((n : Int) - 1 - a) := by
  have hb := hs _ _ ha
  funext x
  unfold upd
  by_cases e1 : x = (n : Int) - 1 - b
  · rw [if_pos e1]
    subst e1
    unfold invG
    rw [show (n : Int) - 1 - ((n : Int) - 1 - b) = b by omega, hb, Option.bind_some, if_pos (.inr (by simp))]
  · rw [if_neg e1]
    by_cases e2 : x = (n : Int) - 1 - a
    · rw [if_pos e2]
      subst e2
      unfold invG
      rw [show (n : Int) - 1 - ((n : Int) - 1 - a) = a by omega, ha, Option.bind_some, if_pos (.inl (by simp))]
    · rw [if_neg e2]
      unfold invG
      cases hf : f ((n : Int) - 1 - x) with
      | none => rfl
      | some v =>
        simp only [Option.bind_some]
        have hm : (n : Int) - 1 - x ≠ a := by omega
        have hv : v ≠ a := by
          rintro rfl
          have := hs _ _ hf
          rw [ha] at this
          injection this with this
          omega
        simp only [decide_eq_true hm, decide_eq_true hv, Bool.and_true]
theorem invG_end {f : IMap} {n : Nat} {left : Int → Bool} (h : ∀ k, left k = false) : invG f n left = invF f n := by
  funext x
  unfold invG invF
  cases hf : f ((n : Int) - 1 - x) with
  | none => rfl
  | some v => simp [h]

/-- what Invert's boxes hold between two rounds -/
def InvrI (ms : List (List Rg)) (vs : List Value) (A' : Option Addr) (c' : Nat) (W : World) (pre : List (Nat × Value)) (W' : World) : Prop :=
  (∃ k, k ≤ ms.length ∧ pre = backs vs k ∧ Bare W' W.heap.size (W.heap.size + 1) (invK ms k) ∧ ∀ m ∈ ms.drop (ms.length - k), rightM (invM m) = true) ∧ Below W.heap.size W W' ∧
  Bk W' W.heap.size 47 #[.pointer none] ∧ Bk W' (W.heap.size + 1 + 1) 47 #[.pointer (some ⟨W.heap.size + 1, 0, none⟩)] ∧ Bk W' (W.heap.size + 1 + 1 + 1) 48 #[.slice A' ms.length c'] ∧ W.heap.size + 4 ≤ W'.heap.size
def InvrX (ms : List (List Rg)) (W : World) (cd : Code) (_ : List (Nat × Value)) (W' : World) : Prop :=
  cd = .ret ∧ Below W.heap.size W W' ∧ allI ms = false ∧ Bk W' W.heap.size 47 #[.pointer none]

theorem RouteIs.far {W W' : World} {base R r : Nat} {ms : List (List Rg)} {f : IMap} (h : RouteIs W base R ms f) {o : Obj} (hr : W.heap[r]? = some o) (h1 : o.isCells = false) (h2 : ∀ es c, o ≠ .map es c) (hk : ∀ j, j ≠ r → W'.heap[j]? = W.heap[j]?) : RouteIs W' base R ms f := by
  have hbk : ∀ j t cs, Bk W j t cs → W'.heap[j]? = W.heap[j]? := fun j t cs hj => hk j (fun e => by
    have hj' : W.heap[j]? = some (.cells cs t (0, 0)) := hj
    rw [e, hr] at hj'
    injection hj' with hj'
    rw [hj'] at h1
    simp [Obj.isCells] at h1)
  obtain ⟨v, mo, vs, k1, k2, k3, k4, k5⟩ := h
  refine ⟨v, mo, vs, (hbk _ _ _ k1).trans k1, k2, own_keep k3 (fun j hj => by obtain ⟨cur, hc⟩ := own_type k3 j hj; exact hbk _ _ _ hc), k4.keep (fun j cs hj => hbk _ _ _ hj), ?_⟩
  rcases k5 with h5 | ⟨b, e, h6, h7⟩
  · exact .inl h5
  · refine .inr ⟨b, e, h6, h7.keep (hk b (fun e2 => ?_))⟩
    obtain ⟨es, clock, h8, _⟩ := h7
    rw [e2, hr] at h8
    injection h8 with h8
    exact h2 _ _ h8
theorem RouteIs.foot_far {W : World} {base R j : Nat} {ms : List (List Rg)} {f : IMap} (h : RouteIs W base R ms f) (hj : Foot W R j) {o : Obj} (hr : W.heap[j]? = some o) (h1 : o.isCells = false) (h2 : ∀ es c, o ≠ .map es c) : False := by
  have hc : ∀ t cs, Bk W j t cs → False := fun t cs hb => by
    have hb' : W.heap[j]? = some (.cells cs t (0, 0)) := hb
    rw [hr] at hb'
    injection hb' with hb'
    rw [hb'] at h1
    simp [Obj.isCells] at h1
  obtain ⟨v, mo, vs, k1, k2, k3, k4, k5⟩ := h
  rcases (Foot.one k1).1 hj with rfl | e | e
  · exact hc _ _ k1
  · obtain ⟨cur, hb⟩ := own_type k3 j e
    exact hc _ _ hb
  · rcases k5 with ⟨e2, _⟩ | ⟨b, e2, _, es, clock, hm, _⟩
    · rw [e2] at e; cases e
    · rw [e2] at e
      injection e with e
      subst e
      rw [hm] at hr
      injection hr with hr
      exact h2 _ _ hr.symm
theorem NewFoot.of {W : World} {base R : Nat} {ms : List (List Rg)} {f : IMap} (h : RouteIs W base R ms f) : NewFoot W base R := by
  intro j hj
  obtain ⟨v, mo, vs, k1, k2, k3, k4, k5⟩ := h
  rcases (Foot.one k1).1 hj with rfl | e | e
  · exact k2
  · exact own_ge k3 j e
  · rcases k5 with ⟨e2, _⟩ | ⟨b, e2, hb, _⟩
    · rw [e2] at e; cases e
    · rw [e2] at e
      injection e with e
      omega
theorem inv_end {W Wx : World} {D R' : Nat} {ms : List (List Rg)} {f : IMap} (hD : W.heap.size + 4 ≤ D) (hR : RouteIs Wx W.heap.size R' ms f) (hb : Below W.heap.size W Wx) (hd : Wx.heap[D]? = some (.deferred (some []))) (h2 : Bk Wx W.heap.size 47 #[.pointer (some ⟨R', 0, none⟩)]) :
    RouteIs (Wx.putObj D (.deferred none)) W.heap.size R' ms f ∧ Below W.heap.size W (Wx.putObj D (.deferred none)) ∧ Bk (Wx.putObj D (.deferred none)) W.heap.size 47 #[.pointer (some ⟨R', 0, none⟩)] :=
  ⟨hR.far hd rfl (fun _ _ h => by cases h) (fun j hj => World.putObj_heap_other hj), hb.trans (below_putObj (by omega)), h2.put (by omega) _⟩

set_option maxRecDepth 100000 in
set_option maxHeartbeats 4000000 in
theorem invert_any (base R : Nat) (ms : List (List Rg)) (f : IMap) (W : World) (hR : RouteIs W base R ms f) (hmok : MirOk f ms.length) (hsym : SymF f) (hml : ∀ m ∈ ms, rightM m = true) (hms : ms.length < 5000) :
    Calls Try.prog 33 #[.pointer (some ⟨R, 0, none⟩)] W fun e W' => Below W.heap.size W W' ∧
      ((allI ms = true ∧ ∃ R', e = .returned (.pointer (some ⟨R', 0, none⟩)) ∧ RouteIs W' W.heap.size R' (invMs ms) (invF f ms.length)) ∨ (allI ms = false ∧ e = .returned (.pointer none))) := by
  obtain ⟨v, mo, vs, k1, k2, k3, k4, k5⟩ := hR
  obtain ⟨A', c', rfl, hnc, hcm, hA', hvs⟩ := own_form k3
  have z0 := k1.cell 0
  have z1 := k1.cell 1
  have zl := def_lt' k1
  dsimp at z0 z1
  have hvl : vs.length = ms.length := by simpa using k3.1
  have K5 := Lib.hid k5
  have K4 := Lib.hid k4
  have HML := Lib.hid hml
  have HVS := Lib.hid hvs
  have hW3 : Below W.heap.size W (((W.alloc (.cells #[.pointer none] 47)).alloc (.cells #[.slice none 0 0, .map none] 51)).alloc (.cells #[.pointer (some ⟨W.heap.size + 1, 0, none⟩)] 47)) := by repeat (first | with_reducible exact Below.refl _ _ | with_reducible assumption | (with_reducible refine below_drewN ?_ _) | (with_reducible refine Below.drew ?_) | (with_reducible refine Below.alloc ?_ ?_ _; rotate_left; focus (first | with_reducible assumption | omega | (simp; done) | (simp; omega))) | (with_reducible refine Below.setCell ?_ ?_ _; rotate_left; focus (first | with_reducible assumption | omega | (simp; done) | (simp; omega))))
  have c0 : (((W.alloc (.cells #[.pointer none] 47)).alloc (.cells #[.slice none 0 0, .map none] 51)).alloc (.cells #[.pointer (some ⟨W.heap.size + 1, 0, none⟩)] 47)).cell? ⟨R, 0, none⟩ = some (.slice A' ms.length c') := (hW3.cell (p := ⟨R, 0, none⟩) zl).trans z0
  clear k4 k5 hml hvs
  refine callsIn_wide.1 (callsIn_of_wp_marks (n := 10) Try.func33 rfl trivial ?_ rfl)
  simp only [Try.ntmps33, List.size_toArray, List.length_cons, List.length_nil, Nat.reduceAdd, Nat.reduceSub, Array.replicate_succ, Array.replicate_zero, List.push_toArray, List.append_toArray, List.nil_append, List.cons_append]
  gi_wp2_with (refine ⟨trivial, ?_⟩; gi_at_call 46; refine (callsIn_wide.2 (backward_any _ _ _ _)).mono ?_; rintro e w2 ⟨rfl, rfl⟩)
  have hb4 : Below W.heap.size W ((((W.alloc (.cells #[.pointer none] 47)).alloc (.cells #[.slice none 0 0, .map none] 51)).alloc (.cells #[.pointer (some ⟨W.heap.size + 1, 0, none⟩)] 47)).alloc (.cells #[.slice A' ms.length c'] 48)) := hW3.alloc hW3.size _
  have q2 : Bk ((((W.alloc (.cells #[.pointer none] 47)).alloc (.cells #[.slice none 0 0, .map none] 51)).alloc (.cells #[.pointer (some ⟨W.heap.size + 1, 0, none⟩)] 47)).alloc (.cells #[.slice A' ms.length c'] 48)) W.heap.size 47 #[.pointer none] := ((Bk.new W 47 #[.pointer none]).alloc _).alloc _ |>.alloc _
  have qr : Bk ((((W.alloc (.cells #[.pointer none] 47)).alloc (.cells #[.slice none 0 0, .map none] 51)).alloc (.cells #[.pointer (some ⟨W.heap.size + 1, 0, none⟩)] 47)).alloc (.cells #[.slice A' ms.length c'] 48)) (W.heap.size + 1) 51 #[.slice none 0 0, .map none] := ((Bk.made 51 #[.slice none 0 0, .map none] (W := W.alloc (.cells #[.pointer none] 47)) (by simp)).alloc _).alloc _
  have q3 : Bk ((((W.alloc (.cells #[.pointer none] 47)).alloc (.cells #[.slice none 0 0, .map none] 51)).alloc (.cells #[.pointer (some ⟨W.heap.size + 1, 0, none⟩)] 47)).alloc (.cells #[.slice A' ms.length c'] 48)) (W.heap.size + 1 + 1) 47 #[.pointer (some ⟨W.heap.size + 1, 0, none⟩)] := (Bk.made 47 _ (by simp)).alloc _
  have qb : Bk ((((W.alloc (.cells #[.pointer none] 47)).alloc (.cells #[.slice none 0 0, .map none] 51)).alloc (.cells #[.pointer (some ⟨W.heap.size + 1, 0, none⟩)] 47)).alloc (.cells #[.slice A' ms.length c'] 48)) (W.heap.size + 1 + 1 + 1) 48 #[.slice A' ms.length c'] := Bk.made 48 _ (by simp)
  have hsz : ((((W.alloc (.cells #[.pointer none] 47)).alloc (.cells #[.slice none 0 0, .map none] 51)).alloc (.cells #[.pointer (some ⟨W.heap.size + 1, 0, none⟩)] 47)).alloc (.cells #[.slice A' ms.length c'] 48)).heap.size = W.heap.size + 4 := by simp
  have hbare : Bare ((((W.alloc (.cells #[.pointer none] 47)).alloc (.cells #[.slice none 0 0, .map none] 51)).alloc (.cells #[.pointer (some ⟨W.heap.size + 1, 0, none⟩)] 47)).alloc (.cells #[.slice A' ms.length c'] 48)) W.heap.size (W.heap.size + 1) (invK ms 0) := by
    rw [invK_zero]
    exact Bare.of qr (by omega) (World.ownsRow_nil _ _ _ _) (fun i m hi => by simp at hi)
  have hrd4 := HVS.out.below hb4
  have hnm : ms.length ≤ maxLen := by unfold maxLen; omega
  have hgv := backward_gives (W.heap.size + 1 + 1 + 1) W.heap.size ms.length A' c' vs ((((W.alloc (.cells #[.pointer none] 47)).alloc (.cells #[.slice none 0 0, .map none] 51)).alloc (.cells #[.pointer (some ⟨W.heap.size + 1, 0, none⟩)] 47)).alloc (.cells #[.slice A' ms.length c'] 48)) hnm (by omega) hrd4
  have hqb : Bk ((((W.alloc (.cells #[.pointer none] 47)).alloc (.cells #[.slice none 0 0, .map none] 51)).alloc (.cells #[.pointer (some ⟨W.heap.size + 1, 0, none⟩)] 47)).alloc (.cells #[.slice A' ms.length c'] 48)) (W.heap.size + 1 + 1 + 1) 48 #[.slice A' ms.length c'] := qb
  clear qr hW3 c0
  generalize ((((W.alloc (.cells #[.pointer none] 47)).alloc (.cells #[.slice none 0 0, .map none] 51)).alloc (.cells #[.pointer (some ⟨W.heap.size + 1, 0, none⟩)] 47)).alloc (.cells #[.slice A' ms.length c'] 48)) = w4 at *
  refine range_mine_k (gf := 50) (lb := #[.pointer (some ⟨W.heap.size + 1 + 1 + 1, 0, none⟩)]) rfl (enters_of Try.func50 (by kernel_rfl) rfl) hgv (Below.refl _ _) (by omega) (fun _ => rfl) (InvrI ms vs A' c' W) (InvrX ms W) ?hI ?hIx ?h0 ?hKp ?hround ?hdone ?hstop
  case hI =>
    rintro s A B row ⟨⟨k, hk, hpre, hB, hall⟩, g2, g3, g4, g5, g6⟩ hg hr
    exact ⟨⟨k, hk, hpre, hB.kept hg hr, hall⟩, below_kept g2 (Nat.le_refl _) (by omega) hg hr, blk_kept g3 hg hr, blk_kept g4 hg hr, blk_kept g5 hg hr, Nat.le_trans g6 hg.size⟩
  case hIx =>
    rintro cd s A B row ⟨h1, h2, h3, h4⟩ hg hr
    exact ⟨h1, below_kept h2 (Nat.le_refl _) (by omega) hg hr, h3, blk_kept h4 hg hr⟩
  case h0 => exact ⟨⟨0, by omega, rfl, hbare, by simp⟩, hb4, q2, q3, hqb, by omega⟩
  case hKp =>
    rintro s A ⟨_, _, _, _, g5, _⟩
    exact g5.cell 0
  case hround =>
    clear q2 q3 hqb hgv hbare hrd4
    rintro lp pre ⟨i, s⟩ W1 KK hkk
    have HKK := Lib.hid hkk
    clear hkk
    gi_wp2
    refine HKK.out _ ?_
    clear HKK
    rintro W0 W2 ⟨⟨k, hk, hpre, hB, hall⟩, g3, g4, g5, g6, g7⟩ hext hpx hM
    subst hpre
    obtain ⟨hkn, hx⟩ := backs_next hpx
    obtain ⟨m, hm⟩ : ∃ m, ms[ms.length - 1 - k]? = some m := ⟨_, List.getElem?_eq_getElem (by omega)⟩
    obtain ⟨Am, nm, cm, e1, e2⟩ := K4.out _ m hm
    have e3 : backAt vs k = (ms.length - 1 - k, .slice Am nm cm) := by unfold backAt; rw [hvl, List.getD_eq_getElem?_getD, e1]; rfl
    rw [e3] at hx
    obtain ⟨rfl, rfl⟩ : i = ms.length - 1 - k ∧ s = .slice Am nm cm := by injection hx; exact ⟨by assumption, by assumption⟩
    have HM : Has Am nm cm m W := by
      obtain ⟨Ax, cx, ex, y1, y2, _, y3⟩ := own_form e2
      exact ⟨by omega, Rd.of_own e2⟩
    have hrm := HML.out m (List.mem_of_getElem? hm)
    have hb2 : Below W.heap.size W W2 := g3.trans (hext.mono g3.size)
    have q4 := g4.ext hext
    have q5 := g5.ext hext
    have q6 := g6.ext hext
    have hB2 := hB.ext hext
    have z5 := q5.cell 0
    dsimp at z5
    have hin := fun w' (hb : Below W.heap.size W w') => HM.inv hb
    simp only [hrm, if_true] at hin
    have HIN := Lib.hid hin
    have hz2 := hb2.size
    have hzz : W.heap.size + 4 ≤ W2.heap.size := Nat.le_trans g7 hext.size
    have hF : ∀ w', (Below W.heap.size W w' ∧ w'.cell? ⟨W.heap.size + 1 + 1, 0, none⟩ = some (.pointer (some ⟨W.heap.size + 1, 0, none⟩))) → w'.cell? ⟨W.heap.size + 1 + 1, 0, none⟩ = some (.pointer (some ⟨W.heap.size + 1, 0, none⟩)) := fun _ h => h.2
    have HF := Lib.hid hF
    have hiks := invK_succ hkn hm
    have hikl := invK_length ms hk
    have hdrb := drop_back hkn hm
    have HDB := Lib.hid hdrb
    have HIK := Lib.hid hiks
    have HE3 := Lib.hid e3
    have HAL := Lib.hid hall
    have HPX := Lib.hid hpx
    have hmm := List.mem_of_getElem? hm
    clear hin hF e1 e2 e3 hx hm hall hiks hdrb hpx
    gi_wp2
    refine region_round (by rintro ⟨_, _, h⟩; exact h) (by kernel_rfl) (by kernel_rfl) (S := fun w' => Below W.heap.size W w' ∧ w'.cell? ⟨W.heap.size + 1 + 1, 0, none⟩ = some (.pointer (some ⟨W.heap.size + 1, 0, none⟩))) ⟨hb2.drew, z5⟩ (fun hHeld => ?_)
    (refine take_if (i := 0) (oi := _) (v := ?_) (by simp only [List.getElem?_toArray, List.getElem?_cons_zero]; rfl) (by kernel_rfl) (by kernel_rfl) (by kernel_rfl) (fun _ _ _ h => h) (by rfl) ?_ (by assumption) ?_; rotate_left; (focus ((intro w hSw; (try have hSw := HF.out _ hSw); (try dsimp only at hSw); go_simp); try exact rfl)); simp only [Act.put, List.setIfInBounds_toArray, List.set_cons_zero, List.set_cons_succ]; refine take_if (i := 1) (oi := _) (v := ?_) (by simp only [List.getElem?_toArray, List.getElem?_cons_succ, List.getElem?_cons_zero]; rfl) (by kernel_rfl) (by kernel_rfl) (by kernel_rfl) (fun _ _ _ h => h) (by rfl) ?_ (by assumption) ?_; rotate_left; (focus ((intro w hSw; (try have hSw := HF.out _ hSw); (try dsimp only at hSw); go_simp); try exact rfl)); simp only [Act.put, List.setIfInBounds_toArray, List.set_cons_zero, List.set_cons_succ])
    refine wpAnyH_ready (rs := [2]) (by kernel_rfl) (by simp) ?_; refine (AllReadyH.cons (o := _) (by simp only [List.getElem?_toArray, List.getElem?_cons_succ, List.getElem?_cons_zero]; rfl) (fun K hK => ?_) AllReadyH.nil)
    go_simp
    go_at_call 18
    refine (HIN.out _ hb2.drew).mono ?_
    rintro e w3 ⟨A3, c3, rfl, has3, hb3, hz3, hx3⟩
    have hx3' : Below W2.heap.size W2 w3 := Below.trans (Below.refl _ _).drew hx3
    have t4 := q4.ext hx3'
    have t5 := q5.ext hx3'
    have t6 := q6.ext hx3'
    have hB3 := hB2.ext hx3'
    have hA3 : A3 = none → nm = 0 := fun e => by
      rcases Nat.eq_zero_or_pos nm with h | h
      · exact h
      · obtain ⟨b, o, e2, _⟩ := has3.rd.2 h
        rw [e] at e2; cases e2
    refine hK.out _ _ ⟨hb3, by have := t5.cell 0; exact this⟩ (fun hHeld => ?_)
    clear hK K; (try simp only [Act.put, List.setIfInBounds_toArray, List.set_cons_zero, List.set_cons_succ])
    refine wpAnyH_ready (rs := [3]) (by kernel_rfl) (by simp) ?_; refine (AllReadyH.cons (o := _) (by simp only [List.getElem?_toArray, List.getElem?_cons_succ, List.getElem?_cons_zero]; rfl) (fun K hK => ?_) AllReadyH.nil)
    go_simp
    go_at_call 25
    cases hri : rightM (invM m) with
    | true =>
      refine (add_mo W.heap.size (W.heap.size + 1) _ _ A3 nm c3 (invM m) w3 hB3.1 hz3 has3.rd hA3 hri (by rw [hikl]; omega) hB3.2).mono ?_
      rintro e w5 ⟨rfl, r1, r2, r3, r4, r5, r6⟩
      have u4 := hB3.beside r5 t4 (by decide) (by decide)
      have u5 := hB3.beside r5 t5 (by decide) (by decide)
      have u6 := hB3.beside r5 t6 (by decide) (by decide)
      have hmid := hB.mid hext hx3' r5
      have hko := ((KeepsOthers.of_below hx3').trans (hB3.others r3 r5))
      have hb5 : Below W.heap.size W2 w5 := (hx3'.mono hz2).trans r2
      have hz5 : W.heap.size + 4 ≤ w5.heap.size := Nat.le_trans hzz hb5.size
      refine hK.out _ _ ⟨hb2.trans hb5, by have := u5.cell 0; exact this⟩ (fun hHeld => ?_)
      clear hK K; (try simp only [Act.put, List.setIfInBounds_toArray, List.set_cons_zero, List.set_cons_succ])
      (refine take_if (i := 4) (oi := _) (v := ?_) (by simp only [List.getElem?_toArray, List.getElem?_cons_succ, List.getElem?_cons_zero]; rfl) (by kernel_rfl) (by kernel_rfl) (by kernel_rfl) (fun _ _ _ h => h) (by rfl) ?_ (by assumption) ?_; rotate_left; (focus ((intro w hSw; (try have hSw := HF.out _ hSw); (try dsimp only at hSw); go_simp); try exact rfl)); simp only [Act.put, List.setIfInBounds_toArray, List.set_cons_zero, List.set_cons_succ])
      refine wpAnyH_done (by kernel_rfl) ?_ _
      gi_wp2
      refine ⟨hko.from _, hb5, hmid, ⟨k + 1, by omega, ?_, ?_, ?_⟩, hb2.trans hb5, u4, u5, u6, hz5⟩
      · rw [backs_succ, HE3.out]
      · rw [HIK.out]; exact ⟨r1, r6⟩
      · rw [HDB.out]
        intro m' hm'
        rcases List.mem_cons.1 hm' with rfl | h
        · exact hri
        · exact HAL.out m' h
    | false =>
      refine (add_bad (W.heap.size + 1) A3 nm c3 (invM m) w3 has3.hn (fun _ => has3.rd) has3.rd.rlen hri).mono ?_
      rintro e w5 ⟨rfl, hx5⟩
      have hb5 : Below W.heap.size W2 w5 := (hx3'.mono hz2).trans (hx5.mono hz3)
      have u4 := t4.ext hx5
      have u5 := t5.ext hx5
      have u4f := u4.frozen
      have u40 := u4.cell 0
      dsimp at u40
      have hl4 := def_lt' u4
      have hko := ((KeepsOthers.of_below hx3').trans (KeepsOthers.of_below hx5))
      refine hK.out _ _ ⟨hb2.trans hb5, by have := u5.cell 0; exact this⟩ (fun hHeld => ?_)
      clear hK K; (try simp only [Act.put, List.setIfInBounds_toArray, List.set_cons_zero, List.set_cons_succ])
      (refine take_if (i := 4) (oi := _) (v := ?_) (by simp only [List.getElem?_toArray, List.getElem?_cons_succ, List.getElem?_cons_zero]; rfl) (by kernel_rfl) (by kernel_rfl) (by kernel_rfl) (fun _ _ _ h => h) (by rfl) ?_ (by assumption) ?_; rotate_left; (focus ((intro w hSw; (try have hSw := HF.out _ hSw); (try dsimp only at hSw); go_simp); try exact rfl)); simp only [Act.put, List.setIfInBounds_toArray, List.set_cons_zero, List.set_cons_succ])
      refine wpAnyH_done (by kernel_rfl) ?_ _
      gi_wp2
      refine ⟨(hko.trans (KeepsOthers.setCell _ _ _)).from _, rfl, (hb2.trans hb5).setCell (Nat.le_refl _) _, ?_, u4.set_ 0 _⟩
      unfold allI
      rw [List.all_eq_false]
      exact ⟨m, hmm, by rw [hri]; simp⟩
  case hstop =>
    rintro D cd pre Wd hD hpre ⟨rfl, g1, g2, g3⟩ hK
    have HD := Lib.hid hK
    have hD' := def_lt' hK
    clear hK hgv hqb q2 q3 qb hbare hrd4
    have hx := g3.cell 0
    dsimp at hx
    gi_wp2
    have r := Bk.put g3 (D := D) (by omega) (.deferred none)
    have d0 := r.cell 0
    dsimp at d0
    refine ⟨by simp, .inl ⟨_, _, rfl, run_takeDeferred HD.out, .pointer none, ?_, ?_⟩⟩
    · simp [results, Try.results33, go_sem, d0]
    · exact ⟨Below.trans g1 (below_putObj (by omega)), .inr ⟨g2, rfl⟩⟩
  case hdone =>
    rintro D Wd hD ⟨⟨k, hk, hpre, hB, hall⟩, g2, g3, g4, g5, g6⟩ hHD
    obtain rfl : ms.length = k := by have := congrArg List.length hpre; simpa [backs_length] using this
    rw [invK_all] at hB
    have hai : allI ms = true := by
      unfold allI
      rw [List.all_eq_true]
      intro m hm
      exact hall m (by simpa using hm)
    have hD' := def_lt' hHD
    have HD := Lib.hid hHD
    have c1 : Wd.cell? ⟨R, 1, none⟩ = some (.map mo) := (g2.cell (p := ⟨R, 1, none⟩) zl).trans z1
    have y3 := g3.cell 0; have y4 := g4.cell 0; have f3 := g3.frozen
    have l3 := def_lt' g3; have l4 := def_lt' g4
    dsimp at y3 y4
    clear hgv hqb q2 q3 qb hbare hrd4 hall hpre hHD
    gi_upto_region 9 with fail
    refine wpIn_wide.2 ?_
    rcases K5.out with ⟨hmo, hf⟩ | ⟨b, hmo, hb1, hmap⟩
    · subst hmo
      have hG : invF f ms.length = fun _ => none := by
        funext x
        unfold invF
        rw [hf]; rfl
      have hrg := run_range_nilMap (P := Try.prog) Wd 49 3 3 Try.underlying49
      have hnx : ∀ ty, (Instr.next (.pointer (some ⟨Wd.heap.size, 0, none⟩)) false ty).run Try.prog (Wd.alloc (.mapIter none 0 #[] 0)) = _ := fun ty => run_next_nilMap Wd ty 0 0 #[]
      clear hsym
      go_wp2
      refine wpIn_wide.2 ?_
      go_wp2
      refine wp_loop_rounds 1 ?_
      rw [rounds_succ]
      go_wp2
      gi_wp2
      have hBs : RouteIs (Wd.setCell ⟨W.heap.size, 0, none⟩ (.pointer (some ⟨W.heap.size + 1, 0, none⟩))) W.heap.size (W.heap.size + 1) (invMs ms) (fun _ => none) := hB.1.other g3 (by decide) (by decide) (by decide) (fun j hj => Below.heap_setCell _ _ _ _ hj)
      have hd1 := dfar HD.out (p := ⟨W.heap.size, 0, none⟩) (by simp; omega) (.pointer (some ⟨W.heap.size + 1, 0, none⟩))
      obtain ⟨x1, x2, x3⟩ := inv_end (D := D) (by omega) (hBs.ext ((Below.refl _ _).alloc (Nat.le_refl _) (.mapIter none 0 #[] 0))) ((g2.setCell (Nat.le_refl _) _).alloc (by simp; omega) _) ((Below.heap_alloc _ _ _ (def_lt' hd1)).trans hd1) ((g3.set_ 0 _).alloc _)
      have d0 := x3.cell 0
      dsimp at d0
      refine ⟨by simp, .inl ⟨_, _, rfl, run_takeDeferred ((Below.heap_alloc _ _ _ (def_lt' hd1)).trans hd1), .pointer (some ⟨W.heap.size + 1, 0, none⟩), ?_, ?_⟩⟩
      · simp [results, Try.results33, go_sem, d0]
      · exact ⟨x2, .inl ⟨hai, _, rfl, by rw [hG]; exact x1⟩⟩
    · subst hmo
      have hmapd : MapIs Wd b f := hmap.keep (g2.block b hmap.lt)
      have hbl := hmap.lt
      go_wp2_with (at_range; refine wpl_range _ rfl _ rfl b f rfl hmapd ?_; intro x0 cnt0 hI0)
      have hb5 : Below W.heap.size W (Wd.alloc x0) := g2.alloc g2.size _
      have hR5 : RouteIs (Wd.alloc x0) W.heap.size (W.heap.size + 1) (invMs ms) (invG f ms.length (fun k => (f k).isSome)) := by
        rw [invG_start hsym]
        exact hB.1.ext ((Below.refl _ _).alloc (Nat.le_refl _) _)
      have p3 := g3.alloc x0
      have p4 := g4.alloc x0
      have hd5 : (Wd.alloc x0).heap[D]? = some (.deferred (some [])) := (Below.heap_alloc _ _ _ hD').trans HD.out
      have hrI : W.heap.size + 4 ≤ Wd.heap.size := g6
      have HSY := Lib.hid hsym
      refine wpIn_wide.2 ?_
      go_frame
      go_wp2
      clear g3 g4 g5 hB y3 y4 f3 l3 l4 K5 c1 hmapd hmap hsym HD hD' g2
      generalize Wd.alloc x0 = w5 at *
      generalize Wd.heap.size = rI at *
      go_loopw [7] (fun _ wr => ∃ left cnt, Iter wr b rI f left cnt ∧ RouteIs wr W.heap.size (W.heap.size + 1) (invMs ms) (invG f ms.length left) ∧ Below W.heap.size W wr ∧ Bk wr W.heap.size 47 #[.pointer none] ∧ Bk wr (W.heap.size + 1 + 1) 47 #[.pointer (some ⟨W.heap.size + 1, 0, none⟩)] ∧ wr.heap[D]? = some (.deferred (some []))) (fun _ wr => wr.rangeLeft b rI)
      case atStart => exact ⟨_, _, hI0, hR5, hb5, p3, p4, hd5⟩
      case round =>
        obtain ⟨left, cnt, hI, hRr, hbr, r3, r4, hdr⟩ := hrel
        have y3 := r3.cell 0; have y4 := r4.cell 0; have f3 := r3.frozen
        have l3 := def_lt' r3; have l4 := def_lt' r4
        dsimp at y3 y4
        clear hI0 hR5 hb5 p3 p4 hd5
        go_wp2_with (at_next; refine wpl_next _ rfl _ rfl b rI f left cnt rfl hI ?_ ?_)
        · intro hc0 hl0
          rw [invG_end hl0] at hRr
          go_wp2
          gi_wp2
          have hBs : RouteIs (wr.setCell ⟨W.heap.size, 0, none⟩ (.pointer (some ⟨W.heap.size + 1, 0, none⟩))) W.heap.size (W.heap.size + 1) (invMs ms) (invF f ms.length) := hRr.other r3 (by decide) (by decide) (by decide) (fun j hj => Below.heap_setCell _ _ _ _ hj)
          have hd1 := dfar hdr (p := ⟨W.heap.size, 0, none⟩) (by simp; omega) (.pointer (some ⟨W.heap.size + 1, 0, none⟩))
          obtain ⟨x1, x2, x3⟩ := inv_end (D := D) (by omega) hBs (hbr.setCell (Nat.le_refl _) _) hd1 (r3.set_ 0 _)
          have d0 := x3.cell 0
          dsimp at d0
          refine ⟨by simp, .inl ⟨_, _, rfl, run_takeDeferred hd1, .pointer (some ⟨W.heap.size + 1, 0, none⟩), ?_, ?_⟩⟩
          · simp [results, Try.results33, go_sem, d0]
          · exact ⟨x2, .inl ⟨hai, _, rfl, x1⟩⟩
        · intro a bb w6 cnt6 hfa hla hI6 hlt hgr hsz6 hen
          obtain ⟨a0, a1, b0, b1, hne⟩ := hmok _ _ hfa
          have hbsz := hbr.size
          obtain ⟨s0, q0, c0, hit⟩ := hI.block
          obtain ⟨hR6, hF6⟩ := hRr.iter hit hgr
          have r36 := r3.grown hgr (fun e => by injection e with e; omega)
          have r46 := r4.grown hgr (fun e => by injection e with e; omega)
          have hDr : D ≠ rI := fun e => by rw [e, hit] at hdr; cases hdr
          have hdr6 : w6.heap[D]? = some (.deferred (some [])) := (hgr.block D (def_lt' hdr) (fun e => by injection e with e; exact hDr e)).trans hdr
          have hb6 : Below W.heap.size W w6 := hbr.trans (gr_below hgr hbsz (fun k e => by injection e with e; omega))
          have eL : (fun x => left x && !decide (x = a)) = (fun x => left x && decide (x ≠ a)) := by funext x; simp
          rw [eL] at hI6
          have HM : Hid (wr.rangeLeft b rI = cnt ∧ cnt6 < cnt) := Lib.hid ⟨hI.left_eq, hlt⟩
          have e0 : IntKind.i64.wrap ((ms.length : Int) - 1) = (ms.length : Int) - 1 := IntWalk.i64_in _ (by omega)
          have e1 : IntKind.i64.wrap ((ms.length : Int) - 1 - a) = (ms.length : Int) - 1 - a := IntWalk.i64_in _ (by omega)
          have e2 : IntKind.i64.wrap ((ms.length : Int) - 1 - bb) = (ms.length : Int) - 1 - bb := IntWalk.i64_in _ (by omega)
          have y46 := r46.cell 0
          dsimp at y46
          have l46 := def_lt' r46
          have hb6z : W.heap.size ≤ w6.heap.size := hb6.size
          have hS := invG_step (left := left) (n := ms.length) HSY.out hfa
          have HS := Lib.hid hS
          have hN6 := NewFoot.of hR6
          clear hS hRr r3 r4 hdr y3 y4 f3 l3 l4 hit hlt hgr hF6
          go_wp2_with (go_at_call 43; refine (pair_any W.heap.size (W.heap.size + 1) (invMs ms) (invG f ms.length left) ((ms.length : Int) - 1 - a) ((ms.length : Int) - 1 - bb) w6 hR6 hb6z).mono ?_; rintro e w7 ⟨⟨u7, rfl⟩, ht⟩)
          obtain ⟨hbn, hN7⟩ := Turned.new ht hN6 hb6z
          have hI7 := Turned.iter ht hR6 hN6 hbl hI6
          have s3 := Turned.box ht hR6 r36 (by decide) (by decide)
          have s4 := Turned.box ht hR6 r46 (by decide) (by decide)
          have hd7 : w7.heap[D]? = some (.deferred (some [])) := (ht.2.2.2.2.1 D (def_lt' hdr6) (fun hf => hR6.foot_far hf hdr6 rfl (fun _ _ h => by cases h))).trans hdr6
          go_roundw
          case rel => exact ⟨_, _, hI7, by rw [HS.out]; exact ht.1, hb6.trans hbn, s3, s4, hd7⟩
          case measure => rw [hI7.left_eq, HM.out.1]; exact HM.out.2
end Go.Proofs.Ytkkbmcpimglcpaa
