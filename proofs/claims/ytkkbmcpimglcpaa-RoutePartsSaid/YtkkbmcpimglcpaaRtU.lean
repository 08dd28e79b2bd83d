/- route: fill -/
import Derived.Test.YtkkbmcpimglcpaaRtT
namespace Go.Proofs.Ytkkbmcpimglcpaa
open Go.RowKit

/-- one map of those that are given -/
def fStep (s : List (List Rg) × IMap) (x : Mp) : List (List Rg) × IMap :=
  if rightM x.l then (if 0 ≤ x.of then (if x.of < s.1.length ∧ s.2 x.of = none then (s.1 ++ [x.l], upd (upd s.2 x.of s.1.length) s.1.length x.of) else s) else (s.1 ++ [x.l], s.2)) else s
def fillM (L : List Mp) : List (List Rg) × IMap := L.foldl fStep ([], fun _ => none)
theorem fill_snoc {L : List Mp} {k : Nat} {x : Mp} (h : L[k]? = some x) : fillM (L.take (k + 1)) = fStep (fillM (L.take k)) x := by
  rw [List.take_add_one, h, Option.toList_some, fillM, List.foldl_append]; rfl
theorem fStep_ok {s : List (List Rg) × IMap} {x : Mp} (h : MirOk s.2 s.1.length) (hr : ∀ m ∈ s.1, rightM m = true) : MirOk (fStep s x).2 (fStep s x).1.length ∧ (∀ m ∈ (fStep s x).1, rightM m = true) ∧ (fStep s x).1.length ≤ s.1.length + 1 := by
  have hr2 : rightM x.l = true → ∀ m ∈ s.1 ++ [x.l], rightM m = true := by
    intro hx m hm
    rcases List.mem_append.1 hm with hm | hm
    · exact hr m hm
    · simp at hm; rw [hm]; exact hx
  unfold fStep
  split
  · rename_i hx
    split
    · split
      · rename_i h0 h1
        refine ⟨by simpa using h.pair h0 h1.1, hr2 hx, by simp⟩
      · exact ⟨h, hr, by omega⟩
    · exact ⟨by simpa using h.add, hr2 hx, by simp⟩
  · exact ⟨h, hr, by omega⟩
theorem fill_ok (L : List Mp) : MirOk (fillM L).2 (fillM L).1.length ∧ (∀ m ∈ (fillM L).1, rightM m = true) ∧ (fillM L).1.length ≤ L.length := by
  have gen : ∀ (L : List Mp) (s : List (List Rg) × IMap), MirOk s.2 s.1.length → (∀ m ∈ s.1, rightM m = true) → MirOk (L.foldl fStep s).2 (L.foldl fStep s).1.length ∧ (∀ m ∈ (L.foldl fStep s).1, rightM m = true) ∧ (L.foldl fStep s).1.length ≤ s.1.length + L.length := by
    intro L
    induction L with
    | nil => intro s h hr; exact ⟨h, hr, by simp⟩
    | cons x L ih =>
      intro s h hr
      obtain ⟨h1, h2, h3⟩ := fStep_ok (x := x) h hr
      obtain ⟨g1, g2, g3⟩ := ih (fStep s x) h1 h2
      exact ⟨g1, g2, by simp only [List.foldl_cons, List.length_cons]; omega⟩
  have := gen L ([], fun _ => none) (fun i k h => by cases h) (by simp)
  simpa [fillM] using this

theorem RefOwn.drew {W : World} {base R : Nat} {vm vo : Value} {ms2 : List (List Rg)} {ofs : List Int} (h : RefOwn W base R vm vo ms2 ofs) : RefOwn W.drew base R vm vo ms2 ofs := ⟨h.rows, h.apart, h.ofr⟩
theorem RouteIs.other {W W' : World} {base R b : Nat} {ms : List (List Rg)} {f : IMap} {t : TypeId} {cs : Array Value} (h : RouteIs W base R ms f) (hb : Bk W b t cs) (t1 : t ≠ 51) (t2 : t ≠ 22) (t3 : t ≠ 42) (hk : ∀ j, j ≠ b → W'.heap[j]? = W.heap[j]?) : RouteIs W' base R ms f := by
  obtain ⟨v, mo, vs, h1, h2, h3, h4, h5⟩ := h
  refine ⟨v, mo, vs, (hk R (fun e => bk_ne (e ▸ hb) h1 t1 rfl)).trans h1, h2, own_keep h3 (fun j hj => hk j (fun e => own_ne h3 hb (Ne.symm t2) (e ▸ hj))), h4.keep (fun j cs' hj => hk j (bk_ne hj hb (Ne.symm t3))), ?_⟩
  rcases h5 with h5 | ⟨q, e, h6, h7⟩
  · exact .inl h5
  · exact .inr ⟨q, e, h6, h7.keep (hk q (h7.ne hb))⟩
theorem RefOwn.other {W W' : World} {base R b : Nat} {vm vo : Value} {ms ms' : List (List Rg)} {f : IMap} {ofs : List Int} {t : TypeId} {cs : Array Value} (h : RefOwn W base R vm vo ms ofs) (hR : RouteIs W base R ms' f) (hb : Bk W b t cs) (t1 : t ≠ 51) (t2 : t ≠ 22) (t3 : t ≠ 3) (hk : ∀ j, j ≠ b → W'.heap[j]? = W.heap[j]?) (hbl : Below base W W') : RefOwn W' base R vm vo ms ofs := by
  obtain ⟨⟨vs, h1, h2⟩, h3, h4⟩ := h
  obtain ⟨v, mo, vs0, k1, _⟩ := id hR
  have k1' : Bk W' R 51 #[v, .map mo] := (hk R (fun e => bk_ne (e ▸ hb) k1 t1 rfl)).trans k1
  refine ⟨⟨vs, own_keep h1 (fun j hj => hk j (fun e => own_ne h1 hb (Ne.symm t2) (e ▸ hj))), fun i m hi => ?_⟩, fun j hj hf => h3 j hj ((Foot.one k1).2 ((Foot.one k1').1 hf)), own_keep h4 (fun j hj => hk j (fun e => own_ne h4 hb (Ne.symm t3) (e ▸ hj)))⟩
  obtain ⟨A, c, e1, e2⟩ := h2 i m hi
  exact ⟨A, c, e1, e2.below hbl⟩
theorem RefOwn.is2 {W : World} {base R : Nat} {Am Ao : Option Addr} {cm co : Nat} {ms2 : List (List Rg)} {ofs : List Int} (h : RefOwn W base R (.slice Am ms2.length cm) (.slice Ao ms2.length co) ms2 ofs) (hbase : base ≤ W.heap.size) (ho : ofs.length = ms2.length) :
    RefIs W W.heap.size Am Ao ms2.length ms2 ofs ∧ (Am = none → ms2.length = 0) ∧ (Ao = none → ms2.length = 0) ∧ Rd W W.heap.size 1 Ao ms2.length (ofs.map (Value.int .i64)) ∧
    ∃ vs, Rd W W.heap.size 1 Am ms2.length vs ∧ (∀ u ∈ vs, u.oneCell' = true) ∧ W.ownsRow base 22 1 (.slice Am ms2.length cm) ms2.length vs := by
  obtain ⟨Am', cm', Ao', co', e1, e2, g1, g2, g3, g4⟩ := h.is hbase ho
  injection e1 with e1a _ e1c
  injection e2 with e2a _ e2c
  subst e1a e1c e2a e2c
  exact ⟨g1, g2, g3, Rd.of_own h.ofr, g4⟩

set_option maxRecDepth 100000 in
set_option maxHeartbeats 8000000 in
theorem fill_any (A : Option Addr) (n c : Nat) (L : List Mp) (w : World) (h : MpsIn w w.heap.size A n L) (hn : n ≤ 30) :
    Calls Try.prog 34 #[.slice A n c] w fun e w' => ∃ R vm vo, e = .returned (.tuple #[.pointer (some ⟨R, 0, none⟩), .agg #[vm, vo], .bool true]) ∧
      RouteIs w' w.heap.size R (fillM L).1 (fillM L).2 ∧ RefOwn w' w.heap.size R vm vo (fillM L).1 (ofsOf (fillM L).2 (fillM L).1.length) ∧ Below w.heap.size w w' := by
  have hl := h.len
  have HL := Lib.hid hl
  have H := Lib.hid h
  clear hl h
  go_enter Try.func34, Try.ntmps34
  go_wp2
  go_loopw [7] (fun i wr => ∃ (k : Nat) (vm vo : Value), k ≤ n ∧ i = .int .i64 k ∧ RouteIs wr w.heap.size (w.heap.size + 1) (fillM (L.take k)).1 (fillM (L.take k)).2 ∧ RefOwn wr w.heap.size (w.heap.size + 1) vm vo (fillM (L.take k)).1 (ofsOf (fillM (L.take k)).2 (fillM (L.take k)).1.length) ∧ Bk wr (w.heap.size + 2) 66 #[vm, vo] ∧ Bk wr w.heap.size 66 #[.slice none 0 0, .slice none 0 0] ∧ Below w.heap.size w wr ∧ w.heap.size + 3 ≤ wr.heap.size) (fun i _ => n - (intOf i).toNat)
  case atStart =>
    refine ⟨0, .slice none 0 0, .slice none 0 0, by omega, rfl, route_new _ (fun _ => rfl) ?_ (by omega), ⟨⟨[], World.ownsRow_nil _ _ _ _, fun i m hi => by simp [fillM] at hi⟩, fun j hj => by simp [Value.ownBlock] at hj, World.ownsRow_nil _ _ _ _⟩, ?_, ?_, by repeat (first | with_reducible exact Below.refl _ _ | with_reducible assumption | (with_reducible refine below_drewN ?_ _) | (with_reducible refine Below.drew ?_) | (with_reducible refine Below.alloc ?_ ?_ _; rotate_left; focus (first | with_reducible assumption | omega | (simp; done) | (simp; omega))) | (with_reducible refine Below.setCell ?_ ?_ _; rotate_left; focus (first | with_reducible assumption | omega | (simp; done) | (simp; omega)))), by simp⟩
    · exact (Bk.made (W := w.alloc (.cells #[.slice none 0 0, .slice none 0 0] 66)) _ _ (by simp)).alloc _
    · exact Bk.made _ _ (by simp)
    · exact ((Bk.new w _ _).alloc _).alloc _
  case round =>
    obtain ⟨k, vm, vo, hk, rfl, hR, hO, k6, k3, hbr, hzz⟩ := hrel
    have hzr : w.heap.size ≤ wr.heap.size := by omega
    by_cases hkn : k < n
    · obtain ⟨x, hx⟩ : ∃ x, L[k]? = some x := ⟨_, List.getElem?_eq_getElem (by have := HL.out; omega)⟩
      obtain ⟨b, o, rfl, hb, hc0, hc1, hin⟩ := H.out.at_ hx
      obtain ⟨hmok, hrt, hmk⟩ := fill_ok (L.take k)
      have hsn := fill_snoc hx
      have hms : (fillM (L.take k)).1.length ≤ 30 := by rw [List.length_take] at hmk; omega
      obtain ⟨⟨ms, f⟩, hs⟩ : ∃ s, fillM (L.take k) = s := ⟨_, rfl⟩
      rw [hs] at hsn hms hR hO hmok
      simp only at hR hO hms hmok
      obtain ⟨hin1, hin2, hin3⟩ := hin
      have hF : ∀ w', Below w.heap.size w w' → w'.cell? ⟨b, o + k * 2, none⟩ = some (.slice x.A x.n x.c) ∧ w'.cell? ⟨b, o + k * 2 + 1, none⟩ = some (.int .i64 x.of) := fun w' hb' => ⟨(hb'.cell (p := ⟨b, _, none⟩) hb).trans hc0, (hb'.cell (p := ⟨b, _, none⟩) hb).trans hc1⟩
      have e3 : (k : Int) < n := by omega
      have hxl := hin1.rlen
      have hcr := (hF wr hbr).1
      have hcr2 := (hF wr hbr).2
      have HF := Lib.hid hF
      have HS := Lib.hid hsn
      clear hF hsn hrt hmk hs hx
      have hrr := fun W (hb' : Below w.heap.size w W) => (Has.mk hin2 hin1 : Has x.A x.n x.c x.l w).rright hb'
      cases hr : rightM x.l with
      | true =>
        rw [hr] at hrr
        have HRR := Lib.hid hrr
        clear hrr
        by_cases hof : 0 ≤ x.of
        · by_cases hfr : x.of < ms.length ∧ f x.of = none
          · have hfs : fStep (ms, f) x = (ms ++ [x.l], upd (upd f x.of ms.length) ms.length x.of) := by simp only [fStep, hr, hof, hfr, if_pos, and_self]
            have hfv : freeR ms.length (ofsOf f ms.length) x.of = true := by rw [free_ofs hmok]; exact decide_eq_true ⟨hof, hfr⟩
            obtain ⟨Am, cm, Ao, co, rfl, rfl, _⟩ := hO.is hzr (ofsOf_len _ _)
            have HFS := Lib.hid hfs
            have HFV := Lib.hid hfv
            clear hfs hfv
            go_wp2
            refine wp_normal ?_
            refine wp_region_held_drew (S := fun w' => Below w.heap.size w w') (by kernel_rfl) hbr.drew (fun hHeld => ?_)
            (refine take_if (i := 0) (oi := _) (v := ?_) (by simp only [List.getElem?_toArray, List.getElem?_cons_zero]; rfl) (by kernel_rfl) (by kernel_rfl) (by kernel_rfl) (fun _ _ _ h => h) (by rfl) ?_ (by assumption) ?_; rotate_left; (focus ((intro w hSw; (try have hSw := HF.out _ hSw); (try dsimp only at hSw); go_simp); try exact rfl)); simp only [Act.put, List.setIfInBounds_toArray, List.set_cons_zero, List.set_cons_succ]; refine take_if (i := 1) (oi := _) (v := ?_) (by simp only [List.getElem?_toArray, List.getElem?_cons_succ, List.getElem?_cons_zero]; rfl) (by kernel_rfl) (by kernel_rfl) (by kernel_rfl) (fun _ _ _ h => h) (by rfl) ?_ (by assumption) ?_; rotate_left; (focus ((intro w hSw; (try have hSw := HF.out _ hSw); (try dsimp only at hSw); go_simp); try exact rfl)); simp only [Act.put, List.setIfInBounds_toArray, List.set_cons_zero, List.set_cons_succ]; refine take_if (i := 2) (oi := _) (v := ?_) (by simp only [List.getElem?_toArray, List.getElem?_cons_succ, List.getElem?_cons_zero]; rfl) (by kernel_rfl) (by kernel_rfl) (by kernel_rfl) (fun _ _ _ h => h) (by rfl) ?_ (by assumption) ?_; rotate_left; (focus ((intro w hSw; (try have hSw := HF.out _ hSw); (try dsimp only at hSw); go_simp); try exact rfl)); simp only [Act.put, List.setIfInBounds_toArray, List.set_cons_zero, List.set_cons_succ]; refine take_if (i := 3) (oi := _) (v := ?_) (by simp only [List.getElem?_toArray, List.getElem?_cons_succ, List.getElem?_cons_zero]; rfl) (by kernel_rfl) (by kernel_rfl) (by kernel_rfl) (fun _ _ _ h => h) (by rfl) ?_ (by assumption) ?_; rotate_left; (focus ((intro w hSw; (try have hSw := HF.out _ hSw); (try dsimp only at hSw); go_simp); try exact rfl)); simp only [Act.put, List.setIfInBounds_toArray, List.set_cons_zero, List.set_cons_succ]; refine take_if (i := 4) (oi := _) (v := ?_) (by simp only [List.getElem?_toArray, List.getElem?_cons_succ, List.getElem?_cons_zero]; rfl) (by kernel_rfl) (by kernel_rfl) (by kernel_rfl) (fun _ _ _ h => h) (by rfl) ?_ (by assumption) ?_; rotate_left; (focus ((intro w hSw; (try have hSw := HF.out _ hSw); (try dsimp only at hSw); go_simp); try exact rfl)); simp only [Act.put, List.setIfInBounds_toArray, List.set_cons_zero, List.set_cons_succ]; refine take_if (i := 5) (oi := _) (v := ?_) (by simp only [List.getElem?_toArray, List.getElem?_cons_succ, List.getElem?_cons_zero]; rfl) (by kernel_rfl) (by kernel_rfl) (by kernel_rfl) (fun _ _ _ h => h) (by rfl) ?_ (by assumption) ?_; rotate_left; (focus ((intro w hSw; (try have hSw := HF.out _ hSw); (try dsimp only at hSw); go_simp); try exact rfl)); simp only [Act.put, List.setIfInBounds_toArray, List.set_cons_zero, List.set_cons_succ]; refine take_if (i := 6) (oi := _) (v := ?_) (by simp only [List.getElem?_toArray, List.getElem?_cons_succ, List.getElem?_cons_zero]; rfl) (by kernel_rfl) (by kernel_rfl) (by kernel_rfl) (fun _ _ _ h => h) (by rfl) ?_ (by assumption) ?_; rotate_left; (focus ((intro w hSw; (try have hSw := HF.out _ hSw); (try dsimp only at hSw); go_simp); try exact rfl)); simp only [Act.put, List.setIfInBounds_toArray, List.set_cons_zero, List.set_cons_succ]; refine take_if (i := 7) (oi := _) (v := ?_) (by simp only [List.getElem?_toArray, List.getElem?_cons_succ, List.getElem?_cons_zero]; rfl) (by kernel_rfl) (by kernel_rfl) (by kernel_rfl) (fun _ _ _ h => h) (by rfl) ?_ (by assumption) ?_; rotate_left; (focus ((intro w hSw; (try have hSw := HF.out _ hSw); (try dsimp only at hSw); go_simp); try exact rfl)); simp only [Act.put, List.setIfInBounds_toArray, List.set_cons_zero, List.set_cons_succ]; refine take_if (i := 8) (oi := _) (v := ?_) (by simp only [List.getElem?_toArray, List.getElem?_cons_succ, List.getElem?_cons_zero]; rfl) (by kernel_rfl) (by kernel_rfl) (by kernel_rfl) (fun _ _ _ h => h) (by rfl) ?_ (by assumption) ?_; rotate_left; (focus ((intro w hSw; (try have hSw := HF.out _ hSw); (try dsimp only at hSw); go_simp); try exact rfl)); simp only [Act.put, List.setIfInBounds_toArray, List.set_cons_zero, List.set_cons_succ]; refine take_if (i := 9) (oi := _) (v := ?_) (by simp only [List.getElem?_toArray, List.getElem?_cons_succ, List.getElem?_cons_zero]; rfl) (by kernel_rfl) (by kernel_rfl) (by kernel_rfl) (fun _ _ _ h => h) (by rfl) ?_ (by assumption) ?_; rotate_left; (focus ((intro w hSw; (try have hSw := HF.out _ hSw); (try dsimp only at hSw); go_simp); try exact rfl)); simp only [Act.put, List.setIfInBounds_toArray, List.set_cons_zero, List.set_cons_succ]; refine take_if (i := 10) (oi := _) (v := ?_) (by simp only [List.getElem?_toArray, List.getElem?_cons_succ, List.getElem?_cons_zero]; rfl) (by kernel_rfl) (by kernel_rfl) (by kernel_rfl) (fun _ _ _ h => h) (by rfl) ?_ (by assumption) ?_; rotate_left; (focus ((intro w hSw; (try have hSw := HF.out _ hSw); (try dsimp only at hSw); go_simp); try exact rfl)); simp only [Act.put, List.setIfInBounds_toArray, List.set_cons_zero, List.set_cons_succ])
            refine wpAnyH_ready (rs := [11]) (by kernel_rfl) (by simp) ?_; refine (AllReadyH.cons (o := _) (by simp only [List.getElem?_toArray, List.getElem?_cons_succ, List.getElem?_cons_zero]; rfl) (fun K hK => ?_) AllReadyH.nil)
            go_simp
            go_at_call 26
            refine (mirror_good w.heap.size (w.heap.size + 1) ms f x.A x.n x.c x.l x.of wr.drew hR (by simpa using hzr) (.inl (hin1.below hbr.drew)) hin3 hr (by omega) hof hfr.1 hfr.2).mono ?_
            rintro e w2 ⟨rfl, ht2⟩
            have hb2 := hbr.drew.trans ht2.2.1
            refine hK.out _ _ hb2 (fun hHeld => ?_)
            clear hK K; (try simp only [Act.put, List.setIfInBounds_toArray, List.set_cons_zero, List.set_cons_succ])
            (refine take_if (i := 12) (oi := _) (v := ?_) (by simp only [List.getElem?_toArray, List.getElem?_cons_succ, List.getElem?_cons_zero]; rfl) (by kernel_rfl) (by kernel_rfl) (by kernel_rfl) (fun _ _ _ h => h) (by rfl) ?_ (by assumption) ?_; rotate_left; (focus ((intro w hSw; (try have hSw := HF.out _ hSw); (try dsimp only at hSw); go_simp); try exact rfl)); simp only [Act.put, List.setIfInBounds_toArray, List.set_cons_zero, List.set_cons_succ])
            refine wpAnyH_done (by kernel_rfl) ?_ _
            have hR2 := ht2.1
            have hO2 := RefOwn.turned (W := wr.drew) hO.drew hR ht2
            have q6 : Bk w2 (w.heap.size + 2) 66 #[.slice Am ms.length cm, .slice Ao ms.length co] := Turned.box (W := wr.drew) ht2 hR k6.drew (by decide) (by decide)
            have q3 : Bk w2 w.heap.size 66 #[.slice none 0 0, .slice none 0 0] := Turned.box (W := wr.drew) ht2 hR k3.drew (by decide) (by decide)
            have hz2 : w.heap.size + 3 ≤ w2.heap.size := by have := ht2.2.2.1; simp at this; omega
            clear hcr hcr2
            have hcr := (HF.out _ hb2).1
            have hcr2 := (HF.out _ hb2).2
            go_wp2_with (first
              | (go_at_call 11; ((with_reducible refine (HRR.out _ hb2).mono ?_); rintro e w3 ⟨rfl, hb3, hz3, hx3⟩; have hR3 := hR2.ext hx3; have hO3 := hO2.ext hR2 (by omega) hx3; have p6 := q6.ext hx3; have p3 := q3.ext hx3; have c6a := p6.cell 0; have c6b := p6.cell 1; dsimp at c6a c6b; have HI3 := Lib.hid (hO3.is2 hz3 (ofsOf_len _ _)); have HF3 := free_any w3 Am Ao cm co ms.length ms _ x.of HI3.out.1; rw [HFV.out] at HF3))
              | (go_at_call 47; ((with_reducible refine HF3.mono ?_); rintro e w4 ⟨rfl, hb4⟩)))
            have hz4 := hb4.size
            have hbw := hb3.trans (hb4.mono hz3)
            have hR4 := hR3.ext hb4
            have hO4 := hO3.ext hR3 hz3 hb4
            have s6 := p6.ext hb4
            have s3 := p3.ext hb4
            have d6a := s6.cell 0
            have d6b := s6.cell 1
            dsimp at d6a d6b
            refine wp_normal ?_
            refine wp_region_held_drew (S := fun w' => Below w.heap.size w w') (by kernel_rfl) hbw.drew (fun hHeld => ?_)
            (refine take_if (i := 1) (oi := _) (v := ?_) (by simp only [List.getElem?_toArray, List.getElem?_cons_succ, List.getElem?_cons_zero]; rfl) (by kernel_rfl) (by kernel_rfl) (by kernel_rfl) (fun _ _ _ h => h) (by rfl) ?_ (by assumption) ?_; rotate_left; (focus ((intro w hSw; (try have hSw := HF.out _ hSw); (try dsimp only at hSw); go_simp); try exact rfl)); simp only [Act.put, List.setIfInBounds_toArray, List.set_cons_zero, List.set_cons_succ]; refine take_if (i := 2) (oi := _) (v := ?_) (by simp only [List.getElem?_toArray, List.getElem?_cons_succ, List.getElem?_cons_zero]; rfl) (by kernel_rfl) (by kernel_rfl) (by kernel_rfl) (fun _ _ _ h => h) (by rfl) ?_ (by assumption) ?_; rotate_left; (focus ((intro w hSw; (try have hSw := HF.out _ hSw); (try dsimp only at hSw); go_simp); try exact rfl)); simp only [Act.put, List.setIfInBounds_toArray, List.set_cons_zero, List.set_cons_succ]; refine take_if (i := 3) (oi := _) (v := ?_) (by simp only [List.getElem?_toArray, List.getElem?_cons_succ, List.getElem?_cons_zero]; rfl) (by kernel_rfl) (by kernel_rfl) (by kernel_rfl) (fun _ _ _ h => h) (by rfl) ?_ (by assumption) ?_; rotate_left; (focus ((intro w hSw; (try have hSw := HF.out _ hSw); (try dsimp only at hSw); go_simp); try exact rfl)); simp only [Act.put, List.setIfInBounds_toArray, List.set_cons_zero, List.set_cons_succ]; refine take_if (i := 4) (oi := _) (v := ?_) (by simp only [List.getElem?_toArray, List.getElem?_cons_succ, List.getElem?_cons_zero]; rfl) (by kernel_rfl) (by kernel_rfl) (by kernel_rfl) (fun _ _ _ h => h) (by rfl) ?_ (by assumption) ?_; rotate_left; (focus ((intro w hSw; (try have hSw := HF.out _ hSw); (try dsimp only at hSw); go_simp); try exact rfl)); simp only [Act.put, List.setIfInBounds_toArray, List.set_cons_zero, List.set_cons_succ]; refine take_if (i := 5) (oi := _) (v := ?_) (by simp only [List.getElem?_toArray, List.getElem?_cons_succ, List.getElem?_cons_zero]; rfl) (by kernel_rfl) (by kernel_rfl) (by kernel_rfl) (fun _ _ _ h => h) (by rfl) ?_ (by assumption) ?_; rotate_left; (focus ((intro w hSw; (try have hSw := HF.out _ hSw); (try dsimp only at hSw); go_simp); try exact rfl)); simp only [Act.put, List.setIfInBounds_toArray, List.set_cons_zero, List.set_cons_succ]; refine take_if (i := 6) (oi := _) (v := ?_) (by simp only [List.getElem?_toArray, List.getElem?_cons_succ, List.getElem?_cons_zero]; rfl) (by kernel_rfl) (by kernel_rfl) (by kernel_rfl) (fun _ _ _ h => h) (by rfl) ?_ (by assumption) ?_; rotate_left; (focus ((intro w hSw; (try have hSw := HF.out _ hSw); (try dsimp only at hSw); go_simp); try exact rfl)); simp only [Act.put, List.setIfInBounds_toArray, List.set_cons_zero, List.set_cons_succ])
            refine wpAnyH_ready (rs := [0]) (by kernel_rfl) (by simp) ?_; refine (AllReadyH.cons (o := _) (by simp only [List.getElem?_toArray, List.getElem?_cons_zero]; rfl) (fun K hK => ?_) AllReadyH.nil)
            go_simp
            refine hK.out _ _ hbw.drew (fun hHeld => ?_)
            clear hK K; (try simp only [Act.put, List.setIfInBounds_toArray, List.set_cons_zero, List.set_cons_succ])
            refine wpAnyH_ready (rs := [7]) (by kernel_rfl) (by simp) ?_; refine (AllReadyH.cons (o := _) (by simp only [List.getElem?_toArray, List.getElem?_cons_succ, List.getElem?_cons_zero]; rfl) (fun K hK => ?_) AllReadyH.nil)
            go_simp
            go_at_call 48
            obtain ⟨g1, g2, g3, g4, vs, g5, g6, g7⟩ := hO4.is2 hbw.size (ofsOf_len _ _)
            refine (radd_good w4.drew Am Ao x.A cm co ms.length x.n x.c vs _ x.l x.of hr ((hin1.below hbw).more hbw.size).drew g5.drew g2 g6 g4.drew g3 (by omega) hfr.1).mono ?_
            rintro e w5 ⟨v, o', rfl, r1, r2, hb5⟩
            rw [if_pos hof, ← ofs_pair hmok hof hfr.1] at r2
            obtain ⟨A7, c7, rfl, _⟩ := own_form r1
            obtain ⟨A8, c8, rfl, _⟩ := own_form r2
            have hb5' := hbw.drew.trans (hb5.mono (by simpa using hbw.size))
            refine hK.out _ _ hb5' (fun hHeld => ?_)
            clear hK K; (try simp only [Act.put, List.setIfInBounds_toArray, List.set_cons_zero, List.set_cons_succ])
            (refine take_if (i := 8) (oi := _) (v := ?_) (by simp only [List.getElem?_toArray, List.getElem?_cons_succ, List.getElem?_cons_zero]; rfl) (by kernel_rfl) (by kernel_rfl) (by kernel_rfl) (fun _ _ _ h => h) (by rfl) ?_ (by assumption) ?_; rotate_left; (focus ((intro w hSw; (try have hSw := HF.out _ hSw); (try dsimp only at hSw); go_simp); try exact rfl)); simp only [Act.put, List.setIfInBounds_toArray, List.set_cons_zero, List.set_cons_succ]; refine take_if (i := 9) (oi := _) (v := ?_) (by simp only [List.getElem?_toArray, List.getElem?_cons_succ, List.getElem?_cons_zero]; rfl) (by kernel_rfl) (by kernel_rfl) (by kernel_rfl) (fun _ _ _ h => h) (by rfl) ?_ (by assumption) ?_; rotate_left; (focus ((intro w hSw; (try have hSw := HF.out _ hSw); (try dsimp only at hSw); go_simp); try exact rfl)); simp only [Act.put, List.setIfInBounds_toArray, List.set_cons_zero, List.set_cons_succ]; refine take_if (i := 10) (oi := _) (v := ?_) (by simp only [List.getElem?_toArray, List.getElem?_cons_succ, List.getElem?_cons_zero]; rfl) (by kernel_rfl) (by kernel_rfl) (by kernel_rfl) (fun _ _ _ h => h) (by rfl) ?_ (by assumption) ?_; rotate_left; (focus ((intro w hSw; (try have hSw := HF.out _ hSw); (try dsimp only at hSw); go_simp); try exact rfl)); simp only [Act.put, List.setIfInBounds_toArray, List.set_cons_zero, List.set_cons_succ])
            have t6 := s6.drew.ext hb5
            have t3 := s3.drew.ext hb5
            have u6a : w5.cell? ⟨w.heap.size + 1 + 1, 0, none⟩ = some (.slice Am ms.length cm) := t6.cell 0
            have u6b : w5.cell? ⟨w.heap.size + 1 + 1, 1, none⟩ = some (.slice Ao ms.length co) := t6.cell 1
            have u6f : ∀ i : Nat, w5.frozen? ⟨w.heap.size + 1 + 1, i, none⟩ = false := t6.frozen
            refine wpAnyH_ready (rs := [11]) (by kernel_rfl) (by simp) ?_; refine (AllReadyH.cons (o := _) (by simp only [List.getElem?_toArray, List.getElem?_cons_succ, List.getElem?_cons_zero]; rfl) (fun K hK => ?_) AllReadyH.nil)
            go_simp
            have y6 : Bk ((w5.setCell ⟨w.heap.size + 2, 0, none⟩ (.slice A7 (ms.length + 1) c7)).setCell ⟨w.heap.size + 2, 1, none⟩ (.slice A8 (ms.length + 1) c8)) (w.heap.size + 2) 66 #[.slice A7 (ms.length + 1) c7, .slice A8 (ms.length + 1) c8] := (t6.set_ 0 _).set_ 1 _
            have hoth : ∀ j, j ≠ w.heap.size + 2 → ((w5.setCell ⟨w.heap.size + 2, 0, none⟩ (.slice A7 (ms.length + 1) c7)).setCell ⟨w.heap.size + 2, 1, none⟩ (.slice A8 (ms.length + 1) c8)).heap[j]? = w5.heap[j]? := fun j hj => (Below.heap_setCell _ _ _ _ hj).trans (Below.heap_setCell _ _ _ _ hj)
            have hb56 : Below w.heap.size w5 ((w5.setCell ⟨w.heap.size + 2, 0, none⟩ (.slice A7 (ms.length + 1) c7)).setCell ⟨w.heap.size + 2, 1, none⟩ (.slice A8 (ms.length + 1) c8)) := ((Below.refl _ _).setCell (by show w.heap.size ≤ w.heap.size + 2; omega) _).setCell (by show w.heap.size ≤ w.heap.size + 2; omega) _
            have hb6 : Below w.heap.size w ((w5.setCell ⟨w.heap.size + 2, 0, none⟩ (.slice A7 (ms.length + 1) c7)).setCell ⟨w.heap.size + 2, 1, none⟩ (.slice A8 (ms.length + 1) c8)) := hb5'.trans hb56
            refine hK.out _ _ hb6 (fun hHeld => ?_)
            clear hK K; (try simp only [Act.put, List.setIfInBounds_toArray, List.set_cons_zero, List.set_cons_succ])
            (refine take_if (i := 12) (oi := _) (v := ?_) (by simp only [List.getElem?_toArray, List.getElem?_cons_succ, List.getElem?_cons_zero]; rfl) (by kernel_rfl) (by kernel_rfl) (by kernel_rfl) (fun _ _ _ h => h) (by rfl) ?_ (by assumption) ?_; rotate_left; (focus ((intro w hSw; (try have hSw := HF.out _ hSw); (try dsimp only at hSw); go_simp); try exact rfl)); simp only [Act.put, List.setIfInBounds_toArray, List.set_cons_zero, List.set_cons_succ])
            refine wpAnyH_done (by kernel_rfl) ?_ _
            have hR5 := RouteIs.ext (W := w4.drew) hR4 hb5
            have hO5 := RefOwn.added (W := w4.drew) hO4.drew hR4 hbw.size hb5 g7 hxl (hin1.below hbw).drew r1 r2
            go_wp2
            go_roundw
            case rel => exact ⟨k + 1, _, _, by omega, by go_num, by rw [HS.out, HFS.out]; exact hR5.other t6 (by decide) (by decide) (by decide) hoth, by rw [HS.out, HFS.out]; simp only [List.length_append, List.length_cons, List.length_nil, Nat.zero_add]; exact hO5.other hR5 t6 (by decide) (by decide) (by decide) hoth hb56, y6, (hoth _ (by omega)).trans t3, hb6, by have := def_lt' t6; simp; omega⟩
            case measure => simp [intOf]; omega
          · have hfs : fStep (ms, f) x = (ms, f) := by simp only [fStep, hr, hof, hfr, if_pos, if_false]
            have hfv : freeR ms.length (ofsOf f ms.length) x.of = false := by rw [free_ofs hmok]; exact decide_eq_false (fun h => hfr h.2)
            have HME : mirE ms f x.l x.of ≠ 0 ∧ mirE ms f x.l x.of = 6 := by
              have : mirE ms f x.l x.of = 6 := by unfold mirE; rw [if_pos hr, if_neg (fun h => hfr h.2)]
              exact ⟨by rw [this]; decide, this⟩
            obtain ⟨Am, cm, Ao, co, rfl, rfl, _⟩ := hO.is hzr (ofsOf_len _ _)
            have HFS := Lib.hid hfs
            have HFV := Lib.hid hfv
            clear hfs hfv
            go_wp2
            refine wp_normal ?_
            refine wp_region_held_drew (S := fun w' => Below w.heap.size w w') (by kernel_rfl) hbr.drew (fun hHeld => ?_)
            (refine take_if (i := 0) (oi := _) (v := ?_) (by simp only [List.getElem?_toArray, List.getElem?_cons_zero]; rfl) (by kernel_rfl) (by kernel_rfl) (by kernel_rfl) (fun _ _ _ h => h) (by rfl) ?_ (by assumption) ?_; rotate_left; (focus ((intro w hSw; (try have hSw := HF.out _ hSw); (try dsimp only at hSw); go_simp); try exact rfl)); simp only [Act.put, List.setIfInBounds_toArray, List.set_cons_zero, List.set_cons_succ]; refine take_if (i := 1) (oi := _) (v := ?_) (by simp only [List.getElem?_toArray, List.getElem?_cons_succ, List.getElem?_cons_zero]; rfl) (by kernel_rfl) (by kernel_rfl) (by kernel_rfl) (fun _ _ _ h => h) (by rfl) ?_ (by assumption) ?_; rotate_left; (focus ((intro w hSw; (try have hSw := HF.out _ hSw); (try dsimp only at hSw); go_simp); try exact rfl)); simp only [Act.put, List.setIfInBounds_toArray, List.set_cons_zero, List.set_cons_succ]; refine take_if (i := 2) (oi := _) (v := ?_) (by simp only [List.getElem?_toArray, List.getElem?_cons_succ, List.getElem?_cons_zero]; rfl) (by kernel_rfl) (by kernel_rfl) (by kernel_rfl) (fun _ _ _ h => h) (by rfl) ?_ (by assumption) ?_; rotate_left; (focus ((intro w hSw; (try have hSw := HF.out _ hSw); (try dsimp only at hSw); go_simp); try exact rfl)); simp only [Act.put, List.setIfInBounds_toArray, List.set_cons_zero, List.set_cons_succ]; refine take_if (i := 3) (oi := _) (v := ?_) (by simp only [List.getElem?_toArray, List.getElem?_cons_succ, List.getElem?_cons_zero]; rfl) (by kernel_rfl) (by kernel_rfl) (by kernel_rfl) (fun _ _ _ h => h) (by rfl) ?_ (by assumption) ?_; rotate_left; (focus ((intro w hSw; (try have hSw := HF.out _ hSw); (try dsimp only at hSw); go_simp); try exact rfl)); simp only [Act.put, List.setIfInBounds_toArray, List.set_cons_zero, List.set_cons_succ]; refine take_if (i := 4) (oi := _) (v := ?_) (by simp only [List.getElem?_toArray, List.getElem?_cons_succ, List.getElem?_cons_zero]; rfl) (by kernel_rfl) (by kernel_rfl) (by kernel_rfl) (fun _ _ _ h => h) (by rfl) ?_ (by assumption) ?_; rotate_left; (focus ((intro w hSw; (try have hSw := HF.out _ hSw); (try dsimp only at hSw); go_simp); try exact rfl)); simp only [Act.put, List.setIfInBounds_toArray, List.set_cons_zero, List.set_cons_succ]; refine take_if (i := 5) (oi := _) (v := ?_) (by simp only [List.getElem?_toArray, List.getElem?_cons_succ, List.getElem?_cons_zero]; rfl) (by kernel_rfl) (by kernel_rfl) (by kernel_rfl) (fun _ _ _ h => h) (by rfl) ?_ (by assumption) ?_; rotate_left; (focus ((intro w hSw; (try have hSw := HF.out _ hSw); (try dsimp only at hSw); go_simp); try exact rfl)); simp only [Act.put, List.setIfInBounds_toArray, List.set_cons_zero, List.set_cons_succ]; refine take_if (i := 6) (oi := _) (v := ?_) (by simp only [List.getElem?_toArray, List.getElem?_cons_succ, List.getElem?_cons_zero]; rfl) (by kernel_rfl) (by kernel_rfl) (by kernel_rfl) (fun _ _ _ h => h) (by rfl) ?_ (by assumption) ?_; rotate_left; (focus ((intro w hSw; (try have hSw := HF.out _ hSw); (try dsimp only at hSw); go_simp); try exact rfl)); simp only [Act.put, List.setIfInBounds_toArray, List.set_cons_zero, List.set_cons_succ]; refine take_if (i := 7) (oi := _) (v := ?_) (by simp only [List.getElem?_toArray, List.getElem?_cons_succ, List.getElem?_cons_zero]; rfl) (by kernel_rfl) (by kernel_rfl) (by kernel_rfl) (fun _ _ _ h => h) (by rfl) ?_ (by assumption) ?_; rotate_left; (focus ((intro w hSw; (try have hSw := HF.out _ hSw); (try dsimp only at hSw); go_simp); try exact rfl)); simp only [Act.put, List.setIfInBounds_toArray, List.set_cons_zero, List.set_cons_succ]; refine take_if (i := 8) (oi := _) (v := ?_) (by simp only [List.getElem?_toArray, List.getElem?_cons_succ, List.getElem?_cons_zero]; rfl) (by kernel_rfl) (by kernel_rfl) (by kernel_rfl) (fun _ _ _ h => h) (by rfl) ?_ (by assumption) ?_; rotate_left; (focus ((intro w hSw; (try have hSw := HF.out _ hSw); (try dsimp only at hSw); go_simp); try exact rfl)); simp only [Act.put, List.setIfInBounds_toArray, List.set_cons_zero, List.set_cons_succ]; refine take_if (i := 9) (oi := _) (v := ?_) (by simp only [List.getElem?_toArray, List.getElem?_cons_succ, List.getElem?_cons_zero]; rfl) (by kernel_rfl) (by kernel_rfl) (by kernel_rfl) (fun _ _ _ h => h) (by rfl) ?_ (by assumption) ?_; rotate_left; (focus ((intro w hSw; (try have hSw := HF.out _ hSw); (try dsimp only at hSw); go_simp); try exact rfl)); simp only [Act.put, List.setIfInBounds_toArray, List.set_cons_zero, List.set_cons_succ]; refine take_if (i := 10) (oi := _) (v := ?_) (by simp only [List.getElem?_toArray, List.getElem?_cons_succ, List.getElem?_cons_zero]; rfl) (by kernel_rfl) (by kernel_rfl) (by kernel_rfl) (fun _ _ _ h => h) (by rfl) ?_ (by assumption) ?_; rotate_left; (focus ((intro w hSw; (try have hSw := HF.out _ hSw); (try dsimp only at hSw); go_simp); try exact rfl)); simp only [Act.put, List.setIfInBounds_toArray, List.set_cons_zero, List.set_cons_succ])
            refine wpAnyH_ready (rs := [11]) (by kernel_rfl) (by simp) ?_; refine (AllReadyH.cons (o := _) (by simp only [List.getElem?_toArray, List.getElem?_cons_succ, List.getElem?_cons_zero]; rfl) (fun K hK => ?_) AllReadyH.nil)
            go_simp
            go_at_call 26
            have hmb := mirror_bad w.heap.size (w.heap.size + 1) ms f x.A x.n x.c x.l x.of wr.drew hR hin2 (fun _ => ((hin1.below hbr).more hzr).drew) hxl (by omega) HME.1
            rw [HME.2] at hmb
            refine hmb.mono ?_
            rintro e w2 ⟨rfl, hbx⟩
            have hb2 : Below w.heap.size w w2 := hbr.drew.trans (hbx.mono (by simpa using hzr))
            refine hK.out _ _ hb2 (fun hHeld => ?_)
            clear hK K; (try simp only [Act.put, List.setIfInBounds_toArray, List.set_cons_zero, List.set_cons_succ])
            (refine take_if (i := 12) (oi := _) (v := ?_) (by simp only [List.getElem?_toArray, List.getElem?_cons_succ, List.getElem?_cons_zero]; rfl) (by kernel_rfl) (by kernel_rfl) (by kernel_rfl) (fun _ _ _ h => h) (by rfl) ?_ (by assumption) ?_; rotate_left; (focus ((intro w hSw; (try have hSw := HF.out _ hSw); (try dsimp only at hSw); go_simp); try exact rfl)); simp only [Act.put, List.setIfInBounds_toArray, List.set_cons_zero, List.set_cons_succ])
            refine wpAnyH_done (by kernel_rfl) ?_ _
            have hR2 := RouteIs.ext (W := wr.drew) hR hbx
            have hO2 := RefOwn.ext (W := wr.drew) hO.drew hR hzr hbx
            have q6 : Bk w2 (w.heap.size + 2) 66 #[.slice Am ms.length cm, .slice Ao ms.length co] := Bk.ext (W := wr.drew) k6.drew hbx
            have q3 : Bk w2 w.heap.size 66 #[.slice none 0 0, .slice none 0 0] := Bk.ext (W := wr.drew) k3.drew hbx
            have hz2 : w.heap.size + 3 ≤ w2.heap.size := by have := hbx.size; simp at this; omega
            clear hcr hcr2
            have hcr := (HF.out _ hb2).1
            have hcr2 := (HF.out _ hb2).2
            go_wp2_with (first
              | (go_at_call 11; ((with_reducible refine (HRR.out _ hb2).mono ?_); rintro e w3 ⟨rfl, hb3, hz3, hx3⟩; have hR3 := hR2.ext hx3; have hO3 := hO2.ext hR2 (by omega) hx3; have p6 := q6.ext hx3; have p3 := q3.ext hx3; have c6a := p6.cell 0; have c6b := p6.cell 1; dsimp at c6a c6b; have HI3 := Lib.hid (hO3.is2 hz3 (ofsOf_len _ _)); have HF3 := free_any w3 Am Ao cm co ms.length ms _ x.of HI3.out.1; rw [HFV.out] at HF3))
              | (go_at_call 47; ((with_reducible refine HF3.mono ?_); rintro e w4 ⟨rfl, hb4⟩)))
            have hz4 := hb4.size
            have hbw := hb3.trans (hb4.mono hz3)
            have hR4 := hR3.ext hb4
            have hO4 := hO3.ext hR3 hz3 hb4
            have s6 := p6.ext hb4
            have s3 := p3.ext hb4
            go_roundw
            case rel => exact ⟨k + 1, _, _, by omega, by go_num, by rw [HS.out, HFS.out]; exact hR4, by rw [HS.out, HFS.out]; exact hO4, s6, s3, hbw, by have := def_lt' s6; omega⟩
            case measure => simp [intOf]; omega
        · have hfs : fStep (ms, f) x = (ms ++ [x.l], f) := by simp only [fStep, hr, hof, if_pos, if_false]
          have hof' : x.of < 0 := by omega
          obtain ⟨Am, cm, Ao, co, rfl, rfl, _⟩ := hO.is hzr (ofsOf_len _ _)
          have HFS := Lib.hid hfs
          clear hfs
          go_wp2_with (first
            | (go_at_call 25; ((with_reducible refine (add_good w.heap.size (w.heap.size + 1) ms f x.A x.n x.c x.l wr hR hzr ((hin1.below hbr).more hzr) hin3 hr (by omega)).mono ?_); rintro e w2 ⟨rfl, ta, tb, tc, td, te⟩; have ht2 : Turned wr w2 w.heap.size (w.heap.size + 1) (ms ++ [x.l]) f := ⟨ta, tb, tc, td, te⟩; have hb2 := hbr.trans tb; have hR2 := ta; have hO2 := hO.turned hR ht2; have q6 := Turned.box ht2 hR k6 (by decide) (by decide); have q3 := Turned.box ht2 hR k3 (by decide) (by decide); have hz2 : w.heap.size + 3 ≤ w2.heap.size := (by omega); have hcs := (HF.out _ hb2).1; have hcs2 := (HF.out _ hb2).2))
            | (go_at_call 11; ((with_reducible refine (HRR.out _ hb2).mono ?_); rintro e w3 ⟨rfl, hb3, hz3, hx3⟩; have hR3 := hR2.ext hx3; have hO3 := hO2.ext hR2 (by omega) hx3; have p6 := q6.ext hx3; have p3 := q3.ext hx3; have c6a := p6.cell 0; have c6b := p6.cell 1; dsimp at c6a c6b)))
          have hbw := hb3
          have hR4 := hR3
          have hO4 := hO3
          have s6 := p6
          have s3 := p3
          have d6a := s6.cell 0
          have d6b := s6.cell 1
          dsimp at d6a d6b
          refine wp_normal ?_
          refine wp_region_held_drew (S := fun w' => Below w.heap.size w w') (by kernel_rfl) hbw.drew (fun hHeld => ?_)
          (refine take_if (i := 1) (oi := _) (v := ?_) (by simp only [List.getElem?_toArray, List.getElem?_cons_succ, List.getElem?_cons_zero]; rfl) (by kernel_rfl) (by kernel_rfl) (by kernel_rfl) (fun _ _ _ h => h) (by rfl) ?_ (by assumption) ?_; rotate_left; (focus ((intro w hSw; (try have hSw := HF.out _ hSw); (try dsimp only at hSw); go_simp); try exact rfl)); simp only [Act.put, List.setIfInBounds_toArray, List.set_cons_zero, List.set_cons_succ]; refine take_if (i := 2) (oi := _) (v := ?_) (by simp only [List.getElem?_toArray, List.getElem?_cons_succ, List.getElem?_cons_zero]; rfl) (by kernel_rfl) (by kernel_rfl) (by kernel_rfl) (fun _ _ _ h => h) (by rfl) ?_ (by assumption) ?_; rotate_left; (focus ((intro w hSw; (try have hSw := HF.out _ hSw); (try dsimp only at hSw); go_simp); try exact rfl)); simp only [Act.put, List.setIfInBounds_toArray, List.set_cons_zero, List.set_cons_succ]; refine take_if (i := 3) (oi := _) (v := ?_) (by simp only [List.getElem?_toArray, List.getElem?_cons_succ, List.getElem?_cons_zero]; rfl) (by kernel_rfl) (by kernel_rfl) (by kernel_rfl) (fun _ _ _ h => h) (by rfl) ?_ (by assumption) ?_; rotate_left; (focus ((intro w hSw; (try have hSw := HF.out _ hSw); (try dsimp only at hSw); go_simp); try exact rfl)); simp only [Act.put, List.setIfInBounds_toArray, List.set_cons_zero, List.set_cons_succ]; refine take_if (i := 4) (oi := _) (v := ?_) (by simp only [List.getElem?_toArray, List.getElem?_cons_succ, List.getElem?_cons_zero]; rfl) (by kernel_rfl) (by kernel_rfl) (by kernel_rfl) (fun _ _ _ h => h) (by rfl) ?_ (by assumption) ?_; rotate_left; (focus ((intro w hSw; (try have hSw := HF.out _ hSw); (try dsimp only at hSw); go_simp); try exact rfl)); simp only [Act.put, List.setIfInBounds_toArray, List.set_cons_zero, List.set_cons_succ]; refine take_if (i := 5) (oi := _) (v := ?_) (by simp only [List.getElem?_toArray, List.getElem?_cons_succ, List.getElem?_cons_zero]; rfl) (by kernel_rfl) (by kernel_rfl) (by kernel_rfl) (fun _ _ _ h => h) (by rfl) ?_ (by assumption) ?_; rotate_left; (focus ((intro w hSw; (try have hSw := HF.out _ hSw); (try dsimp only at hSw); go_simp); try exact rfl)); simp only [Act.put, List.setIfInBounds_toArray, List.set_cons_zero, List.set_cons_succ]; refine take_if (i := 6) (oi := _) (v := ?_) (by simp only [List.getElem?_toArray, List.getElem?_cons_succ, List.getElem?_cons_zero]; rfl) (by kernel_rfl) (by kernel_rfl) (by kernel_rfl) (fun _ _ _ h => h) (by rfl) ?_ (by assumption) ?_; rotate_left; (focus ((intro w hSw; (try have hSw := HF.out _ hSw); (try dsimp only at hSw); go_simp); try exact rfl)); simp only [Act.put, List.setIfInBounds_toArray, List.set_cons_zero, List.set_cons_succ])
          refine wpAnyH_ready (rs := [0]) (by kernel_rfl) (by simp) ?_; refine (AllReadyH.cons (o := _) (by simp only [List.getElem?_toArray, List.getElem?_cons_zero]; rfl) (fun K hK => ?_) AllReadyH.nil)
          go_simp
          refine hK.out _ _ hbw.drew (fun hHeld => ?_)
          clear hK K; (try simp only [Act.put, List.setIfInBounds_toArray, List.set_cons_zero, List.set_cons_succ])
          refine wpAnyH_ready (rs := [7]) (by kernel_rfl) (by simp) ?_; refine (AllReadyH.cons (o := _) (by simp only [List.getElem?_toArray, List.getElem?_cons_succ, List.getElem?_cons_zero]; rfl) (fun K hK => ?_) AllReadyH.nil)
          go_simp
          go_at_call 48
          obtain ⟨g1, g2, g3, g4, vs, g5, g6, g7⟩ := hO4.is2 hbw.size (ofsOf_len _ _)
          refine (radd_good w3.drew Am Ao x.A cm co ms.length x.n x.c vs _ x.l (-1) hr ((hin1.below hbw).more hbw.size).drew g5.drew g2 g6 g4.drew g3 (by omega) (by omega)).mono ?_
          rintro e w5 ⟨v, o', rfl, r1, r2, hb5⟩
          rw [if_neg (by omega), ← ofs_add hmok] at r2
          obtain ⟨A7, c7, rfl, _⟩ := own_form r1
          obtain ⟨A8, c8, rfl, _⟩ := own_form r2
          have hb5' := hbw.drew.trans (hb5.mono (by simpa using hbw.size))
          refine hK.out _ _ hb5' (fun hHeld => ?_)
          clear hK K; (try simp only [Act.put, List.setIfInBounds_toArray, List.set_cons_zero, List.set_cons_succ])
          (refine take_if (i := 8) (oi := _) (v := ?_) (by simp only [List.getElem?_toArray, List.getElem?_cons_succ, List.getElem?_cons_zero]; rfl) (by kernel_rfl) (by kernel_rfl) (by kernel_rfl) (fun _ _ _ h => h) (by rfl) ?_ (by assumption) ?_; rotate_left; (focus ((intro w hSw; (try have hSw := HF.out _ hSw); (try dsimp only at hSw); go_simp); try exact rfl)); simp only [Act.put, List.setIfInBounds_toArray, List.set_cons_zero, List.set_cons_succ]; refine take_if (i := 9) (oi := _) (v := ?_) (by simp only [List.getElem?_toArray, List.getElem?_cons_succ, List.getElem?_cons_zero]; rfl) (by kernel_rfl) (by kernel_rfl) (by kernel_rfl) (fun _ _ _ h => h) (by rfl) ?_ (by assumption) ?_; rotate_left; (focus ((intro w hSw; (try have hSw := HF.out _ hSw); (try dsimp only at hSw); go_simp); try exact rfl)); simp only [Act.put, List.setIfInBounds_toArray, List.set_cons_zero, List.set_cons_succ]; refine take_if (i := 10) (oi := _) (v := ?_) (by simp only [List.getElem?_toArray, List.getElem?_cons_succ, List.getElem?_cons_zero]; rfl) (by kernel_rfl) (by kernel_rfl) (by kernel_rfl) (fun _ _ _ h => h) (by rfl) ?_ (by assumption) ?_; rotate_left; (focus ((intro w hSw; (try have hSw := HF.out _ hSw); (try dsimp only at hSw); go_simp); try exact rfl)); simp only [Act.put, List.setIfInBounds_toArray, List.set_cons_zero, List.set_cons_succ])
          have t6 := s6.drew.ext hb5
          have t3 := s3.drew.ext hb5
          have u6a : w5.cell? ⟨w.heap.size + 1 + 1, 0, none⟩ = some (.slice Am ms.length cm) := t6.cell 0
          have u6b : w5.cell? ⟨w.heap.size + 1 + 1, 1, none⟩ = some (.slice Ao ms.length co) := t6.cell 1
          have u6f : ∀ i : Nat, w5.frozen? ⟨w.heap.size + 1 + 1, i, none⟩ = false := t6.frozen
          refine wpAnyH_ready (rs := [11]) (by kernel_rfl) (by simp) ?_; refine (AllReadyH.cons (o := _) (by simp only [List.getElem?_toArray, List.getElem?_cons_succ, List.getElem?_cons_zero]; rfl) (fun K hK => ?_) AllReadyH.nil)
          go_simp
          have y6 : Bk ((w5.setCell ⟨w.heap.size + 2, 0, none⟩ (.slice A7 (ms.length + 1) c7)).setCell ⟨w.heap.size + 2, 1, none⟩ (.slice A8 (ms.length + 1) c8)) (w.heap.size + 2) 66 #[.slice A7 (ms.length + 1) c7, .slice A8 (ms.length + 1) c8] := (t6.set_ 0 _).set_ 1 _
          have hoth : ∀ j, j ≠ w.heap.size + 2 → ((w5.setCell ⟨w.heap.size + 2, 0, none⟩ (.slice A7 (ms.length + 1) c7)).setCell ⟨w.heap.size + 2, 1, none⟩ (.slice A8 (ms.length + 1) c8)).heap[j]? = w5.heap[j]? := fun j hj => (Below.heap_setCell _ _ _ _ hj).trans (Below.heap_setCell _ _ _ _ hj)
          have hb56 : Below w.heap.size w5 ((w5.setCell ⟨w.heap.size + 2, 0, none⟩ (.slice A7 (ms.length + 1) c7)).setCell ⟨w.heap.size + 2, 1, none⟩ (.slice A8 (ms.length + 1) c8)) := ((Below.refl _ _).setCell (by show w.heap.size ≤ w.heap.size + 2; omega) _).setCell (by show w.heap.size ≤ w.heap.size + 2; omega) _
          have hb6 : Below w.heap.size w ((w5.setCell ⟨w.heap.size + 2, 0, none⟩ (.slice A7 (ms.length + 1) c7)).setCell ⟨w.heap.size + 2, 1, none⟩ (.slice A8 (ms.length + 1) c8)) := hb5'.trans hb56
          refine hK.out _ _ hb6 (fun hHeld => ?_)
          clear hK K; (try simp only [Act.put, List.setIfInBounds_toArray, List.set_cons_zero, List.set_cons_succ])
          (refine take_if (i := 12) (oi := _) (v := ?_) (by simp only [List.getElem?_toArray, List.getElem?_cons_succ, List.getElem?_cons_zero]; rfl) (by kernel_rfl) (by kernel_rfl) (by kernel_rfl) (fun _ _ _ h => h) (by rfl) ?_ (by assumption) ?_; rotate_left; (focus ((intro w hSw; (try have hSw := HF.out _ hSw); (try dsimp only at hSw); go_simp); try exact rfl)); simp only [Act.put, List.setIfInBounds_toArray, List.set_cons_zero, List.set_cons_succ])
          refine wpAnyH_done (by kernel_rfl) ?_ _
          have hR5 := RouteIs.ext (W := w3.drew) hR4 hb5
          have hO5 := RefOwn.added (W := w3.drew) hO4.drew hR4 hbw.size hb5 g7 hxl (hin1.below hbw).drew r1 r2
          go_wp2
          go_roundw
          case rel => exact ⟨k + 1, _, _, by omega, by go_num, by rw [HS.out, HFS.out]; exact hR5.other t6 (by decide) (by decide) (by decide) hoth, by rw [HS.out, HFS.out]; simp only [List.length_append, List.length_cons, List.length_nil, Nat.zero_add]; exact hO5.other hR5 t6 (by decide) (by decide) (by decide) hoth hb56, y6, (hoth _ (by omega)).trans t3, hb6, by have := def_lt' t6; simp; omega⟩
          case measure => simp [intOf]; omega
      | false =>
        rw [hr] at hrr
        have HRR := Lib.hid hrr
        clear hrr
        by_cases hof : 0 ≤ x.of
        · have hfs : fStep (ms, f) x = (ms, f) := by simp only [fStep, hr, Bool.false_eq_true, if_false]
          have HME : mirE ms f x.l x.of ≠ 0 ∧ mirE ms f x.l x.of = 1 := by
            have : mirE ms f x.l x.of = 1 := by unfold mirE; rw [hr]; rfl
            exact ⟨by rw [this]; decide, this⟩
          obtain ⟨Am, cm, Ao, co, rfl, rfl, _⟩ := hO.is hzr (ofsOf_len _ _)
          have HFS := Lib.hid hfs
          clear hfs
          go_wp2
          refine wp_normal ?_
          refine wp_region_held_drew (S := fun w' => Below w.heap.size w w') (by kernel_rfl) hbr.drew (fun hHeld => ?_)
          (refine take_if (i := 0) (oi := _) (v := ?_) (by simp only [List.getElem?_toArray, List.getElem?_cons_zero]; rfl) (by kernel_rfl) (by kernel_rfl) (by kernel_rfl) (fun _ _ _ h => h) (by rfl) ?_ (by assumption) ?_; rotate_left; (focus ((intro w hSw; (try have hSw := HF.out _ hSw); (try dsimp only at hSw); go_simp); try exact rfl)); simp only [Act.put, List.setIfInBounds_toArray, List.set_cons_zero, List.set_cons_succ]; refine take_if (i := 1) (oi := _) (v := ?_) (by simp only [List.getElem?_toArray, List.getElem?_cons_succ, List.getElem?_cons_zero]; rfl) (by kernel_rfl) (by kernel_rfl) (by kernel_rfl) (fun _ _ _ h => h) (by rfl) ?_ (by assumption) ?_; rotate_left; (focus ((intro w hSw; (try have hSw := HF.out _ hSw); (try dsimp only at hSw); go_simp); try exact rfl)); simp only [Act.put, List.setIfInBounds_toArray, List.set_cons_zero, List.set_cons_succ]; refine take_if (i := 2) (oi := _) (v := ?_) (by simp only [List.getElem?_toArray, List.getElem?_cons_succ, List.getElem?_cons_zero]; rfl) (by kernel_rfl) (by kernel_rfl) (by kernel_rfl) (fun _ _ _ h => h) (by rfl) ?_ (by assumption) ?_; rotate_left; (focus ((intro w hSw; (try have hSw := HF.out _ hSw); (try dsimp only at hSw); go_simp); try exact rfl)); simp only [Act.put, List.setIfInBounds_toArray, List.set_cons_zero, List.set_cons_succ]; refine take_if (i := 3) (oi := _) (v := ?_) (by simp only [List.getElem?_toArray, List.getElem?_cons_succ, List.getElem?_cons_zero]; rfl) (by kernel_rfl) (by kernel_rfl) (by kernel_rfl) (fun _ _ _ h => h) (by rfl) ?_ (by assumption) ?_; rotate_left; (focus ((intro w hSw; (try have hSw := HF.out _ hSw); (try dsimp only at hSw); go_simp); try exact rfl)); simp only [Act.put, List.setIfInBounds_toArray, List.set_cons_zero, List.set_cons_succ]; refine take_if (i := 4) (oi := _) (v := ?_) (by simp only [List.getElem?_toArray, List.getElem?_cons_succ, List.getElem?_cons_zero]; rfl) (by kernel_rfl) (by kernel_rfl) (by kernel_rfl) (fun _ _ _ h => h) (by rfl) ?_ (by assumption) ?_; rotate_left; (focus ((intro w hSw; (try have hSw := HF.out _ hSw); (try dsimp only at hSw); go_simp); try exact rfl)); simp only [Act.put, List.setIfInBounds_toArray, List.set_cons_zero, List.set_cons_succ]; refine take_if (i := 5) (oi := _) (v := ?_) (by simp only [List.getElem?_toArray, List.getElem?_cons_succ, List.getElem?_cons_zero]; rfl) (by kernel_rfl) (by kernel_rfl) (by kernel_rfl) (fun _ _ _ h => h) (by rfl) ?_ (by assumption) ?_; rotate_left; (focus ((intro w hSw; (try have hSw := HF.out _ hSw); (try dsimp only at hSw); go_simp); try exact rfl)); simp only [Act.put, List.setIfInBounds_toArray, List.set_cons_zero, List.set_cons_succ]; refine take_if (i := 6) (oi := _) (v := ?_) (by simp only [List.getElem?_toArray, List.getElem?_cons_succ, List.getElem?_cons_zero]; rfl) (by kernel_rfl) (by kernel_rfl) (by kernel_rfl) (fun _ _ _ h => h) (by rfl) ?_ (by assumption) ?_; rotate_left; (focus ((intro w hSw; (try have hSw := HF.out _ hSw); (try dsimp only at hSw); go_simp); try exact rfl)); simp only [Act.put, List.setIfInBounds_toArray, List.set_cons_zero, List.set_cons_succ]; refine take_if (i := 7) (oi := _) (v := ?_) (by simp only [List.getElem?_toArray, List.getElem?_cons_succ, List.getElem?_cons_zero]; rfl) (by kernel_rfl) (by kernel_rfl) (by kernel_rfl) (fun _ _ _ h => h) (by rfl) ?_ (by assumption) ?_; rotate_left; (focus ((intro w hSw; (try have hSw := HF.out _ hSw); (try dsimp only at hSw); go_simp); try exact rfl)); simp only [Act.put, List.setIfInBounds_toArray, List.set_cons_zero, List.set_cons_succ]; refine take_if (i := 8) (oi := _) (v := ?_) (by simp only [List.getElem?_toArray, List.getElem?_cons_succ, List.getElem?_cons_zero]; rfl) (by kernel_rfl) (by kernel_rfl) (by kernel_rfl) (fun _ _ _ h => h) (by rfl) ?_ (by assumption) ?_; rotate_left; (focus ((intro w hSw; (try have hSw := HF.out _ hSw); (try dsimp only at hSw); go_simp); try exact rfl)); simp only [Act.put, List.setIfInBounds_toArray, List.set_cons_zero, List.set_cons_succ]; refine take_if (i := 9) (oi := _) (v := ?_) (by simp only [List.getElem?_toArray, List.getElem?_cons_succ, List.getElem?_cons_zero]; rfl) (by kernel_rfl) (by kernel_rfl) (by kernel_rfl) (fun _ _ _ h => h) (by rfl) ?_ (by assumption) ?_; rotate_left; (focus ((intro w hSw; (try have hSw := HF.out _ hSw); (try dsimp only at hSw); go_simp); try exact rfl)); simp only [Act.put, List.setIfInBounds_toArray, List.set_cons_zero, List.set_cons_succ]; refine take_if (i := 10) (oi := _) (v := ?_) (by simp only [List.getElem?_toArray, List.getElem?_cons_succ, List.getElem?_cons_zero]; rfl) (by kernel_rfl) (by kernel_rfl) (by kernel_rfl) (fun _ _ _ h => h) (by rfl) ?_ (by assumption) ?_; rotate_left; (focus ((intro w hSw; (try have hSw := HF.out _ hSw); (try dsimp only at hSw); go_simp); try exact rfl)); simp only [Act.put, List.setIfInBounds_toArray, List.set_cons_zero, List.set_cons_succ])
          refine wpAnyH_ready (rs := [11]) (by kernel_rfl) (by simp) ?_; refine (AllReadyH.cons (o := _) (by simp only [List.getElem?_toArray, List.getElem?_cons_succ, List.getElem?_cons_zero]; rfl) (fun K hK => ?_) AllReadyH.nil)
          go_simp
          go_at_call 26
          have hmb := mirror_bad w.heap.size (w.heap.size + 1) ms f x.A x.n x.c x.l x.of wr.drew hR hin2 (fun _ => ((hin1.below hbr).more hzr).drew) hxl (by omega) HME.1
          rw [HME.2] at hmb
          refine hmb.mono ?_
          rintro e w2 ⟨rfl, hbx⟩
          have hb2 : Below w.heap.size w w2 := hbr.drew.trans (hbx.mono (by simpa using hzr))
          refine hK.out _ _ hb2 (fun hHeld => ?_)
          clear hK K; (try simp only [Act.put, List.setIfInBounds_toArray, List.set_cons_zero, List.set_cons_succ])
          (refine take_if (i := 12) (oi := _) (v := ?_) (by simp only [List.getElem?_toArray, List.getElem?_cons_succ, List.getElem?_cons_zero]; rfl) (by kernel_rfl) (by kernel_rfl) (by kernel_rfl) (fun _ _ _ h => h) (by rfl) ?_ (by assumption) ?_; rotate_left; (focus ((intro w hSw; (try have hSw := HF.out _ hSw); (try dsimp only at hSw); go_simp); try exact rfl)); simp only [Act.put, List.setIfInBounds_toArray, List.set_cons_zero, List.set_cons_succ])
          refine wpAnyH_done (by kernel_rfl) ?_ _
          have hR2 := RouteIs.ext (W := wr.drew) hR hbx
          have hO2 := RefOwn.ext (W := wr.drew) hO.drew hR hzr hbx
          have q6 : Bk w2 (w.heap.size + 2) 66 #[.slice Am ms.length cm, .slice Ao ms.length co] := Bk.ext (W := wr.drew) k6.drew hbx
          have q3 : Bk w2 w.heap.size 66 #[.slice none 0 0, .slice none 0 0] := Bk.ext (W := wr.drew) k3.drew hbx
          have hz2 : w.heap.size + 3 ≤ w2.heap.size := by have := hbx.size; simp at this; omega
          clear hcr hcr2
          have hcr := (HF.out _ hb2).1
          have hcr2 := (HF.out _ hb2).2
          go_wp2_with (go_at_call 11; ((with_reducible refine (HRR.out _ hb2).mono ?_); rintro e w3 ⟨rfl, hb3, hz3, hx3⟩; have hR3 := hR2.ext hx3; have hO3 := hO2.ext hR2 (by omega) hx3; have p6 := q6.ext hx3; have p3 := q3.ext hx3; have c6a := p6.cell 0; have c6b := p6.cell 1; dsimp at c6a c6b))
          have hbw := hb3
          have hR4 := hR3
          have hO4 := hO3
          have s6 := p6
          have s3 := p3
          have d6a := s6.cell 0
          have d6b := s6.cell 1
          dsimp at d6a d6b
          refine wp_normal ?_
          refine wp_region_held_drew (S := fun w' => Below w.heap.size w w') (by kernel_rfl) hbw.drew (fun hHeld => ?_)
          (refine take_if (i := 1) (oi := _) (v := ?_) (by simp only [List.getElem?_toArray, List.getElem?_cons_succ, List.getElem?_cons_zero]; rfl) (by kernel_rfl) (by kernel_rfl) (by kernel_rfl) (fun _ _ _ h => h) (by rfl) ?_ (by assumption) ?_; rotate_left; (focus ((intro w hSw; (try have hSw := HF.out _ hSw); (try dsimp only at hSw); go_simp); try exact rfl)); simp only [Act.put, List.setIfInBounds_toArray, List.set_cons_zero, List.set_cons_succ]; refine take_if (i := 2) (oi := _) (v := ?_) (by simp only [List.getElem?_toArray, List.getElem?_cons_succ, List.getElem?_cons_zero]; rfl) (by kernel_rfl) (by kernel_rfl) (by kernel_rfl) (fun _ _ _ h => h) (by rfl) ?_ (by assumption) ?_; rotate_left; (focus ((intro w hSw; (try have hSw := HF.out _ hSw); (try dsimp only at hSw); go_simp); try exact rfl)); simp only [Act.put, List.setIfInBounds_toArray, List.set_cons_zero, List.set_cons_succ]; refine take_if (i := 3) (oi := _) (v := ?_) (by simp only [List.getElem?_toArray, List.getElem?_cons_succ, List.getElem?_cons_zero]; rfl) (by kernel_rfl) (by kernel_rfl) (by kernel_rfl) (fun _ _ _ h => h) (by rfl) ?_ (by assumption) ?_; rotate_left; (focus ((intro w hSw; (try have hSw := HF.out _ hSw); (try dsimp only at hSw); go_simp); try exact rfl)); simp only [Act.put, List.setIfInBounds_toArray, List.set_cons_zero, List.set_cons_succ]; refine take_if (i := 4) (oi := _) (v := ?_) (by simp only [List.getElem?_toArray, List.getElem?_cons_succ, List.getElem?_cons_zero]; rfl) (by kernel_rfl) (by kernel_rfl) (by kernel_rfl) (fun _ _ _ h => h) (by rfl) ?_ (by assumption) ?_; rotate_left; (focus ((intro w hSw; (try have hSw := HF.out _ hSw); (try dsimp only at hSw); go_simp); try exact rfl)); simp only [Act.put, List.setIfInBounds_toArray, List.set_cons_zero, List.set_cons_succ]; refine take_if (i := 5) (oi := _) (v := ?_) (by simp only [List.getElem?_toArray, List.getElem?_cons_succ, List.getElem?_cons_zero]; rfl) (by kernel_rfl) (by kernel_rfl) (by kernel_rfl) (fun _ _ _ h => h) (by rfl) ?_ (by assumption) ?_; rotate_left; (focus ((intro w hSw; (try have hSw := HF.out _ hSw); (try dsimp only at hSw); go_simp); try exact rfl)); simp only [Act.put, List.setIfInBounds_toArray, List.set_cons_zero, List.set_cons_succ]; refine take_if (i := 6) (oi := _) (v := ?_) (by simp only [List.getElem?_toArray, List.getElem?_cons_succ, List.getElem?_cons_zero]; rfl) (by kernel_rfl) (by kernel_rfl) (by kernel_rfl) (fun _ _ _ h => h) (by rfl) ?_ (by assumption) ?_; rotate_left; (focus ((intro w hSw; (try have hSw := HF.out _ hSw); (try dsimp only at hSw); go_simp); try exact rfl)); simp only [Act.put, List.setIfInBounds_toArray, List.set_cons_zero, List.set_cons_succ])
          refine wpAnyH_ready (rs := [0]) (by kernel_rfl) (by simp) ?_; refine (AllReadyH.cons (o := _) (by simp only [List.getElem?_toArray, List.getElem?_cons_zero]; rfl) (fun K hK => ?_) AllReadyH.nil)
          go_simp
          refine hK.out _ _ hbw.drew (fun hHeld => ?_)
          clear hK K; (try simp only [Act.put, List.setIfInBounds_toArray, List.set_cons_zero, List.set_cons_succ])
          refine wpAnyH_ready (rs := [7]) (by kernel_rfl) (by simp) ?_; refine (AllReadyH.cons (o := _) (by simp only [List.getElem?_toArray, List.getElem?_cons_succ, List.getElem?_cons_zero]; rfl) (fun K hK => ?_) AllReadyH.nil)
          go_simp
          go_at_call 48
          refine (radd_bad w3.drew Am Ao x.A cm co ms.length x.n x.c x.l x.of hr hin2 (fun _ => ((hin1.below hbw).more hbw.size).drew) hxl).mono ?_
          rintro e w5 ⟨rfl, hb5⟩
          have hb5' := hbw.drew.trans (hb5.mono (by simpa using hbw.size))
          refine hK.out _ _ hb5' (fun hHeld => ?_)
          clear hK K; (try simp only [Act.put, List.setIfInBounds_toArray, List.set_cons_zero, List.set_cons_succ])
          (refine take_if (i := 8) (oi := _) (v := ?_) (by simp only [List.getElem?_toArray, List.getElem?_cons_succ, List.getElem?_cons_zero]; rfl) (by kernel_rfl) (by kernel_rfl) (by kernel_rfl) (fun _ _ _ h => h) (by rfl) ?_ (by assumption) ?_; rotate_left; (focus ((intro w hSw; (try have hSw := HF.out _ hSw); (try dsimp only at hSw); go_simp); try exact rfl)); simp only [Act.put, List.setIfInBounds_toArray, List.set_cons_zero, List.set_cons_succ]; refine take_if (i := 9) (oi := _) (v := ?_) (by simp only [List.getElem?_toArray, List.getElem?_cons_succ, List.getElem?_cons_zero]; rfl) (by kernel_rfl) (by kernel_rfl) (by kernel_rfl) (fun _ _ _ h => h) (by rfl) ?_ (by assumption) ?_; rotate_left; (focus ((intro w hSw; (try have hSw := HF.out _ hSw); (try dsimp only at hSw); go_simp); try exact rfl)); simp only [Act.put, List.setIfInBounds_toArray, List.set_cons_zero, List.set_cons_succ]; refine take_if (i := 10) (oi := _) (v := ?_) (by simp only [List.getElem?_toArray, List.getElem?_cons_succ, List.getElem?_cons_zero]; rfl) (by kernel_rfl) (by kernel_rfl) (by kernel_rfl) (fun _ _ _ h => h) (by rfl) ?_ (by assumption) ?_; rotate_left; (focus ((intro w hSw; (try have hSw := HF.out _ hSw); (try dsimp only at hSw); go_simp); try exact rfl)); simp only [Act.put, List.setIfInBounds_toArray, List.set_cons_zero, List.set_cons_succ])
          have t6 := s6.drew.ext hb5
          have t3 := s3.drew.ext hb5
          have u6a : w5.cell? ⟨w.heap.size + 1 + 1, 0, none⟩ = some (.slice Am ms.length cm) := t6.cell 0
          have u6b : w5.cell? ⟨w.heap.size + 1 + 1, 1, none⟩ = some (.slice Ao ms.length co) := t6.cell 1
          have u6f : ∀ i : Nat, w5.frozen? ⟨w.heap.size + 1 + 1, i, none⟩ = false := t6.frozen
          refine wpAnyH_ready (rs := [11]) (by kernel_rfl) (by simp) ?_; refine (AllReadyH.cons (o := _) (by simp only [List.getElem?_toArray, List.getElem?_cons_succ, List.getElem?_cons_zero]; rfl) (fun K hK => ?_) AllReadyH.nil)
          go_simp
          have y6 : Bk ((w5.setCell ⟨w.heap.size + 2, 0, none⟩ (.slice Am ms.length cm)).setCell ⟨w.heap.size + 2, 1, none⟩ (.slice Ao ms.length co)) (w.heap.size + 2) 66 #[.slice Am ms.length cm, .slice Ao ms.length co] := (t6.set_ 0 _).set_ 1 _
          have hoth : ∀ j, j ≠ w.heap.size + 2 → ((w5.setCell ⟨w.heap.size + 2, 0, none⟩ (.slice Am ms.length cm)).setCell ⟨w.heap.size + 2, 1, none⟩ (.slice Ao ms.length co)).heap[j]? = w5.heap[j]? := fun j hj => (Below.heap_setCell _ _ _ _ hj).trans (Below.heap_setCell _ _ _ _ hj)
          have hb56 : Below w.heap.size w5 ((w5.setCell ⟨w.heap.size + 2, 0, none⟩ (.slice Am ms.length cm)).setCell ⟨w.heap.size + 2, 1, none⟩ (.slice Ao ms.length co)) := ((Below.refl _ _).setCell (by show w.heap.size ≤ w.heap.size + 2; omega) _).setCell (by show w.heap.size ≤ w.heap.size + 2; omega) _
          have hb6 : Below w.heap.size w ((w5.setCell ⟨w.heap.size + 2, 0, none⟩ (.slice Am ms.length cm)).setCell ⟨w.heap.size + 2, 1, none⟩ (.slice Ao ms.length co)) := hb5'.trans hb56
          refine hK.out _ _ hb6 (fun hHeld => ?_)
          clear hK K; (try simp only [Act.put, List.setIfInBounds_toArray, List.set_cons_zero, List.set_cons_succ])
          (refine take_if (i := 12) (oi := _) (v := ?_) (by simp only [List.getElem?_toArray, List.getElem?_cons_succ, List.getElem?_cons_zero]; rfl) (by kernel_rfl) (by kernel_rfl) (by kernel_rfl) (fun _ _ _ h => h) (by rfl) ?_ (by assumption) ?_; rotate_left; (focus ((intro w hSw; (try have hSw := HF.out _ hSw); (try dsimp only at hSw); go_simp); try exact rfl)); simp only [Act.put, List.setIfInBounds_toArray, List.set_cons_zero, List.set_cons_succ])
          refine wpAnyH_done (by kernel_rfl) ?_ _
          have hR5 := RouteIs.ext (W := w3.drew) hR4 hb5
          have hO5 := RefOwn.ext (W := w3.drew) hO4.drew hR4 hbw.size hb5
          go_wp2
          go_roundw
          case rel => exact ⟨k + 1, _, _, by omega, by go_num, by rw [HS.out, HFS.out]; exact hR5.other t6 (by decide) (by decide) (by decide) hoth, by rw [HS.out, HFS.out]; exact hO5.other hR5 t6 (by decide) (by decide) (by decide) hoth hb56, y6, (hoth _ (by omega)).trans t3, hb6, by have := def_lt' t6; simp; omega⟩
          case measure => simp [intOf]; omega
        · have hfs : fStep (ms, f) x = (ms, f) := by simp only [fStep, hr, Bool.false_eq_true, if_false]
          have hof' : x.of < 0 := by omega
          obtain ⟨Am, cm, Ao, co, rfl, rfl, _⟩ := hO.is hzr (ofsOf_len _ _)
          have HFS := Lib.hid hfs
          clear hfs
          go_wp2_with (first
            | (go_at_call 25; ((with_reducible refine (add_bad (w.heap.size + 1) x.A x.n x.c x.l wr hin2 (fun _ => (hin1.below hbr).more hzr) hxl hr).mono ?_); rintro e w2 ⟨rfl, hbx⟩; have hb2 := hbr.trans (hbx.mono hzr); have hR2 := hR.ext hbx; have hO2 := hO.ext hR hzr hbx; have q6 := k6.ext hbx; have q3 := k3.ext hbx; have hz2 : w.heap.size + 3 ≤ w2.heap.size := (by have := hbx.size; omega); have hcs := (HF.out _ hb2).1; have hcs2 := (HF.out _ hb2).2))
            | (go_at_call 11; ((with_reducible refine (HRR.out _ hb2).mono ?_); rintro e w3 ⟨rfl, hb3, hz3, hx3⟩; have hR3 := hR2.ext hx3; have hO3 := hO2.ext hR2 (by omega) hx3; have p6 := q6.ext hx3; have p3 := q3.ext hx3; have c6a := p6.cell 0; have c6b := p6.cell 1; dsimp at c6a c6b)))
          have hbw := hb3
          have hR4 := hR3
          have hO4 := hO3
          have s6 := p6
          have s3 := p3
          have d6a := s6.cell 0
          have d6b := s6.cell 1
          dsimp at d6a d6b
          refine wp_normal ?_
          refine wp_region_held_drew (S := fun w' => Below w.heap.size w w') (by kernel_rfl) hbw.drew (fun hHeld => ?_)
          (refine take_if (i := 1) (oi := _) (v := ?_) (by simp only [List.getElem?_toArray, List.getElem?_cons_succ, List.getElem?_cons_zero]; rfl) (by kernel_rfl) (by kernel_rfl) (by kernel_rfl) (fun _ _ _ h => h) (by rfl) ?_ (by assumption) ?_; rotate_left; (focus ((intro w hSw; (try have hSw := HF.out _ hSw); (try dsimp only at hSw); go_simp); try exact rfl)); simp only [Act.put, List.setIfInBounds_toArray, List.set_cons_zero, List.set_cons_succ]; refine take_if (i := 2) (oi := _) (v := ?_) (by simp only [List.getElem?_toArray, List.getElem?_cons_succ, List.getElem?_cons_zero]; rfl) (by kernel_rfl) (by kernel_rfl) (by kernel_rfl) (fun _ _ _ h => h) (by rfl) ?_ (by assumption) ?_; rotate_left; (focus ((intro w hSw; (try have hSw := HF.out _ hSw); (try dsimp only at hSw); go_simp); try exact rfl)); simp only [Act.put, List.setIfInBounds_toArray, List.set_cons_zero, List.set_cons_succ]; refine take_if (i := 3) (oi := _) (v := ?_) (by simp only [List.getElem?_toArray, List.getElem?_cons_succ, List.getElem?_cons_zero]; rfl) (by kernel_rfl) (by kernel_rfl) (by kernel_rfl) (fun _ _ _ h => h) (by rfl) ?_ (by assumption) ?_; rotate_left; (focus ((intro w hSw; (try have hSw := HF.out _ hSw); (try dsimp only at hSw); go_simp); try exact rfl)); simp only [Act.put, List.setIfInBounds_toArray, List.set_cons_zero, List.set_cons_succ]; refine take_if (i := 4) (oi := _) (v := ?_) (by simp only [List.getElem?_toArray, List.getElem?_cons_succ, List.getElem?_cons_zero]; rfl) (by kernel_rfl) (by kernel_rfl) (by kernel_rfl) (fun _ _ _ h => h) (by rfl) ?_ (by assumption) ?_; rotate_left; (focus ((intro w hSw; (try have hSw := HF.out _ hSw); (try dsimp only at hSw); go_simp); try exact rfl)); simp only [Act.put, List.setIfInBounds_toArray, List.set_cons_zero, List.set_cons_succ]; refine take_if (i := 5) (oi := _) (v := ?_) (by simp only [List.getElem?_toArray, List.getElem?_cons_succ, List.getElem?_cons_zero]; rfl) (by kernel_rfl) (by kernel_rfl) (by kernel_rfl) (fun _ _ _ h => h) (by rfl) ?_ (by assumption) ?_; rotate_left; (focus ((intro w hSw; (try have hSw := HF.out _ hSw); (try dsimp only at hSw); go_simp); try exact rfl)); simp only [Act.put, List.setIfInBounds_toArray, List.set_cons_zero, List.set_cons_succ]; refine take_if (i := 6) (oi := _) (v := ?_) (by simp only [List.getElem?_toArray, List.getElem?_cons_succ, List.getElem?_cons_zero]; rfl) (by kernel_rfl) (by kernel_rfl) (by kernel_rfl) (fun _ _ _ h => h) (by rfl) ?_ (by assumption) ?_; rotate_left; (focus ((intro w hSw; (try have hSw := HF.out _ hSw); (try dsimp only at hSw); go_simp); try exact rfl)); simp only [Act.put, List.setIfInBounds_toArray, List.set_cons_zero, List.set_cons_succ])
          refine wpAnyH_ready (rs := [0]) (by kernel_rfl) (by simp) ?_; refine (AllReadyH.cons (o := _) (by simp only [List.getElem?_toArray, List.getElem?_cons_zero]; rfl) (fun K hK => ?_) AllReadyH.nil)
          go_simp
          refine hK.out _ _ hbw.drew (fun hHeld => ?_)
          clear hK K; (try simp only [Act.put, List.setIfInBounds_toArray, List.set_cons_zero, List.set_cons_succ])
          refine wpAnyH_ready (rs := [7]) (by kernel_rfl) (by simp) ?_; refine (AllReadyH.cons (o := _) (by simp only [List.getElem?_toArray, List.getElem?_cons_succ, List.getElem?_cons_zero]; rfl) (fun K hK => ?_) AllReadyH.nil)
          go_simp
          go_at_call 48
          refine (radd_bad w3.drew Am Ao x.A cm co ms.length x.n x.c x.l (-1) hr hin2 (fun _ => ((hin1.below hbw).more hbw.size).drew) hxl).mono ?_
          rintro e w5 ⟨rfl, hb5⟩
          have hb5' := hbw.drew.trans (hb5.mono (by simpa using hbw.size))
          refine hK.out _ _ hb5' (fun hHeld => ?_)
          clear hK K; (try simp only [Act.put, List.setIfInBounds_toArray, List.set_cons_zero, List.set_cons_succ])
          (refine take_if (i := 8) (oi := _) (v := ?_) (by simp only [List.getElem?_toArray, List.getElem?_cons_succ, List.getElem?_cons_zero]; rfl) (by kernel_rfl) (by kernel_rfl) (by kernel_rfl) (fun _ _ _ h => h) (by rfl) ?_ (by assumption) ?_; rotate_left; (focus ((intro w hSw; (try have hSw := HF.out _ hSw); (try dsimp only at hSw); go_simp); try exact rfl)); simp only [Act.put, List.setIfInBounds_toArray, List.set_cons_zero, List.set_cons_succ]; refine take_if (i := 9) (oi := _) (v := ?_) (by simp only [List.getElem?_toArray, List.getElem?_cons_succ, List.getElem?_cons_zero]; rfl) (by kernel_rfl) (by kernel_rfl) (by kernel_rfl) (fun _ _ _ h => h) (by rfl) ?_ (by assumption) ?_; rotate_left; (focus ((intro w hSw; (try have hSw := HF.out _ hSw); (try dsimp only at hSw); go_simp); try exact rfl)); simp only [Act.put, List.setIfInBounds_toArray, List.set_cons_zero, List.set_cons_succ]; refine take_if (i := 10) (oi := _) (v := ?_) (by simp only [List.getElem?_toArray, List.getElem?_cons_succ, List.getElem?_cons_zero]; rfl) (by kernel_rfl) (by kernel_rfl) (by kernel_rfl) (fun _ _ _ h => h) (by rfl) ?_ (by assumption) ?_; rotate_left; (focus ((intro w hSw; (try have hSw := HF.out _ hSw); (try dsimp only at hSw); go_simp); try exact rfl)); simp only [Act.put, List.setIfInBounds_toArray, List.set_cons_zero, List.set_cons_succ])
          have t6 := s6.drew.ext hb5
          have t3 := s3.drew.ext hb5
          have u6a : w5.cell? ⟨w.heap.size + 1 + 1, 0, none⟩ = some (.slice Am ms.length cm) := t6.cell 0
          have u6b : w5.cell? ⟨w.heap.size + 1 + 1, 1, none⟩ = some (.slice Ao ms.length co) := t6.cell 1
          have u6f : ∀ i : Nat, w5.frozen? ⟨w.heap.size + 1 + 1, i, none⟩ = false := t6.frozen
          refine wpAnyH_ready (rs := [11]) (by kernel_rfl) (by simp) ?_; refine (AllReadyH.cons (o := _) (by simp only [List.getElem?_toArray, List.getElem?_cons_succ, List.getElem?_cons_zero]; rfl) (fun K hK => ?_) AllReadyH.nil)
          go_simp
          have y6 : Bk ((w5.setCell ⟨w.heap.size + 2, 0, none⟩ (.slice Am ms.length cm)).setCell ⟨w.heap.size + 2, 1, none⟩ (.slice Ao ms.length co)) (w.heap.size + 2) 66 #[.slice Am ms.length cm, .slice Ao ms.length co] := (t6.set_ 0 _).set_ 1 _
          have hoth : ∀ j, j ≠ w.heap.size + 2 → ((w5.setCell ⟨w.heap.size + 2, 0, none⟩ (.slice Am ms.length cm)).setCell ⟨w.heap.size + 2, 1, none⟩ (.slice Ao ms.length co)).heap[j]? = w5.heap[j]? := fun j hj => (Below.heap_setCell _ _ _ _ hj).trans (Below.heap_setCell _ _ _ _ hj)
          have hb56 : Below w.heap.size w5 ((w5.setCell ⟨w.heap.size + 2, 0, none⟩ (.slice Am ms.length cm)).setCell ⟨w.heap.size + 2, 1, none⟩ (.slice Ao ms.length co)) := ((Below.refl _ _).setCell (by show w.heap.size ≤ w.heap.size + 2; omega) _).setCell (by show w.heap.size ≤ w.heap.size + 2; omega) _
          have hb6 : Below w.heap.size w ((w5.setCell ⟨w.heap.size + 2, 0, none⟩ (.slice Am ms.length cm)).setCell ⟨w.heap.size + 2, 1, none⟩ (.slice Ao ms.length co)) := hb5'.trans hb56
          refine hK.out _ _ hb6 (fun hHeld => ?_)
          clear hK K; (try simp only [Act.put, List.setIfInBounds_toArray, List.set_cons_zero, List.set_cons_succ])
          (refine take_if (i := 12) (oi := _) (v := ?_) (by simp only [List.getElem?_toArray, List.getElem?_cons_succ, List.getElem?_cons_zero]; rfl) (by kernel_rfl) (by kernel_rfl) (by kernel_rfl) (fun _ _ _ h => h) (by rfl) ?_ (by assumption) ?_; rotate_left; (focus ((intro w hSw; (try have hSw := HF.out _ hSw); (try dsimp only at hSw); go_simp); try exact rfl)); simp only [Act.put, List.setIfInBounds_toArray, List.set_cons_zero, List.set_cons_succ])
          refine wpAnyH_done (by kernel_rfl) ?_ _
          have hR5 := RouteIs.ext (W := w3.drew) hR4 hb5
          have hO5 := RefOwn.ext (W := w3.drew) hO4.drew hR4 hbw.size hb5
          go_wp2
          go_roundw
          case rel => exact ⟨k + 1, _, _, by omega, by go_num, by rw [HS.out, HFS.out]; exact hR5.other t6 (by decide) (by decide) (by decide) hoth, by rw [HS.out, HFS.out]; exact hO5.other hR5 t6 (by decide) (by decide) (by decide) hoth hb56, y6, (hoth _ (by omega)).trans t3, hb6, by have := def_lt' t6; simp; omega⟩
          case measure => simp [intOf]; omega
    · obtain rfl : n = k := by omega
      rw [List.take_of_length_le (by rw [HL.out]; omega)] at hR hO
      obtain ⟨Am, cm, Ao, co, rfl, rfl, _⟩ := hO.is hzr (ofsOf_len _ _)
      have d6a := k6.cell 0
      have d6b := k6.cell 1
      dsimp at d6a d6b
      go_wp2
      refine wp_normal ?_
      refine wp_region_held_drew (S := fun w' => Below w.heap.size w w') (by kernel_rfl) hbr.drew (fun hHeld => ?_)
      (refine take_if (i := 0) (oi := _) (v := ?_) (by simp only [List.getElem?_toArray, List.getElem?_cons_zero]; rfl) (by kernel_rfl) (by kernel_rfl) (by kernel_rfl) (fun _ _ _ h => h) (by rfl) ?_ (by assumption) ?_; rotate_left; (focus ((intro w hSw; (try have hSw := HF.out _ hSw); (try dsimp only at hSw); go_simp); try exact rfl)); simp only [Act.put, List.setIfInBounds_toArray, List.set_cons_zero, List.set_cons_succ]; refine take_if (i := 2) (oi := _) (v := ?_) (by simp only [List.getElem?_toArray, List.getElem?_cons_succ, List.getElem?_cons_zero]; rfl) (by kernel_rfl) (by kernel_rfl) (by kernel_rfl) (fun _ _ _ h => h) (by rfl) ?_ (by assumption) ?_; rotate_left; (focus ((intro w hSw; (try have hSw := HF.out _ hSw); (try dsimp only at hSw); go_simp); try exact rfl)); simp only [Act.put, List.setIfInBounds_toArray, List.set_cons_zero, List.set_cons_succ])
      refine wpAnyH_ready (rs := [1]) (by kernel_rfl) (by simp) ?_; refine (AllReadyH.cons (o := _) (by simp only [List.getElem?_toArray, List.getElem?_cons_succ, List.getElem?_cons_zero]; rfl) (fun K hK => ?_) AllReadyH.nil)
      go_simp
      refine hK.out _ _ hbr.drew (fun hHeld => ?_)
      clear hK K; (try simp only [Act.put, List.setIfInBounds_toArray, List.set_cons_zero, List.set_cons_succ])
      have k3d : Bk wr.drew w.heap.size 66 #[.slice none 0 0, .slice none 0 0] := k3.drew
      have hbd : Below w.heap.size w wr.drew := hbr.drew
      have hRd : RouteIs wr.drew w.heap.size (w.heap.size + 1) (fillM L).1 (fillM L).2 := hR
      have hOd := hO.drew
      generalize wr.drew = wd at *
      have u3a : wd.cell? ⟨w.heap.size, 0, none⟩ = some (.slice none 0 0) := k3d.cell 0
      have u3b : wd.cell? ⟨w.heap.size, 1, none⟩ = some (.slice none 0 0) := k3d.cell 1
      have u3f : ∀ i : Nat, wd.frozen? ⟨w.heap.size, i, none⟩ = false := k3d.frozen
      refine wpAnyH_ready (rs := [3]) (by kernel_rfl) (by simp) ?_; refine (AllReadyH.cons (o := _) (by simp only [List.getElem?_toArray, List.getElem?_cons_succ, List.getElem?_cons_zero]; rfl) (fun K hK => ?_) AllReadyH.nil)
      go_simp
      generalize hs1 : (fillM L).1 = ms at *
      generalize hs2 : (fillM L).2 = f at *
      have y3 : Bk ((wd.setCell ⟨w.heap.size, 0, none⟩ (.slice Am ms.length cm)).setCell ⟨w.heap.size, 1, none⟩ (.slice Ao ms.length co)) w.heap.size 66 #[.slice Am ms.length cm, .slice Ao ms.length co] := (k3d.set_ 0 _).set_ 1 _
      have hoth : ∀ j, j ≠ w.heap.size → ((wd.setCell ⟨w.heap.size, 0, none⟩ (.slice Am ms.length cm)).setCell ⟨w.heap.size, 1, none⟩ (.slice Ao ms.length co)).heap[j]? = wd.heap[j]? := fun j hj => (Below.heap_setCell _ _ _ _ hj).trans (Below.heap_setCell _ _ _ _ hj)
      have hb56 : Below w.heap.size wd ((wd.setCell ⟨w.heap.size, 0, none⟩ (.slice Am ms.length cm)).setCell ⟨w.heap.size, 1, none⟩ (.slice Ao ms.length co)) := ((Below.refl _ _).setCell (by show w.heap.size ≤ w.heap.size; omega) _).setCell (by show w.heap.size ≤ w.heap.size; omega) _
      refine hK.out _ _ (hbd.trans hb56) (fun hHeld => ?_)
      clear hK K; (try simp only [Act.put, List.setIfInBounds_toArray, List.set_cons_zero, List.set_cons_succ])
      (refine take_if (i := 4) (oi := _) (v := ?_) (by simp only [List.getElem?_toArray, List.getElem?_cons_succ, List.getElem?_cons_zero]; rfl) (by kernel_rfl) (by kernel_rfl) (by kernel_rfl) (fun _ _ _ h => h) (by rfl) ?_ (by assumption) ?_; rotate_left; (focus ((intro w hSw; (try have hSw := HF.out _ hSw); (try dsimp only at hSw); go_simp); try exact rfl)); simp only [Act.put, List.setIfInBounds_toArray, List.set_cons_zero, List.set_cons_succ])
      refine wpAnyH_done (by kernel_rfl) ?_ _
      have d0 := y3.cell 0; have d1 := y3.cell 1
      dsimp at d0 d1
      go_wp2
      refine bodyPost_ret (v := .tuple #[.pointer (some ⟨w.heap.size + 1, 0, none⟩), .agg #[.slice Am ms.length cm, .slice Ao ms.length co], .bool true]) (by simp [results, Try.results34, go_sem, d0, d1]) rfl ⟨_, _, _, rfl, ?_, ?_, hbd.trans hb56⟩
      · rw [hs1, hs2]; exact RouteIs.other hRd k3d (by decide) (by decide) (by decide) hoth
      · rw [hs1, hs2]; exact RefOwn.other hOd hRd k3d (by decide) (by decide) (by decide) hoth hb56
end Go.Proofs.Ytkkbmcpimglcpaa
