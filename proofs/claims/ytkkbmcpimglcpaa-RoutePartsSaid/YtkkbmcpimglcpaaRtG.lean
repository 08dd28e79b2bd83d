/- route: Len, Of, recovered -/
import Derived.Test.YtkkbmcpimglcpaaRtF
namespace Go.Proofs.Ytkkbmcpimglcpaa
open Go.RowKit

set_option maxHeartbeats 400000 in
theorem len_any (base R : Nat) (ms : List (List Rg)) (f : IMap) (W : World) (hR : RouteIs W base R ms f) : Calls Try.prog 29 #[.pointer (some ⟨R, 0, none⟩)] W fun e W' => e = .returned (.int .i64 ms.length) ∧ W = W' := by
  obtain ⟨v, mo, vs, k1, k2, k3, k4, k5⟩ := hR
  obtain ⟨A', c', rfl, _, _, _, hvs⟩ := own_form k3
  have z0 := k1.cell 0
  have zl := def_lt' k1
  dsimp at z0
  go_enter Try.func29, Try.ntmps29
  go_wp2
  go_ret
  exact ⟨rfl, rfl⟩

/-- the mirror of a map, if there is such a map and it has one -/
def ofR (ms : List (List Rg)) (f : IMap) (i : Int) : Option Int := if 0 ≤ i ∧ i < ms.length then f i else none

set_option maxHeartbeats 400000 in
theorem of_any (base R : Nat) (ms : List (List Rg)) (f : IMap) (i : Int) (W : World) (hR : RouteIs W base R ms f) :
    Calls Try.prog 28 #[.pointer (some ⟨R, 0, none⟩), .int .i64 i] W fun e W' => e = .returned (.tuple #[.int .i64 ((ofR ms f i).getD 0), .bool (ofR ms f i).isSome]) ∧ W = W' := by
  have hln := len_any base R ms f W hR
  obtain ⟨v, mo, vs, k1, k2, k3, k4, k5⟩ := hR
  have z0 := k1.cell 0
  have z1 := k1.cell 1
  have zl := def_lt' k1
  dsimp at z0 z1
  have hlk := route_look k5 i
  have HL := Lib.hid hln
  clear hln k5
  by_cases h1 : 0 ≤ i
  · by_cases h2 : i < ms.length
    · have e : ofR ms f i = f i := by unfold ofR; rw [if_pos ⟨h1, h2⟩]
      rw [e]
      clear e
      go_enter Try.func28, Try.ntmps28
      go_wp2_with (go_at_call 29; refine HL.out.mono ?_; rintro e w1 ⟨rfl, rfl⟩)
      go_ret2
      exact ⟨rfl, rfl⟩
    · have e : ofR ms f i = none := by unfold ofR; rw [if_neg (by omega)]
      rw [e]
      clear e hlk
      go_enter Try.func28, Try.ntmps28
      go_wp2_with (go_at_call 29; refine HL.out.mono ?_; rintro e w1 ⟨rfl, rfl⟩)
      go_ret2
      exact ⟨rfl, rfl⟩
  · have e : ofR ms f i = none := by unfold ofR; rw [if_neg (by omega)]
    rw [e]
    clear e hlk
    go_enter Try.func28, Try.ntmps28
    go_wp2
    go_ret2
    exact ⟨rfl, rfl⟩

/-- where a position goes on behind a mirror -/
def recR (ms : List (List Rg)) (f : IMap) (i : Nat) (gone : Bool) (rg off : Int) : Int × Int × Bool :=
  match f i with
  | some k => if gone = true ∧ (i : Int) ≤ k then (k, recS (ms.getD k.toNat []) rg off) else (0, 0, false)
  | none => (0, 0, false)

/-- the mirrors of a route are among its maps -/
def InR (ms : List (List Rg)) (f : IMap) : Prop := ∀ k v, f k = some v → 0 ≤ v ∧ v < ms.length

set_option maxRecDepth 100000 in
set_option maxHeartbeats 2000000 in
theorem recovered_any (base R : Nat) (ms : List (List Rg)) (f : IMap) (i : Nat) (p1 p4 p5 : Int) (p2 p3 : Bool) (W : World) (hR : RouteIs W base R ms f) (hin : InR ms f) (hi : i < ms.length) :
    Calls Try.prog 44 #[.pointer (some ⟨R, 0, none⟩), .int .i64 i, .agg #[.int .i64 p1, .bool p2, .bool p3, .int .i64 p4, .int .i64 p5]] W fun e W' =>
      e = .returned (.tuple #[.int .i64 (recR ms f i p2 p4 p5).1, .int .i64 (recR ms f i p2 p4 p5).2.1, .bool (recR ms f i p2 p4 p5).2.2]) ∧ Below W.heap.size W W' := by
  have b0 : Below W.heap.size W (W.alloc (.cells #[.int .i64 p1, .bool p2, .bool p3, .int .i64 p4, .int .i64 p5] 25)) := (Below.refl _ _).alloc (Nat.le_refl _) _
  have kb := Bk.new W 25 #[.int .i64 p1, .bool p2, .bool p3, .int .i64 p4, .int .i64 p5]
  have e0 := kb.cell 0; have e1 := kb.cell 1; have e2 := kb.cell 2; have e3 := kb.cell 3; have e4 := kb.cell 4
  dsimp at e0 e1 e2 e3 e4
  have hof := of_any base R ms f i _ (hR.ext b0)
  have hofe : ofR ms f i = f i := by unfold ofR; rw [if_pos (by omega)]
  rw [hofe] at hof
  have HO := Lib.hid hof
  clear hof hofe
  have hc : (f i = none ∧ recR ms f i p2 p4 p5 = (0, 0, false)) ∨ (∃ k, f i = some k ∧ p2 = false ∧ recR ms f i p2 p4 p5 = (0, 0, false)) ∨ (∃ k, f i = some k ∧ p2 = true ∧ k < i ∧ recR ms f i p2 p4 p5 = (0, 0, false)) ∨
      (∃ k m, f i = some k ∧ p2 = true ∧ ¬ k < i ∧ 0 ≤ k ∧ k < ms.length ∧ ms[k.toNat]? = some m ∧ recR ms f i p2 p4 p5 = (k, recS m p4 p5)) := by
    unfold recR
    cases hf : f i with
    | none => exact .inl ⟨rfl, rfl⟩
    | some k =>
      right
      obtain ⟨g1, g2⟩ := hin i k hf
      cases hp : p2 with
      | false => exact .inl ⟨k, rfl, rfl, by simp⟩
      | true =>
        right
        by_cases hk : k < i
        · exact .inl ⟨k, rfl, rfl, hk, by simp; intro h; omega⟩
        · refine .inr ⟨k, ms.getD k.toNat [], rfl, rfl, hk, g1, g2, ?_, ?_⟩
          · rw [List.getD_eq_getElem?_getD, List.getElem?_eq_getElem (by omega)]; rfl
          · simp; intro h; omega
  rcases hc with ⟨hf, hr⟩ | ⟨k, hf, rfl, hr⟩ | ⟨k, hf, rfl, hk, hr⟩ | ⟨k, m, hf, rfl, hk, hk0, hk1, hm, hr⟩
  rotate_left 3
  · rw [hr]
    rw [hf] at HO
    obtain ⟨κ, rfl⟩ : ∃ κ : Nat, k = κ := ⟨k.toNat, by omega⟩
    rw [Int.toNat_natCast] at hm
    obtain ⟨v, mo, vs, k1, k2, k3, k4, k5⟩ := hR
    obtain ⟨A', c', rfl, _, _, _, hvs⟩ := own_form k3
    obtain ⟨Am, nm, cm, g1, g2⟩ := k4 κ m hm
    obtain ⟨bb, oo, u, rfl, hbb, hu, huc⟩ := hvs.at1 (k := κ) (by omega)
    rw [g1] at hu
    injection hu with hu
    subst hu
    have hRd := Rd.of_own g2
    have hnm : nm ≤ maxLen := by
      obtain ⟨A2, c2, e, h1, h2, _⟩ := own_form g2
      injection e with _ _ e
      omega
    have hrc := fun w' (hb : Below W.heap.size W w') => rec_any Am nm cm m p4 p5 w' hnm (fun _ => (hRd.below hb).more hb.size) hRd.rlen
    have z0 := (k1.alloc (.cells #[.int .i64 p1, .bool true, .bool p3, .int .i64 p4, .int .i64 p5] 25)).cell 0
    have zl := def_lt' k1
    dsimp at z0
    have huc' : (W.alloc (.cells #[.int .i64 p1, .bool true, .bool p3, .int .i64 p4, .int .i64 p5] 25)).cell? ⟨bb, oo + κ, none⟩ = some (.slice Am nm cm) := (World.cell?_alloc_lt _ _ _ hbb).trans huc
    have hF : ∀ w', Below (W.alloc (.cells #[.int .i64 p1, .bool true, .bool p3, .int .i64 p4, .int .i64 p5] 25)).heap.size (W.alloc (.cells #[.int .i64 p1, .bool true, .bool p3, .int .i64 p4, .int .i64 p5] 25)) w' →
        w'.cell? ⟨R, 0, none⟩ = some (.slice (some ⟨bb, oo, none⟩) ms.length c') ∧ w'.cell? ⟨bb, oo + κ, none⟩ = some (.slice Am nm cm) ∧ w'.cell? ⟨W.heap.size, 3, none⟩ = some (.int .i64 p4) ∧ w'.cell? ⟨W.heap.size, 4, none⟩ = some (.int .i64 p5) :=
      fun w' hb => ⟨(hb.cell (p := ⟨R, 0, none⟩) (by simp; omega)).trans z0, (hb.cell (p := ⟨bb, oo + κ, none⟩) (by simp; omega)).trans huc', (hb.cell (p := ⟨W.heap.size, 3, none⟩) (by simp)).trans e3, (hb.cell (p := ⟨W.heap.size, 4, none⟩) (by simp)).trans e4⟩
    have HF := Lib.hid hF
    have HRC := Lib.hid hrc
    have e5 : (κ : Int) < ms.length := by omega
    generalize recS m p4 p5 = q at *
    clear hr hf hF hrc hRd hnm k4 k5 hm
    go_enter Try.func44, Try.ntmps44
    go_wp2_with (go_at_call 28; refine HO.out.mono ?_; rintro e w1 ⟨rfl, rfl⟩)
    refine wp_normal ?_
    refine wp_region_held_drew (S := fun w' => Below (W.alloc (.cells #[.int .i64 p1, .bool true, .bool p3, .int .i64 p4, .int .i64 p5] 25)).heap.size (W.alloc (.cells #[.int .i64 p1, .bool true, .bool p3, .int .i64 p4, .int .i64 p5] 25)) w') (by kernel_rfl) ((Below.refl _ _).drew) (fun hHeld => ?_)
    (refine take_if (i := 0) (oi := _) (v := ?_) (by simp only [List.getElem?_toArray, List.getElem?_cons_zero]; rfl) (by kernel_rfl) (by kernel_rfl) (by kernel_rfl) (fun _ _ _ h => h) (by rfl) ?_ (by assumption) ?_; rotate_left; (focus ((intro w hSw; (try have hSw := HF.out _ hSw); (try dsimp only at hSw); go_simp); try exact rfl)); simp only [Act.put, List.setIfInBounds_toArray, List.set_cons_zero, List.set_cons_succ]; refine take_if (i := 1) (oi := _) (v := ?_) (by simp only [List.getElem?_toArray, List.getElem?_cons_succ, List.getElem?_cons_zero]; rfl) (by kernel_rfl) (by kernel_rfl) (by kernel_rfl) (fun _ _ _ h => h) (by rfl) ?_ (by assumption) ?_; rotate_left; (focus ((intro w hSw; (try have hSw := HF.out _ hSw); (try dsimp only at hSw); go_simp); try exact rfl)); simp only [Act.put, List.setIfInBounds_toArray, List.set_cons_zero, List.set_cons_succ]; refine take_if (i := 2) (oi := _) (v := ?_) (by simp only [List.getElem?_toArray, List.getElem?_cons_succ, List.getElem?_cons_zero]; rfl) (by kernel_rfl) (by kernel_rfl) (by kernel_rfl) (fun _ _ _ h => h) (by rfl) ?_ (by assumption) ?_; rotate_left; (focus ((intro w hSw; (try have hSw := HF.out _ hSw); (try dsimp only at hSw); go_simp); try exact rfl)); simp only [Act.put, List.setIfInBounds_toArray, List.set_cons_zero, List.set_cons_succ]; refine take_if (i := 3) (oi := _) (v := ?_) (by simp only [List.getElem?_toArray, List.getElem?_cons_succ, List.getElem?_cons_zero]; rfl) (by kernel_rfl) (by kernel_rfl) (by kernel_rfl) (fun _ _ _ h => h) (by rfl) ?_ (by assumption) ?_; rotate_left; (focus ((intro w hSw; (try have hSw := HF.out _ hSw); (try dsimp only at hSw); go_simp); try exact rfl)); simp only [Act.put, List.setIfInBounds_toArray, List.set_cons_zero, List.set_cons_succ]; refine take_if (i := 4) (oi := _) (v := ?_) (by simp only [List.getElem?_toArray, List.getElem?_cons_succ, List.getElem?_cons_zero]; rfl) (by kernel_rfl) (by kernel_rfl) (by kernel_rfl) (fun _ _ _ h => h) (by rfl) ?_ (by assumption) ?_; rotate_left; (focus ((intro w hSw; (try have hSw := HF.out _ hSw); (try dsimp only at hSw); go_simp); try exact rfl)); simp only [Act.put, List.setIfInBounds_toArray, List.set_cons_zero, List.set_cons_succ]; refine take_if (i := 5) (oi := _) (v := ?_) (by simp only [List.getElem?_toArray, List.getElem?_cons_succ, List.getElem?_cons_zero]; rfl) (by kernel_rfl) (by kernel_rfl) (by kernel_rfl) (fun _ _ _ h => h) (by rfl) ?_ (by assumption) ?_; rotate_left; (focus ((intro w hSw; (try have hSw := HF.out _ hSw); (try dsimp only at hSw); go_simp); try exact rfl)); simp only [Act.put, List.setIfInBounds_toArray, List.set_cons_zero, List.set_cons_succ]; refine take_if (i := 6) (oi := _) (v := ?_) (by simp only [List.getElem?_toArray, List.getElem?_cons_succ, List.getElem?_cons_zero]; rfl) (by kernel_rfl) (by kernel_rfl) (by kernel_rfl) (fun _ _ _ h => h) (by rfl) ?_ (by assumption) ?_; rotate_left; (focus ((intro w hSw; (try have hSw := HF.out _ hSw); (try dsimp only at hSw); go_simp); try exact rfl)); simp only [Act.put, List.setIfInBounds_toArray, List.set_cons_zero, List.set_cons_succ]; refine take_if (i := 7) (oi := _) (v := ?_) (by simp only [List.getElem?_toArray, List.getElem?_cons_succ, List.getElem?_cons_zero]; rfl) (by kernel_rfl) (by kernel_rfl) (by kernel_rfl) (fun _ _ _ h => h) (by rfl) ?_ (by assumption) ?_; rotate_left; (focus ((intro w hSw; (try have hSw := HF.out _ hSw); (try dsimp only at hSw); go_simp); try exact rfl)); simp only [Act.put, List.setIfInBounds_toArray, List.set_cons_zero, List.set_cons_succ]; refine take_if (i := 8) (oi := _) (v := ?_) (by simp only [List.getElem?_toArray, List.getElem?_cons_succ, List.getElem?_cons_zero]; rfl) (by kernel_rfl) (by kernel_rfl) (by kernel_rfl) (fun _ _ _ h => h) (by rfl) ?_ (by assumption) ?_; rotate_left; (focus ((intro w hSw; (try have hSw := HF.out _ hSw); (try dsimp only at hSw); go_simp); try exact rfl)); simp only [Act.put, List.setIfInBounds_toArray, List.set_cons_zero, List.set_cons_succ]; refine take_if (i := 9) (oi := _) (v := ?_) (by simp only [List.getElem?_toArray, List.getElem?_cons_succ, List.getElem?_cons_zero]; rfl) (by kernel_rfl) (by kernel_rfl) (by kernel_rfl) (fun _ _ _ h => h) (by rfl) ?_ (by assumption) ?_; rotate_left; (focus ((intro w hSw; (try have hSw := HF.out _ hSw); (try dsimp only at hSw); go_simp); try exact rfl)); simp only [Act.put, List.setIfInBounds_toArray, List.set_cons_zero, List.set_cons_succ]; refine take_if (i := 10) (oi := _) (v := ?_) (by simp only [List.getElem?_toArray, List.getElem?_cons_succ, List.getElem?_cons_zero]; rfl) (by kernel_rfl) (by kernel_rfl) (by kernel_rfl) (fun _ _ _ h => h) (by rfl) ?_ (by assumption) ?_; rotate_left; (focus ((intro w hSw; (try have hSw := HF.out _ hSw); (try dsimp only at hSw); go_simp); try exact rfl)); simp only [Act.put, List.setIfInBounds_toArray, List.set_cons_zero, List.set_cons_succ])
    refine wpAnyH_ready (rs := [11]) (by kernel_rfl) (by simp) ?_; refine (AllReadyH.cons (o := _) (by simp only [List.getElem?_toArray, List.getElem?_cons_succ, List.getElem?_cons_zero]; rfl) (fun K hK => ?_) AllReadyH.nil)
    go_simp
    go_at_call 19
    refine (HRC.out _ b0.drew).mono ?_
    rintro e w2 ⟨rfl, hb2⟩
    have hb3 : Below (W.alloc (.cells #[.int .i64 p1, .bool true, .bool p3, .int .i64 p4, .int .i64 p5] 25)).heap.size (W.alloc (.cells #[.int .i64 p1, .bool true, .bool p3, .int .i64 p4, .int .i64 p5] 25)) w2 := Below.trans ((Below.refl _ _).drew) hb2
    refine hK.out _ _ hb3 (fun hHeld => ?_)
    clear hK K; (try simp only [Act.put, List.setIfInBounds_toArray, List.set_cons_zero, List.set_cons_succ])
    (refine take_if (i := 12) (oi := _) (v := ?_) (by simp only [List.getElem?_toArray, List.getElem?_cons_succ, List.getElem?_cons_zero]; rfl) (by kernel_rfl) (by kernel_rfl) (by kernel_rfl) (fun _ _ _ h => h) (by rfl) ?_ (by assumption) ?_; rotate_left; (focus ((intro w hSw; (try have hSw := HF.out _ hSw); (try dsimp only at hSw); go_simp); try exact rfl)); simp only [Act.put, List.setIfInBounds_toArray, List.set_cons_zero, List.set_cons_succ]; refine take_if (i := 13) (oi := _) (v := ?_) (by simp only [List.getElem?_toArray, List.getElem?_cons_succ, List.getElem?_cons_zero]; rfl) (by kernel_rfl) (by kernel_rfl) (by kernel_rfl) (fun _ _ _ h => h) (by rfl) ?_ (by assumption) ?_; rotate_left; (focus ((intro w hSw; (try have hSw := HF.out _ hSw); (try dsimp only at hSw); go_simp); try exact rfl)); simp only [Act.put, List.setIfInBounds_toArray, List.set_cons_zero, List.set_cons_succ]; refine take_if (i := 14) (oi := _) (v := ?_) (by simp only [List.getElem?_toArray, List.getElem?_cons_succ, List.getElem?_cons_zero]; rfl) (by kernel_rfl) (by kernel_rfl) (by kernel_rfl) (fun _ _ _ h => h) (by rfl) ?_ (by assumption) ?_; rotate_left; (focus ((intro w hSw; (try have hSw := HF.out _ hSw); (try dsimp only at hSw); go_simp); try exact rfl)); simp only [Act.put, List.setIfInBounds_toArray, List.set_cons_zero, List.set_cons_succ]; refine take_if (i := 15) (oi := _) (v := ?_) (by simp only [List.getElem?_toArray, List.getElem?_cons_succ, List.getElem?_cons_zero]; rfl) (by kernel_rfl) (by kernel_rfl) (by kernel_rfl) (fun _ _ _ h => h) (by rfl) ?_ (by assumption) ?_; rotate_left; (focus ((intro w hSw; (try have hSw := HF.out _ hSw); (try dsimp only at hSw); go_simp); try exact rfl)); simp only [Act.put, List.setIfInBounds_toArray, List.set_cons_zero, List.set_cons_succ]; refine take_if (i := 16) (oi := _) (v := ?_) (by simp only [List.getElem?_toArray, List.getElem?_cons_succ, List.getElem?_cons_zero]; rfl) (by kernel_rfl) (by kernel_rfl) (by kernel_rfl) (fun _ _ _ h => h) (by rfl) ?_ (by assumption) ?_; rotate_left; (focus ((intro w hSw; (try have hSw := HF.out _ hSw); (try dsimp only at hSw); go_simp); try exact rfl)); simp only [Act.put, List.setIfInBounds_toArray, List.set_cons_zero, List.set_cons_succ])
    refine wpAnyH_done (by kernel_rfl) ?_ _
    go_wp2
    go_ret3
    exact ⟨rfl, b0.trans (hb3.mono (by simp))⟩
  all_goals
    rw [hr]
    rw [hf] at HO
    clear hr hf
    go_enter Try.func44, Try.ntmps44
    go_wp2_with (go_at_call 28; refine HO.out.mono ?_; rintro e w1 ⟨rfl, rfl⟩)
    all_goals
      go_ret3
      exact ⟨rfl, by repeat (first | with_reducible exact Below.refl _ _ | with_reducible assumption | (with_reducible refine below_drewN ?_ _) | (with_reducible refine Below.drew ?_) | (with_reducible refine Below.alloc ?_ ?_ _; rotate_left; focus (first | with_reducible assumption | omega | (simp; done) | (simp; omega))) | (with_reducible refine Below.setCell ?_ ?_ _; rotate_left; focus (first | with_reducible assumption | omega | (simp; done) | (simp; omega))))⟩
end Go.Proofs.Ytkkbmcpimglcpaa
