/- route: pair, Mirror -/
import Derived.Test.YtkkbmcpimglcpaaRtC
namespace Go.Proofs.Ytkkbmcpimglcpaa
open Go.RowKit

/-- m[a] = b, m[b] = a: in the order in which the code does it -/
theorem run_pair {W : World} {p : Nat} {f : IMap} (h : MapIs W p f) (a b : Int) : ∃ es1 c1 st1 v1 es2 c2 es3 c3 st3 v3 es4 c4,
    (Instr.mapEntry 49 (.map (some p)) (.int .i64 a)).run Try.prog W = .ok (.tuple #[v1, .int .i64 (st1 : Int)]) (ChangeMaps.setBlock W p (.map es1 c1)) ∧
    (Instr.entryStore 49 (.map (some p)) (.int .i64 (st1 : Int)) (.int .i64 b)).run Try.prog (ChangeMaps.setBlock W p (.map es1 c1)) = .ok () (ChangeMaps.setBlock (ChangeMaps.setBlock W p (.map es1 c1)) p (.map es2 c2)) ∧
    (Instr.mapEntry 49 (.map (some p)) (.int .i64 b)).run Try.prog (ChangeMaps.setBlock (ChangeMaps.setBlock W p (.map es1 c1)) p (.map es2 c2)) = .ok (.tuple #[v3, .int .i64 (st3 : Int)]) (ChangeMaps.setBlock (ChangeMaps.setBlock (ChangeMaps.setBlock W p (.map es1 c1)) p (.map es2 c2)) p (.map es3 c3)) ∧
    (Instr.entryStore 49 (.map (some p)) (.int .i64 (st3 : Int)) (.int .i64 a)).run Try.prog (ChangeMaps.setBlock (ChangeMaps.setBlock (ChangeMaps.setBlock W p (.map es1 c1)) p (.map es2 c2)) p (.map es3 c3)) = .ok () (ChangeMaps.setBlock (ChangeMaps.setBlock (ChangeMaps.setBlock (ChangeMaps.setBlock W p (.map es1 c1)) p (.map es2 c2)) p (.map es3 c3)) p (.map es4 c4)) ∧
    MapFits es4 c4 (upd (upd f a b) b a) := by
  obtain ⟨es0, c0, hb0, _⟩ := id h
  obtain ⟨es1, c1, st1, v1, r1, s1⟩ := run_put h a
  have hb1 := setBlock_same (o' := .map es1 c1) hb0
  obtain ⟨es2, c2, r2, f2⟩ := s1 _ b hb1
  have hb2 := setBlock_same (o' := .map es2 c2) hb1
  obtain ⟨es3, c3, st3, v3, r3, s3⟩ := run_put ⟨es2, c2, hb2, f2⟩ b
  have hb3 := setBlock_same (o' := .map es3 c3) hb2
  obtain ⟨es4, c4, r4, f4⟩ := s3 _ a hb3
  exact ⟨es1, c1, st1, v1, es2, c2, es3, c3, st3, v3, es4, c4, r1, r2, r3, r4, f4⟩

theorem Below.setBlock {B : Nat} {a w : World} (h : Below B a w) {p : Nat} (hp : B ≤ p) (o : Obj) : Below B a (ChangeMaps.setBlock w p o) :=
  ⟨h.os, h.tape, h.output, Nat.le_trans h.size (by simp [ChangeMaps.setBlock]), fun k hk => (setBlock_far w o (by omega)).trans (h.block k hk)⟩
theorem Bk.block {W : World} {b p : Nat} {t : TypeId} {cs : Array Value} (h : Bk W b t cs) (hp : b ≠ p) (o : Obj) : Bk (ChangeMaps.setBlock W p o) b t cs := (setBlock_far W o hp).trans h
theorem cell_setBlock (W : World) {b p : Nat} (hp : b ≠ p) (o : Obj) (i : Nat) : (ChangeMaps.setBlock W p o).cell? ⟨b, i, none⟩ = W.cell? ⟨b, i, none⟩ := World.cell?_of_block (setBlock_far W o hp)

set_option maxRecDepth 100000 in
set_option maxHeartbeats 2000000 in
theorem pair_some (R p : Nat) (v : Value) (f : IMap) (a b : Int) (W : World) (k1 : Bk W R 51 #[v, .map (some p)]) (hp : MapIs W p f) :
    Calls Try.prog 43 #[.pointer (some ⟨R, 0, none⟩), .int .i64 a, .int .i64 b] W fun e W' => (∃ u, e = .returned u) ∧ Bk W' R 51 #[v, .map (some p)] ∧ MapIs W' p (upd (upd f a b) b a) ∧ (∀ j, j ≠ p → W'.heap[j]? = W.heap[j]?) ∧ Below p W W' := by
  have hne : R ≠ p := (hp.ne k1).symm
  obtain ⟨es1, c1, st1, v1, es2, c2, es3, c3, st3, v3, es4, c4, r1, r2, r3, r4, f4⟩ := run_pair (W := W.drew) (p := p) (f := f) hp a b
  have hlt := hp.lt
  have z1 := k1.cell 1
  have zl := def_lt' k1
  dsimp at z1
  have qT : ∀ (w : World) (r : Option Nat), (binOp .eql 49 (.map r) (.map none)).run Try.prog w = .ok (.bool r.isNone) w := fun w r => run_eql_map_nil w _ _ _ r Try.underlying49
  have HP := Lib.hid hp
  clear hp
  go_enter Try.func43, Try.ntmps43
  go_wp2
  refine wp_normal ?_
  refine wp_region_held_drew (S := fun w' => w'.cell? ⟨R, 1, none⟩ = some (.map (some p))) (by kernel_rfl) z1 (fun hHeld => ?_)
  (refine take_if (i := 0) (oi := _) (v := ?_) (by simp only [List.getElem?_toArray, List.getElem?_cons_zero]; rfl) (by kernel_rfl) (by kernel_rfl) (by kernel_rfl) (fun _ _ _ h => h) (by rfl) ?_ (by assumption) ?_; rotate_left; (focus ((intro w hSw; (try have hSw := HF.out _ hSw); (try dsimp only at hSw); go_simp); try exact rfl)); simp only [Act.put, List.setIfInBounds_toArray, List.set_cons_zero, List.set_cons_succ]; refine take_if (i := 1) (oi := _) (v := ?_) (by simp only [List.getElem?_toArray, List.getElem?_cons_succ, List.getElem?_cons_zero]; rfl) (by kernel_rfl) (by kernel_rfl) (by kernel_rfl) (fun _ _ _ h => h) (by rfl) ?_ (by assumption) ?_; rotate_left; (focus ((intro w hSw; (try have hSw := HF.out _ hSw); (try dsimp only at hSw); go_simp); try exact rfl)); simp only [Act.put, List.setIfInBounds_toArray, List.set_cons_zero, List.set_cons_succ]; refine take_if (i := 2) (oi := _) (v := ?_) (by simp only [List.getElem?_toArray, List.getElem?_cons_succ, List.getElem?_cons_zero]; rfl) (by kernel_rfl) (by kernel_rfl) (by kernel_rfl) (fun _ _ _ h => h) (by rfl) ?_ (by assumption) ?_; rotate_left; (focus ((intro w hSw; (try have hSw := HF.out _ hSw); (try dsimp only at hSw); go_simp); try exact rfl)); simp only [Act.put, List.setIfInBounds_toArray, List.set_cons_zero, List.set_cons_succ]; refine take_if (i := 3) (oi := _) (v := ?_) (by simp only [List.getElem?_toArray, List.getElem?_cons_succ, List.getElem?_cons_zero]; rfl) (by kernel_rfl) (by kernel_rfl) (by kernel_rfl) (fun _ _ _ h => h) (by rfl) ?_ (by assumption) ?_; rotate_left; (focus ((intro w hSw; (try have hSw := HF.out _ hSw); (try dsimp only at hSw); go_simp); try exact rfl)); simp only [Act.put, List.setIfInBounds_toArray, List.set_cons_zero, List.set_cons_succ]; refine take_if (i := 4) (oi := _) (v := ?_) (by simp only [List.getElem?_toArray, List.getElem?_cons_succ, List.getElem?_cons_zero]; rfl) (by kernel_rfl) (by kernel_rfl) (by kernel_rfl) (fun _ _ _ h => h) (by rfl) ?_ (by assumption) ?_; rotate_left; (focus ((intro w hSw; (try have hSw := HF.out _ hSw); (try dsimp only at hSw); go_simp); try exact rfl)); simp only [Act.put, List.setIfInBounds_toArray, List.set_cons_zero, List.set_cons_succ]; refine take_if (i := 5) (oi := _) (v := ?_) (by simp only [List.getElem?_toArray, List.getElem?_cons_succ, List.getElem?_cons_zero]; rfl) (by kernel_rfl) (by kernel_rfl) (by kernel_rfl) (fun _ _ _ h => h) (by rfl) ?_ (by assumption) ?_; rotate_left; (focus ((intro w hSw; (try have hSw := HF.out _ hSw); (try dsimp only at hSw); go_simp); try exact rfl)); simp only [Act.put, List.setIfInBounds_toArray, List.set_cons_zero, List.set_cons_succ]; refine take_if (i := 6) (oi := _) (v := ?_) (by simp only [List.getElem?_toArray, List.getElem?_cons_succ, List.getElem?_cons_zero]; rfl) (by kernel_rfl) (by kernel_rfl) (by kernel_rfl) (fun _ _ _ h => h) (by rfl) ?_ (by assumption) ?_; rotate_left; (focus ((intro w hSw; (try have hSw := HF.out _ hSw); (try dsimp only at hSw); go_simp); try exact rfl)); simp only [Act.put, List.setIfInBounds_toArray, List.set_cons_zero, List.set_cons_succ]; refine take_if (i := 7) (oi := _) (v := ?_) (by simp only [List.getElem?_toArray, List.getElem?_cons_succ, List.getElem?_cons_zero]; rfl) (by kernel_rfl) (by kernel_rfl) (by kernel_rfl) (fun _ _ _ h => h) (by rfl) ?_ (by assumption) ?_; rotate_left; (focus ((intro w hSw; (try have hSw := HF.out _ hSw); (try dsimp only at hSw); go_simp); try exact rfl)); simp only [Act.put, List.setIfInBounds_toArray, List.set_cons_zero, List.set_cons_succ]; refine take_if (i := 8) (oi := _) (v := ?_) (by simp only [List.getElem?_toArray, List.getElem?_cons_succ, List.getElem?_cons_zero]; rfl) (by kernel_rfl) (by kernel_rfl) (by kernel_rfl) (fun _ _ _ h => h) (by rfl) ?_ (by assumption) ?_; rotate_left; (focus ((intro w hSw; (try have hSw := HF.out _ hSw); (try dsimp only at hSw); go_simp); try exact rfl)); simp only [Act.put, List.setIfInBounds_toArray, List.set_cons_zero, List.set_cons_succ]; refine take_if (i := 9) (oi := _) (v := ?_) (by simp only [List.getElem?_toArray, List.getElem?_cons_succ, List.getElem?_cons_zero]; rfl) (by kernel_rfl) (by kernel_rfl) (by kernel_rfl) (fun _ _ _ h => h) (by rfl) ?_ (by assumption) ?_; rotate_left; (focus ((intro w hSw; (try have hSw := HF.out _ hSw); (try dsimp only at hSw); go_simp); try exact rfl)); simp only [Act.put, List.setIfInBounds_toArray, List.set_cons_zero, List.set_cons_succ]; refine take_if (i := 10) (oi := _) (v := ?_) (by simp only [List.getElem?_toArray, List.getElem?_cons_succ, List.getElem?_cons_zero]; rfl) (by kernel_rfl) (by kernel_rfl) (by kernel_rfl) (fun _ _ _ h => h) (by rfl) ?_ (by assumption) ?_; rotate_left; (focus ((intro w hSw; (try have hSw := HF.out _ hSw); (try dsimp only at hSw); go_simp); try exact rfl)); simp only [Act.put, List.setIfInBounds_toArray, List.set_cons_zero, List.set_cons_succ]; refine take_if (i := 11) (oi := _) (v := ?_) (by simp only [List.getElem?_toArray, List.getElem?_cons_succ, List.getElem?_cons_zero]; rfl) (by kernel_rfl) (by kernel_rfl) (by kernel_rfl) (fun _ _ _ h => h) (by rfl) ?_ (by assumption) ?_; rotate_left; (focus ((intro w hSw; (try have hSw := HF.out _ hSw); (try dsimp only at hSw); go_simp); try exact rfl)); simp only [Act.put, List.setIfInBounds_toArray, List.set_cons_zero, List.set_cons_succ])
  refine wpAnyH_ready (rs := [12]) (by kernel_rfl) (by simp) ?_; refine (AllReadyH.cons (o := _) (by simp only [List.getElem?_toArray, List.getElem?_cons_succ, List.getElem?_cons_zero]; rfl) (fun K hK => ?_) AllReadyH.nil)
  go_simp
  refine hK.out _ _ (by show World.cell? _ _ = _; rw [cell_setBlock _ hne]; exact hHeld) (fun hHeld => ?_)
  clear hK K; (try simp only [Act.put, List.setIfInBounds_toArray, List.set_cons_zero, List.set_cons_succ])
  (refine take_if (i := 13) (oi := _) (v := ?_) (by simp only [List.getElem?_toArray, List.getElem?_cons_succ, List.getElem?_cons_zero]; rfl) (by kernel_rfl) (by kernel_rfl) (by kernel_rfl) (fun _ _ _ h => h) (by rfl) ?_ (by assumption) ?_; rotate_left; (focus ((intro w hSw; (try have hSw := HF.out _ hSw); (try dsimp only at hSw); go_simp); try exact rfl)); simp only [Act.put, List.setIfInBounds_toArray, List.set_cons_zero, List.set_cons_succ])
  refine wpAnyH_ready (rs := [14]) (by kernel_rfl) (by simp) ?_; refine (AllReadyH.cons (o := _) (by simp only [List.getElem?_toArray, List.getElem?_cons_succ, List.getElem?_cons_zero]; rfl) (fun K hK => ?_) AllReadyH.nil)
  go_simp
  refine hK.out _ _ (by show World.cell? _ _ = _; rw [cell_setBlock _ hne]; exact hHeld) (fun hHeld => ?_)
  clear hK K; (try simp only [Act.put, List.setIfInBounds_toArray, List.set_cons_zero, List.set_cons_succ])
  refine wpAnyH_ready (rs := [15]) (by kernel_rfl) (by simp) ?_; refine (AllReadyH.cons (o := _) (by simp only [List.getElem?_toArray, List.getElem?_cons_succ, List.getElem?_cons_zero]; rfl) (fun K hK => ?_) AllReadyH.nil)
  go_simp
  refine hK.out _ _ (by show World.cell? _ _ = _; rw [cell_setBlock _ hne]; exact hHeld) (fun hHeld => ?_)
  clear hK K; (try simp only [Act.put, List.setIfInBounds_toArray, List.set_cons_zero, List.set_cons_succ])
  (refine take_if (i := 16) (oi := _) (v := ?_) (by simp only [List.getElem?_toArray, List.getElem?_cons_succ, List.getElem?_cons_zero]; rfl) (by kernel_rfl) (by kernel_rfl) (by kernel_rfl) (fun _ _ _ h => h) (by rfl) ?_ (by assumption) ?_; rotate_left; (focus ((intro w hSw; (try have hSw := HF.out _ hSw); (try dsimp only at hSw); go_simp); try exact rfl)); simp only [Act.put, List.setIfInBounds_toArray, List.set_cons_zero, List.set_cons_succ])
  refine wpAnyH_ready (rs := [17]) (by kernel_rfl) (by simp) ?_; refine (AllReadyH.cons (o := _) (by simp only [List.getElem?_toArray, List.getElem?_cons_succ, List.getElem?_cons_zero]; rfl) (fun K hK => ?_) AllReadyH.nil)
  go_simp
  refine hK.out _ _ (by show World.cell? _ _ = _; rw [cell_setBlock _ hne]; exact hHeld) (fun hHeld => ?_)
  clear hK K; (try simp only [Act.put, List.setIfInBounds_toArray, List.set_cons_zero, List.set_cons_succ])
  refine wpAnyH_done (by kernel_rfl) ?_ _
  go_wp2
  go_end0
  refine ⟨⟨_, rfl⟩, (((k1.drew.block hne _).block hne _).block hne _).block hne _, ⟨es4, c4, ?_, f4⟩, fun j hj => ?_, ?_⟩
  · exact setBlock_same (setBlock_same (setBlock_same (setBlock_same (W := W.drew) HP.out.choose_spec.choose_spec.1)))
  · rw [setBlock_far _ _ hj, setBlock_far _ _ hj, setBlock_far _ _ hj, setBlock_far _ _ hj]; rfl
  · exact Below.setBlock (Below.setBlock (Below.setBlock (Below.setBlock ((Below.refl p W).drew) (Nat.le_refl _) _) (Nat.le_refl _) _) (Nat.le_refl _) _) (Nat.le_refl _) _
end Go.Proofs.Ytkkbmcpimglcpaa
