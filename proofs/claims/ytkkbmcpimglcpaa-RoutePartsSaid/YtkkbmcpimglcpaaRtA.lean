/- route: maps of integers -/
import Derived.Test.YtkkbmcpimglcpaaBW
import Derived.WideKeyEntry
namespace Go.Proofs.Ytkkbmcpimglcpaa
open Go.RowKit Go.MapKept

abbrev IMap := Int → Option Int
def upd (f : IMap) (k v : Int) : IMap := fun x => if x = k then some v else f x

def MapFits (es : Array MapEntry) (clock : Nat) (f : IMap) : Prop :=
  Stamped es clock ∧ (∀ x ∈ es.toList, ∃ k v, x.key = .int .i64 k ∧ x.val = .int .i64 v ∧ f k = some v) ∧ (∀ k v, f k = some v → ∃ x ∈ es.toList, x.key = .int .i64 k ∧ x.val = .int .i64 v)
def MapIs (W : World) (b : Nat) (f : IMap) : Prop := ∃ es clock, W.heap[b]? = some (.map es clock) ∧ MapFits es clock f

theorem MapFits.keys {es : Array MapEntry} {clock : Nat} {f : IMap} (h : MapFits es clock f) : ∀ x ∈ es.toList, IsKey (.int .i64) x.key := by
  intro x hx
  obtain ⟨k, v, hk, _⟩ := h.2.1 x hx
  rw [hk]; rfl
/-- the entry of a key, if there is one -/
theorem MapFits.find {es : Array MapEntry} {clock : Nat} {f : IMap} (h : MapFits es clock f) (k : Int) :
    (Instr.findNow (.int .i64) (.int .i64 k) es.toList 0 = some none ∧ f k = none ∧ ∀ x ∈ es.toList, x.key ≠ .int .i64 k) ∨
    ∃ j e v, Instr.findNow (.int .i64) (.int .i64 k) es.toList 0 = some (some (j, e.val)) ∧ es.toList[j]? = some e ∧ e.key = .int .i64 k ∧ e.val = .int .i64 v ∧ f k = some v := by
  rcases findNow_spec (d := .int .i64) (k := .int .i64 k) rfl es.toList 0 h.keys with ⟨h1, h2⟩ | ⟨j, e, h1, h2, h3⟩
  · refine .inl ⟨h1, ?_, h2⟩
    cases hf : f k with
    | none => rfl
    | some v =>
      obtain ⟨x, hx, hk, _⟩ := h.2.2 k v hf
      exact absurd hk (h2 x hx)
  · obtain ⟨k', v, hk, hv, hf⟩ := h.2.1 e (List.mem_of_getElem? h2)
    rw [h3] at hk
    injection hk with _ hk
    subst hk
    exact .inr ⟨j, e, v, by simpa using h1, h2, h3, hv, hf⟩

theorem uMap : Try.prog.underlying 49 = some (.map 3 3) := Try.underlying49

theorem run_look {W : World} {b : Nat} {f : IMap} (h : MapIs W b f) (k : Int) : (Instr.lookup 49 (.map (some b)) (.int .i64 k) true).run Try.prog W = .ok (.tuple #[.int .i64 ((f k).getD 0), .bool (f k).isSome]) W := by
  obtain ⟨es, clock, hb, hf⟩ := h
  rcases hf.find k with ⟨h1, h2, _⟩ | ⟨j, e, v, h1, _, _, h4, h5⟩
  · simp [Instr.lookup, run_underlying uMap, MapKept.run_getObj_map hb, run_checkKey Try.underlying3 (show IsKey (.int .i64) (.int .i64 k) from rfl), run_findKey Try.underlying3 h1, h2, Result.andThen]
  · simp [Instr.lookup, run_underlying uMap, MapKept.run_getObj_map hb, run_checkKey Try.underlying3 (show IsKey (.int .i64) (.int .i64 k) from rfl), run_findKey Try.underlying3 h1, h4, h5, Result.andThen]
theorem run_look_nil (W : World) (k : Int) : (Instr.lookup 49 (.map none) (.int .i64 k) true).run Try.prog W = .ok (.tuple #[.int .i64 0, .bool false]) W := by
  simp [Instr.lookup, run_underlying uMap, run_checkKey Try.underlying3 (show IsKey (.int .i64) (.int .i64 k) from rfl), run_findKey Try.underlying3 (show Instr.findNow (.int .i64) (.int .i64 k) [] 0 = some none from rfl), Result.andThen]

theorem setBlock_same {W : World} {b : Nat} {o o' : Obj} (h : W.heap[b]? = some o) : (ChangeMaps.setBlock W b o').heap[b]? = some o' := by
  have hlt := (Array.getElem?_eq_some_iff.1 h).1
  show (W.heap.setIfInBounds b o')[b]? = some o'
  simp [hlt]
theorem setBlock_far (W : World) {b c : Nat} (o' : Obj) (h : c ≠ b) : (ChangeMaps.setBlock W b o').heap[c]? = W.heap[c]? := by
  show (W.heap.setIfInBounds b o')[c]? = _
  simp [Ne.symm h]

/-- m[k] = v, in its two parts -/
theorem run_put {W : World} {b : Nat} {f : IMap} (h : MapIs W b f) (k : Int) :
    ∃ es1 c1 st v0, (Instr.mapEntry 49 (.map (some b)) (.int .i64 k)).run Try.prog W = .ok (.tuple #[v0, goInt st]) (ChangeMaps.setBlock W b (.map es1 c1)) ∧
      ∀ (w2 : World) (v : Int), w2.heap[b]? = some (.map es1 c1) → ∃ es' c', (Instr.entryStore 49 (.map (some b)) (goInt st) (.int .i64 v)).run Try.prog w2 = .ok () (ChangeMaps.setBlock w2 b (.map es' c')) ∧ MapFits es' c' (upd f k v) := by
  obtain ⟨es, clock, hb, hf⟩ := h
  have hk : IsKey (.int .i64) (.int .i64 k) := rfl
  obtain ⟨⟨s1, s2, s3⟩, hA, hB⟩ := id hf
  rcases hf.find k with ⟨h1, h2, h3⟩ | ⟨j, e0, v, h1, h2, h3, h4, h5⟩
  · refine ⟨es.push ⟨.int .i64 k, .int .i64 0, clock⟩, clock + 1, clock, .int .i64 0, ?_, fun w2 v hw2 => ⟨es.push ⟨.int .i64 k, .int .i64 v, clock⟩, clock + 1, ?_, ?_⟩⟩
    · simp [Instr.mapEntry, run_underlying uMap, MapKept.run_getObj_map hb, run_checkKey Try.underlying3 hk, run_findKey Try.underlying3 h1, MapKept.run_setObj_map _ hb, Result.andThen, ChangeMaps.setBlock]
    · have hidx : (es.push ⟨.int .i64 k, .int .i64 0, clock⟩).findIdx? (fun e => ((e.born : Nat) : Int) == ((clock : Nat) : Int)) = some es.size := by
        rw [WideElems.findIdx_arr]
        exact WideElems.findIdx_born (l := (es.push ⟨.int .i64 k, .int .i64 0, clock⟩).toList) (j := es.size) (e0 := ⟨.int .i64 k, .int .i64 0, clock⟩) (by
          simp only [Array.toList_push, List.map_append, List.map_cons, List.map_nil]
          refine List.nodup_append.2 ⟨s2, by simp, fun a ha c hc e1 => ?_⟩
          simp only [List.mem_singleton] at hc
          obtain ⟨x, hx, rfl⟩ := List.mem_map.1 ha
          have := s1 x hx
          omega) (by simp)
      have hmod : (es.push ⟨.int .i64 k, .int .i64 0, clock⟩).modify es.size (fun e => { e with val := .int .i64 v }) = es.push ⟨.int .i64 k, .int .i64 v, clock⟩ := by
        apply Array.ext'
        rw [Array.toList_modify, Array.toList_push, Array.toList_push, ← Array.length_toList, WideElems.modify_last]
      simp [Instr.entryStore, MapKept.run_getObj_map hw2, asInt, asIntOf, goInt, hidx, hmod, MapKept.run_setObj_map _ hw2, Result.andThen, ChangeMaps.setBlock]
    · refine ⟨stamped_push ⟨s1, s2, s3⟩ h3, ?_, ?_⟩
      · intro x hx
        simp only [Array.toList_push, List.mem_append, List.mem_singleton] at hx
        rcases hx with hx | rfl
        · obtain ⟨k', v', e1, e2, e3⟩ := hA x hx
          refine ⟨k', v', e1, e2, ?_⟩
          have hne : k' ≠ k := fun e => h3 x hx (by rw [e1, e])
          simp [upd, hne, e3]
        · exact ⟨k, v, rfl, rfl, by simp [upd]⟩
      · intro k' v' hkv
        by_cases e : k' = k
        · subst e
          simp [upd] at hkv
          subst hkv
          exact ⟨⟨.int .i64 k', .int .i64 v, clock⟩, by simp, rfl, rfl⟩
        · simp [upd, e] at hkv
          obtain ⟨x, hx, e1, e2⟩ := hB k' v' hkv
          exact ⟨x, by simp [hx], e1, e2⟩
  · have hj : es[j]? = some e0 := by simpa using h2
    have hsame : es.modify j (fun e => { e with key := .int .i64 k }) = es := by
      apply Array.ext'
      rw [Array.toList_modify, ChangeMaps.modify_eq_set _ _ _ _ h2]
      have : ({ e0 with key := .int .i64 k } : MapEntry) = e0 := by rw [← h3]
      rw [this]
      exact WideElems.set_self _ _ _ h2
    refine ⟨es, clock, e0.born, e0.val, ?_, fun w2 v' hw2 => ⟨es.modify j (fun e' => { e' with val := .int .i64 v' }), clock, ?_, ?_⟩⟩
    · simp [Instr.mapEntry, run_underlying uMap, MapKept.run_getObj_map hb, run_checkKey Try.underlying3 hk, run_findKey Try.underlying3 h1, hj, h3, run_keyThatStays hk, hsame, MapKept.run_setObj_map _ hb, Result.andThen, ChangeMaps.setBlock]
    · have hidx : es.findIdx? (fun e => ((e.born : Nat) : Int) == ((e0.born : Nat) : Int)) = some j := by
        rw [WideElems.findIdx_arr]
        exact WideElems.findIdx_born s2 h2
      simp [Instr.entryStore, MapKept.run_getObj_map hw2, asInt, asIntOf, goInt, hidx, MapKept.run_setObj_map _ hw2, Result.andThen, ChangeMaps.setBlock]
    · have hother : ∀ (i : Nat) (x : MapEntry), es.toList[i]? = some x → i ≠ j → x.key ≠ .int .i64 k := by
        intro i x hi hne hkx
        obtain ⟨l1, rfl⟩ := List.getElem?_eq_some_iff.1 hi
        obtain ⟨l2, q2⟩ := List.getElem?_eq_some_iff.1 h2
        have hp := List.pairwise_iff_getElem.1 s3
        rcases Nat.lt_or_gt_of_ne hne with hlt | hlt
        · have := hp i j (by simpa using l1) (by simpa using l2) hlt
          simp only [List.getElem_map] at this
          rw [hkx, q2, h3] at this
          exact this rfl
        · have := hp j i (by simpa using l2) (by simpa using l1) hlt
          simp only [List.getElem_map] at this
          rw [hkx, q2, h3] at this
          exact this rfl
      have hget : ∀ i, (es.modify j (fun e' => { e' with val := .int .i64 v' })).toList[i]? = if j = i then some { e0 with val := .int .i64 v' } else es.toList[i]? := by
        intro i
        rw [Array.toList_modify, List.getElem?_modify]
        by_cases e : j = i
        · subst e; simp [h2]
        · simp [e]
      refine ⟨stamped_modify ⟨s1, s2, s3⟩ _ _ (fun _ _ => rfl) (fun _ _ _ => rfl), ?_, ?_⟩
      · intro x hx
        obtain ⟨i, hi⟩ := List.mem_iff_getElem?.1 hx
        rw [hget] at hi
        by_cases e : j = i
        · rw [if_pos e] at hi
          injection hi with hi
          subst hi
          exact ⟨k, v', h3, rfl, by simp [upd]⟩
        · rw [if_neg e] at hi
          obtain ⟨k', v2, e1, e2, e3⟩ := hA x (List.mem_of_getElem? hi)
          have hne : k' ≠ k := fun e4 => hother i x hi (Ne.symm e) (by rw [e1, e4])
          exact ⟨k', v2, e1, e2, by simp [upd, hne, e3]⟩
      · intro k' v2 hkv
        by_cases e : k' = k
        · subst e
          simp [upd] at hkv
          subst hkv
          exact ⟨{ e0 with val := .int .i64 v' }, List.mem_iff_getElem?.2 ⟨j, by rw [hget, if_pos rfl]⟩, h3, rfl⟩
        · simp [upd, e] at hkv
          obtain ⟨x, hx, e1, e2⟩ := hB k' v2 hkv
          obtain ⟨i, hi⟩ := List.mem_iff_getElem?.1 hx
          have hji : ¬ j = i := by
            rintro rfl
            rw [h2] at hi
            injection hi with hi
            subst hi
            rw [h3] at e1
            injection e1 with _ e1
            exact e e1.symm
          exact ⟨x, List.mem_iff_getElem?.2 ⟨i, by rw [hget, if_neg hji]; exact hi⟩, e1, e2⟩
end Go.Proofs.Ytkkbmcpimglcpaa
