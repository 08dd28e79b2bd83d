/- route: both routes side by side, as they are filled -/
import Derived.Test.YtkkbmcpimglcpaaRtQ
namespace Go.Proofs.Ytkkbmcpimglcpaa
open Go.RowKit

/-- the mirrors of n maps as the document keeps them -/
def ofsOf (f : IMap) (n : Nat) : List Int := (List.range n).map fun (i : Nat) => (f (i : Int)).getD (-1)
theorem ofsOf_len (f : IMap) (n : Nat) : (ofsOf f n).length = n := by simp [ofsOf]
theorem ofsOf_get (f : IMap) {n i : Nat} (h : i < n) : (ofsOf f n)[i]? = some ((f (i : Int)).getD (-1)) := by
  rw [ofsOf, List.getElem?_map, List.getElem?_range h]; rfl
/-- mirrors mirror each other, among n maps -/
def MirOk (f : IMap) (n : Nat) : Prop := ∀ i k, f i = some k → 0 ≤ i ∧ i < n ∧ 0 ≤ k ∧ k < n ∧ k ≠ i
theorem MirOk.in_ {f : IMap} {ms : List (List Rg)} (h : MirOk f ms.length) : InR ms f := fun i k hk => ⟨(h i k hk).2.2.1, (h i k hk).2.2.2.1⟩
theorem MirOk.none_ {f : IMap} {n : Nat} (h : MirOk f n) {i : Int} (hi : ¬ (0 ≤ i ∧ i < n)) : f i = none := by
  cases hf : f i with
  | none => rfl
  | some k => have := h i k hf; omega
theorem MirOk.add {f : IMap} {n : Nat} (h : MirOk f n) : MirOk f (n + 1) := fun i k hk => by have := h i k hk; omega
theorem MirOk.pair {f : IMap} {n : Nat} (h : MirOk f n) {k : Int} (h0 : 0 ≤ k) (h1 : k < n) : MirOk (upd (upd f k n) n k) (n + 1) := by
  intro i v hv
  unfold upd at hv
  split at hv
  · injection hv with hv; omega
  · split at hv
    · injection hv with hv; omega
    · have := h i v hv; omega
theorem ofs_add {f : IMap} {n : Nat} (h : MirOk f n) : ofsOf f (n + 1) = ofsOf f n ++ [-1] := by
  rw [ofsOf, List.range_succ, List.map_append, List.map_cons, List.map_nil, h.none_ (by omega)]; rfl
theorem ofs_pair {f : IMap} {n : Nat} (h : MirOk f n) {k : Int} (h0 : 0 ≤ k) (h1 : k < n) : ofsOf (upd (upd f k n) n k) (n + 1) = (ofsOf f n ++ [k]).set k.toNat n := by
  apply List.ext_getElem?
  intro i
  rw [List.getElem?_set]
  by_cases hi : i < n + 1
  · rw [ofsOf_get _ hi]
    by_cases e1 : k.toNat = i
    · rw [if_pos e1, if_pos (by simp [ofsOf_len]; omega)]
      have e2 : (i : Int) = k := by omega
      have e3 : ¬ k = (n : Int) := by omega
      simp [upd, e2, e3]
    · rw [if_neg e1]
      have e2 : ¬ (i : Int) = k := by omega
      by_cases e3 : i = n
      · subst e3
        rw [List.getElem?_append_right (by rw [ofsOf_len]; omega), ofsOf_len]
        simp [upd]
      · rw [List.getElem?_append_left (by rw [ofsOf_len]; omega), ofsOf_get _ (by omega)]
        have e4 : ¬ (i : Int) = n := by omega
        simp [upd, e2, e4]
  · rw [List.getElem?_eq_none (by rw [ofsOf_len]; omega), if_neg (by omega), List.getElem?_eq_none (by simp [ofsOf_len]; omega)]
theorem free_ofs {f : IMap} {n : Nat} (h : MirOk f n) (k : Int) : freeR n (ofsOf f n) k = decide (0 ≤ k ∧ k < n ∧ f k = none) := by
  unfold freeR
  by_cases hk : 0 ≤ k ∧ k < n
  · rw [decide_eq_true hk, Bool.true_and, List.getD_eq_getElem?_getD, ofsOf_get _ (by omega)]
    rw [show ((k.toNat : Nat) : Int) = k by omega]
    rw [decide_eq_decide]
    cases hf : f k with
    | none => simp [hk]
    | some v => have := h k v hf; simp; omega
  · rw [decide_eq_false hk, decide_eq_false (p := 0 ≤ k ∧ k < n ∧ f k = none) (fun h => hk ⟨h.1, h.2.1⟩)]; rfl

/-- the document's route in memory of its own, beside the program's -/
structure RefOwn (W : World) (base R : Nat) (vm vo : Value) (ms : List (List Rg)) (ofs : List Int) : Prop where
  rows : ∃ vs, W.ownsRow base 22 1 vm ms.length vs ∧ ∀ (i : Nat) (m : List Rg), ms[i]? = some m → ∃ A c, vs[i]? = some (.slice A m.length c) ∧ Rd W base 3 A m.length (rgs m)
  apart : ∀ j, vm.ownBlock = some j → ¬ Foot W R j
  ofr : W.ownsRow base 3 1 vo ms.length (ofs.map (Value.int .i64))

theorem RouteIs.foot {W : World} {base R : Nat} {ms : List (List Rg)} {f : IMap} (h : RouteIs W base R ms f) {j : Nat} (hj : Foot W R j) : j < W.heap.size ∧ ∀ t cs, Bk W j t cs → t = 51 ∨ t = 22 := by
  obtain ⟨v, mo, vs, k1, k2, k3, k4, k5⟩ := h
  rcases (Foot.one k1).1 hj with rfl | e | e
  · refine ⟨def_lt' k1, fun t cs hb => ?_⟩
    by_cases ht : t = 51
    · exact .inl ht
    · exact absurd rfl (bk_ne hb k1 ht)
  · refine ⟨own_lt k3 j e, fun t cs hb => ?_⟩
    by_cases ht : t = 22
    · exact .inr ht
    · exact absurd e (own_ne k3 hb (Ne.symm ht))
  · rcases k5 with ⟨e2, _⟩ | ⟨b, e2, _, hm⟩
    · rw [e2] at e; cases e
    · rw [e2] at e
      injection e with e
      subst e
      exact ⟨hm.lt, fun t cs hb => absurd rfl (hm.ne hb)⟩

section
variable {W W' : World} {base R : Nat} {vm vo : Value} {ms ms' ms2 : List (List Rg)} {f f' : IMap} {ofs : List Int}
/-- the program's route is turned: the document's stays -/
theorem RefOwn.turned (h : RefOwn W base R vm vo ms2 ofs) (hR : RouteIs W base R ms f) (ht : Turned W W' base R ms' f') : RefOwn W' base R vm vo ms2 ofs := by
  obtain ⟨⟨vs, h1, h2⟩, h3, h4⟩ := h
  obtain ⟨_, hb, _, _, hk⟩ := ht
  refine ⟨⟨vs, own_keep h1 (fun j hj => hk.1 j (own_lt h1 j hj) (h3 j hj)), fun i m hi => ?_⟩, fun j hj hf => ?_, own_keep h4 (fun j hj => hk.1 j (own_lt h4 j hj) (fun hf => ?_))⟩
  · obtain ⟨A, c, e1, e2⟩ := h2 i m hi
    exact ⟨A, c, e1, e2.below hb⟩
  · rcases hk.2 j hf with h | h
    · exact h3 j hj h
    · have := own_lt h1 j hj; omega
  · obtain ⟨cur, hc⟩ := own_type h4 j hj
    have := (hR.foot hf).2 _ _ hc
    revert this; decide
theorem RefOwn.ext (h : RefOwn W base R vm vo ms2 ofs) (hR : RouteIs W base R ms f) (hbase : base ≤ W.heap.size) (hb : Below W.heap.size W W') : RefOwn W' base R vm vo ms2 ofs := by
  obtain ⟨v, mo, vs0, k1, _⟩ := id hR
  exact h.turned hR ⟨hR.ext hb, hb.mono hbase, hb.size, KeepRg.below hb, Kept.below k1 hb⟩
/-- a box beside -/
theorem Turned.box {b : Nat} {t : TypeId} {cs : Array Value} (ht : Turned W W' base R ms' f') (hR : RouteIs W base R ms f) (hb : Bk W b t cs) (h1 : t ≠ 51) (h2 : t ≠ 22) : Bk W' b t cs :=
  (ht.2.2.2.2.1 b (def_lt' hb) (fun hf => ((hR.foot hf).2 _ _ hb).elim h1 h2)).trans hb
/-- it reads as it should -/
theorem RefOwn.is (h : RefOwn W base R vm vo ms2 ofs) (hbase : base ≤ W.heap.size) (ho : ofs.length = ms2.length) : ∃ Am cm Ao co, vm = .slice Am ms2.length cm ∧ vo = .slice Ao ms2.length co ∧ RefIs W W.heap.size Am Ao ms2.length ms2 ofs ∧ (Am = none → ms2.length = 0) ∧ (Ao = none → ms2.length = 0) ∧
    ∃ vs, Rd W W.heap.size 1 Am ms2.length vs ∧ (∀ u ∈ vs, u.oneCell' = true) ∧ W.ownsRow base 22 1 (.slice Am ms2.length cm) ms2.length vs := by
  obtain ⟨⟨vs, h1, h2⟩, _, h4⟩ := h
  obtain ⟨Am, cm, rfl, _, _, g1, r1⟩ := own_form h1
  obtain ⟨Ao, co, rfl, _, _, g2, r2⟩ := own_form h4
  refine ⟨Am, cm, Ao, co, rfl, rfl, ⟨rfl, ⟨vs, r1, fun i m hi => ?_⟩, ho, r2⟩, fun e => (g1 e).1, fun e => (g2 e).1, vs, r1, fun u hu => ?_, h1⟩
  · obtain ⟨A, c, e1, e2⟩ := h2 i m hi
    exact ⟨A, c, e1, e2.more hbase⟩
  · obtain ⟨i, hi⟩ := List.mem_iff_getElem?.1 hu
    have hl : vs.length = ms2.length := by simpa using h1.1
    have hlt := (List.getElem?_eq_some_iff.1 hi).1
    obtain ⟨A, c, e1, _⟩ := h2 i ms2[i] (List.getElem?_eq_getElem (by omega))
    rw [e1] at hi
    injection hi with hi
    subst hi
    rfl
/-- a map is added to it -/
theorem RefOwn.added (h : RefOwn W base R vm vo ms ofs) (hR : RouteIs W base R ms' f) (hbase : base ≤ W.heap.size) (hb : Below W.heap.size W W') {k c : Nat} {vs : List Value} {A : Option Addr} {l : List Rg} {v o : Value} {ofs' : List Int}
    (hvs : W.ownsRow base 22 1 vm ms.length vs) (hk : l.length = k) (hl : Rd W base 3 A k (rgs l))
    (h1 : W'.ownsRow W.heap.size 22 1 v (ms.length + 1) (vs ++ [.slice A k c])) (h2 : W'.ownsRow W.heap.size 3 1 o (ms.length + 1) (ofs'.map (Value.int .i64))) : RefOwn W' base R v o (ms ++ [l]) ofs' := by
  obtain ⟨⟨vs2, g1, g2⟩, _, _⟩ := h
  have hvv : vs2 = vs := by
    rcases g1.2 with ⟨e, hx⟩ | ⟨g, cap, cur, e, _, hh, _, _, _, r⟩
    · rcases hvs.2 with ⟨_, hy⟩ | ⟨g, cap, cur, e2, _⟩
      · exact (List.eq_nil_of_length_eq_zero (by have := g1.1; omega)).trans (List.eq_nil_of_length_eq_zero (by have := hvs.1; omega)).symm
      · rw [e] at e2; cases e2
    · rcases hvs.2 with ⟨e2, _⟩ | ⟨g', cap', cur', e2, _, hh', _, _, _, r'⟩
      · rw [e] at e2; cases e2
      · rw [e] at e2
        injection e2 with e2
        injection e2 with e2
        injection e2 with e2
        subst e2
        rw [hh] at hh'
        injection hh' with hh'
        injection hh' with hh'
        subst hh'
        rw [← r, ← r']
  subst hvv
  have hvl : vs2.length = ms.length := by simpa using g1.1
  obtain ⟨v0, mo, vs0, k1, _⟩ := id hR
  refine ⟨⟨_, by simpa using own_base h1 hbase, fun i m hi => ?_⟩, fun j hj hf => ?_, by simpa using own_base h2 hbase⟩
  · rcases Nat.lt_or_ge i ms.length with hlt | hge
    · rw [List.getElem?_append_left hlt] at hi
      obtain ⟨A', c', e1, e2⟩ := g2 i m hi
      exact ⟨A', c', by rw [List.getElem?_append_left (by omega), e1], e2.below (hb.mono hbase)⟩
    · rw [List.getElem?_append_right hge] at hi
      cases hd : i - ms.length with
      | succ d => rw [hd] at hi; simp at hi
      | zero =>
        rw [hd] at hi
        simp at hi
        subst hi
        refine ⟨A, c, ?_, by rw [hk]; exact hl.below (hb.mono hbase)⟩
        rw [List.getElem?_append_right (by omega), hvl, hd, hk]; rfl
  · have hge := own_ge h1 j hj
    have := (hR.foot (((Kept.below k1 hb).2 j hf).elim id (fun _ => by
      exact (Foot.one k1).2 ((Foot.one (k1.ext hb)).1 hf)))).1
    omega
end
end Go.Proofs.Ytkkbmcpimglcpaa
