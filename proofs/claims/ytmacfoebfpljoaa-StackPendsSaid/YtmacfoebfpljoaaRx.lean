/- a range over a function whose rounds write a set of blocks of their own (X), all else being kept: fits an iterator that itself ranges over another one -/
import Derived.Test.YtmacfoebfpljoaaR
namespace Go.Proofs.Ytmacfoebfpljoaa
open Go.RowKit

/-- these blocks hold cells -/
def CellsAt (X : Nat → Prop) (A : World) : Prop := ∀ k, X k → ∃ o, A.heap[k]? = some o ∧ o.isCells = true
/-- all but these blocks lie as they lay -/
def KeptX (X : Nat → Prop) (W W' : World) : Prop := W.heap.size ≤ W'.heap.size ∧ ∀ k, k < W.heap.size → ¬ X k → W'.heap[k]? = W.heap[k]?
def KeptB (b : Nat) (X : Nat → Prop) (W W' : World) : Prop := W.heap.size ≤ W'.heap.size ∧ ∀ k, b ≤ k → k < W.heap.size → ¬ X k → W'.heap[k]? = W.heap[k]?
theorem KeptX.from {X : Nat → Prop} {W W' : World} (h : KeptX X W W') (b : Nat) : KeptB b X W W' := ⟨h.1, fun k _ h1 h2 => h.2 k h1 h2⟩
/-- AN ITERATOR's CONTRACT: function gf at what it has captured, lb, gives xs in order, or a beginning of it. It leans on the blocks N; the rounds write blocks X of their own, and new ones. -/
def GivesX {α : Type} (P : Program) (gf : Nat) (lb : Array Value) (encs : α → Array Value) (N : Nat → Prop) (xs : List α) (w0 : World) : Prop :=
  ∀ (l : Nat) (J Jx : List α → (Nat → Prop) → World → Prop) (W : World) (X0 : Nat → Prop), l < W.heap.size → (∀ k, N k → k < W.heap.size ∧ W.heap[k]? = w0.heap[k]?) → (∀ k, N k → ¬ X0 k) →
    (∀ s X A, J s X A → CellsAt X A) → (∀ X, OwnFrom W.heap.size (fun s A => J s X A)) → (∀ X, OwnFrom W.heap.size (fun s A => Jx s X A)) →
    (∀ pre x X A W1, J pre X A → pre ++ [x] <+: xs → Below A.heap.size A W1 → RoundAt P l (encs x) W1 fun e W' =>
      ∃ X', (∀ k, X' k → X k ∨ W1.heap.size ≤ k) ∧ ((e = .returned (.bool true) ∧ J (pre ++ [x]) X' W' ∧ KeptX X W1 W') ∨ (e = .returned (.bool false) ∧ Jx (pre ++ [x]) X' W' ∧ KeptB W.heap.size X W1 W'))) →
    J [] X0 W →
    CallsIn Fence.wide 9 P gf (#[.func (.yield l) #[] #[]] ++ lb) W fun e W' => (∃ v, e = .returned v) ∧ ∃ X', (J xs X' W' ∨ ∃ pre, pre <+: xs ∧ Jx pre X' W')

/-- HOW THE BODY OF A ROUND MAY BE LEFT -/
def postX {α : Type} (M : Nat) (I : List α → (Nat → Prop) → World → Prop) (Ix : Code → List α → (Nat → Prop) → World → Prop) (ys : List α) (X : Nat → Prop) (W2 : World) : Exit → Act → World → Prop
  | .normal, _, W' => ∃ X', (∀ k, X' k → X k ∨ W2.heap.size ≤ k) ∧ KeptX X W2 W' ∧ I ys X' W'
  | .ret, _, W' => ∃ X', (∀ k, X' k → X k ∨ W2.heap.size ≤ k) ∧ KeptB M X W2 W' ∧ Ix .ret ys X' W'
  | .exit id, _, W' => ∃ X', (∀ k, X' k → X k ∨ W2.heap.size ≤ k) ∧ KeptB M X W2 W' ∧ Ix (.exit id) ys X' W'
  | .goto t, _, W' => ∃ X', (∀ k, X' k → X k ∨ W2.heap.size ≤ k) ∧ KeptB M X W2 W' ∧ Ix (.goto t) ys X' W'
  | .panic _, _, _ => False
  | .outgrown, _, _ => False

theorem range_mine_x {P : Program} {α : Type} {g : Operand} {ps : Array Tmp} {assign body : Code} {Q : Exit → Act → World → Prop} {a : Act} {w : World}
    {gf : Nat} {lb : Array Value} (hg : a.eval g = .func (.func gf) #[] lb) (eg : ∀ args w, (callFunc gf args).run P w = .ok (.enter gf args) w)
    {encs : α → Array Value} {N : Nat → Prop} {xs : List α} {w0 : World} (hgives : GivesX P gf lb encs N xs w0)
    (hN : ∀ k, N k → k < w.heap.size ∧ w.heap[k]? = w0.heap[k]?) (hps : ∀ x, (encs x).size = ps.size)
    (I : List α → (Nat → Prop) → World → Prop) (Ix : Code → List α → (Nat → Prop) → World → Prop) (X0 : Nat → Prop) (hNX : ∀ k, N k → ¬ X0 k) (hI : ∀ X, OwnFrom w.heap.size (fun s W => I s X W)) (hIx : ∀ c X, OwnFrom w.heap.size (fun s W => Ix c s X W)) (hIc : ∀ s X A, I s X A → CellsAt X A) (h0 : I [] X0 w)
    (hround : ∀ (l : Nat) (pre : List α) (x : α) (W1 : World) (K : Act → World → Prop),
      (∀ a' W1', Below W1.heap.size W1 W1' → (∀ X W0 W2, I pre X W0 → Below W0.heap.size W0 W2 → (∀ b t cs, Bk W1' b t cs → Bk W2 b t cs) → W1'.heap.size ≤ W2.heap.size → pre ++ [x] <+: xs → w.heap.size ≤ W0.heap.size → body.wpIn (Fence.wide.inRound l) 8 P (postX w.heap.size I Ix (pre ++ [x]) X W2) a' W2) → K a' W1') →
      assign.wpIn (Fence.wide.inRound l) 8 P (Exit.then K (fun _ _ _ => False)) { tmps := (ps.zip (encs x)).foldl (fun t (p, v) => t.setIfInBounds p v) a.tmps, defers := [] } W1)
    (hdone : ∀ (D : Nat) (X : Nat → Prop) (W : World), w.heap.size ≤ D → I xs X W → W.heap[D]? = some (.deferred (some [])) → Q .normal { a with defers := { target := .collected D, args := #[] } :: a.defers } W)
    (hstop : ∀ (D : Nat) (c : Code) (pre : List α) (X : Nat → Prop) (W : World), w.heap.size ≤ D → pre <+: xs → Ix c pre X W → W.heap[D]? = some (.deferred (some [])) → c.wpIn Fence.wide 10 P Q { a with defers := { target := .collected D, args := #[] } :: a.defers } W) :
    (Code.rangeFunc g ps assign body).wpIn Fence.wide 10 P Q a w := by
  refine wpIn_rangeFunc ?_
  intro fn hfn
  -- the loop's record, in each of its states
  let rc : LoopState → Option Code → Obj := fun st pe => .loop { state := st, pending := pe, fn, tmps := a.tmps, params := ps, assign, body, defers := w.heap.size }
  let M := w.heap.size
  have hM : w.heap.size = M := rfl
  let W1 := (w.alloc (.deferred (some []))).alloc (rc .ready none)
  have hsz : W1.heap.size = M + 2 := by show ((w.alloc _).alloc _).heap.size = _; simp [hM]
  have hbel : Below M w W1 := ((Below.refl _ w).alloc (Nat.le_refl _) _).alloc (by simp [hM]) _
  have hL1 : W1.heap[M + 1]? = some (rc .ready none) := by
    have := World.alloc_heap_new (w.alloc (.deferred (some []))) (rc .ready none)
    rwa [World.size_alloc] at this
  have hD1 : W1.heap[M]? = some (.deferred (some [])) := (Below.heap_alloc _ _ _ (by simp [hM])).trans (World.alloc_heap_new w _)
  refine ⟨M + 1, [{ target := .collected M, args := #[] }], W1, { target := .fn (.func gf) lb, args := #[.func (.yield (M + 1)) #[] #[]] }, W1, gf,
    #[.func (.yield (M + 1)) #[] #[]] ++ lb, W1, run_enterLoop_outer _ _ _ _ _, ?_, fun _ _ => trivial, ?_, fun _ => by omega, ?_⟩
  · simp only [resolve, hg]; simp [go_sem]
  · simp [invoke, go_sem, eg]
  have hX0c := hIc _ _ _ h0
  refine (hgives (M + 1)
    (fun pre X W => I pre X W ∧ W.heap[M + 1]? = some (rc .ready none) ∧ W.heap[M]? = some (.deferred (some [])))
    (fun pre X W => ∃ c, Ix c pre X W ∧ W.heap[M + 1]? = some (rc .done (some c)) ∧ W.heap[M]? = some (.deferred (some [])))
    W1 X0 (by omega) (fun k hk => ⟨by have := (hN k hk).1; omega, (hbel.block k (hN k hk).1).trans (hN k hk).2⟩) hNX
    (fun s X A h => hIc s X A h.1)
    (fun X s A B row ⟨h1, h2, h3⟩ hg hr => ⟨hI X s A B row h1 hg (fun r e => ⟨by have := (hr r e).1; omega, (hr r e).2⟩), (hg.block _ (def_lt' h2) (fun e => by have := (hr _ e.symm).1; omega)).trans h2, (hg.block _ (def_lt' h3) (fun e => by have := (hr _ e.symm).1; omega)).trans h3⟩)
    (fun X s A B row ⟨c, h1, h2, h3⟩ hg hr => ⟨c, hIx c X s A B row h1 hg (fun r e => ⟨by have := (hr r e).1; omega, (hr r e).2⟩), (hg.block _ (def_lt' h2) (fun e => by have := (hr _ e.symm).1; omega)).trans h2, (hg.block _ (def_lt' h3) (fun e => by have := (hr _ e.symm).1; omega)).trans h3⟩)
    ?_ ⟨ownFrom_ext (hI X0) h0 hbel, hL1, hD1⟩).mono ?_
  · -- one round
    rintro pre x X A B ⟨hi, hl, hd⟩ hpre hAB
    have hlA := def_lt' hl
    have hlB : B.heap[M + 1]? = some (rc .ready none) := (hAB.block _ hlA).trans hl
    have hdB : B.heap[M]? = some (.deferred (some [])) := (hAB.block _ (by omega)).trans hd
    have hcl : ¬ X (M + 1) := fun h => by obtain ⟨o, h1, h2⟩ := hIc _ _ _ hi _ h; rw [hl] at h1; injection h1 with h1; subst h1; cases h2
    have hcd : ¬ X M := fun h => by obtain ⟨o, h1, h2⟩ := hIc _ _ _ hi _ h; rw [hd] at h1; injection h1 with h1; subst h1; cases h2
    refine ⟨fn, _, assign, body, run_yield (P := P) (args := encs x) hlB (by exact hps x), roundIn_of_wpIn trivial (hround (M + 1) pre x B _ ?_)⟩
    intro a' B1 hB1 hbody
    have hAB1 : Below A.heap.size A B1 := hAB.trans (hB1.mono hAB.size)
    have hlB1 : B1.heap[M + 1]? = some (rc .ready none) := (hAB1.block _ hlA).trans hl
    have hdB1 : B1.heap[M]? = some (.deferred (some [])) := (hAB1.block _ (by omega)).trans hd
    refine ⟨_, run_beginRound hlB1 rfl, ?_⟩
    let A0 := A.putObj (M + 1) (rc .busy none)
    let B2 := B1.putObj (M + 1) (rc .busy none)
    have hi0 : I pre X A0 := (hI X).putObj _ hi (by omega) hl rfl
    have hA0 : A0.heap.size = A.heap.size := World.putObj_size
    have hB2 : B2.heap.size = B1.heap.size := World.putObj_size
    have hB12 := hB1.size
    have hext : Below A0.heap.size A0 B2 := by
      refine ⟨hAB1.os, hAB1.tape, hAB1.output, by rw [hA0, hB2]; exact hAB1.size, fun k hk => ?_⟩
      rw [hA0] at hk
      by_cases e : k = M + 1
      · subst e
        rw [World.putObj_heap_same (by have := hAB1.size; omega), World.putObj_heap_same hlA]
      · rw [World.putObj_heap_other e, World.putObj_heap_other e]
        exact hAB1.block k hk
    have hl2 : B2.heap[M + 1]? = some (rc .busy none) := World.putObj_heap_same (by have := hAB1.size; omega)
    have hd2 : B2.heap[M]? = some (.deferred (some [])) := (World.putObj_heap_other (by omega)).trans hdB1
    have hbks : ∀ b t cs, Bk B1 b t cs → Bk B2 b t cs := fun b t cs hb => (World.putObj_heap_other (fun e => by
      subst e
      have h1 : B1.heap[M + 1]? = some (.cells cs t (0, 0)) := hb
      rw [hlB1] at h1
      cases h1)).trans hb
    refine wpIn_mono (hbody X A0 B2 hi0 hext hbks (by omega) hpre (by rw [hA0]; omega)) ?_
    have fin : ∀ (jump : Option Code) (C : World), KeptB M X B2 C →
        (Instr.endRound (M + 1) jump).run P C = .ok (.bool jump.isNone) (C.putObj (M + 1) (rc (if jump.isNone then .ready else .done) jump)) ∧ C.heap[M + 1]? = some (rc .busy none) ∧
        (C.putObj (M + 1) (rc (if jump.isNone then .ready else .done) jump)).heap[M + 1]? = some (rc (if jump.isNone then .ready else .done) jump) ∧
        (C.putObj (M + 1) (rc (if jump.isNone then .ready else .done) jump)).heap[M]? = some (.deferred (some [])) := fun jump C hk => by
      have h1 := (hk.2 _ (by omega) (def_lt' hl2) hcl).trans hl2
      exact ⟨run_endRound (P := P) jump h1, h1, World.putObj_heap_same (def_lt' h1), (World.putObj_heap_other (by omega)).trans ((hk.2 _ (Nat.le_refl _) (def_lt' hd2) hcd).trans hd2)⟩
    have hnew : ∀ (X' : Nat → Prop), (∀ k, X' k → X k ∨ B2.heap.size ≤ k) → ∀ k, X' k → X k ∨ B.heap.size ≤ k := fun X' h k hk => by
      rcases h k hk with h | h
      · exact .inl h
      · exact .inr (by omega)
    have hbut : ∀ (C : World) (o : Obj), KeptB M X B2 C → KeptB W1.heap.size X B (C.putObj (M + 1) o) := fun C o hk => ⟨by rw [World.putObj_size]; have := hk.1; omega, fun k h1 h2 h3 => by
      rw [World.putObj_heap_other (by omega), hk.2 k (by omega) (by omega) h3, World.putObj_heap_other (by omega), hB1.block k h2]⟩
    rintro e a3 C hp
    cases e with
    | normal =>
      obtain ⟨X', hx, hk, hi3⟩ := hp
      obtain ⟨hr, h1, h2, h3⟩ := fin none C (hk.from M)
      refine ⟨_, _, hr, X', hnew X' hx, .inl ⟨rfl, ⟨(hI X').putObj _ hi3 (by omega) h1 rfl, h2, h3⟩, by rw [World.putObj_size]; have := hk.1; omega, fun k hk1 hk2 => ?_⟩⟩
      by_cases e : k = M + 1
      · subst e
        rw [h2, hlB]
        rfl
      · rw [World.putObj_heap_other e, hk.2 k (by omega) hk2, World.putObj_heap_other e, hB1.block k hk1]
    | ret =>
      obtain ⟨X', hx, hk, hi3⟩ := hp
      obtain ⟨hr, h1, h2, h3⟩ := fin (some .ret) C hk
      exact ⟨_, _, hr, X', hnew X' hx, .inr ⟨rfl, ⟨.ret, (hIx _ X').putObj _ hi3 (by omega) h1 rfl, h2, h3⟩, hbut C _ hk⟩⟩
    | exit id =>
      obtain ⟨X', hx, hk, hi3⟩ := hp
      obtain ⟨hr, h1, h2, h3⟩ := fin (some (.exit id)) C hk
      exact ⟨_, _, hr, X', hnew X' hx, .inr ⟨rfl, ⟨.exit id, (hIx _ X').putObj _ hi3 (by omega) h1 rfl, h2, h3⟩, hbut C _ hk⟩⟩
    | goto t =>
      obtain ⟨X', hx, hk, hi3⟩ := hp
      obtain ⟨hr, h1, h2, h3⟩ := fin (some (.goto t)) C hk
      exact ⟨_, _, hr, X', hnew X' hx, .inr ⟨rfl, ⟨.goto t, (hIx _ X').putObj _ hi3 (by omega) h1 rfl, h2, h3⟩, hbut C _ hk⟩⟩
    | panic ch => exact hp.elim
    | outgrown => exact hp.elim
  · rintro e C ⟨⟨v, rfl⟩, X', (⟨hi, hl, hd⟩ | ⟨pre, hpre, c, hi, hl, hd⟩)⟩
    · exact ⟨none, _, run_endLoop (P := P) hl (by simp), hdone M X' _ (Nat.le_refl _) ((hI X').putObj _ hi (by omega) hl rfl) ((World.putObj_heap_other (by omega)).trans hd)⟩
    · exact ⟨some c, _, run_endLoop (P := P) hl (by simp), hstop M c pre X' _ (Nat.le_refl _) hpre ((hIx c X').putObj _ hi (by omega) hl rfl) ((World.putObj_heap_other (by omega)).trans hd)⟩
end Go.Proofs.Ytmacfoebfpljoaa
