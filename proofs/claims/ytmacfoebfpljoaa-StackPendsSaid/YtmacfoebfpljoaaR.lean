/- a range over a function: the law in my own words, at the wide fence -/
import Derived.Test.YtmacfoebfpljoaaU
import Derived.RangeFuncNested
import Derived.RangeFuncBound
import Derived.RangeFuncCalls
import Derived.RangeFuncLeaves
import Derived.RangeFuncBox
import Derived.Shelf.Abstract
import Derived.Shelf.RegionOpen
import Derived.OwnWalkIn
import Derived.TacticsInMore
import Derived.LoopNIn
import Derived.LoopIn
namespace Go.Proofs.Ytmacfoebfpljoaa
open Go.RowKit

theorem def_lt' {W : World} {D : Nat} {o : Obj} (h : W.heap[D]? = some o) : D < W.heap.size := (Array.getElem?_eq_some_iff.1 h).1

/-- the blocks from a to b read alike -/
def Mid (a b : Nat) (W W' : World) : Prop := ∀ k, a ≤ k → k < b → W'.heap[k]? = W.heap[k]?
theorem Mid.refl (a b : Nat) (W : World) : Mid a b W W := fun _ _ _ => rfl
theorem Mid.of_below {a b : Nat} {W W' : World} (h : Below b W W') : Mid a b W W' := fun k _ hk => h.block k hk
theorem Mid.trans {a b : Nat} {W1 W2 W3 : World} (h : Mid a b W1 W2) (k : Mid a b W2 W3) : Mid a b W1 W3 := fun i h1 h2 => (k i h1 h2).trans (h i h1 h2)

/-- a round of loop l, called at 'args' in W -/
abbrev RoundAt (P : Program) (l : Nat) (args : Array Value) (W : World) (R : Ending → World → Prop) : Prop := YieldAt Fence.wide 8 P l args W R

/-- AN ITERATOR's CONTRACT: function gf at what it has captured, lb, gives xs in order, or a beginning of it. Between two rounds it may make blocks of its own (W1 over W); the round keeps these and what lies below n₀. -/
def Gives {α : Type} (P : Program) (gf : Nat) (lb : Array Value) (encs : α → Array Value) (n₀ : Nat) (xs : List α) (w0 : World) : Prop :=
  ∀ (l : Nat) (J Jx : List α → World → Prop) (W : World), Below w0.heap.size w0 W → (∀ s A B, J s A → Below A.heap.size A B → J s B) → (∀ s A B, Jx s A → Below A.heap.size A B → Jx s B) →
    (∀ pre x A W1, J pre A → pre ++ [x] <+: xs → Below A.heap.size A W1 → RoundAt P l (encs x) W1 fun e W' =>
      (e = .returned (.bool true) ∧ J (pre ++ [x]) W' ∧ Below n₀ W1 W' ∧ Mid A.heap.size W1.heap.size W1 W') ∨ (e = .returned (.bool false) ∧ Jx (pre ++ [x]) W')) →
    J [] W →
    CallsIn Fence.wide 9 P gf (#[.func (.yield l) #[] #[]] ++ lb) W fun e W' => (∃ v, e = .returned v) ∧ (J xs W' ∨ ∃ pre, pre <+: xs ∧ Jx pre W')

/-- HOW THE BODY OF A ROUND MAY BE LEFT -/
def postR {α : Type} (M n₀ : Nat) (I : List α → World → Prop) (Ix : Code → List α → World → Prop) (ys : List α) (W0 W2 : World) : Exit → Act → World → Prop
  | .normal, _, W' => KeepsFrom M W2 W' ∧ Below n₀ W2 W' ∧ Mid W0.heap.size W2.heap.size W2 W' ∧ I ys W'
  | .ret, _, W' => KeepsFrom M W2 W' ∧ Ix .ret ys W'
  | .exit id, _, W' => KeepsFrom M W2 W' ∧ Ix (.exit id) ys W'
  | .goto t, _, W' => KeepsFrom M W2 W' ∧ Ix (.goto t) ys W'
  | .panic _, _, _ => False
  | .outgrown, _, _ => False

theorem ownFrom_ext {β : Type} {M : Nat} {I : β → World → Prop} (h : OwnFrom M I) {s : β} {A B : World} (hs : I s A) (hb : Below A.heap.size A B) : I s B :=
  h s A B none hs (gr_of_below hb) (fun r e => by cases e)
theorem below_putObj {W : World} {l B : Nat} {o : Obj} (hl : B ≤ l) : Below B W (W.putObj l o) :=
  ⟨rfl, rfl, rfl, by simp, fun k hk => World.putObj_heap_other (by omega)⟩

theorem range_mine {P : Program} {α : Type} {g : Operand} {ps : Array Tmp} {assign body : Code} {Q : Exit → Act → World → Prop} {a : Act} {w : World}
    {gf : Nat} {lb : Array Value} (hg : a.eval g = .func (.func gf) #[] lb) (eg : ∀ args w, (callFunc gf args).run P w = .ok (.enter gf args) w)
    {encs : α → Array Value} {n₀ : Nat} {xs : List α} {w0 : World} (hgives : Gives P gf lb encs n₀ xs w0)
    (hb0 : Below w0.heap.size w0 w) (hn₀ : n₀ ≤ w.heap.size) (hps : ∀ x, (encs x).size = ps.size)
    (I : List α → World → Prop) (Ix : Code → List α → World → Prop) (hI : OwnFrom w.heap.size I) (hIx : ∀ c, OwnFrom w.heap.size (Ix c)) (h0 : I [] w)
    (hround : ∀ (l : Nat) (pre : List α) (x : α) (W1 : World) (K : Act → World → Prop),
      (∀ a', (∀ W0 W2, I pre W0 → Below W0.heap.size W0 W2 → pre ++ [x] <+: xs → w.heap.size ≤ W0.heap.size → body.wpIn (Fence.wide.inRound l) 8 P (postR w.heap.size n₀ I Ix (pre ++ [x]) W0 W2) a' W2) → K a' W1) →
      assign.wpIn (Fence.wide.inRound l) 8 P (Exit.then K (fun _ _ _ => False)) { tmps := (ps.zip (encs x)).foldl (fun t (p, v) => t.setIfInBounds p v) a.tmps, defers := [] } W1)
    (hdone : ∀ (D : Nat) (W : World), w.heap.size ≤ D → I xs W → W.heap[D]? = some (.deferred (some [])) → Q .normal { a with defers := { target := .collected D, args := #[] } :: a.defers } W)
    (hstop : ∀ (D : Nat) (c : Code) (pre : List α) (W : World), w.heap.size ≤ D → pre <+: xs → Ix c pre W → W.heap[D]? = some (.deferred (some [])) → c.wpIn Fence.wide 10 P Q { a with defers := { target := .collected D, args := #[] } :: a.defers } W) :
    (Code.rangeFunc g ps assign body).wpIn Fence.wide 10 P Q a w := by
  refine wpIn_rangeFunc ?_
  intro fn hfn
  -- the loop's record, in each of its states
  let rc : LoopState → Option Code → Obj := fun st pe => .loop { state := st, pending := pe, fn, tmps := a.tmps, params := ps, assign, body, defers := w.heap.size }
  let M := w.heap.size
  have hM : w.heap.size = M := rfl
  let W1 := (w.alloc (.deferred (some []))).alloc (rc .ready none)
  have hsz : W1.heap.size = M + 2 := by show ((w.alloc _).alloc _).heap.size = _; simp [hM]
  have hbel : Below M w W1 := ((Below.refl _ w).alloc (Nat.le_refl _) _).alloc (by simp [hM]) _
  have hL1 : W1.heap[M + 1]? = some (rc .ready none) := by
    have := World.alloc_heap_new (w.alloc (.deferred (some []))) (rc .ready none)
    rwa [World.size_alloc] at this
  have hD1 : W1.heap[M]? = some (.deferred (some [])) := (Below.heap_alloc _ _ _ (by simp [hM])).trans (World.alloc_heap_new w _)
  refine ⟨M + 1, [{ target := .collected M, args := #[] }], W1, { target := .fn (.func gf) lb, args := #[.func (.yield (M + 1)) #[] #[]] }, W1, gf,
    #[.func (.yield (M + 1)) #[] #[]] ++ lb, W1, run_enterLoop_outer _ _ _ _ _, ?_, fun _ _ => trivial, ?_, fun _ => by omega, ?_⟩
  · simp only [resolve, hg]; simp [go_sem]
  · simp [invoke, go_sem, eg]
  refine (hgives (M + 1)
    (fun pre W => I pre W ∧ W.heap[M + 1]? = some (rc .ready none) ∧ W.heap[M]? = some (.deferred (some [])))
    (fun pre W => ∃ c, Ix c pre W ∧ W.heap[M + 1]? = some (rc .done (some c)) ∧ W.heap[M]? = some (.deferred (some [])))
    W1 (hb0.trans (hbel.mono hb0.size))
    (fun s A B ⟨h1, h2, h3⟩ hb => ⟨ownFrom_ext hI h1 hb, (hb.block _ (def_lt' h2)).trans h2, (hb.block _ (def_lt' h3)).trans h3⟩)
    (fun s A B ⟨c, h1, h2, h3⟩ hb => ⟨c, ownFrom_ext (hIx c) h1 hb, (hb.block _ (def_lt' h2)).trans h2, (hb.block _ (def_lt' h3)).trans h3⟩)
    ?_ ⟨ownFrom_ext hI h0 hbel, hL1, hD1⟩).mono ?_
  · -- one round
    rintro pre x A B ⟨hi, hl, hd⟩ hpre hAB
    have hlA := def_lt' hl
    have hlB : B.heap[M + 1]? = some (rc .ready none) := (hAB.block _ hlA).trans hl
    have hdB : B.heap[M]? = some (.deferred (some [])) := (hAB.block _ (by omega)).trans hd
    refine ⟨fn, _, assign, body, run_yield (P := P) (args := encs x) hlB (by exact hps x), roundIn_of_wpIn trivial (hround (M + 1) pre x B _ ?_)⟩
    intro a' hbody
    refine ⟨_, run_beginRound hlB rfl, ?_⟩
    let A0 := A.putObj (M + 1) (rc .busy none)
    let B2 := B.putObj (M + 1) (rc .busy none)
    have hi0 : I pre A0 := hI.putObj _ hi (by omega) hl rfl
    have hA0 : A0.heap.size = A.heap.size := World.putObj_size
    have hB2 : B2.heap.size = B.heap.size := World.putObj_size
    have hext : Below A0.heap.size A0 B2 := by
      refine ⟨hAB.os, hAB.tape, hAB.output, by rw [hA0, hB2]; exact hAB.size, fun k hk => ?_⟩
      rw [hA0] at hk
      by_cases e : k = M + 1
      · subst e
        rw [World.putObj_heap_same (by have := hAB.size; omega), World.putObj_heap_same hlA]
      · rw [World.putObj_heap_other e, World.putObj_heap_other e]
        exact hAB.block k hk
    have hl2 : B2.heap[M + 1]? = some (rc .busy none) := World.putObj_heap_same (by have := hAB.size; omega)
    have hd2 : B2.heap[M]? = some (.deferred (some [])) := (World.putObj_heap_other (by omega)).trans hdB
    refine wpIn_mono (hbody A0 B2 hi0 hext hpre (by rw [hA0]; omega)) ?_
    have fin : ∀ (jump : Option Code) (C : World), KeepsFrom M B2 C →
        (Instr.endRound (M + 1) jump).run P C = .ok (.bool jump.isNone) (C.putObj (M + 1) (rc (if jump.isNone then .ready else .done) jump)) ∧ C.heap[M + 1]? = some (rc .busy none) ∧
        (C.putObj (M + 1) (rc (if jump.isNone then .ready else .done) jump)).heap[M + 1]? = some (rc (if jump.isNone then .ready else .done) jump) ∧
        (C.putObj (M + 1) (rc (if jump.isNone then .ready else .done) jump)).heap[M]? = some (.deferred (some [])) := fun jump C hk => by
      have h1 := hk.same _ _ (by omega) hl2 rfl
      exact ⟨run_endRound (P := P) jump h1, h1, World.putObj_heap_same (def_lt' h1), (World.putObj_heap_other (by omega)).trans (hk.same _ _ (Nat.le_refl _) hd2 rfl)⟩
    rintro e a3 C hp
    cases e with
    | normal =>
      obtain ⟨hk, hb, hm, hi3⟩ := hp
      obtain ⟨hr, h1, h2, h3⟩ := fin none C hk
      refine ⟨_, _, hr, .inl ⟨rfl, ⟨hI.putObj _ hi3 (by omega) h1 rfl, h2, h3⟩, ?_, ?_⟩⟩
      · have b1 : Below n₀ B B2 := below_putObj (by omega)
        exact (b1.trans hb).trans (below_putObj (by omega))
      · intro k hk1 hk2
        rw [World.putObj_heap_other (by omega), hm k (by rw [hA0]; exact hk1) (by rw [hB2]; exact hk2), World.putObj_heap_other (by omega)]
    | ret =>
      obtain ⟨hk, hi3⟩ := hp
      obtain ⟨hr, h1, h2, h3⟩ := fin (some .ret) C hk
      exact ⟨_, _, hr, .inr ⟨rfl, .ret, (hIx _).putObj _ hi3 (by omega) h1 rfl, h2, h3⟩⟩
    | exit id =>
      obtain ⟨hk, hi3⟩ := hp
      obtain ⟨hr, h1, h2, h3⟩ := fin (some (.exit id)) C hk
      exact ⟨_, _, hr, .inr ⟨rfl, .exit id, (hIx _).putObj _ hi3 (by omega) h1 rfl, h2, h3⟩⟩
    | goto t =>
      obtain ⟨hk, hi3⟩ := hp
      obtain ⟨hr, h1, h2, h3⟩ := fin (some (.goto t)) C hk
      exact ⟨_, _, hr, .inr ⟨rfl, .goto t, (hIx _).putObj _ hi3 (by omega) h1 rfl, h2, h3⟩⟩
    | panic ch => exact hp.elim
    | outgrown => exact hp.elim
  · rintro e C ⟨⟨v, rfl⟩, (⟨hi, hl, hd⟩ | ⟨pre, hpre, c, hi, hl, hd⟩)⟩
    · exact ⟨none, _, run_endLoop (P := P) hl (by simp), hdone M _ (Nat.le_refl _) (hI.putObj _ hi (by omega) hl rfl) ((World.putObj_heap_other (by omega)).trans hd)⟩
    · exact ⟨some c, _, run_endLoop (P := P) hl (by simp), hstop M c pre _ (Nat.le_refl _) hpre ((hIx c).putObj _ hi (by omega) hl rfl) ((World.putObj_heap_other (by omega)).trans hd)⟩

/-- a contract in a round -/
theorem in_round {P : Program} {f : FuncId} {args : Array Value} {w : World} {R : Ending → World → Prop} (l n : Nat) (h : Calls P f args w R) : CallsIn (Fence.wide.inRound l) n P f args w R :=
  CallsIn.inRound l (callsIn_wide.2 h)
/-- a box that the iterator made ahead of the round reads as it did -/
theorem cells_mid {A W3 : World} {cs : Array Value} {t : TypeId} (h : Mid A.heap.size (A.alloc (.cells cs t)).heap.size (A.alloc (.cells cs t)) W3) {i : Nat} : W3.cell? ⟨A.heap.size, i, none⟩ = cs[i]? :=
  cell_of_row W3 _ _ cs t (0, 0) ((h A.heap.size (Nat.le_refl _) (by simp)).trans (heap_alloc_new A _))
/-- a block known whole -/
abbrev Bk (W : World) (b : Nat) (t : TypeId) (cs : Array Value) : Prop := W.heap[b]? = some (.cells cs t (0, 0))
section kept
variable {A B w : World} {row : Option Nat} {M : Nat}
abbrev Turns (M : Nat) (A : World) (row : Option Nat) : Prop := ∀ r, row = some r → M ≤ r ∧ ∃ o : Obj, A.heap[r]? = some o ∧ o.isCells = false
theorem blk_kept {b : Nat} {t : TypeId} {cs : Array Value} (h : Bk A b t cs) (hg : A.grownBy B row) (hr : Turns M A row) : Bk B b t cs := by
  refine (hg.block b (def_lt' h) (fun e => ?_)).trans h
  obtain ⟨_, o, ho, hc⟩ := hr b e.symm
  have h' : A.heap[b]? = some (.cells cs t (0, 0)) := h
  rw [h'] at ho
  cases ho
  cases hc
theorem below_kept {B0 : Nat} (h : Below B0 w A) (hw : B0 ≤ w.heap.size) (hM : B0 ≤ M) (hg : A.grownBy B row) (hr : Turns M A row) : Below B0 w B :=
  h.grown hg (Nat.le_trans hw h.size) (fun k e => Nat.le_trans hM (hr k e).1)
theorem own_kept {base : Nat} {e : TypeId} {size : Nat} {v : Value} {n : Nat} {xs : List Value} (h : A.ownsRow base e size v n xs) (hg : A.grownBy B row) (hr : Turns M A row) : B.ownsRow base e size v n xs := by
  obtain ⟨h1, h2⟩ := h
  refine ⟨h1, ?_⟩
  rcases h2 with h2 | ⟨g, cap, cur, hv, hb, hh, r⟩
  · exact .inl h2
  · exact .inr ⟨g, cap, cur, hv, hb, blk_kept (cs := cur) hh hg hr, r⟩
end kept
theorem Bk.cell {W : World} {b : Nat} {t : TypeId} {cs : Array Value} (h : Bk W b t cs) (i : Nat) : W.cell? ⟨b, i, none⟩ = cs[i]? := cell_of_row W b i cs t (0, 0) h
theorem Bk.frozen {W : World} {b : Nat} {t : TypeId} {cs : Array Value} (h : Bk W b t cs) (i : Nat) : W.frozen? ⟨b, i, none⟩ = false := by
  have h' : W.heap[b]? = some (.cells cs t (0, 0)) := h
  simp [World.frozen?, h']
theorem Bk.new (W : World) (t : TypeId) (cs : Array Value) : Bk (W.alloc (.cells cs t)) W.heap.size t cs := heap_alloc_new W _
theorem Bk.alloc {W : World} {b : Nat} {t : TypeId} {cs : Array Value} (h : Bk W b t cs) (o : Obj) : Bk (W.alloc o) b t cs := (Below.heap_alloc W o b (def_lt' h)).trans h
theorem Bk.drew {W : World} {b : Nat} {t : TypeId} {cs : Array Value} (h : Bk W b t cs) : Bk W.drew b t cs := h
theorem Bk.drewN {W : World} {b : Nat} {t : TypeId} {cs : Array Value} (h : Bk W b t cs) (n : Nat) : Bk (W.drewN n) b t cs := h
theorem Bk.ext {W W' : World} {b : Nat} {t : TypeId} {cs : Array Value} (h : Bk W b t cs) (hb : Below W.heap.size W W') : Bk W' b t cs := (hb.block b (def_lt' h)).trans h
theorem Bk.set_ {W : World} {b : Nat} {t : TypeId} {cs : Array Value} (h : Bk W b t cs) (i : Nat) (u : Value) : Bk (W.setCell ⟨b, i, none⟩ u) b t (cs.setIfInBounds i u) := by
  have h' : W.heap[b]? = some (.cells cs t (0, 0)) := h
  show (W.setCell _ u).heap[b]? = _
  simp [World.setCell, Array.getElem?_modify, h']
theorem Bk.far {W : World} {b : Nat} {t : TypeId} {cs : Array Value} (h : Bk W b t cs) {p : Addr} (hp : b ≠ p.block) (u : Value) : Bk (W.setCell p u) b t cs := (Below.heap_setCell W p u b hp).trans h
theorem Bk.grown {W W' : World} {b : Nat} {t : TypeId} {cs : Array Value} {row : Option Nat} (h : Bk W b t cs) (hg : W.grownBy W' row) (hne : row ≠ some b) : Bk W' b t cs := (hg.block b (def_lt' h) (fun e => hne e.symm)).trans h
theorem Mid.set_ {a b : Nat} {W W' : World} (h : Mid a b W W') {p : Addr} (hp : p.block < a) (u : Value) : Mid a b W (W'.setCell p u) := fun k h1 h2 => (Below.heap_setCell W' p u k (by omega)).trans (h k h1 h2)
theorem Mid.alloc {a b : Nat} {W W' : World} (h : Mid a b W W') (hb : b ≤ W'.heap.size) (o : Obj) : Mid a b W (W'.alloc o) := fun k h1 h2 => (Below.heap_alloc W' o k (by omega)).trans (h k h1 h2)
theorem Mid.drew {a b : Nat} {W W' : World} (h : Mid a b W W') : Mid a b W W'.drew := h
theorem Mid.keeps {a : Nat} {W W' : World} (h : Mid a W.heap.size W W') (hs : W.heap.size ≤ W'.heap.size) : KeepsFrom a W W' := ⟨hs, fun k _ h1 h2 _ => (h k h1 (def_lt' h2)).trans h2⟩
theorem Mid.of_full (a : Nat) {W W' : World} (h : Below W.heap.size W W') : Mid a W.heap.size W W' := fun k _ h2 => h.block k h2
end Go.Proofs.Ytmacfoebfpljoaa
