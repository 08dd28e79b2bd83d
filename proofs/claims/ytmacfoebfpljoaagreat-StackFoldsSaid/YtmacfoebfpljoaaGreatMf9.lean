/- merged texts: Rx Sc Ccp Se -/
import Derived.Test.YtmacfoebfpljoaaGreatMf1
import Derived.Test.YtmacfoebfpljoaaGreatMf8
import Derived.Maps.OwnIn
import Derived.Test.YtmacfoebfpljoaaGreatMf3
namespace Go.Proofs.YtmacfoebfpljoaaGreat
open Go.RowKit
/-- these blocks hold cells -/
def CellsAt (X : Nat → Prop) (A : World) : Prop := ∀ k, X k → ∃ o, A.heap[k]? = some o ∧ o.isCells = true
/-- all but these blocks lie as they lay -/
def KeptX (X : Nat → Prop) (W W' : World) : Prop := W.heap.size ≤ W'.heap.size ∧ ∀ k, k < W.heap.size → ¬ X k → W'.heap[k]? = W.heap[k]?
def KeptB (b : Nat) (X : Nat → Prop) (W W' : World) : Prop := W.heap.size ≤ W'.heap.size ∧ ∀ k, b ≤ k → k < W.heap.size → ¬ X k → W'.heap[k]? = W.heap[k]?
theorem KeptX.from {X : Nat → Prop} {W W' : World} (h : KeptX X W W') (b : Nat) : KeptB b X W W' := ⟨h.1, fun k _ h1 h2 => h.2 k h1 h2⟩
/-- AN ITERATOR's CONTRACT: function gf at what it has captured, lb, gives xs in order, or a beginning of it. It leans on the blocks N; the rounds write blocks X of their own, and new ones. -/
def GivesX {α : Type} (P : Program) (gf : Nat) (lb : Array Value) (encs : α → Array Value) (N : Nat → Prop) (xs : List α) (w0 : World) : Prop :=
  ∀ (l : Nat) (J Jx : List α → (Nat → Prop) → World → Prop) (W : World) (X0 : Nat → Prop), l < W.heap.size → (∀ k, N k → k < W.heap.size ∧ W.heap[k]? = w0.heap[k]?) → (∀ k, N k → ¬ X0 k) →
    (∀ s X A, J s X A → CellsAt X A) → (∀ X, OwnFrom W.heap.size (fun s A => J s X A)) → (∀ X, OwnFrom W.heap.size (fun s A => Jx s X A)) →
    (∀ pre x X A W1, J pre X A → pre ++ [x] <+: xs → Below A.heap.size A W1 → RoundAt P l (encs x) W1 fun e W' =>
      ∃ X', (∀ k, X' k → X k ∨ W1.heap.size ≤ k) ∧ ((e = .returned (.bool true) ∧ J (pre ++ [x]) X' W' ∧ KeptX X W1 W') ∨ (e = .returned (.bool false) ∧ Jx (pre ++ [x]) X' W' ∧ KeptB W.heap.size X W1 W'))) →
    J [] X0 W →
    CallsIn Fence.wide 9 P gf (#[.func (.yield l) #[] #[]] ++ lb) W fun e W' => (∃ v, e = .returned v) ∧ ∃ X', (J xs X' W' ∨ ∃ pre, pre <+: xs ∧ Jx pre X' W')
/-- HOW THE BODY OF A ROUND MAY BE LEFT -/
def postX {α : Type} (M : Nat) (I : List α → (Nat → Prop) → World → Prop) (Ix : Code → List α → (Nat → Prop) → World → Prop) (ys : List α) (X : Nat → Prop) (W2 : World) : Exit → Act → World → Prop
  | .normal, _, W' => ∃ X', (∀ k, X' k → X k ∨ W2.heap.size ≤ k) ∧ KeptX X W2 W' ∧ I ys X' W'
  | .ret, _, W' => ∃ X', (∀ k, X' k → X k ∨ W2.heap.size ≤ k) ∧ KeptB M X W2 W' ∧ Ix .ret ys X' W'
  | .exit id, _, W' => ∃ X', (∀ k, X' k → X k ∨ W2.heap.size ≤ k) ∧ KeptB M X W2 W' ∧ Ix (.exit id) ys X' W'
  | .goto t, _, W' => ∃ X', (∀ k, X' k → X k ∨ W2.heap.size ≤ k) ∧ KeptB M X W2 W' ∧ Ix (.goto t) ys X' W'
  | .panic _, _, _ => False
  | .outgrown, _, _ => False
theorem range_mine_x {P : Program} {α : Type} {g : Operand} {ps : Array Tmp} {assign body : Code} {Q : Exit → Act → World → Prop} {a : Act} {w : World}
    {gf : Nat} {lb : Array Value} (hg : a.eval g = .func (.func gf) #[] lb) (eg : ∀ args w, (callFunc gf args).run P w = .ok (.enter gf args) w)
    {encs : α → Array Value} {N : Nat → Prop} {xs : List α} {w0 : World} (hgives : GivesX P gf lb encs N xs w0)
    (hN : ∀ k, N k → k < w.heap.size ∧ w.heap[k]? = w0.heap[k]?) (hps : ∀ x, (encs x).size = ps.size)
    (I : List α → (Nat → Prop) → World → Prop) (Ix : Code → List α → (Nat → Prop) → World → Prop) (X0 : Nat → Prop) (hNX : ∀ k, N k → ¬ X0 k) (hI : ∀ X, OwnFrom w.heap.size (fun s W => I s X W)) (hIx : ∀ c X, OwnFrom w.heap.size (fun s W => Ix c s X W)) (hIc : ∀ s X A, I s X A → CellsAt X A) (h0 : I [] X0 w)
    (hround : ∀ (l : Nat) (pre : List α) (x : α) (W1 : World) (K : Act → World → Prop),
      (∀ a' W1', Below W1.heap.size W1 W1' → (∀ X W0 W2, I pre X W0 → Below W0.heap.size W0 W2 → (∀ b t cs, Bk W1' b t cs → Bk W2 b t cs) → W1'.heap.size ≤ W2.heap.size → pre ++ [x] <+: xs → w.heap.size ≤ W0.heap.size → body.wpIn (Fence.wide.inRound l) 8 P (postX w.heap.size I Ix (pre ++ [x]) X W2) a' W2) → K a' W1') →
      assign.wpIn (Fence.wide.inRound l) 8 P (Exit.then K (fun _ _ _ => False)) { tmps := (ps.zip (encs x)).foldl (fun t (p, v) => t.setIfInBounds p v) a.tmps, defers := [] } W1)
    (hdone : ∀ (D : Nat) (X : Nat → Prop) (W : World), w.heap.size ≤ D → I xs X W → W.heap[D]? = some (.deferred (some [])) → Q .normal { a with defers := { target := .collected D, args := #[] } :: a.defers } W)
    (hstop : ∀ (D : Nat) (c : Code) (pre : List α) (X : Nat → Prop) (W : World), w.heap.size ≤ D → pre <+: xs → Ix c pre X W → W.heap[D]? = some (.deferred (some [])) → c.wpIn Fence.wide 10 P Q { a with defers := { target := .collected D, args := #[] } :: a.defers } W) :
    (Code.rangeFunc g ps assign body).wpIn Fence.wide 10 P Q a w := by
  refine wpIn_rangeFunc ?_
  intro fn hfn
  -- the loop's record, in each of its states
  let rc : LoopState → Option Code → Obj := fun st pe => .loop { state := st, pending := pe, fn, tmps := a.tmps, params := ps, assign, body, defers := w.heap.size }
  let M := w.heap.size
  have hM : w.heap.size = M := rfl
  let W1 := (w.alloc (.deferred (some []))).alloc (rc .ready none)
  have hsz : W1.heap.size = M + 2 := by show ((w.alloc _).alloc _).heap.size = _; simp [hM]
  have hbel : Below M w W1 := ((Below.refl _ w).alloc (Nat.le_refl _) _).alloc (by simp [hM]) _
  have hL1 : W1.heap[M + 1]? = some (rc .ready none) := by
    have := World.alloc_heap_new (w.alloc (.deferred (some []))) (rc .ready none)
    rwa [World.size_alloc] at this
  have hD1 : W1.heap[M]? = some (.deferred (some [])) := (Below.heap_alloc _ _ _ (by simp [hM])).trans (World.alloc_heap_new w _)
  refine ⟨M + 1, [{ target := .collected M, args := #[] }], W1, { target := .fn (.func gf) lb, args := #[.func (.yield (M + 1)) #[] #[]] }, W1, gf,
    #[.func (.yield (M + 1)) #[] #[]] ++ lb, W1, run_enterLoop_outer _ _ _ _ _, ?_, fun _ _ => trivial, ?_, fun _ => by omega, ?_⟩
  · simp only [resolve, hg]; simp [go_sem]
  · simp [invoke, go_sem, eg]
  have hX0c := hIc _ _ _ h0
  refine (hgives (M + 1)
    (fun pre X W => I pre X W ∧ W.heap[M + 1]? = some (rc .ready none) ∧ W.heap[M]? = some (.deferred (some [])))
    (fun pre X W => ∃ c, Ix c pre X W ∧ W.heap[M + 1]? = some (rc .done (some c)) ∧ W.heap[M]? = some (.deferred (some [])))
    W1 X0 (by omega) (fun k hk => ⟨by have := (hN k hk).1; omega, (hbel.block k (hN k hk).1).trans (hN k hk).2⟩) hNX
    (fun s X A h => hIc s X A h.1)
    (fun X s A B row ⟨h1, h2, h3⟩ hg hr => ⟨hI X s A B row h1 hg (fun r e => ⟨by have := (hr r e).1; omega, (hr r e).2⟩), (hg.block _ (def_lt' h2) (fun e => by have := (hr _ e.symm).1; omega)).trans h2, (hg.block _ (def_lt' h3) (fun e => by have := (hr _ e.symm).1; omega)).trans h3⟩)
    (fun X s A B row ⟨c, h1, h2, h3⟩ hg hr => ⟨c, hIx c X s A B row h1 hg (fun r e => ⟨by have := (hr r e).1; omega, (hr r e).2⟩), (hg.block _ (def_lt' h2) (fun e => by have := (hr _ e.symm).1; omega)).trans h2, (hg.block _ (def_lt' h3) (fun e => by have := (hr _ e.symm).1; omega)).trans h3⟩)
    ?_ ⟨ownFrom_ext (hI X0) h0 hbel, hL1, hD1⟩).mono ?_
  · -- one round
    rintro pre x X A B ⟨hi, hl, hd⟩ hpre hAB
    have hlA := def_lt' hl
    have hlB : B.heap[M + 1]? = some (rc .ready none) := (hAB.block _ hlA).trans hl
    have hdB : B.heap[M]? = some (.deferred (some [])) := (hAB.block _ (by omega)).trans hd
    have hcl : ¬ X (M + 1) := fun h => by obtain ⟨o, h1, h2⟩ := hIc _ _ _ hi _ h; rw [hl] at h1; injection h1 with h1; subst h1; cases h2
    have hcd : ¬ X M := fun h => by obtain ⟨o, h1, h2⟩ := hIc _ _ _ hi _ h; rw [hd] at h1; injection h1 with h1; subst h1; cases h2
    refine ⟨fn, _, assign, body, run_yield (P := P) (args := encs x) hlB (by exact hps x), roundIn_of_wpIn trivial (hround (M + 1) pre x B _ ?_)⟩
    intro a' B1 hB1 hbody
    have hAB1 : Below A.heap.size A B1 := hAB.trans (hB1.mono hAB.size)
    have hlB1 : B1.heap[M + 1]? = some (rc .ready none) := (hAB1.block _ hlA).trans hl
    have hdB1 : B1.heap[M]? = some (.deferred (some [])) := (hAB1.block _ (by omega)).trans hd
    refine ⟨_, run_beginRound hlB1 rfl, ?_⟩
    let A0 := A.putObj (M + 1) (rc .busy none)
    let B2 := B1.putObj (M + 1) (rc .busy none)
    have hi0 : I pre X A0 := (hI X).putObj _ hi (by omega) hl rfl
    have hA0 : A0.heap.size = A.heap.size := World.putObj_size
    have hB2 : B2.heap.size = B1.heap.size := World.putObj_size
    have hB12 := hB1.size
    have hext : Below A0.heap.size A0 B2 := by
      refine ⟨hAB1.os, hAB1.tape, hAB1.output, by rw [hA0, hB2]; exact hAB1.size, fun k hk => ?_⟩
      rw [hA0] at hk
      by_cases e : k = M + 1
      · subst e
        rw [World.putObj_heap_same (by have := hAB1.size; omega), World.putObj_heap_same hlA]
      · rw [World.putObj_heap_other e, World.putObj_heap_other e]
        exact hAB1.block k hk
    have hl2 : B2.heap[M + 1]? = some (rc .busy none) := World.putObj_heap_same (by have := hAB1.size; omega)
    have hd2 : B2.heap[M]? = some (.deferred (some [])) := (World.putObj_heap_other (by omega)).trans hdB1
    have hbks : ∀ b t cs, Bk B1 b t cs → Bk B2 b t cs := fun b t cs hb => (World.putObj_heap_other (fun e => by
      subst e
      have h1 : B1.heap[M + 1]? = some (.cells cs t (0, 0)) := hb
      rw [hlB1] at h1
      cases h1)).trans hb
    refine wpIn_mono (hbody X A0 B2 hi0 hext hbks (by omega) hpre (by rw [hA0]; omega)) ?_
    have fin : ∀ (jump : Option Code) (C : World), KeptB M X B2 C →
        (Instr.endRound (M + 1) jump).run P C = .ok (.bool jump.isNone) (C.putObj (M + 1) (rc (if jump.isNone then .ready else .done) jump)) ∧ C.heap[M + 1]? = some (rc .busy none) ∧
        (C.putObj (M + 1) (rc (if jump.isNone then .ready else .done) jump)).heap[M + 1]? = some (rc (if jump.isNone then .ready else .done) jump) ∧
        (C.putObj (M + 1) (rc (if jump.isNone then .ready else .done) jump)).heap[M]? = some (.deferred (some [])) := fun jump C hk => by
      have h1 := (hk.2 _ (by omega) (def_lt' hl2) hcl).trans hl2
      exact ⟨run_endRound (P := P) jump h1, h1, World.putObj_heap_same (def_lt' h1), (World.putObj_heap_other (by omega)).trans ((hk.2 _ (Nat.le_refl _) (def_lt' hd2) hcd).trans hd2)⟩
    have hnew : ∀ (X' : Nat → Prop), (∀ k, X' k → X k ∨ B2.heap.size ≤ k) → ∀ k, X' k → X k ∨ B.heap.size ≤ k := fun X' h k hk => by
      rcases h k hk with h | h
      · exact .inl h
      · exact .inr (by omega)
    have hbut : ∀ (C : World) (o : Obj), KeptB M X B2 C → KeptB W1.heap.size X B (C.putObj (M + 1) o) := fun C o hk => ⟨by rw [World.putObj_size]; have := hk.1; omega, fun k h1 h2 h3 => by
      rw [World.putObj_heap_other (by omega), hk.2 k (by omega) (by omega) h3, World.putObj_heap_other (by omega), hB1.block k h2]⟩
    rintro e a3 C hp
    cases e with
    | normal =>
      obtain ⟨X', hx, hk, hi3⟩ := hp
      obtain ⟨hr, h1, h2, h3⟩ := fin none C (hk.from M)
      refine ⟨_, _, hr, X', hnew X' hx, .inl ⟨rfl, ⟨(hI X').putObj _ hi3 (by omega) h1 rfl, h2, h3⟩, by rw [World.putObj_size]; have := hk.1; omega, fun k hk1 hk2 => ?_⟩⟩
      by_cases e : k = M + 1
      · subst e
        rw [h2, hlB]
        rfl
      · rw [World.putObj_heap_other e, hk.2 k (by omega) hk2, World.putObj_heap_other e, hB1.block k hk1]
    | ret =>
      obtain ⟨X', hx, hk, hi3⟩ := hp
      obtain ⟨hr, h1, h2, h3⟩ := fin (some .ret) C hk
      exact ⟨_, _, hr, X', hnew X' hx, .inr ⟨rfl, ⟨.ret, (hIx _ X').putObj _ hi3 (by omega) h1 rfl, h2, h3⟩, hbut C _ hk⟩⟩
    | exit id =>
      obtain ⟨X', hx, hk, hi3⟩ := hp
      obtain ⟨hr, h1, h2, h3⟩ := fin (some (.exit id)) C hk
      exact ⟨_, _, hr, X', hnew X' hx, .inr ⟨rfl, ⟨.exit id, (hIx _ X').putObj _ hi3 (by omega) h1 rfl, h2, h3⟩, hbut C _ hk⟩⟩
    | goto t =>
      obtain ⟨X', hx, hk, hi3⟩ := hp
      obtain ⟨hr, h1, h2, h3⟩ := fin (some (.goto t)) C hk
      exact ⟨_, _, hr, X', hnew X' hx, .inr ⟨rfl, ⟨.goto t, (hIx _ X').putObj _ hi3 (by omega) h1 rfl, h2, h3⟩, hbut C _ hk⟩⟩
    | panic ch => exact hp.elim
    | outgrown => exact hp.elim
  · rintro e C ⟨⟨v, rfl⟩, X', (⟨hi, hl, hd⟩ | ⟨pre, hpre, c, hi, hl, hd⟩)⟩
    · exact ⟨none, _, run_endLoop (P := P) hl (by simp), hdone M X' _ (Nat.le_refl _) ((hI X').putObj _ hi (by omega) hl rfl) ((World.putObj_heap_other (by omega)).trans hd)⟩
    · exact ⟨some c, _, run_endLoop (P := P) hl (by simp), hstop M c pre X' _ (Nat.le_refl _) hpre ((hIx c X').putObj _ hi (by omega) hl rfl) ((World.putObj_heap_other (by omega)).trans hd)⟩
end Go.Proofs.YtmacfoebfpljoaaGreat
namespace Go.Proofs.YtmacfoebfpljoaaGreat
open Go.RowKit
attribute [local go_sem] Oper.semAt_some
/-- what a slice of groups leans on: its box, and its row -/
def NeedsG (Bs n : Nat) (A : Option Addr) (k : Nat) : Prop := k = Bs ∨ 0 < n ∧ ∃ a, A = some a ∧ a.block = k
def gback (L : List GrH) (k : Nat) : Nat × GrH := (L.length - 1 - k, L.getD (L.length - 1 - k) default)
def gbacks (L : List GrH) (k : Nat) : List (Nat × GrH) := (List.range k).map (gback L)
theorem gbacks_succ (L : List GrH) (k : Nat) : gbacks L (k + 1) = gbacks L k ++ [gback L k] := by simp [gbacks, List.range_succ]
theorem gbacks_take (L : List GrH) {k n : Nat} (h : k ≤ n) : gbacks L k <+: gbacks L n := by
  obtain ⟨d, rfl⟩ : ∃ d, n = k + d := ⟨n - k, by omega⟩
  refine ⟨((List.range d).map (fun i => k + i)).map (gback L), ?_⟩
  rw [gbacks, gbacks, ← List.map_append, List.range_add]
theorem gbacks_snd (L : List GrH) : (gbacks L L.length).map Prod.snd = L.reverse := by
  apply List.ext_getElem
  · simp [gbacks]
  · intro i h1 h2
    simp only [gbacks, List.map_map, List.length_map, List.length_range, List.getElem_map, List.getElem_range, Function.comp, gback, List.getElem_reverse] at h1 h2 ⊢
    rw [List.getD_eq_getElem?_getD, List.getElem?_eq_getElem (by omega)]
    rfl
abbrev encG (g : GrH) : Value := .agg #[.slice g.A g.n g.c, .int .i64 g.pin.k, .int .i64 g.pin.a, .int .i64 g.pin.b, .int .i64 g.back.k, .int .i64 g.back.a, .int .i64 g.back.b, .int .i64 g.lost]
abbrev encP (x : Nat × GrH) : Array Value := #[.int .i64 (x.1 : Int), encG x.2]
set_option maxHeartbeats 400000 in
theorem gbackward_any (A : Option Addr) (n c : Nat) (w : World) :
    Calls Tryz.prog 176 #[.slice A n c] w fun e w' => e = .returned (.func (.func 209) #[] #[.pointer (some ⟨w.heap.size, 0, none⟩)]) ∧ w.alloc (.cells #[.slice A n c] 78) = w' := by
  go_enter Tryz.func176, Tryz.ntmps176
  go_wp2
  go_ret
  exact ⟨rfl, rfl⟩
set_option maxRecDepth 100000 in
set_option maxHeartbeats 4000000 in
theorem gbackward_gives (Bs n : Nat) (A : Option Addr) (c : Nat) (L : List GrH) (w : World) (hn : n ≤ maxLen) (hk : Bk w Bs 78 #[.slice A n c]) (hrd : Rd w w.heap.size 8 A n (grs L)) :
    GivesX Tryz.prog 209 #[.pointer (some ⟨Bs, 0, none⟩)] encP (NeedsG Bs n A) (gbacks L n) w := by
  intro l J Jx W X0 hl hN hNX hJc hJ hJx hY h0
  have hln : L.length = n := by have := hrd.1; rw [grs_len] at this; omega
  unfold maxLen at hn
  have HJx := Lib.hid hJx
  clear hJx
  have hBs : ∀ W' : World, (∀ k, NeedsG Bs n A k → k < W'.heap.size ∧ W'.heap[k]? = w.heap[k]?) → W'.cell? ⟨Bs, 0, none⟩ = some (.slice A n c) := by
    intro W' h
    have h1 : Bk W' Bs 78 #[.slice A n c] := (h Bs (.inl rfl)).2.trans hk
    exact h1.cell 0
  have HB := Lib.hid hBs
  clear hBs
  refine callsIn_of_wp Tryz.func209 rfl trivial ?_ rfl
  simp only [Tryz.ntmps209, List.size_toArray, List.length_cons, List.length_nil, Nat.reduceAdd, Nat.reduceSub, Array.replicate_succ, Array.replicate_zero, List.push_toArray, List.append_toArray, List.nil_append, List.cons_append]
  have e0 : IntKind.i64.wrap ((n : Int) - 1) = (n : Int) - 1 := IntWalk.i64_in _ (by omega)
  have c0 := HB.out W hN
  gi_wp2
  gi_loopw [3] (fun i wr => ∃ k : Nat, k ≤ n ∧ i = .int .i64 ((n : Int) - 1 - k) ∧ ∃ X, J (gbacks L k) X wr ∧ (∀ k, NeedsG Bs n A k → ¬ X k) ∧ (∀ k, NeedsG Bs n A k → k < wr.heap.size ∧ wr.heap[k]? = w.heap[k]?)) (fun i _ => (intOf i + 1).toNat)
  case atStart => exact ⟨0, by omega, by simp, X0, h0, hNX, hN⟩
  case round =>
    obtain ⟨k, hk', rfl, X, hJs, hNX', hN'⟩ := hrel
    have hBr := HB.out wr hN'
    by_cases hkn : k < n
    · obtain ⟨ι, hι⟩ : ∃ ι : Nat, ι = n - 1 - k := ⟨_, rfl⟩
      have hιe : (n : Int) - 1 - k = (ι : Int) := by omega
      obtain ⟨g, hg⟩ : ∃ g, L[ι]? = some g := ⟨_, List.getElem?_eq_getElem (by omega)⟩
      obtain ⟨b, o, rfl, hbB, hcc⟩ := hrd.el GrH.cells (fun _ => rfl) hln hg
      have hx : gback L k = (ι, g) := by
        unfold gback
        rw [hln, ← hι, List.getD_eq_getElem?_getD, hg]
        rfl
      have hcell : ∀ j, j < 8 → wr.cell? ⟨b, o + ι * 8 + j, none⟩ = g.cells[j]? := fun j hj => (World.cell?_of_block (a := ⟨b, o + ι * 8 + j, none⟩) (hN' b (.inr ⟨by omega, ⟨b, o, none⟩, rfl, rfl⟩)).2).trans (hcc j hj)
      have hY' := hY _ (gback L k) X wr wr hJs (by rw [← gbacks_succ]; exact gbacks_take L (by omega)) (Below.refl _ _)
      obtain ⟨fn, tmps, assign, body, hy, hR⟩ := hY'
      rw [hx] at hy hR
      dsimp only [encP] at hy
      rw [← hx, ← gbacks_succ] at hR
      have HRR := Lib.hid hR
      obtain ⟨gA, gn, gc, gL, ⟨pk, pa, pb⟩, ⟨bk, ba, bb⟩, glost⟩ := g
      have c0 := hcell 0 (by omega); have c1 := hcell 1 (by omega); have c2 := hcell 2 (by omega); have c3 := hcell 3 (by omega); have c4 := hcell 4 (by omega); have c5 := hcell 5 (by omega); have c6 := hcell 6 (by omega); have c7 := hcell 7 (by omega)
      dsimp [GrH.cells] at c0 c1 c2 c3 c4 c5 c6 c7
      try dsimp only at hy
      rw [hιe]
      have e1 : (ι : Int) < n := by omega
      have e4 : IntKind.i64.wrap ((ι : Int) - 1) = (ι : Int) - 1 := IntWalk.i64_in _ (by omega)
      have HI := Lib.hid hιe
      have HNX := Lib.hid hNX'
      have HN := Lib.hid hN'
      clear hι hιe hx hg hcell hcc hR hNX' hN'
      gi_wp2
      refine HRR.out.mono ?_
      rintro e W3 ⟨X', hXX, (⟨rfl, hJ3, hk3⟩ | ⟨rfl, hJx3, _⟩)⟩
      · gi_wp2
        go_roundw
        case rel =>
          refine ⟨k + 1, by omega, by (have := HI.out; go_num), X', hJ3, fun j hj hX => ?_, fun j hj => ?_⟩
          · rcases hXX j hX with h | h
            · exact HNX.out j hj h
            · have := (HN.out j hj).1; omega
          · have h1 := HN.out j hj
            exact ⟨Nat.lt_of_lt_of_le h1.1 hk3.1, (hk3.2 j h1.1 (HNX.out j hj)).trans h1.2⟩
        case measure => have := HI.out; simp [intOf]
      · gi_wp2
        refine bodyPost_ret (results_none rfl _ _ _) rfl ?_
        exact ⟨⟨_, rfl⟩, X', .inr ⟨_, gbacks_take L (by omega), hJx3⟩⟩
    · obtain rfl : n = k := by omega
      gi_wp2
      go_end0
      exact ⟨⟨_, rfl⟩, X, .inl hJs⟩
end Go.Proofs.YtmacfoebfpljoaaGreat
/- stack: newest, an iterator that ranges over another one -/
namespace Go.Proofs.YtmacfoebfpljoaaGreat
open Go.RowKit
attribute [local go_sem] Oper.semAt_some
theorem Rd.move {w w' : World} {B B' size n : Nat} {A : Option Addr} {xs : List Value} (h : Rd w B size A n xs) (hk : 0 < n → ∀ a, A = some a → a.block < B' ∧ w'.heap[a.block]? = w.heap[a.block]?) : Rd w' B' size A n xs := by
  refine ⟨h.1, fun hn => ?_⟩
  obtain ⟨b, o, e, hb, hc⟩ := h.2 hn
  exact ⟨b, o, e, (hk hn ⟨b, o, none⟩ e).1, fun j u hu => (World.cell?_of_block (a := ⟨b, o + j, none⟩) (hk hn ⟨b, o, none⟩ e).2).trans (hc j u hu)⟩
theorem snd_prefix {L : List GrH} {pre : List (Nat × GrH)} (h : pre <+: gbacks L L.length) : pre.map Prod.snd <+: L.reverse := by
  obtain ⟨t, ht⟩ := h
  refine ⟨t.map Prod.snd, ?_⟩
  rw [← List.map_append, ht, gbacks_snd]
set_option maxRecDepth 100000 in
set_option maxHeartbeats 4000000 in
theorem newest_gives (Bs n : Nat) (A : Option Addr) (c : Nat) (L : List GrH) (w : World) (hn : n ≤ maxLen) (hk : Bk w Bs 78 #[.slice A n c]) (hrd : Rd w w.heap.size 8 A n (grs L)) :
    GivesX Tryz.prog 175 #[.pointer (some ⟨Bs, 0, none⟩)] (fun g => #[encG g]) (NeedsG Bs n A) L.reverse w := by
  intro l J Jx W X0 hl hN hNX hJc hJ hJx hY h0
  have hln : L.length = n := by have := hrd.1; rw [grs_len] at this; omega
  have hBs : Bk W Bs 78 #[.slice A n c] := (hN Bs (.inl rfl)).2.trans hk
  have c0 := hBs.cell 0
  dsimp at c0
  have hlB := def_lt' hBs
  have kb : Bk ((W.alloc (.cells #[.func (.yield l) #[] #[]] 284)).alloc (.cells #[.slice A n c] 78)) (W.heap.size + 1) 78 #[.slice A n c] := Bk.made _ _ (by simp)
  have ky : Bk ((W.alloc (.cells #[.func (.yield l) #[] #[]] 284)).alloc (.cells #[.slice A n c] 78)) W.heap.size 284 #[.func (.yield l) #[] #[]] := (Bk.new W 284 _).alloc _
  have hb2 : Below W.heap.size W ((W.alloc (.cells #[.func (.yield l) #[] #[]] 284)).alloc (.cells #[.slice A n c] 78)) := belowA
  have hz2 : ((W.alloc (.cells #[.func (.yield l) #[] #[]] 284)).alloc (.cells #[.slice A n c] 78)).heap.size = W.heap.size + 2 := by simp
  refine callsIn_wide.2 (callsIn_wide.1 (callsIn_of_wp_marks (n := 10) Tryz.func175 rfl trivial ?_ rfl))
  simp only [Tryz.ntmps175, List.size_toArray, List.length_cons, List.length_nil, Nat.reduceAdd, Nat.reduceSub, Array.replicate_succ, Array.replicate_zero, List.push_toArray, List.append_toArray, List.nil_append, List.cons_append]
  gi_wp2_with (refine ⟨trivial, ?_⟩; gi_at_call 176; refine (callsIn_wide.2 (gbackward_any _ _ _ _)).mono ?_; rintro e w2 ⟨rfl, rfl⟩)
  generalize (W.alloc (.cells #[.func (.yield l) #[] #[]] 284)).alloc (.cells #[.slice A n c] 78) = w2 at *
  have hX0 : ∀ k, X0 k → k < W.heap.size := fun k h => by obtain ⟨o, h1, _⟩ := hJc _ _ _ h0 k h; exact def_lt' h1
  have hrd2 : Rd w2 w2.heap.size 8 A n (grs L) := hrd.move fun hp a e => by
    have h1 := hN a.block (.inr ⟨hp, a, e, rfl⟩)
    exact ⟨Nat.lt_of_lt_of_le h1.1 hb2.size, (hb2.block _ h1.1).trans h1.2⟩
  have hgv := gbackward_gives (W.heap.size + 1) n A c L w2 hn kb hrd2
  have HY := Lib.hid hY
  clear hY
  subst hln
  refine range_mine_x (gf := 209) (lb := #[.pointer (some ⟨W.heap.size + 1, 0, none⟩)]) rfl (enters_of Tryz.func209 (by kernel_rfl) rfl) hgv (fun k hk => ⟨?_, rfl⟩) (fun _ => rfl)
    (fun pre X W' => J (pre.map Prod.snd) X W' ∧ Bk W' W.heap.size 284 #[.func (.yield l) #[] #[]] ∧ ¬ X W.heap.size) (fun cd pre X W' => cd = .ret ∧ Jx (pre.map Prod.snd) X W') X0 (fun k hk => ?_) ?hI ?hIx ?hIc ?h0 ?hround ?hdone ?hstop
  · rcases hk with rfl | ⟨hp, a, e, rfl⟩
    · exact def_lt' kb
    · exact Nat.lt_of_lt_of_le (hN a.block (.inr ⟨hp, a, e, rfl⟩)).1 hb2.size
  · rcases hk with rfl | ⟨hp, a, e, rfl⟩
    · intro h; have := hX0 _ h; omega
    · exact hNX a.block (.inr ⟨hp, a, e, rfl⟩)
  case hI =>
    rintro X s A B row ⟨h1, h2, h3⟩ hg hr
    exact ⟨hJ X _ A B row h1 hg (fun r e => ⟨by have := (hr r e).1; have := hb2.size; omega, (hr r e).2⟩), blk_kept h2 hg hr, h3⟩
  case hIx =>
    rintro cd X s A B row ⟨h1, h2⟩ hg hr
    exact ⟨h1, hJx X _ A B row h2 hg (fun r e => ⟨by have := (hr r e).1; have := hb2.size; omega, (hr r e).2⟩)⟩
  case hIc =>
    rintro s X A ⟨h1, _, _⟩
    exact hJc _ _ _ h1
  case h0 =>
    refine ⟨ownFrom_ext (hJ X0) h0 hb2, ky, fun h => ?_⟩
    have := hX0 _ h
    omega
  case hround =>
    rintro lp pre ⟨i, g⟩ W1 KK hkk
    have HKK := Lib.hid hkk
    clear hkk
    gi_wp2
    refine HKK.out _ _ ((Below.refl _ _).alloc (Nat.le_refl _) _) ?_
    clear HKK
    rintro X W0 W2 ⟨hJ0, hy0, hX⟩ hext hbk hz hpre hM
    have kg := hbk _ _ _ (Bk.new W1 76 #[.slice g.A g.n g.c, .int .i64 g.pin.k, .int .i64 g.pin.a, .int .i64 g.pin.b, .int .i64 g.back.k, .int .i64 g.back.a, .int .i64 g.back.b, .int .i64 g.lost])
    have ky2 := hy0.ext hext
    have hpre2 : pre.map Prod.snd ++ [g] <+: L.reverse := by simpa using snd_prefix hpre
    obtain ⟨fn, tmps, assign, body, hy, hR⟩ := HY.out (pre.map Prod.snd) g X W0 W2 hJ0 hpre2 hext
    have HRR := Lib.hid hR
    have y0 := ky2.cell 0
    have g0 := kg.cell 0; have g1 := kg.cell 1; have g2 := kg.cell 2; have g3 := kg.cell 3; have g4 := kg.cell 4; have g5 := kg.cell 5; have g6 := kg.cell 6; have g7 := kg.cell 7
    dsimp at y0 g0 g1 g2 g3 g4 g5 g6 g7
    clear hR hbk
    gi_wp2
    refine RoundIn.mono (R := fun e W' => ∃ X', (∀ k, X' k → X k ∨ W2.heap.size ≤ k) ∧ ((e = .returned (.bool true) ∧ J (pre.map Prod.snd ++ [g]) X' W' ∧ KeptX X W2 W') ∨ (e = .returned (.bool false) ∧ Jx (pre.map Prod.snd ++ [g]) X' W' ∧ KeptB W.heap.size X W2 W'))) ⟨HRR.out.1, fun c cs _ => HRR.out.2 c cs (by simp [Fence.room, Fence.wide])⟩ ?_
    rintro e W3 ⟨X', hXX, (⟨rfl, hJ3, hk3⟩ | ⟨rfl, hJx3, hk3⟩)⟩
    · gi_wp2
      have hyl := def_lt' ky2
      refine ⟨X', hXX, hk3, by simpa using hJ3, (hk3.2 _ hyl hX).trans ky2, fun h => ?_⟩
      rcases hXX _ h with h | h
      · exact hX h
      · omega
    · gi_wp2
      exact ⟨X', hXX, ⟨hk3.1, fun k h1 => hk3.2 k (Nat.le_trans hb2.size h1)⟩, rfl, by simpa using hJx3⟩
  case hdone =>
    rintro D X Wd hD ⟨h1, _, _⟩ hK
    gi_wp2
    refine ⟨by simp, .inl ⟨_, _, rfl, run_takeDeferred hK, _, results_none rfl _ _ _, ⟨_, rfl⟩, X, .inl ?_⟩⟩
    rw [gbacks_snd] at h1
    exact (hJ X).putObj _ h1 (Nat.le_trans hb2.size hD) hK rfl
  case hstop =>
    rintro D cd pre X Wd hD hpre ⟨rfl, h1⟩ hK
    gi_wp2
    refine ⟨by simp, .inl ⟨_, _, rfl, run_takeDeferred hK, _, results_none rfl _ _ _, ⟨_, rfl⟩, X, .inr ⟨_, snd_prefix hpre, ?_⟩⟩⟩
    exact (hJx X).putObj _ h1 (Nat.le_trans hb2.size hD) hK rfl
end Go.Proofs.YtmacfoebfpljoaaGreat
/- stack: turned: groups the other way round -/
namespace Go.Proofs.YtmacfoebfpljoaaGreat
open Go.RowKit
attribute [local go_sem] Oper.semAt_some
theorem app_oneIn {F : Fence} {nF : Nat} {P : Program} {ops : Array Oper} {rest : List Oper} {o : Oper} {a : Act} {Q : Exit → Act → World → Prop} {t e : TypeId} {z : Value} {size bytes : Nat}
    (ht : P.underlying t = some (.slice e)) (hinfo : (P.info? e).map (fun i => (i.zero, i.size, i.bytes)) = some (some z, size, bytes)) (hzs : z.cells.size = size) (hsz : 0 < size)
    (w : World) (base : Nat) (v : Value) (n : Nat) (xs : List Value) (hown : w.ownsRow base e size v n xs) (hn : n + 1 ≤ maxLen) (hby : (n + 1) * bytes ≤ 140737488355328) (hb : base ≤ w.heap.size)
    (news : Array Value) (hl : news.size = size) (h1 : ∀ u ∈ news.toList, u.oneCell' = true)
    (hgd : o.guard = none) (s x : Operand) (ho : o.op = .call { callee := .builtin .append, args := #[s, x], argTypes := #[t, t] })
    (hs : a.eval s = v) (hx : a.eval x = .slice (some ⟨w.heap.size, 0, none⟩) 1 1)
    (h : ∀ A cap w', w'.ownsRow base e size (.slice A (n + 1) cap) (n + 1) (xs ++ news.toList) → w.grownBy w' v.ownBlock → ((Value.slice A (n + 1) cap).ownBlock = v.ownBlock ∨ (Value.slice A (n + 1) cap).ownBlock = some (w.heap.size + 1)) →
      wpListIn F nF P ops Q rest (a.put o.dst (.slice A (n + 1) cap)) w') :
    wpListIn F nF P ops Q (o :: rest) a (w.alloc (.cells news e)) := by
  obtain ⟨i0, hi, hz0, hz1, hz2⟩ := info_parts hinfo
  refine wpListIn_append_own_at _ hgd s x t ho base e i0 z size bytes ht hi hz0 hz1 hz2 hzs hsz v n xs hs (World.ownsRow.alloc (w := w) hown _) ⟨w.heap.size, 0, none⟩ 1 1 news.toList hx (by simp [hl]) ?_ h1 hn hby (by simp; omega) ?_
  · intro j u hu
    have hb := heap_alloc_new w (.cells news e)
    rw [show (({ block := w.heap.size, off := 0 } : Addr).add j) = ⟨w.heap.size, j, none⟩ from by unfold Addr.add; split <;> simp_all]
    rw [cell_of_row _ _ _ _ _ _ hb]
    simpa using hu
  · intro v' w' h1 h2 _ h4
    obtain ⟨A, cap, rfl, _⟩ := own_form h1
    refine h A cap w' h1 ((gr_alloc (World.grownBy.refl w _) _).trans h2) ?_
    rcases h4 with h4 | h4
    · exact .inl h4
    · exact .inr (by simpa using h4)
set_option maxRecDepth 100000 in
set_option maxHeartbeats 4000000 in
theorem appendseq_any (Bs : Nat) (N : Nat → Prop) (xs : List GrH) (w0 W : World) (hg : GivesX Tryz.prog 175 #[.pointer (some ⟨Bs, 0, none⟩)] (fun g => #[encG g]) N xs w0) (hN : ∀ k, N k → k < W.heap.size ∧ W.heap[k]? = w0.heap[k]?) (hx : xs.length ≤ 1000000) :
    Calls Tryz.prog 174 #[.slice none 0 0, .func (.func 175) #[] #[.pointer (some ⟨Bs, 0, none⟩)]] W fun e W' => ∃ v, e = .returned v ∧ W'.ownsRow W.heap.size 76 8 v xs.length (grs xs) ∧ Below W.heap.size W W' := by
  have kb : Bk (W.alloc (.cells #[.slice none 0 0] 78)) W.heap.size 78 #[.slice none 0 0] := Bk.new W _ _
  have hb2 : Below W.heap.size W (W.alloc (.cells #[.slice none 0 0] 78)) := belowA
  have hz2 : (W.alloc (.cells #[.slice none 0 0] 78)).heap.size = W.heap.size + 1 := by simp
  refine callsIn_wide.1 (callsIn_of_wp_marks (n := 10) Tryz.func174 rfl trivial ?_ rfl)
  simp only [Tryz.ntmps174, List.size_toArray, List.length_cons, List.length_nil, Nat.reduceAdd, Nat.reduceSub, Array.replicate_succ, Array.replicate_zero, List.push_toArray, List.append_toArray, List.nil_append, List.cons_append]
  gi_wp2
  generalize W.alloc (.cells #[.slice none 0 0] 78) = w2 at *
  refine range_mine_x (gf := 175) (lb := #[.pointer (some ⟨Bs, 0, none⟩)]) rfl (enters_of Tryz.func175 (by kernel_rfl) rfl) hg (fun k hk => ⟨?_, ?_⟩) (fun _ => rfl)
    (fun pre X W' => ∃ v, Bk W' W.heap.size 78 #[v] ∧ W'.ownsRow W.heap.size 76 8 v pre.length (grs pre) ∧ Below W.heap.size W W' ∧ ∀ k, X k ↔ (k = W.heap.size ∨ v.ownBlock = some k)) (fun _ _ _ _ => False) (fun k => k = W.heap.size) (fun k hk => ?_) ?hI ?hIx ?hIc ?h0 ?hround ?hdone ?hstop
  · have := (hN k hk).1; omega
  · exact (hb2.block k (hN k hk).1).trans (hN k hk).2
  · have := (hN k hk).1; omega
  case hI =>
    rintro X s A B row ⟨v, h1, h2, h3, h4⟩ hg hr
    exact ⟨v, blk_kept h1 hg hr, own_kept h2 hg hr, below_kept h3 (Nat.le_refl _) (by omega) hg hr, h4⟩
  case hIx => exact fun _ _ _ _ _ _ h _ _ => h
  case hIc =>
    rintro s X A ⟨v, h1, h2, h3, h4⟩ k hk
    rcases (h4 k).1 hk with rfl | h
    · exact ⟨_, h1, rfl⟩
    · obtain ⟨cs, hc⟩ := own_bk h2 h
      exact ⟨_, hc, rfl⟩
  case h0 => exact ⟨_, kb, World.ownsRow_nil _ _ _ _, hb2, fun k => by simp [Value.ownBlock]⟩
  case hround =>
    rintro lp pre g W1 KK hkk
    have HKK := Lib.hid hkk
    clear hkk
    gi_wp2
    refine HKK.out _ _ ((Below.refl _ _).alloc (Nat.le_refl _) _) ?_
    clear HKK
    rintro X W0 W2 ⟨v, h1, h2, h3, h4⟩ hext hbk hz hpre hM
    have hlen := hpre.length_le
    simp only [List.length_append, List.length_cons, List.length_nil] at hlen
    have kg := hbk _ _ _ (Bk.new W1 76 #[.slice g.A g.n g.c, .int .i64 g.pin.k, .int .i64 g.pin.a, .int .i64 g.pin.b, .int .i64 g.back.k, .int .i64 g.back.a, .int .i64 g.back.b, .int .i64 g.lost])
    have k2 := h1.ext hext
    have hown2 := own_below h2 hext
    have hb22 := h3.trans (hext.mono h3.size)
    have hz22 := hb22.size
    have y0 := k2.cell 0; have y1 := k2.frozen; have y2 := def_lt' k2
    have g0 := kg.cell 0; have g1 := kg.cell 1; have g2 := kg.cell 2; have g3 := kg.cell 3; have g4 := kg.cell 4; have g5 := kg.cell 5; have g6 := kg.cell 6; have g7 := kg.cell 7
    dsimp at y0 g0 g1 g2 g3 g4 g5 g6 g7
    clear hbk
    gi_wp2_with (gi_at_builtin; ((refine app_oneIn Tryz.underlying78 info_group rfl (by decide) W2 W.heap.size v pre.length _ hown2 (by unfold maxLen; omega) (by omega) hz22 _ rfl (by simp [Value.oneCell']) rfl _ _ rfl rfl rfl ?_); intro A4 cap4 w4 hown4 hgr4 hat4; have k4 := k2.grown hgr4 (own_ne hown2 k2 (by decide)); have x0 := k4.cell 0; have x1 := k4.frozen; have x2 := def_lt' k4; dsimp at x0))
    have hb4 := below_own hb22 hown2 hgr4 hz22 (Nat.le_refl _)
    have hnv : v.ownBlock ≠ some W.heap.size := own_ne hown2 k2 (by decide)
    refine ⟨fun k => k = W.heap.size ∨ (Value.slice A4 (pre.length + 1) cap4).ownBlock = some k, fun k hk => ?_, ⟨by simpa using hgr4.size, fun k hk1 hk2 => ?_⟩, _, k4.set_ 0 _, ?_, hb4.setCell (Nat.le_refl _) _, fun k => Iff.rfl⟩
    · rcases hk with rfl | hk
      · exact .inl ((h4 _).2 (.inl rfl))
      · rcases hat4 with e | e
        · exact .inl ((h4 _).2 (.inr (by rw [← e]; exact hk)))
        · rw [e] at hk
          injection hk with hk
          exact .inr (by omega)
    · have hk3 : k ≠ W.heap.size := fun e => hk2 ((h4 _).2 (.inl e))
      have hk4 : v.ownBlock ≠ some k := fun e => hk2 ((h4 _).2 (.inr e))
      rw [far_heap (p := ⟨W.heap.size, 0, none⟩) hk3]
      exact hgr4.block k hk1 (fun e => hk4 e.symm)
    · rw [grs_append, List.length_append]
      exact ownsRow_setCell_other (a := ⟨W.heap.size, 0, none⟩) hown4 (own_ne (b := W.heap.size) (t := 78) hown4 k4 (by decide)) _
  case hdone =>
    rintro D X Wd hD ⟨v, h1, h2, h3, h4⟩ hK
    have x0 := h1.cell 0; dsimp at x0
    gi_wp2
    refine ⟨by simp, .inl ⟨_, _, rfl, run_takeDeferred hK, v, ?_, v, rfl, own_put h2 hK rfl _, h3.trans (below_putObj (by omega))⟩⟩
    simp [results, Tryz.results174, go_sem]
  case hstop =>
    rintro D cd pre X Wd hD hpre h hK
    exact h.elim
set_option maxRecDepth 100000 in
set_option maxHeartbeats 4000000 in
theorem turned_any (A : Option Addr) (n c : Nat) (L : List GrH) (w : World) (h : Rd w w.heap.size 8 A n (grs L)) (hn : n ≤ 1000000) :
    Calls Tryz.prog 78 #[.slice A n c] w fun e w' => ∃ v, e = .returned v ∧ w'.ownsRow w.heap.size 76 8 v n (grs L.reverse) ∧ Below w.heap.size w w' := by
  have hln : L.length = n := by have := h.1; rw [grs_len] at this; omega
  have hk : Bk (w.alloc (.cells #[.slice A n c] 78)) w.heap.size 78 #[.slice A n c] := Bk.new w _ _
  have hrd : Rd (w.alloc (.cells #[.slice A n c] 78)) (w.alloc (.cells #[.slice A n c] 78)).heap.size 8 A n (grs L) := (h.alloc (Nat.le_refl _) _).more (by simp)
  have hgv := newest_gives w.heap.size n A c L _ (by unfold maxLen; omega) hk hrd
  have has := appendseq_any w.heap.size _ L.reverse _ _ hgv (fun k hk' => ⟨?_, rfl⟩) (by simpa [hln] using hn)
  · have hb : Below w.heap.size w (w.alloc (.cells #[.slice A n c] 78)) := belowA
    have HAS := Lib.hid has
    have HLN := Lib.hid hln
    clear has hgv hk hrd h hln
    have hnew : Calls Tryz.prog 134 #[.slice A n c] w fun e w' => e = .returned (.func (.func 175) #[] #[.pointer (some ⟨w.heap.size, 0, none⟩)]) ∧ w.alloc (.cells #[.slice A n c] 78) = w' := by
      go_enter Tryz.func134, Tryz.ntmps134
      go_wp2
      go_ret
      exact ⟨rfl, rfl⟩
    have HNEW := Lib.hid hnew
    clear hnew
    have hcol : Calls Tryz.prog 133 #[.func (.func 175) #[] #[.pointer (some ⟨w.heap.size, 0, none⟩)]] (w.alloc (.cells #[.slice A n c] 78)) fun e w' => ∃ v, e = .returned v ∧ w'.ownsRow w.heap.size 76 8 v n (grs L.reverse) ∧ Below w.heap.size w w' := by
      go_enter Tryz.func133, Tryz.ntmps133
      go_wp2_with (go_at_call 174; (refine HAS.out.mono ?_); rintro e w1 ⟨v, rfl, ho1, hb1⟩)
      go_ret
      refine ⟨v, rfl, ?_, hb.trans (hb1.mono hb.size)⟩
      rw [List.length_reverse, HLN.out] at ho1
      exact own_base ho1 hb.size
    have HCOL := Lib.hid hcol
    clear hcol
    go_enter Tryz.func78, Tryz.ntmps78
    go_wp2_with (first
      | (go_at_call 134; (refine HNEW.out.mono ?_); rintro e w1 ⟨rfl, rfl⟩)
      | (go_at_call 133; (refine HCOL.out.mono ?_); rintro e w2 ⟨v, rfl, ho2, hb2⟩))
    go_ret
    exact ⟨v, rfl, ho2, hb2⟩
  · rcases hk' with rfl | ⟨h0, a, e, rfl⟩
    · exact def_lt' hk
    · obtain ⟨b, o, e', hb, _⟩ := hrd.2 h0
      rw [e] at e'
      injection e' with e'
      subst e'
      exact hb
end Go.Proofs.YtmacfoebfpljoaaGreat
namespace Go.Proofs.YtmacfoebfpljoaaGreat
open Go.RowKit
theorem overC_len (m : List Rg) (L : List GrC) : (overC m L).length = L.length := by
  unfold overC
  split
  · exact overG_len _ _
  · rfl
theorem overG_at {m : List Rg} (ks : List Lk) (L : List GrC) {i : Nat} {g a : GrC} (hg : L[i]? = some g) (ha : (overG m ks L).2[i]? = some a) : a.steps.length ≤ g.steps.length ∧ a.lost = IntKind.i64.wrap (g.lost + ((g.steps.length : Int) - a.steps.length)) := by
  induction L generalizing ks i with
  | nil => cases hg
  | cons x L ih =>
    cases i with
    | zero =>
      simp only [List.getElem?_cons_zero, Option.some.injEq] at hg
      subst hg
      simp only [overG, List.getElem?_cons_zero, Option.some.injEq] at ha
      subst ha
      have := runG_count (m := m) ks x.steps
      refine ⟨by simp only; omega, ?_⟩
      simp only
      congr 1
      omega
    | succ i =>
      simp only [overG, List.getElem?_cons_succ] at hg ha
      exact ih _ hg ha
theorem cut_at {m : List Rg} {L : List GrC} {i : Nat} {g a : GrC} (hw : -9223372036854775808 ≤ g.lost ∧ g.lost ≤ 9223372036854775807) (hg : L[i]? = some g) (ha : (overC m L)[i]? = some a) : a.steps.length ≤ g.steps.length ∧ a.lost = IntKind.i64.wrap (g.lost + ((g.steps.length : Int) - a.steps.length)) := by
  unfold overC at ha
  split at ha
  · exact overG_at _ _ hg ha
  · rw [hg] at ha
    injection ha with ha
    subst ha
    refine ⟨Nat.le_refl _, ?_⟩
    rw [show g.lost + ((g.steps.length : Int) - g.steps.length) = g.lost by omega, IntWalk.i64_in _ (by omega)]
end Go.Proofs.YtmacfoebfpljoaaGreat
namespace Go.Proofs.YtmacfoebfpljoaaGreat
open Go.RowKit
/-- all but the blocks X is as it was -/
structure Stir (X : Nat → Prop) (w w' : World) : Prop where
  os : w'.os = w.os
  tape : w'.tape = w.tape
  output : w'.output = w.output
  size : w.heap.size ≤ w'.heap.size
  block : ∀ i, i < w.heap.size → ¬ X i → w'.heap[i]? = w.heap[i]?
section
variable {X Y : Nat → Prop} {w w' w'' : World} {B : Nat}
theorem Stir.of_below (h : Below w.heap.size w w') : Stir X w w' := ⟨h.os, h.tape, h.output, h.size, fun i hi _ => h.block i hi⟩
theorem Stir.of_gr {row : Option Nat} (h : w.grownBy w' row) (hX : ∀ i, row = some i → X i) : Stir X w w' := ⟨h.os, h.tape, h.output, h.size, fun i hi hx => h.block i hi (fun e => hx (hX i e.symm))⟩
theorem Stir.trans (h : Stir X w w') (k : Stir X w' w'') : Stir X w w'' := ⟨k.os.trans h.os, k.tape.trans h.tape, k.output.trans h.output, Nat.le_trans h.size k.size, fun i hi hx => (k.block i (Nat.lt_of_lt_of_le hi h.size) hx).trans (h.block i hi hx)⟩
theorem Stir.fresh (h : Stir X w w') (k : Stir Y w' w'') (hY : ∀ i, Y i → X i ∨ w.heap.size ≤ i) : Stir X w w'' := ⟨k.os.trans h.os, k.tape.trans h.tape, k.output.trans h.output, Nat.le_trans h.size k.size, fun i hi hx => (k.block i (Nat.lt_of_lt_of_le hi h.size) (fun hy => by rcases hY i hy with h1 | h1; (· exact hx h1); (· omega))).trans (h.block i hi hx)⟩
theorem Stir.below (h : Stir X w w') (hX : ∀ i, X i → B ≤ i) (hB : B ≤ w.heap.size) : Below B w w' := ⟨h.os, h.tape, h.output, h.size, fun i hi => h.block i (by omega) (fun hx => by have := hX i hx; omega)⟩
end
/-- a map that a stack keeps -/
structure MpH where
  A : Option Addr
  n : Nat
  c : Nat
  l : List Rg
deriving Inhabited
def MpH.val (m : MpH) : Value := .slice m.A m.n m.c
def foldC (ms : List (List Rg)) (V : List GrC) : List GrC := ms.foldl (fun l m => overC m l) V
theorem foldC_snoc (ms : List (List Rg)) (m : List Rg) (V : List GrC) : foldC (ms ++ [m]) V = overC m (foldC ms V) := by simp [foldC]
theorem foldC_len (ms : List (List Rg)) (V : List GrC) : (foldC ms V).length = V.length := by
  unfold foldC
  induction ms generalizing V with
  | nil => rfl
  | cons m ms ih => simp only [List.foldl_cons]; rw [ih, overC_len]
/-- few steps, and a count that is a number -/
def BdC (V : List GrC) : Prop := ∀ g ∈ V, g.steps.length ≤ 1000 ∧ -9223372036854775808 ≤ g.lost ∧ g.lost ≤ 9223372036854775807
theorem wrap_bd (x : Int) : -9223372036854775808 ≤ IntKind.i64.wrap x ∧ IntKind.i64.wrap x ≤ 9223372036854775807 := by
  simp only [IntKind.wrap_i64]
  omega
theorem BdC.over {V : List GrC} (h : BdC V) (m : List Rg) : BdC (overC m V) := by
  intro a ha
  obtain ⟨i, hi, rfl⟩ := List.getElem_of_mem ha
  have hl := overC_len m V
  have hg : V[i]? = some V[i] := List.getElem?_eq_getElem (by omega)
  have hb := h V[i] (List.getElem_mem (by omega))
  have hc := cut_at (m := m) hb.2 hg (List.getElem?_eq_getElem hi)
  refine ⟨Nat.le_trans hc.1 hb.1, ?_⟩
  rw [hc.2]
  exact wrap_bd _
theorem BdC.fold {V : List GrC} (h : BdC V) (ms : List (List Rg)) : BdC (foldC ms V) := by
  unfold foldC
  induction ms generalizing V with
  | nil => exact h
  | cons m ms ih => exact ih (h.over m)
theorem BdC.rev {V : List GrC} (h : BdC V) : BdC V.reverse := fun g hg => h g (by simpa using hg)
/-- the bounds of groups as they lie -/
theorem BdC.n {w : World} {base : Nat} {L : List GrH} (h : BdC (L.map GrH.val)) (ho : ∀ g ∈ L, g.Own w base) : ∀ g ∈ L, g.n ≤ 1000 := fun g hg => by
  have h1 := (h g.val (List.mem_map.2 ⟨g, hg, rfl⟩)).1
  have h2 := (ho g hg).in_.sts.len
  simp only [GrH.val, List.length_map] at h1
  omega
theorem BdC.lb {L : List GrH} (h : BdC (L.map GrH.val)) : ∀ g ∈ L, -9223372036854775808 ≤ g.lost ∧ g.lost ≤ 9223372036854775807 := fun g hg => (h g.val (List.mem_map.2 ⟨g, hg, rfl⟩)).2
/-- a stack -/
structure StkAt (w : World) (base bs : Nat) (lv mv : Value) (depth : Int) (L : List GrH) (Ms : List MpH) : Prop where
  k : Bk w bs 157 #[.int .i64 depth, lv, mv]
  le : base ≤ bs
  l : w.ownsRow base 76 8 lv L.length (grs L)
  g : ∀ g ∈ L, g.Own w base
  m : w.ownsRow base 94 1 mv Ms.length (Ms.map MpH.val)
  ms : ∀ m ∈ Ms, w.ownsRow base 155 3 (.slice m.A m.n m.c) m.n (rgs m.l) ∧ m.n ≤ 1000
  nL : L.length ≤ 300
  nM : Ms.length ≤ 500
  bd : BdC (L.map GrH.val)
theorem StkAt.below {w w' : World} {base bs : Nat} {lv mv : Value} {depth : Int} {L : List GrH} {Ms : List MpH} (h : StkAt w base bs lv mv depth L Ms) (hb : Below w.heap.size w w') : StkAt w' base bs lv mv depth L Ms :=
  ⟨h.k.ext hb, h.le, own_below h.l hb, fun g hg => (h.g g hg).below hb, own_below h.m hb, fun m hm => ⟨own_below (h.ms m hm).1 hb, (h.ms m hm).2⟩, h.nL, h.nM, h.bd⟩
theorem mp_at {w : World} {B n : Nat} {A : Option Addr} {Ms : List MpH} (h : Rd w B 1 A n (Ms.map MpH.val)) {q : Nat} {m : MpH} (hq : Ms[q]? = some m) : ∃ b o, A = some ⟨b, o, none⟩ ∧ b < B ∧ w.cell? ⟨b, o + q, none⟩ = some (.slice m.A m.n m.c) := by
  have hl : Ms.length = n := by simpa using h.1
  have hlt : q < n := by rw [← hl]; exact (List.getElem?_eq_some_iff.1 hq).1
  obtain ⟨b, o, u, e, hb, hu, hc⟩ := h.at1 hlt
  rw [List.getElem?_map, hq] at hu
  injection hu with hu
  subst hu
  exact ⟨b, o, e, hb, hc⟩
set_option maxRecDepth 100000 in
set_option maxHeartbeats 4000000 in
theorem folded_any (base bs : Nat) (lv mv : Value) (depth : Int) (L : List GrH) (Ms : List MpH) (w : World) (h : StkAt w base bs lv mv depth L Ms) :
    Calls Tryz.prog 79 #[.pointer (some ⟨bs, 0, none⟩)] w (GrsOut (foldC (Ms.map MpH.l) (L.map GrH.val).reverse) w) := by
  obtain ⟨A1, c1, rfl, -, -, -, r1⟩ := own_form h.l
  obtain ⟨A2, c2, rfl, -, -, -, r2⟩ := own_form h.m
  have htu := turned_any A1 L.length c1 L w r1 (by have := h.nL; omega)
  have HTU := Lib.hid htu
  have HG := Lib.hid h.g
  have HMS := Lib.hid h.ms
  have HR2 := Lib.hid r2
  have HBD := Lib.hid h.bd
  have hnL := h.nL
  have hnM := h.nM
  have c0 := h.k.cell 1; have c2' := h.k.cell 2
  have HK := Lib.hid h.k
  dsimp at c0 c2'
  clear h htu r1 r2
  go_enter Tryz.func79, Tryz.ntmps79
  go_wp2_with (go_at_call 78; fail)
  refine HTU.out.mono ?_
  rintro e w1 ⟨v1, rfl, ho1, hb1⟩
  obtain ⟨A3, c3, rfl, -, -, -, r3⟩ := own_form ho1
  have hin3 : GrsIn w1 w1.heap.size A3 L.length L.reverse := ⟨r3, fun g hg => ((HG.out g (by simpa using hg)).below hb1).in_⟩
  have hcp := copy_any A3 L.length c3 L.reverse w1 hin3 (by omega) (fun g hg => HBD.out.n HG.out g (by simpa using hg))
  have HCP := Lib.hid hcp
  clear hcp hin3 r3 ho1
  go_wp2_with (go_at_call 75; fail)
  refine HCP.out.mono ?_
  intro e w2 ho2
  obtain ⟨A4, n4, c4, L4, rfl, hl4, o4, -, hO4, hV4, hb2⟩ := grs_out ho2
  have hn4 : n4 = L.length := by
    have := congrArg List.length hV4
    simp only [List.length_map, List.length_reverse] at this
    omega
  have hb12 : Below w.heap.size w w2 := hb1.trans (hb2.mono hb1.size)
  have k2 := HK.out.ext hb12
  have d2 := k2.cell 2
  dsimp at d2
  clear ho2 HCP HTU c0 c2'
  have HO4 := Lib.hid hO4
  have HV4 := Lib.hid hV4
  clear hO4 hV4
  go_wp2
  go_loopw [3, 17] (fun v j wr => ∃ (q : Nat) (A : Option Addr) (c : Nat) (Lc : List GrH), v = .slice A L.length c ∧ q ≤ Ms.length ∧ j = .int .i64 q ∧ Below w.heap.size w wr ∧ wr.ownsRow w.heap.size 76 8 (.slice A L.length c) L.length (grs Lc) ∧ Hid (∀ g ∈ Lc, g.Own wr w.heap.size) ∧ Hid (Lc.map GrH.val = foldC ((Ms.map MpH.l).take q) (L.map GrH.val).reverse)) (fun _ j _ => Ms.length - (intOf j).toNat)
  case atStart =>
    subst hn4
    exact ⟨0, A4, c4, L4, rfl, by omega, rfl, hb12, own_base o4 hb1.size, Lib.hid (fun g hg => (HO4.out g hg).base_ hb1.size), Lib.hid (by rw [HV4.out]; simp [foldC])⟩
  case round =>
    obtain ⟨q, A, c, Lc, rfl, hq, rfl, hbr, hown, hO, hV⟩ := hrel
    by_cases hqn : q < Ms.length
    · obtain ⟨m, hm⟩ : ∃ m, Ms[q]? = some m := ⟨_, List.getElem?_eq_getElem hqn⟩
      obtain ⟨b, o, rfl, hbb, hc⟩ := mp_at (HR2.out.below hbr) hm
      have hmo := HMS.out m (List.mem_of_getElem? hm)
      have hml : (Ms.map MpH.l).take (q + 1) = (Ms.map MpH.l).take q ++ [m.l] := by rw [List.take_add_one, List.getElem?_map, hm]; rfl
      have HML := Lib.hid hml
      have hbdc : BdC (Lc.map GrH.val) := by rw [hV.out]; exact HBD.out.rev.fold _
      have hov := over_any A L.length c Lc m.A m.n m.c m.l wr ⟨Rd.of_own hown, fun g hg => (hO.out g hg).in_⟩ (by omega) (hbdc.n hO.out) hbdc.lb ⟨(Rd.of_own hmo.1).below hbr |>.more hbr.size, hmo.2⟩
      have HOV := Lib.hid hov
      have e3 : (q : Int) < Ms.length := by omega
      clear hm hmo hml hbdc hov
      go_wp2_with (go_at_call 135; fail)
      refine HOV.out.mono ?_
      intro e w5 ho5
      obtain ⟨A5, n5, c5, L5, rfl, hl5, o5, -, hO5, hV5, hb5⟩ := grs_out ho5
      have hn5 : n5 = L.length := by
        have := congrArg List.length hV5
        rw [overC_len, List.length_map, List.length_map] at this
        have h2 := congrArg List.length hV.out
        rw [foldC_len, List.length_reverse, List.length_map, List.length_map] at h2
        omega
      subst hn5
      have hz := hbr.size
      clear ho5 HOV
      go_wp2
      go_roundw
      case rel => exact ⟨q + 1, A5, c5, L5, rfl, by omega, by go_num, hbr.trans (hb5.mono hz), own_base o5 hz, Lib.hid (fun g hg => (hO5 g hg).base_ hz), Lib.hid (by rw [hV5, hV.out, HML.out, foldC_snoc])⟩
      case measure => simp [intOf]; omega
    · obtain rfl : Ms.length = q := by omega
      go_wp2
      go_ret
      have hV' := hV.out
      rw [List.take_of_length_le (by simp)] at hV'
      have hll : Lc.length = L.length := by
        have h2 := congrArg List.length hV'
        rw [foldC_len, List.length_reverse, List.length_map, List.length_map] at h2
        exact h2
      exact ⟨_, Lc, rfl, by rw [hll]; exact hown, hO.out, hV', hbr⟩
end Go.Proofs.YtmacfoebfpljoaaGreat
/- stack: Fold; Steps; clones -/
namespace Go.Proofs.YtmacfoebfpljoaaGreat
open Go.RowKit
/-- what a stack's function leaves as it was, and whose its new rows are -/
def StkTo (bs : Nat) (lv mv lv' mv' : Value) (w w' : World) : Prop :=
  Stir (fun i => i = bs ∨ lv.ownBlock = some i ∨ mv.ownBlock = some i) w w' ∧ (∀ i, lv'.ownBlock = some i → lv.ownBlock = some i ∨ w.heap.size ≤ i) ∧ (∀ i, mv'.ownBlock = some i → mv.ownBlock = some i ∨ w.heap.size ≤ i)
section
variable {bs : Nat} {lv mv lv' mv' lv'' mv'' : Value} {w w' w'' : World}
theorem StkTo.of_below (h : Below w.heap.size w w') : StkTo bs lv mv lv mv w w' := ⟨Stir.of_below h, fun _ h => .inl h, fun _ h => .inl h⟩
theorem StkTo.trans (h : StkTo bs lv mv lv' mv' w w') (k : StkTo bs lv' mv' lv'' mv'' w' w'') : StkTo bs lv mv lv'' mv'' w w'' := by
  have hs := h.1.size
  refine ⟨h.1.fresh k.1 (fun i hi => ?_), fun i hi => ?_, fun i hi => ?_⟩
  · rcases hi with hi | hi | hi
    · exact .inl (.inl hi)
    · rcases h.2.1 i hi with h1 | h1
      · exact .inl (.inr (.inl h1))
      · exact .inr h1
    · rcases h.2.2 i hi with h1 | h1
      · exact .inl (.inr (.inr h1))
      · exact .inr h1
  · rcases k.2.1 i hi with h1 | h1
    · exact h.2.1 i h1
    · exact .inr (Nat.le_trans hs h1)
  · rcases k.2.2 i hi with h1 | h1
    · exact h.2.2 i h1
    · exact .inr (Nat.le_trans hs h1)
theorem StkTo.below {base : Nat} {depth : Int} {L : List GrH} {Ms : List MpH} (h : StkTo bs lv mv lv' mv' w w') (hs : StkAt w base bs lv mv depth L Ms) : Below base w w' := by
  refine h.1.below (fun i hi => ?_) (Nat.le_of_lt (Nat.lt_of_le_of_lt hs.le (def_lt' hs.k)))
  rcases hi with rfl | hi | hi
  · exact hs.le
  · exact own_ge hs.l i hi
  · exact own_ge hs.m i hi
end
/-- a stack behind a function: nothing else comes out -/
def StkOut (base bs : Nat) (lv mv : Value) (depth : Int) (V : List GrC) (Ms : List (List Rg)) (w w' : World) : Prop := ∃ lv' mv' L' Ms', StkAt w' base bs lv' mv' depth L' Ms' ∧ L'.map GrH.val = V ∧ Ms'.map MpH.l = Ms ∧ StkTo bs lv mv lv' mv' w w'
/-- what folding makes of groups, the oldest one first -/
def foldV (ms : List (List Rg)) (V : List GrC) : List GrC := if ms = [] then V else (foldC ms V.reverse).reverse
theorem foldV_len (ms : List (List Rg)) (V : List GrC) : (foldV ms V).length = V.length := by
  unfold foldV
  split
  · rfl
  · simp [foldC_len]
theorem BdC.foldV {V : List GrC} (h : BdC V) (ms : List (List Rg)) : BdC (foldV ms V) := by
  unfold Go.Proofs.YtmacfoebfpljoaaGreat.foldV
  split
  · exact h
  · exact (h.rev.fold ms).rev
set_option maxRecDepth 100000 in
set_option maxHeartbeats 4000000 in
theorem fold_any (base bs : Nat) (lv mv : Value) (depth : Int) (L : List GrH) (Ms : List MpH) (w : World) (h : StkAt w base bs lv mv depth L Ms) :
    Calls Tryz.prog 28 #[.pointer (some ⟨bs, 0, none⟩)] w fun e w' => (∃ v, e = .returned v) ∧ StkOut base bs lv mv depth (foldV (Ms.map MpH.l) (L.map GrH.val)) [] w w' := by
  obtain ⟨A2, c2, rfl, -, -, -, r2⟩ := own_form h.m
  have c0 := h.k.cell 2
  dsimp at c0
  have HS := Lib.hid h
  have hlt := def_lt' h.k
  rcases Nat.eq_zero_or_pos Ms.length with h0 | h0
  · obtain rfl : Ms = [] := List.eq_nil_of_length_eq_zero h0
    have c0' : w.cell? ⟨bs, 2, none⟩ = some (.slice A2 0 c2) := c0
    clear h r2 c0 h0
    go_enter Tryz.func28, Tryz.ntmps28
    go_wp2
    refine bodyPost_ret (results_none rfl _ _ _) rfl ⟨⟨_, rfl⟩, _, _, L, [], HS.out, rfl, rfl, StkTo.of_below (Below.refl _ _)⟩
  · have hfo := folded_any base bs lv _ depth L Ms w h
    have HFO := Lib.hid hfo
    have e1 : ((Ms.length : Int) == 0) = false := beq_false_of_ne (by omega)
    have hfv : foldV (Ms.map MpH.l) (L.map GrH.val) = (foldC (Ms.map MpH.l) (L.map GrH.val).reverse).reverse := by
      unfold foldV
      rw [if_neg (fun e => by rw [List.map_eq_nil_iff] at e; subst e; simp at h0)]
    have HFV := Lib.hid hfv
    have hbz : base ≤ w.heap.size := Nat.le_of_lt (Nat.lt_of_le_of_lt h.le hlt)
    clear h r2 hfo hfv
    go_enter Tryz.func28, Tryz.ntmps28
    go_wp2_with (go_at_call 79; fail)
    refine HFO.out.mono ?_
    intro e w1 ho1
    obtain ⟨A1, n1, c1, L1, rfl, hl1, o1, hin1, hO1, hV1, hb1⟩ := grs_out ho1
    have hn1 : n1 = L.length := by
      have := congrArg List.length hV1
      rw [foldC_len, List.length_reverse, List.length_map, List.length_map] at this
      omega
    subst hn1
    have htu := turned_any A1 L.length c1 L1 w1 hin1.1 (by have := HS.out.nL; omega)
    have HTU := Lib.hid htu
    clear ho1 hin1 htu
    go_wp2_with (go_at_call 78; fail)
    refine HTU.out.mono ?_
    rintro e w2 ⟨v2, rfl, o2, hb2⟩
    obtain ⟨A3, c3, rfl, -, -, -, -⟩ := own_form o2
    have hb12 : Below w.heap.size w w2 := hb1.trans (hb2.mono hb1.size)
    have k2 := HS.out.k.ext hb12
    have d0 := k2.cell 0; have d1 := k2.cell 1; have d2 := k2.cell 2; have f2 := k2.frozen; have l2 := def_lt' k2
    dsimp at d0 d1 d2
    go_wp2
    have gr2 : w2.grownBy ((w2.setCell ⟨bs, 1, none⟩ (.slice A3 L.length c3)).setCell ⟨bs, 2, none⟩ (.slice none 0 0)) (some bs) := gr_set (p := ⟨bs, 2, none⟩) (gr_set (p := ⟨bs, 1, none⟩) (World.grownBy.refl _ _) (.inl rfl) _) (.inl rfl) _
    have kf : Bk ((w2.setCell ⟨bs, 1, none⟩ (.slice A3 L.length c3)).setCell ⟨bs, 2, none⟩ (.slice none 0 0)) bs 157 #[.int .i64 depth, .slice A3 L.length c3, .slice none 0 0] := (k2.set_ 1 _).set_ 2 _
    have hz1 := hb1.size
    have hz2 := hb2.size
    go_end0
    refine ⟨⟨_, rfl⟩, .slice A3 L.length c3, .slice none 0 0, L1.reverse, [], ⟨kf, HS.out.le, ?_, ?_, World.ownsRow_nil _ _ _ _, fun m hm => (by cases hm), ?_, (by simp), ?_⟩, ?_, rfl, ?_, ?_, ?_⟩
    · have h1 := own_base o2 (Nat.le_trans hbz hz1)
      have h2 := own_grow h1 gr2 (fun g e => by injection e with e; subst e; exact own_ne h1 k2 (by decide))
      rw [List.length_reverse, hl1]
      exact h2
    · intro g hg
      exact (((hO1 g (by simpa using hg)).base_ hbz).below hb2).grown k2 gr2 (by decide) (by decide) (by decide)
    · have := HS.out.nL
      simp only [List.length_reverse]
      omega
    · rw [List.map_reverse, hV1, ← HFV.out]
      exact HS.out.bd.foldV _
    · rw [List.map_reverse, hV1, HFV.out]
    · exact (Stir.of_below hb12).fresh (Stir.of_gr gr2 (X := fun i => i = bs) (fun i e => by injection e with e; exact e.symm)) (fun i hi => .inl (.inl hi))
    · intro i hi
      have := own_ge o2 i hi
      exact .inr (by omega)
    · intro i hi
      cases hi
/-- how many steps groups have -/
def totC (V : List GrC) : Nat := (V.map fun g => g.steps.length).sum
set_option maxRecDepth 100000 in
set_option maxHeartbeats 4000000 in
theorem steps_any (A : Option Addr) (n c : Nat) (L : List GrH) (w : World) (h : GrsIn w w.heap.size A n L) (hn : n ≤ 1000) (hs : ∀ g ∈ L, g.n ≤ 1000) :
    Calls Tryz.prog 82 #[.slice A n c] w fun e w' => e = .returned (.int .i64 (totC (L.map GrH.val) : Nat)) ∧ Below w.heap.size w w' := by
  have hlen := h.len
  have H := Lib.hid h
  have HS := Lib.hid hs
  have HLEN := Lib.hid hlen
  clear h hs hlen
  go_enter Tryz.func82, Tryz.ntmps82
  go_wp2
  go_loopw [3, 8] (fun t j wr => ∃ q s : Nat, q ≤ n ∧ s ≤ 1000 * q ∧ j = .int .i64 q ∧ t = .int .i64 s ∧ Hid (s = totC ((L.take q).map GrH.val)) ∧ Below w.heap.size w wr) (fun _ j _ => n - (intOf j).toNat)
  case atStart => exact ⟨0, 0, by omega, by omega, rfl, rfl, Lib.hid (by simp [totC]), Below.refl _ _⟩
  case round =>
    obtain ⟨q, s, hq, hs, rfl, rfl, hst, hbr⟩ := hrel
    by_cases hqn : q < n
    · obtain ⟨g, hx⟩ : ∃ g, L[q]? = some g := ⟨_, List.getElem?_eq_getElem (by have := HLEN.out; omega)⟩
      obtain ⟨gin, b, o, rfl, hb, hcc⟩ := (H.out.below hbr).at_ hx
      have hgn := HS.out g (List.mem_of_getElem? hx)
      have hgl : g.L.length = g.n := gin.sts.len
      have hsn : totC ((L.take (q + 1)).map GrH.val) = totC ((L.take q).map GrH.val) + g.n := by
        rw [List.take_add_one, hx]
        simp [totC, GrH.val, hgl]
      have HSN := Lib.hid hsn
      have d0 := hcc 0 (by omega); have d1 := hcc 1 (by omega); have d2 := hcc 2 (by omega); have d3 := hcc 3 (by omega); have d4 := hcc 4 (by omega); have d5 := hcc 5 (by omega); have d6 := hcc 6 (by omega); have d7 := hcc 7 (by omega)
      dsimp [GrH.cells] at d0 d1 d2 d3 d4 d5 d6 d7
      have e3 : (q : Int) < n := by omega
      have e4 : IntKind.i64.wrap ((s : Int) + g.n) = ((s + g.n : Nat) : Int) := by rw [IntWalk.i64_in _ (by omega)]; omega
      have hbz := hbr.size
      clear hx hcc gin hsn hgl
      go_wp2
      go_roundw
      case rel => exact ⟨q + 1, s + g.n, by omega, by omega, by go_num, by go_num, Lib.hid (by rw [HSN.out, hst.out]), belowA⟩
      case measure => simp [intOf]; omega
    · obtain rfl : n = q := by omega
      have hs' : Hid (s = totC (L.map GrH.val)) := Lib.hid (by have := hst.out; rwa [List.take_of_length_le (by rw [HLEN.out]; omega)] at this)
      go_wp2
      go_ret
      exact ⟨by rw [hs'.out]; rfl, hbr⟩
end Go.Proofs.YtmacfoebfpljoaaGreat
