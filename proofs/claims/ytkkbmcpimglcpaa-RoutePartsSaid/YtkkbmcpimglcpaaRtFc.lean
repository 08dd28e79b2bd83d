/- route: slices.Backward over a row of maps, and what it gives; a range over a function that leans on memory which the rounds leave alone -/
import Derived.Test.YtkkbmcpimglcpaaCh
import Derived.Test.YtkkbmcpimglcpaaRtF
namespace Go.Proofs.Ytkkbmcpimglcpaa
open Go.RowKit

/-- THE SAME, of an iterator that leans on what 'K' says: function gf at what it has captured, lb, gives xs in order, or a beginning of it. Between two rounds it may make blocks of its own (W1 over W); the round keeps these and what lies below n₀. -/
def GivesK {α : Type} (P : Program) (gf : Nat) (lb : Array Value) (encs : α → Array Value) (n₀ : Nat) (xs : List α) (w0 : World) (Kp : World → Prop) : Prop :=
  ∀ (l : Nat) (J Jx : List α → World → Prop) (W : World), Below w0.heap.size w0 W → (∀ s A, J s A → Kp A) → (∀ s A B, J s A → Below A.heap.size A B → J s B) → (∀ s A B, Jx s A → Below A.heap.size A B → Jx s B) →
    (∀ pre x A W1, J pre A → pre ++ [x] <+: xs → Below A.heap.size A W1 → RoundAt P l (encs x) W1 fun e W' =>
      (e = .returned (.bool true) ∧ J (pre ++ [x]) W' ∧ Below n₀ W1 W' ∧ Mid A.heap.size W1.heap.size W1 W') ∨ (e = .returned (.bool false) ∧ Jx (pre ++ [x]) W')) →
    J [] W →
    CallsIn Fence.wide 9 P gf (#[.func (.yield l) #[] #[]] ++ lb) W fun e W' => (∃ v, e = .returned v) ∧ (J xs W' ∨ ∃ pre, pre <+: xs ∧ Jx pre W')

theorem range_mine_k {P : Program} {α : Type} {g : Operand} {ps : Array Tmp} {assign body : Code} {Q : Exit → Act → World → Prop} {a : Act} {w : World}
    {gf : Nat} {lb : Array Value} (hg : a.eval g = .func (.func gf) #[] lb) (eg : ∀ args w, (callFunc gf args).run P w = .ok (.enter gf args) w)
    {encs : α → Array Value} {n₀ : Nat} {xs : List α} {w0 : World} {Kp : World → Prop} (hgives : GivesK P gf lb encs n₀ xs w0 Kp)
    (hb0 : Below w0.heap.size w0 w) (hn₀ : n₀ ≤ w.heap.size) (hps : ∀ x, (encs x).size = ps.size)
    (I : List α → World → Prop) (Ix : Code → List α → World → Prop) (hI : OwnFrom w.heap.size I) (hIx : ∀ c, OwnFrom w.heap.size (Ix c)) (h0 : I [] w) (hK : ∀ s W, I s W → Kp W)
    (hround : ∀ (l : Nat) (pre : List α) (x : α) (W1 : World) (K : Act → World → Prop),
      (∀ a', (∀ W0 W2, I pre W0 → Below W0.heap.size W0 W2 → pre ++ [x] <+: xs → w.heap.size ≤ W0.heap.size → body.wpIn (Fence.wide.inRound l) 8 P (postR w.heap.size n₀ I Ix (pre ++ [x]) W0 W2) a' W2) → K a' W1) →
      assign.wpIn (Fence.wide.inRound l) 8 P (Exit.then K (fun _ _ _ => False)) { tmps := (ps.zip (encs x)).foldl (fun t (p, v) => t.setIfInBounds p v) a.tmps, defers := [] } W1)
    (hdone : ∀ (D : Nat) (W : World), w.heap.size ≤ D → I xs W → W.heap[D]? = some (.deferred (some [])) → Q .normal { a with defers := { target := .collected D, args := #[] } :: a.defers } W)
    (hstop : ∀ (D : Nat) (c : Code) (pre : List α) (W : World), w.heap.size ≤ D → pre <+: xs → Ix c pre W → W.heap[D]? = some (.deferred (some [])) → c.wpIn Fence.wide 10 P Q { a with defers := { target := .collected D, args := #[] } :: a.defers } W) :
    (Code.rangeFunc g ps assign body).wpIn Fence.wide 10 P Q a w := by
  refine wpIn_rangeFunc ?_
  intro fn hfn
  -- the loop's record, in each of its states
  let rc : LoopState → Option Code → Obj := fun st pe => .loop { state := st, pending := pe, fn, tmps := a.tmps, params := ps, assign, body, defers := w.heap.size }
  let M := w.heap.size
  have hM : w.heap.size = M := rfl
  let W1 := (w.alloc (.deferred (some []))).alloc (rc .ready none)
  have hsz : W1.heap.size = M + 2 := by show ((w.alloc _).alloc _).heap.size = _; simp [hM]
  have hbel : Below M w W1 := ((Below.refl _ w).alloc (Nat.le_refl _) _).alloc (by simp [hM]) _
  have hL1 : W1.heap[M + 1]? = some (rc .ready none) := by
    have := World.alloc_heap_new (w.alloc (.deferred (some []))) (rc .ready none)
    rwa [World.size_alloc] at this
  have hD1 : W1.heap[M]? = some (.deferred (some [])) := (Below.heap_alloc _ _ _ (by simp [hM])).trans (World.alloc_heap_new w _)
  refine ⟨M + 1, [{ target := .collected M, args := #[] }], W1, { target := .fn (.func gf) lb, args := #[.func (.yield (M + 1)) #[] #[]] }, W1, gf,
    #[.func (.yield (M + 1)) #[] #[]] ++ lb, W1, run_enterLoop_outer _ _ _ _ _, ?_, fun _ _ => trivial, ?_, fun _ => by omega, ?_⟩
  · simp only [resolve, hg]; simp [go_sem]
  · simp [invoke, go_sem, eg]
  refine (hgives (M + 1)
    (fun pre W => I pre W ∧ W.heap[M + 1]? = some (rc .ready none) ∧ W.heap[M]? = some (.deferred (some [])))
    (fun pre W => ∃ c, Ix c pre W ∧ W.heap[M + 1]? = some (rc .done (some c)) ∧ W.heap[M]? = some (.deferred (some [])))
    W1 (hb0.trans (hbel.mono hb0.size)) (fun s A h => hK s A h.1)
    (fun s A B ⟨h1, h2, h3⟩ hb => ⟨ownFrom_ext hI h1 hb, (hb.block _ (def_lt' h2)).trans h2, (hb.block _ (def_lt' h3)).trans h3⟩)
    (fun s A B ⟨c, h1, h2, h3⟩ hb => ⟨c, ownFrom_ext (hIx c) h1 hb, (hb.block _ (def_lt' h2)).trans h2, (hb.block _ (def_lt' h3)).trans h3⟩)
    ?_ ⟨ownFrom_ext hI h0 hbel, hL1, hD1⟩).mono ?_
  · -- one round
    rintro pre x A B ⟨hi, hl, hd⟩ hpre hAB
    have hlA := def_lt' hl
    have hlB : B.heap[M + 1]? = some (rc .ready none) := (hAB.block _ hlA).trans hl
    have hdB : B.heap[M]? = some (.deferred (some [])) := (hAB.block _ (by omega)).trans hd
    refine ⟨fn, _, assign, body, run_yield (P := P) (args := encs x) hlB (by exact hps x), roundIn_of_wpIn trivial (hround (M + 1) pre x B _ ?_)⟩
    intro a' hbody
    refine ⟨_, run_beginRound hlB rfl, ?_⟩
    let A0 := A.putObj (M + 1) (rc .busy none)
    let B2 := B.putObj (M + 1) (rc .busy none)
    have hi0 : I pre A0 := hI.putObj _ hi (by omega) hl rfl
    have hA0 : A0.heap.size = A.heap.size := World.putObj_size
    have hB2 : B2.heap.size = B.heap.size := World.putObj_size
    have hext : Below A0.heap.size A0 B2 := by
      refine ⟨hAB.os, hAB.tape, hAB.output, by rw [hA0, hB2]; exact hAB.size, fun k hk => ?_⟩
      rw [hA0] at hk
      by_cases e : k = M + 1
      · subst e
        rw [World.putObj_heap_same (by have := hAB.size; omega), World.putObj_heap_same hlA]
      · rw [World.putObj_heap_other e, World.putObj_heap_other e]
        exact hAB.block k hk
    have hl2 : B2.heap[M + 1]? = some (rc .busy none) := World.putObj_heap_same (by have := hAB.size; omega)
    have hd2 : B2.heap[M]? = some (.deferred (some [])) := (World.putObj_heap_other (by omega)).trans hdB
    refine wpIn_mono (hbody A0 B2 hi0 hext hpre (by rw [hA0]; omega)) ?_
    have fin : ∀ (jump : Option Code) (C : World), KeepsFrom M B2 C →
        (Instr.endRound (M + 1) jump).run P C = .ok (.bool jump.isNone) (C.putObj (M + 1) (rc (if jump.isNone then .ready else .done) jump)) ∧ C.heap[M + 1]? = some (rc .busy none) ∧
        (C.putObj (M + 1) (rc (if jump.isNone then .ready else .done) jump)).heap[M + 1]? = some (rc (if jump.isNone then .ready else .done) jump) ∧
        (C.putObj (M + 1) (rc (if jump.isNone then .ready else .done) jump)).heap[M]? = some (.deferred (some [])) := fun jump C hk => by
      have h1 := hk.same _ _ (by omega) hl2 rfl
      exact ⟨run_endRound (P := P) jump h1, h1, World.putObj_heap_same (def_lt' h1), (World.putObj_heap_other (by omega)).trans (hk.same _ _ (Nat.le_refl _) hd2 rfl)⟩
    rintro e a3 C hp
    cases e with
    | normal =>
      obtain ⟨hk, hb, hm, hi3⟩ := hp
      obtain ⟨hr, h1, h2, h3⟩ := fin none C hk
      refine ⟨_, _, hr, .inl ⟨rfl, ⟨hI.putObj _ hi3 (by omega) h1 rfl, h2, h3⟩, ?_, ?_⟩⟩
      · have b1 : Below n₀ B B2 := below_putObj (by omega)
        exact (b1.trans hb).trans (below_putObj (by omega))
      · intro k hk1 hk2
        rw [World.putObj_heap_other (by omega), hm k (by rw [hA0]; exact hk1) (by rw [hB2]; exact hk2), World.putObj_heap_other (by omega)]
    | ret =>
      obtain ⟨hk, hi3⟩ := hp
      obtain ⟨hr, h1, h2, h3⟩ := fin (some .ret) C hk
      exact ⟨_, _, hr, .inr ⟨rfl, .ret, (hIx _).putObj _ hi3 (by omega) h1 rfl, h2, h3⟩⟩
    | exit id =>
      obtain ⟨hk, hi3⟩ := hp
      obtain ⟨hr, h1, h2, h3⟩ := fin (some (.exit id)) C hk
      exact ⟨_, _, hr, .inr ⟨rfl, .exit id, (hIx _).putObj _ hi3 (by omega) h1 rfl, h2, h3⟩⟩
    | goto t =>
      obtain ⟨hk, hi3⟩ := hp
      obtain ⟨hr, h1, h2, h3⟩ := fin (some (.goto t)) C hk
      exact ⟨_, _, hr, .inr ⟨rfl, .goto t, (hIx _).putObj _ hi3 (by omega) h1 rfl, h2, h3⟩⟩
    | panic ch => exact hp.elim
    | outgrown => exact hp.elim
  · rintro e C ⟨⟨v, rfl⟩, (⟨hi, hl, hd⟩ | ⟨pre, hpre, c, hi, hl, hd⟩)⟩
    · exact ⟨none, _, run_endLoop (P := P) hl (by simp), hdone M _ (Nat.le_refl _) (hI.putObj _ hi (by omega) hl rfl) ((World.putObj_heap_other (by omega)).trans hd)⟩
    · exact ⟨some c, _, run_endLoop (P := P) hl (by simp), hstop M c pre _ (Nat.le_refl _) hpre ((hIx c).putObj _ hi (by omega) hl rfl) ((World.putObj_heap_other (by omega)).trans hd)⟩
end Go.Proofs.Ytkkbmcpimglcpaa

namespace Go.Proofs.Ytkkbmcpimglcpaa
open Go.RowKit
attribute [local go_sem] Oper.semAt_some

set_option maxHeartbeats 400000 in
theorem backward_any (A : Option Addr) (n c : Nat) (w : World) :
    Calls Try.prog 46 #[.slice A n c] w fun e w' => e = .returned (.func (.func 50) #[] #[.pointer (some ⟨w.heap.size, 0, none⟩)]) ∧ w.alloc (.cells #[.slice A n c] 48) = w' := by
  go_enter Try.func46, Try.ntmps46
  go_wp2
  go_ret
  exact ⟨rfl, rfl⟩

/-- what comes of a row from its end: the number of each, and it -/
def backAt (vs : List Value) (k : Nat) : Nat × Value := (vs.length - 1 - k, vs.getD (vs.length - 1 - k) (.bool false))
def backs (vs : List Value) (k : Nat) : List (Nat × Value) := (List.range k).map (backAt vs)
theorem backs_succ (vs : List Value) (k : Nat) : backs vs (k + 1) = backs vs k ++ [backAt vs k] := by simp [backs, List.range_succ]
theorem backs_length (vs : List Value) (k : Nat) : (backs vs k).length = k := by simp [backs]
abbrev encB (x : Nat × Value) : Array Value := #[.int .i64 (x.1 : Int), x.2]
theorem backs_take (vs : List Value) {k n : Nat} (h : k ≤ n) : backs vs k <+: backs vs n := by
  obtain ⟨d, rfl⟩ : ∃ d, n = k + d := ⟨n - k, by omega⟩
  refine ⟨((List.range d).map (fun i => k + i)).map (backAt vs), ?_⟩
  rw [backs, backs, ← List.map_append, List.range_add]

set_option maxRecDepth 100000 in
set_option maxHeartbeats 2000000 in
theorem backward_gives (Bs n₀ n : Nat) (A : Option Addr) (c : Nat) (vs : List Value) (w : World) (hn : n ≤ maxLen) (hn₀ : n₀ ≤ w.heap.size) (hrd : Rd w n₀ 1 A n vs) :
    GivesK Try.prog 50 #[.pointer (some ⟨Bs, 0, none⟩)] encB n₀ (backs vs n) w (fun W => W.cell? ⟨Bs, 0, none⟩ = some (.slice A n c)) := by
  intro l J Jx W hW hJK hJ hJx hY h0
  have hrd' := hrd.below (hW.mono hn₀)
  have hn₀' : n₀ ≤ W.heap.size := Nat.le_trans hn₀ hW.size
  have hBs := hJK _ _ h0
  clear hrd hn₀ hW
  have hvl : vs.length = n := by simpa using hrd'.1
  unfold maxLen at hn
  have HJ := Lib.hid hJ
  have HJx := Lib.hid hJx
  clear hJ hJx
  refine callsIn_of_wp Try.func50 rfl trivial ?_ rfl
  simp only [Try.ntmps50, List.size_toArray, List.length_cons, List.length_nil, Nat.reduceAdd, Nat.reduceSub, Array.replicate_succ, Array.replicate_zero, List.push_toArray, List.append_toArray, List.nil_append, List.cons_append]
  have e0 : IntKind.i64.wrap ((n : Int) - 1) = (n : Int) - 1 := IntWalk.i64_in _ (by omega)
  gi_wp2
  gi_loopw [3] (fun i wr => ∃ k : Nat, k ≤ n ∧ i = .int .i64 ((n : Int) - 1 - k) ∧ J (backs vs k) wr ∧ Below n₀ W wr) (fun i _ => (intOf i + 1).toNat)
  case atStart => exact ⟨0, by omega, by simp, h0, Below.refl _ _⟩
  case round =>
    obtain ⟨k, hk, rfl, hJs, hbr⟩ := hrel
    have hBr := hJK _ _ hJs
    by_cases hkn : k < n
    · obtain ⟨ι, hι⟩ : ∃ ι : Nat, ι = n - 1 - k := ⟨_, rfl⟩
      have hιe : (n : Int) - 1 - k = (ι : Int) := by omega
      obtain ⟨b, o, u, rfl, hbB, hu, hcu⟩ := (hrd'.below hbr).at1 (k := ι) (by omega)
      have hx : backAt vs k = (ι, u) := by unfold backAt; rw [hvl, ← hι, List.getD_eq_getElem?_getD, hu]; rfl
      obtain ⟨fn, tmps, assign, body, hy, hR⟩ := hY _ (backAt vs k) wr wr hJs (by rw [← backs_succ]; exact backs_take vs (by omega)) (Below.refl _ _)
      rw [hx] at hy hR
      dsimp only [encB] at hy
      rw [← hx, ← backs_succ] at hR
      have HRR := Lib.hid hR
      clear hR
      rw [hιe]
      have e1 : (ι : Int) < n := by omega
      have e4 : IntKind.i64.wrap ((ι : Int) - 1) = (ι : Int) - 1 := IntWalk.i64_in _ (by omega)
      have HI := Lib.hid hιe
      clear hι hιe hx hu
      gi_wp2
      refine HRR.out.mono ?_
      rintro e W3 (⟨rfl, hJ3, hb3, hm3⟩ | ⟨rfl, hJx3⟩)
      · clear hm3
        gi_wp2
        go_roundw
        case rel => exact ⟨k + 1, by omega, by (have := HI.out; go_num), hJ3, hbr.trans hb3⟩
        case measure => have := HI.out; simp [intOf]
      · gi_wp2
        refine bodyPost_ret (results_none rfl _ _ _) rfl ?_
        exact ⟨⟨_, rfl⟩, .inr ⟨_, backs_take vs (by omega), hJx3⟩⟩
    · obtain rfl : n = k := by omega
      gi_wp2
      go_end0
      exact ⟨⟨_, rfl⟩, .inl hJs⟩
end Go.Proofs.Ytkkbmcpimglcpaa
