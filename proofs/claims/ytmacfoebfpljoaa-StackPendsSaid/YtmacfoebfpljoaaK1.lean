/- a region that draws its order, whose last operation waits for all the others: S holds till that one is carried out -/
import Derived.Test.YtmacfoebfpljoaaP
namespace Go.Proofs.Ytmacfoebfpljoaa
open Go.RowKit

section
variable {P : Program} {ops : Array Oper} {Q : Exit → Act → World → Prop} {md : Region.Mode} {S : World → Prop} {k : Nat}

/-- whatever comes up, S holds behind it, unless it is the k-th -/
def AnyK (P : Program) (md : Region.Mode) (ops : Array Oper) (Q : Exit → Act → World → Prop) (S : World → Prop) (k : Nat) : Nat → Array Bool → Act → World → Prop
  | 0, l, a, w => Region.ready md ops l = [] ∧ Q .normal a w
  | n + 1, l, a, w => (Region.ready md ops l = [] → Q .normal a w) ∧ ∀ i ∈ Region.ready md ops l, wpOp P ops Q i (fun a' w' => (i ≠ k → S w') ∧ AnyK P md ops Q S k n (l.setIfInBounds i true) a' w') a w

theorem any_of_K (n : Nat) : ∀ (l : Array Bool) (a : Act) (w : World), AnyK P md ops Q S k n l a w → wpAny P md ops Q n l a w := by
  induction n with
  | zero => intro l a w h; exact h
  | succ n ih => intro l a w h; exact ⟨h.1, fun i hi => wpOp_mono (fun a' w' h' => ih _ a' w' h'.2) (h.2 i hi)⟩

/-- k waits for i -/
def waits (md : Region.Mode) (ops : Array Oper) (k i : Nat) : Bool := match ops[k]? with | some o => o.after.any fun e => Region.binds md e && decide (e.on = i) | none => true
theorem not_ready {i : Nat} {l : Array Bool} (hw : waits md ops k i = true) (hi : l.getD i true = false) : k ∉ Region.ready md ops l := by
  intro hk
  obtain ⟨_, o, ho, hall⟩ := mem_ready.1 hk
  unfold waits at hw
  rw [ho] at hw
  obtain ⟨e, he, hb⟩ := Array.any_eq_true'.1 hw
  simp only [Bool.and_eq_true, decide_eq_true_eq] at hb
  have := hall e he hb.1
  rw [hb.2] at this
  rcases Nat.lt_or_ge i l.size with h | h
  · simp [h] at hi this; rw [this] at hi; cases hi
  · simp [Array.getElem?_eq_none h] at hi

/-- operation i is taken first: k waits for it -/
theorem takeK {i : Nat} {oi : Oper} {v : Value} (hi : ops[i]? = some oi) (hsel : ∀ (j : Nat) (o : Oper) cs b, ops[j]? = some o → o.op ≠ .select cs b)
    (hQ : ∀ c a w, Q (.panic c) (a.put oi.dst v) w → Q (.panic c) a w) (hwt : waits md ops k i = true) (n : Nat) :
    ∀ (l : Array Bool) (a : Act) (w : World), (∀ j oj, ops[j]? = some oj → j ≠ i → l.getD j true = false → (∀ e ∈ oj.after, Region.binds md e = true → e.on ≠ i) → oi.apart ops oj = true) →
      i ∈ Region.ready md ops l → YieldsIf P ops S oi v a → S w → AnyK P md ops Q S k n (l.setIfInBounds i true) (a.put oi.dst v) w → AnyK P md ops Q S k (n + 1) l a w := by
  have other : ∀ {l : Array Bool} {j : Nat}, i ∈ Region.ready md ops l → j ∈ Region.ready md ops l → j ≠ i → j ≠ k ∧ l.getD j true = false ∧ ∃ oj, ops[j]? = some oj ∧ ∀ e ∈ oj.after, Region.binds md e = true → e.on ≠ i := by
    intro l j hr hj hji
    refine ⟨fun e => not_ready hwt (mem_ready.1 hr).1 (e ▸ hj), ?_⟩
    obtain ⟨h1, oj, h2, h3⟩ := mem_ready.1 hj
    refine ⟨h1, oj, h2, fun e he hb heq => ?_⟩
    have hx := h3 e he hb
    have h0 := (mem_ready.1 hr).1
    rw [heq] at hx
    rcases Nat.lt_or_ge i l.size with h | h
    · simp [h] at h0 hx; rw [h0] at hx; cases hx
    · simp [Array.getElem?_eq_none h] at h0
  induction n with
  | zero =>
    intro l a w hfree hr hy hS H
    refine ⟨fun h => absurd (h ▸ hr) (by simp), fun j hj => ?_⟩
    by_cases hji : j = i
    · subst hji; exact hy.wpOp hi hS ⟨fun _ => hS, H⟩
    · exact absurd (H.1 ▸ ready_mono hj hji) (by simp)
  | succ n ih =>
    intro l a w hfree hr hy hS H
    refine ⟨fun h => absurd (h ▸ hr) (by simp), fun j hj => ?_⟩
    by_cases hji : j = i
    · subst hji; exact hy.wpOp hi hS ⟨fun _ => hS, H⟩
    obtain ⟨hjk, hjun, oj, hoj, hnot⟩ := other hr hj hji
    refine wpOp_mono (fun a' w' h3 => ⟨fun _ => h3.2.1 hjk, ih (l.setIfInBounds j true) a' w' ?_ (ready_mono hr (Ne.symm hji)) h3.1 (h3.2.1 hjk) ?_⟩)
      (wpOp_putIf hoj (hfree j oj hoj hji hjun hnot) (fun cs b => hsel i oi cs b hi) (fun cs b => hsel j oj cs b hoj) hQ hy (H.2 j (ready_mono hj hji)))
    · intro m om hom hmi hun hno
      refine hfree m om hom hmi ?_ hno
      by_cases hjm : j = m
      · subst hjm; exact hjun
      · rw [getD_set_ne true hjm] at hun; exact hun
    · rw [Array.setIfInBounds_comm _ _ hji]
      exact h3.2.2

theorem takeK_if {i : Nat} {oi : Oper} {v : Value} {n : Nat} {l : Array Bool} {a : Act} {w : World} (hi : ops[i]? = some oi)
    (hs : Region.noSelect ops = true) (hf : Region.free md ops l i = true) (hr : ((Region.ready md ops l).contains i && waits md ops k i) = true)
    (hQ : ∀ c a w, Q (.panic c) (a.put oi.dst v) w → Q (.panic c) a w) (hw : Region.wanted oi (yielded ops a.tmps) = true) (hy : ∀ w, S w → (execOp a.eval oi).run P w = .ok (.value v) w) (hS : S w)
    (h : AnyK P md ops Q S k n (l.setIfInBounds i true) (a.put oi.dst v) w) : AnyK P md ops Q S k (n + 1) l a w := by
  rw [Bool.and_eq_true] at hr
  exact takeK hi (Region.noSelect_spec hs) hQ hr.2 n l a w (Region.free_spec hi hf) (by simpa using hr.1) (.inl ⟨hw, hy⟩) hS h
theorem takeK_not {i : Nat} {oi : Oper} {n : Nat} {l : Array Bool} {a : Act} {w : World} (hi : ops[i]? = some oi)
    (hs : Region.noSelect ops = true) (hf : Region.free md ops l i = true) (hr : ((Region.ready md ops l).contains i && waits md ops k i) = true)
    (hQ : ∀ c a w, Q (.panic c) (a.put oi.dst undef) w → Q (.panic c) a w) (hw : Region.wanted oi (yielded ops a.tmps) = false) (hS : S w)
    (h : AnyK P md ops Q S k n (l.setIfInBounds i true) (a.put oi.dst undef) w) : AnyK P md ops Q S k (n + 1) l a w := by
  rw [Bool.and_eq_true] at hr
  exact takeK hi (Region.noSelect_spec hs) hQ hr.2 n l a w (Region.free_spec hi hf) (by simpa using hr.1) (.inr ⟨hw, rfl⟩) hS h

/-- whichever of rs comes next -/
def ReadyK (P : Program) (md : Region.Mode) (ops : Array Oper) (Q : Exit → Act → World → Prop) (S : World → Prop) (k n : Nat) (l : Array Bool) (a : Act) (w : World) (rs : List Nat) : Prop :=
  ∀ i ∈ rs, wpOp P ops Q i (fun a' w' => (i ≠ k → S w') ∧ AnyK P md ops Q S k n (l.setIfInBounds i true) a' w') a w
theorem ReadyK.nil {n : Nat} {l : Array Bool} {a : Act} {w : World} : ReadyK P md ops Q S k n l a w [] := fun _ h => by cases h
theorem ReadyK.cons {n : Nat} {l : Array Bool} {a : Act} {w : World} {i : Nat} {o : Oper} {rs : List Nat} (ho : ops[i]? = some o)
    (h : ∀ K : Act → World → Prop, Shut (∀ a w, S w → (S w → AnyK P md ops Q S k n (l.setIfInBounds i true) a w) → K a w) → if Region.wanted o (yielded ops a.tmps) = true then Oper.wp P o a w K Q else K (a.put o.dst undef) w)
    (hs : ReadyK P md ops Q S k n l a w rs) : ReadyK P md ops Q S k n l a w (i :: rs) := by
  intro j hj
  rcases List.mem_cons.1 hj with rfl | hj
  · exact wpOp_step ho fun K hK => h K fun a w hS hW => hK a w ⟨fun _ => hS, hW hS⟩
  · exact hs j hj
theorem anyK_ready {rs : List Nat} {n : Nat} {l : Array Bool} {a : Act} {w : World} (hr : Region.ready md ops l = rs) (hne : rs ≠ []) (h : ReadyK P md ops Q S k n l a w rs) : AnyK P md ops Q S k (n + 1) l a w :=
  ⟨fun e => absurd (hr.symm.trans e) hne, fun i hi => h i (hr ▸ hi)⟩
/-- the last one -/
theorem anyK_last {o : Oper} {n : Nat} {l : Array Bool} {a : Act} {w : World} (hr : Region.ready md ops l = [k]) (ho : ops[k]? = some o) (he : Region.ready md ops (l.setIfInBounds k true) = [])
    (h : ∀ K : Act → World → Prop, Shut (∀ a w, Q .normal a w → K a w) → if Region.wanted o (yielded ops a.tmps) = true then Oper.wp P o a w K Q else K (a.put o.dst undef) w) : AnyK P md ops Q S k (n + 1) l a w := by
  refine ⟨fun e => (by rw [hr] at e; cases e), fun i hi => ?_⟩
  rw [hr] at hi
  obtain rfl : i = k := by simpa using hi
  refine wpOp_step ho fun K hK => h K fun a w hq => hK a w ⟨fun h => absurd rfl h, ?_⟩
  cases n with
  | zero => exact ⟨he, hq⟩
  | succ n => exact ⟨fun _ => hq, fun j hj => by rw [he] at hj; cases hj⟩

/-- the beginning -/
theorem region_K {id : Nat} {a : Act} {w : World} (k : Nat) (hm : P.follows .mixedOrders = true) (hS : S w.drew)
    (h : S w.drew → AnyK P .any ops Q S k ops.size (Array.replicate ops.size false) a w.drew) : (Code.region id ops true).wp P Q a w :=
  wp_region_any hm (any_of_K _ _ _ _ (h hS))
theorem region_round_K {lp n id : Nat} {a : Act} {w : World} (k : Nat) (hno : ¬ LetsOut Q) (hd : noDefer ops = true) (hm : P.follows .mixedOrders = true) (hS : S w.drew)
    (h : S w.drew → AnyK P .any ops Q S k ops.size (Array.replicate ops.size false) a w.drew) : (Code.region id ops true).wpIn (Fence.wide.inRound lp) n P Q a w :=
  wpIn_region_any hm (wpAny_round hno hd _ _ _ _ (any_of_K _ _ _ _ (h hS)))
end
end Go.Proofs.Ytmacfoebfpljoaa
