/- a region that draws its order, whose last operations wait for all the others: S holds till the first of them is carried out -/
import Derived.Test.YtmacfoebfpljoaaK1
namespace Go.Proofs.Ytmacfoebfpljoaa
open Go.RowKit

section
variable {P : Program} {ops : Array Oper} {Q : Exit → Act → World → Prop} {md : Region.Mode} {S : World → Prop} {ks : List Nat}

/-- whatever comes up, S holds behind it, unless it is one of ks -/
def AnyL (P : Program) (md : Region.Mode) (ops : Array Oper) (Q : Exit → Act → World → Prop) (S : World → Prop) (ks : List Nat) : Nat → Array Bool → Act → World → Prop
  | 0, l, a, w => Region.ready md ops l = [] ∧ Q .normal a w
  | n + 1, l, a, w => (Region.ready md ops l = [] → Q .normal a w) ∧ ∀ i ∈ Region.ready md ops l, wpOp P ops Q i (fun a' w' => (i ∉ ks → S w') ∧ AnyL P md ops Q S ks n (l.setIfInBounds i true) a' w') a w

theorem any_of_L (n : Nat) : ∀ (l : Array Bool) (a : Act) (w : World), AnyL P md ops Q S ks n l a w → wpAny P md ops Q n l a w := by
  induction n with
  | zero => intro l a w h; exact h
  | succ n ih => intro l a w h; exact ⟨h.1, fun i hi => wpOp_mono (fun a' w' h' => ih _ a' w' h'.2) (h.2 i hi)⟩

/-- what is listed has its forerunners listed -/
def Closed (md : Region.Mode) (ops : Array Oper) (l : Array Bool) : Prop := ∀ (j : Nat) (o : Oper), ops[j]? = some o → l.getD j false = true → ∀ e ∈ o.after, Region.binds md e = true → l.getD e.on false = true
def closedB (md : Region.Mode) (ops : Array Oper) (l : Array Bool) : Bool := (List.range ops.size).all fun j => match ops[j]? with | some o => !(l.getD j false) || o.after.all (fun e => !(Region.binds md e) || l.getD e.on false) | none => true
theorem closedB_spec {l : Array Bool} (h : closedB md ops l = true) : Closed md ops l := by
  intro j o ho hl e he hb
  have hj := (Array.getElem?_eq_some_iff.1 ho).1
  have := List.all_eq_true.1 h j (List.mem_range.2 hj)
  rw [ho] at this
  simp only [hl, Bool.not_true, Bool.false_or] at this
  have h2 := Array.all_eq_true'.1 this e he
  simpa [hb] using h2
theorem getD_set_mono {l : Array Bool} {m j : Nat} (h : l.getD m false = true) : (l.setIfInBounds j true).getD m false = true := by
  simp only [Array.getD_eq_getD_getElem?, Array.getElem?_setIfInBounds] at *
  by_cases e : j = m
  · subst e
    rw [if_pos rfl]
    split
    · rfl
    · rename_i hh
      rw [Array.getElem?_eq_none (by omega)] at h
      cases h
  · rw [if_neg e]; exact h
theorem Closed.set {l : Array Bool} {j : Nat} (h : Closed md ops l) (hj : j ∈ Region.ready md ops l) : Closed md ops (l.setIfInBounds j true) := by
  intro m o ho hm e he hb
  by_cases ejm : j = m
  · subst ejm
    obtain ⟨_, o', ho', hall⟩ := mem_ready.1 hj
    rw [ho] at ho'
    injection ho' with ho'
    subst ho'
    exact getD_set_mono (hall e he hb)
  · refine getD_set_mono (h m o ho ?_ e he hb)
    simpa [Array.getElem?_setIfInBounds, ejm] using hm
/-- k waits for i, or for one that does -/
def waits2 (md : Region.Mode) (ops : Array Oper) (k i : Nat) : Bool := match ops[k]? with | some o => o.after.any fun e => Region.binds md e && (decide (e.on = i) || (ops[e.on]?.isSome && waits md ops e.on i)) | none => true
theorem not_ready2 {k i : Nat} {l : Array Bool} (hc : Closed md ops l) (hw : waits2 md ops k i = true) (hi : l.getD i true = false) : k ∉ Region.ready md ops l := by
  intro hk
  have hi' : l.getD i false ≠ true := by
    intro h
    rcases Nat.lt_or_ge i l.size with hs | hs
    · simp [hs] at h hi; rw [hi] at h; cases h
    · simp [Array.getElem?_eq_none hs] at hi
  obtain ⟨_, o, ho, hall⟩ := mem_ready.1 hk
  unfold waits2 at hw
  rw [ho] at hw
  obtain ⟨e, he, hb⟩ := Array.any_eq_true'.1 hw
  simp only [Bool.and_eq_true, Bool.or_eq_true, decide_eq_true_eq] at hb
  have hl := hall e he hb.1
  rcases hb.2 with h | ⟨h1, h2⟩
  · rw [h] at hl; exact hi' hl
  · obtain ⟨o2, ho2⟩ := Option.isSome_iff_exists.1 h1
    unfold waits at h2
    rw [ho2] at h2
    obtain ⟨e2, he2, hb2⟩ := Array.any_eq_true'.1 h2
    simp only [Bool.and_eq_true, decide_eq_true_eq] at hb2
    have := hc _ _ ho2 hl e2 he2 hb2.1
    rw [hb2.2] at this
    exact hi' this

/-- operation i is taken first: those of ks wait for it -/
theorem takeL {i : Nat} {oi : Oper} {v : Value} (hi : ops[i]? = some oi) (hsel : ∀ (j : Nat) (o : Oper) cs b, ops[j]? = some o → o.op ≠ .select cs b)
    (hQ : ∀ c a w, Q (.panic c) (a.put oi.dst v) w → Q (.panic c) a w) (hwt : ∀ k ∈ ks, waits2 md ops k i = true) (n : Nat) :
    ∀ (l : Array Bool) (a : Act) (w : World), Closed md ops l → (∀ j oj, ops[j]? = some oj → j ≠ i → l.getD j true = false → (∀ e ∈ oj.after, Region.binds md e = true → e.on ≠ i) → oi.apart ops oj = true) →
      i ∈ Region.ready md ops l → YieldsIf P ops S oi v a → S w → AnyL P md ops Q S ks n (l.setIfInBounds i true) (a.put oi.dst v) w → AnyL P md ops Q S ks (n + 1) l a w := by
  have other : ∀ {l : Array Bool} {j : Nat}, Closed md ops l → i ∈ Region.ready md ops l → j ∈ Region.ready md ops l → j ≠ i → j ∉ ks ∧ l.getD j true = false ∧ ∃ oj, ops[j]? = some oj ∧ ∀ e ∈ oj.after, Region.binds md e = true → e.on ≠ i := by
    intro l j hc hr hj hji
    refine ⟨fun e => not_ready2 hc (hwt j e) (mem_ready.1 hr).1 hj, ?_⟩
    obtain ⟨h1, oj, h2, h3⟩ := mem_ready.1 hj
    refine ⟨h1, oj, h2, fun e he hb heq => ?_⟩
    have hx := h3 e he hb
    have h0 := (mem_ready.1 hr).1
    rw [heq] at hx
    rcases Nat.lt_or_ge i l.size with h | h
    · simp [h] at h0 hx; rw [h0] at hx; cases hx
    · simp [Array.getElem?_eq_none h] at h0
  induction n with
  | zero =>
    intro l a w hc hfree hr hy hS H
    refine ⟨fun h => absurd (h ▸ hr) (by simp), fun j hj => ?_⟩
    by_cases hji : j = i
    · subst hji; exact hy.wpOp hi hS ⟨fun _ => hS, H⟩
    · exact absurd (H.1 ▸ ready_mono hj hji) (by simp)
  | succ n ih =>
    intro l a w hc hfree hr hy hS H
    refine ⟨fun h => absurd (h ▸ hr) (by simp), fun j hj => ?_⟩
    by_cases hji : j = i
    · subst hji; exact hy.wpOp hi hS ⟨fun _ => hS, H⟩
    obtain ⟨hjk, hjun, oj, hoj, hnot⟩ := other hc hr hj hji
    refine wpOp_mono (fun a' w' h3 => ⟨fun _ => h3.2.1 hjk, ih (l.setIfInBounds j true) a' w' (hc.set hj) ?_ (ready_mono hr (Ne.symm hji)) h3.1 (h3.2.1 hjk) ?_⟩)
      (wpOp_putIf hoj (hfree j oj hoj hji hjun hnot) (fun cs b => hsel i oi cs b hi) (fun cs b => hsel j oj cs b hoj) hQ hy (H.2 j (ready_mono hj hji)))
    · intro m om hom hmi hun hno
      refine hfree m om hom hmi ?_ hno
      by_cases hjm : j = m
      · subst hjm; exact hjun
      · rw [getD_set_ne true hjm] at hun; exact hun
    · rw [Array.setIfInBounds_comm _ _ hji]
      exact h3.2.2

theorem takeL_if {i : Nat} {oi : Oper} {v : Value} {n : Nat} {l : Array Bool} {a : Act} {w : World} (hi : ops[i]? = some oi)
    (hs : Region.noSelect ops = true) (hf : Region.free md ops l i = true) (hr : ((Region.ready md ops l).contains i && ks.all (fun k => waits2 md ops k i) && closedB md ops l) = true)
    (hQ : ∀ c a w, Q (.panic c) (a.put oi.dst v) w → Q (.panic c) a w) (hw : Region.wanted oi (yielded ops a.tmps) = true) (hy : ∀ w, S w → (execOp a.eval oi).run P w = .ok (.value v) w) (hS : S w)
    (h : AnyL P md ops Q S ks n (l.setIfInBounds i true) (a.put oi.dst v) w) : AnyL P md ops Q S ks (n + 1) l a w := by
  rw [Bool.and_eq_true, Bool.and_eq_true] at hr
  exact takeL hi (Region.noSelect_spec hs) hQ (by simpa using hr.1.2) n l a w (closedB_spec hr.2) (Region.free_spec hi hf) (by simpa using hr.1.1) (.inl ⟨hw, hy⟩) hS h
theorem takeL_not {i : Nat} {oi : Oper} {n : Nat} {l : Array Bool} {a : Act} {w : World} (hi : ops[i]? = some oi)
    (hs : Region.noSelect ops = true) (hf : Region.free md ops l i = true) (hr : ((Region.ready md ops l).contains i && ks.all (fun k => waits2 md ops k i) && closedB md ops l) = true)
    (hQ : ∀ c a w, Q (.panic c) (a.put oi.dst undef) w → Q (.panic c) a w) (hw : Region.wanted oi (yielded ops a.tmps) = false) (hS : S w)
    (h : AnyL P md ops Q S ks n (l.setIfInBounds i true) (a.put oi.dst undef) w) : AnyL P md ops Q S ks (n + 1) l a w := by
  rw [Bool.and_eq_true, Bool.and_eq_true] at hr
  exact takeL hi (Region.noSelect_spec hs) hQ (by simpa using hr.1.2) n l a w (closedB_spec hr.2) (Region.free_spec hi hf) (by simpa using hr.1.1) (.inr ⟨hw, rfl⟩) hS h

/-- whichever of rs comes next -/
def ReadyL (P : Program) (md : Region.Mode) (ops : Array Oper) (Q : Exit → Act → World → Prop) (S : World → Prop) (ks : List Nat) (n : Nat) (l : Array Bool) (a : Act) (w : World) (rs : List Nat) : Prop :=
  ∀ i ∈ rs, wpOp P ops Q i (fun a' w' => (i ∉ ks → S w') ∧ AnyL P md ops Q S ks n (l.setIfInBounds i true) a' w') a w
theorem ReadyL.nil {n : Nat} {l : Array Bool} {a : Act} {w : World} : ReadyL P md ops Q S ks n l a w [] := fun _ h => by cases h
theorem ReadyL.cons {n : Nat} {l : Array Bool} {a : Act} {w : World} {i : Nat} {o : Oper} {rs : List Nat} (ho : ops[i]? = some o)
    (h : ∀ K : Act → World → Prop, Shut (∀ a w, S w → (S w → AnyL P md ops Q S ks n (l.setIfInBounds i true) a w) → K a w) → if Region.wanted o (yielded ops a.tmps) = true then Oper.wp P o a w K Q else K (a.put o.dst undef) w)
    (hs : ReadyL P md ops Q S ks n l a w rs) : ReadyL P md ops Q S ks n l a w (i :: rs) := by
  intro j hj
  rcases List.mem_cons.1 hj with rfl | hj
  · exact wpOp_step ho fun K hK => h K fun a w hS hW => hK a w ⟨fun _ => hS, hW hS⟩
  · exact hs j hj
theorem anyL_ready {rs : List Nat} {n : Nat} {l : Array Bool} {a : Act} {w : World} (hr : Region.ready md ops l = rs) (hne : rs ≠ []) (h : ReadyL P md ops Q S ks n l a w rs) : AnyL P md ops Q S ks (n + 1) l a w :=
  ⟨fun e => absurd (hr.symm.trans e) hne, fun i hi => h i (hr ▸ hi)⟩
/-- one of the last ones -/
theorem anyL_late {i : Nat} {o : Oper} {n : Nat} {l : Array Bool} {a : Act} {w : World} (hr : Region.ready md ops l = [i]) (hi : ks.contains i = true) (ho : ops[i]? = some o)
    (h : ∀ K : Act → World → Prop, Shut (∀ a w, AnyL P md ops Q S ks n (l.setIfInBounds i true) a w → K a w) → if Region.wanted o (yielded ops a.tmps) = true then Oper.wp P o a w K Q else K (a.put o.dst undef) w) : AnyL P md ops Q S ks (n + 1) l a w := by
  refine ⟨fun e => (by rw [hr] at e; cases e), fun j hj => ?_⟩
  rw [hr] at hj
  obtain rfl : j = i := by simpa using hj
  exact wpOp_step ho fun K hK => h K fun a w hq => hK a w ⟨fun h => absurd (by simpa using hi) h, hq⟩
theorem anyL_done {n : Nat} {l : Array Bool} {a : Act} {w : World} (hr : Region.ready md ops l = []) (hq : Q .normal a w) : AnyL P md ops Q S ks n l a w := by
  cases n with
  | zero => exact ⟨hr, hq⟩
  | succ n => exact ⟨fun _ => hq, fun j hj => by rw [hr] at hj; cases hj⟩

/-- the beginning -/
theorem region_L {id : Nat} {a : Act} {w : World} (ks : List Nat) (hm : P.follows .mixedOrders = true) (hS : S w.drew)
    (h : S w.drew → AnyL P .any ops Q S ks ops.size (Array.replicate ops.size false) a w.drew) : (Code.region id ops true).wp P Q a w :=
  wp_region_any hm (any_of_L _ _ _ _ (h hS))
theorem region_round_L {lp n id : Nat} {a : Act} {w : World} (ks : List Nat) (hno : ¬ LetsOut Q) (hd : noDefer ops = true) (hm : P.follows .mixedOrders = true) (hS : S w.drew)
    (h : S w.drew → AnyL P .any ops Q S ks ops.size (Array.replicate ops.size false) a w.drew) : (Code.region id ops true).wpIn (Fence.wide.inRound lp) n P Q a w :=
  wpIn_region_any hm (wpAny_round hno hd _ _ _ _ (any_of_L _ _ _ _ (h hS)))
end
end Go.Proofs.Ytmacfoebfpljoaa
