/- smap: plain laws: a map inverted twice -/
import Derived.Test.YtkkbmcpimglcpaaS
namespace Go.Proofs.Ytkkbmcpimglcpaa

theorem inv_inv : ∀ (l : List Rg) (s : Int), invFrom (-s) (invFrom s l) = l := by
  intro l
  induction l with
  | nil => intro s; rfl
  | cons r l ih =>
    intro s
    have h := ih (s + (r.new - r.old))
    obtain ⟨a, o, n⟩ := r
    simp only [invFrom]
    simp only at h
    rw [show -s + (o - n) = -(s + (n - o)) by omega, h]
    congr 1
    simp only [Rg.mk.injEq, and_true]
    omega
theorem invM_invM (l : List Rg) : invM (invM l) = l := by have := inv_inv l 0; simpa [invM] using this

theorem right_pos : ∀ {l : List Rg} {e s : Int}, rightFrom e l = true → -1 ≤ e + s → ∀ {k : Nat} {r : Rg}, l[k]? = some r → 0 ≤ r.at_ + (s + shiftL (l.take k)) := by
  intro l
  induction l with
  | nil => intro e s _ _ k r h; simp at h
  | cons x l ih =>
    intro e s h hs k r hk
    simp only [rightFrom, Bool.and_eq_true, decide_eq_true_eq] at h
    obtain ⟨⟨⟨⟨h1, h2⟩, h3⟩, h4⟩, h5⟩ := h
    have b3 := inB_bd h3
    cases k with
    | zero => simp at hk; subst hk; simp [shiftL]; omega
    | succ k =>
      have := ih (e := x.at_ + x.old) (s := s + (x.new - x.old)) h5 (by omega) (k := k) (r := r) (by simpa using hk)
      simp only [List.take_succ_cons, shiftL]
      omega
theorem rec_pos {l : List Rg} {at_ off x : Int} (h : rightM l = true) (hx : recM l at_ off = some x) : 0 ≤ x := by
  unfold recM at hx
  split at hx
  · obtain ⟨r, h1, h2⟩ := Option.bind_eq_some_iff.1 hx
    split at h2
    · injection h2 with h2
      simp only [rightM, Bool.and_eq_true] at h
      have := right_pos h.2 (s := 0) (by omega) h1
      omega
    · cases h2
  · cases hx

theorem inv_right : ∀ {l : List Rg} {e s : Int}, rightFrom e l = true → -1 ≤ e + s → (∀ r ∈ invFrom s l, r.at_ ≤ 1073741824) → rightFrom (e + s) (invFrom s l) = true := by
  intro l
  induction l with
  | nil => intro e s _ _ _; rfl
  | cons x l ih =>
    intro e s h hs hlow
    simp only [rightFrom, Bool.and_eq_true, decide_eq_true_eq] at h
    obtain ⟨⟨⟨⟨h1, h2⟩, h3⟩, h4⟩, h5⟩ := h
    have b3 := inB_bd h3
    have hl := hlow ⟨x.at_ + s, x.new, x.old⟩ (by simp [invFrom])
    simp only at hl
    have := ih (e := x.at_ + x.old) (s := s + (x.new - x.old)) h5 (by omega) (fun r hr => hlow r (by simp only [invFrom, List.mem_cons]; exact .inr hr))
    simp only [invFrom, rightFrom, Bool.and_eq_true, decide_eq_true_eq]
    refine ⟨⟨⟨⟨decide_eq_true (by omega), h3⟩, h2⟩, by omega⟩, ?_⟩
    rw [show x.at_ + x.old + (s + (x.new - x.old)) = x.at_ + s + x.new by omega] at this
    exact this
theorem invM_right {l : List Rg} (h : rightM l = true) (hlow : ∀ r ∈ invM l, r.at_ ≤ 1073741824) : rightM (invM l) = true := by
  have h1 := right_len h
  simp only [rightM, Bool.and_eq_true] at h ⊢
  refine ⟨by rw [invM_length]; exact h.1, ?_⟩
  have := inv_right h.2 (s := 0) (by omega) hlow
  exact this
/-- are all ranges of a map low? -/
def lowB (l : List Rg) : Bool := l.all fun r => decide (r.at_ ≤ 1073741824)
theorem lowB_snoc {l : List Rg} {k : Nat} {r : Rg} (h : l[k]? = some r) : lowB (l.take (k + 1)) = (lowB (l.take k) && decide (r.at_ ≤ 1073741824)) := by
  rw [List.take_add_one, h, Option.toList_some, lowB, List.all_append]; simp [lowB]
theorem lowB_spec {l : List Rg} (h : lowB l = true) : ∀ r ∈ l, r.at_ ≤ 1073741824 := by
  intro r hr
  have := List.all_eq_true.1 h r hr
  simpa using this
/-- what the code's Recover and the document's say agree -/
theorem rec_agree {l : List Rg} (at_ off : Int) (h : rightM l = true) : (recS l at_ off).2 = decide (0 ≤ recD l at_ off) ∧ (recS l at_ off).1 = max (recD l at_ off) 0 := by
  unfold recS recD
  rw [h, if_pos rfl]
  cases hx : recM l at_ off with
  | none => exact ⟨rfl, by decide⟩
  | some x => have := rec_pos h hx; simp; omega
end Go.Proofs.Ytkkbmcpimglcpaa
