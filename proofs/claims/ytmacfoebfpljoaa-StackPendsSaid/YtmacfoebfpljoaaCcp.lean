/- chain: what ChainCut needs of what Over makes -/
import Derived.Test.YtmacfoebfpljoaaCa
namespace Go.Proofs.Ytmacfoebfpljoaa
open Go.RowKit

theorem overC_len (m : List Rg) (L : List GrC) : (overC m L).length = L.length := by
  unfold overC
  split
  · exact overG_len _ _
  · rfl
theorem overG_at {m : List Rg} (ks : List Lk) (L : List GrC) {i : Nat} {g a : GrC} (hg : L[i]? = some g) (ha : (overG m ks L).2[i]? = some a) : a.steps.length ≤ g.steps.length ∧ a.lost = IntKind.i64.wrap (g.lost + ((g.steps.length : Int) - a.steps.length)) := by
  induction L generalizing ks i with
  | nil => cases hg
  | cons x L ih =>
    cases i with
    | zero =>
      simp only [List.getElem?_cons_zero, Option.some.injEq] at hg
      subst hg
      simp only [overG, List.getElem?_cons_zero, Option.some.injEq] at ha
      subst ha
      have := runG_count (m := m) ks x.steps
      refine ⟨by simp only; omega, ?_⟩
      simp only
      congr 1
      omega
    | succ i =>
      simp only [overG, List.getElem?_cons_succ] at hg ha
      exact ih _ hg ha
theorem cut_at {m : List Rg} {L : List GrC} {i : Nat} {g a : GrC} (hw : -9223372036854775808 ≤ g.lost ∧ g.lost ≤ 9223372036854775807) (hg : L[i]? = some g) (ha : (overC m L)[i]? = some a) : a.steps.length ≤ g.steps.length ∧ a.lost = IntKind.i64.wrap (g.lost + ((g.steps.length : Int) - a.steps.length)) := by
  unfold overC at ha
  split at ha
  · exact overG_at _ _ hg ha
  · rw [hg] at ha
    injection ha with ha
    subst ha
    refine ⟨Nat.le_refl _, ?_⟩
    rw [show g.lost + ((g.steps.length : Int) - g.steps.length) = g.lost by omega, IntWalk.i64_in _ (by omega)]
theorem cut_one {m : List Rg} {L : List GrC} {one : GrC} (h1 : one.steps = L.flatMap GrC.steps) (h2 : one.lost = 0) : ∃ b, overC m [one] = [b] ∧ b.steps = (overC m L).flatMap GrC.steps ∧ b.lost = IntKind.i64.wrap ((one.steps.length : Int) - b.steps.length) ∧ b.steps.length ≤ one.steps.length := by
  have hw : -9223372036854775808 ≤ one.lost ∧ one.lost ≤ 9223372036854775807 := by rw [h2]; decide
  have hl := overC_len m [one]
  obtain ⟨b, hb⟩ : ∃ b, overC m [one] = [b] := by
    match h : overC m [one] with
    | [b] => exact ⟨b, rfl⟩
    | [] => rw [h] at hl; simp at hl
    | _ :: _ :: _ => rw [h] at hl; simp at hl
  have hat := cut_at (m := m) (L := [one]) (i := 0) (g := one) (a := b) hw rfl (by rw [hb]; rfl)
  rw [h2, Int.zero_add] at hat
  refine ⟨b, hb, ?_, hat.2, hat.1⟩
  unfold overC at hb ⊢
  split
  · rename_i hr
    rw [if_pos hr] at hb
    rw [overG_steps, ← h1]
    have e := overG_steps (m := m) [] [one]
    rw [hb] at e
    simpa using e
  · rename_i hr
    rw [if_neg hr] at hb
    injection hb with hb
    rw [← hb, h1]
/-- how many steps are lost behind some groups -/
def lostN (L L' : List GrC) (i : Nat) : Int := ((L.take i).flatMap GrC.steps).length - (((L'.take i).flatMap GrC.steps).length : Int)
theorem lostN_zero (L L' : List GrC) : lostN L L' 0 = 0 := by simp [lostN]
theorem lostN_succ {L L' : List GrC} {i : Nat} {g a : GrC} (hg : L[i]? = some g) (ha : L'[i]? = some a) : lostN L L' (i + 1) = lostN L L' i + ((g.steps.length : Int) - a.steps.length) := by
  unfold lostN
  rw [List.take_add_one, List.take_add_one, hg, ha]
  simp
  omega
theorem lostN_bd (m : List Rg) (L : List GrC) (hw : ∀ g ∈ L, -9223372036854775808 ≤ g.lost ∧ g.lost ≤ 9223372036854775807) (i : Nat) : 0 ≤ lostN L (overC m L) i ∧ lostN L (overC m L) i ≤ (L.flatMap GrC.steps).length := by
  have hlen := overC_len m L
  have key : ∀ i, i ≤ L.length → 0 ≤ lostN L (overC m L) i := by
    intro i
    induction i with
    | zero => intro _; rw [lostN_zero]; exact Int.le_refl _
    | succ i ih =>
      intro hi
      have hg : L[i]? = some L[i] := List.getElem?_eq_getElem (by omega)
      have ha : (overC m L)[i]? = some (overC m L)[i] := List.getElem?_eq_getElem (by omega)
      rw [lostN_succ hg ha]
      have := (cut_at (hw _ (List.getElem_mem (by omega))) hg ha).1
      have := ih (by omega)
      omega
  refine ⟨?_, ?_⟩
  · rcases Nat.le_total i L.length with h | h
    · exact key i h
    · have := key L.length (Nat.le_refl _)
      unfold lostN at *
      rw [List.take_of_length_le (by omega), List.take_of_length_le (by omega)] at *
      exact this
  · unfold lostN
    have : ((L.take i).flatMap GrC.steps).length ≤ (L.flatMap GrC.steps).length := by
      conv => rhs; rw [← List.take_append_drop i L]
      rw [List.flatMap_append, List.length_append]
      omega
    omega
/-- one more group: how the law counts -/
theorem lost_step {s g a d : Int} (hs : -1000000000 ≤ s ∧ s ≤ 1000000000) (hd : -1000000000 ≤ d ∧ d ≤ 1000000000) (ha : a = IntKind.i64.wrap (g + d)) : IntKind.i64.wrap (IntKind.i64.wrap (s + a) - g) = s + d := by
  subst ha
  have e : IntKind.i64.wrap (IntKind.i64.wrap (s + IntKind.i64.wrap (g + d)) - g) = IntKind.i64.wrap (s + d) := by
    simp only [IntKind.wrap_i64]
    omega
  rw [e]
  exact IntWalk.i64_in _ (by omega)
end Go.Proofs.Ytmacfoebfpljoaa
