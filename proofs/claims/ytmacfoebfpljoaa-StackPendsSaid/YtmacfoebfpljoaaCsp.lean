/- step: what a shape says -/
import Derived.Test.YtmacfoebfpljoaaStG
namespace Go.Proofs.Ytmacfoebfpljoaa
open Go.RowKit

theorem shB_spec {k f t g h i m v : Int} {n n' : Nat} (h0 : shB k f t g h i m v n n' = true) : (0 ≤ f ∧ f ≤ t ∧ t ≤ 1073741824) ∧ (k = 1 ∨ k = 2 ∨ k = 3 ∨ k = 4 ∨ k = 5) ∧ (k = 2 → f ≤ g ∧ g ≤ h ∧ h ≤ t ∧ 0 ≤ i ∧ i ≤ n ∧ n ≤ 20000) ∧ (k = 1 → n ≤ 20000) := by
  unfold shB at h0
  rw [Bool.and_eq_true] at h0
  obtain ⟨hbx, hs⟩ := h0
  refine ⟨by simpa [boxes] using hbx, ?_, ?_, ?_⟩
  · by_cases k1 : k = 1
    · exact .inl k1
    rw [if_neg k1] at hs
    by_cases k2 : k = 2
    · exact .inr (.inl k2)
    rw [if_neg k2] at hs
    by_cases k3 : k = 3 ∨ k = 4
    · omega
    rw [if_neg k3] at hs
    by_cases k5 : k = 5
    · omega
    rw [if_neg k5] at hs
    cases hs
  · intro k2
    rw [if_neg (by omega), if_pos k2] at hs
    have : f ≤ g ∧ g ≤ h ∧ h ≤ t ∧ 0 ≤ i ∧ i ≤ n ∧ n ≤ 20000 ∧ m = 0 ∧ v = 0 ∧ n' = 0 := by simpa [sh2] using hs
    omega
  · intro k1
    rw [if_pos k1] at hs
    have : g = 0 ∧ h = 0 ∧ i = 0 ∧ m = 0 ∧ v = 0 ∧ n' = 0 ∧ n ≤ 20000 := by simpa [sh1] using hs
    omega
end Go.Proofs.Ytmacfoebfpljoaa
