/- group: an edit at the same time and place doesn't begin a new group -/
import Derived.Test.YtjenokeeokghgaaGrJ
namespace Go.Proofs.Ytjenokeeokghgaa
open Go.RowKit

theorem again_touches {k f t g h i m v : Int} {n n' : Nat} (hsh : shB k f t g h i m v n n' = true) : touchB k f t g h i m v n n' [⟨f, t⟩] = true := by
  obtain ⟨⟨b0, b1, b2⟩, hk, h2, h1⟩ := shB_spec hsh
  have hmb : mapB k f t g h i m v n n' = mapS k f t g h i n := by unfold mapB; rw [if_pos hsh]
  unfold touchB
  rw [hsh, Bool.true_and]
  unfold reachS
  rw [hmb]
  by_cases c1 : k = 1 ∨ (k = 2 ∧ g = h)
  · have e : mapS k f t g h i n = [⟨f, t - f, n⟩] := by unfold mapS; rw [if_pos c1]
    rw [e, if_neg (by simp)]
    simp [spOf, meets]
    omega
  · by_cases c2 : k = 2
    · have e : mapS k f t g h i n = [⟨f, g - f, i⟩, ⟨h, t - h, n - i⟩] := by unfold mapS; rw [if_neg c1, if_pos c2]
      have := h2 c2
      rw [e, if_neg (by simp)]
      simp [spOf, meets]
      omega
    · have e : mapS k f t g h i n = [] := by unfold mapS; rw [if_neg c1, if_neg c2]
      rw [e, if_pos rfl]
      simp [meets]
      omega
theorem again_not {k f t g h i m v tm dl : Int} {n n' : Nat} (hsh : shB k f t g h i m v n n' = true) : freshB true tm tm dl (touchB k f t g h i m v n n' [⟨f, t⟩]) = false := by
  rw [again_touches hsh]
  unfold freshB
  rw [decide_eq_false (by omega), decide_eq_false (by omega)]
  rfl
end Go.Proofs.Ytjenokeeokghgaa
