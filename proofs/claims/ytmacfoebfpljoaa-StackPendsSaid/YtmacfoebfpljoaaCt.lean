/- chain: positions that are told are bounded -/
import Derived.Test.YtmacfoebfpljoaaCa
namespace Go.Proofs.Ytmacfoebfpljoaa
open Go.RowKit

theorem tellFrom_bd {p side : Int} (hp : 0 ≤ p) : ∀ {l : List Rg} {i : Nat} {s : Int}, (∀ r ∈ l, r.Fits) → s - 1073741824 * l.length ≤ (tellFrom p side i s l).pos ∧ (tellFrom p side i s l).pos ≤ p + s + 1073741824 * l.length + 2147483648 := by
  intro l
  induction l with
  | nil => intro i s _; simp only [tellFrom]; simp; omega
  | cons r l ih =>
    intro i s hf
    obtain ⟨f1, f2, f3, f4, f5, f6⟩ := hf r (by simp)
    have hl : ((r :: l).length : Int) = l.length + 1 := by simp
    have hl2 : (0 : Int) ≤ l.length := by omega
    rw [hl]
    unfold tellFrom
    split
    · have := ih (i := i + 1) (s := s + (r.new - r.old)) (fun q hq => hf q (by simp [hq]))
      omega
    · split
      · simp only [withinS]
        split <;> omega
      · simp only; omega
theorem tellS_bd (l : List Rg) (p s : Int) : -4398046511104 ≤ (tellS l p s).1.pos ∧ (tellS l p s).1.pos ≤ 4398046511104 := by
  unfold tellS
  split
  · rename_i hr
    split
    · rename_i hp
      have h := tellFrom_bd (side := s) hp.1 (i := 0) (s := 0) (right_fits hr)
      have hl := right_len hr
      have : (l.length : Int) ≤ 1000 := by omega
      simp only [tellM]
      omega
    · simp [Pl.zero]
  · simp [Pl.zero]
theorem recO_bd {l : List Rg} {at_ off n : Int} (h : recO l at_ off = some n) : -4398046511104 ≤ n ∧ n ≤ 4398046511104 := by
  unfold recO recS at h
  by_cases hr : rightM l = true
  · rw [if_pos hr] at h
    cases hm : recM l at_ off with
    | none => simp [hm] at h
    | some x =>
      simp [hm] at h
      subst h
      unfold recM at hm
      split at hm
      · obtain ⟨r, h1, h2⟩ := Option.bind_eq_some_iff.1 hm
        split at h2
        · injection h2 with h2
          obtain ⟨f1, f2, f3, f4, f5, f6⟩ := right_fits hr r (List.mem_of_getElem? h1)
          have hs := shift_take_bd hr at_.toNat
          omega
        · cases h2
      · cases hm
  · simp [hr] at h
theorem tellL_bd (m : List Rg) (ks : List Lk) : ∀ p s : Int, -4398046511104 ≤ (tellL m ks p s).1.pos ∧ (tellL m ks p s).1.pos ≤ 4398046511104 := by
  induction ks with
  | nil => intro p s; simp only [tellL]; exact tellS_bd m p s
  | cons k ks ih =>
    intro p s
    simp only [tellL]
    split
    · simp [Pl.zero]
    · split
      · rename_i n hn
        simp only
        split at hn
        · exact recO_bd hn
        · cases hn
      · split
        · exact ih _ _
        · split
          · simp [Pl.zero]
          · exact tellS_bd _ _ _
end Go.Proofs.Ytmacfoebfpljoaa
