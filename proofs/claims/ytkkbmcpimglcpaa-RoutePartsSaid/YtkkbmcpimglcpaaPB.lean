/- smap: plain laws: positions don't fall; there and back -/
import Derived.Test.YtkkbmcpimglcpaaPlain
namespace Go.Proofs.Ytkkbmcpimglcpaa

theorem goneB_iff' {r : Rg} {p side : Int} : goneB r p side = true ↔ ((side < 0 ∧ r.at_ < p) ∨ (0 ≤ side ∧ p < r.at_ + r.old)) := by
  unfold goneB; split <;> simp <;> omega
theorem rightB_mono {r : Rg} {p q side : Int} (h1 : r.at_ ≤ p) (h2 : p ≤ q) (h3 : q ≤ r.at_ + r.old) (h : rightB r p side = true) : rightB r q side = true := by
  unfold rightB at *
  split at h <;> split <;> simp at h ⊢ <;> omega
theorem within_lo (r : Rg) (i s p side : Int) (hn : 0 ≤ r.new) : r.at_ + s ≤ (withinS r i s p side).pos := by
  unfold withinS; simp only; split <;> omega
theorem within_hi (r : Rg) (i s p side : Int) (hn : 0 ≤ r.new) : (withinS r i s p side).pos ≤ r.at_ + s + r.new := by
  unfold withinS; simp only; split <;> omega
theorem within_mono {r : Rg} {i s p q side : Int} (h1 : r.at_ ≤ p) (h2 : p ≤ q) (h3 : q ≤ r.at_ + r.old) (hn : 0 ≤ r.new) : (withinS r i s p side).pos ≤ (withinS r i s q side).pos := by
  unfold withinS
  simp only
  by_cases hp : rightB r p side = true
  · rw [if_pos hp, if_pos (rightB_mono h1 h2 h3 hp)]
    omega
  · rw [if_neg hp]
    split <;> omega

theorem rightFrom_cons {e : Int} {r : Rg} {l : List Rg} (h : rightFrom e (r :: l) = true) : e < r.at_ ∧ 0 ≤ r.old ∧ 0 ≤ r.new ∧ rightFrom (r.at_ + r.old) l = true := by
  simp only [rightFrom, Bool.and_eq_true, decide_eq_true_eq] at h
  obtain ⟨⟨⟨⟨h1, h2⟩, h3⟩, h4⟩, h5⟩ := h
  exact ⟨h4, (inB_bd h2).1, (inB_bd h3).1, h5⟩

/-- behind what has ended at e, a position beyond e lies beyond e's place -/
theorem tell_lo : ∀ {l : List Rg} {e : Int} {i : Nat} {s p side : Int}, rightFrom e l = true → e < p → e + s < (tellFrom p side i s l).pos := by
  intro l
  induction l with
  | nil => intro e i s p side _ h; simp only [tellFrom]; omega
  | cons r l ih =>
    intro e i s p side hr h
    obtain ⟨h1, h2, h3, h4⟩ := rightFrom_cons hr
    simp only [tellFrom]
    split
    · have := ih (i := i + 1) (s := s + (r.new - r.old)) (side := side) h4 (by assumption)
      omega
    · split
      · have := within_lo r i s p side h3
        omega
      · simp only; omega

theorem tell_mono : ∀ {l : List Rg} {e : Int} {i : Nat} {s p q side : Int}, rightFrom e l = true → p ≤ q → (tellFrom p side i s l).pos ≤ (tellFrom q side i s l).pos := by
  intro l
  induction l with
  | nil => intro e i s p q side _ h; simp only [tellFrom]; omega
  | cons r l ih =>
    intro e i s p q side hr h
    obtain ⟨h1, h2, h3, h4⟩ := rightFrom_cons hr
    simp only [tellFrom]
    by_cases hp : r.at_ + r.old < p
    · rw [if_pos hp, if_pos (by omega)]
      exact ih h4 h
    · rw [if_neg hp]
      by_cases hq : r.at_ + r.old < q
      · rw [if_pos hq]
        have lo := tell_lo (i := i + 1) (s := s + (r.new - r.old)) (side := side) h4 hq
        split
        · have := within_hi r i s p side h3
          omega
        · simp only; omega
      · rw [if_neg hq]
        by_cases hp2 : r.at_ ≤ p
        · rw [if_pos hp2, if_pos (by omega)]
          exact within_mono hp2 h (by omega) h3
        · rw [if_neg hp2]
          split
          · have := within_lo r i s q side h3
            simp only; omega
          · simp only; omega

theorem tell_sides : ∀ {l : List Rg} {e : Int} {i : Nat} {s p : Int}, rightFrom e l = true → (tellFrom p (-1) i s l).pos ≤ (tellFrom p 1 i s l).pos := by
  intro l
  induction l with
  | nil => intro e i s p _; simp [tellFrom]
  | cons r l ih =>
    intro e i s p hr
    obtain ⟨h1, h2, h3, h4⟩ := rightFrom_cons hr
    simp only [tellFrom]
    split
    · exact ih h4
    · split
      · unfold withinS
        simp only
        have : rightB r p (-1) = true → rightB r p 1 = true := by
          unfold rightB; split <;> simp
        by_cases hb : rightB r p (-1) = true
        · rw [if_pos hb, if_pos (this hb)]; omega
        · rw [if_neg hb]; split <;> omega
      · simp

/-- THERE AND BACK, where the token isn't gone -/
theorem tell_back : ∀ {l : List Rg} {e : Int} {i : Nat} {s p side : Int} (j : Nat), rightFrom e l = true → e < p → (tellFrom p side i s l).gone = false → (tellFrom (tellFrom p side i s l).pos side j (-s) (invFrom s l)).pos = p := by
  intro l
  induction l with
  | nil => intro e i s p side j _ _ _; simp only [tellFrom, invFrom]; omega
  | cons r l ih =>
    intro e i s p side j hr he hg
    obtain ⟨h1, h2, h3, h4⟩ := rightFrom_cons hr
    by_cases hp : r.at_ + r.old < p
    · rw [tellFrom_step hp] at hg ⊢
      have lo := tell_lo (i := i + 1) (s := s + (r.new - r.old)) (side := side) h4 hp
      rw [invFrom, tellFrom_step (by simp only; omega)]
      have := ih (j + 1) h4 hp hg
      rw [show -s + ((⟨r.at_ + s, r.new, r.old⟩ : Rg).new - (⟨r.at_ + s, r.new, r.old⟩ : Rg).old) = -(s + (r.new - r.old)) by simp only; omega]
      exact this
    · by_cases hp2 : r.at_ ≤ p
      · rw [tellFrom_in hp hp2] at hg ⊢
        simp only [withinS] at hg
        have hgb : ¬ goneB r p side = true := by rw [hg]; simp
        rw [goneB_iff'] at hgb
        have hb : rightB r p side = decide (0 ≤ side) := by
          unfold rightB
          split
          · rw [decide_eq_decide]; omega
          · rfl
        have hpos : (withinS r i s p side).pos = r.at_ + s + (if 0 ≤ side then r.new else 0) := by
          simp only [withinS, hb, decide_eq_true_eq]
        rw [hpos, invFrom]
        by_cases hs : 0 ≤ side
        · rw [if_pos hs, tellFrom_in (by simp only; omega) (by simp only; omega)]
          have hb2 : rightB ⟨r.at_ + s, r.new, r.old⟩ (r.at_ + s + r.new) side = true := by
            unfold rightB
            simp only
            split
            · simp
            · exact decide_eq_true hs
          simp only [withinS, hb2, if_true]
          omega
        · rw [if_neg hs, tellFrom_in (by simp only; omega) (by simp only; omega)]
          have hb2 : rightB ⟨r.at_ + s, r.new, r.old⟩ (r.at_ + s + 0) side = false := by
            unfold rightB
            simp only
            split
            · refine decide_eq_false ?_; omega
            · exact decide_eq_false hs
          simp only [withinS, hb2]
          simp only [Bool.false_eq_true, if_false]
          omega
      · rw [tellFrom_out hp hp2, invFrom, tellFrom_out (by simp only; omega) (by simp only; omega)]
        simp only; omega

theorem tell_gone : ∀ {l : List Rg} {i : Nat} {s p side : Int}, (tellFrom p side i s l).gone = true → ∃ k r, l[k]? = some r ∧ (tellFrom p side i s l).range = ((i + k : Nat) : Int) ∧ (tellFrom p side i s l).off = p - r.at_ ∧ r.at_ ≤ p ∧ p ≤ r.at_ + r.old := by
  intro l
  induction l with
  | nil => intro i s p side h; simp [tellFrom] at h
  | cons r l ih =>
    intro i s p side h
    by_cases hp : r.at_ + r.old < p
    · rw [tellFrom_step hp] at h ⊢
      obtain ⟨k, r', h1, h2, h3⟩ := ih h
      exact ⟨k + 1, r', by simpa using h1, by rw [h2]; congr 1; omega, h3⟩
    · by_cases hp2 : r.at_ ≤ p
      · rw [tellFrom_in hp hp2] at h ⊢
        simp only [withinS] at h ⊢
        rw [h, if_pos rfl, if_pos rfl]
        exact ⟨0, r, rfl, by simp, rfl, hp2, by omega⟩
      · rw [tellFrom_out hp hp2] at h; cases h

theorem shift_inv : ∀ (l : List Rg) (s : Int), shiftL (invFrom s l) = -shiftL l := by
  intro l
  induction l with
  | nil => intro s; rfl
  | cons r l ih => intro s; simp only [invFrom, shiftL, ih]; omega
theorem inv_take : ∀ (l : List Rg) (s : Int) (k : Nat), (invFrom s l).take k = invFrom s (l.take k) := by
  intro l
  induction l with
  | nil => intro s k; simp [invFrom]
  | cons r l ih => intro s k; cases k with | zero => rfl | succ k => simp [invFrom, ih]
theorem inv_get : ∀ (l : List Rg) (s : Int) (k : Nat) (r : Rg), l[k]? = some r → (invFrom s l)[k]? = some ⟨r.at_ + (s + shiftL (l.take k)), r.new, r.old⟩ := by
  intro l
  induction l with
  | nil => intro s k r h; simp at h
  | cons x l ih =>
    intro s k r h
    cases k with
    | zero => simp at h; subst h; simp [invFrom, shiftL]
    | succ k =>
      have := ih (s + (x.new - x.old)) k r (by simpa using h)
      simp only [invFrom, List.getElem?_cons_succ, this, List.take_succ_cons, shiftL]
      congr 2; omega

theorem back_gone {l : List Rg} {p side : Int} (h : (tellM l p side).gone = true) : recM (invM l) (tellM l p side).range (tellM l p side).off = some p := by
  obtain ⟨k, r, h1, h2, h3, h4, h5⟩ := tell_gone h
  have hr : (tellM l p side).range = (k : Int) := by unfold tellM; rw [h2]; congr 1; omega
  have ho : (tellM l p side).off = p - r.at_ := h3
  have hg := inv_get l 0 k r h1
  rw [hr, ho]
  unfold recM
  rw [if_pos (by omega), Int.toNat_natCast]
  unfold invM
  rw [hg, Option.bind_some, if_pos (by simp only; omega), inv_take, shift_inv]
  simp only; congr 1; omega
theorem back_not {l : List Rg} {p side : Int} (hr : rightM l = true) (hp : 0 ≤ p) (h : (tellM l p side).gone = false) : (tellM (invM l) (tellM l p side).pos side).pos = p := by
  simp only [rightM, Bool.and_eq_true] at hr
  have := tell_back (s := 0) 0 hr.2 (by omega) h
  simpa [tellM, invM] using this
theorem mono_M {l : List Rg} {p q side : Int} (hr : rightM l = true) (h : p ≤ q) : (tellM l p side).pos ≤ (tellM l q side).pos := by
  simp only [rightM, Bool.and_eq_true] at hr
  exact tell_mono hr.2 h
theorem sides_M {l : List Rg} {p : Int} (hr : rightM l = true) : (tellM l p (-1)).pos ≤ (tellM l p 1).pos := by
  simp only [rightM, Bool.and_eq_true] at hr
  exact tell_sides hr.2
end Go.Proofs.Ytkkbmcpimglcpaa
