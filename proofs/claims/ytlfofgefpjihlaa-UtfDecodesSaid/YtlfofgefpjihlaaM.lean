/- utf: there and back, the plain law -/
import Derived.Test.YtlfofgefpjihlaaL
namespace Go.Proofs.Ytlfofgefpjihlaa
open Go.RowKit

theorem nextS_err' {bs : List Int} {at_ : Nat} (hlt : at_ < bs.length) (h : (nextS bs at_).2.2 ≠ 0) : nextS bs at_ = (0, 0, 11) := by
  unfold nextS at *
  rw [List.drop_eq_getElem_cons hlt] at *
  simp only at *
  split at h
  · rename_i hc; rw [if_pos hc]
  · rename_i hc
    rw [if_neg hc]
    unfold nextOf at *
    split
    · rename_i ha
      rw [if_pos ha] at h
      split
      · rename_i hn; rw [if_pos hn] at h; exact absurd rfl h
      · rfl
    · rfl

theorem nextS_enc {bs rest : List Int} {k : Nat} {r : Int} (hr : right r = true) (h : bs.drop k = enc r ++ rest) : nextS bs k = (r, (enc r).length, 0) := by
  have hel := enc_len hr
  cases he : enc r with
  | nil => rw [he] at hel; have := len_eq hr; simp at hel; rw [← hel] at this; repeat' split at this
           all_goals omega
  | cons x u =>
    obtain ⟨a, b, c, d⟩ := enc_dec hr he
    rw [he] at h hel
    unfold nextS
    rw [h]
    simp only [List.cons_append]
    have hul : u.length = len r - 1 := by omega
    rw [a, if_neg (by simp only [List.length_append]; simp at hel; omega), List.take_append_of_le_length (by omega), List.take_of_length_le (by omega), nextOf_all b, c, if_pos rfl]
    rw [← hel]

theorem dec_encAll (bs : List Int) : ∀ (rest : List Int) (f k : Nat) (acc : List Int), (∀ r ∈ rest, right r = true) → bs.drop k = encAll rest → rest.length < f → dec bs f k acc = (acc ++ rest, 0, 0) := by
  intro rest
  induction rest with
  | nil =>
    intro f k acc _ h hf
    have hk : ¬ k < bs.length := by
      intro hk
      have := congrArg List.length h
      rw [List.length_drop] at this
      simp [encAll] at this
      omega
    rw [dec_end hk]; simp
  | cons r rest ih =>
    intro f k acc hall h hf
    have hr := hall r (by simp)
    have h' : bs.drop k = enc r ++ encAll rest := by simpa [encAll] using h
    have hn := nextS_enc hr h'
    have hpos : 1 ≤ (enc r).length := by
      have := enc_len hr; have := len_eq hr
      repeat' split at this
      all_goals omega
    have hk : k < bs.length := by
      have := congrArg List.length h'
      rw [List.length_drop, List.length_append] at this
      omega
    obtain ⟨f, rfl⟩ : ∃ g, f = g + 1 := ⟨f - 1, by omega⟩
    rw [dec_ok hk (by rw [hn]), hn]
    simp only
    rw [ih f (k + (enc r).length) (acc ++ [r]) (fun x hx => hall x (by simp [hx])) (by rw [← List.drop_drop, h']; simp) (by simp at hf; omega)]
    simp

theorem encAll_ge {l : List Int} (h : ∀ r ∈ l, right r = true) : l.length ≤ (encAll l).length := by
  induction l with
  | nil => simp
  | cons r l ih =>
    have hr := h r (by simp)
    have := ih (fun x hx => h x (by simp [hx]))
    have h1 := enc_len hr; have h2 := len_eq hr
    have h3 : 1 ≤ (enc r).length := by rw [h1, h2]; repeat' split
                                       all_goals omega
    have : encAll (r :: l) = enc r ++ encAll l := by simp [encAll]
    rw [this]; simp; omega
theorem decS_enc {l : List Int} (h : ∀ r ∈ l, right r = true) : decS (encAll l) = (l, 0, 0) := by
  unfold decS
  have hlen := encAll_ge h
  have := dec_encAll (encAll l) l ((encAll l).length + 1) 0 [] h (by simp) (by omega)
  simpa using this

theorem dec_back {bs : List Int} (hb : ∀ x ∈ bs, 0 ≤ x ∧ x ≤ 255) : ∀ (f k : Nat) (acc : List Int), k ≤ bs.length → bs.length + 1 ≤ k + f → (dec bs f k acc).2.2 = 0 →
    ∃ rest, (dec bs f k acc).1 = acc ++ rest ∧ (∀ r ∈ rest, right r = true) ∧ encAll rest = bs.drop k ∧ rest.length + k ≤ bs.length := by
  intro f
  induction f with
  | zero => intro k acc hk hf; omega
  | succ f ih =>
    intro k acc hk hf h
    by_cases hlt : k < bs.length
    · by_cases h0 : (nextS bs k).2.2 = 0
      · obtain ⟨a, b, c, d, e⟩ := nextS_ok hb h0
        rw [dec_ok hlt h0] at h ⊢
        obtain ⟨rest, h1, h2, h3, h4⟩ := ih _ _ d (by omega) h
        refine ⟨(nextS bs k).1 :: rest, by rw [h1]; simp, ?_, ?_, by simp; omega⟩
        · intro r hr
          rcases List.mem_cons.1 hr with rfl | hr
          · exact a
          · exact h2 r hr
        · have : encAll ((nextS bs k).1 :: rest) = enc (nextS bs k).1 ++ encAll rest := by simp [encAll]
          rw [this, h3, e, ← List.drop_drop, List.take_append_drop]
      · rw [dec_err hlt h0] at h
        exact absurd h h0
    · rw [dec_end hlt]
      exact ⟨[], by simp, by simp, by rw [List.drop_of_length_le (by omega)]; rfl, by simp; omega⟩

theorem decS_back {bs : List Int} (hb : ∀ x ∈ bs, 0 ≤ x ∧ x ≤ 255) (h : (decS bs).2.2 = 0) : (∀ r ∈ (decS bs).1, right r = true) ∧ encAll (decS bs).1 = bs ∧ (decS bs).1.length ≤ bs.length := by
  obtain ⟨rest, h1, h2, h3, h4⟩ := dec_back hb _ 0 [] (by omega) (by omega) h
  unfold decS
  rw [h1]
  exact ⟨by simpa using h2, by simpa using h3, by simpa using h4⟩

theorem firstBad_none : ∀ (l : List Int) (k : Nat), (∀ r ∈ l, right r = true) → firstBad l k = none := by
  intro l
  induction l with
  | nil => intro k _; rfl
  | cons r l ih => intro k h; rw [firstBad, if_pos (h r (by simp))]; exact ih _ (fun x hx => h x (by simp [hx]))
theorem encS_ok {l : List Int} (h : ∀ r ∈ l, right r = true) : encS l = (encAll l, 0, 0) := by
  unfold encS; rw [firstBad_none l 0 h]
theorem encS_zero {l : List Int} (h : (encS l).2.2 = 0) : (∀ r ∈ l, right r = true) ∧ encS l = (encAll l, 0, 0) := by
  cases hb : firstBad l 0 with
  | none => exact ⟨firstBad_all l 0 hb, by unfold encS; rw [hb]⟩
  | some k => unfold encS at h; rw [hb] at h; simp at h
theorem encS_err (l : List Int) : (encS l).2.2 = 0 ∨ (encS l).2.2 = 11 := by
  unfold encS; split
  · exact .inr rfl
  · exact .inl rfl
theorem encAll_byte {l : List Int} (h : ∀ r ∈ l, right r = true) : ∀ x ∈ encAll l, 0 ≤ x ∧ x ≤ 255 := by
  intro x hx
  obtain ⟨r, hr, hxr⟩ := List.mem_flatMap.1 hx
  exact enc_byte (h r hr) x hxr
theorem dec_err_len (bs : List Int) : ∀ (f k : Nat) (acc : List Int), (dec bs f k acc).2.2 ≠ 0 → (dec bs f k acc).1 = [] := by
  intro f
  induction f with
  | zero => intro k acc h; exact absurd rfl h
  | succ f ih =>
    intro k acc h
    rw [dec] at h ⊢
    split
    · rename_i hk
      rw [if_pos hk] at h
      split
      · rename_i h0; rw [if_pos h0] at h; exact ih _ _ h
      · rfl
    · rename_i hk; rw [if_neg hk] at h; exact absurd rfl h
theorem decS_len (bs : List Int) : (decS bs).2.2 = 0 ∨ (decS bs).1.length = 0 := by
  by_cases h : (decS bs).2.2 = 0
  · exact .inl h
  · exact .inr (by unfold decS at *; rw [dec_err_len bs _ _ _ h]; rfl)
end Go.Proofs.Ytlfofgefpjihlaa
