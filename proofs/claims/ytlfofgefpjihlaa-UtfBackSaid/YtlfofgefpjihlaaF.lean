/- utf: the plain law: what Next tells is what the reference tells -/
import Derived.Test.YtlfofgefpjihlaaE
namespace Go.Proofs.Ytlfofgefpjihlaa
open Go.RowKit

def guessF (r : Int) (l : List Int) : Int := l.foldl (fun r c => 64 * r + c - 128) r
theorem guessF_snoc (r : Int) (l : List Int) (c : Int) : guessF r (l ++ [c]) = 64 * guessF r l + c - 128 := by simp [guessF]
/-- the reference's trial at n bytes -/
def okR (n : Nat) (x : Int) (t : List Int) : Bool := right (guessF (x - headOf n) (t.take (n - 1))) && (enc (guessF (x - headOf n) (t.take (n - 1))) == x :: t.take (n - 1))

theorem list_lt {t : List Int} {n : Nat} (h : n ≤ t.length) : (t.take n).length = n := by simp; omega
theorem len1 {t : List Int} (h : t.length = 1) : ∃ a, t = [a] := by
  match t, h with | [a], _ => exact ⟨a, rfl⟩
theorem len2 {t : List Int} (h : t.length = 2) : ∃ a b, t = [a, b] := by
  match t, h with | [a, b], _ => exact ⟨a, b, rfl⟩
theorem len3 {t : List Int} (h : t.length = 3) : ∃ a b c, t = [a, b, c] := by
  match t, h with | [a, b, c], _ => exact ⟨a, b, c, rfl⟩

theorem beq_enc {a b : List Int} : (a == b) = true ↔ a = b := beq_iff_eq

theorem len_pos {r : Int} {n : Nat} (h : len r = n) (h1 : 1 ≤ n) : right r = true := by
  unfold len at h
  split at h
  · assumption
  · omega
theorem len_eq {r : Int} (h : right r = true) : len r = if r ≤ 127 then 1 else if r ≤ 2047 then 2 else if r ≤ 65535 then 3 else 4 := by
  unfold len; rw [if_pos h]

/-- what is encoded is decoded -/
theorem enc_dec {g x : Int} {u : List Int} (hg : right g = true) (h : enc g = x :: u) : many x = len g ∧ u.all (fun x => x / 64 == 2) = true ∧ foldC (x - headOf (len g)) u = g ∧ u.length + 1 = len g := by
  have hb := right_bd hg
  rw [len_eq hg]
  unfold enc at h
  by_cases h1 : g ≤ 127
  · rw [if_pos h1] at h ⊢
    simp only [List.cons.injEq] at h
    obtain ⟨rfl, rfl⟩ := h
    refine ⟨?_, rfl, by simp [foldC, headOf], rfl⟩
    unfold many; rw [if_pos (by omega)]
  rw [if_neg h1] at h ⊢
  by_cases h2 : g ≤ 2047
  · rw [if_pos h2] at h ⊢
    simp only [List.cons.injEq] at h
    obtain ⟨rfl, rfl⟩ := h
    refine ⟨?_, by simp; omega, ?_, rfl⟩
    · unfold many; rw [if_neg (by omega), if_pos (by omega)]
    · simp only [foldC, headOf, List.foldl_cons, List.foldl_nil]; omega
  rw [if_neg h2] at h ⊢
  by_cases h3 : g ≤ 65535
  · rw [if_pos h3] at h ⊢
    simp only [List.cons.injEq] at h
    obtain ⟨rfl, rfl⟩ := h
    refine ⟨?_, by simp; omega, ?_, rfl⟩
    · unfold many; rw [if_neg (by omega), if_neg (by omega), if_pos (by omega)]
    · simp only [foldC, headOf, List.foldl_cons, List.foldl_nil]; omega
  rw [if_neg h3] at h ⊢
  simp only [List.cons.injEq] at h
  obtain ⟨rfl, rfl⟩ := h
  refine ⟨?_, by simp; omega, ?_, rfl⟩
  · unfold many; rw [if_neg (by omega), if_neg (by omega), if_neg (by omega), if_pos (by omega)]
  · simp only [foldC, headOf, List.foldl_cons, List.foldl_nil]; omega

theorem many_1 {x : Int} (h : many x = 1) : x ≤ 127 := by
  unfold many at h
  by_cases h1 : x < 128
  · omega
  · rw [if_neg h1] at h; repeat' split at h
    all_goals omega
theorem many_2 {x : Int} (h : many x = 2) : x / 32 = 6 := by
  unfold many at h
  by_cases h1 : x < 128
  · rw [if_pos h1] at h; omega
  · rw [if_neg h1] at h
    split at h
    · assumption
    · repeat' split at h
      all_goals omega
theorem many_3 {x : Int} (h : many x = 3) : x / 16 = 14 := by
  unfold many at h
  by_cases h1 : x < 128
  · rw [if_pos h1] at h; omega
  · rw [if_neg h1] at h
    split at h
    · omega
    · split at h
      · assumption
      · split at h <;> omega
theorem many_4 {x : Int} (h : many x = 4) : x / 8 = 30 := by
  unfold many at h
  by_cases h1 : x < 128
  · rw [if_pos h1] at h; omega
  · rw [if_neg h1] at h
    split at h
    · omega
    · split at h
      · omega
      · split at h
        · assumption
        · omega

/-- what is decoded was encoded so -/
theorem dec_enc {n : Nat} {x : Int} {u : List Int} (hx : 0 ≤ x) (h1 : 1 ≤ n) (h4 : n ≤ 4) (hm : many x = n) (hl : u.length = n - 1) (hu : ∀ c ∈ u, c / 64 = 2) (hn : len (foldC (x - headOf n) u) = n) :
    enc (foldC (x - headOf n) u) = x :: u := by
  have hr := len_pos hn h1
  have hb := right_bd hr
  rw [len_eq hr] at hn
  obtain rfl | rfl | rfl | rfl : n = 1 ∨ n = 2 ∨ n = 3 ∨ n = 4 := by omega
  · obtain rfl := List.eq_nil_of_length_eq_zero hl
    have := many_1 hm
    simp only [foldC, headOf, List.foldl_nil] at *
    unfold enc; rw [if_pos (by omega)]; simp
  · obtain ⟨a, rfl⟩ := len1 hl
    have ha := hu a (by simp)
    have := many_2 hm
    simp only [foldC, headOf, List.foldl_cons, List.foldl_nil] at *
    by_cases q1 : (x - 192) * 64 + a % 64 ≤ 127
    · rw [if_pos q1] at hn; omega
    by_cases q2 : (x - 192) * 64 + a % 64 ≤ 2047
    · unfold enc; rw [if_neg q1, if_pos q2]; simp; omega
    · rw [if_neg q1, if_neg q2] at hn; split at hn <;> omega
  · obtain ⟨a, b, rfl⟩ := len2 hl
    have ha := hu a (by simp)
    have hb := hu b (by simp)
    have := many_3 hm
    simp only [foldC, headOf, List.foldl_cons, List.foldl_nil] at *
    generalize hg : ((x - 224) * 64 + a % 64) * 64 + b % 64 = g at *
    by_cases q1 : g ≤ 127
    · rw [if_pos q1] at hn; omega
    by_cases q2 : g ≤ 2047
    · rw [if_neg q1, if_pos q2] at hn; omega
    by_cases q3 : g ≤ 65535
    · unfold enc; rw [if_neg q1, if_neg q2, if_pos q3]; simp; omega
    · rw [if_neg q1, if_neg q2, if_neg q3] at hn; omega
  · obtain ⟨a, b, c, rfl⟩ := len3 hl
    have ha := hu a (by simp)
    have hb := hu b (by simp)
    have hc := hu c (by simp)
    have := many_4 hm
    simp only [foldC, headOf, List.foldl_cons, List.foldl_nil] at *
    generalize hg : (((x - 240) * 64 + a % 64) * 64 + b % 64) * 64 + c % 64 = g at *
    by_cases q1 : g ≤ 127
    · rw [if_pos q1] at hn; omega
    by_cases q2 : g ≤ 2047
    · rw [if_neg q1, if_pos q2] at hn; omega
    by_cases q3 : g ≤ 65535
    · rw [if_neg q1, if_neg q2, if_pos q3] at hn; omega
    · unfold enc; rw [if_neg q1, if_neg q2, if_neg q3]; simp; omega

theorem guess_fold : ∀ (u : List Int) (r : Int), (∀ c ∈ u, c / 64 = 2) → guessF r u = foldC r u := by
  intro u
  induction u with
  | nil => intro r _; rfl
  | cons c u ih =>
    intro r h
    have hc := h c (by simp)
    show guessF (64 * r + c - 128) u = foldC (r * 64 + c % 64) u
    rw [show 64 * r + c - 128 = r * 64 + c % 64 by omega]
    exact ih _ (fun d hd => h d (by simp [hd]))

/-- at the right number of bytes the two say the same -/
theorem ok_iff (n : Nat) (x : Int) (u : List Int) (h1 : 1 ≤ n) (h4 : n ≤ 4) (hx : 0 ≤ x) (hl : u.length = n - 1) :
    (right (guessF (x - headOf n) u) = true ∧ enc (guessF (x - headOf n) u) = x :: u) ↔ many x = n ∧ nextOf n x u = (guessF (x - headOf n) u, n, 0) := by
  constructor
  · rintro ⟨hr, he⟩
    obtain ⟨a, b, c, d⟩ := enc_dec hr he
    have hn : len (guessF (x - headOf n) u) = n := by omega
    rw [hn] at a c
    refine ⟨a, ?_⟩
    rw [nextOf_all b, c, if_pos hn]
  · rintro ⟨hm, he⟩
    by_cases ha : u.all (fun x => x / 64 == 2) = true
    · rw [nextOf_all ha] at he
      have hu : ∀ c ∈ u, c / 64 = 2 := by simpa using ha
      rw [guess_fold u _ hu] at *
      by_cases hn : len (foldC (x - headOf n) u) = n
      · exact ⟨len_pos hn h1, dec_enc hx h1 h4 hm hl hu hn⟩
      · rw [if_neg hn] at he
        simp at he
    · unfold nextOf at he
      rw [if_neg ha] at he
      simp at he
end Go.Proofs.Ytlfofgefpjihlaa
