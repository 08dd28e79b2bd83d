/- ChainMoves: over an insertion at 0 each splice moves by as many: the plain law -/
import Derived.Test.YtmacfoebfpljoaaCa
namespace Go.Proofs.Ytmacfoebfpljoaa
open Go.RowKit

theorem right1 {a o n : Int} (h : (0 ≤ a ∧ a ≤ 1073741824) ∧ (0 ≤ o ∧ o ≤ 1073741824) ∧ (0 ≤ n ∧ n ≤ 1073741824)) : rightM [⟨a, o, n⟩] = true := by
  obtain ⟨h1, h2, h3⟩ := h
  have e1 : inB a = true := decide_eq_true h1
  have e2 : inB o = true := decide_eq_true h2
  have e3 : inB n = true := decide_eq_true h3
  have e4 : decide ((-1 : Int) < a) = true := decide_eq_true (by omega)
  simp only [rightM, rightFrom, e1, e2, e3, e4]
  rfl
theorem tell1 {a o n p s : Int} (hr : rightM [⟨a, o, n⟩] = true) (h0 : 0 ≤ p) (h1 : p ≤ 1099511627776) :
    tellS [⟨a, o, n⟩] p s = ((if a + o < p then ⟨p + (n - o), false, false, 0, 0⟩ else if a ≤ p then withinS ⟨a, o, n⟩ 0 0 p s else ⟨p, false, false, 0, 0⟩), 0) := by
  unfold tellS
  rw [if_pos hr, if_pos ⟨h0, h1⟩]
  simp only [tellM, tellFrom]
  rw [Int.zero_add, Int.add_zero]
  rfl
theorem rec1 {a o n x : Int} (hr : rightM [⟨a, o, n⟩] = true) (h0 : 0 ≤ x) (h1 : x ≤ n) : recO [⟨a, o, n⟩] 0 x = some (a + x) := by
  have e : recM [⟨a, o, n⟩] 0 x = some (a + x) := by
    have := recM_hit (l := [⟨a, o, n⟩]) (at_ := 0) (off := x) (k := 0) (r := ⟨a, o, n⟩) rfl rfl h0 h1
    simpa [shiftL] using this
  have e2 : recS [⟨a, o, n⟩] 0 x = (a + x, true) := by unfold recS; rw [if_pos hr, e]
  simp [recO, e2]

/-- each position comes to as many places further on -/
def Moved (d bd : Int) (T : Int → Int → Pl × Int) : Prop := ∀ p, 0 ≤ p → p ≤ bd → ((T p 1).2 = 0 ∧ (T p 1).1.pos = p + d ∧ (T p 1).1.inside = false) ∧ ((T p (-1)).2 = 0 ∧ (T p (-1)).1.pos = (if p = 0 then 0 else p + d) ∧ (T p (-1)).1.inside = false)

theorem moved_nil {d : Int} (h0 : 0 ≤ d) (h1 : d ≤ 255) : Moved d 1099511000000 (tellL [⟨0, 0, d⟩] []) := by
  have hr : rightM [⟨0, 0, d⟩] = true := right1 (by omega)
  intro p h2 h3
  simp only [tellL]
  rw [tell1 hr h2 (by omega), tell1 hr h2 (by omega)]
  simp only
  by_cases hp : p = 0
  · subst hp
    simp [withinS, rightB]
  · rw [if_pos (by omega), if_neg hp, if_pos (by omega)]
    refine ⟨⟨?_, ?_, ?_⟩, ?_, ?_, ?_⟩ <;> simp <;> omega

/-- one step of a splice on -/
theorem moved_one {d f o n bd p s : Int} {T : Int → Int → Pl × Int} (hT : Moved d bd T) (hd : 0 ≤ d ∧ d ≤ 255) (hf : 0 ≤ f) (ho : 0 ≤ o) (hfo : f + o ≤ 1000000) (hn : 0 ≤ n ∧ n ≤ 20000) (hb : bd ≤ 1099511000000) (h0 : 0 ≤ p) (h1 : p ≤ bd - 1000000) (hs : s = 1 ∨ s = -1) :
    (∃ q, (tellS [⟨f, n, o⟩] p s) = (q, 0) ∧ q.gone = true ∧ q.range = 0 ∧ q.off = p - f ∧ 0 ≤ p - f ∧ p - f ≤ n ∧ (s = -1 → p ≠ 0)) ∨
    (∃ q x, (tellS [⟨f, n, o⟩] p s) = (q, 0) ∧ q.gone = false ∧ q.inside = false ∧ (T q.pos s).2 = 0 ∧ (T q.pos s).1.inside = false ∧ tellS [⟨f + d, o, n⟩] (T q.pos s).1.pos s = (x, 0) ∧ x.inside = false ∧ x.pos = (if s = -1 ∧ p = 0 then 0 else p + d)) := by
  have hr : rightM [⟨f, n, o⟩] = true := right1 (by omega)
  have hr' : rightM [⟨f + d, o, n⟩] = true := right1 (by omega)
  by_cases hA : p < f
  · -- ahead of it
    right
    have hq : tellS [⟨f, n, o⟩] p s = (⟨p, false, false, 0, 0⟩, 0) := by rw [tell1 hr h0 (by omega), if_neg (by omega), if_neg (by omega)]
    refine ⟨_, ⟨if s = -1 ∧ p = 0 then 0 else p + d, false, false, 0, 0⟩, hq, rfl, rfl, ?_⟩
    obtain ⟨⟨t1, t2, t3⟩, t4, t5, t6⟩ := hT p h0 (by omega)
    rcases hs with rfl | rfl
    · refine ⟨t1, t3, ?_, rfl, rfl⟩
      simp only
      rw [t2, tell1 hr' (by omega) (by omega), if_neg (by omega), if_neg (by omega), if_neg (by omega)]
    · refine ⟨t4, t6, ?_, rfl, rfl⟩
      simp only
      rw [t5]
      by_cases hp : p = 0
      · rw [if_pos hp, if_pos (by simp [hp]), tell1 hr' (by omega) (by omega), if_neg (by omega), if_neg (by omega)]
      · rw [if_neg hp, if_neg (by omega), tell1 hr' (by omega) (by omega), if_neg (by omega), if_neg (by omega)]
  by_cases hD : f + n < p
  · -- behind it
    right
    have hq : tellS [⟨f, n, o⟩] p s = (⟨p + (o - n), false, false, 0, 0⟩, 0) := by rw [tell1 hr h0 (by omega), if_pos hD]
    refine ⟨_, ⟨if s = -1 ∧ p = 0 then 0 else p + d, false, false, 0, 0⟩, hq, rfl, rfl, ?_⟩
    obtain ⟨⟨t1, t2, t3⟩, t4, t5, t6⟩ := hT (p + (o - n)) (by omega) (by omega)
    rcases hs with rfl | rfl
    · refine ⟨t1, t3, ?_, rfl, rfl⟩
      simp only
      rw [t2, tell1 hr' (by omega) (by omega), if_pos (by omega), if_neg (by omega)]
      congr 2
      omega
    · refine ⟨t4, t6, ?_, rfl, rfl⟩
      simp only
      rw [t5, if_neg (by omega), tell1 hr' (by omega) (by omega), if_pos (by omega), if_neg (by omega)]
      congr 2
      omega
  have hw : tellS [⟨f, n, o⟩] p s = (withinS ⟨f, n, o⟩ 0 0 p s, 0) := by rw [tell1 hr h0 (by omega), if_neg hD, if_pos (by omega)]
  by_cases hg : goneB ⟨f, n, o⟩ p s = true
  · left
    refine ⟨_, hw, hg, by simp [withinS], by simp [withinS, hg], by omega, by omega, ?_⟩
    rintro rfl
    have : f < p := by simpa [goneB] using hg
    omega
  · right
    have hg' : goneB ⟨f, n, o⟩ p s = false := by simpa using hg
    rcases hs with rfl | rfl
    · have hp : p = f + n := by
        have : ¬ p < f + n := by simpa [goneB] using hg
        omega
      subst hp
      obtain ⟨⟨t1, t2, t3⟩, _⟩ := hT (f + o) (by omega) (by omega)
      have hpos : (withinS ⟨f, n, o⟩ 0 0 (f + n) 1).pos = f + o := by
        have : rightB ⟨f, n, o⟩ (f + n) 1 = true := by simp [rightB]
        simp only [withinS, this]
        simp
      refine ⟨_, withinS ⟨f + d, o, n⟩ 0 0 (f + o + d) 1, hw, hg', by simp [withinS], ?_⟩
      rw [hpos]
      refine ⟨t1, t3, ?_, ?_, ?_⟩
      · rw [t2, tell1 hr' (by omega) (by omega), if_neg (by omega), if_pos (by omega)]
      · simp only [withinS, decide_eq_false_iff_not]; omega
      · have : rightB ⟨f + d, o, n⟩ (f + o + d) 1 = true := by
          simp only [rightB]
          split
          · exact decide_eq_true (by omega)
          · rfl
        simp only [withinS, this]
        simp
        omega
    · have hp : p = f := by
        have : ¬ f < p := by simpa [goneB] using hg
        omega
      subst hp
      obtain ⟨_, t4, t5, t6⟩ := hT p (by omega) (by omega)
      have hpos : (withinS ⟨p, n, o⟩ 0 0 p (-1)).pos = p := by
        have : rightB ⟨p, n, o⟩ p (-1) = false := by
          simp only [rightB]
          split
          · exact decide_eq_false (by omega)
          · rfl
        simp only [withinS, this]
        simp
      refine ⟨_, (tellS [⟨p + d, o, n⟩] (T p (-1)).1.pos (-1)).1, hw, hg', by simp [withinS], ?_⟩
      rw [hpos]
      refine ⟨t4, t6, ?_, ?_⟩
      · rw [t5]
        rw [tell1 hr' (by split <;> omega) (by split <;> omega)]
      · rw [t5]
        have hx : ∀ y, y = p + d → withinS ⟨p + d, o, n⟩ 0 0 y (-1) = ⟨p + d, false, false, 0, 0⟩ := by
          rintro y rfl
          have h3 : rightB ⟨p + d, o, n⟩ (p + d) (-1) = false := by
            simp only [rightB]
            split
            · exact decide_eq_false (by omega)
            · rfl
          have h4 : goneB ⟨p + d, o, n⟩ (p + d) (-1) = false := by simp [goneB]
          simp only [withinS, h3, h4]
          simp
        by_cases hp0 : p = 0
        · rw [if_pos hp0, if_pos ⟨rfl, hp0⟩, tell1 hr' (by omega) (by omega), if_neg (by omega)]
          by_cases hd0 : d = 0
          · rw [if_pos (by omega), hx 0 (by omega)]
            exact ⟨rfl, by simp only; omega⟩
          · rw [if_neg (by omega)]
            exact ⟨rfl, rfl⟩
        · rw [if_neg hp0, if_neg (by omega), tell1 hr' (by omega) (by omega), if_neg (by omega), if_pos (by omega), hx _ rfl]
          exact ⟨rfl, rfl⟩

theorem moved_cons {d f o n bd : Int} {m : List Rg} {ks : List Lk} (hT : Moved d bd (tellL m ks)) (hd : 0 ≤ d ∧ d ≤ 255) (hf : 0 ≤ f) (ho : 0 ≤ o) (hfo : f + o ≤ 1000000) (hn : 0 ≤ n ∧ n ≤ 20000) (hb : bd ≤ 1099511000000) :
    Moved d (bd - 1000000) (tellL m (⟨[⟨f, n, o⟩], [⟨f + d, o, n⟩], true⟩ :: ks)) := by
  have key : ∀ p s, 0 ≤ p → p ≤ bd - 1000000 → (s = 1 ∨ s = -1) → (tellL m (⟨[⟨f, n, o⟩], [⟨f + d, o, n⟩], true⟩ :: ks) p s).2 = 0 ∧ (tellL m (⟨[⟨f, n, o⟩], [⟨f + d, o, n⟩], true⟩ :: ks) p s).1.pos = (if s = -1 ∧ p = 0 then 0 else p + d) ∧ (tellL m (⟨[⟨f, n, o⟩], [⟨f + d, o, n⟩], true⟩ :: ks) p s).1.inside = false := by
    intro p s h0 h1 hs
    have hr' : rightM [⟨f + d, o, n⟩] = true := right1 (by omega)
    rcases moved_one hT hd hf ho hfo hn hb h0 h1 hs with ⟨q, hq, h2, h3, h4, h5, h6, h7⟩ | ⟨q, x, hq, h2, h3, h4, h5, h6, h7, h8⟩
    · simp only [tellL]
      rw [hq]
      simp only [h2, h3, h4]
      rw [if_neg (by simp), if_pos (by simp), rec1 hr' h5 h6]
      refine ⟨rfl, ?_, rfl⟩
      simp only
      rw [if_neg (by rintro ⟨h8, h9⟩; exact h7 h8 h9)]
      omega
    · simp only [tellL]
      rw [hq]
      simp only [h2]
      rw [if_neg (by simp), if_neg (by simp)]
      simp only
      rw [if_neg (by simp [h4]), h6]
      simp only
      rw [if_neg (by simp)]
      refine ⟨rfl, h8, ?_⟩
      simp only [h3, h5, h7]
      rfl
  intro p h0 h1
  obtain ⟨a1, a2, a3⟩ := key p 1 h0 h1 (.inl rfl)
  obtain ⟨b1, b2, b3⟩ := key p (-1) h0 h1 (.inr rfl)
  rw [if_neg (by omega)] at a2
  refine ⟨⟨a1, a2, a3⟩, b1, ?_, b3⟩
  rw [b2]
  by_cases hp : p = 0
  · rw [if_pos ⟨rfl, hp⟩, if_pos hp]
  · rw [if_neg (by omega), if_neg hp]
end Go.Proofs.Ytmacfoebfpljoaa
