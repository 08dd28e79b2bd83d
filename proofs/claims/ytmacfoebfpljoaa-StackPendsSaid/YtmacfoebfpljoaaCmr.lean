/- ChainMoves: what splices come to over an insertion at 0 -/
import Derived.Test.YtmacfoebfpljoaaCm
namespace Go.Proofs.Ytmacfoebfpljoaa
open Go.RowKit

/-- further on by as many -/
def StC.by_ (d : Int) (x : StC) : StC := { x with f := x.f + d, t := x.t + d }
/-- a splice that the law asks of -/
def Spl (x : StC) : Prop := x.k = 1 ∧ x.sh = true ∧ x.t ≤ 1000000
theorem Spl.bd {x : StC} (h : Spl x) : 0 ≤ x.f ∧ x.f ≤ x.t ∧ x.t ≤ 1000000 ∧ (x.sl.length : Int) ≤ 20000 ∧ sh1 x.g x.h x.i x.m x.v x.sl.length x.st.length = true := by
  obtain ⟨h1, h2, h3⟩ := h
  unfold StC.sh shB at h2
  rw [Bool.and_eq_true, if_pos h1] at h2
  have hb : 0 ≤ x.f ∧ x.f ≤ x.t ∧ x.t ≤ 1073741824 := by simpa [boxes] using h2.1
  have hs := h2.2
  unfold sh1 at hs
  have := of_decide_eq_true hs
  exact ⟨hb.1, hb.2.1, h3, by omega, h2.2⟩
theorem Spl.map {x : StC} (h : Spl x) : x.map = [⟨x.f, x.t - x.f, x.sl.length⟩] := by
  have hs := h.2.1
  unfold StC.sh at hs
  unfold StC.map mapB
  rw [if_pos hs]
  unfold mapS
  rw [if_pos (.inl h.1)]
theorem by_sh {x : StC} {d : Int} (h : Spl x) (hd : 0 ≤ d ∧ d ≤ 255) : (x.by_ d).sh = true := by
  obtain ⟨h1, h2, h3, h4, h5⟩ := h.bd
  unfold StC.sh shB StC.by_
  rw [Bool.and_eq_true]
  simp only
  rw [if_pos h.1]
  exact ⟨decide_eq_true (by omega), h5⟩
theorem by_map {x : StC} {d : Int} (h : Spl x) (hd : 0 ≤ d ∧ d ≤ 255) : (x.by_ d).map = [⟨x.f + d, x.t - x.f, x.sl.length⟩] := by
  unfold StC.map mapB
  have hs := by_sh h hd
  unfold StC.sh at hs
  rw [if_pos hs]
  unfold mapS
  rw [if_pos (.inl h.1)]
  simp only [StC.by_]
  congr 2
  omega
theorem spl_inv {x : StC} (h : Spl x) : invS x.map = [⟨x.f, x.sl.length, x.t - x.f⟩] := by
  obtain ⟨h1, h2, h3, h4, h5⟩ := h.bd
  rw [h.map]
  unfold invS
  rw [if_pos (right1 (by omega))]
  simp [invM, invFrom]
theorem spl_shift {x : StC} {d bd : Int} {T : Int → Int → Pl × Int} (h : Spl x) (hd : 0 ≤ d ∧ d ≤ 255) (hT : Moved d bd T) (hb : 1000000 ≤ bd) : shiftB T x = some (x.by_ d) := by
  obtain ⟨h1, h2, h3, h4, h5⟩ := h.bd
  obtain ⟨⟨a1, a2, a3⟩, _⟩ := hT x.f h1 (by omega)
  obtain ⟨_, b1, b2, b3⟩ := hT x.t (by omega) (by omega)
  unfold shiftB
  rw [if_pos ⟨h.2.1, a1, b1, by rw [a3]; rfl⟩]
  have hk : kindB T x (T x.f 1).1.pos (max (T x.f 1).1.pos (T x.t (-1)).1.pos) (T x.t (-1)).1.pos = some (x.by_ d) := by
    unfold kindB
    have hk1 := h.1
    rw [if_neg (by omega), if_neg (by omega), if_neg (by omega)]
    unfold StC.by_
    rw [a2, b2]
    congr 2
    split <;> omega
  rw [hk]
  simp [by_sh h hd]
theorem spl_step {x : StC} {d bd : Int} {m : List Rg} {ks : List Lk} (h : Spl x) (hd : 0 ≤ d ∧ d ≤ 255) (hT : Moved d bd (tellL m ks)) (hb : 1000000 ≤ bd) : stepT m ks x = (⟨[⟨x.f, x.sl.length, x.t - x.f⟩], [⟨x.f + d, x.t - x.f, x.sl.length⟩], true⟩ :: ks, some (x.by_ d)) := by
  obtain ⟨h1, h2, h3, h4, h5⟩ := h.bd
  unfold stepT
  rw [if_pos h.2.1]
  simp only
  rw [spl_inv h, spl_shift h hd hT hb, if_pos (right1 (by omega))]
  simp only
  rw [by_map h hd]
  rfl
theorem spl_run {d : Int} {m : List Rg} (hd : 0 ≤ d ∧ d ≤ 255) : ∀ (xs : List StC) (ks : List Lk) (bd : Int), (∀ x ∈ xs, Spl x) → Moved d bd (tellL m ks) → 1000000 * (xs.length + 1 : Int) ≤ bd → bd ≤ 1099511000000 → (runG m ks xs).2 = (xs.map (StC.by_ d), 0) ∧ Moved d (bd - 1000000 * xs.length) (tellL m (runG m ks xs).1) := by
  intro xs
  induction xs with
  | nil => intro ks bd _ hT _ _; exact ⟨rfl, by simpa [runG] using hT⟩
  | cons x xs ih =>
    intro ks bd hx hT hb hb2
    have h := hx x (by simp)
    obtain ⟨h1, h2, h3, h4, h5⟩ := h.bd
    have hst := spl_step h hd hT (by simp at hb; omega)
    have hT2 : Moved d (bd - 1000000) (tellL m (⟨[⟨x.f, x.sl.length, x.t - x.f⟩], [⟨x.f + d, x.t - x.f, x.sl.length⟩], true⟩ :: ks)) := moved_cons hT hd h1 (by omega) (by omega) (by omega) hb2
    have := ih _ (bd - 1000000) (fun y hy => hx y (by simp [hy])) hT2 (by simp at hb; omega) (by omega)
    simp only [runG]
    rw [hst]
    obtain ⟨i1, i2⟩ := this
    simp only
    rw [i1]
    refine ⟨by simp, ?_⟩
    have e : bd - 1000000 * ((x :: xs).length : Int) = bd - 1000000 - 1000000 * (xs.length : Int) := by simp; omega
    rw [e]
    exact i2
theorem spl_over {d : Int} {m : List Rg} (hd : 0 ≤ d ∧ d ≤ 255) : ∀ (L : List GrC) (ks : List Lk) (bd : Int), (∀ g ∈ L, ∀ x ∈ g.steps, Spl x) → (∀ g ∈ L, -9223372036854775808 ≤ g.lost ∧ g.lost ≤ 9223372036854775807) → Moved d bd (tellL m ks) → 1000000 * ((L.flatMap GrC.steps).length + 1 : Int) ≤ bd → bd ≤ 1099511000000 →
    ∀ (i : Nat) (g : GrC), L[i]? = some g → ∃ a, (overG m ks L).2[i]? = some a ∧ a.steps = g.steps.map (StC.by_ d) ∧ a.lost = g.lost := by
  intro L
  induction L with
  | nil => intro ks bd _ _ _ _ _ i g hg; cases hg
  | cons y L ih =>
    intro ks bd hx hl hT hb hb2 i g hg
    simp only [List.flatMap_cons, List.length_append] at hb
    obtain ⟨r1, r2⟩ := spl_run hd y.steps ks bd (hx y (by simp)) hT (by omega) hb2
    cases i with
    | zero =>
      simp only [List.getElem?_cons_zero, Option.some.injEq] at hg
      subst hg
      simp only [overG, List.getElem?_cons_zero]
      refine ⟨_, rfl, by rw [r1], ?_⟩
      simp only [r1]
      have := hl y (by simp)
      rw [show y.lost + ((0 : Nat) : Int) = y.lost by omega, IntWalk.i64_in _ (by omega)]
    | succ i =>
      simp only [List.getElem?_cons_succ] at hg
      simp only [overG, List.getElem?_cons_succ]
      exact ih _ (bd - 1000000 * y.steps.length) (fun g h => hx g (by simp [h])) (fun g h => hl g (by simp [h])) r2 (by omega) (by omega) i g hg
theorem spl_all {d : Int} {L : List GrC} (hd : 0 ≤ d ∧ d ≤ 255) (hx : ∀ g ∈ L, ∀ x ∈ g.steps, Spl x) (hl : ∀ g ∈ L, -9223372036854775808 ≤ g.lost ∧ g.lost ≤ 9223372036854775807) (hn : (L.flatMap GrC.steps).length ≤ 24) {i : Nat} {g : GrC} (hg : L[i]? = some g) : ∃ a, (overC [⟨0, 0, d⟩] L)[i]? = some a ∧ a.steps = g.steps.map (StC.by_ d) ∧ a.lost = g.lost := by
  unfold overC
  rw [if_pos (right1 (by omega))]
  exact spl_over hd L [] 1099511000000 hx hl (moved_nil hd.1 hd.2) (by omega) (by omega) i g hg
end Go.Proofs.Ytmacfoebfpljoaa
