/- route: plain laws: through maps and their inverses -/
import Derived.Test.YtkkbmcpimglcpaaRtH
namespace Go.Proofs.Ytkkbmcpimglcpaa

theorem tell_back2 : ∀ {l : List Rg} {e : Int} {i : Nat} {s p side : Int} (j : Nat), rightFrom e l = true → e < p → (tellFrom p side i s l).gone = false → tellFrom (tellFrom p side i s l).pos side j (-s) (invFrom s l) = ⟨p, false, false, 0, 0⟩ := by
  intro l
  induction l with
  | nil => intro e i s p side j _ _ _; simp only [tellFrom, invFrom, Pl.mk.injEq, and_true]; omega
  | cons r l ih =>
    intro e i s p side j hr he hg
    obtain ⟨h1, h2, h3, h4⟩ := rightFrom_cons hr
    by_cases hp : r.at_ + r.old < p
    · rw [tellFrom_step hp] at hg ⊢
      have lo := tell_lo (i := i + 1) (s := s + (r.new - r.old)) (side := side) h4 hp
      rw [invFrom, tellFrom_step (by simp only; omega)]
      have := ih (j + 1) h4 hp hg
      rw [show -s + ((⟨r.at_ + s, r.new, r.old⟩ : Rg).new - (⟨r.at_ + s, r.new, r.old⟩ : Rg).old) = -(s + (r.new - r.old)) by simp only; omega]
      exact this
    · by_cases hp2 : r.at_ ≤ p
      · rw [tellFrom_in hp hp2] at hg ⊢
        simp only [withinS] at hg
        have hgb : ¬ goneB r p side = true := by rw [hg]; simp
        rw [goneB_iff'] at hgb
        have hb : rightB r p side = decide (0 ≤ side) := by
          unfold rightB
          split
          · rw [decide_eq_decide]; omega
          · rfl
        have hpos : (withinS r i s p side).pos = r.at_ + s + (if 0 ≤ side then r.new else 0) := by
          simp only [withinS, hb, decide_eq_true_eq]
        rw [hpos, invFrom]
        by_cases hs : 0 ≤ side
        · rw [if_pos hs, tellFrom_in (by simp only; omega) (by simp only; omega)]
          have hb2 : rightB ⟨r.at_ + s, r.new, r.old⟩ (r.at_ + s + r.new) side = true := by
            unfold rightB
            simp only
            split
            · simp
            · exact decide_eq_true hs
          have hg2 : goneB ⟨r.at_ + s, r.new, r.old⟩ (r.at_ + s + r.new) side = false := by
            refine Bool.eq_false_iff.2 fun h => ?_
            rw [goneB_iff'] at h
            simp only at h
            omega
          simp only [withinS, hb2, hg2, if_true, Bool.false_eq_true, if_false, Pl.mk.injEq, and_true, true_and]
          refine ⟨by omega, decide_eq_false (by omega)⟩
        · rw [if_neg hs, tellFrom_in (by simp only; omega) (by simp only; omega)]
          have hb2 : rightB ⟨r.at_ + s, r.new, r.old⟩ (r.at_ + s + 0) side = false := by
            unfold rightB
            simp only
            split
            · refine decide_eq_false ?_; omega
            · exact decide_eq_false hs
          have hg2 : goneB ⟨r.at_ + s, r.new, r.old⟩ (r.at_ + s + 0) side = false := by
            refine Bool.eq_false_iff.2 fun h => ?_
            rw [goneB_iff'] at h
            simp only at h
            omega
          simp only [withinS, hb2, hg2, Bool.false_eq_true, if_false, Pl.mk.injEq, and_true, true_and]
          refine ⟨by omega, decide_eq_false (by omega)⟩
      · rw [tellFrom_out hp hp2, invFrom, tellFrom_out (by simp only; omega) (by simp only; omega)]
        simp only [Pl.mk.injEq, and_true]
        omega

theorem inside_gone : ∀ {l : List Rg} {i : Nat} {s p side : Int}, (tellFrom p side i s l).inside = true → (tellFrom p side i s l).gone = true := by
  intro l
  induction l with
  | nil => intro i s p side h; simp [tellFrom] at h
  | cons r l ih =>
    intro i s p side h
    by_cases hp : r.at_ + r.old < p
    · rw [tellFrom_step hp] at h ⊢; exact ih h
    · by_cases hp2 : r.at_ ≤ p
      · rw [tellFrom_in hp hp2] at h ⊢
        simp only [withinS, decide_eq_true_eq] at h ⊢
        rw [goneB_iff']
        omega
      · rw [tellFrom_out hp hp2] at h; cases h

theorem back_pl {l : List Rg} {p side : Int} (hr : rightM l = true) (hp : 0 ≤ p) (h : (tellM l p side).gone = false) : tellM (invM l) (tellM l p side).pos side = ⟨p, false, false, 0, 0⟩ := by
  simp only [rightM, Bool.and_eq_true] at hr
  have := tell_back2 (s := 0) 0 hr.2 (by omega) h
  simpa [tellM, invM] using this

/-- which map mirrors which, where the last s of N maps are mirrored behind them -/
def fM (N s : Nat) : IMap := fun x => if (N : Int) - s ≤ x ∧ x < N + s then some (2 * N - 1 - x) else none
theorem fM_next {N s : Nat} : upd (upd (fM N s) (N - 1 - s : Int) (N + s : Nat)) (N + s : Nat) (N - 1 - s : Int) = fM N (s + 1) := by
  funext x
  unfold upd fM
  by_cases h1 : x = ((N + s : Nat) : Int)
  · rw [if_pos h1, if_pos (by omega)]
    congr 1; omega
  · rw [if_neg h1]
    by_cases h2 : x = (N : Int) - 1 - s
    · rw [if_pos h2, if_pos (by omega)]
      congr 1; omega
    · rw [if_neg h2]
      by_cases h3 : (N : Int) - s ≤ x ∧ x < N + s
      · rw [if_pos h3, if_pos (by omega)]
      · rw [if_neg h3, if_neg (by omega)]

def goodM (m : List Rg) : Bool := rightM m && rightM (invM m)
/-- maps, and behind them their inverses, the last one first -/
def there (G : List (List Rg)) : List (List Rg) := G ++ G.reverse.map invM
theorem there_len (G : List (List Rg)) : (there G).length = 2 * G.length := by simp [there]; omega
theorem there_lo {G : List (List Rg)} {i : Nat} {m : List Rg} (h : G[i]? = some m) : (there G).getD i [] = m := by
  rw [List.getD_eq_getElem?_getD, there, List.getElem?_append_left (List.getElem?_eq_some_iff.1 h).1, h]; rfl
theorem there_hi {G : List (List Rg)} {i : Nat} {m : List Rg} (h : G[i]? = some m) : (there G).getD (2 * G.length - 1 - i) [] = invM m := by
  have hl := (List.getElem?_eq_some_iff.1 h).1
  rw [List.getD_eq_getElem?_getD, there, List.getElem?_append_right (by omega), List.getElem?_map, List.getElem?_reverse (by omega)]
  rw [show G.length - 1 - (2 * G.length - 1 - i - G.length) = i by omega, h]; rfl

theorem run_there {G : List (List Rg)} (hG : ∀ m ∈ G, goodM m = true) {side : Int} : ∀ {d i : Nat} {p : Int}, i + d = G.length → 
    rRun (there G) (fM G.length G.length) side (2 * G.length - i) i ⟨p, false, false, 0, 0⟩ = (Pl.zero, 3) ∨
    rRun (there G) (fM G.length G.length) side (2 * G.length - i) i ⟨p, false, false, 0, 0⟩ = rRun (there G) (fM G.length G.length) side i (2 * G.length - i) ⟨p, false, false, 0, 0⟩ := by
  intro d
  induction d with
  | zero =>
    intro i p hd
    right
    rw [show 2 * G.length - i = i by omega]
  | succ d ih =>
    intro i p hd
    have hi : i < G.length := by omega
    obtain ⟨m, hm⟩ : ∃ m, G[i]? = some m := ⟨_, List.getElem?_eq_getElem hi⟩
    have hg := hG m (List.mem_of_getElem? hm)
    simp only [goodM, Bool.and_eq_true] at hg
    obtain ⟨hr, hri⟩ := hg
    have hst := rRun_step (ms := there G) (f := fM G.length G.length) (side := side) (i := i) (o := ⟨p, false, false, 0, 0⟩) (by rw [there_len]; omega)
    rw [there_len] at hst
    unfold rStep at hst
    rw [there_lo hm] at hst
    by_cases hp : 0 ≤ p ∧ p ≤ 1099511627776
    · have ht : tellS m p side = (tellM m p side, 0) := by unfold tellS; rw [hr, if_pos rfl, if_pos hp]
      simp only [ht] at hst
      rw [if_neg (by simp)] at hst
      have hfi : fM G.length G.length (i : Int) = some (2 * (G.length : Int) - 1 - (i : Int)) := by unfold fM; rw [if_pos (by omega)]
      cases hgone : (tellM m p side).gone with
      | true =>
        right
        have hrec : recR (there G) (fM G.length G.length) i true (tellM m p side).range (tellM m p side).off = (2 * (G.length : Int) - 1 - (i : Int), p, true) := by
          unfold recR
          rw [hfi]
          simp only
          rw [if_pos (by refine ⟨trivial, ?_⟩; omega), show (2 * (G.length : Int) - 1 - (i : Int)).toNat = 2 * G.length - 1 - i by omega, there_hi hm]
          unfold recS
          rw [hri, if_pos rfl, back_gone hgone]
        rw [hgone, hrec] at hst
        simp only [if_true] at hst
        rw [hst, show (2 * (G.length : Int) - 1 - (i : Int)).toNat + 1 = 2 * G.length - i by omega]
        exact rRun_enough (by rw [there_len]; omega) (by rw [there_len]; omega)
      | false =>
        have hin : (tellM m p side).inside = false := by
          cases h : (tellM m p side).inside with
          | false => rfl
          | true => have := inside_gone h; unfold tellM at hgone; rw [this] at hgone; cases hgone
        have hrec : recR (there G) (fM G.length G.length) i false (tellM m p side).range (tellM m p side).off = (0, 0, false) := by
          unfold recR
          rw [hfi]
          simp
        rw [hgone, hrec, hin] at hst
        simp only [Bool.false_eq_true, if_false, Bool.or_self] at hst
        rw [hst]
        rcases ih (i := i + 1) (p := (tellM m p side).pos) (by omega) with h | h
        · exact .inl h
        · rw [h]
          have hst2 := rRun_step (ms := there G) (f := fM G.length G.length) (side := side) (i := 2 * G.length - (i + 1)) (o := ⟨(tellM m p side).pos, false, false, 0, 0⟩) (by rw [there_len]; omega)
          rw [there_len] at hst2
          have e1 : rRun (there G) (fM G.length G.length) side (i + 1) (2 * G.length - (i + 1)) ⟨(tellM m p side).pos, false, false, 0, 0⟩ = rRun (there G) (fM G.length G.length) side (2 * G.length - (2 * G.length - (i + 1))) (2 * G.length - (i + 1)) ⟨(tellM m p side).pos, false, false, 0, 0⟩ := rRun_enough (by rw [there_len]; omega) (by rw [there_len]; omega)
          rw [e1, hst2]
          unfold rStep
          rw [show 2 * G.length - (i + 1) = 2 * G.length - 1 - i by omega, there_hi hm]
          simp only
          by_cases hp2 : 0 ≤ (tellM m p side).pos ∧ (tellM m p side).pos ≤ 1099511627776
          · right
            have ht2 : tellS (invM m) (tellM m p side).pos side = (⟨p, false, false, 0, 0⟩, 0) := by unfold tellS; rw [hri, if_pos rfl, if_pos hp2, back_pl hr hp.1 hgone]
            rw [ht2]
            have hrec2 : ∀ a b, recR (there G) (fM G.length G.length) (2 * G.length - 1 - i) false a b = (0, 0, false) := by
              intro a b
              unfold recR
              split <;> simp
            simp only [hrec2, ne_eq, not_true_eq_false, Bool.false_eq_true, if_false, Bool.or_self]
            rw [show 2 * G.length - 1 - i + 1 = 2 * G.length - i by omega]
            exact rRun_enough (by rw [there_len]; omega) (by rw [there_len]; omega)
          · left
            have ht2 : tellS (invM m) (tellM m p side).pos side = (Pl.zero, 3) := by unfold tellS; rw [hri, if_pos rfl, if_neg hp2]
            rw [ht2]
            simp
    · left
      have ht : tellS m p side = (Pl.zero, 3) := by unfold tellS; rw [hr, if_pos rfl, if_neg hp]
      simp only [ht] at hst
      rw [hst]
      simp

theorem tell_there {G : List (List Rg)} (hG : ∀ m ∈ G, goodM m = true) (p side : Int) : rTell (there G) (fM G.length G.length) p side = (Pl.zero, 3) ∨ rTell (there G) (fM G.length G.length) p side = (⟨p, false, false, 0, 0⟩, 0) := by
  unfold rTell
  rw [there_len]
  rcases run_there hG (side := side) (i := 0) (p := p) (d := G.length) (by omega) with h | h
  · exact .inl h
  · right
    have : rRun (there G) (fM G.length G.length) side (2 * G.length) 0 ⟨p, false, false, 0, 0⟩ = (⟨p, false, false, 0, 0⟩, 0) := by
      rw [show 2 * G.length = 2 * G.length - 0 by omega, h, rRun_end (by rw [there_len]; omega)]
    exact this
theorem inR_fM (G : List (List Rg)) : InR (there G) (fM G.length G.length) := by
  intro k v h
  unfold fM at h
  split at h
  · injection h with h
    rw [there_len]
    omega
  · cases h
end Go.Proofs.Ytkkbmcpimglcpaa
