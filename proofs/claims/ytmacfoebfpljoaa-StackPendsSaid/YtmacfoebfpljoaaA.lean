/- smap: ranges as data; in, Right (both), Shift (both) -/
import Derived.Test.YtmacfoebfpljoaaRows
import Derived.Test.YtmacfoebfpljoaaU
import Derived.Deep.DeepCutAuto
import Derived.Deep.QuietTactic
import Derived.BigQuiet
namespace Go.Proofs.Ytmacfoebfpljoaa
open Go.RowKit

structure Rg where
  at_ : Int
  old : Int
  new : Int
deriving DecidableEq

def Rg.cells (r : Rg) : List Value := [.int .i64 r.at_, .int .i64 r.old, .int .i64 r.new]
def rgs (l : List Rg) : List Value := l.flatMap Rg.cells
theorem rgs_len (l : List Rg) : (rgs l).length = l.length * 3 := by
  induction l with
  | nil => rfl
  | cons r l ih => simp only [rgs, List.flatMap_cons, List.length_append] at *; rw [ih]; simp [Rg.cells]; omega
theorem rgs_get {l : List Rg} {k : Nat} {r : Rg} (h : l[k]? = some r) (i : Nat) (hi : i < 3) : (rgs l)[k * 3 + i]? = r.cells[i]? := by
  induction l generalizing k with
  | nil => simp at h
  | cons x l ih =>
    have e : rgs (x :: l) = x.cells ++ rgs l := rfl
    rw [e]
    cases k with
    | zero =>
      simp at h; subst h
      rw [List.getElem?_append_left (by simp [Rg.cells]; omega)]
      simp
    | succ k =>
      rw [List.getElem?_append_right (by simp [Rg.cells]; omega)]
      have := ih (k := k) (by simpa using h)
      rw [← this]
      congr 1
      simp [Rg.cells]; omega
theorem Rd.rlen {w : World} {B : Nat} {A : Option Addr} {n : Nat} {l : List Rg} (h : Rd w B 3 A n (rgs l)) : l.length = n := by
  have := h.1
  rw [rgs_len] at this
  omega
theorem Rd.rg {w : World} {B b o n : Nat} {l : List Rg} {k : Nat} {r : Rg} (h : Rd w B 3 (some ⟨b, o, none⟩) n (rgs l)) (hk : l[k]? = some r) :
    w.cell? ⟨b, o + k * 3, none⟩ = some (.int .i64 r.at_) ∧ w.cell? ⟨b, o + k * 3 + 1, none⟩ = some (.int .i64 r.old) ∧ w.cell? ⟨b, o + k * 3 + 2, none⟩ = some (.int .i64 r.new) ∧ b < B := by
  have hl := h.rlen
  have hkl := (List.getElem?_eq_some_iff.1 hk).1
  obtain ⟨b', o', e, hb, hc⟩ := h.2 (by omega)
  injection e with e; injection e with e1 e2
  subst e1; subst e2
  have q := fun i hi u hu => hc (k * 3 + i) u ((rgs_get hk i hi).trans hu)
  exact ⟨by have := q 0 (by omega) _ rfl; simpa using this, by have := q 1 (by omega) _ rfl; rw [Nat.add_assoc]; exact this, by have := q 2 (by omega) _ rfl; rw [Nat.add_assoc]; exact this, hb⟩

def inB (n : Int) : Bool := decide (0 ≤ n ∧ n ≤ 1073741824)

set_option maxHeartbeats 400000 in
theorem in_any (n : Int) (w : World) :
    Calls Try.prog 33 #[.int .i64 n] w fun e w' => e = .returned (.bool (inB n)) ∧ w = w' := by
  go_enter Try.func33, Try.ntmps33
  go_wp2
  all_goals go_ret
  all_goals exact ⟨ret_bool (by rw [Bool.eq_iff_iff]; simp [inB]; try omega), rfl⟩

theorem inB_bd {n : Int} (h : inB n = true) : 0 ≤ n ∧ n ≤ 1073741824 := by simpa [inB] using h

def rightFrom (e : Int) : List Rg → Bool
  | [] => true
  | r :: t => inB r.at_ && inB r.old && inB r.new && decide (e < r.at_) && rightFrom (r.at_ + r.old) t
def rightM (l : List Rg) : Bool := decide (l.length ≤ 1000) && rightFrom (-1) l

theorem drop_cons {α : Type} {l : List α} {k : Nat} {x : α} (h : l[k]? = some x) : l.drop k = x :: l.drop (k + 1) := by
  obtain ⟨hlt, rfl⟩ := List.getElem?_eq_some_iff.1 h
  exact List.drop_eq_getElem_cons hlt

set_option maxHeartbeats 1000000 in
theorem right_any (A : Option Addr) (n c : Nat) (l : List Rg) (w : World) (hn : n ≤ maxLen) (h : n ≤ 1000 → Rd w w.heap.size 3 A n (rgs l)) (hl : l.length = n) :
    Calls Try.prog 20 #[.slice A n c] w fun e w' => e = .returned (.bool (rightM l)) ∧ Below w.heap.size w w' := by
  unfold maxLen at hn
  by_cases hbig : 1000 < n
  · have hr : rightM l = false := by unfold rightM; rw [decide_eq_false (by omega)]; rfl
    rw [hr]
    clear h
    go_enter Try.func20, Try.ntmps20
    go_wp2
    go_ret
    exact ⟨rfl, Below.refl _ _⟩
  have hrd := h (by omega)
  have hr : rightM l = rightFrom (-1) l := by unfold rightM; rw [decide_eq_true (by omega)]; rfl
  rw [hr]
  have HL := Lib.hid hl
  clear h hr hl
  go_enter Try.func20, Try.ntmps20
  go_wp2
  go_loopw [3, 11] (fun v i wr => ∃ (k : Nat) (e : Int), k ≤ n ∧ i = .int .i64 k ∧ v = .int .i64 e ∧ -1 ≤ e ∧ e ≤ 2147483648 ∧ Hid (rightFrom e (l.drop k) = rightFrom (-1) l) ∧ Below w.heap.size w wr) (fun _ i _ => n - (intOf i).toNat)
  case atStart => exact ⟨0, -1, by omega, rfl, rfl, by omega, by omega, rfl, Below.refl _ _⟩
  case round =>
    obtain ⟨k, e, hk, rfl, rfl, he1, he2, hI, hbr⟩ := hrel
    by_cases hkn : k < n
    · obtain ⟨b, o, rfl, _, _⟩ := hrd.2 (by omega)
      obtain ⟨r, hx⟩ : ∃ r, l[k]? = some r := ⟨_, List.getElem?_eq_getElem (by have := HL.out; omega)⟩
      obtain ⟨hc0, hc1, hc2, hb⟩ := (hrd.below hbr).rg hx
      have hstep : rightFrom e (l.drop k) = (inB r.at_ && inB r.old && inB r.new && decide (e < r.at_) && rightFrom (r.at_ + r.old) (l.drop (k + 1))) := by rw [drop_cons hx]; rfl
      have HS := Lib.hid hstep
      clear hx hstep
      by_cases hg : inB r.at_ = true ∧ inB r.old = true ∧ inB r.new = true ∧ e < r.at_
      · obtain ⟨g1, g2, g3, g4⟩ := hg
        have b1 := inB_bd g1
        have b2 := inB_bd g2
        go_wp2_with (go_at_call 33; refine (in_any _ _).mono ?_; rintro e w' ⟨rfl, rfl⟩)
        go_roundw
        case rel => exact ⟨k + 1, r.at_ + r.old, by omega, by go_num, rfl, by omega, by omega, by rw [HS.out, g1, g2, g3, decide_eq_true g4] at hI; exact hI, hbr.alloc hbr.size _⟩
        case measure => simp [intOf]; omega
      · have hbad : rightFrom e (l.drop k) = false := by
          rw [HS.out]
          simp only [Bool.and_eq_false_iff, decide_eq_false_iff_not]
          by_cases g1 : inB r.at_ = true
          · by_cases g2 : inB r.old = true
            · by_cases g3 : inB r.new = true
              · exact .inl (.inr (fun g4 => hg ⟨g1, g2, g3, g4⟩))
              · exact .inl (.inl (.inr (by simpa using g3)))
            · exact .inl (.inl (.inl (.inr (by simpa using g2))))
          · exact .inl (.inl (.inl (.inl (by simpa using g1))))
        have HBAD := Lib.hid hbad
        clear hbad HS
        go_wp2_with (go_at_call 33; refine (in_any _ _).mono ?_; rintro e w' ⟨rfl, rfl⟩)
        all_goals first
          | (go_ret; exact ⟨ret_bool (HBAD.out.symm.trans hI), hbr.alloc hbr.size _⟩)
          | (exfalso; exact hg ⟨by assumption, by assumption, by assumption, by assumption⟩)
    · obtain rfl : n = k := by omega
      go_wp2
      go_ret
      exact ⟨ret_bool (by have := hI.out; rw [List.drop_of_length_le (by rw [HL.out]; omega)] at this; exact this), hbr⟩

set_option maxHeartbeats 1000000 in
theorem rright_any (A : Option Addr) (n c : Nat) (l : List Rg) (w : World) (hn : n ≤ maxLen) (h : n ≤ 1000 → Rd w w.heap.size 3 A n (rgs l)) (hl : l.length = n) :
    Calls Try.prog 12 #[.slice A n c] w fun e w' => e = .returned (.bool (rightM l)) ∧ Below w.heap.size w w' := by
  unfold maxLen at hn
  by_cases hbig : 1000 < n
  · have hr : rightM l = false := by unfold rightM; rw [decide_eq_false (by omega)]; rfl
    rw [hr]
    clear h
    go_enter Try.func12, Try.ntmps12
    go_wp2
    go_ret
    exact ⟨rfl, Below.refl _ _⟩
  have hrd := h (by omega)
  have hr : rightM l = rightFrom (-1) l := by unfold rightM; rw [decide_eq_true (by omega)]; rfl
  rw [hr]
  have HL := Lib.hid hl
  clear h hr hl
  go_enter Try.func12, Try.ntmps12
  go_wp2
  go_loopw [3] (fun i wr => ∃ (k : Nat) (e : Int), k ≤ n ∧ i = .int .i64 k ∧ -1 ≤ e ∧ e ≤ 2147483648 ∧ Hid (rightFrom e (l.drop k) = rightFrom (-1) l) ∧ (k = 0 → e = -1) ∧ Hid (0 < k → ∃ q, l[k - 1]? = some q ∧ e = q.at_ + q.old ∧ 0 ≤ q.at_ ∧ q.at_ ≤ 1073741824 ∧ 0 ≤ q.old ∧ q.old ≤ 1073741824) ∧ Below w.heap.size w wr) (fun i _ => n - (intOf i).toNat)
  case atStart => exact ⟨0, -1, by omega, rfl, by omega, by omega, rfl, fun _ => rfl, fun h => absurd h (by omega), Below.refl _ _⟩
  case round =>
    obtain ⟨k, e, hk, rfl, he1, he2, hI, hz, hp, hbr⟩ := hrel
    by_cases hkn : k < n
    · obtain ⟨b, o, rfl, _, _⟩ := hrd.2 (by omega)
      obtain ⟨r, hx⟩ : ∃ r, l[k]? = some r := ⟨_, List.getElem?_eq_getElem (by have := HL.out; omega)⟩
      obtain ⟨hc0, hc1, hc2, hb⟩ := (hrd.below hbr).rg hx
      have hstep : rightFrom e (l.drop k) = (inB r.at_ && inB r.old && inB r.new && decide (e < r.at_) && rightFrom (r.at_ + r.old) (l.drop (k + 1))) := by rw [drop_cons hx]; rfl
      have HS := Lib.hid hstep
      have HX := Lib.hid hx
      clear hx hstep
      by_cases hg : inB r.at_ = true ∧ inB r.old = true ∧ inB r.new = true
      · have b1 := inB_bd hg.1
        have b2 := inB_bd hg.2.1
        have b3 := inB_bd hg.2.2
        have hstep : rightFrom e (l.drop k) = (decide (e < r.at_) && rightFrom (r.at_ + r.old) (l.drop (k + 1))) := by rw [HS.out, hg.1, hg.2.1, hg.2.2]; rfl
        have hnext : Hid (0 < k + 1 → ∃ q, l[k + 1 - 1]? = some q ∧ r.at_ + r.old = q.at_ + q.old ∧ 0 ≤ q.at_ ∧ q.at_ ≤ 1073741824 ∧ 0 ≤ q.old ∧ q.old ≤ 1073741824) := fun _ => ⟨r, HX.out, rfl, b1.1, b1.2, b2.1, b2.2⟩
        have HN := Lib.hid hstep
        clear hstep hg HS
        rcases Nat.eq_zero_or_pos k with hk0 | hk0
        · have he := hz hk0
          have t0 : decide (0 < k) = false := by simp; omega
          have hlt : e < r.at_ := by omega
          have hI' := HN.out.symm.trans hI
          rw [decide_eq_true hlt] at hI'
          have HI := Lib.hid hI'
          clear he hz hI hI' HN hk0
          go_wp2
          go_quiet (fail)
          go_wp2
          go_roundw
          case rel => exact ⟨k + 1, r.at_ + r.old, by omega, by go_num, by omega, by omega, HI.out, fun h => absurd h (by omega), hnext, (below_drewN (hbr.alloc hbr.size _) _)⟩
          case measure => simp [intOf]; omega
        · obtain ⟨q, hq, hqe, hq1, hq2, hq3, hq4⟩ := hp.out hk0
          obtain ⟨gc0, gc1, gc2, gb⟩ := (hrd.below hbr).rg hq
          have t0 : decide (0 < k) = true := by simpa using hk0
          have HQ := Lib.hid hqe
          have ek : ((k : Int) - 1).toNat = k - 1 := by omega
          have ek1 : IntKind.i64.wrap ((k : Int) - 1) = (k : Int) - 1 := IntWalk.i64_in _ (by omega)
          have ek2 : 0 ≤ (k : Int) - 1 := by omega
          have ek3 : (k : Int) - 1 < n := by omega
          have ek5 : 1 ≤ (k : Int) := by omega
          have hbw : b < wr.heap.size := Nat.lt_of_lt_of_le hb hbr.size
          have ek4 : IntKind.i64.wrap (q.at_ + q.old) = q.at_ + q.old := IntWalk.i64_in _ (by omega)
          clear hq hqe hz hp
          by_cases hlt : q.at_ + q.old < r.at_
          · have hI' := HN.out.symm.trans hI
            rw [decide_eq_true (by rw [HQ.out]; exact hlt)] at hI'
            have HI := Lib.hid hI'
            clear hI hI' HN
            go_wp2
            go_quiet (fail)
            go_wp2
            go_roundw
            case rel => exact ⟨k + 1, r.at_ + r.old, by omega, by go_num, by omega, by omega, HI.out, fun h => absurd h (by omega), hnext, (below_drewN (hbr.alloc hbr.size _) _)⟩
            case measure => simp [intOf]; omega
          · have hI' := HN.out.symm.trans hI
            rw [decide_eq_false (by rw [HQ.out]; exact hlt)] at hI'
            have HI := Lib.hid hI'
            clear hI hI' HN
            go_wp2
            go_quiet (fail)
            go_wp2
            go_ret
            exact ⟨ret_bool HI.out, below_drewN (hbr.alloc hbr.size _) _⟩
      · have hbad : rightFrom e (l.drop k) = false := by
          rw [HS.out]
          simp only [Bool.and_eq_false_iff]
          by_cases g1 : inB r.at_ = true
          · by_cases g2 : inB r.old = true
            · exact .inl (.inl (.inr (by simpa using fun g3 => hg ⟨g1, g2, g3⟩)))
            · exact .inl (.inl (.inl (.inr (by simpa using g2))))
          · exact .inl (.inl (.inl (.inl (by simpa using g1))))
        have HBAD := Lib.hid (hbad.symm.trans hI)
        have hbd : r.at_ < 0 ∨ (0 ≤ r.at_ ∧ r.old < 0) ∨ (0 ≤ r.at_ ∧ 0 ≤ r.old ∧ r.new < 0) ∨ (0 ≤ r.at_ ∧ 0 ≤ r.old ∧ 0 ≤ r.new ∧ 1073741824 < r.at_) ∨ (0 ≤ r.at_ ∧ 0 ≤ r.old ∧ 0 ≤ r.new ∧ r.at_ ≤ 1073741824 ∧ 1073741824 < r.old) ∨ (0 ≤ r.at_ ∧ 0 ≤ r.old ∧ 0 ≤ r.new ∧ r.at_ ≤ 1073741824 ∧ r.old ≤ 1073741824 ∧ 1073741824 < r.new) := by
          simp only [inB, decide_eq_true_eq] at hg
          omega
        clear hbad HS hg hI hp hz
        rcases hbd with h | ⟨h1, h2⟩ | ⟨h1, h2, h3⟩ | ⟨h1, h2, h3, h4⟩ | ⟨h1, h2, h3, h4, h5⟩ | ⟨h1, h2, h3, h4, h5, h6⟩
        all_goals
          go_wp2
          go_ret
          exact ⟨ret_bool HBAD.out, hbr.alloc hbr.size _⟩
    · obtain rfl : n = k := by omega
      go_wp2
      go_ret
      exact ⟨ret_bool (by have := hI.out; rw [List.drop_of_length_le (by rw [HL.out]; omega)] at this; exact this), hbr⟩
end Go.Proofs.Ytmacfoebfpljoaa
