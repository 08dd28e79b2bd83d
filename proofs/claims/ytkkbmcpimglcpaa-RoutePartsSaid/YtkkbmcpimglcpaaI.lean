/- smap: the document's Same, Invert, Recover -/
import Derived.Test.YtkkbmcpimglcpaaC
import Derived.Deep.RegionLaw
import Derived.Laws.StructEq
namespace Go.Proofs.Ytkkbmcpimglcpaa
open Go.RowKit

theorem info_range : (Try.prog.info? 42).map (fun i => (i.zero, i.size, i.bytes)) = some (some (.agg #[.int .i64 0, .int .i64 0, .int .i64 0]), 3, 24) := by kernel_rfl

def invFrom : Int → List Rg → List Rg
  | _, [] => []
  | s, r :: t => ⟨r.at_ + s, r.new, r.old⟩ :: invFrom (s + (r.new - r.old)) t
def invM (l : List Rg) : List Rg := invFrom 0 l
theorem invFrom_append : ∀ (a b : List Rg) (s : Int), invFrom s (a ++ b) = invFrom s a ++ invFrom (s + shiftL a) b := by
  intro a
  induction a with
  | nil => intro b s; simp [invFrom, shiftL]
  | cons r a ih => intro b s; simp only [List.cons_append, invFrom, ih, shiftL]; rw [Int.add_assoc]
theorem invM_snoc {l : List Rg} {k : Nat} {r : Rg} (h : l[k]? = some r) : invM (l.take (k + 1)) = invM (l.take k) ++ [⟨r.at_ + shiftL (l.take k), r.new, r.old⟩] := by
  rw [List.take_add_one, h, Option.toList_some, invM, invFrom_append]; simp [invFrom, invM]
theorem invFrom_length : ∀ (l : List Rg) (s : Int), (invFrom s l).length = l.length := by
  intro l
  induction l with
  | nil => intro s; rfl
  | cons r l ih => intro s; simp only [invFrom, List.length_cons, ih]
theorem invM_length (l : List Rg) : (invM l).length = l.length := invFrom_length l 0
theorem rgs_append (a b : List Rg) : rgs (a ++ b) = rgs a ++ rgs b := by simp [rgs]

@[go_sem] theorem eq_range (a b c a' b' c' : Int) (w : World) : (Op.equalIn 10000 42 (.agg #[.int .i64 a, .int .i64 b, .int .i64 c]) (.agg #[.int .i64 a', .int .i64 b', .int .i64 c'])).run Try.prog w = .ok (a == a' && b == b' && c == c') w := by
  have u3 := Try.underlying3
  have a3 := Try.isAgg3
  have z3 := Try.sizeOf3
  have hS : Try.prog.underlying 42 = some (.struct (Try.prog.fieldsOf 42)) := by kernel_rfl
  have hp : Try.prog.stoodInHeld 42 = false := by kernel_rfl
  rw [show (10000 : Nat) = 9999 + 1 from rfl, run_equalIn_agg w 9999 42 _ _ hS hp]
  simp only [Program.fieldsOf, Try.underlying42]
  go_simp
  by_cases h1 : a = a' <;> by_cases h2 : b = b' <;> by_cases h3 : c = c' <;> simp [h1, h2, h3]

def sameB (l l' : List Rg) : Bool := decide (l = l')

theorem rg_ext {l l' : List Rg} {k : Nat} : (∀ i, i < k → l[i]? = l'[i]?) ↔ l.take k = l'.take k := by
  constructor
  · intro h
    apply List.ext_getElem?
    intro i
    rw [List.getElem?_take, List.getElem?_take]
    split
    · exact h i (by assumption)
    · rfl
  · intro h i hi
    have := congrArg (fun q => q[i]?) h
    simpa [List.getElem?_take, hi] using this

set_option maxRecDepth 100000 in
set_option maxHeartbeats 2000000 in
theorem same_any (A A' : Option Addr) (n n' c c' : Nat) (l l' : List Rg) (w : World) (hn : n ≤ maxLen) (hn' : n' ≤ maxLen) (hrd : n = n' → Rd w w.heap.size 3 A n (rgs l)) (hrd' : n = n' → Rd w w.heap.size 3 A' n' (rgs l')) (hl : l.length = n) (hl' : l'.length = n') :
    Calls Try.prog 21 #[.slice A n c, .slice A' n' c'] w fun e w' => e = .returned (.bool (sameB l l')) ∧ Below w.heap.size w w' := by
  unfold maxLen at hn hn'
  by_cases hne : n = n'
  · subst hne
    have h1 := hrd rfl
    have h2 := hrd' rfl
    have HL := Lib.hid hl
    have HL' := Lib.hid hl'
    clear hrd hrd' hl hl'
    go_enter Try.func21, Try.ntmps21
    go_wp2
    go_loopw [5] (fun i wr => ∃ k : Nat, k ≤ n ∧ i = .int .i64 k ∧ Hid (l.take k = l'.take k) ∧ Below w.heap.size w wr) (fun i _ => n - (intOf i).toNat)
    case atStart => exact ⟨0, by omega, rfl, rfl, Below.refl _ _⟩
    case round =>
      obtain ⟨k, hk, rfl, hI, hbr⟩ := hrel
      by_cases hkn : k < n
      · obtain ⟨b, o, rfl, _, _⟩ := h1.2 (by omega)
        obtain ⟨b', o', rfl, _, _⟩ := h2.2 (by omega)
        obtain ⟨r, hx⟩ : ∃ r, l[k]? = some r := ⟨_, List.getElem?_eq_getElem (by have := HL.out; omega)⟩
        obtain ⟨r', hx'⟩ : ∃ r, l'[k]? = some r := ⟨_, List.getElem?_eq_getElem (by have := HL'.out; omega)⟩
        obtain ⟨hc0, hc1, hc2, hb⟩ := (h1.below hbr).rg hx
        obtain ⟨hd0, hd1, hd2, hb'⟩ := (h2.below hbr).rg hx'
        have e3 : (k : Int) < n := by omega
        have hst : l.take (k + 1) = l.take k ++ [r] := by rw [List.take_add_one, hx]; rfl
        have hst' : l'.take (k + 1) = l'.take k ++ [r'] := by rw [List.take_add_one, hx']; rfl
        obtain ⟨a1, a2, a3⟩ := r
        obtain ⟨b1, b2, b3⟩ := r'
        simp only at hc0 hc1 hc2 hd0 hd1 hd2
        have HS := Lib.hid hst
        have HS' := Lib.hid hst'
        have HX := Lib.hid hx
        have HX' := Lib.hid hx'
        clear hst hst' hx hx'
        by_cases heq : a1 = b1 ∧ a2 = b2 ∧ a3 = b3
        · obtain ⟨rfl, rfl, rfl⟩ := heq
          have HN : Hid (l.take (k + 1) = l'.take (k + 1)) := Lib.hid (by rw [HS.out, HS'.out, hI.out])
          clear HS HS' hI HX HX'
          go_wp2
          go_quiet (fail)
          go_wp2
          go_roundw
          case rel => exact ⟨k + 1, by omega, by go_num, HN, below_drewN hbr _⟩
          case measure => simp [intOf]; omega
        · have hbad : sameB l l' = false := by
            unfold sameB
            refine decide_eq_false fun e => heq ?_
            have h1 := HX.out; have h2 := HX'.out
            rw [e, h2] at h1
            injection h1 with h1; injection h1 with p1 p2 p3
            exact ⟨p1.symm, p2.symm, p3.symm⟩
          have HB := Lib.hid hbad
          have hv : ¬ a1 = b1 ∨ (a1 = b1 ∧ ¬ a2 = b2) ∨ (a1 = b1 ∧ a2 = b2 ∧ ¬ a3 = b3) := by omega
          clear hbad HS HS' HX HX' hI heq
          rcases hv with hv | ⟨rfl, hv⟩ | ⟨rfl, rfl, hv⟩
          all_goals
            go_wp2
            go_quiet (fail)
            go_wp2
            go_ret
            exact ⟨ret_bool HB.out.symm, below_drewN hbr _⟩
      · obtain rfl : n = k := by omega
        have hall : sameB l l' = true := by
          unfold sameB
          have := hI.out
          rw [List.take_of_length_le (by rw [HL.out]; omega), List.take_of_length_le (by rw [HL'.out]; omega)] at this
          exact decide_eq_true this
        have HB := Lib.hid hall
        clear hall hI
        go_wp2
        go_ret
        exact ⟨ret_bool HB.out.symm, hbr⟩
  · have hbad : sameB l l' = false := by
      unfold sameB
      refine decide_eq_false fun e => hne ?_
      rw [← hl, ← hl', e]
    rw [hbad]
    have e1 : ((n : Int) == n') = false := by simp; omega
    clear hbad hrd hrd' hl hl'
    go_enter Try.func21, Try.ntmps21
    go_wp2
    go_ret
    exact ⟨rfl, Below.refl _ _⟩
end Go.Proofs.Ytkkbmcpimglcpaa
