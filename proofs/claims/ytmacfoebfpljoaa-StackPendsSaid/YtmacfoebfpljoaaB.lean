/- smap: Shift, both; what right gives -/
import Derived.Test.YtmacfoebfpljoaaA
namespace Go.Proofs.Ytmacfoebfpljoaa
open Go.RowKit

def shiftL : List Rg → Int
  | [] => 0
  | r :: t => (r.new - r.old) + shiftL t
theorem shiftL_append (a b : List Rg) : shiftL (a ++ b) = shiftL a + shiftL b := by
  induction a with
  | nil => simp [shiftL]
  | cons r a ih => simp only [List.cons_append, shiftL, ih]; omega
theorem shiftL_snoc {l : List Rg} {k : Nat} {r : Rg} (h : l[k]? = some r) : shiftL (l.take (k + 1)) = shiftL (l.take k) + (r.new - r.old) := by
  rw [List.take_add_one, h, Option.toList_some, shiftL_append]; simp [shiftL]

structure Rg.Fits (r : Rg) : Prop where
  a0 : 0 ≤ r.at_
  a1 : r.at_ ≤ 1073741824
  o0 : 0 ≤ r.old
  o1 : r.old ≤ 1073741824
  n0 : 0 ≤ r.new
  n1 : r.new ≤ 1073741824

theorem rightFrom_fits : ∀ {l : List Rg} {e : Int}, rightFrom e l = true → ∀ r ∈ l, r.Fits := by
  intro l
  induction l with
  | nil => intro e _ r hr; cases hr
  | cons x l ih =>
    intro e h r hr
    simp only [rightFrom, Bool.and_eq_true] at h
    obtain ⟨⟨⟨⟨h1, h2⟩, h3⟩, h4⟩, h5⟩ := h
    rcases List.mem_cons.1 hr with rfl | hr
    · exact ⟨(inB_bd h1).1, (inB_bd h1).2, (inB_bd h2).1, (inB_bd h2).2, (inB_bd h3).1, (inB_bd h3).2⟩
    · exact ih h5 r hr
theorem right_fits {l : List Rg} (h : rightM l = true) : ∀ r ∈ l, r.Fits := by
  simp only [rightM, Bool.and_eq_true] at h
  exact rightFrom_fits h.2
theorem right_len {l : List Rg} (h : rightM l = true) : l.length ≤ 1000 := by
  simp only [rightM, Bool.and_eq_true, decide_eq_true_eq] at h
  exact h.1
theorem shiftL_bd : ∀ {l : List Rg}, (∀ r ∈ l, r.Fits) → -(1073741824 * l.length) ≤ shiftL l ∧ shiftL l ≤ 1073741824 * l.length := by
  intro l
  induction l with
  | nil => intro _; simp [shiftL]
  | cons r l ih =>
    intro h
    have h1 := h r (by simp)
    have h2 := ih (fun x hx => h x (by simp [hx]))
    have := h1.o0; have := h1.o1; have := h1.n0; have := h1.n1
    simp only [shiftL, List.length_cons]
    omega
theorem shift_take_bd {l : List Rg} (h : rightM l = true) (k : Nat) : -1073741824000 ≤ shiftL (l.take k) ∧ shiftL (l.take k) ≤ 1073741824000 := by
  have h1 := shiftL_bd (l := l.take k) (fun r hr => right_fits h r (List.mem_of_mem_take hr))
  have h2 := right_len h
  have h3 : (l.take k).length ≤ l.length := by rw [List.length_take]; omega
  omega

def shiftM (l : List Rg) : Int := if rightM l then shiftL l else 0

set_option maxHeartbeats 1000000 in
theorem shift_any (A : Option Addr) (n c : Nat) (l : List Rg) (w : World) (hn : n ≤ maxLen) (h : n ≤ 1000 → Rd w w.heap.size 3 A n (rgs l)) (hl : l.length = n) :
    Calls Try.prog 48 #[.slice A n c] w fun e w' => e = .returned (.int .i64 (shiftM l)) ∧ Below w.heap.size w w' := by
  have hri := right_any A n c l w hn h hl
  unfold maxLen at hn
  by_cases hr : rightM l = true
  · have hrd := h (by have := right_len hr; omega)
    have hs : shiftM l = shiftL l := by unfold shiftM; rw [if_pos hr]
    rw [hs]
    rw [hr] at hri
    have HRI := Lib.hid hri
    have HR := Lib.hid hr
    have HL := Lib.hid hl
    have hn2 : n ≤ 1000 := by have := right_len hr; omega
    clear hri hr hs hl h
    go_enter Try.func48, Try.ntmps48
    go_wp2_with (go_at_call 20; refine HRI.out.mono ?_; rintro e w1 ⟨rfl, hb1⟩)
    go_loopw [3, 11] (fun v i wr => ∃ k : Nat, k ≤ n ∧ i = .int .i64 k ∧ v = .int .i64 (shiftL (l.take k)) ∧ Below w.heap.size w wr) (fun _ i _ => n - (intOf i).toNat)
    case atStart => exact ⟨0, by omega, rfl, rfl, hb1⟩
    case round =>
      obtain ⟨k, hk, rfl, rfl, hbr⟩ := hrel
      by_cases hkn : k < n
      · obtain ⟨b, o, rfl, _, _⟩ := hrd.2 (by omega)
        obtain ⟨r, hx⟩ : ∃ r, l[k]? = some r := ⟨_, List.getElem?_eq_getElem (by have := HL.out; omega)⟩
        obtain ⟨hc0, hc1, hc2, hb⟩ := (hrd.below hbr).rg hx
        have hf := right_fits HR.out r (List.mem_of_getElem? hx)
        obtain ⟨f1, f2, f3, f4, f5, f6⟩ := hf
        have hsb := shift_take_bd HR.out k
        have hsn := shiftL_snoc hx
        have HS := Lib.hid hsn
        clear hx hsn
        go_wp2
        go_roundw
        case rel => exact ⟨k + 1, by omega, by go_num, by rw [HS.out], hbr.alloc hbr.size _⟩
        case measure => simp [intOf]; omega
      · obtain rfl : n = k := by omega
        go_wp2
        go_ret
        exact ⟨ret_int (by rw [List.take_of_length_le (by rw [HL.out]; omega)]), hbr⟩
  · have hr : rightM l = false := by simpa using hr
    have hs : shiftM l = 0 := by unfold shiftM; rw [hr]; rfl
    rw [hs]
    rw [hr] at hri
    have HRI := Lib.hid hri
    clear hri hr hs hl h
    go_enter Try.func48, Try.ntmps48
    go_wp2_with (go_at_call 20; refine HRI.out.mono ?_; rintro e w1 ⟨rfl, hb1⟩)
    go_ret
    exact ⟨rfl, hb1⟩

end Go.Proofs.Ytmacfoebfpljoaa
