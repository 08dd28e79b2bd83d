/- route: the maps that a law is given; few -/
import Derived.Test.YtkkbmcpimglcpaaRtI
namespace Go.Proofs.Ytkkbmcpimglcpaa
open Go.RowKit

/-- a map that is added, and which one it mirrors -/
structure Mp where
  A : Option Addr
  n : Nat
  c : Nat
  of : Int
  l : List Rg
def Mp.cells (x : Mp) : List Value := [.slice x.A x.n x.c, .int .i64 x.of]
instance : Inhabited Mp := ⟨⟨none, 0, 0, 0, []⟩⟩
/-- a map that came in reads so below block B -/
def Mp.In (w : World) (B : Nat) (x : Mp) : Prop := Rd w B 3 x.A x.n (rgs x.l) ∧ x.n ≤ maxLen ∧ (x.A = none → x.n = 0)
def MpsIn (w : World) (B : Nat) (A : Option Addr) (n : Nat) (L : List Mp) : Prop := Rd w B 2 A n (L.flatMap Mp.cells) ∧ (∀ x ∈ L, x.In w B) ∧ n ≤ maxLen
theorem mp_get {L : List Mp} {k : Nat} {x : Mp} (h : L[k]? = some x) (i : Nat) (hi : i < 2) : (L.flatMap Mp.cells)[k * 2 + i]? = x.cells[i]? := by
  induction L generalizing k with
  | nil => simp at h
  | cons y L ih =>
    rw [List.flatMap_cons]
    cases k with
    | zero =>
      simp at h; subst h
      rw [List.getElem?_append_left (by simp [Mp.cells]; omega)]
      simp
    | succ k =>
      rw [List.getElem?_append_right (by simp [Mp.cells]; omega)]
      have := ih (k := k) (by simpa using h)
      rw [← this]
      congr 1
      simp [Mp.cells]; omega
theorem mps_len (L : List Mp) : (L.flatMap Mp.cells).length = L.length * 2 := by
  induction L with
  | nil => rfl
  | cons x L ih => rw [List.flatMap_cons, List.length_append, ih]; simp [Mp.cells]; omega
section
variable {w w' : World} {B n : Nat} {A : Option Addr} {L : List Mp}
theorem MpsIn.len (h : MpsIn w B A n L) : L.length = n := by
  have := h.1.1
  rw [mps_len] at this
  omega
theorem MpsIn.below (h : MpsIn w B A n L) (hb : Below B w w') : MpsIn w' B A n L := ⟨h.1.below hb, fun x hx => ⟨(h.2.1 x hx).1.below hb, (h.2.1 x hx).2⟩, h.2.2⟩
theorem MpsIn.at_ {k : Nat} {x : Mp} (h : MpsIn w B A n L) (hx : L[k]? = some x) : ∃ b o, A = some ⟨b, o, none⟩ ∧ b < B ∧ w.cell? ⟨b, o + k * 2, none⟩ = some (.slice x.A x.n x.c) ∧ w.cell? ⟨b, o + k * 2 + 1, none⟩ = some (.int .i64 x.of) ∧ x.In w B := by
  have hk := (List.getElem?_eq_some_iff.1 hx).1
  have hl := h.len
  obtain ⟨b, o, e, hb, hc⟩ := h.1.2 (by omega)
  refine ⟨b, o, e, hb, ?_, ?_, h.2.1 x (List.mem_of_getElem? hx)⟩
  · have := hc (k * 2 + 0) _ (mp_get hx 0 (by omega))
    simpa using this
  · have := hc (k * 2 + 1) _ (mp_get hx 1 (by omega))
    rw [Nat.add_assoc]; exact this
end

def fewB (L : List Mp) : Bool := (L.take 30).all (fun x => decide (x.n ≤ 20)) && decide (L.length ≤ 30)
theorem fewB_spec {L : List Mp} (h : fewB L = true) : L.length ≤ 30 ∧ ∀ x ∈ L, x.n ≤ 20 := by
  simp only [fewB, Bool.and_eq_true, decide_eq_true_eq, List.all_eq_true] at h
  exact ⟨h.2, fun x hx => h.1 x (by rw [List.take_of_length_le h.2]; exact hx)⟩
theorem few_snoc {L : List Mp} {k : Nat} {x : Mp} (h : L[k]? = some x) : (L.take (k + 1)).all (fun x => decide (x.n ≤ 20)) = ((L.take k).all (fun x => decide (x.n ≤ 20)) && decide (x.n ≤ 20)) := by
  rw [List.take_add_one, h, Option.toList_some, List.all_append]; simp

set_option maxRecDepth 100000 in
set_option maxHeartbeats 1000000 in
theorem few_any (A : Option Addr) (n c : Nat) (L : List Mp) (w : World) (h : MpsIn w w.heap.size A n L) : Calls Try.prog 23 #[.slice A n c] w fun e w' => e = .returned (.bool (fewB L)) ∧ Below w.heap.size w w' := by
  have hl := h.len
  have hn := h.2.2
  unfold maxLen at hn
  have H := Lib.hid h
  have HL := Lib.hid hl
  clear h hl
  go_enter Try.func23, Try.ntmps23
  go_wp2
  go_loopw [3] (fun i wr => ∃ k : Nat, k ≤ n ∧ k ≤ 30 ∧ i = .int .i64 k ∧ Hid ((L.take k).all (fun x => decide (x.n ≤ 20)) = true) ∧ Below w.heap.size w wr) (fun i _ => n - (intOf i).toNat)
  case atStart => exact ⟨0, by omega, by omega, rfl, rfl, Below.refl _ _⟩
  case round =>
    obtain ⟨k, hk, hk30, rfl, hI, hbr⟩ := hrel
    by_cases hkn : k < n
    · by_cases h30 : k < 30
      · obtain ⟨x, hx⟩ : ∃ x, L[k]? = some x := ⟨_, List.getElem?_eq_getElem (by have := HL.out; omega)⟩
        obtain ⟨b, o, rfl, hb, hc0, hc1, hin⟩ := (H.out.below hbr).at_ hx
        have hsn := few_snoc hx
        rw [hI.out, Bool.true_and] at hsn
        have hxn : fewB L = true → x.n ≤ 20 := fun h => (fewB_spec h).2 x (List.mem_of_getElem? hx)
        have HS := Lib.hid hsn
        have HX := Lib.hid hxn
        have e3 : (k : Int) < n := by omega
        have h20 : x.n ≤ maxLen := hin.2.1
        clear hx hsn hxn hin
        by_cases hle : x.n ≤ 20
        · have hle' : ((x.n : Nat) : Int) ≤ 20 := by omega
          go_wp2
          go_roundw
          case rel => exact ⟨k + 1, by omega, by omega, by go_num, Lib.hid (by rw [HS.out]; exact decide_eq_true hle), by repeat (first | with_reducible exact Below.refl _ _ | with_reducible assumption | (with_reducible refine below_drewN ?_ _) | (with_reducible refine Below.drew ?_) | (with_reducible refine Below.alloc ?_ ?_ _; rotate_left; focus (first | with_reducible assumption | omega | (simp; done) | (simp; omega))) | (with_reducible refine Below.setCell ?_ ?_ _; rotate_left; focus (first | with_reducible assumption | omega | (simp; done) | (simp; omega))))⟩
          case measure => simp [intOf]; omega
        · have hle' : (20 : Int) < ((x.n : Nat) : Int) := by omega
          have hbad : fewB L = false := by
            cases hf : fewB L with
            | false => rfl
            | true => exact absurd (HX.out hf) hle
          have HB := Lib.hid hbad
          clear hbad
          go_wp2
          go_ret
          exact ⟨ret_bool HB.out.symm, by repeat (first | with_reducible exact Below.refl _ _ | with_reducible assumption | (with_reducible refine below_drewN ?_ _) | (with_reducible refine Below.drew ?_) | (with_reducible refine Below.alloc ?_ ?_ _; rotate_left; focus (first | with_reducible assumption | omega | (simp; done) | (simp; omega))) | (with_reducible refine Below.setCell ?_ ?_ _; rotate_left; focus (first | with_reducible assumption | omega | (simp; done) | (simp; omega))))⟩
      · have hbig : (30 : Int) ≤ n := by omega
        have hval : fewB L = decide (L.length ≤ 30) := by
          have : k = 30 := by omega
          unfold fewB
          have hI' := hI.out
          rw [this] at hI'
          rw [hI', Bool.true_and]
        have HV := Lib.hid hval
        clear hI hval
        go_wp2
        go_ret
        exact ⟨ret_bool (by rw [HV.out, HL.out]; first | (rw [decide_eq_decide]; omega) | (simp; omega)), by repeat (first | with_reducible exact Below.refl _ _ | with_reducible assumption | (with_reducible refine below_drewN ?_ _) | (with_reducible refine Below.drew ?_) | (with_reducible refine Below.alloc ?_ ?_ _; rotate_left; focus (first | with_reducible assumption | omega | (simp; done) | (simp; omega))) | (with_reducible refine Below.setCell ?_ ?_ _; rotate_left; focus (first | with_reducible assumption | omega | (simp; done) | (simp; omega))))⟩
    · obtain rfl : n = k := by omega
      have hval : fewB L = true := by
        unfold fewB
        have hI' := hI.out
        rw [List.take_of_length_le (by rw [HL.out]; omega)] at hI'
        rw [List.take_of_length_le (by rw [HL.out]; omega), hI', Bool.true_and, HL.out]
        exact decide_eq_true (by omega)
      have HV := Lib.hid hval
      have h30 : (n : Int) ≤ 30 := by omega
      clear hI hval
      go_wp2
      go_ret
      exact ⟨ret_bool (by rw [HV.out]), by repeat (first | with_reducible exact Below.refl _ _ | with_reducible assumption | (with_reducible refine below_drewN ?_ _) | (with_reducible refine Below.drew ?_) | (with_reducible refine Below.alloc ?_ ?_ _; rotate_left; focus (first | with_reducible assumption | omega | (simp; done) | (simp; omega))) | (with_reducible refine Below.setCell ?_ ?_ _; rotate_left; focus (first | with_reducible assumption | omega | (simp; done) | (simp; omega))))⟩
end Go.Proofs.Ytkkbmcpimglcpaa
