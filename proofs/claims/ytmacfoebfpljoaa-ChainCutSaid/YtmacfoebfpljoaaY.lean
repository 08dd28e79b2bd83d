/- opening a slice whatever its elements are -/
import Derived.Test.YtmacfoebfpljoaaZ
import Derived.Deep.Slices
import Derived.Deep.Strs
namespace Go.Proofs.Ytmacfoebfpljoaa
open Go.ChangeShapes Go.WideShapes Go.ChangeAt Go.RowKit

theorem flat_len {α : Type} (R : α → List Value) {s : Nat} (hR : ∀ x, (R x).length = s) (l : List α) : (l.flatMap R).length = l.length * s := by
  induction l with
  | nil => simp
  | cons x l ih => simp only [List.flatMap_cons, List.length_append, ih, hR, List.length_cons, Nat.add_mul]; omega
theorem flat_get {α : Type} (R : α → List Value) {s : Nat} (hR : ∀ x, (R x).length = s) {l : List α} {k i : Nat} (hi : i < s) : (l.flatMap R)[k * s + i]? = (l[k]?).bind fun x => (R x)[i]? := by
  induction l generalizing k with
  | nil => simp
  | cons x l ih =>
    rw [List.flatMap_cons]
    cases k with
    | zero => rw [List.getElem?_append_left (by rw [hR]; omega)]; simp
    | succ k =>
      rw [List.getElem?_append_right (by rw [hR, Nat.add_mul]; omega), hR, show (k + 1) * s + i - s = k * s + i by rw [Nat.add_mul]; omega, ih]
      simp

theorem open_els {H : Type} {enc : TypeId × Value → H} {W : World} {b : Nat} {sp : Nat → Bool} {hd : Bool} {T E : TypeId} {a : Option Addr} {len cap : Nat} {d : DataW H} {pl : List MemPlace}
    {α : Type} [Inhabited α] (R : α → List Value) (p : α → Prop) {s : Nat} (hT : Try.prog.underlying T = some (.slice E)) (hc : Try.prog.cellsOf E = s) (hs : 0 < s) (hR : ∀ x, (R x).length = s)
    (h : ∃ fuel, DataW.trod enc Try.prog W b sp hd fuel T [.slice a len cap] = some (d, pl))
    (hel : ∀ n cs y, DataW.trod enc Try.prog W b sp hd n E cs = some y → ∃ x, cs = R x ∧ p x) :
    ∃ l : List α, l.length = len ∧ Rd W W.heap.size s a len (l.flatMap R) ∧ len ≤ cap ∧ cap ≤ maxLen ∧ (a = none → len = 0) ∧ ∀ x ∈ l, p x := by
  obtain ⟨fuel, hf⟩ := h
  rcases Deep.open_slice hT hf with ⟨hcs, _⟩ | ⟨x, l, c, m, n, D, Pl, hcs, _, hl, hm, hmm, _, hx⟩
  · simp at hcs
    obtain ⟨rfl, rfl, rfl⟩ := hcs
    exact ⟨[], rfl, Rd.nil_ _ _ _ _, by omega, by unfold maxLen; omega, fun _ => rfl, by simp⟩
  · simp at hcs
    obtain ⟨rfl, rfl, rfl⟩ := hcs
    have hlm : len ≤ m := by rw [hmm]; split <;> omega
    obtain ⟨f, hf⟩ := Deep.choose_lt (α := α) (n := len) (p := fun i y => (∀ j, j < s → W.cell? ((x.add (i * s)).add j) = (R y)[j]?) ∧ p y) (fun i hi => by
      obtain ⟨cs', h1, h2⟩ := hx i (by omega)
      rw [hc] at h1
      obtain ⟨_, _, hcell⟩ := World.cells?_some h1
      obtain ⟨y, rfl, hy⟩ := hel _ _ _ h2
      exact ⟨y, hcell, hy⟩)
    refine ⟨(List.range len).map f, by simp, rd_of_cells (by rw [flat_len R hR]; simp) hs ?_, hl, hm, by simp, ?_⟩
    · intro j u hu
      have e1 : j = j / s * s + j % s := by rw [Nat.mul_comm]; exact (Nat.div_add_mod j s).symm
      have h1 : j % s < s := Nat.mod_lt _ hs
      rw [e1, flat_get R hR h1] at hu
      obtain ⟨y, hy, hu⟩ := Option.bind_eq_some_iff.1 hu
      rw [List.getElem?_map] at hy
      obtain ⟨i, hi, rfl⟩ := Option.map_eq_some_iff.1 hy
      obtain ⟨hlt, hi⟩ := List.getElem?_eq_some_iff.1 hi
      simp at hlt hi
      subst hi
      have := (hf _ hlt).1 _ h1
      rw [Deep.add_add, ← e1] at this
      rw [this, hu]
    · intro y hy
      obtain ⟨i, hi, rfl⟩ := List.mem_map.1 hy
      exact (hf i (List.mem_range.1 hi)).2
end Go.Proofs.Ytmacfoebfpljoaa
