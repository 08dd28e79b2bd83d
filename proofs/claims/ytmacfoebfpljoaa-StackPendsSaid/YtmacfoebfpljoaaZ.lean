/- opening arguments into my own words -/
import Derived.Test.YtmacfoebfpljoaaU
import Derived.Test.YtmacfoebfpljoaaRows
import Derived.ProofKit
import Derived.OpenShut
import Derived.ShutString
import Derived.ChangeOld
namespace Go.Proofs.Ytmacfoebfpljoaa
open Go.ChangeShapes Go.WideShapes Go.ChangeAt Go.RowKit

theorem own : ownKnob Try.prog.godebug = none := by kernel_rfl
theorem laidOut : laidOutB Try.prog = true := by kernel_rfl

theorem block_lt {w : World} {a : Addr} {v : Value} (h : w.cell? a = some v) : a.block < w.heap.size := by
  unfold World.cell? at h
  rcases Nat.lt_or_ge a.block w.heap.size with hlt | hge
  · exact hlt
  · rw [Array.getElem?_eq_none hge] at h; simp at h

/-- cells that lie from an address on, as a slice that is read -/
theorem rd_of_cells {w : World} {x : Addr} {n size : Nat} {xs : List Value} (hl : xs.length = n * size) (hs : 0 < size) (h : ∀ i u, xs[i]? = some u → w.cell? (x.add i) = some u) : Rd w w.heap.size size (some x) n xs := by
  refine ⟨hl, fun hn => ?_⟩
  have hpos : 0 < xs.length := by rw [hl]; exact Nat.mul_pos hn hs
  obtain ⟨u, hu⟩ : ∃ u, xs[0]? = some u := ⟨_, List.getElem?_eq_getElem hpos⟩
  have h0 := h 0 u hu
  obtain ⟨b, o, sp⟩ := x
  have hsp : sp = none := by simpa [Addr.add] using World.cell?_spot h0
  subst hsp
  refine ⟨b, o, rfl, ?_, fun j u hu => ?_⟩
  · have := block_lt h0
    rwa [add_flat] at this
  · rw [← add_flat]; exact h j u hu

/-- a slice of integers that came in -/
theorem open_row {H : Type} {enc : TypeId × Value → H} {W : World} {b : Nat} {sp : Nat → Bool} {hd : Bool} {T E : TypeId} {k : IntKind} {a : Option Addr} {len cap : Nat} {d : DataW H} {p : List MemPlace}
    (hT : Try.prog.underlying T = some (.slice E)) (hE : Try.prog.underlying E = some (.int k)) (hc : Try.prog.cellsOf E = 1) (h : DataW.Trod enc Try.prog W b sp hd T (.slice a len cap) d p) :
    ∃ zs : List Int, Rd W W.heap.size 1 a len (zs.map (Value.int k)) ∧ len ≤ cap ∧ cap ≤ maxLen ∧ (a = none → len = 0) ∧ ∀ n ∈ zs, (Lit.int k n).wf = true := by
  obtain ⟨fuel, hf⟩ := h
  rcases open_ints hT hE hc hf with ⟨hcs, _⟩ | ⟨x, l, c, zs, hcs, _, hl, hm, hz, _, hcell, hwz⟩
  · simp [Value.cells] at hcs
    obtain ⟨rfl, rfl, rfl⟩ := hcs
    exact ⟨[], Rd.nil_ _ _ _ _, by omega, by unfold maxLen; omega, fun _ => rfl, by simp⟩
  · simp [Value.cells] at hcs
    obtain ⟨rfl, rfl, rfl⟩ := hcs
    have hz' : len ≤ zs.length := by
      have : zs.length = if sp x.block = true then cap else len := by simpa using hz
      rw [this]; split <;> omega
    refine ⟨zs.take len, rd_of_cells (by simp; omega) (by omega) ?_, hl, hm, by simp, fun n hn => hwz n (List.mem_of_mem_take hn)⟩
    intro i u hu
    rw [List.getElem?_map] at hu
    cases hz' : (zs.take len)[i]? with
    | none => rw [hz'] at hu; simp at hu
    | some z =>
      rw [hz'] at hu
      simp at hu
      subst hu
      rw [List.getElem?_take] at hz'
      split at hz'
      · obtain ⟨hlt, rfl⟩ := List.getElem?_eq_some_iff.1 hz'
        rw [hcell i hlt, List.getD_eq_getElem?_getD, List.getElem?_eq_getElem hlt]; rfl
      · simp at hz'

end Go.Proofs.Ytmacfoebfpljoaa
