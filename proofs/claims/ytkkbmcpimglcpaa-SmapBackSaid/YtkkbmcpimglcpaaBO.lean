/- smap: opening an array of two integers -/
import Derived.Test.YtkkbmcpimglcpaaK
import Derived.Lib.SmallJoins
namespace Go.Proofs.Ytkkbmcpimglcpaa
open Go.ChangeShapes Go.WideShapes Go.ChangeAt Go.RowKit

theorem open_two {H : Type} {enc : TypeId × Value → H} {W : World} {r : Reach} {b0 b : Nat} {sp : Nat → Bool} {hd : Bool} {v : Value} {d : DataW H} {pl : List MemPlace}
    (hv : Value.okWide Try.prog W r b0 43 v) (h : ∃ fuel, DataW.trod enc Try.prog W b sp hd fuel 43 v.cells.toList = some (d, pl)) : ∃ a c : Int, v = .agg #[.int .i64 a, .int .i64 c] := by
  have hc : Try.prog.cellsOf 3 = 1 := by kernel_rfl
  have hc2 : Try.prog.cellsOf 43 = 2 := by kernel_rfl
  have ht := Try.underlying43
  simp only [Value.okWide, ht] at hv
  obtain ⟨cs, rfl, h2, _⟩ := hv
  obtain ⟨c0, c1, rfl⟩ := Joins.array2 (h2.trans hc2)
  obtain ⟨fuel, hf⟩ := h
  obtain ⟨xs, m, _, _, _, hl, hx⟩ := DataW.trod_array ht hf
  have g0 := hx 0 (by omega)
  have g1 := hx 1 (by omega)
  rw [List.getElem?_eq_getElem (by omega)] at g0 g1
  simp [hc, Value.cells] at g0 g1
  obtain ⟨x0, e0, _, _⟩ := DataW.trod_int Try.underlying3 g0
  obtain ⟨x1, e1, _, _⟩ := DataW.trod_int Try.underlying3 g1
  injection e0 with e0; injection e1 with e1
  subst e0 e1
  exact ⟨x0, x1, rfl⟩
end Go.Proofs.Ytkkbmcpimglcpaa
