/- smap: opening a slice of ranges -/
import Derived.Test.YtmacfoebfpljoaaY
import Derived.Test.YtmacfoebfpljoaaA
namespace Go.Proofs.Ytmacfoebfpljoaa
open Go.ChangeShapes Go.WideShapes Go.ChangeAt Go.RowKit

instance : Inhabited Rg := ⟨⟨0, 0, 0⟩⟩

theorem open_rg {H : Type} {enc : TypeId × Value → H} {W : World} {b : Nat} {sp : Nat → Bool} {hd : Bool} (n : Nat) (cs : List Value) (y : DataW H × List MemPlace)
    (h : DataW.trod enc Try.prog W b sp hd n 45 cs = some y) : ∃ r : Rg, cs = r.cells ∧ True := by
  have hc : Try.prog.cellsOf 3 = 1 := by kernel_rfl
  have hc3 : Try.prog.cellsOf 45 = 3 := by kernel_rfl
  obtain ⟨y0, y1, y2, m, _, hl, g0, g1, g2⟩ := Deep.trod_struct3 Try.underlying45 h
  simp only [hc, hc3] at hl g0 g1 g2
  match cs, hl with
  | [v0, v1, v2], _ =>
    simp at g0 g1 g2
    obtain ⟨x0, e0, _, _⟩ := DataW.trod_int Try.underlying3 g0
    obtain ⟨x1, e1, _, _⟩ := DataW.trod_int Try.underlying3 g1
    obtain ⟨x2, e2, _, _⟩ := DataW.trod_int Try.underlying3 g2
    injection e0 with e0; injection e1 with e1; injection e2 with e2
    subst e0 e1 e2
    exact ⟨⟨x0, x1, x2⟩, rfl, trivial⟩

theorem open_rgs {H : Type} {enc : TypeId × Value → H} {W : World} {b : Nat} {sp : Nat → Bool} {hd : Bool} {a : Option Addr} {len cap : Nat} {d : DataW H} {pl : List MemPlace}
    (h : ∃ fuel, DataW.trod enc Try.prog W b sp hd fuel 23 [.slice a len cap] = some (d, pl)) :
    ∃ l : List Rg, l.length = len ∧ Rd W W.heap.size 3 a len (rgs l) ∧ len ≤ cap ∧ cap ≤ maxLen ∧ (a = none → len = 0) := by
  obtain ⟨l, h1, h2, h3, h4, h5, _⟩ := open_els (s := 3) Rg.cells (fun _ => True) Try.underlying23 (by kernel_rfl) (by omega) (fun _ => rfl) h open_rg
  exact ⟨l, h1, h2, h3, h4, h5⟩
end Go.Proofs.Ytmacfoebfpljoaa
