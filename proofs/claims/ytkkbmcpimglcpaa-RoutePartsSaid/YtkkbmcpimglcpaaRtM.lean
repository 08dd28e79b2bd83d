/- route: RouteBack whole; opening the maps that came in -/
import Derived.Test.YtkkbmcpimglcpaaRtL
import Derived.Test.YtkkbmcpimglcpaaK
namespace Go.Proofs.Ytkkbmcpimglcpaa
open Go.ChangeShapes Go.WideShapes Go.ChangeAt Go.RowKit

theorem rback_any (A : Option Addr) (n c : Nat) (L : List Mp) (p side : Int) (w : World) (h : MpsIn w w.heap.size A n L) :
    Calls Try.prog 6 #[.slice A n c, .int .i64 p, .int .i64 side] w fun e w' => e = .returned (.bool true) ∧ Below w.heap.size w w' := by
  cases hf : fewB L with
  | false => exact rback_early A n c L p side w h (.inl hf)
  | true =>
    by_cases h0 : 0 ≤ p
    · by_cases h1 : p ≤ 1073741824
      · exact rback_main A n c L p side w h hf h0 h1
      · exact rback_early A n c L p side w h (.inr (.inr ⟨hf, h0, by omega⟩))
    · exact rback_early A n c L p side w h (.inr (.inl ⟨hf, by omega⟩))

theorem open_mp {H : Type} {enc : TypeId × Value → H} {W : World} {b : Nat} {sp : Nat → Bool} {hd : Bool} (n : Nat) (cs : List Value) (y : DataW H × List MemPlace)
    (h : DataW.trod enc Try.prog W b sp hd n 53 cs = some y) : ∃ x : Mp, cs = x.cells ∧ x.In W W.heap.size := by
  have hc : Try.prog.cellsOf 3 = 1 := by kernel_rfl
  have hc1 : Try.prog.cellsOf 22 = 1 := by kernel_rfl
  have hc2 : Try.prog.cellsOf 53 = 2 := by kernel_rfl
  obtain ⟨y0, y1, m, _, hl, g0, g1⟩ := trod_struct2 Try.underlying53 h
  simp only [hc, hc1, hc2] at hl g0 g1
  match cs, hl with
  | [v0, v1], _ =>
    simp at g0 g1
    obtain ⟨x1, e1, _, _⟩ := DataW.trod_int Try.underlying3 g1
    injection e1 with e1
    subst e1
    have hform : ∃ a len cap, v0 = .slice a len cap := by
      rcases Deep.open_slice Try.underlying22 g0 with ⟨hcs, _⟩ | ⟨x, l, c, m, n, D, Pl, hcs, _⟩
      · simp at hcs; exact ⟨_, _, _, hcs⟩
      · simp at hcs; exact ⟨_, _, _, hcs⟩
    obtain ⟨a, len, cap, rfl⟩ := hform
    obtain ⟨l, h1, h2, h3, h4, h5⟩ := open_rgs ⟨_, g0⟩
    exact ⟨⟨a, len, cap, x1, l⟩, rfl, h2, Nat.le_trans h3 h4, h5⟩

theorem open_mps {H : Type} {enc : TypeId × Value → H} {W : World} {b : Nat} {sp : Nat → Bool} {hd : Bool} {a : Option Addr} {len cap : Nat} {d : DataW H} {pl : List MemPlace}
    (h : ∃ fuel, DataW.trod enc Try.prog W b sp hd fuel 45 [.slice a len cap] = some (d, pl)) :
    ∃ L : List Mp, L.length = len ∧ MpsIn W W.heap.size a len L ∧ len ≤ cap ∧ cap ≤ maxLen ∧ (a = none → len = 0) := by
  obtain ⟨L, h1, h2, h3, h4, h5, h6⟩ := open_els (s := 2) Mp.cells (fun x => x.In W W.heap.size) Try.underlying45 (by kernel_rfl) (by omega) (fun _ => rfl) h open_mp
  exact ⟨L, h1, ⟨h2, h6, Nat.le_trans h3 h4⟩, h3, h4, h5⟩
end Go.Proofs.Ytkkbmcpimglcpaa
