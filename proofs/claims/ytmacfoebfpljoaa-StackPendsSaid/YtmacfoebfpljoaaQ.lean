/- words of my own, for laws that call one contract after another -/
import Derived.Test.YtmacfoebfpljoaaR
namespace Go.Proofs.Ytmacfoebfpljoaa
open Go.RowKit

/-- how a contract ends in the midst of a law that began in w: it answers v; what was there in w, and what was there in W, reads as before -/
abbrev On (w W : World) (v : Value) (e : Ending) (w' : World) : Prop := e = .returned v ∧ Below w.heap.size w w' ∧ w.heap.size ≤ w'.heap.size ∧ Below W.heap.size W w'
theorem calls_on {P : Program} {f : FuncId} {args : Array Value} {w W : World} {v : Value} (hb : Below w.heap.size w W) (h : Calls P f args W fun e w' => e = .returned v ∧ Below W.heap.size W w') : Calls P f args W (On w W v) :=
  h.mono fun _ _ ⟨he, hb'⟩ => ⟨he, hb.trans (hb'.mono hb.size), Nat.le_trans hb.size hb'.size, hb'⟩
theorem below_eq {w w' : World} (h : w = w') : Below w.heap.size w w' := by subst h; exact Below.refl _ _
theorem calls_same {P : Program} {f : FuncId} {args : Array Value} {w W : World} {v : Value} (hb : Below w.heap.size w W) (h : Calls P f args W fun e w' => e = .returned v ∧ W = w') : Calls P f args W (On w W v) :=
  calls_on hb (h.mono fun _ _ ⟨he, hb'⟩ => ⟨he, below_eq hb'⟩)
theorem calls_drew {P : Program} {f : FuncId} {args : Array Value} {w W : World} {v : Value} (hb : Below w.heap.size w W) (h : Calls P f args W fun e w' => e = .returned v ∧ ∃ q, w' = W.drewN q) : Calls P f args W (On w W v) :=
  calls_on hb (h.mono fun _ _ ⟨he, q, hb'⟩ => ⟨he, by rw [hb']; exact below_drewN (Below.refl _ _) q⟩)
end Go.Proofs.Ytmacfoebfpljoaa
