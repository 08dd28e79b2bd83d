/- words of my own, still more -/
import Derived.Test.YtmacfoebfpljoaaV
namespace Go.Proofs.Ytmacfoebfpljoaa
open Go.RowKit

theorem own_below {w w' : World} {base : Nat} {e : TypeId} {size : Nat} {v : Value} {n : Nat} {xs : List Value} (h : w.ownsRow base e size v n xs) (hb : Below w.heap.size w w') : w'.ownsRow base e size v n xs := by
  obtain ⟨h1, h2⟩ := h
  refine ⟨h1, ?_⟩
  rcases h2 with h2 | ⟨g, cap, cur, hv, hg, hh, r⟩
  · exact .inl h2
  · exact .inr ⟨g, cap, cur, hv, hg, (hb.block g (Array.getElem?_eq_some_iff.1 hh).1).trans hh, r⟩
theorem own_base {w : World} {base base' : Nat} {e : TypeId} {size : Nat} {v : Value} {n : Nat} {xs : List Value} (h : w.ownsRow base e size v n xs) (hb : base' ≤ base) : w.ownsRow base' e size v n xs := by
  obtain ⟨h1, h2⟩ := h
  refine ⟨h1, ?_⟩
  rcases h2 with h2 | ⟨g, cap, cur, hv, hg, r⟩
  · exact .inl h2
  · exact .inr ⟨g, cap, cur, hv, Nat.le_trans hb hg, r⟩
/-- an owned row written on from a world in between -/
theorem below_own {a w w1 : World} {v : Value} {base : Nat} {e : TypeId} {size n : Nat} {xs : List Value} {B : Nat} (hb : Below B a w) (hown : w.ownsRow base e size v n xs) (hg : w.grownBy w1 v.ownBlock) (hB : B ≤ w.heap.size) (hbase : B ≤ base) : Below B a w1 :=
  hb.grown hg hB (fun k hk => Nat.le_trans hbase (own_ge hown k hk))
end Go.Proofs.Ytmacfoebfpljoaa
