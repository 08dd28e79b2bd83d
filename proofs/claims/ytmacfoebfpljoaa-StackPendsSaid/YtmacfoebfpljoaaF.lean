/- smap: Tell whole -/
import Derived.Test.YtmacfoebfpljoaaE
namespace Go.Proofs.Ytmacfoebfpljoaa
open Go.RowKit

theorem tell_any (A : Option Addr) (n c : Nat) (l : List Rg) (p side : Int) (w : World) (hn : n ≤ maxLen) (h : n ≤ 1000 → Rd w w.heap.size 3 A n (rgs l)) (hl : l.length = n) :
    Calls Try.prog 35 #[.slice A n c, .int .i64 p, .int .i64 side] w (TellSays (tellS l p side) w) := by
  unfold tellS
  cases hr : rightM l with
  | false => exact tell_bad A n c l p side w hn h hl hr
  | true =>
    by_cases hp : 0 ≤ p ∧ p ≤ 1099511627776
    · rw [if_pos rfl, if_pos hp]
      exact tell_go A n c l p side w (h (by have := right_len hr; omega)) hr hp.1 hp.2
    · rw [if_pos rfl, if_neg hp]
      exact tell_out A n c l p side w hn h hl hr (by omega)
theorem tell_agg (A : Option Addr) (n c : Nat) (l : List Rg) (p side : Int) (w : World) (hn : n ≤ maxLen) (h : n ≤ 1000 → Rd w w.heap.size 3 A n (rgs l)) (hl : l.length = n) :
    Calls Try.prog 35 #[.slice A n c, .int .i64 p, .int .i64 side] w fun e w' => ∃ q : Pl, ∃ er : Int, Hid (tellS l p side = (q, er)) ∧ e = .returned (.tuple #[.agg #[.int .i64 q.pos, .bool q.gone, .bool q.inside, .int .i64 q.range, .int .i64 q.off], .int .i64 er]) ∧ Below w.heap.size w w' :=
  (tell_any A n c l p side w hn h hl).mono fun _ _ ⟨he, hb⟩ => ⟨_, _, rfl, he, hb⟩

end Go.Proofs.Ytmacfoebfpljoaa
