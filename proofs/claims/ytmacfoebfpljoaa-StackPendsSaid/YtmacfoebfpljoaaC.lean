/- smap: within -/
import Derived.Test.YtmacfoebfpljoaaB
import Derived.BigRegion
namespace Go.Proofs.Ytmacfoebfpljoaa
open Go.RowKit

structure Pl where
  pos : Int
  gone : Bool
  inside : Bool
  range : Int
  off : Int
deriving DecidableEq
def Pl.val (p : Pl) : Value := .agg #[.int .i64 p.pos, .bool p.gone, .bool p.inside, .int .i64 p.range, .int .i64 p.off]
def Pl.zero : Pl := ⟨0, false, false, 0, 0⟩
def Rg.val (r : Rg) : Value := .agg #[.int .i64 r.at_, .int .i64 r.old, .int .i64 r.new]

def rightB (r : Rg) (p side : Int) : Bool := if 0 < r.old ∧ (p = r.at_ ∨ p = r.at_ + r.old) then decide (p = r.at_ + r.old) else decide (0 ≤ side)
def goneB (r : Rg) (p side : Int) : Bool := if side < 0 then decide (r.at_ < p) else decide (p < r.at_ + r.old)
def withinS (r : Rg) (i shift p side : Int) : Pl :=
  { pos := r.at_ + shift + (if rightB r p side then r.new else 0), gone := goneB r p side, inside := decide (r.at_ < p ∧ p < r.at_ + r.old),
    range := if goneB r p side then i else 0, off := if goneB r p side then p - r.at_ else 0 }

set_option maxHeartbeats 2000000 in
theorem within_any (r : Rg) (i shift p side : Int) (w : World) (hf : r.Fits) (h1 : r.at_ ≤ p) (h2 : p ≤ r.at_ + r.old) (hs : -2000000000000 ≤ shift ∧ shift ≤ 2000000000000) :
    Calls Try.prog 47 #[r.val, .int .i64 i, .int .i64 shift, .int .i64 p, .int .i64 side] w fun e w' => e = .returned (withinS r i shift p side).val ∧ Below w.heap.size w w' := by
  obtain ⟨a, o, n⟩ := r
  obtain ⟨f1, f2, f3, f4, f5, f6⟩ := hf
  simp only at f1 f2 f3 f4 f5 f6 h1 h2
  simp only [Rg.val]
  have hc : (o = 0 ∧ p = a ∧ (p == a) = true ∧ (p == a + o) = true) ∨ (0 < o ∧ p = a ∧ (p == a) = true ∧ (p == a + o) = false) ∨ (0 < o ∧ p = a + o ∧ (p == a) = false ∧ (p == a + o) = true) ∨ (0 < o ∧ a < p ∧ p < a + o ∧ (p == a) = false ∧ (p == a + o) = false) := by
    simp only [beq_iff_eq, beq_eq_false_iff_ne]; omega
  have hd : side < 0 ∨ 0 ≤ side := by omega
  have hv : ∀ x y z u v, Pl.mk x y z u v = withinS ⟨a, o, n⟩ i shift p side → Value.agg #[.int .i64 x, .bool y, .bool z, .int .i64 u, .int .i64 v] = (withinS ⟨a, o, n⟩ i shift p side).val := fun x y z u v h => by rw [← h]; rfl
  have HV := Lib.hid hv
  clear hv
  rcases hc with ⟨c1, c2, t1, t2⟩ | ⟨c1, c2, t1, t2⟩ | ⟨c1, c2, t1, t2⟩ | ⟨c1, c2, c3, t1, t2⟩ <;> rcases hd with hd | hd
  all_goals
    have C2 := Lib.hid c2
    have C1 := Lib.hid c1
    first | (have c0 : o ≤ 0 := by omega) | (have c0 : 0 < o := by omega)
    clear c1
  all_goals first
    | (have hx : p ≤ a := by omega
       clear c2
       go_enter Try.func47, Try.ntmps47
       go_wp2)
    | (have hx : a < p := by omega
       have hy : p < a + o := by omega
       clear c2
       go_enter Try.func47, Try.ntmps47
       go_wp2)
    | (have hx : a < p := by omega
       have hy : a + o ≤ p := by omega
       clear c2
       go_enter Try.func47, Try.ntmps47
       go_wp2)
  all_goals try (go_region; all_goals go_wp2)
  all_goals
    refine bodyPost_ret (v := (withinS ⟨a, o, n⟩ i shift p side).val) ?_ rfl ⟨rfl, ?_⟩
    · simp [results, Try.results47, go_sem]
      refine HV.out _ _ _ _ _ ?_
      have d1 := C1.out; have d2 := C2.out
      unfold withinS rightB goneB
      simp only [Pl.mk.injEq]
      refine ⟨?_, ?_, ?_, ?_, ?_⟩
      all_goals repeat' split
      all_goals first | rfl | omega | (simp; omega) | (simp at *; omega)
    · repeat (first | exact Below.refl _ _ | refine Below.drew ?_ | refine Below.alloc ?_ (by simp; try omega) _)
end Go.Proofs.Ytmacfoebfpljoaa
