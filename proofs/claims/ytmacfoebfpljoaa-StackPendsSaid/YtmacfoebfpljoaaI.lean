/- smap: what Invert makes (cut out of smap/XI) -/
import Derived.Test.YtmacfoebfpljoaaC
import Derived.Deep.RegionLaw
import Derived.Laws.StructEq
namespace Go.Proofs.Ytmacfoebfpljoaa
open Go.RowKit

theorem info_range : (Try.prog.info? 45).map (fun i => (i.zero, i.size, i.bytes)) = some (some (.agg #[.int .i64 0, .int .i64 0, .int .i64 0]), 3, 24) := by kernel_rfl

def invFrom : Int → List Rg → List Rg
  | _, [] => []
  | s, r :: t => ⟨r.at_ + s, r.new, r.old⟩ :: invFrom (s + (r.new - r.old)) t
def invM (l : List Rg) : List Rg := invFrom 0 l
theorem invFrom_append : ∀ (a b : List Rg) (s : Int), invFrom s (a ++ b) = invFrom s a ++ invFrom (s + shiftL a) b := by
  intro a
  induction a with
  | nil => intro b s; simp [invFrom, shiftL]
  | cons r a ih => intro b s; simp only [List.cons_append, invFrom, ih, shiftL]; rw [Int.add_assoc]
theorem invM_snoc {l : List Rg} {k : Nat} {r : Rg} (h : l[k]? = some r) : invM (l.take (k + 1)) = invM (l.take k) ++ [⟨r.at_ + shiftL (l.take k), r.new, r.old⟩] := by
  rw [List.take_add_one, h, Option.toList_some, invM, invFrom_append]; simp [invFrom, invM]
theorem invFrom_length : ∀ (l : List Rg) (s : Int), (invFrom s l).length = l.length := by
  intro l
  induction l with
  | nil => intro s; rfl
  | cons r l ih => intro s; simp only [invFrom, List.length_cons, ih]
theorem invM_length (l : List Rg) : (invM l).length = l.length := invFrom_length l 0
theorem rgs_append (a b : List Rg) : rgs (a ++ b) = rgs a ++ rgs b := by simp [rgs]

@[go_sem] theorem eq_range (a b c a' b' c' : Int) (w : World) : (Op.equalIn 10000 45 (.agg #[.int .i64 a, .int .i64 b, .int .i64 c]) (.agg #[.int .i64 a', .int .i64 b', .int .i64 c'])).run Try.prog w = .ok (a == a' && b == b' && c == c') w := by
  have u3 := Try.underlying3
  have a3 := Try.isAgg3
  have z3 := Try.sizeOf3
  have hS : Try.prog.underlying 45 = some (.struct (Try.prog.fieldsOf 45)) := by kernel_rfl
  have hp : Try.prog.stoodInHeld 45 = false := by kernel_rfl
  rw [show (10000 : Nat) = 9999 + 1 from rfl, run_equalIn_agg w 9999 45 _ _ hS hp]
  simp only [Program.fieldsOf, Try.underlying45]
  go_simp
  by_cases h1 : a = a' <;> by_cases h2 : b = b' <;> by_cases h3 : c = c' <;> simp [h1, h2, h3]

def sameB (l l' : List Rg) : Bool := decide (l = l')

theorem rg_ext {l l' : List Rg} {k : Nat} : (∀ i, i < k → l[i]? = l'[i]?) ↔ l.take k = l'.take k := by
  constructor
  · intro h
    apply List.ext_getElem?
    intro i
    rw [List.getElem?_take, List.getElem?_take]
    split
    · exact h i (by assumption)
    · rfl
  · intro h i hi
    have := congrArg (fun q => q[i]?) h
    simpa [List.getElem?_take, hi] using this

end Go.Proofs.Ytmacfoebfpljoaa
