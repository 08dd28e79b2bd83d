/- chain: what it computes; how steps are cut into groups turns none of them -/
import Derived.Test.YtmacfoebfpljoaaStG
import Derived.Test.YtmacfoebfpljoaaN
namespace Go.Proofs.Ytmacfoebfpljoaa
open Go.RowKit

/-- what a step says -/
structure StC where
  (k f t g h i m v : Int)
  sl : List Tok
  st : List Mk
deriving DecidableEq, Inhabited
def StC.sh (x : StC) : Bool := shB x.k x.f x.t x.g x.h x.i x.m x.v x.sl.length x.st.length
def StC.map (x : StC) : List Rg := mapB x.k x.f x.t x.g x.h x.i x.m x.v x.sl.length x.st.length
/-- a map back, a map over, and whether it was kept -/
structure Lk where
  (back over : List Rg)
  kept : Bool
deriving DecidableEq, Inhabited

def recO (l : List Rg) (at_ off : Int) : Option Int := if (recS l at_ off).2 then some (recS l at_ off).1 else none
/-- where a position comes to, back over links, over a map, and over the links -/
def tellL (m : List Rg) : List Lk → Int → Int → Pl × Int
  | [], p, s => (⟨(tellS m p s).1.pos, (tellS m p s).1.gone, (tellS m p s).1.inside, 0, 0⟩, (tellS m p s).2)
  | k :: ks, p, s =>
    let P := tellS k.back p s
    if P.2 ≠ 0 then (Pl.zero, P.2) else
    match (if (P.1.gone && k.kept) = true then recO k.over P.1.range P.1.off else none) with
    | some n => (⟨n, false, false, 0, 0⟩, 0)
    | none =>
      let q := tellL m ks P.1.pos s
      if q.2 ≠ 0 ∨ k.kept = false then (⟨q.1.pos, decide (q.2 = 0) && (q.1.gone || P.1.gone), decide (q.2 = 0) && (q.1.inside || P.1.inside), q.1.range, q.1.off⟩, q.2)
      else
        let x := tellS k.over q.1.pos s
        if x.2 ≠ 0 then (Pl.zero, x.2) else (⟨x.1.pos, P.1.gone || q.1.gone || x.1.gone, P.1.inside || q.1.inside || x.1.inside, 0, 0⟩, 0)

def rowB (T : Int → Int → Pl × Int) (from_ to_ : Int) : Nat → Bool
  | 0 => true
  | n + 1 => rowB T from_ to_ n && (decide ((T (from_ + n) 1).2 = 0) && !(T (from_ + n) 1).1.gone && decide ((T (from_ + n) 1).1.pos = to_ + n))
def kindB (T : Int → Int → Pl × Int) (x : StC) (f' t' e : Int) : Option StC :=
  if x.k = 2 then
    if (T x.g (-1)).2 = 0 ∧ (T x.h 1).2 = 0 ∧ f' ≤ (T x.g (-1)).1.pos ∧ (T x.g (-1)).1.pos ≤ (T x.h 1).1.pos ∧ (T x.h 1).1.pos ≤ e then some { x with f := f', t := t', g := (T x.g (-1)).1.pos, h := (T x.h 1).1.pos } else none
  else if x.k = 3 ∨ x.k = 4 then if f' < e then some { x with f := f', t := t' } else none
  else if x.k = 5 then if rowB T x.f f' (x.t - x.f).toNat = true then some { x with f := f', t := f' + x.t - x.f } else none
  else some { x with f := f', t := t' }
/-- a step by where positions come to -/
def shiftB (T : Int → Int → Pl × Int) (x : StC) : Option StC :=
  if x.sh = true ∧ (T x.f 1).2 = 0 ∧ (T x.t (-1)).2 = 0 ∧ ((T x.f 1).1.inside && (T x.t (-1)).1.inside) = false then
    (kindB T x (T x.f 1).1.pos (max (T x.f 1).1.pos (T x.t (-1)).1.pos) (T x.t (-1)).1.pos).filter StC.sh
  else none
def invS (l : List Rg) : List Rg := if rightM l then invM l else []
/-- one more step -/
def stepT (m : List Rg) (ks : List Lk) (x : StC) : List Lk × Option StC :=
  if x.sh = true then
    let y := shiftB (tellL m ks) x
    if rightM (invS x.map) = true then (⟨invS x.map, (match y with | some z => z.map | none => []), y.isSome⟩ :: ks, y) else (ks, y)
  else (ks, none)
/-- many steps: the links, the steps that are kept, how many are lost -/
def runG (m : List Rg) (ks : List Lk) : List StC → List Lk × List StC × Nat
  | [] => (ks, [], 0)
  | x :: xs =>
    let a := stepT m ks x
    let b := runG m a.1 xs
    (b.1, a.2.toList ++ b.2.1, (if a.2.isSome then 0 else 1) + b.2.2)
/-- a pin -/
structure Pn where
  (k a b : Int)
deriving DecidableEq, Inhabited
def pinAt (T : Int → Int → Pl × Int) (p : Int) : Int := if (T p 1).2 = 0 then (T p 1).1.pos else 0
def pinB (T : Int → Int → Pl × Int) (p : Pn) : Pn := if p.k = 1 then ⟨p.k, pinAt T p.a, pinAt T p.b⟩ else if p.k = 2 then ⟨p.k, pinAt T p.a, p.b⟩ else p
/-- what a group says -/
structure GrC where
  steps : List StC
  (pin back : Pn)
  lost : Int
deriving DecidableEq, Inhabited
def overG (m : List Rg) (ks : List Lk) : List GrC → List Lk × List GrC
  | [] => (ks, [])
  | g :: gs =>
    let a := runG m ks g.steps
    let b := overG m a.1 gs
    (b.1, ⟨a.2.1, pinB (tellL m a.1) g.pin, pinB (tellL m ks) g.back, IntKind.i64.wrap (g.lost + (a.2.2 : Nat))⟩ :: b.2)
/-- groups over a map -/
def overC (m : List Rg) (L : List GrC) : List GrC := if rightM m then (overG m [] L).2 else L

section
variable {m : List Rg}
theorem runG_append (ks : List Lk) (xs ys : List StC) : runG m ks (xs ++ ys) = ((runG m (runG m ks xs).1 ys).1, (runG m ks xs).2.1 ++ (runG m (runG m ks xs).1 ys).2.1, (runG m ks xs).2.2 + (runG m (runG m ks xs).1 ys).2.2) := by
  induction xs generalizing ks with
  | nil => simp [runG]
  | cons x xs ih =>
    simp only [List.cons_append, runG]
    rw [ih]
    simp only [List.append_assoc, Nat.add_assoc]
theorem runG_snoc (ks : List Lk) {xs : List StC} {k : Nat} {x : StC} (h : xs[k]? = some x) : runG m ks (xs.take (k + 1)) = ((stepT m (runG m ks (xs.take k)).1 x).1, (runG m ks (xs.take k)).2.1 ++ (stepT m (runG m ks (xs.take k)).1 x).2.toList, (runG m ks (xs.take k)).2.2 + (if (stepT m (runG m ks (xs.take k)).1 x).2.isSome then 0 else 1)) := by
  rw [List.take_add_one, h, Option.toList_some, runG_append]
  simp [runG]
theorem overG_append (ks : List Lk) (xs ys : List GrC) : overG m ks (xs ++ ys) = ((overG m (overG m ks xs).1 ys).1, (overG m ks xs).2 ++ (overG m (overG m ks xs).1 ys).2) := by
  induction xs generalizing ks with
  | nil => simp [overG]
  | cons x xs ih =>
    simp only [List.cons_append, overG]
    rw [ih]
theorem overG_snoc (ks : List Lk) {xs : List GrC} {k : Nat} {g : GrC} (h : xs[k]? = some g) : overG m ks (xs.take (k + 1)) = ((runG m (overG m ks (xs.take k)).1 g.steps).1, (overG m ks (xs.take k)).2 ++ [⟨(runG m (overG m ks (xs.take k)).1 g.steps).2.1, pinB (tellL m (runG m (overG m ks (xs.take k)).1 g.steps).1) g.pin, pinB (tellL m (overG m ks (xs.take k)).1) g.back, IntKind.i64.wrap (g.lost + ((runG m (overG m ks (xs.take k)).1 g.steps).2.2 : Nat))⟩]) := by
  rw [List.take_add_one, h, Option.toList_some, overG_append]
  simp [overG]
theorem overG_len (ks : List Lk) (xs : List GrC) : (overG m ks xs).2.length = xs.length := by
  induction xs generalizing ks with
  | nil => rfl
  | cons x xs ih => simp [overG, ih]
theorem runG_count (ks : List Lk) (xs : List StC) : (runG m ks xs).2.1.length + (runG m ks xs).2.2 = xs.length := by
  induction xs generalizing ks with
  | nil => rfl
  | cons x xs ih =>
    have := ih (stepT m ks x).1
    simp only [runG, List.length_append, List.length_cons]
    cases h : (stepT m ks x).2 <;> simp <;> omega
/-- the links behind groups are those behind all their steps -/
theorem overG_links (ks : List Lk) (L : List GrC) : (overG m ks L).1 = (runG m ks (L.flatMap GrC.steps)).1 := by
  induction L generalizing ks with
  | nil => rfl
  | cons g L ih => simp only [overG, List.flatMap_cons]; rw [ih, runG_append]
theorem overG_steps (ks : List Lk) (L : List GrC) : (overG m ks L).2.flatMap GrC.steps = (runG m ks (L.flatMap GrC.steps)).2.1 := by
  induction L generalizing ks with
  | nil => rfl
  | cons g L ih => simp only [overG, List.flatMap_cons]; rw [ih, runG_append]
end

/-- how many steps are lost, as the law counts it -/
def lostD : List GrC → List GrC → Int
  | a :: l, g :: k => (a.lost - g.lost) + lostD l k
  | _, _ => 0
end Go.Proofs.Ytmacfoebfpljoaa
