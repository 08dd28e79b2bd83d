/- step: tokens, sets of marks, and their equality -/
import Derived.Test.YtmacfoebfpljoaaRows
import Derived.Test.YtmacfoebfpljoaaU
import Derived.Deep.DeepCutAuto
import Derived.Deep.QuietTactic
import Derived.BigQuiet
import Derived.Deep.RegionLaw
import Derived.Laws.StructEq
import Derived.ChangeKeysEq
namespace Go.Proofs.Ytmacfoebfpljoaa
open Go.RowKit

/-- a set of marks -/
structure Mk where
  (m0 m1 m2 m3 m4 m5 m6 m7 : Int)
deriving Inhabited, DecidableEq
def Mk.cells (x : Mk) : List Value := [.int .u16 x.m0, .int .u16 x.m1, .int .u16 x.m2, .int .u16 x.m3, .int .u16 x.m4, .int .u16 x.m5, .int .u16 x.m6, .int .u16 x.m7]
/-- a token -/
structure Tok where
  (k t a r : Int)
  m : Mk
deriving Inhabited, DecidableEq
def Tok.cells (x : Tok) : List Value := .int .i64 x.k :: .int .i64 x.t :: .int .i64 x.a :: .int .i32 x.r :: x.m.cells
def mks (l : List Mk) : List Value := l.flatMap Mk.cells
def toks (l : List Tok) : List Value := l.flatMap Tok.cells

def mkB (a b : Mk) : Bool := decide (a = b)
def tokB (a b : Tok) : Bool := decide (a = b)
theorem info_u16 : (Try.prog.info? 48).map (fun i => (i.zero, i.size, i.bytes)) = some (some (.int .u16 0), 1, 2) := by kernel_rfl
theorem eq_mk (d : Nat) (a b : Mk) (w : World) : (Op.equalIn (d + 2) 89 (.agg a.cells.toArray) (.agg b.cells.toArray)).run Try.prog w = .ok (decide (a = b)) w := by
  have u3 := Try.underlying48
  have z3 := Try.sizeOf48
  obtain ⟨i0, hi, _, _, _⟩ := info_parts info_u16
  rw [run_equalIn_array w (d + 1) _ _ (show Try.prog.underlying 89 = some (.array 8 48) by kernel_rfl) hi]
  have hc : Try.prog.cellsOf 48 = 1 := by kernel_rfl
  rw [hc]
  rw [show List.range 8 = [0, 1, 2, 3, 4, 5, 6, 7] from rfl]
  have a3 := Try.isAgg48
  simp only [Mk.cells, Op.eqItems]
  go_simp
  obtain ⟨a0, a1, a2, a3, a4, a5, a6, a7⟩ := a
  obtain ⟨b0, b1, b2, b3, b4, b5, b6, b7⟩ := b
  simp only [Mk.mk.injEq]
  repeat' split
  all_goals simp_all
@[go_sem] theorem eq_mk_at (a0 a1 a2 a3 a4 a5 a6 a7 b0 b1 b2 b3 b4 b5 b6 b7 : Int) (w : World) : (Op.equalIn 10000 89 (.agg #[.int .u16 a0, .int .u16 a1, .int .u16 a2, .int .u16 a3, .int .u16 a4, .int .u16 a5, .int .u16 a6, .int .u16 a7]) (.agg #[.int .u16 b0, .int .u16 b1, .int .u16 b2, .int .u16 b3, .int .u16 b4, .int .u16 b5, .int .u16 b6, .int .u16 b7])).run Try.prog w = .ok (mkB (Mk.mk a0 a1 a2 a3 a4 a5 a6 a7) (Mk.mk b0 b1 b2 b3 b4 b5 b6 b7)) w := eq_mk 9998 ⟨a0, a1, a2, a3, a4, a5, a6, a7⟩ ⟨b0, b1, b2, b3, b4, b5, b6, b7⟩ w
@[go_sem] theorem eq_mk_in (a0 a1 a2 a3 a4 a5 a6 a7 b0 b1 b2 b3 b4 b5 b6 b7 : Int) (w : World) : (Op.equalIn 9999 89 (.agg #[.int .u16 a0, .int .u16 a1, .int .u16 a2, .int .u16 a3, .int .u16 a4, .int .u16 a5, .int .u16 a6, .int .u16 a7]) (.agg #[.int .u16 b0, .int .u16 b1, .int .u16 b2, .int .u16 b3, .int .u16 b4, .int .u16 b5, .int .u16 b6, .int .u16 b7])).run Try.prog w = .ok (decide (Mk.mk a0 a1 a2 a3 a4 a5 a6 a7 = Mk.mk b0 b1 b2 b3 b4 b5 b6 b7)) w := eq_mk 9997 ⟨a0, a1, a2, a3, a4, a5, a6, a7⟩ ⟨b0, b1, b2, b3, b4, b5, b6, b7⟩ w
theorem eq_tok (a b : Tok) (w : World) : (Op.equalIn 10000 91 (.agg a.cells.toArray) (.agg b.cells.toArray)).run Try.prog w = .ok (decide (a = b)) w := by
  have u1 := Try.underlying3
  have a1 := Try.isAgg3
  have z1 := Try.sizeOf3
  have u2 := Try.underlying21
  have a2 := Try.isAgg21
  have z2 := Try.sizeOf21
  have u4 := Try.underlying89
  have a4 := Try.isAgg89
  have z4 := Try.sizeOf89
  have hS : Try.prog.underlying 91 = some (.struct (Try.prog.fieldsOf 91)) := by kernel_rfl
  have hp : Try.prog.stoodInHeld 91 = false := by kernel_rfl
  rw [show (10000 : Nat) = 9999 + 1 from rfl, run_equalIn_agg w 9999 91 _ _ hS hp]
  simp only [Program.fieldsOf, Try.underlying91, Tok.cells, Mk.cells]
  go_simp
  obtain ⟨a0, a1, a2, a3, x0, x1, x2, x3, x4, x5, x6, x7⟩ := a
  obtain ⟨b0, b1, b2, b3, y0, y1, y2, y3, y4, y5, y6, y7⟩ := b
  simp only [Tok.mk.injEq, Mk.mk.injEq]
  clear u1 z1 u2 z2 u4 a4 z4 hS hp
  repeat' split
  all_goals simp_all
@[go_sem] theorem eq_tok_at (x0 x1 x2 x3 x4 x5 x6 x7 x8 x9 x10 x11 y0 y1 y2 y3 y4 y5 y6 y7 y8 y9 y10 y11 : Int) (w : World) : (Op.equalIn 10000 91 (.agg #[.int .i64 x0, .int .i64 x1, .int .i64 x2, .int .i32 x3, .int .u16 x4, .int .u16 x5, .int .u16 x6, .int .u16 x7, .int .u16 x8, .int .u16 x9, .int .u16 x10, .int .u16 x11]) (.agg #[.int .i64 y0, .int .i64 y1, .int .i64 y2, .int .i32 y3, .int .u16 y4, .int .u16 y5, .int .u16 y6, .int .u16 y7, .int .u16 y8, .int .u16 y9, .int .u16 y10, .int .u16 y11])).run Try.prog w = .ok (tokB (Tok.mk x0 x1 x2 x3 ⟨x4, x5, x6, x7, x8, x9, x10, x11⟩) (Tok.mk y0 y1 y2 y3 ⟨y4, y5, y6, y7, y8, y9, y10, y11⟩)) w := eq_tok (Tok.mk x0 x1 x2 x3 ⟨x4, x5, x6, x7, x8, x9, x10, x11⟩) (Tok.mk y0 y1 y2 y3 ⟨y4, y5, y6, y7, y8, y9, y10, y11⟩) w

@[go_sem] theorem guard_tok : Try.prog.eqGuardType Try.prog.depth 91 = false := by kernel_rfl
@[go_sem] theorem guard_mk : Try.prog.eqGuardType Try.prog.depth 89 = false := by kernel_rfl
theorem mks_len (l : List Mk) : (mks l).length = l.length * 8 := by
  induction l with
  | nil => rfl
  | cons r l ih => simp only [mks, List.flatMap_cons, List.length_append] at *; rw [ih]; simp [Mk.cells]; omega
theorem toks_len (l : List Tok) : (toks l).length = l.length * 12 := by
  induction l with
  | nil => rfl
  | cons r l ih => simp only [toks, List.flatMap_cons, List.length_append] at *; rw [ih]; simp [Tok.cells, Mk.cells]; omega
theorem flat_at {α : Type} {s : Nat} (f : α → List Value) (hf : ∀ x, (f x).length = s) {l : List α} {k : Nat} {x : α} (h : l[k]? = some x) (i : Nat) (hi : i < s) : (l.flatMap f)[k * s + i]? = (f x)[i]? := by
  induction l generalizing k with
  | nil => simp at h
  | cons y l ih =>
    rw [List.flatMap_cons]
    cases k with
    | zero =>
      simp at h; subst h
      rw [List.getElem?_append_left (by rw [hf]; omega)]
      simp
    | succ k =>
      rw [List.getElem?_append_right (by rw [hf, Nat.add_mul]; omega), hf]
      rw [← ih (k := k) (by simpa using h)]
      congr 1
      rw [Nat.add_mul]; omega
theorem Rd.mlen {w : World} {B : Nat} {A : Option Addr} {n : Nat} {l : List Mk} (h : Rd w B 8 A n (mks l)) : l.length = n := by
  have := h.1
  rw [mks_len] at this
  omega
theorem Rd.tlen {w : World} {B : Nat} {A : Option Addr} {n : Nat} {l : List Tok} (h : Rd w B 12 A n (toks l)) : l.length = n := by
  have := h.1
  rw [toks_len] at this
  omega
/-- the cells of one element -/
theorem Rd.el {α : Type} {s : Nat} (f : α → List Value) (hf : ∀ x, (f x).length = s) {w : World} {B n : Nat} {A : Option Addr} {l : List α} {k : Nat} {x : α} (h : Rd w B s A n (l.flatMap f)) (hl : l.length = n) (hk : l[k]? = some x) :
    ∃ b o, A = some ⟨b, o, none⟩ ∧ b < B ∧ ∀ i, i < s → w.cell? ⟨b, o + k * s + i, none⟩ = (f x)[i]? := by
  have hkl := (List.getElem?_eq_some_iff.1 hk).1
  obtain ⟨b, o, e, hb, hc⟩ := h.2 (by omega)
  refine ⟨b, o, e, hb, fun i hi => ?_⟩
  have hg := flat_at f hf hk i hi
  obtain ⟨u, hu⟩ : ∃ u, (f x)[i]? = some u := ⟨_, List.getElem?_eq_getElem (by rw [hf]; exact hi)⟩
  rw [hu] at hg ⊢
  rw [Nat.add_assoc]
  exact hc _ _ hg
end Go.Proofs.Ytmacfoebfpljoaa
