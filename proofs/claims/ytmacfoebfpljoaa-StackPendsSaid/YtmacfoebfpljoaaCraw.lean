/- chain: steps and groups as they are handed in, of any size -/
import Derived.Test.YtmacfoebfpljoaaCb
namespace Go.Proofs.Ytmacfoebfpljoaa
open Go.RowKit

/-- what a step's lists are, of any size -/
structure StH.Raw (w : World) (B : Nat) (s : StH) : Prop where
  rd : Rd w B 12 s.A s.n (toks s.x.sl)
  rd' : Rd w B 8 s.A' s.n' (mks s.x.st)
  n : s.n ≤ maxLen
  n' : s.n' ≤ maxLen
  A : s.A = none → s.n = 0
  A' : s.A' = none → s.n' = 0
def StsRaw (w : World) (B : Nat) (A : Option Addr) (n : Nat) (L : List StH) : Prop := Rd w B 10 A n (sts L) ∧ ∀ s ∈ L, s.Raw w B
structure GrH.Raw (w : World) (B : Nat) (g : GrH) : Prop where
  sts : StsRaw w B g.A g.n g.L
  n : g.n ≤ maxLen
  A : g.A = none → g.n = 0
  lost : -9223372036854775808 ≤ g.lost ∧ g.lost ≤ 9223372036854775807
def GrsRaw (w : World) (B : Nat) (A : Option Addr) (n : Nat) (L : List GrH) : Prop := Rd w B 8 A n (grs L) ∧ ∀ g ∈ L, g.Raw w B
section
variable {w w' : World} {B B' n : Nat} {A : Option Addr} {L : List StH} {s : StH}
theorem StH.Raw.below (h : s.Raw w B) (hb : Below B w w') : s.Raw w' B := ⟨h.rd.below hb, h.rd'.below hb, h.n, h.n', h.A, h.A'⟩
theorem StH.Raw.more (h : s.Raw w B) (hb : B ≤ B') : s.Raw w B' := ⟨h.rd.more hb, h.rd'.more hb, h.n, h.n', h.A, h.A'⟩
theorem StH.Raw.in_ (h : s.Raw w B) (h1 : s.n ≤ 1000000) (h2 : s.n' ≤ 1000000) : s.In w B := ⟨h.rd, h.rd', h1, h2, h.A, h.A'⟩
theorem StsRaw.below (h : StsRaw w B A n L) (hb : Below B w w') : StsRaw w' B A n L := ⟨h.1.below hb, fun x hx => (h.2 x hx).below hb⟩
theorem StsRaw.more (h : StsRaw w B A n L) (hb : B ≤ B') : StsRaw w B' A n L := ⟨h.1.more hb, fun x hx => (h.2 x hx).more hb⟩
theorem StsRaw.len (h : StsRaw w B A n L) : L.length = n := by
  have := h.1.1
  rw [sts_len] at this
  omega
theorem StsRaw.at_ {k : Nat} (h : StsRaw w B A n L) (hx : L[k]? = some s) : s.Raw w B ∧ ∃ b o, A = some ⟨b, o, none⟩ ∧ b < B ∧ ∀ i, i < 10 → w.cell? ⟨b, o + k * 10 + i, none⟩ = s.cells[i]? :=
  ⟨h.2 s (List.mem_of_getElem? hx), h.1.el StH.cells (fun _ => rfl) h.len hx⟩
theorem StsRaw.in_ (h : StsRaw w B A n L) (h1 : ∀ s ∈ L, s.n ≤ 1000000 ∧ s.n' ≤ 1000000) : StsIn w B A n L := ⟨h.1, fun s hs => (h.2 s hs).in_ (h1 s hs).1 (h1 s hs).2⟩
end
section
variable {w w' : World} {B B' n : Nat} {A : Option Addr} {L : List GrH} {g : GrH}
theorem GrH.Raw.below (h : g.Raw w B) (hb : Below B w w') : g.Raw w' B := ⟨h.sts.below hb, h.n, h.A, h.lost⟩
theorem GrH.Raw.more (h : g.Raw w B) (hb : B ≤ B') : g.Raw w B' := ⟨h.sts.more hb, h.n, h.A, h.lost⟩
theorem GrsRaw.below (h : GrsRaw w B A n L) (hb : Below B w w') : GrsRaw w' B A n L := ⟨h.1.below hb, fun x hx => (h.2 x hx).below hb⟩
theorem GrsRaw.more (h : GrsRaw w B A n L) (hb : B ≤ B') : GrsRaw w B' A n L := ⟨h.1.more hb, fun x hx => (h.2 x hx).more hb⟩
theorem GrsRaw.len (h : GrsRaw w B A n L) : L.length = n := by
  have := h.1.1
  rw [grs_len] at this
  omega
theorem GrsRaw.at_ {k : Nat} (h : GrsRaw w B A n L) (hx : L[k]? = some g) : g.Raw w B ∧ ∃ b o, A = some ⟨b, o, none⟩ ∧ b < B ∧ ∀ i, i < 8 → w.cell? ⟨b, o + k * 8 + i, none⟩ = g.cells[i]? :=
  ⟨h.2 g (List.mem_of_getElem? hx), h.1.el GrH.cells (fun _ => rfl) h.len hx⟩
/-- small enough to be gone through -/
def Small (L : List GrH) : Prop := ∀ g ∈ L, g.n ≤ 20 ∧ ∀ s ∈ g.L, s.n ≤ 60 ∧ s.n' ≤ 150
theorem GrsRaw.in_ (h : GrsRaw w B A n L) (h1 : Small L) : GrsIn w B A n L := ⟨h.1, fun g hg => ⟨(h.2 g hg).sts.in_ (fun s hs => by have := (h1 g hg).2 s hs; omega), by have := (h1 g hg).1; omega, (h.2 g hg).A⟩⟩
end
end Go.Proofs.Ytmacfoebfpljoaa
