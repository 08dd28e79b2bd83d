/- chain: steps, groups, links as they lie in memory -/
import Derived.Test.YtmacfoebfpljoaaCa
namespace Go.Proofs.Ytmacfoebfpljoaa
open Go.RowKit

/-- a slice doesn't lie in block bt -/
def Off (bt : Nat) (A : Option Addr) : Prop := ∀ a, A = some a → a.block ≠ bt
theorem Off.none_ (bt : Nat) : Off bt none := fun _ h => by cases h
theorem Off.of_own {w : World} {base : Nat} {e : TypeId} {size : Nat} {A : Option Addr} {c n m bt : Nat} {xs : List Value} (h : w.ownsRow base e size (.slice A n c) m xs) (hb : bt < base) : Off bt A := by
  rintro a rfl
  have := own_ge h a.block rfl
  omega
theorem Off.of_rd {w : World} {B size n bt : Nat} {A : Option Addr} {xs : List Value} (h : Rd w B size A n xs) (hn : 0 < n) (hb : B ≤ bt) : Off bt A := by
  rintro a rfl
  obtain ⟨b, o, e, hlt, _⟩ := h.2 hn
  injection e with e
  subst e
  show b ≠ bt
  omega
theorem Rd.grown {w w' : World} {B size n bt : Nat} {A : Option Addr} {xs : List Value} (h : Rd w B size A n xs) (hg : w.grownBy w' (some bt)) (hA : n = 0 ∨ Off bt A) (hB : B ≤ w.heap.size) : Rd w' B size A n xs := by
  refine ⟨h.1, fun hn => ?_⟩
  obtain ⟨b, o, e, hb, hc⟩ := h.2 hn
  refine ⟨b, o, e, hb, fun j u hu => ?_⟩
  have hne : b ≠ bt := by
    rcases hA with hA | hA
    · omega
    · exact hA _ e
  exact (World.cell?_of_block (a := ⟨b, o + j, none⟩) (hg.block b (by omega) (fun e => hne (by injection e)))).trans (hc j u hu)

/-- a step as it lies -/
structure StH where
  A : Option Addr
  n : Nat
  c : Nat
  A' : Option Addr
  n' : Nat
  c' : Nat
  x : StC
deriving Inhabited
def StH.cells (s : StH) : List Value := [.int .i64 s.x.k, .int .i64 s.x.f, .int .i64 s.x.t, .int .i64 s.x.g, .int .i64 s.x.h, .int .i64 s.x.i, .int .i64 s.x.m, .int .i64 s.x.v, .slice s.A s.n s.c, .slice s.A' s.n' s.c']
/-- what a step's lists are -/
structure StH.In (w : World) (B : Nat) (s : StH) : Prop where
  rd : Rd w B 12 s.A s.n (toks s.x.sl)
  rd' : Rd w B 8 s.A' s.n' (mks s.x.st)
  n : s.n ≤ 1000000
  n' : s.n' ≤ 1000000
  A : s.A = none → s.n = 0
  A' : s.A' = none → s.n' = 0
/-- its lists don't lie in block bt -/
def StH.Off (bt : Nat) (s : StH) : Prop := (s.n = 0 ∨ Go.Proofs.Ytmacfoebfpljoaa.Off bt s.A) ∧ (s.n' = 0 ∨ Go.Proofs.Ytmacfoebfpljoaa.Off bt s.A')
def sts (L : List StH) : List Value := L.flatMap StH.cells
theorem sts_len (L : List StH) : (sts L).length = L.length * 10 := by
  induction L with
  | nil => rfl
  | cons r l ih => simp only [sts, List.flatMap_cons, List.length_append] at *; rw [ih]; simp [StH.cells]; omega
theorem sts_append (a b : List StH) : sts (a ++ b) = sts a ++ sts b := by simp [sts]
theorem sts_one (l : List StH) : ∀ u ∈ sts l, u.oneCell' = true := by
  intro u hu
  obtain ⟨r, _, hr⟩ := List.mem_flatMap.1 hu
  simp only [StH.cells, List.mem_cons, List.not_mem_nil, or_false] at hr
  rcases hr with rfl | rfl | rfl | rfl | rfl | rfl | rfl | rfl | rfl | rfl <;> rfl
/-- steps as they lie -/
def StsIn (w : World) (B : Nat) (A : Option Addr) (n : Nat) (L : List StH) : Prop := Rd w B 10 A n (sts L) ∧ ∀ s ∈ L, s.In w B
section
variable {w w' : World} {B B' n bt : Nat} {A : Option Addr} {L : List StH} {s : StH}
theorem StH.In.len (h : s.In w B) : s.x.sl.length = s.n := h.rd.tlen
theorem StH.In.len' (h : s.In w B) : s.x.st.length = s.n' := h.rd'.mlen
theorem StH.In.below (h : s.In w B) (hb : Below B w w') : s.In w' B := ⟨h.rd.below hb, h.rd'.below hb, h.n, h.n', h.A, h.A'⟩
theorem StH.In.more (h : s.In w B) (hb : B ≤ B') : s.In w B' := ⟨h.rd.more hb, h.rd'.more hb, h.n, h.n', h.A, h.A'⟩
theorem StH.In.ext (h : s.In w w.heap.size) (hb : Below w.heap.size w w') : s.In w' w'.heap.size := (h.below hb).more hb.size
theorem StH.In.grown (h : s.In w B) (hg : w.grownBy w' (some bt)) (ho : s.Off bt) (hB : B ≤ w.heap.size) : s.In w' B := ⟨h.rd.grown hg ho.1 hB, h.rd'.grown hg ho.2 hB, h.n, h.n', h.A, h.A'⟩
theorem StH.Off.of_in (h : s.In w B) (hb : B ≤ bt) : s.Off bt := by
  refine ⟨?_, ?_⟩
  · rcases Nat.eq_zero_or_pos s.n with h0 | h0
    · exact .inl h0
    · exact .inr (Go.Proofs.Ytmacfoebfpljoaa.Off.of_rd h.rd h0 hb)
  · rcases Nat.eq_zero_or_pos s.n' with h0 | h0
    · exact .inl h0
    · exact .inr (Go.Proofs.Ytmacfoebfpljoaa.Off.of_rd h.rd' h0 hb)
theorem StsIn.len (h : StsIn w B A n L) : L.length = n := by
  have := h.1.1
  rw [sts_len] at this
  omega
theorem StsIn.below (h : StsIn w B A n L) (hb : Below B w w') : StsIn w' B A n L := ⟨h.1.below hb, fun x hx => (h.2 x hx).below hb⟩
theorem StsIn.more (h : StsIn w B A n L) (hb : B ≤ B') : StsIn w B' A n L := ⟨h.1.more hb, fun x hx => (h.2 x hx).more hb⟩
theorem StsIn.ext (h : StsIn w w.heap.size A n L) (hb : Below w.heap.size w w') : StsIn w' w'.heap.size A n L := (h.below hb).more hb.size
theorem StsIn.at_ {k : Nat} (h : StsIn w B A n L) (hx : L[k]? = some s) : s.In w B ∧ ∃ b o, A = some ⟨b, o, none⟩ ∧ b < B ∧ ∀ i, i < 10 → w.cell? ⟨b, o + k * 10 + i, none⟩ = s.cells[i]? :=
  ⟨h.2 s (List.mem_of_getElem? hx), h.1.el StH.cells (fun _ => rfl) h.len hx⟩
theorem StsIn.nil_ (w : World) (B : Nat) (A : Option Addr) : StsIn w B A 0 [] := ⟨Rd.nil_ _ _ _ _, fun _ h => by cases h⟩
end

/-- a group as it lies -/
structure GrH where
  A : Option Addr
  n : Nat
  c : Nat
  L : List StH
  pin : Pn
  back : Pn
  lost : Int
deriving Inhabited
def GrH.cells (g : GrH) : List Value := [.slice g.A g.n g.c, .int .i64 g.pin.k, .int .i64 g.pin.a, .int .i64 g.pin.b, .int .i64 g.back.k, .int .i64 g.back.a, .int .i64 g.back.b, .int .i64 g.lost]
def GrH.val (g : GrH) : GrC := ⟨g.L.map StH.x, g.pin, g.back, g.lost⟩
structure GrH.In (w : World) (B : Nat) (g : GrH) : Prop where
  sts : StsIn w B g.A g.n g.L
  n : g.n ≤ 1000000
  A : g.A = none → g.n = 0
def grs (L : List GrH) : List Value := L.flatMap GrH.cells
theorem grs_len (L : List GrH) : (grs L).length = L.length * 8 := by
  induction L with
  | nil => rfl
  | cons r l ih => simp only [grs, List.flatMap_cons, List.length_append] at *; rw [ih]; simp [GrH.cells]; omega
theorem grs_append (a b : List GrH) : grs (a ++ b) = grs a ++ grs b := by simp [grs]
theorem grs_one (l : List GrH) : ∀ u ∈ grs l, u.oneCell' = true := by
  intro u hu
  obtain ⟨r, _, hr⟩ := List.mem_flatMap.1 hu
  simp only [GrH.cells, List.mem_cons, List.not_mem_nil, or_false] at hr
  rcases hr with rfl | rfl | rfl | rfl | rfl | rfl | rfl | rfl <;> rfl
def GrsIn (w : World) (B : Nat) (A : Option Addr) (n : Nat) (L : List GrH) : Prop := Rd w B 8 A n (grs L) ∧ ∀ g ∈ L, g.In w B
section
variable {w w' : World} {B B' n bt : Nat} {A : Option Addr} {L : List GrH} {g : GrH}
theorem GrH.In.below (h : g.In w B) (hb : Below B w w') : g.In w' B := ⟨h.sts.below hb, h.n, h.A⟩
theorem GrH.In.more (h : g.In w B) (hb : B ≤ B') : g.In w B' := ⟨h.sts.more hb, h.n, h.A⟩
theorem GrH.In.ext (h : g.In w w.heap.size) (hb : Below w.heap.size w w') : g.In w' w'.heap.size := (h.below hb).more hb.size
theorem GrsIn.len (h : GrsIn w B A n L) : L.length = n := by
  have := h.1.1
  rw [grs_len] at this
  omega
theorem GrsIn.below (h : GrsIn w B A n L) (hb : Below B w w') : GrsIn w' B A n L := ⟨h.1.below hb, fun x hx => (h.2 x hx).below hb⟩
theorem GrsIn.more (h : GrsIn w B A n L) (hb : B ≤ B') : GrsIn w B' A n L := ⟨h.1.more hb, fun x hx => (h.2 x hx).more hb⟩
theorem GrsIn.ext (h : GrsIn w w.heap.size A n L) (hb : Below w.heap.size w w') : GrsIn w' w'.heap.size A n L := (h.below hb).more hb.size
theorem GrsIn.at_ {k : Nat} (h : GrsIn w B A n L) (hx : L[k]? = some g) : g.In w B ∧ ∃ b o, A = some ⟨b, o, none⟩ ∧ b < B ∧ ∀ i, i < 8 → w.cell? ⟨b, o + k * 8 + i, none⟩ = g.cells[i]? :=
  ⟨h.2 g (List.mem_of_getElem? hx), h.1.el GrH.cells (fun _ => rfl) h.len hx⟩
end

/-- a map as it lies -/
structure MapAt (w : World) (B : Nat) (A : Option Addr) (n : Nat) (l : List Rg) : Prop where
  rd : Rd w B 3 A n (rgs l)
  n : n ≤ 1000
section
variable {w w' : World} {B B' n bt : Nat} {A : Option Addr} {l : List Rg}
theorem MapAt.below (h : MapAt w B A n l) (hb : Below B w w') : MapAt w' B A n l := ⟨h.rd.below hb, h.n⟩
theorem MapAt.more (h : MapAt w B A n l) (hb : B ≤ B') : MapAt w B' A n l := ⟨h.rd.more hb, h.n⟩
theorem MapAt.grown (h : MapAt w B A n l) (hg : w.grownBy w' (some bt)) (hA : n = 0 ∨ Off bt A) (hB : B ≤ w.heap.size) : MapAt w' B A n l := ⟨h.rd.grown hg hA hB, h.n⟩
end
/-- links as they lie; none of it in block bt -/
def LinkAt (w : World) (B bt : Nat) : Nat → List Rg → List Lk → Prop
  | b, m, [] => b < B ∧ ∃ A n c v, Bk w b 63 #[v, .slice A n c, .bool false, .pointer none] ∧ MapAt w B A n m ∧ (n = 0 ∨ Off bt A)
  | b, m, k :: ks => b < B ∧ ∃ A n c A' n' c' b', Bk w b 63 #[.slice A n c, .slice A' n' c', .bool k.kept, .pointer (some ⟨b', 0, none⟩)] ∧ MapAt w B A n k.back ∧ MapAt w B A' n' k.over ∧ (n = 0 ∨ Off bt A) ∧ (n' = 0 ∨ Off bt A') ∧ LinkAt w B bt b' m ks
section
variable {w w' : World} {B B' bt : Nat} {m : List Rg}
theorem LinkAt.lt {b : Nat} {ks : List Lk} (h : LinkAt w B bt b m ks) : b < B := by
  cases ks <;> exact h.1
theorem LinkAt.below {b : Nat} {ks : List Lk} (h : LinkAt w B bt b m ks) (hb : Below B w w') : LinkAt w' B bt b m ks := by
  induction ks generalizing b with
  | nil =>
    obtain ⟨h1, A, n, c, v, h2, h3, h4⟩ := h
    exact ⟨h1, A, n, c, v, (hb.block b h1).trans h2, h3.below hb, h4⟩
  | cons k ks ih =>
    obtain ⟨h1, A, n, c, A', n', c', b', h2, h3, h4, h5, h6, h7⟩ := h
    exact ⟨h1, A, n, c, A', n', c', b', (hb.block b h1).trans h2, h3.below hb, h4.below hb, h5, h6, ih h7⟩
theorem LinkAt.more {b : Nat} {ks : List Lk} (h : LinkAt w B bt b m ks) (hb : B ≤ B') : LinkAt w B' bt b m ks := by
  induction ks generalizing b with
  | nil =>
    obtain ⟨h1, A, n, c, v, h2, h3, h4⟩ := h
    exact ⟨by omega, A, n, c, v, h2, h3.more hb, h4⟩
  | cons k ks ih =>
    obtain ⟨h1, A, n, c, A', n', c', b', h2, h3, h4, h5, h6, h7⟩ := h
    exact ⟨by omega, A, n, c, A', n', c', b', h2, h3.more hb, h4.more hb, h5, h6, ih h7⟩
theorem LinkAt.ext {b : Nat} {ks : List Lk} (h : LinkAt w w.heap.size bt b m ks) (hb : Below w.heap.size w w') : LinkAt w' w'.heap.size bt b m ks := (h.below hb).more hb.size
theorem LinkAt.grown {b : Nat} {ks : List Lk} (h : LinkAt w B bt b m ks) (hg : w.grownBy w' (some bt)) {t : TypeId} {cs : Array Value} (hk : Bk w bt t cs) (ht : t ≠ 63) (hB : B ≤ w.heap.size) : LinkAt w' B bt b m ks := by
  have hne : ∀ {x : Nat} {cs' : Array Value}, Bk w x 63 cs' → some bt ≠ some x := by
    intro x cs' hx e
    injection e with e
    subst e
    have hx' : w.heap[bt]? = some (.cells cs' 63 (0, 0)) := hx
    have hk' : w.heap[bt]? = some (.cells cs t (0, 0)) := hk
    rw [hk'] at hx'
    injection hx' with hx'
    injection hx' with _ e2
    exact ht e2
  induction ks generalizing b with
  | nil =>
    obtain ⟨h1, A, n, c, v, h2, h3, h4⟩ := h
    exact ⟨h1, A, n, c, v, h2.grown hg (hne h2), h3.grown hg h4 hB, h4⟩
  | cons k ks ih =>
    obtain ⟨h1, A, n, c, A', n', c', b', h2, h3, h4, h5, h6, h7⟩ := h
    exact ⟨h1, A, n, c, A', n', c', b', h2.grown hg (hne h2), h3.grown hg h5 hB, h4.grown hg h6 hB, h5, h6, ih h7⟩
end
end Go.Proofs.Ytmacfoebfpljoaa
