/- merged texts: Cb Craw Cfw Qj Qo Cop Lop -/
import Derived.Test.YtmacfoebfpljoaaGreatMa19
import Derived.Test.YtmacfoebfpljoaaGreatMa1
import Derived.Test.YtmacfoebfpljoaaGreatMa8
import Derived.Test.YtmacfoebfpljoaaGreatMa12
import Derived.Test.YtmacfoebfpljoaaGreatMa14
set_option maxRecDepth 100000
set_option maxHeartbeats 16000000
namespace Go.Proofs.YtmacfoebfpljoaaGreat
open Go.RowKit
/-- a slice doesn't lie in block bt -/
def Off (bt : Nat) (A : Option Addr) : Prop := ∀ a, A = some a → a.block ≠ bt
theorem Off.of_own {w : World} {base : Nat} {e : TypeId} {size : Nat} {A : Option Addr} {c n m bt : Nat} {xs : List Value} (h : w.ownsRow base e size (.slice A n c) m xs) (hb : bt < base) : Off bt A := by
 rintro a rfl
 have := own_ge h a.block rfl
 omega
theorem Rd.grown {w w' : World} {B size n bt : Nat} {A : Option Addr} {xs : List Value} (h : Rd w B size A n xs) (hg : w.grownBy w' (some bt)) (hA : n = 0 ∨ Off bt A) (hB : B ≤ w.heap.size) : Rd w' B size A n xs := by
 refine ⟨h.1, fun hn => ?_⟩
 obtain ⟨b, o, e, hb, hc⟩ := h.2 hn
 refine ⟨b, o, e, hb, fun j u hu => ?_⟩
 have hne : b ≠ bt := by
  rcases hA with hA | hA
  ·omega
  ·exact hA _ e
 exact (World.cell?_of_block (a := ⟨b, o + j, none⟩) (hg.block b (by omega) (fun e => hne (by injection e)))).trans (hc j u hu)
/-- a step as it lies -/
structure StH where
 A : Option Addr
 n : Nat
 c : Nat
 A' : Option Addr
 n' : Nat
 c' : Nat
 x : StC
deriving Inhabited
def StH.cells (s : StH) : List Value := [.int .i64 s.x.k, .int .i64 s.x.f, .int .i64 s.x.t, .int .i64 s.x.g, .int .i64 s.x.h, .int .i64 s.x.i, .int .i64 s.x.m, .int .i64 s.x.v, .slice s.A s.n s.c, .slice s.A' s.n' s.c']
/-- what a step's lists are -/
structure StH.In (w : World) (B : Nat) (s : StH) : Prop where
 rd : Rd w B 12 s.A s.n (toks s.x.sl)
 rd' : Rd w B 8 s.A' s.n' (mks s.x.st)
 n : s.n ≤ 1000000
 n' : s.n' ≤ 1000000
 A : s.A = none → s.n = 0
 A' : s.A' = none → s.n' = 0
/-- its lists don't lie in block bt -/
def StH.Off (bt : Nat) (s : StH) : Prop := (s.n = 0 ∨ Go.Proofs.YtmacfoebfpljoaaGreat.Off bt s.A) ∧ (s.n' = 0 ∨ Go.Proofs.YtmacfoebfpljoaaGreat.Off bt s.A')
def sts (L : List StH) : List Value := L.flatMap StH.cells
theorem sts_len (L : List StH) : (sts L).length = L.length * 10 := by
 induction L with
 | nil => rfl
 | cons r l ih => simp only [sts, List.flatMap_cons, List.length_append] at *; rw [ih]; simp [StH.cells]; omega
/-- steps as they lie -/
def StsIn (w : World) (B : Nat) (A : Option Addr) (n : Nat) (L : List StH) : Prop := Rd w B 10 A n (sts L) ∧ ∀ s ∈ L, s.In w B
section
variable {w w' : World} {B B' n bt : Nat} {A : Option Addr} {L : List StH} {s : StH}
theorem StH.In.len (h : s.In w B) : s.x.sl.length = s.n := h.rd.tlen
theorem StH.In.below (h : s.In w B) (hb : Below B w w') : s.In w' B := ⟨h.rd.below hb, h.rd'.below hb, h.n, h.n', h.A, h.A'⟩
theorem StH.In.more (h : s.In w B) (hb : B ≤ B') : s.In w B' := ⟨h.rd.more hb, h.rd'.more hb, h.n, h.n', h.A, h.A'⟩
theorem StH.In.ext (h : s.In w w.heap.size) (hb : Below w.heap.size w w') : s.In w' w'.heap.size := (h.below hb).more hb.size
theorem StH.In.grown (h : s.In w B) (hg : w.grownBy w' (some bt)) (ho : s.Off bt) (hB : B ≤ w.heap.size) : s.In w' B := ⟨h.rd.grown hg ho.1 hB, h.rd'.grown hg ho.2 hB, h.n, h.n', h.A, h.A'⟩
theorem StsIn.len (h : StsIn w B A n L) : L.length = n := by
 have := h.1.1
 rw [sts_len] at this
 omega
theorem StsIn.below (h : StsIn w B A n L) (hb : Below B w w') : StsIn w' B A n L := ⟨h.1.below hb, fun x hx => (h.2 x hx).below hb⟩
theorem StsIn.more (h : StsIn w B A n L) (hb : B ≤ B') : StsIn w B' A n L := ⟨h.1.more hb, fun x hx => (h.2 x hx).more hb⟩
theorem StsIn.ext (h : StsIn w w.heap.size A n L) (hb : Below w.heap.size w w') : StsIn w' w'.heap.size A n L := (h.below hb).more hb.size
theorem StsIn.at_ {k : Nat} (h : StsIn w B A n L) (hx : L[k]? = some s) : s.In w B ∧ ∃ b o, A = some ⟨b, o, none⟩ ∧ b < B ∧ ∀ i, i < 10 → w.cell? ⟨b, o + k * 10 + i, none⟩ = s.cells[i]? :=
 ⟨h.2 s (List.mem_of_getElem? hx), h.1.el StH.cells (fun _ => rfl) h.len hx⟩
theorem StsIn.nil_ (w : World) (B : Nat) (A : Option Addr) : StsIn w B A 0 [] := ⟨Rd.nil_ _ _ _ _, fun _ h => by cases h⟩
end
/-- a group as it lies -/
structure GrH where
 A : Option Addr
 n : Nat
 c : Nat
 L : List StH
 pin : Pn
 back : Pn
 lost : Int
deriving Inhabited
def GrH.cells (g : GrH) : List Value := [.slice g.A g.n g.c, .int .i64 g.pin.k, .int .i64 g.pin.a, .int .i64 g.pin.b, .int .i64 g.back.k, .int .i64 g.back.a, .int .i64 g.back.b, .int .i64 g.lost]
def GrH.val (g : GrH) : GrC := ⟨g.L.map StH.x, g.pin, g.back, g.lost⟩
structure GrH.In (w : World) (B : Nat) (g : GrH) : Prop where
 sts : StsIn w B g.A g.n g.L
 n : g.n ≤ 1000000
 A : g.A = none → g.n = 0
def grs (L : List GrH) : List Value := L.flatMap GrH.cells
theorem grs_len (L : List GrH) : (grs L).length = L.length * 8 := by
 induction L with
 | nil => rfl
 | cons r l ih => simp only [grs, List.flatMap_cons, List.length_append] at *; rw [ih]; simp [GrH.cells]; omega
def GrsIn (w : World) (B : Nat) (A : Option Addr) (n : Nat) (L : List GrH) : Prop := Rd w B 8 A n (grs L) ∧ ∀ g ∈ L, g.In w B
section
variable {w w' : World} {B B' n bt : Nat} {A : Option Addr} {L : List GrH} {g : GrH}
theorem GrH.In.below (h : g.In w B) (hb : Below B w w') : g.In w' B := ⟨h.sts.below hb, h.n, h.A⟩
theorem GrH.In.more (h : g.In w B) (hb : B ≤ B') : g.In w B' := ⟨h.sts.more hb, h.n, h.A⟩
theorem GrH.In.ext (h : g.In w w.heap.size) (hb : Below w.heap.size w w') : g.In w' w'.heap.size := (h.below hb).more hb.size
theorem GrsIn.len (h : GrsIn w B A n L) : L.length = n := by
 have := h.1.1
 rw [grs_len] at this
 omega
theorem GrsIn.below (h : GrsIn w B A n L) (hb : Below B w w') : GrsIn w' B A n L := ⟨h.1.below hb, fun x hx => (h.2 x hx).below hb⟩
theorem GrsIn.more (h : GrsIn w B A n L) (hb : B ≤ B') : GrsIn w B' A n L := ⟨h.1.more hb, fun x hx => (h.2 x hx).more hb⟩
theorem GrsIn.ext (h : GrsIn w w.heap.size A n L) (hb : Below w.heap.size w w') : GrsIn w' w'.heap.size A n L := (h.below hb).more hb.size
theorem GrsIn.at_ {k : Nat} (h : GrsIn w B A n L) (hx : L[k]? = some g) : g.In w B ∧ ∃ b o, A = some ⟨b, o, none⟩ ∧ b < B ∧ ∀ i, i < 8 → w.cell? ⟨b, o + k * 8 + i, none⟩ = g.cells[i]? :=
 ⟨h.2 g (List.mem_of_getElem? hx), h.1.el GrH.cells (fun _ => rfl) h.len hx⟩
end
/-- a map as it lies -/
structure MapAt (w : World) (B : Nat) (A : Option Addr) (n : Nat) (l : List Rg) : Prop where
 rd : Rd w B 3 A n (rgs l)
 n : n ≤ 1000
section
variable {w w' : World} {B B' n bt : Nat} {A : Option Addr} {l : List Rg}
theorem MapAt.below (h : MapAt w B A n l) (hb : Below B w w') : MapAt w' B A n l := ⟨h.rd.below hb, h.n⟩
theorem MapAt.more (h : MapAt w B A n l) (hb : B ≤ B') : MapAt w B' A n l := ⟨h.rd.more hb, h.n⟩
theorem MapAt.grown (h : MapAt w B A n l) (hg : w.grownBy w' (some bt)) (hA : n = 0 ∨ Off bt A) (hB : B ≤ w.heap.size) : MapAt w' B A n l := ⟨h.rd.grown hg hA hB, h.n⟩
end
/-- links as they lie; none of it in block bt -/
def LinkAt (w : World) (B bt : Nat) : Nat → List Rg → List Lk → Prop
 | b, m, [] => b < B ∧ ∃ A n c v, Bk w b 291 #[v, .slice A n c, .bool false, .pointer none] ∧ MapAt w B A n m ∧ (n = 0 ∨ Off bt A)
 | b, m, k :: ks => b < B ∧ ∃ A n c A' n' c' b', Bk w b 291 #[.slice A n c, .slice A' n' c', .bool k.kept, .pointer (some ⟨b', 0, none⟩)] ∧ MapAt w B A n k.back ∧ MapAt w B A' n' k.over ∧ (n = 0 ∨ Off bt A) ∧ (n' = 0 ∨ Off bt A') ∧ LinkAt w B bt b' m ks
section
variable {w w' : World} {B B' bt : Nat} {m : List Rg}
theorem LinkAt.lt {b : Nat} {ks : List Lk} (h : LinkAt w B bt b m ks) : b < B := by
 cases ks <;> exact h.1
theorem LinkAt.below {b : Nat} {ks : List Lk} (h : LinkAt w B bt b m ks) (hb : Below B w w') : LinkAt w' B bt b m ks := by
 induction ks generalizing b with
 | nil =>
   obtain ⟨h1, A, n, c, v, h2, h3, h4⟩ := h
   exact ⟨h1, A, n, c, v, (hb.block b h1).trans h2, h3.below hb, h4⟩
 | cons k ks ih =>
   obtain ⟨h1, A, n, c, A', n', c', b', h2, h3, h4, h5, h6, h7⟩ := h
   exact ⟨h1, A, n, c, A', n', c', b', (hb.block b h1).trans h2, h3.below hb, h4.below hb, h5, h6, ih h7⟩
theorem LinkAt.more {b : Nat} {ks : List Lk} (h : LinkAt w B bt b m ks) (hb : B ≤ B') : LinkAt w B' bt b m ks := by
 induction ks generalizing b with
 | nil =>
   obtain ⟨h1, A, n, c, v, h2, h3, h4⟩ := h
   exact ⟨by omega, A, n, c, v, h2, h3.more hb, h4⟩
 | cons k ks ih =>
   obtain ⟨h1, A, n, c, A', n', c', b', h2, h3, h4, h5, h6, h7⟩ := h
   exact ⟨by omega, A, n, c, A', n', c', b', h2, h3.more hb, h4.more hb, h5, h6, ih h7⟩
theorem LinkAt.ext {b : Nat} {ks : List Lk} (h : LinkAt w w.heap.size bt b m ks) (hb : Below w.heap.size w w') : LinkAt w' w'.heap.size bt b m ks := (h.below hb).more hb.size
theorem LinkAt.grown {b : Nat} {ks : List Lk} (h : LinkAt w B bt b m ks) (hg : w.grownBy w' (some bt)) {t : TypeId} {cs : Array Value} (hk : Bk w bt t cs) (ht : t ≠ 291) (hB : B ≤ w.heap.size) : LinkAt w' B bt b m ks := by
 have hne : ∀ {x : Nat} {cs' : Array Value}, Bk w x 291 cs' → some bt ≠ some x := by
  intro x cs' hx e
  injection e with e
  subst e
  have hx' : w.heap[bt]? = some (.cells cs' 291 (0, 0)) := hx
  have hk' : w.heap[bt]? = some (.cells cs t (0, 0)) := hk
  rw [hk'] at hx'
  injection hx' with hx'
  injection hx' with _ e2
  exact ht e2
 induction ks generalizing b with
 | nil =>
   obtain ⟨h1, A, n, c, v, h2, h3, h4⟩ := h
   exact ⟨h1, A, n, c, v, h2.grown hg (hne h2), h3.grown hg h4 hB, h4⟩
 | cons k ks ih =>
   obtain ⟨h1, A, n, c, A', n', c', b', h2, h3, h4, h5, h6, h7⟩ := h
   exact ⟨h1, A, n, c, A', n', c', b', h2.grown hg (hne h2), h3.grown hg h5 hB, h4.grown hg h6 hB, h5, h6, ih h7⟩
end
/-- what a step's lists are, of any size -/
structure StH.Raw (w : World) (B : Nat) (s : StH) : Prop where
 rd : Rd w B 12 s.A s.n (toks s.x.sl)
 rd' : Rd w B 8 s.A' s.n' (mks s.x.st)
 n : s.n ≤ maxLen
 n' : s.n' ≤ maxLen
 A : s.A = none → s.n = 0
 A' : s.A' = none → s.n' = 0
def StsRaw (w : World) (B : Nat) (A : Option Addr) (n : Nat) (L : List StH) : Prop := Rd w B 10 A n (sts L) ∧ ∀ s ∈ L, s.Raw w B
structure GrH.Raw (w : World) (B : Nat) (g : GrH) : Prop where
 sts : StsRaw w B g.A g.n g.L
 n : g.n ≤ maxLen
 A : g.A = none → g.n = 0
 lost : -9223372036854775808 ≤ g.lost ∧ g.lost ≤ 9223372036854775807
def GrsRaw (w : World) (B : Nat) (A : Option Addr) (n : Nat) (L : List GrH) : Prop := Rd w B 8 A n (grs L) ∧ ∀ g ∈ L, g.Raw w B
section
variable {w w' : World} {B B' n : Nat} {A : Option Addr} {L : List StH} {s : StH}
theorem StH.Raw.below (h : s.Raw w B) (hb : Below B w w') : s.Raw w' B := ⟨h.rd.below hb, h.rd'.below hb, h.n, h.n', h.A, h.A'⟩
theorem StH.Raw.more (h : s.Raw w B) (hb : B ≤ B') : s.Raw w B' := ⟨h.rd.more hb, h.rd'.more hb, h.n, h.n', h.A, h.A'⟩
theorem StH.Raw.in_ (h : s.Raw w B) (h1 : s.n ≤ 1000000) (h2 : s.n' ≤ 1000000) : s.In w B := ⟨h.rd, h.rd', h1, h2, h.A, h.A'⟩
theorem StsRaw.below (h : StsRaw w B A n L) (hb : Below B w w') : StsRaw w' B A n L := ⟨h.1.below hb, fun x hx => (h.2 x hx).below hb⟩
theorem StsRaw.more (h : StsRaw w B A n L) (hb : B ≤ B') : StsRaw w B' A n L := ⟨h.1.more hb, fun x hx => (h.2 x hx).more hb⟩
theorem StsRaw.len (h : StsRaw w B A n L) : L.length = n := by
 have := h.1.1
 rw [sts_len] at this
 omega
theorem StsRaw.at_ {k : Nat} (h : StsRaw w B A n L) (hx : L[k]? = some s) : s.Raw w B ∧ ∃ b o, A = some ⟨b, o, none⟩ ∧ b < B ∧ ∀ i, i < 10 → w.cell? ⟨b, o + k * 10 + i, none⟩ = s.cells[i]? :=
 ⟨h.2 s (List.mem_of_getElem? hx), h.1.el StH.cells (fun _ => rfl) h.len hx⟩
theorem StsRaw.in_ (h : StsRaw w B A n L) (h1 : ∀ s ∈ L, s.n ≤ 1000000 ∧ s.n' ≤ 1000000) : StsIn w B A n L := ⟨h.1, fun s hs => (h.2 s hs).in_ (h1 s hs).1 (h1 s hs).2⟩
end
section
variable {w w' : World} {B B' n : Nat} {A : Option Addr} {L : List GrH} {g : GrH}
theorem GrH.Raw.below (h : g.Raw w B) (hb : Below B w w') : g.Raw w' B := ⟨h.sts.below hb, h.n, h.A, h.lost⟩
theorem GrH.Raw.more (h : g.Raw w B) (hb : B ≤ B') : g.Raw w B' := ⟨h.sts.more hb, h.n, h.A, h.lost⟩
theorem GrsRaw.below (h : GrsRaw w B A n L) (hb : Below B w w') : GrsRaw w' B A n L := ⟨h.1.below hb, fun x hx => (h.2 x hx).below hb⟩
theorem GrsRaw.more (h : GrsRaw w B A n L) (hb : B ≤ B') : GrsRaw w B' A n L := ⟨h.1.more hb, fun x hx => (h.2 x hx).more hb⟩
theorem GrsRaw.len (h : GrsRaw w B A n L) : L.length = n := by
 have := h.1.1
 rw [grs_len] at this
 omega
theorem GrsRaw.at_ {k : Nat} (h : GrsRaw w B A n L) (hx : L[k]? = some g) : g.Raw w B ∧ ∃ b o, A = some ⟨b, o, none⟩ ∧ b < B ∧ ∀ i, i < 8 → w.cell? ⟨b, o + k * 8 + i, none⟩ = g.cells[i]? :=
 ⟨h.2 g (List.mem_of_getElem? hx), h.1.el GrH.cells (fun _ => rfl) h.len hx⟩
/-- small enough to be gone through -/
def Small (L : List GrH) : Prop := ∀ g ∈ L, g.n ≤ 20 ∧ ∀ s ∈ g.L, s.n ≤ 60 ∧ s.n' ≤ 150
theorem GrsRaw.in_ (h : GrsRaw w B A n L) (h1 : Small L) : GrsIn w B A n L := ⟨h.1, fun g hg => ⟨(h.2 g hg).sts.in_ (fun s hs => by have := (h1 g hg).2 s hs; omega), by have := (h1 g hg).1; omega, (h.2 g hg).A⟩⟩
end
theorem few25_any (k f t g h i m v : Int) (A A' : Option Addr) (n n' c c' : Nat) (w : World) :
 Calls Tryz.prog 18 #[.agg #[.int .i64 k, .int .i64 f, .int .i64 t, .int .i64 g, .int .i64 h, .int .i64 i, .int .i64 m, .int .i64 v, .slice A n c, .slice A' n' c']] w fun e w' => e = .returned (.bool (decide (n ≤ 60 ∧ n' ≤ 150))) ∧ Below w.heap.size w w' := by
 go_enter Tryz.func18, Tryz.ntmps18
 go_wp2
 all_goals go_ret
 all_goals exact ⟨ret_bool (by rw [Bool.eq_iff_iff]; simp; try omega), belowA⟩
/-- a Boolean comes out; if it is true, so is P -/
def SaysIf (P : Prop) (w : World) (e : Ending) (w' : World) : Prop := ∃ b : Bool, e = .returned (.bool b) ∧ (b = true → P) ∧ Below w.heap.size w w'
def SmallS (L : List StH) : Prop := ∀ s ∈ L, s.n ≤ 60 ∧ s.n' ≤ 150
theorem small_take {L : List StH} {q : Nat} {s : StH} (h : SmallS (L.take q)) (hx : L[q]? = some s) (h1 : s.n ≤ 60 ∧ s.n' ≤ 150) : SmallS (L.take (q + 1)) := by
 intro y hy
 rw [List.take_add_one, hx] at hy
 rcases List.mem_append.1 hy with hy | hy
 ·exact h y hy
 ·simp at hy; subst hy; exact h1
theorem few27_any (A : Option Addr) (n c : Nat) (L : List StH) (w : World) (h : StsRaw w w.heap.size A n L) (hn : n ≤ maxLen) :
 Calls Tryz.prog 9 #[.slice A n c] w (SaysIf (n ≤ 20 ∧ SmallS L) w) := by
 have hlen := h.len
 have H := Lib.hid h
 have HLEN := Lib.hid hlen
 clear h hlen
 unfold maxLen at hn
 go_enter Tryz.func9, Tryz.ntmps9
 go_wp2
 go_loopw [3] (fun j wr => ∃ q : Nat, q ≤ n ∧ q ≤ 20 ∧ j = .int .i64 q ∧ Hid (SmallS (L.take q)) ∧ Below w.heap.size w wr) (fun j _ => n - (intOf j).toNat)
 case atStart => exact ⟨0, by omega, by omega, rfl, Lib.hid (fun s hs => by simp at hs), Below.refl _ _⟩
 case round =>
  obtain ⟨q, hq, hq20, rfl, hsm, hbr⟩ := hrel
  by_cases hqn : q < n
  ·have e1 : (q : Int) < n := by omega
   by_cases h20 : q < 20
   ·have e2 : (q : Int) < 20 := by omega
    obtain ⟨s, hx⟩ : ∃ s, L[q]? = some s := ⟨_, List.getElem?_eq_getElem (by have := HLEN.out; omega)⟩
    obtain ⟨sin, b, o, rfl, hb, hcc⟩ := StsRaw.at_ (H.out.below hbr) hx
    obtain ⟨sA, sn, sc, sA', sn', sc', ⟨xk, xf, xt, xg, xh, xi, xm, xv, xsl, xst⟩⟩ := s
    have c0 := hcc 0 (by omega); have c1 := hcc 1 (by omega); have c2 := hcc 2 (by omega); have c3 := hcc 3 (by omega); have c4 := hcc 4 (by omega); have c5 := hcc 5 (by omega); have c6 := hcc 6 (by omega); have c7 := hcc 7 (by omega); have c8 := hcc 8 (by omega); have c9 := hcc 9 (by omega)
    dsimp [StH.cells] at c0 c1 c2 c3 c4 c5 c6 c7 c8 c9
    have hfw := few25_any xk xf xt xg xh xi xm xv sA sA' sn sn' sc sc' wr
    have HX := Lib.hid hx
    clear hx hcc sin
    cases hfe : decide (sn ≤ 60 ∧ sn' ≤ 150) with
    | false =>
      rw [hfe] at hfw
      have HFW := Lib.hid hfw
      clear hfw hfe
      go_wp2_with (go_at_call 18; (refine HFW.out.mono ?_); rintro e w1 ⟨rfl, hb1⟩)
      go_ret
      exact ⟨false, rfl, fun h => (by cases h), hbr.trans (hb1.mono hbr.size)⟩
    | true =>
      rw [hfe] at hfw
      have HFW := Lib.hid hfw
      have hfe := Lib.hid (of_decide_eq_true hfe)
      clear hfw
      go_wp2_with (go_at_call 18; (refine HFW.out.mono ?_); rintro e w1 ⟨rfl, hb1⟩)
      go_roundw
      case rel => exact ⟨q + 1, by omega, by omega, by go_num, Lib.hid (small_take hsm.out HX.out hfe.out), hbr.trans (hb1.mono hbr.size)⟩
      case measure => simp [intOf]; omega
   ·obtain rfl : q = 20 := by omega
    have e3 : ¬ (n : Int) ≤ 20 := by omega
    go_wp2
    go_ret
    exact ⟨false, rfl, fun h => (by cases h), hbr⟩
  ·obtain rfl : q = n := by omega
   have e3 : (q : Int) ≤ 20 := by omega
   go_wp2
   go_ret
   refine ⟨true, rfl, fun _ => ⟨by omega, ?_⟩, hbr⟩
   have := hsm.out
   rwa [List.take_of_length_le (by rw [HLEN.out]; omega)] at this
/-- the eight cells of a group -/
abbrev grp (v : Value) (pk pa pb bk ba bb lost : Int) : Array Value := #[v, .int .i64 pk, .int .i64 pa, .int .i64 pb, .int .i64 bk, .int .i64 ba, .int .i64 bb, .int .i64 lost]
theorem GrsRaw.ext {w w' : World} {n : Nat} {A : Option Addr} {L : List GrH} (h : GrsRaw w w.heap.size A n L) (hb : Below w.heap.size w w') : GrsRaw w' w'.heap.size A n L := ⟨(h.1.below hb).more hb.size, fun g hg => ⟨((h.2 g hg).sts.below hb).more hb.size, (h.2 g hg).n, (h.2 g hg).A, (h.2 g hg).lost⟩⟩
end Go.Proofs.YtmacfoebfpljoaaGreat
namespace Go.Proofs.YtmacfoebfpljoaaGreat
open Go.RowKit
set_option linter.unusedVariables false
/-- between two rounds: the ledger, and the tokens as they are now -/
structure FwI (w1 : World) (g mb j : Nat) (sv : Value) (nx : Int) (el : List EH) (D : List Tok) (u : Value) (W : World) : Prop where
 ld : LdN j w1.heap.size g mb 0 sv nx el D W
 now : DocAt g mb sv el (.slice none 0 0) W u D
 b : Below w1.heap.size w1 W
 sz : D.length ≤ 200
section
variable {w1 W W' : World} {g mb j : Nat} {sv : Value} {nx : Int} {el : List EH} {D : List Tok} {u : Value}
theorem FwI.below (h : FwI w1 g mb j sv nx el D u W) (hb : Below W.heap.size W W') : FwI w1 g mb j sv nx el D u W' :=
 ⟨h.ld.below hb, h.now.below hb, h.b.trans (hb.mono h.b.size), h.sz⟩
/-- tokens that none of the ledger's blocks holds -/
theorem docAt_new {A : Option Addr} {n c : Nat} (hr : Rd W W.heap.size 12 A n (toks D)) (hnc : n ≤ c) (hA : A = none → n = 0) (hn : 0 < n → ∀ a, A = some a → ¬ LdIn.Mine g mb sv el a.block) : DocAt g mb sv el (.slice none 0 0) W (.slice A n c) D :=
 ⟨A, n, c, rfl, hr, hnc, hA, fun h0 a e => ⟨hn h0 a e, by simp [Value.ownBlock]⟩⟩
/-- a step is done -/
theorem FwI.step {W4 W5 : World} {D' : List Tok} {A : Option Addr} {n c kd f t gp hp i : Nat} {sl : List Tok} {ev : Int} {e : Ending} (h : FwI w1 g mb j sv nx el D u W) (hb4 : Below W.heap.size W W4) (hr : Rd W4 W4.heap.size 12 A n (toks D')) (hnc : n ≤ c) (hA : A = none → n = 0) (hnew : ∀ a, A = some a → W.heap.size ≤ a.block) (hn : n ≤ 200)
 (hd : LdNStep j w1.heap.size g mb 0 sv el nx kd f t gp hp i sl ev D' W4 e W5) : ∃ sv' nx' el', FwI w1 g mb (j + 1) sv' nx' el' D' (.slice A n c) W5 ∧ Owns g mb sv el sv' el' W4 W5 ∧ el'.map EH.e = stepE (fun _ => false) kd f t gp hp i sl ev nx D' (el.map EH.e) := by
 obtain ⟨-, sv', nx', el', hL, ho, hm⟩ := hd
 have h4 := h.below hb4
 refine ⟨sv', nx', el', ⟨hL, ?_, h4.b.trans (ho.below h4.ld.in_ h4.b.size), by rw [hr.tlen]; exact hn⟩, ho, hm⟩
 exact (docAt_new hr hnc hA (fun _ a e hm => by
  have := h.ld.in_.mine_lt hm
  have := hnew a e
  omega)).owns ho
end
theorem bd_mod (q : Nat) : Bd ((q : Int).tmod 5) := by
 rw [show (q : Int).tmod 5 = ((q % 5 : Nat) : Int) from (Int.ofNat_tmod q 5).symm ▸ rfl]
 unfold Bd
 omega
theorem fewer43_any (txt : ByteArray) (A SA EA : Option Addr) (n c sn sc en ec : Nat) (l : List Tok) (L : List StH) (zk zf zt zg zh zi zm zv : Int) (zA zA2 : Option Addr) (zn zc zn2 zc2 : Nat) (zl : List Tok) (zs : List Mk) (ev : List Int) (w : World) (htx : txt.size ≤ maxLen) (hr : Rd w w.heap.size 12 A n (toks l)) (hnc : n ≤ c) (hA : A = none → n = 0) (hnm : n ≤ maxLen) (hS : StsRaw w w.heap.size SA sn L) (hsc : ∀ s ∈ L, s.n ≤ s.c ∧ s.n' ≤ s.c') (hsn : sn ≤ maxLen)
 (hzl : Rd w w.heap.size 12 zA zn (toks zl)) (hzs : Rd w w.heap.size 8 zA2 zn2 (mks zs)) (hzn : zn ≤ maxLen) (hzn2 : zn2 ≤ maxLen) (hev : Rd w w.heap.size 1 EA en (its ev)) (hen : en ≤ maxLen) :
 Calls Tryz.prog 5 #[.string txt, .slice A n c, .slice SA sn sc, .agg #[.int .i64 zk, .int .i64 zf, .int .i64 zt, .int .i64 zg, .int .i64 zh, .int .i64 zi, .int .i64 zm, .int .i64 zv, .slice zA zn zc, .slice zA2 zn2 zc2], .slice EA en ec] w fun e w' => e = .returned (.bool true) ∧ Below w.heap.size w w' := by
 have hfew := fun W (hb : Below w.heap.size w W) => few27_any SA sn sc L W ((hS.below hb).more hb.size) hsn
 have hfewx := fun W => few25_any zk zf zt zg zh zi zm zv zA zA2 zn zn2 zc zc2 W
 have HFEW := Lib.hid hfew
 have HFEWX := Lib.hid hfewx
 have HR := Lib.hid hr
 have HS := Lib.hid hS
 have HSC := Lib.hid hsc
 have HA := Lib.hid hA
 have HZ := Lib.hid (And.intro hzl (And.intro hzs (And.intro hzn hzn2)))
 have HEV := Lib.hid (And.intro hev hen)
 unfold maxLen at hnm hsn hen
 clear hfew hfewx hr hS hsc hA hzl hzs hzn hzn2 hev
 go_enter Tryz.func5, Tryz.ntmps5
 go_upto_region 1 with fail
 have kx0 := Bk.new w 45 #[.int .i64 zk, .int .i64 zf, .int .i64 zt, .int .i64 zg, .int .i64 zh, .int .i64 zi, .int .i64 zm, .int .i64 zv, .slice zA zn zc, .slice zA2 zn2 zc2]
 have hb00 : Below w.heap.size w (w.alloc (.cells #[.int .i64 zk, .int .i64 zf, .int .i64 zt, .int .i64 zg, .int .i64 zh, .int .i64 zi, .int .i64 zm, .int .i64 zv, .slice zA zn zc, .slice zA2 zn2 zc2] 45)) := belowA
 generalize w.alloc (.cells #[.int .i64 zk, .int .i64 zf, .int .i64 zt, .int .i64 zg, .int .i64 zh, .int .i64 zi, .int .i64 zm, .int .i64 zv, .slice zA zn zc, .slice zA2 zn2 zc2] 45) = w0 at *
 have hlx := def_lt' kx0
 go_wp2_with (go_at_call 8; fail)
 refine (new11_any txt w0 htx).mono ?_
 rintro e w1 ⟨NA, MA, PA, TA, EA2, nn, nc', mn_, mc, pn, pc, tn, tc, en2, ec2, ns, ms, ps, bn, mg, er, rfl, hD, hX, hpl, hml, hb1⟩
 have hb01 : Below w.heap.size w w1 := hb00.trans (hb1.mono hb00.size)
 have kx1 := kx0.ext hb1
 have hsc1 : Sc w1 w0.heap.size (.slice NA nn nc') (.slice MA mn_ mc) (.slice PA pn pc) (.slice TA tn tc) (.slice EA2 en2 ec2) ns ms ps bn mg := ⟨hD, hX, hpl, hml⟩
 have ks1 := Bk.new w1 32 #[.slice NA nn nc', .slice MA mn_ mc, .slice PA pn pc, .slice TA tn tc, .slice EA2 en2 ec2]
 have hb2 : Below w1.heap.size w1 (w1.alloc (.cells #[.slice NA nn nc', .slice MA mn_ mc, .slice PA pn pc, .slice TA tn tc, .slice EA2 en2 ec2] 32)) := belowA
 have hb02 : Below w.heap.size w (w1.alloc (.cells #[.slice NA nn nc', .slice MA mn_ mc, .slice PA pn pc, .slice TA tn tc, .slice EA2 en2 ec2] 32)) := hb01.trans (hb2.mono hb01.size)
 have hsc2 := hsc1.below hb2
 have kx2 := kx1.ext hb2
 have HSC2 := Lib.hid hsc2
 clear hD hX hpl hml hsc1 hsc2 kx0 kx1
 by_cases her : er = 0
 ·have e1 : (er != 0) = false := by simp [her]
  clear her
  by_cases hn : n ≤ 100
  ·have e2 : ¬ (100 : Int) < n := by omega
   go_wp2_with (go_at_call 9; fail)
   generalize w1.alloc (.cells #[.slice NA nn nc', .slice MA mn_ mc, .slice PA pn pc, .slice TA tn tc, .slice EA2 en2 ec2] 32) = w2 at *
   refine (HFEW.out w2 hb02).mono ?_
   rintro e w3 ⟨fb, rfl, hfb, hb3⟩
   have hb03 : Below w.heap.size w w3 := hb02.trans (hb3.mono hb02.size)
   have ks3 := ks1.ext hb3
   have kx3 := kx2.ext hb3
   have hsc3 := HSC2.out.below hb3
   cases fb with
   | false =>
     go_wp2_with (go_at_call 19; (refine (live43_any _).mono ?_); rintro e w9 ⟨rfl, hb9⟩)
     go_ret
     exact ⟨rfl, hb03.trans (hb9.mono hb03.size)⟩
   | true =>
     obtain ⟨hs20, hsm⟩ := hfb rfl
     have HSM := Lib.hid hsm
     clear hsm hfb HFEW HSC2 ks1 kx2 hb2 hb3
     obtain ⟨x0, x1, x2, x3, x4, x5, x6, x7, x8, x9⟩ := bk10 kx3
     go_wp2_with (go_at_call 18; fail)
     refine (HFEWX.out w3).mono ?_
     rintro e w4 ⟨rfl, hb4⟩
     have hb04 : Below w.heap.size w w4 := hb03.trans (hb4.mono hb03.size)
     have ks4 := ks3.ext hb4
     have kx4 := kx3.ext hb4
     have hsc4 := hsc3.below hb4
     clear x0 x1 x2 x3 x4 x5 x6 x7 x8 x9 ks3 kx3 hb4 hsc3
     obtain ⟨fx, hfx⟩ : ∃ fx, fx = decide (zn ≤ 60 ∧ zn2 ≤ 150) := ⟨_, rfl⟩
     rw [← hfx]
     cases fx with
     | false =>
       clear hfx
       go_wp2_with (go_at_call 19; (refine (live43_any _).mono ?_); rintro e w9 ⟨rfl, hb9⟩)
       go_ret
       exact ⟨rfl, hb04.trans (hb9.mono hb04.size)⟩
     | true =>
       obtain ⟨hz60, hz150⟩ := of_decide_eq_true hfx.symm
       have HSC4 := Lib.hid hsc4
       clear hfx hsc4 HFEWX
       by_cases he10 : en ≤ 10
       ·have e3 : ¬ (10 : Int) < en := by omega
        go_wp2_with (go_at_call 11; fail)
        refine (ldn_new A n c l w4 ((HR.out.below hb04).more hb04.size) (by omega)).mono ?_
        rintro e w5 ⟨g, mb, sv, nx, el, rfl, hld, hb5, -, -⟩
        have hb05 : Below w.heap.size w w5 := hb04.trans (hb5.mono hb04.size)
        have hI0 : FwI w4 g mb 0 sv nx el l (.slice A n c) w5 :=
         ⟨hld, docAt_new ((HR.out.below hb05).more hb05.size) hnc HA.out (fun hn a e hm => by
          have q1 := DocAt.lt HR.out hn a e
          have q2 := hb04.size
          have := hld.in_.ge hm
          omega), hb5, by rw [HR.out.tlen]; omega⟩
        have HI0 := Lib.hid hI0
        clear hI0 hld hb5
        go_wp2
        go_loopw [14, 15, 16, 17] (fun u14 u15 u16 u17 wr => ∃ (q j : Nat) (sv : Value) (nx : Int) (el : List EH) (D : List Tok), q ≤ sn ∧ j ≤ q ∧ u15 = .int .i64 q ∧ Hid (FwI w4 g mb j sv nx el D u14 wr)) (fun _ u15 _ _ _ => sn - (intOf u15).toNat)
        case atStart => exact ⟨0, 0, sv, nx, el, l, by omega, by omega, rfl, HI0⟩
        case round =>
         obtain ⟨q, j, sv, nx, el, D, hq, hj, rfl, hI⟩ := hrel
         have hbr := hI.out.b
         have hb0r : Below w.heap.size w wr := hb04.trans (hbr.mono hb04.size)
         have ksr : Bk wr w1.heap.size 32 #[.slice NA nn nc', .slice MA mn_ mc, .slice PA pn pc, .slice TA tn tc, .slice EA2 en2 ec2] := ks4.ext hbr
         have kxr := kx4.ext hbr
         have hscr := HSC4.out.below hbr
         obtain ⟨dA, dn, dc', rfl, hdr, hdc, hdA, hdm⟩ := hI.out.now
         by_cases hqs : q < sn
         ·have e4 : (q : Int) < sn := by omega
          have hsr := (HS.out.below hb0r).more hb0r.size
          obtain ⟨st, hx⟩ : ∃ st, L[q]? = some st := ⟨_, List.getElem?_eq_getElem (by have := hsr.len; omega)⟩
          obtain ⟨hraw, b, o, rfl, hb1, hcc⟩ := hsr.at_ hx
          have hcap := HSC.out st (List.mem_of_getElem? hx)
          have hsmall := HSM.out st (List.mem_of_getElem? hx)
          obtain ⟨sA, sn1, sc1, sA2, sn2, sc2, ⟨xk, xf, xt, xg, xh, xi, xm, xv, sl, mk⟩⟩ := st
          have c0 : wr.cell? ⟨b, o + q * 10, none⟩ = _ := hcc 0 (by omega)
          have c1 : wr.cell? ⟨b, o + q * 10 + 1, none⟩ = _ := hcc 1 (by omega)
          have c2 : wr.cell? ⟨b, o + q * 10 + 2, none⟩ = _ := hcc 2 (by omega)
          have c3 : wr.cell? ⟨b, o + q * 10 + 3, none⟩ = _ := hcc 3 (by omega)
          have c4 : wr.cell? ⟨b, o + q * 10 + 4, none⟩ = _ := hcc 4 (by omega)
          have c5 : wr.cell? ⟨b, o + q * 10 + 5, none⟩ = _ := hcc 5 (by omega)
          have c6 : wr.cell? ⟨b, o + q * 10 + 6, none⟩ = _ := hcc 6 (by omega)
          have c7 : wr.cell? ⟨b, o + q * 10 + 7, none⟩ = _ := hcc 7 (by omega)
          have c8 : wr.cell? ⟨b, o + q * 10 + 8, none⟩ = _ := hcc 8 (by omega)
          have c9 : wr.cell? ⟨b, o + q * 10 + 9, none⟩ = _ := hcc 9 (by omega)
          dsimp [StH.cells] at c0 c1 c2 c3 c4 c5 c6 c7 c8 c9
          dsimp only at hcap hsmall
          have hdl := hdr.tlen
          have hdsz := hI.out.sz
          have hF : ∀ W, Below wr.heap.size wr W → ((W.cell? ⟨w1.heap.size, 0, none⟩ = some (.slice NA nn nc') ∧ W.cell? ⟨w1.heap.size, 1, none⟩ = some (.slice MA mn_ mc) ∧ W.cell? ⟨w1.heap.size, 2, none⟩ = some (.slice PA pn pc) ∧ W.cell? ⟨w1.heap.size, 3, none⟩ = some (.slice TA tn tc) ∧ W.cell? ⟨w1.heap.size, 4, none⟩ = some (.slice EA2 en2 ec2)) ∧ W.cell? ⟨b, o + q * 10, none⟩ = some (.int .i64 xk) ∧ W.cell? ⟨b, o + q * 10 + 1, none⟩ = some (.int .i64 xf) ∧ W.cell? ⟨b, o + q * 10 + 2, none⟩ = some (.int .i64 xt) ∧ W.cell? ⟨b, o + q * 10 + 3, none⟩ = some (.int .i64 xg) ∧ W.cell? ⟨b, o + q * 10 + 4, none⟩ = some (.int .i64 xh) ∧ W.cell? ⟨b, o + q * 10 + 5, none⟩ = some (.int .i64 xi) ∧ W.cell? ⟨b, o + q * 10 + 6, none⟩ = some (.int .i64 xm) ∧ W.cell? ⟨b, o + q * 10 + 7, none⟩ = some (.int .i64 xv) ∧ W.cell? ⟨b, o + q * 10 + 8, none⟩ = some (.slice sA sn1 sc1) ∧ W.cell? ⟨b, o + q * 10 + 9, none⟩ = some (.slice sA2 sn2 sc2)) := fun W hb => by
           have k := ksr.ext hb
           exact ⟨⟨k.cell 0, k.cell 1, k.cell 2, k.cell 3, k.cell 4⟩, (hb.cell (p := ⟨b, o + q * 10, none⟩) hb1).trans c0, (hb.cell (p := ⟨b, o + q * 10 + 1, none⟩) hb1).trans c1, (hb.cell (p := ⟨b, o + q * 10 + 2, none⟩) hb1).trans c2, (hb.cell (p := ⟨b, o + q * 10 + 3, none⟩) hb1).trans c3, (hb.cell (p := ⟨b, o + q * 10 + 4, none⟩) hb1).trans c4, (hb.cell (p := ⟨b, o + q * 10 + 5, none⟩) hb1).trans c5, (hb.cell (p := ⟨b, o + q * 10 + 6, none⟩) hb1).trans c6, (hb.cell (p := ⟨b, o + q * 10 + 7, none⟩) hb1).trans c7, (hb.cell (p := ⟨b, o + q * 10 + 8, none⟩) hb1).trans c8, (hb.cell (p := ⟨b, o + q * 10 + 9, none⟩) hb1).trans c9⟩
          have hap := fun W (hb : Below wr.heap.size wr W) => apply25_any w0.heap.size _ _ _ _ _ ns ms ps bn mg W xk xf xt xg xh xi xm xv dA sA sA2 dn dc' sn1 sn2 sc1 sc2 D sl mk (hscr.below hb) ((hdr.below hb).more hb.size) hdc hdA (by omega) ((hraw.rd.below hb).more hb.size) hcap.1 hraw.A (by show sn1 ≤ 20000; omega) ((hraw.rd'.below hb).more hb.size) (by show sn2 ≤ 20000; omega)
          have HF := Lib.hid hF
          have HAP := Lib.hid hap
          have HC := Lib.hid (And.intro c0 (And.intro c1 (And.intro c2 (And.intro c3 (And.intro c4 (And.intro c5 (And.intro c6 (And.intro c7 (And.intro c8 c9)))))))))
          have HX := Lib.hid hx
          have HRAW := Lib.hid hraw
          have HDM := Lib.hid (And.intro hdr hdm)
          clear hF hap c0 c1 c2 c3 c4 c5 c6 c7 c8 c9 hx hraw hdr hdm hscr hcc hsr hdA
          go_upto_region 9 with fail
          refine wp_normal ?_
          refine wp_region_held_drew (S := fun W => Below wr.heap.size wr W) (by kernel_rfl) (Below.drew (Below.refl _ _)) (fun hHeld => ?_)
          generalize wr.drew = wD at *
          (refine tkH 0 ?_; refine tkH 1 ?_; refine tkH 2 ?_; refine tkH 3 ?_; refine tkH 4 ?_; refine tkH 5 ?_)
          refine nxH 6 (fun K hK => ?_)
          go_simp
          refine (HAP.out wD hHeld).mono ?_
          rintro e w6 ⟨A2, N2, c2, er2, rfl, hN2, hnew2, hok2, hb6⟩
          have hHeld6 := hHeld.trans (hb6.mono hHeld.size)
          have hzD := hHeld.size
          have hz6 := hHeld6.size
          have HNEW := Lib.hid hnew2
          have HOK := Lib.hid hok2
          clear hnew2 hok2 hHeld hb6 HAP HF
          refine hK.out _ _ hHeld6 (fun hHeld' => ?_)
          clear hK K; refine puH ?_
          (refine tkH 7 ?_; refine tkH 8 ?_; refine tkH 9 ?_; refine tkH 10 ?_; refine tkH 11 ?_)
          refine wpAnyH_done (by kernel_rfl) ?_ _
          clear hHeld'
          have hskip : FwI w4 g mb j sv nx el D (.slice dA dn dc') w6 := hI.out.below hHeld6
          have HSKIP := Lib.hid hskip
          clear hskip
          by_cases her2 : er2 = 0
          ·have e6 : (er2 == 0) = true := by simp [her2]
           obtain ⟨hsh, htn, mk2, hNl, hr2⟩ := HOK.out her2
           clear her2
           by_cases hN : N2 ≤ 200
           ·have e7 : (N2 : Int) ≤ 200 := by omega
            have d0 := (hHeld6.cell (p := ⟨b, o + q * 10, none⟩) hb1).trans HC.out.1
            have d1 := (hHeld6.cell (p := ⟨b, o + q * 10 + 1, none⟩) hb1).trans HC.out.2.1
            have d2 := (hHeld6.cell (p := ⟨b, o + q * 10 + 2, none⟩) hb1).trans HC.out.2.2.1
            have d3 := (hHeld6.cell (p := ⟨b, o + q * 10 + 3, none⟩) hb1).trans HC.out.2.2.2.1
            have d4 := (hHeld6.cell (p := ⟨b, o + q * 10 + 4, none⟩) hb1).trans HC.out.2.2.2.2.1
            have d5 := (hHeld6.cell (p := ⟨b, o + q * 10 + 5, none⟩) hb1).trans HC.out.2.2.2.2.2.1
            have d6 := (hHeld6.cell (p := ⟨b, o + q * 10 + 6, none⟩) hb1).trans HC.out.2.2.2.2.2.2.1
            have d7 := (hHeld6.cell (p := ⟨b, o + q * 10 + 7, none⟩) hb1).trans HC.out.2.2.2.2.2.2.2.1
            have d8 := (hHeld6.cell (p := ⟨b, o + q * 10 + 8, none⟩) hb1).trans HC.out.2.2.2.2.2.2.2.2.1
            have d9 := (hHeld6.cell (p := ⟨b, o + q * 10 + 9, none⟩) hb1).trans HC.out.2.2.2.2.2.2.2.2.2
            have hd := ldn_step j w4.heap.size g mb 0 sv nx el xk xf xt xg xh xi xm xv sA sA2 A2 sn1 sc1 sn2 sc2 N2 c2 ((q : Int).tmod 5) sl D mk mk2 w6 HSKIP.out.ld (bd_mod q) HSKIP.out.b.size (by omega) hsh (by omega) (((HRAW.out.rd.below hHeld6).more hz6 : Rd w6 w6.heap.size 12 sA sn1 (toks sl))) hcap.1 (by omega) (fun h0 a e hm => by
             have q1 : a.block < w.heap.size := by
              have := HS.out.2 _ (List.mem_of_getElem? HX.out)
              exact DocAt.lt (D := sl) this.rd h0 a e
             have q2 := HSKIP.out.ld.in_.ge hm
             have q3 := hb04.size
             omega) ((HRAW.out.rd'.below hHeld6).more hz6 : Rd w6 w6.heap.size 8 sA2 sn2 (mks mk)) (by omega) hr2 (fun h0 a e hm => by
             have q1 := HNEW.out.2 a e
             have q2 := hI.out.ld.in_.mine_lt hm
             omega)
            have HD := Lib.hid hd
            have HR2 := Lib.hid hr2
            clear hd hr2 hNl hsh htn
            go_wp2_with (go_at_call 13; fail)
            refine HD.out.mono ?_
            rintro e w7 hd7
            obtain rfl := hd7.1
            obtain ⟨sv', nx', el', hfin, -, -⟩ := FwI.step hI.out hHeld6 HR2.out hN2 HNEW.out.1 (fun a e => by have := HNEW.out.2 a e; omega) hN hd7
            have HFIN := Lib.hid hfin
            clear hd7 hfin d0 d1 d2 d3 d4 d5 d6 d7 d8 d9
            go_wp2
            go_roundw
            case rel => exact ⟨q + 1, j + 1, sv', nx', el', _, by omega, by omega, by go_num, HFIN⟩
            case measure => simp [intOf]; omega
           ·have e7 : ¬ (N2 : Int) ≤ 200 := by omega
            clear hsh htn hNl hr2
            go_wp2
            go_roundw
            case rel => exact ⟨q + 1, j, sv, nx, el, D, by omega, by omega, by go_num, HSKIP⟩
            case measure => simp [intOf]; omega
          ·have e6 : (er2 == 0) = false := by simp [her2]
           clear her2
           go_wp2
           go_roundw
           case rel => exact ⟨q + 1, j, sv, nx, el, D, by omega, by omega, by go_num, HSKIP⟩
           case measure => simp [intOf]; omega
         ·obtain rfl : sn = q := by omega
          have hL := hI.out.ld.in_
          have hll := hI.out.ld.len
          obtain ⟨A5, cc5, rfl, -, -⟩ := hL.form
          have hcn : cntP (fun _ => false) (el.map EH.e) ≤ 100000 := by
           have := cntP_le (er := fun _ => false) (el.map EH.e)
           rw [List.length_map] at this
           omega
          obtain ⟨C, hC⟩ : ∃ C : List Int → Bool, C = fun ev => (clashB (fun _ => false) (el.map EH.e) ev (reachL zk zf zt zg zh zi zm zv zn zn2)).2 := ⟨_, rfl⟩
          have hap : ∀ W, Below wr.heap.size wr W → ∀ (EA : Option Addr) (en ec : Nat) (ev : List Int), Rd W W.heap.size 1 EA en (its ev) → en ≤ 10 → Calls Tryz.prog 24 #[.pointer (some ⟨g, 0, none⟩), .agg #[.int .i64 zk, .int .i64 zf, .int .i64 zt, .int .i64 zg, .int .i64 zh, .int .i64 zi, .int .i64 zm, .int .i64 zv, .slice zA zn zc, .slice zA2 zn2 zc2], .slice EA en ec] W
           fun e w' => e = .returned (.bool !(C ev)) ∧ Below W.heap.size W w' := fun W hb EA en ec ev hev hen => by
           have hb0W := hb0r.trans (hb.mono hb0r.size)
           rw [hC]
           exact apart_any (some ⟨g, 0, none⟩) (el.map EH.e) (fun _ => false) zk zf zt zg zh zi zm zv zA zA2 zn zn2 zc zc2 zl zs EA en ec ev W (lgIs_ld _ _ _ _ _ _ _ _ _ _ (hL.below hb) (by omega)) hcn ((HZ.out.1.below hb0W).more hb0W.size) HZ.out.2.2.1 ((HZ.out.2.1.below hb0W).more hb0W.size) HZ.out.2.2.2 hev (by unfold maxLen; omega)
          have hnil : C [] = false := by rw [hC]; exact clash_nil
          have hmono : ∀ (ev : List Int) (x : Int), x ∈ ev → C [x] = true → C ev = true := fun ev x hx h => by
           rw [hC] at h ⊢
           exact clash_mono (ev := [x]) (fun y hy => by rw [List.mem_singleton.1 hy]; exact hx) h
          have HAP := Lib.hid hap
          have HMONO := Lib.hid hmono
          have hap0 := hap wr (Below.refl _ _) none 0 0 [] (Rd.nil_ _ _ _ _) (by omega)
          rw [hnil] at hap0
          have HAP0 := Lib.hid hap0
          clear hap hmono hap0 hnil hC hL hI hdr hdm hdA hscr ksr ks4 kx4
          obtain ⟨wo, rfl⟩ : ∃ wo : World, wo = wr := ⟨_, rfl⟩
          obtain ⟨x0, x1, x2, x3, x4, x5, x6, x7, x8, x9⟩ := bk10 kxr
          go_wp2_with (go_at_call 24; fail)
          refine HAP0.out.mono ?_
          rintro e w6 ⟨rfl, hb6⟩
          have kx6 := kxr.ext hb6
          clear x0 x1 x2 x3 x4 x5 x6 x7 x8 x9 HAP0 kxr
          go_wp2
          go_loopw [18] (fun u wq => ∃ i : Nat, i ≤ en ∧ u = .int .i64 i ∧ Below w6.heap.size w6 wq) (fun u _ => en - (intOf u).toNat)
          case atStart => exact ⟨0, Nat.zero_le _, rfl, Below.refl _ _⟩
          case round =>
           obtain ⟨i, hi, rfl, hbq⟩ := hrel
           have hb0q : Below wo.heap.size wo wr := hb6.trans (hbq.mono hb6.size)
           have hbWr : Below w.heap.size w wr := hb0r.trans (hb0q.mono hb0r.size)
           by_cases hie : i < en
           ·have e4 : (i : Int) < en := by omega
            have hevr : Rd wr wr.heap.size 1 EA en (its ev) := (HEV.out.1.below hbWr).more hbWr.size
            have HEVR := Lib.hid hevr
            obtain ⟨eb, eo, y, rfl, heb, hy, hce⟩ := Rd.is_at (l := ev) hevr hie
            have kxq := kx6.ext hbq
            have hF : ∀ W, Below wr.heap.size wr W → ((W.cell? ⟨w.heap.size, 0, none⟩ = some (.int .i64 zk) ∧ W.cell? ⟨w.heap.size, 1, none⟩ = some (.int .i64 zf) ∧ W.cell? ⟨w.heap.size, 2, none⟩ = some (.int .i64 zt) ∧ W.cell? ⟨w.heap.size, 3, none⟩ = some (.int .i64 zg) ∧ W.cell? ⟨w.heap.size, 4, none⟩ = some (.int .i64 zh) ∧ W.cell? ⟨w.heap.size, 5, none⟩ = some (.int .i64 zi) ∧ W.cell? ⟨w.heap.size, 6, none⟩ = some (.int .i64 zm) ∧ W.cell? ⟨w.heap.size, 7, none⟩ = some (.int .i64 zv) ∧ W.cell? ⟨w.heap.size, 8, none⟩ = some (.slice zA zn zc) ∧ W.cell? ⟨w.heap.size, 9, none⟩ = some (.slice zA2 zn2 zc2)) ∧ W.cell? ⟨eb, eo + i, none⟩ = some (.int .i64 y)) := fun W hb => by
             have k := kxq.ext hb
             exact ⟨⟨k.cell 0, k.cell 1, k.cell 2, k.cell 3, k.cell 4, k.cell 5, k.cell 6, k.cell 7, k.cell 8, k.cell 9⟩, (hb.cell (p := ⟨eb, eo + i, none⟩) heb).trans hce⟩
            have HF := Lib.hid hF
            have hmo := HMONO.out ev y (List.mem_of_getElem? hy)
            obtain ⟨cv, hcv⟩ : ∃ cv, cv = C ev := ⟨_, rfl⟩
            obtain ⟨cy, hcy⟩ : ∃ cy, cy = C [y] := ⟨_, rfl⟩
            rw [← hcv, ← hcy] at hmo
            have HCV := Lib.hid (And.intro hcv hcy)
            have HMO := Lib.hid hmo
            clear hF hy hce hevr hmo hcv hcy
            go_upto_region 18 with fail
            refine wp_normal ?_
            refine wp_region_held_drew (S := fun W => Below wr.heap.size wr W) (by kernel_rfl) (Below.drew (Below.refl _ _)) (fun hHeld => ?_)
            generalize wr.drew = wD at *
            (refine tkH 0 ?_; refine tkH 1 ?_; refine tkH 2 ?_)
            refine nxH 3 (fun K hK => ?_)
            go_simp
            refine (HAP.out wD (hb0q.trans (hHeld.mono hb0q.size)) _ _ _ ev ((HEVR.out.below hHeld).more hHeld.size) he10).mono ?_
            rw [← HCV.out.1]
            rintro e w7 ⟨rfl, hb7⟩
            have hHeld7 := hHeld.trans (hb7.mono hHeld.size)
            clear hHeld hb7
            refine hK.out _ _ hHeld7 (fun hHeld => ?_)
            clear hK K; refine puH ?_
            cases cv with
            | true =>
              simp only [Bool.not_true]
              (refine tkH 4 ?_; refine tnH 5 ?_; refine tnH 6 ?_; refine tnH 7 ?_; refine tnH 8 ?_; refine tnH 9 ?_; refine tnH 10 ?_; refine tnH 11 ?_; refine tnH 12 ?_; refine tnH 13 ?_; refine tkH 14 ?_)
              refine wpAnyH_done (by kernel_rfl) ?_ _
              have hb8 := hbq.trans (hHeld7.mono hbq.size)
              clear hHeld hHeld7
              go_wp2
              go_roundw
              case rel => exact ⟨i + 1, by omega, by go_num, hb8⟩
              case measure => simp [intOf]; omega
            | false =>
              have hcy : cy = false := by
               cases cy with
               | true => exact absurd (HMO.out rfl) (by simp)
               | false => rfl
              subst hcy
              simp only [Bool.not_false]
              (refine tkH 4 ?_; refine tkH 5 ?_; refine tkH 6 ?_; refine tkH 7 ?_; refine tkH 8 ?_; refine tkH 9 ?_; refine tkH 10 ?_)
              refine nxH 11 (fun K hK => ?_)
              go_simp
              have hba : Below w7.heap.size w7 (w7.alloc (.cells #[.int .i64 y] 3)) := belowA
              have ka := Bk.new w7 3 #[.int .i64 y]
              have hHeldA := hHeld7.trans (hba.mono hHeld7.size)
              have hevy : Rd (w7.alloc (.cells #[.int .i64 y] 3)) (w7.alloc (.cells #[.int .i64 y] 3)).heap.size 1 (some ⟨w7.heap.size, 0, none⟩) 1 (its [y]) := ⟨rfl, fun _ => ⟨_, 0, rfl, by simp, fun i v hv => by
               rw [Nat.zero_add, ka.cell]
               obtain rfl : i = 0 := by have := (List.getElem?_eq_some_iff.1 hv).1; simp [its] at this; omega
               exact hv⟩⟩
              have HEVY := Lib.hid hevy
              clear hevy ka hHeld
              refine hK.out _ _ hHeldA (fun hHeld => ?_)
              clear hK K; refine puH ?_
              refine nxH 12 (fun K hK => ?_)
              go_simp
              refine (HAP.out _ (hb0q.trans (hHeldA.mono hb0q.size)) _ _ _ [y] HEVY.out (by omega)).mono ?_
              rw [← HCV.out.2]
              rintro e w8 ⟨rfl, hb8⟩
              have hHeld8 := hHeldA.trans (hb8.mono hHeldA.size)
              clear hHeld hb8 hba
              refine hK.out _ _ hHeld8 (fun hHeld => ?_)
              clear hK K; refine puH ?_
              simp only [Bool.not_false]
              (refine tkH 13 ?_; refine tkH 14 ?_)
              refine wpAnyH_done (by kernel_rfl) ?_ _
              have hb9 := hbq.trans (hHeld8.mono hbq.size)
              clear hHeld hHeld8 hHeldA hHeld7
              go_wp2
              go_roundw
              case rel => exact ⟨i + 1, by omega, by go_num, hb9⟩
              case measure => simp [intOf]; omega
           ·obtain rfl : i = en := by omega
            go_wp2_with (go_at_call 19; (refine (live43_any _).mono ?_); rintro e w9 ⟨rfl, hb9⟩)
            go_ret
            exact ⟨rfl, hbWr.trans (hb9.mono hbWr.size)⟩
       ·have e3 : (10 : Int) < en := by omega
        go_wp2_with (go_at_call 19; (refine (live43_any _).mono ?_); rintro e w9 ⟨rfl, hb9⟩)
        go_ret
        exact ⟨rfl, hb04.trans (hb9.mono hb04.size)⟩
  ·have e2 : (100 : Int) < n := by omega
   go_wp2_with (go_at_call 19; (refine (live43_any _).mono ?_); rintro e w9 ⟨rfl, hb9⟩)
   go_ret
   exact ⟨rfl, hb02.trans (hb9.mono hb02.size)⟩
 ·have e1 : (er != 0) = true := by simp [her]
  clear her
  go_wp2_with (go_at_call 19; (refine (live43_any _).mono ?_); rintro e w9 ⟨rfl, hb9⟩)
  go_ret
  exact ⟨rfl, hb02.trans (hb9.mono hb02.size)⟩
end Go.Proofs.YtmacfoebfpljoaaGreat
namespace Go.Proofs.YtmacfoebfpljoaaGreat
open Go.ChangeShapes Go.WideShapes Go.ChangeAt Go.RowKit
section
variable {H : Type} {enc : TypeId × Value → H} {W : World} {b : Nat} {sp : Nat → Bool} {hd : Bool}
theorem arr_at {T e : TypeId} {n fuel : Nat} {cs : List Value} {y : DataW H × List MemPlace} (hT : Tryz.prog.underlying T = some (.array n e)) (hc : Tryz.prog.cellsOf e = 1) (h : DataW.trod enc Tryz.prog W b sp hd fuel T cs = some y) :
 cs.length = Tryz.prog.cellsOf T ∧ ∀ i, i < n → ∃ m z, DataW.trod enc Tryz.prog W b sp hd m e ((cs.drop i).take 1) = some z := by
 obtain ⟨xs, m, _, _, hl, hlen, hf⟩ := DataW.trod_array hT h
 refine ⟨hl, fun i hi => ?_⟩
 have := hf i hi
 rw [hc, Nat.mul_one, List.getElem?_eq_getElem (by omega)] at this
 exact ⟨m, _, this⟩
theorem str_at {T : TypeId} {fs : Array Field} {fuel : Nat} {cs : List Value} {y : DataW H × List MemPlace} (hT : Tryz.prog.underlying T = some (.struct fs)) (h : DataW.trod enc Tryz.prog W b sp hd fuel T cs = some y) :
 cs.length = Tryz.prog.cellsOf T ∧ ∀ (i : Nat) (ty : TypeId) (off : Nat), fs[i]?.map (fun f => (f.type, f.offset)) = some (ty, off) → ∃ m z, DataW.trod enc Tryz.prog W b sp hd m ty ((cs.drop off).take (Tryz.prog.cellsOf ty)) = some z := by
 obtain ⟨xs, m, _, _, hl, hlen, hf⟩ := DataW.trod_struct hT h
 refine ⟨hl, fun i ty off hi => ?_⟩
 obtain ⟨f, hf1, hf2⟩ := Option.map_eq_some_iff.1 hi
 injection hf2 with h1 h2
 subst h1 h2
 have hlt := (Array.getElem?_eq_some_iff.1 hf1).1
 have := hf i f hf1
 rw [List.getElem?_eq_getElem (by omega)] at this
 exact ⟨m, _, this⟩
theorem open_mk (n : Nat) (cs : List Value) (y : DataW H × List MemPlace) (h : DataW.trod enc Tryz.prog W b sp hd n 124 cs = some y) : ∃ x : Mk, cs = x.cells ∧ True := by
 have hc : Tryz.prog.cellsOf 122 = 1 := by kernel_rfl
 have hc8 : Tryz.prog.cellsOf 124 = 8 := by kernel_rfl
 obtain ⟨hl, hf⟩ := arr_at (n := 8) (e := 122) (by kernel_rfl) hc h
 rw [hc8] at hl
 match cs, hl with
 | [v0, v1, v2, v3, v4, v5, v6, v7], _ =>
   obtain ⟨_, _, g0⟩ := hf 0 (by omega)
   obtain ⟨_, _, g1⟩ := hf 1 (by omega)
   obtain ⟨_, _, g2⟩ := hf 2 (by omega)
   obtain ⟨_, _, g3⟩ := hf 3 (by omega)
   obtain ⟨_, _, g4⟩ := hf 4 (by omega)
   obtain ⟨_, _, g5⟩ := hf 5 (by omega)
   obtain ⟨_, _, g6⟩ := hf 6 (by omega)
   obtain ⟨_, _, g7⟩ := hf 7 (by omega)
   simp only [List.drop_succ_cons, List.drop_zero, List.take_succ_cons, List.take_zero] at g0 g1 g2 g3 g4 g5 g6 g7
   obtain ⟨x0, e0, _, _⟩ := DataW.trod_int Tryz.underlying122 g0
   obtain ⟨x1, e1, _, _⟩ := DataW.trod_int Tryz.underlying122 g1
   obtain ⟨x2, e2, _, _⟩ := DataW.trod_int Tryz.underlying122 g2
   obtain ⟨x3, e3, _, _⟩ := DataW.trod_int Tryz.underlying122 g3
   obtain ⟨x4, e4, _, _⟩ := DataW.trod_int Tryz.underlying122 g4
   obtain ⟨x5, e5, _, _⟩ := DataW.trod_int Tryz.underlying122 g5
   obtain ⟨x6, e6, _, _⟩ := DataW.trod_int Tryz.underlying122 g6
   obtain ⟨x7, e7, _, _⟩ := DataW.trod_int Tryz.underlying122 g7
   injection e0 with e0; injection e1 with e1; injection e2 with e2; injection e3 with e3; injection e4 with e4; injection e5 with e5; injection e6 with e6; injection e7 with e7
   subst e0 e1 e2 e3 e4 e5 e6 e7
   exact ⟨⟨x0, x1, x2, x3, x4, x5, x6, x7⟩, rfl, trivial⟩
theorem open_tok (n : Nat) (cs : List Value) (y : DataW H × List MemPlace) (h : DataW.trod enc Tryz.prog W b sp hd n 126 cs = some y) : ∃ x : Tok, cs = x.cells ∧ True := by
 have hc : Tryz.prog.cellsOf 3 = 1 := by kernel_rfl
 have hc3 : Tryz.prog.cellsOf 21 = 1 := by kernel_rfl
 have hc8 : Tryz.prog.cellsOf 124 = 8 := by kernel_rfl
 have hc12 : Tryz.prog.cellsOf 126 = 12 := by kernel_rfl
 obtain ⟨hl, hf⟩ := str_at Tryz.underlying126 h
 rw [hc12] at hl
 match cs, hl with
 | [v0, v1, v2, v3, u0, u1, u2, u3, u4, u5, u6, u7], _ =>
   obtain ⟨_, _, g0⟩ := hf 0 3 0 rfl
   obtain ⟨_, _, g1⟩ := hf 1 3 1 rfl
   obtain ⟨_, _, g2⟩ := hf 2 3 2 rfl
   obtain ⟨_, _, g3⟩ := hf 3 21 3 rfl
   obtain ⟨_, _, g4⟩ := hf 4 124 4 rfl
   simp only [hc, hc3, hc8, List.drop_succ_cons, List.drop_zero, List.take_succ_cons, List.take_zero] at g0 g1 g2 g3 g4
   obtain ⟨x0, e0, _, _⟩ := DataW.trod_int Tryz.underlying3 g0
   obtain ⟨x1, e1, _, _⟩ := DataW.trod_int Tryz.underlying3 g1
   obtain ⟨x2, e2, _, _⟩ := DataW.trod_int Tryz.underlying3 g2
   obtain ⟨x3, e3, _, _⟩ := DataW.trod_int Tryz.underlying21 g3
   obtain ⟨m, e4, _⟩ := open_mk _ _ _ g4
   injection e0 with e0; injection e1 with e1; injection e2 with e2; injection e3 with e3
   subst e0 e1 e2 e3
   refine ⟨⟨x0, x1, x2, x3, m⟩, ?_, trivial⟩
   rw [Tok.cells, ← e4]
end
section
variable {H : Type} {enc : TypeId × Value → H} {W : World} {b : Nat} {sp : Nat → Bool} {hd : Bool} {a : Option Addr} {len cap : Nat} {d : DataW H} {pl : List MemPlace}
theorem open_toks (h : ∃ fuel, DataW.trod enc Tryz.prog W b sp hd fuel 22 [.slice a len cap] = some (d, pl)) : ∃ l : List Tok, l.length = len ∧ Rd W W.heap.size 12 a len (toks l) ∧ len ≤ cap ∧ cap ≤ maxLen ∧ (a = none → len = 0) := by
 obtain ⟨l, h1, h2, h3, h4, h5, _⟩ := open_els (s := 12) Tok.cells (fun _ => True) Tryz.underlying22 (by kernel_rfl) (by omega) (fun _ => rfl) h open_tok
 exact ⟨l, h1, h2, h3, h4, h5⟩
theorem open_mks (h : ∃ fuel, DataW.trod enc Tryz.prog W b sp hd fuel 43 [.slice a len cap] = some (d, pl)) : ∃ l : List Mk, l.length = len ∧ Rd W W.heap.size 8 a len (mks l) ∧ len ≤ cap ∧ cap ≤ maxLen ∧ (a = none → len = 0) := by
 obtain ⟨l, h1, h2, h3, h4, h5, _⟩ := open_els (s := 8) Mk.cells (fun _ => True) Tryz.underlying43 (by kernel_rfl) (by omega) (fun _ => rfl) h open_mk
 exact ⟨l, h1, h2, h3, h4, h5⟩
end
theorem arr_of {cs : Array Value} {l : List Value} (h : cs.toList = l) : cs = l.toArray := by
 subst h; rfl
section
variable {H : Type} {enc : TypeId × Value → H} {W : World} {b : Nat} {sp : Nat → Bool} {hd : Bool}
theorem slice_at {T E : TypeId} {fuel : Nat} {v : Value} {y : DataW H × List MemPlace} (hT : Tryz.prog.underlying T = some (.slice E)) (h : DataW.trod enc Tryz.prog W b sp hd fuel T [v] = some y) : ∃ a len cap, v = .slice a len cap := by
 rcases Deep.open_slice hT h with ⟨hcs, _⟩ | ⟨x, l, c, m, n, D, Pl, hcs, _⟩
 ·simp at hcs; exact ⟨_, _, _, hcs⟩
 ·simp at hcs; exact ⟨_, _, _, hcs⟩
end
end Go.Proofs.YtmacfoebfpljoaaGreat
namespace Go.Proofs.YtmacfoebfpljoaaGreat
open Go.ChangeShapes Go.WideShapes Go.ChangeAt Go.RowKit
section
variable {H : Type} {enc : TypeId × Value → H} {W : World} {b : Nat} {sp : Nat → Bool} {hd : Bool}
theorem open_stepw (n : Nat) (cs : List Value) (y : DataW H × List MemPlace) (h : DataW.trod enc Tryz.prog W b sp hd n 45 cs = some y) : ∃ s : StH, cs = s.cells ∧ (s.Raw W W.heap.size ∧ s.n ≤ s.c ∧ s.n' ≤ s.c') := by
 have hc : Tryz.prog.cellsOf 3 = 1 := by kernel_rfl
 have hc1 : Tryz.prog.cellsOf 22 = 1 := by kernel_rfl
 have hc2 : Tryz.prog.cellsOf 43 = 1 := by kernel_rfl
 have hc10 : Tryz.prog.cellsOf 45 = 10 := by kernel_rfl
 obtain ⟨hl, hf⟩ := str_at Tryz.underlying45 h
 rw [hc10] at hl
 match cs, hl with
 | [v0, v1, v2, v3, v4, v5, v6, v7, v8, v9], _ =>
   obtain ⟨_, _, g0⟩ := hf 0 3 0 rfl
   obtain ⟨_, _, g1⟩ := hf 1 3 1 rfl
   obtain ⟨_, _, g2⟩ := hf 2 3 2 rfl
   obtain ⟨_, _, g3⟩ := hf 3 3 3 rfl
   obtain ⟨_, _, g4⟩ := hf 4 3 4 rfl
   obtain ⟨_, _, g5⟩ := hf 5 3 5 rfl
   obtain ⟨_, _, g6⟩ := hf 6 3 6 rfl
   obtain ⟨_, _, g7⟩ := hf 7 3 7 rfl
   obtain ⟨_, ⟨_, _⟩, g8⟩ := hf 8 22 8 rfl
   obtain ⟨_, ⟨_, _⟩, g9⟩ := hf 9 43 9 rfl
   simp only [hc, hc1, hc2, List.drop_succ_cons, List.drop_zero, List.take_succ_cons, List.take_zero] at g0 g1 g2 g3 g4 g5 g6 g7 g8 g9
   obtain ⟨x0, e0, _, _⟩ := DataW.trod_int Tryz.underlying3 g0
   obtain ⟨x1, e1, _, _⟩ := DataW.trod_int Tryz.underlying3 g1
   obtain ⟨x2, e2, _, _⟩ := DataW.trod_int Tryz.underlying3 g2
   obtain ⟨x3, e3, _, _⟩ := DataW.trod_int Tryz.underlying3 g3
   obtain ⟨x4, e4, _, _⟩ := DataW.trod_int Tryz.underlying3 g4
   obtain ⟨x5, e5, _, _⟩ := DataW.trod_int Tryz.underlying3 g5
   obtain ⟨x6, e6, _, _⟩ := DataW.trod_int Tryz.underlying3 g6
   obtain ⟨x7, e7, _, _⟩ := DataW.trod_int Tryz.underlying3 g7
   injection e0 with e0; injection e1 with e1; injection e2 with e2; injection e3 with e3; injection e4 with e4; injection e5 with e5; injection e6 with e6; injection e7 with e7
   subst e0 e1 e2 e3 e4 e5 e6 e7
   obtain ⟨A, n, c, rfl⟩ := slice_at Tryz.underlying22 g8
   obtain ⟨A', n', c', rfl⟩ := slice_at Tryz.underlying43 g9
   obtain ⟨sl, _, p2, p3, p4, p5⟩ := open_toks ⟨_, g8⟩
   obtain ⟨st, _, q2, q3, q4, q5⟩ := open_mks ⟨_, g9⟩
   exact ⟨⟨A, n, c, A', n', c', ⟨x0, x1, x2, x3, x4, x5, x6, x7, sl, st⟩⟩, rfl, ⟨p2, q2, by show n ≤ maxLen; omega, by show n' ≤ maxLen; omega, p5, q5⟩, p3, q3⟩
theorem open_stsw {a : Option Addr} {len cap : Nat} {d : DataW H} {pl : List MemPlace} (h : ∃ fuel, DataW.trod enc Tryz.prog W b sp hd fuel 23 [.slice a len cap] = some (d, pl)) : ∃ L : List StH, StsRaw W W.heap.size a len L ∧ (∀ s ∈ L, s.n ≤ s.c ∧ s.n' ≤ s.c') ∧ len ≤ cap ∧ cap ≤ maxLen ∧ (a = none → len = 0) := by
 obtain ⟨l, h1, h2, h3, h4, h5, h6⟩ := open_els (s := 10) StH.cells (fun s => s.Raw W W.heap.size ∧ s.n ≤ s.c ∧ s.n' ≤ s.c') Tryz.underlying23 (by kernel_rfl) (by omega) (fun _ => rfl) h open_stepw
 exact ⟨l, ⟨h2, fun s hs => (h6 s hs).1⟩, fun s hs => (h6 s hs).2, h3, h4, h5⟩
end
end Go.Proofs.YtmacfoebfpljoaaGreat
