/- chain: a taker's step -/
import Derived.Test.YtmacfoebfpljoaaCi
namespace Go.Proofs.Ytmacfoebfpljoaa
open Go.RowKit

def StC.zero : StC := ⟨0, 0, 0, 0, 0, 0, 0, 0, [], []⟩
theorem bys_all {T : Int → Int → Pl × Int} {x : StC} {w w' : World} {e : Ending} (h : ByS T x w e w') : ∃ (z : StC) (ok : Bool) (A : Option Addr) (n c : Nat) (A' : Option Addr) (n' c' : Nat), e = .returned (.tuple #[.agg (stp z.k z.f z.t z.g z.h z.i z.m z.v A n c A' n' c'), .bool ok]) ∧ (StH.mk A n c A' n' c' z).In w' w'.heap.size ∧
    shiftB T x = (if ok = true then some z else none) ∧ (ok = false → z = StC.zero ∧ A = none ∧ n = 0 ∧ c = 0 ∧ A' = none ∧ n' = 0 ∧ c' = 0) ∧ (∀ a, A = some a → w.heap.size ≤ a.block) ∧ (∀ a, A' = some a → w.heap.size ≤ a.block) ∧ Below w.heap.size w w' := by
  obtain ⟨hb, h⟩ := h
  cases hs : shiftB T x with
  | some z =>
    rw [hs] at h
    obtain ⟨A, n, c, A', n', c', h1, h2, h3, h4⟩ := h
    exact ⟨z, true, A, n, c, A', n', c', h1, h2, rfl, (fun h => by cases h), h3, h4, hb⟩
  | none =>
    rw [hs] at h
    exact ⟨StC.zero, false, none, 0, 0, none, 0, 0, h, ⟨Rd.nil_ _ _ _ _, Rd.nil_ _ _ _ _, by decide, by decide, fun _ => rfl, fun _ => rfl⟩, rfl, fun _ => ⟨rfl, rfl, rfl, rfl, rfl, rfl, rfl⟩, fun _ e => (by cases e), fun _ e => (by cases e), hb⟩
theorem zero_map : StC.zero.map = [] := by
  simp [StC.zero, StC.map, mapB, shB]

/-- ranges are no pointers -/
theorem rgs_nop (l : List Rg) : ∀ u ∈ rgs l, ∀ q, u ≠ .pointer q := by
  intro u hu q e
  obtain ⟨r, _, hr⟩ := List.mem_flatMap.1 hu
  simp only [Rg.cells, List.mem_cons, List.not_mem_nil, or_false] at hr
  rcases hr with rfl | rfl | rfl <;> cases e
theorem toks_nop (l : List Tok) : ∀ u ∈ toks l, ∀ q, u ≠ .pointer q := by
  intro u hu q e
  obtain ⟨r, _, hr⟩ := List.mem_flatMap.1 hu
  simp only [Tok.cells, Mk.cells, List.mem_cons, List.not_mem_nil, or_false] at hr
  rcases hr with rfl | rfl | rfl | rfl | rfl | rfl | rfl | rfl | rfl | rfl | rfl | rfl <;> cases e
theorem mks_nop (l : List Mk) : ∀ u ∈ mks l, ∀ q, u ≠ .pointer q := by
  intro u hu q e
  obtain ⟨r, _, hr⟩ := List.mem_flatMap.1 hu
  simp only [Mk.cells, List.mem_cons, List.not_mem_nil, or_false] at hr
  rcases hr with rfl | rfl | rfl | rfl | rfl | rfl | rfl | rfl <;> cases e
/-- a block that holds a pointer alone holds no list of another kind -/
theorem Off.of_bk {w : World} {B size n bt : Nat} {A : Option Addr} {xs : List Value} {t : TypeId} {p : Option Addr} (h : Rd w B size A n xs) (hs : 0 < size) (hk : Bk w bt t #[.pointer p]) (hx : ∀ u ∈ xs, ∀ q, u ≠ .pointer q) : n = 0 ∨ Off bt A := by
  rcases Nat.eq_zero_or_pos n with h0 | h0
  · exact .inl h0
  refine .inr ?_
  obtain ⟨b, o, e, hb, hc⟩ := h.2 h0
  rintro a rfl
  injection e with e
  subst e
  show b ≠ bt
  rintro rfl
  have hlen : 0 < xs.length := by rw [h.1]; exact Nat.mul_pos h0 hs
  have hg : xs[0]? = some xs[0] := List.getElem?_eq_getElem hlen
  have := hc 0 _ hg
  rw [hk.cell] at this
  rcases Nat.eq_zero_or_pos (o + 0) with ho | ho
  · rw [ho] at this
    have h2 : (Value.pointer p) = xs[0] := by simpa using this
    exact hx _ (List.getElem_mem hlen) p h2.symm
  · obtain ⟨j, hj⟩ : ∃ j, o + 0 = j + 1 := ⟨o - 1, by omega⟩
    rw [hj] at this
    simp at this
theorem StH.Off.of_bk {w : World} {B bt : Nat} {s : StH} {t : TypeId} {p : Option Addr} (h : s.In w B) (hk : Bk w bt t #[.pointer p]) : s.Off bt := ⟨Go.Proofs.Ytmacfoebfpljoaa.Off.of_bk h.rd (by decide) hk (toks_nop _), Go.Proofs.Ytmacfoebfpljoaa.Off.of_bk h.rd' (by decide) hk (mks_nop _)⟩

/-- links that lie off a block, kept where another one that they lie off is written -/
theorem LinkAt.grown2 {w w' : World} {B bt bx : Nat} {m : List Rg} {b : Nat} {ks : List Lk} (h : LinkAt w B bx b m ks) (h2 : LinkAt w B bt b m ks) (hg : w.grownBy w' (some bt)) {t : TypeId} {cs : Array Value} (hk : Bk w bt t cs) (ht : t ≠ 63) (hB : B ≤ w.heap.size) : LinkAt w' B bx b m ks := by
  have hne : ∀ {x : Nat} {cs' : Array Value}, Bk w x 63 cs' → some bt ≠ some x := by
    intro x cs' hx e
    injection e with e
    subst e
    have hx' : w.heap[bt]? = some (.cells cs' 63 (0, 0)) := hx
    have hk' : w.heap[bt]? = some (.cells cs t (0, 0)) := hk
    rw [hk'] at hx'
    injection hx' with hx'
    injection hx' with _ e2
    exact ht e2
  have inj : ∀ {x : Nat} {c1 c2 : Array Value}, Bk w x 63 c1 → Bk w x 63 c2 → c1 = c2 := by
    intro x c1 c2 h1 h2
    have h1' : w.heap[x]? = some (.cells c1 63 (0, 0)) := h1
    rw [show w.heap[x]? = some (.cells c2 63 (0, 0)) from h2] at h1'
    injection h1' with h1'
    injection h1' with e
    exact e.symm
  induction ks generalizing b with
  | nil =>
    obtain ⟨h1, A, n, c, v, h3, h4, h5⟩ := h
    obtain ⟨_, A2, n2, c2, v2, g3, g4, g5⟩ := h2
    have e := inj h3 g3
    simp only [Array.mk.injEq, List.cons.injEq, Value.slice.injEq] at e
    obtain ⟨_, ⟨rfl, rfl, rfl⟩, _⟩ := e
    exact ⟨h1, A, n, c, v, h3.grown hg (hne h3), h4.grown hg g5 hB, h5⟩
  | cons k ks ih =>
    obtain ⟨h1, A, n, c, A', n', c', b', h3, h4, h5, h6, h7, h8⟩ := h
    obtain ⟨_, A2, n2, c2, A2', n2', c2', b2', g3, g4, g5, g6, g7, g8⟩ := h2
    have e := inj h3 g3
    simp only [Array.mk.injEq, List.cons.injEq, Value.slice.injEq, Value.pointer.injEq, Option.some.injEq, Addr.mk.injEq] at e
    obtain ⟨⟨rfl, rfl, rfl⟩, ⟨rfl, rfl, rfl⟩, _, ⟨rfl, _⟩, _⟩ := e
    exact ⟨h1, A, n, c, A', n', c', b', h3.grown hg (hne h3), h4.grown hg g6 hB, h5.grown hg g7 hB, h6, h7, ih h8 g8⟩
theorem LinkAt.fresh {w : World} {B bt bx : Nat} {m : List Rg} {b : Nat} {ks : List Lk} (h : LinkAt w B bt b m ks) (hx : B ≤ bx) : LinkAt w B bx b m ks := by
  have off : ∀ {A : Option Addr} {n : Nat} {l : List Rg}, MapAt w B A n l → n = 0 ∨ Off bx A := by
    intro A n l hm
    rcases Nat.eq_zero_or_pos n with h0 | h0
    · exact .inl h0
    · exact .inr (Off.of_rd hm.rd h0 hx)
  induction ks generalizing b with
  | nil =>
    obtain ⟨h1, A, n, c, v, h3, h4, h5⟩ := h
    exact ⟨h1, A, n, c, v, h3, h4, off h4⟩
  | cons k ks ih =>
    obtain ⟨h1, A, n, c, A', n', c', b', h3, h4, h5, h6, h7, h8⟩ := h
    exact ⟨h1, A, n, c, A', n', c', b', h3, h4, h5, off h4, off h5, ih h8⟩
theorem own_bk {w : World} {base size n : Nat} {e : TypeId} {v : Value} {xs : List Value} (h : w.ownsRow base e size v n xs) {g : Nat} (hg : v.ownBlock = some g) : ∃ cs, Bk w g e cs := by
  rcases h.2 with ⟨rfl, _⟩ | ⟨g', cap, cur, rfl, _, hh, _⟩
  · simp [Value.ownBlock] at hg
  · simp [Value.ownBlock] at hg
    subst hg
    exact ⟨_, hh⟩
/-- links kept under an append onto a row that they lie off -/
theorem LinkAt.app {w w' : World} {bx base size n : Nat} {e : TypeId} {v : Value} {xs : List Value} {m : List Rg} {b : Nat} {ks : List Lk} (h : LinkAt w w.heap.size bx b m ks) (ho : w.ownsRow base e size v n xs) (h2 : ∀ g, v.ownBlock = some g → LinkAt w w.heap.size g b m ks) (ht : e ≠ 63) (hg : w.grownBy w' v.ownBlock) : LinkAt w' w'.heap.size bx b m ks := by
  cases hv : v.ownBlock with
  | none =>
    rw [hv] at hg
    exact h.ext (below_of_none hg)
  | some g =>
    rw [hv] at hg
    obtain ⟨cs, hk⟩ := own_bk ho hv
    exact (h.grown2 (h2 g hv) hg hk ht (Nat.le_refl _)).more hg.size

/-- what a taker's step says -/
def TStep (m : List Rg) (ks : List Lk) (x : StC) (bt bl : Nat) (w : World) (e : Ending) (w' : World) : Prop :=
  ∃ (z : StC) (ok : Bool) (A : Option Addr) (n c : Nat) (A' : Option Addr) (n' c' : Nat) (bl' : Nat), e = .returned (.tuple #[.agg (stp z.k z.f z.t z.g z.h z.i z.m z.v A n c A' n' c'), .bool ok]) ∧ (StH.mk A n c A' n' c' z).In w' w'.heap.size ∧
    (stepT m ks x).2 = (if ok = true then some z else none) ∧ w.grownBy w' (some bt) ∧ Bk w' bt 65 #[.pointer (some ⟨bl', 0, none⟩)] ∧ ∀ bx, bx < w.heap.size → LinkAt w w.heap.size bx bl m ks → LinkAt w' w'.heap.size bx bl' m (stepT m ks x).1

set_option maxRecDepth 100000 in
set_option maxHeartbeats 2000000 in
theorem tstep_bad (m : List Rg) (ks : List Lk) (x : StC) (bt bl : Nat) (A : Option Addr) (n c : Nat) (A' : Option Addr) (n' c' : Nat) (w : World) (hk : Bk w bt 65 #[.pointer (some ⟨bl, 0, none⟩)]) (hl : LinkAt w w.heap.size bt bl m ks) (hin : (StH.mk A n c A' n' c' x).In w w.heap.size) (hs : x.sh = false) :
    Calls Try.prog 24 #[.pointer (some ⟨bt, 0, none⟩), .agg (stp x.k x.f x.t x.g x.h x.i x.m x.v A n c A' n' c')] w (TStep m ks x bt bl w) := by
  have hsh := fun W (hb : Below w.heap.size w W) => calls_on hb (shape_any x.k x.f x.t x.g x.h x.i x.m x.v A A' n n' c c' W x.sl x.st (by have : n ≤ 1000000 := hin.n; unfold maxLen; omega) (by have : n' ≤ 1000000 := hin.n'; unfold maxLen; omega) ((hin.rd.below hb).more hb.size) ((hin.rd'.below hb).more hb.size))
  have hv : shB x.k x.f x.t x.g x.h x.i x.m x.v n n' = false := by
    have h1 := hin.len
    have h2 := hin.len'
    simp only at h1 h2
    rw [← h1, ← h2]
    exact hs
  have hno : stepT m ks x = (ks, none) := by
    unfold stepT
    rw [if_neg (by simp [hs])]
  rw [hv] at hsh
  have HS := Lib.hid hsh
  have HNO := Lib.hid hno
  have HL := Lib.hid hl
  have HK := Lib.hid hk
  clear hsh hv hno hs hin hl hk
  have k1 : Bk ((w.alloc (.cells (stp x.k x.f x.t x.g x.h x.i x.m x.v A n c A' n' c') 41)).alloc (.cells (stp 0 0 0 0 0 0 0 0 none 0 0 none 0 0) 41)) w.heap.size 41 (stp x.k x.f x.t x.g x.h x.i x.m x.v A n c A' n' c') := (Bk.new w _ _).alloc _
  have k2 : Bk ((w.alloc (.cells (stp x.k x.f x.t x.g x.h x.i x.m x.v A n c A' n' c') 41)).alloc (.cells (stp 0 0 0 0 0 0 0 0 none 0 0 none 0 0) 41)) (w.heap.size + 1) 41 (stp 0 0 0 0 0 0 0 0 none 0 0 none 0 0) := Bk.made _ _ (by simp)
  have hb0 : Below w.heap.size w ((w.alloc (.cells (stp x.k x.f x.t x.g x.h x.i x.m x.v A n c A' n' c') 41)).alloc (.cells (stp 0 0 0 0 0 0 0 0 none 0 0 none 0 0) 41)) := by repeat (first | with_reducible exact Below.refl _ _ | with_reducible assumption | (with_reducible refine below_drewN ?_ _) | (with_reducible refine Below.drew ?_) | (with_reducible refine Below.alloc ?_ ?_ _; rotate_left; focus (first | with_reducible assumption | omega | (simp; done) | (simp; omega))) | (with_reducible refine Below.setCell ?_ ?_ _; rotate_left; focus (first | with_reducible assumption | omega | (simp; done) | (simp; omega))))
  go_enter Try.func24, Try.ntmps24
  go_upto_region 1 with fail
  generalize hw0 : (w.alloc (.cells (stp x.k x.f x.t x.g x.h x.i x.m x.v A n c A' n' c') 41)).alloc (.cells #[.int .i64 0, .int .i64 0, .int .i64 0, .int .i64 0, .int .i64 0, .int .i64 0, .int .i64 0, .int .i64 0, .slice none 0 0, .slice none 0 0] 41) = w0 at *
  have p0 := k1.cell 0; have p1 := k1.cell 1; have p2 := k1.cell 2; have p3 := k1.cell 3; have p4 := k1.cell 4; have p5 := k1.cell 5; have p6 := k1.cell 6; have p7 := k1.cell 7; have p8 := k1.cell 8; have p9 := k1.cell 9
  dsimp [stp] at p0 p1 p2 p3 p4 p5 p6 p7 p8 p9
  go_wp2_with (go_at_call 37; (refine (HS.out _ hb0).mono ?_); rintro e w1 ⟨rfl, hb1, hz1, hx1⟩; have y2 := k2.ext hx1; have f2 := y2.frozen; have l2 := def_lt' y2; have q0 := y2.cell 0; have q1 := y2.cell 1; have q2 := y2.cell 2; have q3 := y2.cell 3; have q4 := y2.cell 4; have q5 := y2.cell 5; have q6 := y2.cell 6; have q7 := y2.cell 7; have q8 := y2.cell 8; have q9 := y2.cell 9; dsimp [stp] at q0 q1 q2 q3 q4 q5 q6 q7 q8 q9)
  have y := stp_set y2 0 0 0 0 0 0 0 0 none 0 0 none 0 0
  have r0 := y.cell 0; have r1 := y.cell 1; have r2 := y.cell 2; have r3 := y.cell 3; have r4 := y.cell 4; have r5 := y.cell 5; have r6 := y.cell 6; have r7 := y.cell 7; have r8 := y.cell 8; have r9 := y.cell 9
  dsimp [stp] at r0 r1 r2 r3 r4 r5 r6 r7 r8 r9
  have hbe : Below w.heap.size w (set10 w1 (w.heap.size + 1) 0 0 0 0 0 0 0 0 none 0 0 none 0 0) := by repeat (first | with_reducible exact Below.refl _ _ | with_reducible assumption | (with_reducible refine below_drewN ?_ _) | (with_reducible refine Below.drew ?_) | (with_reducible refine Below.alloc ?_ ?_ _; rotate_left; focus (first | with_reducible assumption | omega | (simp; done) | (simp; omega))) | (with_reducible refine Below.setCell ?_ ?_ _; rotate_left; focus (first | with_reducible assumption | omega | (simp; done) | (simp; omega))))
  refine bodyPost_ret (v := .tuple #[.agg (stp 0 0 0 0 0 0 0 0 none 0 0 none 0 0), .bool false]) (by simp [results, Try.results24, go_sem, r0, r1, r2, r3, r4, r5, r6, r7, r8, r9]) rfl ⟨StC.zero, false, none, 0, 0, none, 0, 0, bl, rfl, ⟨Rd.nil_ _ _ _ _, Rd.nil_ _ _ _ _, by decide, by decide, fun _ => rfl, fun _ => rfl⟩, ?_, gr_of_below hbe, HK.out.ext hbe, ?_⟩
  · rw [HNO.out]; rfl
  · rw [HNO.out]; exact fun bx _ hlx => hlx.ext hbe
end Go.Proofs.Ytmacfoebfpljoaa
