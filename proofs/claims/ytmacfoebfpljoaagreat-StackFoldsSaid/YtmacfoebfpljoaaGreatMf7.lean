/- merged texts: Cj Cq Craw Cfw Cl Ct Cmp -/
import Derived.Test.YtmacfoebfpljoaaGreatMf6
import Derived.Test.YtmacfoebfpljoaaGreatMf4
import Derived.Test.YtmacfoebfpljoaaGreatMf3
import Derived.Test.YtmacfoebfpljoaaGreatMf2
namespace Go.Proofs.YtmacfoebfpljoaaGreat
open Go.RowKit
def StC.zero : StC := ⟨0, 0, 0, 0, 0, 0, 0, 0, [], []⟩
theorem bys_all {T : Int → Int → Pl × Int} {x : StC} {w w' : World} {e : Ending} (h : ByS T x w e w') : ∃ (z : StC) (ok : Bool) (A : Option Addr) (n c : Nat) (A' : Option Addr) (n' c' : Nat), e = .returned (.tuple #[.agg (stp z.k z.f z.t z.g z.h z.i z.m z.v A n c A' n' c'), .bool ok]) ∧ (StH.mk A n c A' n' c' z).In w' w'.heap.size ∧
    shiftB T x = (if ok = true then some z else none) ∧ (ok = false → z = StC.zero ∧ A = none ∧ n = 0 ∧ c = 0 ∧ A' = none ∧ n' = 0 ∧ c' = 0) ∧ (∀ a, A = some a → w.heap.size ≤ a.block) ∧ (∀ a, A' = some a → w.heap.size ≤ a.block) ∧ Below w.heap.size w w' := by
  obtain ⟨hb, h⟩ := h
  cases hs : shiftB T x with
  | some z =>
    rw [hs] at h
    obtain ⟨A, n, c, A', n', c', h1, h2, h3, h4⟩ := h
    exact ⟨z, true, A, n, c, A', n', c', h1, h2, rfl, (fun h => by cases h), h3, h4, hb⟩
  | none =>
    rw [hs] at h
    exact ⟨StC.zero, false, none, 0, 0, none, 0, 0, h, ⟨Rd.nil_ _ _ _ _, Rd.nil_ _ _ _ _, by decide, by decide, fun _ => rfl, fun _ => rfl⟩, rfl, fun _ => ⟨rfl, rfl, rfl, rfl, rfl, rfl, rfl⟩, fun _ e => (by cases e), fun _ e => (by cases e), hb⟩
theorem zero_map : StC.zero.map = [] := by
  simp [StC.zero, StC.map, mapB, shB]
/-- ranges are no pointers -/
theorem rgs_nop (l : List Rg) : ∀ u ∈ rgs l, ∀ q, u ≠ .pointer q := by
  intro u hu q e
  obtain ⟨r, _, hr⟩ := List.mem_flatMap.1 hu
  simp only [Rg.cells, List.mem_cons, List.not_mem_nil, or_false] at hr
  rcases hr with rfl | rfl | rfl <;> cases e
theorem toks_nop (l : List Tok) : ∀ u ∈ toks l, ∀ q, u ≠ .pointer q := by
  intro u hu q e
  obtain ⟨r, _, hr⟩ := List.mem_flatMap.1 hu
  simp only [Tok.cells, Mk.cells, List.mem_cons, List.not_mem_nil, or_false] at hr
  rcases hr with rfl | rfl | rfl | rfl | rfl | rfl | rfl | rfl | rfl | rfl | rfl | rfl <;> cases e
theorem mks_nop (l : List Mk) : ∀ u ∈ mks l, ∀ q, u ≠ .pointer q := by
  intro u hu q e
  obtain ⟨r, _, hr⟩ := List.mem_flatMap.1 hu
  simp only [Mk.cells, List.mem_cons, List.not_mem_nil, or_false] at hr
  rcases hr with rfl | rfl | rfl | rfl | rfl | rfl | rfl | rfl <;> cases e
/-- a block that holds a pointer alone holds no list of another kind -/
theorem Off.of_bk {w : World} {B size n bt : Nat} {A : Option Addr} {xs : List Value} {t : TypeId} {p : Option Addr} (h : Rd w B size A n xs) (hs : 0 < size) (hk : Bk w bt t #[.pointer p]) (hx : ∀ u ∈ xs, ∀ q, u ≠ .pointer q) : n = 0 ∨ Off bt A := by
  rcases Nat.eq_zero_or_pos n with h0 | h0
  · exact .inl h0
  refine .inr ?_
  obtain ⟨b, o, e, hb, hc⟩ := h.2 h0
  rintro a rfl
  injection e with e
  subst e
  show b ≠ bt
  rintro rfl
  have hlen : 0 < xs.length := by rw [h.1]; exact Nat.mul_pos h0 hs
  have hg : xs[0]? = some xs[0] := List.getElem?_eq_getElem hlen
  have := hc 0 _ hg
  rw [hk.cell] at this
  rcases Nat.eq_zero_or_pos (o + 0) with ho | ho
  · rw [ho] at this
    have h2 : (Value.pointer p) = xs[0] := by simpa using this
    exact hx _ (List.getElem_mem hlen) p h2.symm
  · obtain ⟨j, hj⟩ : ∃ j, o + 0 = j + 1 := ⟨o - 1, by omega⟩
    rw [hj] at this
    simp at this
theorem StH.Off.of_bk {w : World} {B bt : Nat} {s : StH} {t : TypeId} {p : Option Addr} (h : s.In w B) (hk : Bk w bt t #[.pointer p]) : s.Off bt := ⟨Go.Proofs.YtmacfoebfpljoaaGreat.Off.of_bk h.rd (by decide) hk (toks_nop _), Go.Proofs.YtmacfoebfpljoaaGreat.Off.of_bk h.rd' (by decide) hk (mks_nop _)⟩
/-- links that lie off a block, kept where another one that they lie off is written -/
theorem LinkAt.grown2 {w w' : World} {B bt bx : Nat} {m : List Rg} {b : Nat} {ks : List Lk} (h : LinkAt w B bx b m ks) (h2 : LinkAt w B bt b m ks) (hg : w.grownBy w' (some bt)) {t : TypeId} {cs : Array Value} (hk : Bk w bt t cs) (ht : t ≠ 291) (hB : B ≤ w.heap.size) : LinkAt w' B bx b m ks := by
  have hne : ∀ {x : Nat} {cs' : Array Value}, Bk w x 291 cs' → some bt ≠ some x := by
    intro x cs' hx e
    injection e with e
    subst e
    have hx' : w.heap[bt]? = some (.cells cs' 291 (0, 0)) := hx
    have hk' : w.heap[bt]? = some (.cells cs t (0, 0)) := hk
    rw [hk'] at hx'
    injection hx' with hx'
    injection hx' with _ e2
    exact ht e2
  have inj : ∀ {x : Nat} {c1 c2 : Array Value}, Bk w x 291 c1 → Bk w x 291 c2 → c1 = c2 := by
    intro x c1 c2 h1 h2
    have h1' : w.heap[x]? = some (.cells c1 291 (0, 0)) := h1
    rw [show w.heap[x]? = some (.cells c2 291 (0, 0)) from h2] at h1'
    injection h1' with h1'
    injection h1' with e
    exact e.symm
  induction ks generalizing b with
  | nil =>
    obtain ⟨h1, A, n, c, v, h3, h4, h5⟩ := h
    obtain ⟨_, A2, n2, c2, v2, g3, g4, g5⟩ := h2
    have e := inj h3 g3
    simp only [Array.mk.injEq, List.cons.injEq, Value.slice.injEq] at e
    obtain ⟨_, ⟨rfl, rfl, rfl⟩, _⟩ := e
    exact ⟨h1, A, n, c, v, h3.grown hg (hne h3), h4.grown hg g5 hB, h5⟩
  | cons k ks ih =>
    obtain ⟨h1, A, n, c, A', n', c', b', h3, h4, h5, h6, h7, h8⟩ := h
    obtain ⟨_, A2, n2, c2, A2', n2', c2', b2', g3, g4, g5, g6, g7, g8⟩ := h2
    have e := inj h3 g3
    simp only [Array.mk.injEq, List.cons.injEq, Value.slice.injEq, Value.pointer.injEq, Option.some.injEq, Addr.mk.injEq] at e
    obtain ⟨⟨rfl, rfl, rfl⟩, ⟨rfl, rfl, rfl⟩, _, ⟨rfl, _⟩, _⟩ := e
    exact ⟨h1, A, n, c, A', n', c', b', h3.grown hg (hne h3), h4.grown hg g6 hB, h5.grown hg g7 hB, h6, h7, ih h8 g8⟩
theorem LinkAt.fresh {w : World} {B bt bx : Nat} {m : List Rg} {b : Nat} {ks : List Lk} (h : LinkAt w B bt b m ks) (hx : B ≤ bx) : LinkAt w B bx b m ks := by
  have off : ∀ {A : Option Addr} {n : Nat} {l : List Rg}, MapAt w B A n l → n = 0 ∨ Off bx A := by
    intro A n l hm
    rcases Nat.eq_zero_or_pos n with h0 | h0
    · exact .inl h0
    · exact .inr (Off.of_rd hm.rd h0 hx)
  induction ks generalizing b with
  | nil =>
    obtain ⟨h1, A, n, c, v, h3, h4, h5⟩ := h
    exact ⟨h1, A, n, c, v, h3, h4, off h4⟩
  | cons k ks ih =>
    obtain ⟨h1, A, n, c, A', n', c', b', h3, h4, h5, h6, h7, h8⟩ := h
    exact ⟨h1, A, n, c, A', n', c', b', h3, h4, h5, off h4, off h5, ih h8⟩
theorem own_bk {w : World} {base size n : Nat} {e : TypeId} {v : Value} {xs : List Value} (h : w.ownsRow base e size v n xs) {g : Nat} (hg : v.ownBlock = some g) : ∃ cs, Bk w g e cs := by
  rcases h.2 with ⟨rfl, _⟩ | ⟨g', cap, cur, rfl, _, hh, _⟩
  · simp [Value.ownBlock] at hg
  · simp [Value.ownBlock] at hg
    subst hg
    exact ⟨_, hh⟩
/-- links kept under an append onto a row that they lie off -/
theorem LinkAt.app {w w' : World} {bx base size n : Nat} {e : TypeId} {v : Value} {xs : List Value} {m : List Rg} {b : Nat} {ks : List Lk} (h : LinkAt w w.heap.size bx b m ks) (ho : w.ownsRow base e size v n xs) (h2 : ∀ g, v.ownBlock = some g → LinkAt w w.heap.size g b m ks) (ht : e ≠ 291) (hg : w.grownBy w' v.ownBlock) : LinkAt w' w'.heap.size bx b m ks := by
  cases hv : v.ownBlock with
  | none =>
    rw [hv] at hg
    exact h.ext (below_of_none hg)
  | some g =>
    rw [hv] at hg
    obtain ⟨cs, hk⟩ := own_bk ho hv
    exact (h.grown2 (h2 g hv) hg hk ht (Nat.le_refl _)).more hg.size
/-- what a taker's step says -/
def TStep (m : List Rg) (ks : List Lk) (x : StC) (bt bl : Nat) (w : World) (e : Ending) (w' : World) : Prop :=
  ∃ (z : StC) (ok : Bool) (A : Option Addr) (n c : Nat) (A' : Option Addr) (n' c' : Nat) (bl' : Nat), e = .returned (.tuple #[.agg (stp z.k z.f z.t z.g z.h z.i z.m z.v A n c A' n' c'), .bool ok]) ∧ (StH.mk A n c A' n' c' z).In w' w'.heap.size ∧
    (stepT m ks x).2 = (if ok = true then some z else none) ∧ w.grownBy w' (some bt) ∧ Bk w' bt 293 #[.pointer (some ⟨bl', 0, none⟩)] ∧ ∀ bx, bx < w.heap.size → LinkAt w w.heap.size bx bl m ks → LinkAt w' w'.heap.size bx bl' m (stepT m ks x).1
set_option maxRecDepth 100000 in
set_option maxHeartbeats 2000000 in
theorem tstep_bad (m : List Rg) (ks : List Lk) (x : StC) (bt bl : Nat) (A : Option Addr) (n c : Nat) (A' : Option Addr) (n' c' : Nat) (w : World) (hk : Bk w bt 293 #[.pointer (some ⟨bl, 0, none⟩)]) (hl : LinkAt w w.heap.size bt bl m ks) (hin : (StH.mk A n c A' n' c' x).In w w.heap.size) (hs : x.sh = false) :
    Calls Tryz.prog 179 #[.pointer (some ⟨bt, 0, none⟩), .agg (stp x.k x.f x.t x.g x.h x.i x.m x.v A n c A' n' c')] w (TStep m ks x bt bl w) := by
  have hsh := fun W (hb : Below w.heap.size w W) => calls_on hb (shape_any x.k x.f x.t x.g x.h x.i x.m x.v A A' n n' c c' W x.sl x.st (by have : n ≤ 1000000 := hin.n; unfold maxLen; omega) (by have : n' ≤ 1000000 := hin.n'; unfold maxLen; omega) ((hin.rd.below hb).more hb.size) ((hin.rd'.below hb).more hb.size))
  have hv : shB x.k x.f x.t x.g x.h x.i x.m x.v n n' = false := by
    have h1 := hin.len
    have h2 := hin.len'
    simp only at h1 h2
    rw [← h1, ← h2]
    exact hs
  have hno : stepT m ks x = (ks, none) := by
    unfold stepT
    rw [if_neg (by simp [hs])]
  rw [hv] at hsh
  have HS := Lib.hid hsh
  have HNO := Lib.hid hno
  have HL := Lib.hid hl
  have HK := Lib.hid hk
  clear hsh hv hno hs hin hl hk
  have k1 : Bk ((w.alloc (.cells (stp x.k x.f x.t x.g x.h x.i x.m x.v A n c A' n' c') 45)).alloc (.cells (stp 0 0 0 0 0 0 0 0 none 0 0 none 0 0) 45)) w.heap.size 45 (stp x.k x.f x.t x.g x.h x.i x.m x.v A n c A' n' c') := (Bk.new w _ _).alloc _
  have k2 : Bk ((w.alloc (.cells (stp x.k x.f x.t x.g x.h x.i x.m x.v A n c A' n' c') 45)).alloc (.cells (stp 0 0 0 0 0 0 0 0 none 0 0 none 0 0) 45)) (w.heap.size + 1) 45 (stp 0 0 0 0 0 0 0 0 none 0 0 none 0 0) := Bk.made _ _ (by simp)
  have hb0 : Below w.heap.size w ((w.alloc (.cells (stp x.k x.f x.t x.g x.h x.i x.m x.v A n c A' n' c') 45)).alloc (.cells (stp 0 0 0 0 0 0 0 0 none 0 0 none 0 0) 45)) := belowA
  go_enter Tryz.func179, Tryz.ntmps179
  go_upto_region 1 with fail
  generalize hw0 : (w.alloc (.cells (stp x.k x.f x.t x.g x.h x.i x.m x.v A n c A' n' c') 45)).alloc (.cells #[.int .i64 0, .int .i64 0, .int .i64 0, .int .i64 0, .int .i64 0, .int .i64 0, .int .i64 0, .int .i64 0, .slice none 0 0, .slice none 0 0] 45) = w0 at *
  obtain ⟨p0, p1, p2, p3, p4, p5, p6, p7, p8, p9⟩ := bk10 k1
  go_wp2_with (go_at_call 57; (refine (HS.out _ hb0).mono ?_); rintro e w1 ⟨rfl, hb1, hz1, hx1⟩; have y2 := k2.ext hx1; have f2 := y2.frozen; have l2 := def_lt' y2; obtain ⟨q0, q1, q2, q3, q4, q5, q6, q7, q8, q9⟩ := bk10 y2)
  have y := stp_set y2 0 0 0 0 0 0 0 0 none 0 0 none 0 0
  obtain ⟨r0, r1, r2, r3, r4, r5, r6, r7, r8, r9⟩ := bk10 y
  have hbe : Below w.heap.size w (set10 w1 (w.heap.size + 1) 0 0 0 0 0 0 0 0 none 0 0 none 0 0) := belowA
  refine bodyPost_ret (v := .tuple #[.agg (stp 0 0 0 0 0 0 0 0 none 0 0 none 0 0), .bool false]) (by simp [results, Tryz.results179, go_sem, r0, r1, r2, r3, r4, r5, r6, r7, r8, r9]) rfl ⟨StC.zero, false, none, 0, 0, none, 0, 0, bl, rfl, ⟨Rd.nil_ _ _ _ _, Rd.nil_ _ _ _ _, by decide, by decide, fun _ => rfl, fun _ => rfl⟩, ?_, gr_of_below hbe, HK.out.ext hbe, ?_⟩
  · rw [HNO.out]; rfl
  · rw [HNO.out]; exact fun bx _ hlx => hlx.ext hbe
section
variable {w w' : World} {base base' size size' n n' : Nat} {e e' : TypeId} {v v' : Value} {xs xs' : List Value}
theorem own_grow (h : w.ownsRow base e size v n xs) {row : Option Nat} (hg : w.grownBy w' row) (hne : ∀ g, row = some g → v.ownBlock ≠ some g) : w'.ownsRow base e size v n xs := by
  obtain ⟨h1, h2⟩ := h
  refine ⟨h1, ?_⟩
  rcases h2 with h2 | ⟨g, cap, cur, hv, hb, hh, r⟩
  · exact .inl h2
  · refine .inr ⟨g, cap, cur, hv, hb, (hg.block g (def_lt' hh) (fun e => hne g e.symm (by rw [hv]; rfl))).trans hh, r⟩
theorem own_type (h1 : w.ownsRow base e size v n xs) (h2 : w.ownsRow base' e' size' v' n' xs') (hne : e ≠ e') : ∀ g, v'.ownBlock = some g → v.ownBlock ≠ some g := by
  intro g hg' hg
  rcases h1.2 with ⟨rfl, _⟩ | ⟨a, cap, cur, rfl, _, hh, _⟩
  · simp [Value.ownBlock] at hg
  · rcases h2.2 with ⟨rfl, _⟩ | ⟨a', cap', cur', rfl, _, hh', _⟩
    · simp [Value.ownBlock] at hg'
    · simp [Value.ownBlock] at hg hg'
      subst hg; subst hg'
      rw [hh] at hh'
      injection hh' with hh'
      injection hh' with _ h3
      exact hne h3
theorem own_len (h : w.ownsRow base e size v n xs) : xs.length = n * size := h.1
end
theorem own_none {w : World} {base size n c : Nat} {e : TypeId} {A : Option Addr} {xs : List Value} (h : w.ownsRow base e size (.slice A n c) n xs) : A = none → n = 0 := by
  rintro rfl
  rcases h.2 with ⟨e1, _⟩ | ⟨g, cap, cur, e1, _⟩
  · injection e1
  · injection e1 with e1
    cases e1
/-- a step whose lists are owned -/
structure StH.Own (w : World) (base : Nat) (s : StH) : Prop where
  o : w.ownsRow base 126 12 (.slice s.A s.n s.c) s.n (toks s.x.sl)
  o' : w.ownsRow base 124 8 (.slice s.A' s.n' s.c') s.n' (mks s.x.st)
  n : s.n ≤ 1000000
  n' : s.n' ≤ 1000000
section
variable {w w' : World} {base : Nat} {s : StH}
theorem StH.Own.in_ (h : s.Own w base) : s.In w w.heap.size := by
  exact ⟨Rd.of_own h.o, Rd.of_own h.o', h.n, h.n', own_none h.o, own_none h.o'⟩
theorem StH.Own.below (h : s.Own w base) (hb : Below w.heap.size w w') : s.Own w' base := ⟨own_below h.o hb, own_below h.o' hb, h.n, h.n'⟩
theorem StH.Own.base_ {base' : Nat} (h : s.Own w base) (hb : base' ≤ base) : s.Own w base' := ⟨own_base h.o hb, own_base h.o' hb, h.n, h.n'⟩
/-- kept where a row of another kind grows -/
theorem StH.Own.grow (h : s.Own w base) {b2 size2 n2 : Nat} {e2 : TypeId} {v2 : Value} {xs2 : List Value} (hr : w.ownsRow b2 e2 size2 v2 n2 xs2) (hg : w.grownBy w' v2.ownBlock) (h1 : 126 ≠ e2) (h2 : 124 ≠ e2) : s.Own w' base :=
  ⟨own_grow h.o hg (own_type h.o hr h1), own_grow h.o' hg (own_type h.o' hr h2), h.n, h.n'⟩
/-- kept where a block of another kind is written -/
theorem StH.Own.grown (h : s.Own w base) {b : Nat} {t : TypeId} {cs : Array Value} (hk : Bk w b t cs) (hg : w.grownBy w' (some b)) (h1 : 126 ≠ t) (h2 : 124 ≠ t) : s.Own w' base :=
  ⟨own_grow h.o hg (fun g e => by injection e with e; subst e; exact own_ne h.o hk h1), own_grow h.o' hg (fun g e => by injection e with e; subst e; exact own_ne h.o' hk h2), h.n, h.n'⟩
end
/-- a group whose steps are owned -/
structure GrH.Own (w : World) (base : Nat) (g : GrH) : Prop where
  o : w.ownsRow base 45 10 (.slice g.A g.n g.c) g.n (sts g.L)
  l : ∀ s ∈ g.L, s.Own w base
  n : g.n ≤ 1000000
section
variable {w w' : World} {base : Nat} {g : GrH}
theorem GrH.Own.in_ (h : g.Own w base) : g.In w w.heap.size := by
  exact ⟨⟨Rd.of_own h.o, fun s hs => (h.l s hs).in_⟩, h.n, own_none h.o⟩
theorem GrH.Own.below (h : g.Own w base) (hb : Below w.heap.size w w') : g.Own w' base := ⟨own_below h.o hb, fun s hs => (h.l s hs).below hb, h.n⟩
theorem GrH.Own.base_ {base' : Nat} (h : g.Own w base) (hb : base' ≤ base) : g.Own w base' := ⟨own_base h.o hb, fun s hs => (h.l s hs).base_ hb, h.n⟩
theorem GrH.Own.grow (h : g.Own w base) {b2 size2 n2 : Nat} {e2 : TypeId} {v2 : Value} {xs2 : List Value} (hr : w.ownsRow b2 e2 size2 v2 n2 xs2) (hg : w.grownBy w' v2.ownBlock) (h0 : 45 ≠ e2) (h1 : 126 ≠ e2) (h2 : 124 ≠ e2) : g.Own w' base :=
  ⟨own_grow h.o hg (own_type h.o hr h0), fun s hs => (h.l s hs).grow hr hg h1 h2, h.n⟩
theorem GrH.Own.grown (h : g.Own w base) {b : Nat} {t : TypeId} {cs : Array Value} (hk : Bk w b t cs) (hg : w.grownBy w' (some b)) (h0 : 45 ≠ t) (h1 : 126 ≠ t) (h2 : 124 ≠ t) : g.Own w' base :=
  ⟨own_grow h.o hg (fun x e => by injection e with e; subst e; exact own_ne h.o hk h0), fun s hs => (h.l s hs).grown hk hg h1 h2, h.n⟩
end
/-- a list comes out, owned -/
def ListOwn (t : TypeId) (size n : Nat) (xs : List Value) (w W : World) (e : Ending) (w' : World) : Prop := ∃ A c, e = .returned (.slice A n c) ∧ w'.ownsRow W.heap.size t size (.slice A n c) n xs ∧ Below w.heap.size w w' ∧ Below W.heap.size W w'
theorem list_own {size n : Nat} {t : TypeId} {xs : List Value} {w W : World} {e : Ending} {w' : World} (hb : Below w.heap.size w W) (h : Cloned t size n xs W e w') : ListOwn t size n xs w W e w' := by
  obtain ⟨v, rfl, ho, hb2⟩ := h
  obtain ⟨A, c, rfl, _, _, h3, h4⟩ := own_form ho
  exact ⟨A, c, rfl, ho, hb.trans (hb2.mono hb.size), hb2⟩
/-- a step comes out, like another, its lists owned -/
def StepOwn (x : StC) (w : World) (e : Ending) (w' : World) : Prop := ∃ A n c A' n' c', e = .returned (.agg (stp x.k x.f x.t x.g x.h x.i x.m x.v A n c A' n' c')) ∧ (StH.mk A n c A' n' c' x).Own w' w.heap.size ∧ Below w.heap.size w w'
theorem set10_own {W : World} {b : Nat} {cs : Array Value} (hk : Bk W b 45 cs) {base size nn : Nat} {e : TypeId} {vv : Value} {xs : List Value} (ho : W.ownsRow base e size vv nn xs) (hne : e ≠ 45) (k f t g h i m v : Int) (A : Option Addr) (n c : Nat) (A' : Option Addr) (n' c' : Nat) : (set10 W b k f t g h i m v A n c A' n' c').ownsRow base e size vv nn xs :=
  own_grow ho (set10_gr (row := some b) (World.grownBy.refl W _) (.inl rfl) k f t g h i m v A n c A' n' c') (fun x e => by injection e with e; subst e; exact own_ne ho hk hne)
set_option maxRecDepth 100000 in
set_option maxHeartbeats 4000000 in
theorem own_any2 (x : StC) (A : Option Addr) (n c : Nat) (A' : Option Addr) (n' c' : Nat) (w : World) (h : (StH.mk A n c A' n' c' x).In w w.heap.size) :
    Calls Tryz.prog 130 #[.agg (stp x.k x.f x.t x.g x.h x.i x.m x.v A n c A' n' c')] w (StepOwn x w) := by
  have h1 := fun W (hb : Below w.heap.size w W) => (clone_tok A n c x.sl W ((h.rd.below hb).more hb.size) h.A h.n).mono fun _ _ => list_own hb
  have h2 := fun W (hb : Below w.heap.size w W) => (clone_mk A' n' c' x.st W ((h.rd'.below hb).more hb.size) h.A' h.n').mono fun _ _ => list_own hb
  have H1 := Lib.hid h1
  have H2 := Lib.hid h2
  have hn1 := h.n
  have hn2 := h.n'
  obtain ⟨xk, xf, xt, xg, xh, xi, xm, xv, sl, st⟩ := x
  simp only at *
  clear h h1 h2
  have k1 : Bk ((w.alloc (.cells (stp xk xf xt xg xh xi xm xv A n c A' n' c') 45)).alloc (.cells (stp 0 0 0 0 0 0 0 0 none 0 0 none 0 0) 45)) w.heap.size 45 (stp xk xf xt xg xh xi xm xv A n c A' n' c') := (Bk.new w _ _).alloc _
  have k2 : Bk ((w.alloc (.cells (stp xk xf xt xg xh xi xm xv A n c A' n' c') 45)).alloc (.cells (stp 0 0 0 0 0 0 0 0 none 0 0 none 0 0) 45)) (w.heap.size + 1) 45 (stp 0 0 0 0 0 0 0 0 none 0 0 none 0 0) := Bk.made _ _ (by simp)
  have hb0 : Below w.heap.size w ((w.alloc (.cells (stp xk xf xt xg xh xi xm xv A n c A' n' c') 45)).alloc (.cells (stp 0 0 0 0 0 0 0 0 none 0 0 none 0 0) 45)) := belowA
  go_enter Tryz.func130, Tryz.ntmps130
  go_upto_region 1 with fail
  have k2 : Bk ((w.alloc (.cells (stp xk xf xt xg xh xi xm xv A n c A' n' c') 45)).alloc (.cells #[.int .i64 0, .int .i64 0, .int .i64 0, .int .i64 0, .int .i64 0, .int .i64 0, .int .i64 0, .int .i64 0, .slice none 0 0, .slice none 0 0] 45)) (w.heap.size + 1) 45 (stp 0 0 0 0 0 0 0 0 none 0 0 none 0 0) := k2
  generalize (w.alloc (.cells (stp xk xf xt xg xh xi xm xv A n c A' n' c') 45)).alloc (.cells #[.int .i64 0, .int .i64 0, .int .i64 0, .int .i64 0, .int .i64 0, .int .i64 0, .int .i64 0, .int .i64 0, .slice none 0 0, .slice none 0 0] 45) = w0 at *
  have hF : ∀ w', Bk w' w.heap.size 45 (stp xk xf xt xg xh xi xm xv A n c A' n' c') → w'.cell? ⟨w.heap.size, 8, none⟩ = some (.slice A n c) ∧ w'.cell? ⟨w.heap.size, 9, none⟩ = some (.slice A' n' c') := fun w' h => ⟨h.cell 8, h.cell 9⟩
  have HF := Lib.hid hF
  have hz0 := hb0.size
  clear hF
  refine wp_normal ?_
  refine region_L (S := fun w' => Bk w' w.heap.size 45 (stp xk xf xt xg xh xi xm xv A n c A' n' c')) [7, 8, 9] (by kernel_rfl) k1.drew (fun hHeld => ?_)
  (refine tkL 0 ?_; refine tkL 1 ?_; refine tkL 3 ?_; refine tkL 4 ?_)
  refine nxL 2 (fun K hK => ?_)
  go_simp
  go_at_call 172
  refine (H1.out _ hb0.drew).mono ?_
  rintro e w1 ⟨A2, c2, rfl, r1, b1, b1'⟩
  have x1 : Bk w1 w.heap.size 45 (stp xk xf xt xg xh xi xm xv A n c A' n' c') := k1.drew.ext b1'
  have y1 : Bk w1 (w.heap.size + 1) 45 (stp 0 0 0 0 0 0 0 0 none 0 0 none 0 0) := k2.drew.ext b1'
  refine hK.out _ _ x1 (fun hHeld => ?_)
  clear hK K; refine puL ?_
  (refine tkL 6 ?_)
  refine nxL 5 (fun K hK => ?_)
  go_simp
  go_at_call 173
  refine (H2.out _ b1).mono ?_
  rintro e w2 ⟨A2', c2', rfl, r2, b2, b2'⟩
  have x2 := x1.ext b2'
  have y2 := y1.ext b2'
  have r1' := own_below r1 b2'
  refine hK.out _ _ x2 (fun hHeld => ?_)
  clear hK K; refine puL ?_
  have f1 := x2.frozen; have f2 := y2.frozen; have l1 := def_lt' x2; have l2 := def_lt' y2
  have p0 := x2.cell 0; have p1 := x2.cell 1; have p2 := x2.cell 2; have p3 := x2.cell 3; have p4 := x2.cell 4; have p5 := x2.cell 5; have p6 := x2.cell 6; have p7 := x2.cell 7; have p8 := x2.cell 8; have p9 := x2.cell 9
  have q0 := y2.cell 0; have q1 := y2.cell 1; have q2 := y2.cell 2; have q3 := y2.cell 3; have q4 := y2.cell 4; have q5 := y2.cell 5; have q6 := y2.cell 6; have q7 := y2.cell 7; have q8 := y2.cell 8; have q9 := y2.cell 9
  dsimp [stp] at p0 p1 p2 p3 p4 p5 p6 p7 p8 p9 q0 q1 q2 q3 q4 q5 q6 q7 q8 q9
  refine ltL 7 (fun K hK => ?_)
  go_simp
  refine hK.out _ _ ?_
  clear hK K; refine puL ?_
  refine ltL 8 (fun K hK => ?_)
  go_simp
  refine hK.out _ _ ?_
  clear hK K; refine puL ?_
  refine ltL 9 (fun K hK => ?_)
  go_simp
  refine hK.out _ _ ?_
  clear hK K; refine puL ?_
  refine anyL_done (by kernel_rfl) ?_
  go_wp2
  have y := stp_set ((y2.far (p := ⟨w.heap.size, 8, none⟩) (by simp <;> omega) (.slice A2 n c2)).far (p := ⟨w.heap.size, 9, none⟩) (by simp <;> omega) (.slice A2' n' c2')) xk xf xt xg xh xi xm xv A2 n c2 A2' n' c2'
  have hz01 : w0.heap.size ≤ w1.heap.size := by have := b1'.size; simpa using this
  have hx8 : Bk (w2.setCell ⟨w.heap.size, 8, none⟩ (.slice A2 n c2)) w.heap.size 45 _ := x2.set_ 8 _
  have ra := ownsRow_setCell_other (ownsRow_setCell_other r1' (own_ne r1' x2 (by decide)) (a := ⟨w.heap.size, 8, none⟩) (.slice A2 n c2)) (own_ne (ownsRow_setCell_other r1' (own_ne r1' x2 (by decide)) (a := ⟨w.heap.size, 8, none⟩) (.slice A2 n c2)) hx8 (by decide)) (a := ⟨w.heap.size, 9, none⟩) (.slice A2' n' c2')
  have rb := ownsRow_setCell_other (ownsRow_setCell_other r2 (own_ne r2 x2 (by decide)) (a := ⟨w.heap.size, 8, none⟩) (.slice A2 n c2)) (own_ne (ownsRow_setCell_other r2 (own_ne r2 x2 (by decide)) (a := ⟨w.heap.size, 8, none⟩) (.slice A2 n c2)) hx8 (by decide)) (a := ⟨w.heap.size, 9, none⟩) (.slice A2' n' c2')
  have y29 := (y2.far (p := ⟨w.heap.size, 8, none⟩) (by simp <;> omega) (.slice A2 n c2)).far (p := ⟨w.heap.size, 9, none⟩) (by simp <;> omega) (.slice A2' n' c2')
  have ra2 := own_base (set10_own y29 ra (by decide) xk xf xt xg xh xi xm xv A2 n c2 A2' n' c2') (show w.heap.size ≤ w0.drew.heap.size by simpa using hz0)
  have rb2 := own_base (set10_own y29 rb (by decide) xk xf xt xg xh xi xm xv A2 n c2 A2' n' c2') (Nat.le_trans hz0 hz01)
  have hbe : Below w.heap.size w (set10 ((w2.setCell ⟨w.heap.size, 8, none⟩ (.slice A2 n c2)).setCell ⟨w.heap.size, 9, none⟩ (.slice A2' n' c2')) (w.heap.size + 1) xk xf xt xg xh xi xm xv A2 n c2 A2' n' c2') := belowA
  have RA := Lib.hid ra2
  have RB := Lib.hid rb2
  have HBE := Lib.hid hbe
  clear ra rb ra2 rb2 hbe y29 hx8 r1 r1' r2
  obtain ⟨q0, q1, q2, q3, q4, q5, q6, q7, q8, q9⟩ := bk10 y
  refine bodyPost_ret (v := .agg (stp xk xf xt xg xh xi xm xv A2 n c2 A2' n' c2')) (by simp [results, Tryz.results130, go_sem, q0, q1, q2, q3, q4, q5, q6, q7, q8, q9]) rfl ⟨A2, n, c2, A2', n', c2', rfl, ⟨RA.out, RB.out, hn1, hn2⟩, HBE.out⟩
/-- what a step's lists are, of any size -/
structure StH.Raw (w : World) (B : Nat) (s : StH) : Prop where
  rd : Rd w B 12 s.A s.n (toks s.x.sl)
  rd' : Rd w B 8 s.A' s.n' (mks s.x.st)
  n : s.n ≤ maxLen
  n' : s.n' ≤ maxLen
  A : s.A = none → s.n = 0
  A' : s.A' = none → s.n' = 0
def StsRaw (w : World) (B : Nat) (A : Option Addr) (n : Nat) (L : List StH) : Prop := Rd w B 10 A n (sts L) ∧ ∀ s ∈ L, s.Raw w B
structure GrH.Raw (w : World) (B : Nat) (g : GrH) : Prop where
  sts : StsRaw w B g.A g.n g.L
  n : g.n ≤ maxLen
  A : g.A = none → g.n = 0
  lost : -9223372036854775808 ≤ g.lost ∧ g.lost ≤ 9223372036854775807
def GrsRaw (w : World) (B : Nat) (A : Option Addr) (n : Nat) (L : List GrH) : Prop := Rd w B 8 A n (grs L) ∧ ∀ g ∈ L, g.Raw w B
section
variable {w w' : World} {B B' n : Nat} {A : Option Addr} {L : List StH} {s : StH}
theorem StH.Raw.below (h : s.Raw w B) (hb : Below B w w') : s.Raw w' B := ⟨h.rd.below hb, h.rd'.below hb, h.n, h.n', h.A, h.A'⟩
theorem StH.Raw.more (h : s.Raw w B) (hb : B ≤ B') : s.Raw w B' := ⟨h.rd.more hb, h.rd'.more hb, h.n, h.n', h.A, h.A'⟩
theorem StH.Raw.in_ (h : s.Raw w B) (h1 : s.n ≤ 1000000) (h2 : s.n' ≤ 1000000) : s.In w B := ⟨h.rd, h.rd', h1, h2, h.A, h.A'⟩
theorem StsRaw.below (h : StsRaw w B A n L) (hb : Below B w w') : StsRaw w' B A n L := ⟨h.1.below hb, fun x hx => (h.2 x hx).below hb⟩
theorem StsRaw.more (h : StsRaw w B A n L) (hb : B ≤ B') : StsRaw w B' A n L := ⟨h.1.more hb, fun x hx => (h.2 x hx).more hb⟩
theorem StsRaw.len (h : StsRaw w B A n L) : L.length = n := by
  have := h.1.1
  rw [sts_len] at this
  omega
theorem StsRaw.at_ {k : Nat} (h : StsRaw w B A n L) (hx : L[k]? = some s) : s.Raw w B ∧ ∃ b o, A = some ⟨b, o, none⟩ ∧ b < B ∧ ∀ i, i < 10 → w.cell? ⟨b, o + k * 10 + i, none⟩ = s.cells[i]? :=
  ⟨h.2 s (List.mem_of_getElem? hx), h.1.el StH.cells (fun _ => rfl) h.len hx⟩
theorem StsRaw.in_ (h : StsRaw w B A n L) (h1 : ∀ s ∈ L, s.n ≤ 1000000 ∧ s.n' ≤ 1000000) : StsIn w B A n L := ⟨h.1, fun s hs => (h.2 s hs).in_ (h1 s hs).1 (h1 s hs).2⟩
end
section
variable {w w' : World} {B B' n : Nat} {A : Option Addr} {L : List GrH} {g : GrH}
theorem GrH.Raw.below (h : g.Raw w B) (hb : Below B w w') : g.Raw w' B := ⟨h.sts.below hb, h.n, h.A, h.lost⟩
theorem GrH.Raw.more (h : g.Raw w B) (hb : B ≤ B') : g.Raw w B' := ⟨h.sts.more hb, h.n, h.A, h.lost⟩
theorem GrsRaw.below (h : GrsRaw w B A n L) (hb : Below B w w') : GrsRaw w' B A n L := ⟨h.1.below hb, fun x hx => (h.2 x hx).below hb⟩
theorem GrsRaw.more (h : GrsRaw w B A n L) (hb : B ≤ B') : GrsRaw w B' A n L := ⟨h.1.more hb, fun x hx => (h.2 x hx).more hb⟩
theorem GrsRaw.len (h : GrsRaw w B A n L) : L.length = n := by
  have := h.1.1
  rw [grs_len] at this
  omega
theorem GrsRaw.at_ {k : Nat} (h : GrsRaw w B A n L) (hx : L[k]? = some g) : g.Raw w B ∧ ∃ b o, A = some ⟨b, o, none⟩ ∧ b < B ∧ ∀ i, i < 8 → w.cell? ⟨b, o + k * 8 + i, none⟩ = g.cells[i]? :=
  ⟨h.2 g (List.mem_of_getElem? hx), h.1.el GrH.cells (fun _ => rfl) h.len hx⟩
/-- small enough to be gone through -/
def Small (L : List GrH) : Prop := ∀ g ∈ L, g.n ≤ 20 ∧ ∀ s ∈ g.L, s.n ≤ 60 ∧ s.n' ≤ 150
theorem GrsRaw.in_ (h : GrsRaw w B A n L) (h1 : Small L) : GrsIn w B A n L := ⟨h.1, fun g hg => ⟨(h.2 g hg).sts.in_ (fun s hs => by have := (h1 g hg).2 s hs; omega), by have := (h1 g hg).1; omega, (h.2 g hg).A⟩⟩
end
set_option maxHeartbeats 400000 in
theorem few25_any (k f t g h i m v : Int) (A A' : Option Addr) (n n' c c' : Nat) (w : World) :
    Calls Tryz.prog 18 #[.agg #[.int .i64 k, .int .i64 f, .int .i64 t, .int .i64 g, .int .i64 h, .int .i64 i, .int .i64 m, .int .i64 v, .slice A n c, .slice A' n' c']] w fun e w' => e = .returned (.bool (decide (n ≤ 60 ∧ n' ≤ 150))) ∧ Below w.heap.size w w' := by
  go_enter Tryz.func18, Tryz.ntmps18
  go_wp2
  all_goals go_ret
  all_goals exact ⟨ret_bool (by rw [Bool.eq_iff_iff]; simp; try omega), belowA⟩
/-- a Boolean comes out; if it is true, so is P -/
def SaysIf (P : Prop) (w : World) (e : Ending) (w' : World) : Prop := ∃ b : Bool, e = .returned (.bool b) ∧ (b = true → P) ∧ Below w.heap.size w w'
def SmallS (L : List StH) : Prop := ∀ s ∈ L, s.n ≤ 60 ∧ s.n' ≤ 150
theorem small_take {L : List StH} {q : Nat} {s : StH} (h : SmallS (L.take q)) (hx : L[q]? = some s) (h1 : s.n ≤ 60 ∧ s.n' ≤ 150) : SmallS (L.take (q + 1)) := by
  intro y hy
  rw [List.take_add_one, hx] at hy
  rcases List.mem_append.1 hy with hy | hy
  · exact h y hy
  · simp at hy; subst hy; exact h1
set_option maxRecDepth 100000 in
set_option maxHeartbeats 4000000 in
theorem few27_any (A : Option Addr) (n c : Nat) (L : List StH) (w : World) (h : StsRaw w w.heap.size A n L) (hn : n ≤ maxLen) :
    Calls Tryz.prog 9 #[.slice A n c] w (SaysIf (n ≤ 20 ∧ SmallS L) w) := by
  have hlen := h.len
  have H := Lib.hid h
  have HLEN := Lib.hid hlen
  clear h hlen
  unfold maxLen at hn
  go_enter Tryz.func9, Tryz.ntmps9
  go_wp2
  go_loopw [3] (fun j wr => ∃ q : Nat, q ≤ n ∧ q ≤ 20 ∧ j = .int .i64 q ∧ Hid (SmallS (L.take q)) ∧ Below w.heap.size w wr) (fun j _ => n - (intOf j).toNat)
  case atStart => exact ⟨0, by omega, by omega, rfl, Lib.hid (fun s hs => by simp at hs), Below.refl _ _⟩
  case round =>
    obtain ⟨q, hq, hq20, rfl, hsm, hbr⟩ := hrel
    by_cases hqn : q < n
    · have e1 : (q : Int) < n := by omega
      by_cases h20 : q < 20
      · have e2 : (q : Int) < 20 := by omega
        obtain ⟨s, hx⟩ : ∃ s, L[q]? = some s := ⟨_, List.getElem?_eq_getElem (by have := HLEN.out; omega)⟩
        obtain ⟨sin, b, o, rfl, hb, hcc⟩ := StsRaw.at_ (H.out.below hbr) hx
        obtain ⟨sA, sn, sc, sA', sn', sc', ⟨xk, xf, xt, xg, xh, xi, xm, xv, xsl, xst⟩⟩ := s
        have c0 := hcc 0 (by omega); have c1 := hcc 1 (by omega); have c2 := hcc 2 (by omega); have c3 := hcc 3 (by omega); have c4 := hcc 4 (by omega); have c5 := hcc 5 (by omega); have c6 := hcc 6 (by omega); have c7 := hcc 7 (by omega); have c8 := hcc 8 (by omega); have c9 := hcc 9 (by omega)
        dsimp [StH.cells] at c0 c1 c2 c3 c4 c5 c6 c7 c8 c9
        have hfw := few25_any xk xf xt xg xh xi xm xv sA sA' sn sn' sc sc' wr
        have HX := Lib.hid hx
        clear hx hcc sin
        cases hfe : decide (sn ≤ 60 ∧ sn' ≤ 150) with
        | false =>
          rw [hfe] at hfw
          have HFW := Lib.hid hfw
          clear hfw hfe
          go_wp2_with (go_at_call 18; (refine HFW.out.mono ?_); rintro e w1 ⟨rfl, hb1⟩)
          go_ret
          exact ⟨false, rfl, fun h => (by cases h), hbr.trans (hb1.mono hbr.size)⟩
        | true =>
          rw [hfe] at hfw
          have HFW := Lib.hid hfw
          have hfe := Lib.hid (of_decide_eq_true hfe)
          clear hfw
          go_wp2_with (go_at_call 18; (refine HFW.out.mono ?_); rintro e w1 ⟨rfl, hb1⟩)
          go_roundw
          case rel => exact ⟨q + 1, by omega, by omega, by go_num, Lib.hid (small_take hsm.out HX.out hfe.out), hbr.trans (hb1.mono hbr.size)⟩
          case measure => simp [intOf]; omega
      · obtain rfl : q = 20 := by omega
        have e3 : ¬ (n : Int) ≤ 20 := by omega
        go_wp2
        go_ret
        exact ⟨false, rfl, fun h => (by cases h), hbr⟩
    · obtain rfl : q = n := by omega
      have e3 : (q : Int) ≤ 20 := by omega
      go_wp2
      go_ret
      refine ⟨true, rfl, fun _ => ⟨by omega, ?_⟩, hbr⟩
      have := hsm.out
      rwa [List.take_of_length_le (by rw [HLEN.out]; omega)] at this
def tot (L : List GrH) : Nat := (L.map GrH.n).sum
theorem info_group : (Tryz.prog.info? 76).map (fun i => (i.zero, i.size, i.bytes)) = some (some (.agg #[.slice none 0 0, .int .i64 0, .int .i64 0, .int .i64 0, .int .i64 0, .int .i64 0, .int .i64 0, .int .i64 0]), 8, 80) := by kernel_rfl
/-- the eight cells of a group -/
abbrev grp (v : Value) (pk pa pb bk ba bb lost : Int) : Array Value := #[v, .int .i64 pk, .int .i64 pa, .int .i64 pb, .int .i64 bk, .int .i64 ba, .int .i64 bb, .int .i64 lost]
theorem grs_snoc {L : List GrH} {q : Nat} {g : GrH} (hx : L[q]? = some g) : grs (L.take (q + 1)) = grs (L.take q) ++ g.cells := by
  rw [List.take_add_one, hx]
  simp [grs]
set_option maxRecDepth 100000 in
set_option maxHeartbeats 4000000 in
theorem theirs_any (A : Option Addr) (n c : Nat) (L : List GrH) (w : World) (h : GrsRaw w w.heap.size A n L) (hn : n ≤ 1000) :
    Calls Tryz.prog 84 #[.slice A n c] w fun e w' => ∃ v, e = .returned v ∧ w'.ownsRow w.heap.size 76 8 v n (grs L) ∧ Below w.heap.size w w' := by
  have hlen := h.len
  have H := Lib.hid h
  have HLEN := Lib.hid hlen
  clear h hlen
  go_enter Tryz.func84, Tryz.ntmps84
  go_wp2
  go_loopw [3, 4] (fun v j wr => ∃ q : Nat, q ≤ n ∧ j = .int .i64 q ∧ Below w.heap.size w wr ∧ wr.ownsRow w.heap.size 76 8 v q (grs (L.take q))) (fun _ j _ => n - (intOf j).toNat)
  case atStart => exact ⟨0, by omega, rfl, Below.refl _ _, World.ownsRow_nil _ _ _ _⟩
  case round =>
    obtain ⟨q, hq, rfl, hbr, hown⟩ := hrel
    by_cases hqn : q < n
    · obtain ⟨g, hx⟩ : ∃ g, L[q]? = some g := ⟨_, List.getElem?_eq_getElem (by have := HLEN.out; omega)⟩
      obtain ⟨gin, b, o, rfl, hb, hcc⟩ := GrsRaw.at_ H.out hx
      have hgs := grs_snoc hx
      have HGS := Lib.hid hgs
      have HB0 := hbr.size
      have hF : ∀ w', Below w.heap.size w w' → w'.cell? ⟨b, o + q * 8, none⟩ = some (.slice g.A g.n g.c) ∧ w'.cell? ⟨b, o + q * 8 + 1, none⟩ = some (.int .i64 g.pin.k) ∧ w'.cell? ⟨b, o + q * 8 + 2, none⟩ = some (.int .i64 g.pin.a) ∧ w'.cell? ⟨b, o + q * 8 + 3, none⟩ = some (.int .i64 g.pin.b) ∧ w'.cell? ⟨b, o + q * 8 + 4, none⟩ = some (.int .i64 g.back.k) ∧ w'.cell? ⟨b, o + q * 8 + 5, none⟩ = some (.int .i64 g.back.a) ∧ w'.cell? ⟨b, o + q * 8 + 6, none⟩ = some (.int .i64 g.back.b) ∧ w'.cell? ⟨b, o + q * 8 + 7, none⟩ = some (.int .i64 g.lost) := fun w' hb' => ⟨(hb'.cell (by simpa using hb)).trans (hcc 0 (by omega)), (hb'.cell (by simpa using hb)).trans (hcc 1 (by omega)), (hb'.cell (by simpa using hb)).trans (hcc 2 (by omega)), (hb'.cell (by simpa using hb)).trans (hcc 3 (by omega)), (hb'.cell (by simpa using hb)).trans (hcc 4 (by omega)), (hb'.cell (by simpa using hb)).trans (hcc 5 (by omega)), (hb'.cell (by simpa using hb)).trans (hcc 6 (by omega)), (hb'.cell (by simpa using hb)).trans (hcc 7 (by omega))⟩
      have HF := Lib.hid hF
      obtain ⟨gA, gn, gc, gL, ⟨pk, pa, pb⟩, ⟨bk, ba, bb⟩, glost⟩ := g
      dsimp only at HF
      have e3 : (q : Int) < n := by omega
      clear hx hcc hF gin hgs
      go_upto_region 5 with fail
      refine wp_normal ?_
      refine wp_region_held_drew (S := fun w' => Below w.heap.size w w') (by kernel_rfl) hbr.drew (fun hHeld => ?_)
      (refine tkH 0 ?_; refine tkH 1 ?_; refine tkH 2 ?_; refine tkH 3 ?_; refine tkH 4 ?_; refine tkH 5 ?_; refine tkH 6 ?_; refine tkH 7 ?_; refine tkH 8 ?_; refine tkH 9 ?_; refine tkH 10 ?_; refine tkH 11 ?_; refine tkH 12 ?_; refine tkH 13 ?_; refine tkH 14 ?_; refine tkH 15 ?_; refine tkH 16 ?_; refine tkH 17 ?_; refine tkH 18 ?_; refine tkH 19 ?_; refine tkH 20 ?_; refine tkH 21 ?_)
      refine nxH 22 (fun K hK => ?_)
      go_simp
      refine hK.out _ _ belowA (fun hHeld => ?_)
      clear hK K; refine puH ?_
      refine nxH 23 (fun K hK => ?_)
      refine app_at_step Tryz.underlying78 info_group rfl (by decide) w.heap.size _ q _ (World.ownsRow.alloc (w := wr) hown _) (by unfold maxLen; omega) (by omega) (by simp; omega) wr.heap.size (grp (.slice gA gn gc) pk pa pb bk ba bb glost) (Bk.drew (Bk.new wr 76 _)) rfl (by simp [Value.oneCell']) rfl _ _ rfl rfl rfl ?_
      intro g4 cap4 w4 hown4 hgr4 hat4 hlt4
      have own1 : (wr.alloc (.cells (grp (.slice gA gn gc) pk pa pb bk ba bb glost) 76)).drew.ownsRow w.heap.size 76 8 _ q (grs (L.take q)) := World.ownsRow.alloc (w := wr) hown _
      have hb1 : Below w.heap.size w (wr.alloc (.cells (grp (.slice gA gn gc) pk pa pb bk ba bb glost) 76)).drew := belowA
      have hb4 := below_own hb1 own1 hgr4 (by simp; omega) (Nat.le_refl _)
      refine hK.out _ _ hb4 (fun hHeld => ?_)
      clear hK K; refine puH ?_
      (refine tkH 24 ?_)
      refine wpAnyH_done (by kernel_rfl) ?_ _
      go_wp2
      go_roundw
      case rel =>
        refine ⟨q + 1, by omega, by go_num, hb4, ?_⟩
        rw [HGS.out]
        exact hown4
      case measure => simp [intOf]; omega
    · obtain rfl : q = n := by omega
      rw [List.take_of_length_le (by rw [HLEN.out]; omega)] at hown
      go_wp2
      go_ret
      exact ⟨_, rfl, hown, hbr⟩
theorem GrsRaw.ext {w w' : World} {n : Nat} {A : Option Addr} {L : List GrH} (h : GrsRaw w w.heap.size A n L) (hb : Below w.heap.size w w') : GrsRaw w' w'.heap.size A n L := ⟨(h.1.below hb).more hb.size, fun g hg => ⟨((h.2 g hg).sts.below hb).more hb.size, (h.2 g hg).n, (h.2 g hg).A, (h.2 g hg).lost⟩⟩
/-- groups that were read once more -/
theorem grs_in {w w' : World} {v : Value} {base n B : Nat} {A : Option Addr} {L : List GrH} (h : GrsRaw w B A n L) (hs : Small L) (ho : w'.ownsRow base 76 8 v n (grs L)) (hb : Below B w w') (hB : B ≤ w'.heap.size) : ∃ A2 c2, v = .slice A2 n c2 ∧ GrsIn w' w'.heap.size A2 n L := by
  obtain ⟨A2, c2, rfl, _, _, _, h4⟩ := own_form ho
  exact ⟨A2, c2, rfl, h4, fun g hg => (((h.in_ hs).below hb).2 g hg).more hB⟩
theorem info_step : (Tryz.prog.info? 45).map (fun i => (i.zero, i.size, i.bytes)) = some (some (.agg (stp 0 0 0 0 0 0 0 0 none 0 0 none 0 0)), 10, 112) := by kernel_rfl
/-- groups come out, owned -/
def GrsOut (V : List GrC) (w : World) (e : Ending) (w' : World) : Prop := ∃ v L', e = .returned v ∧ w'.ownsRow w.heap.size 76 8 v L'.length (grs L') ∧ (∀ g ∈ L', g.Own w' w.heap.size) ∧ L'.map GrH.val = V ∧ Below w.heap.size w w'
set_option maxRecDepth 100000 in
set_option maxHeartbeats 8000000 in
theorem copy_any (A : Option Addr) (n c : Nat) (L : List GrH) (w : World) (h : GrsIn w w.heap.size A n L) (hn : n ≤ 1000) (hs : ∀ g ∈ L, g.n ≤ 1000) :
    Calls Tryz.prog 75 #[.slice A n c] w (GrsOut (L.map GrH.val) w) := by
  have hlen := h.len
  have H := Lib.hid h
  have HS := Lib.hid hs
  have HLEN := Lib.hid hlen
  clear h hs hlen
  go_enter Tryz.func75, Tryz.ntmps75
  go_wp2
  go_loopw [3, 11] (fun v j wr => ∃ (q : Nat) (Lo : List GrH), q ≤ n ∧ j = .int .i64 q ∧ Hid (Lo.map GrH.val = (L.take q).map GrH.val) ∧ Below w.heap.size w wr ∧ wr.ownsRow w.heap.size 76 8 v Lo.length (grs Lo) ∧ Hid (∀ g ∈ Lo, g.Own wr w.heap.size)) (fun _ j _ => n - (intOf j).toNat)
  case atStart => exact ⟨0, [], by omega, rfl, Lib.hid (by simp), Below.refl _ _, World.ownsRow_nil _ _ _ _, Lib.hid (by simp)⟩
  case round =>
    rename World => wo
    obtain ⟨q, Lo, hq, rfl, hval, hbr, hown, hLo⟩ := hrel
    by_cases hqn : q < n
    · obtain ⟨g, hx⟩ : ∃ g, L[q]? = some g := ⟨_, List.getElem?_eq_getElem (by have := HLEN.out; omega)⟩
      obtain ⟨gin, b, o, rfl, hb, hcc⟩ := (H.out.below hbr).at_ hx
      have hgn := HS.out g (List.mem_of_getElem? hx)
      have hqv : (L.take (q + 1)).map GrH.val = (L.take q).map GrH.val ++ [g.val] := by rw [List.take_add_one, hx]; simp
      have HQV := Lib.hid hqv
      have gin0 := (H.out.2 g (List.mem_of_getElem? hx))
      have hlo : Lo.length = q := by
        have := congrArg List.length hval.out
        simp only [List.length_map, List.length_take] at this
        have := HLEN.out
        omega
      have HLO := Lib.hid hlo
      clear hlo
      obtain ⟨gA, gn, gc, gL, ⟨pk, pa, pb⟩, ⟨bk, ba, bb⟩, glost⟩ := g
      have d0 := hcc 0 (by omega); have d1 := hcc 1 (by omega); have d2 := hcc 2 (by omega); have d3 := hcc 3 (by omega); have d4 := hcc 4 (by omega); have d5 := hcc 5 (by omega); have d6 := hcc 6 (by omega); have d7 := hcc 7 (by omega)
      dsimp [GrH.cells] at d0 d1 d2 d3 d4 d5 d6 d7 hgn
      have e3 : (q : Int) < n := by omega
      have hbw := hbr.size
      have GIN := Lib.hid gin0
      have hglen : gL.length = gn := gin0.sts.len
      have k6 : Bk ((wo.alloc (.cells #[.slice gA gn gc, .int .i64 pk, .int .i64 pa, .int .i64 pb, .int .i64 bk, .int .i64 ba, .int .i64 bb, .int .i64 glost] 76)).alloc (.cells #[.slice none 0 0, .int .i64 pk, .int .i64 pa, .int .i64 pb, .int .i64 bk, .int .i64 ba, .int .i64 bb, .int .i64 glost] 76)) (wo.heap.size + 1) 76 (grp (.slice none 0 0) pk pa pb bk ba bb glost) := Bk.made _ _ (by simp)
      have hb6 : Below wo.heap.size wo ((wo.alloc (.cells #[.slice gA gn gc, .int .i64 pk, .int .i64 pa, .int .i64 pb, .int .i64 bk, .int .i64 ba, .int .i64 bb, .int .i64 glost] 76)).alloc (.cells #[.slice none 0 0, .int .i64 pk, .int .i64 pa, .int .i64 pb, .int .i64 bk, .int .i64 ba, .int .i64 bb, .int .i64 glost] 76)) := belowA
      clear hx hcc hqv gin gin0
      go_wp2
      generalize (wo.alloc (.cells #[.slice gA gn gc, .int .i64 pk, .int .i64 pa, .int .i64 pb, .int .i64 bk, .int .i64 ba, .int .i64 bb, .int .i64 glost] 76)).alloc (.cells #[.slice none 0 0, .int .i64 pk, .int .i64 pa, .int .i64 pb, .int .i64 bk, .int .i64 ba, .int .i64 bb, .int .i64 glost] 76) = w0 at *
      go_loopw [20] (fun j wr => ∃ (p : Nat) (Lp : List StH) (v5 : Value), p ≤ gn ∧ j = .int .i64 p ∧ Hid (Lp.map StH.x = (gL.take p).map StH.x) ∧ Below wo.heap.size wo wr ∧ Bk wr (wo.heap.size + 1) 76 (grp v5 pk pa pb bk ba bb glost) ∧ wr.ownsRow wo.heap.size 45 10 v5 Lp.length (sts Lp) ∧ Hid (∀ s ∈ Lp, s.Own wr wo.heap.size)) (fun j _ => gn - (intOf j).toNat)
      case atStart => exact ⟨0, [], _, by omega, rfl, Lib.hid (by simp), hb6, k6, World.ownsRow_nil _ _ _ _, Lib.hid (by simp)⟩
      case round =>
        obtain ⟨p, Lp, v5, hp, rfl, hpv, hbq, k6, hown5, hLp⟩ := hrel
        by_cases hpn : p < gn
        · obtain ⟨s, hxs⟩ : ∃ s, gL[p]? = some s := ⟨_, List.getElem?_eq_getElem (by omega)⟩
          have hbwq : Below w.heap.size w wr := hbr.trans (hbq.mono hbw)
          obtain ⟨sin, bs, os, rfl, hbs, hcs⟩ := (GIN.out.sts.below hbwq).at_ hxs
          have hpv2 : (gL.take (p + 1)).map StH.x = (gL.take p).map StH.x ++ [s.x] := by rw [List.take_add_one, hxs]; simp
          have HPV2 := Lib.hid hpv2
          have hlp : Lp.length = p := by
            have := congrArg List.length hpv.out
            simp only [List.length_map, List.length_take] at this
            omega
          have HLP := Lib.hid hlp
          clear hlp
          obtain ⟨sA, sn, sc, sA', sn', sc', ⟨xk, xf, xt, xg, xh, xi, xm, xv, xsl, xst⟩⟩ := s
          have c0 := hcs 0 (by omega); have c1 := hcs 1 (by omega); have c2 := hcs 2 (by omega); have c3 := hcs 3 (by omega); have c4 := hcs 4 (by omega); have c5 := hcs 5 (by omega); have c6 := hcs 6 (by omega); have c7 := hcs 7 (by omega); have c8 := hcs 8 (by omega); have c9 := hcs 9 (by omega)
          dsimp [StH.cells] at c0 c1 c2 c3 c4 c5 c6 c7 c8 c9
          have e4 : (p : Int) < gn := by omega
          have SIN := Lib.hid sin
          have hbqz := hbq.size
          clear hxs hcs hpv2 sin
          go_upto_region 10 with fail
          have s8 : Bk (wr.alloc (.cells #[.int .i64 xk, .int .i64 xf, .int .i64 xt, .int .i64 xg, .int .i64 xh, .int .i64 xi, .int .i64 xm, .int .i64 xv, .slice sA sn sc, .slice sA' sn' sc'] 45)) wr.heap.size 45 (stp xk xf xt xg xh xi xm xv sA sn sc sA' sn' sc') := Bk.new wr _ _
          have g8 := k6.alloc (.cells #[.int .i64 xk, .int .i64 xf, .int .i64 xt, .int .i64 xg, .int .i64 xh, .int .i64 xi, .int .i64 xm, .int .i64 xv, .slice sA sn sc, .slice sA' sn' sc'] 45)
          have hb8 : Below wr.heap.size wr (wr.alloc (.cells #[.int .i64 xk, .int .i64 xf, .int .i64 xt, .int .i64 xg, .int .i64 xh, .int .i64 xi, .int .i64 xm, .int .i64 xv, .slice sA sn sc, .slice sA' sn' sc'] 45)) := belowA
          have hz8 : (wr.alloc (.cells #[.int .i64 xk, .int .i64 xf, .int .i64 xt, .int .i64 xg, .int .i64 xh, .int .i64 xi, .int .i64 xm, .int .i64 xv, .slice sA sn sc, .slice sA' sn' sc'] 45)).heap.size = wr.heap.size + 1 := by simp
          generalize wr.alloc (.cells #[.int .i64 xk, .int .i64 xf, .int .i64 xt, .int .i64 xg, .int .i64 xh, .int .i64 xi, .int .i64 xm, .int .i64 xv, .slice sA sn sc, .slice sA' sn' sc'] 45) = w8 at *
          have hF : ∀ w', (Bk w' (wo.heap.size + 1) 76 (grp v5 pk pa pb bk ba bb glost) ∧ Bk w' wr.heap.size 45 (stp xk xf xt xg xh xi xm xv sA sn sc sA' sn' sc')) → w'.cell? ⟨wo.heap.size + 1, 0, none⟩ = some v5 ∧ w'.cell? ⟨wr.heap.size, 0, none⟩ = some (.int .i64 xk) ∧ w'.cell? ⟨wr.heap.size, 1, none⟩ = some (.int .i64 xf) ∧ w'.cell? ⟨wr.heap.size, 2, none⟩ = some (.int .i64 xt) ∧ w'.cell? ⟨wr.heap.size, 3, none⟩ = some (.int .i64 xg) ∧ w'.cell? ⟨wr.heap.size, 4, none⟩ = some (.int .i64 xh) ∧ w'.cell? ⟨wr.heap.size, 5, none⟩ = some (.int .i64 xi) ∧ w'.cell? ⟨wr.heap.size, 6, none⟩ = some (.int .i64 xm) ∧ w'.cell? ⟨wr.heap.size, 7, none⟩ = some (.int .i64 xv) ∧ w'.cell? ⟨wr.heap.size, 8, none⟩ = some (.slice sA sn sc) ∧ w'.cell? ⟨wr.heap.size, 9, none⟩ = some (.slice sA' sn' sc') := fun w' h => ⟨h.1.cell 0, h.2.cell 0, h.2.cell 1, h.2.cell 2, h.2.cell 3, h.2.cell 4, h.2.cell 5, h.2.cell 6, h.2.cell 7, h.2.cell 8, h.2.cell 9⟩
          have HF := Lib.hid hF
          clear hF c0 c1 c2 c3 c4 c5 c6 c7 c8 c9
          refine wp_normal ?_
          refine region_L (S := fun w' => Bk w' (wo.heap.size + 1) 76 (grp v5 pk pa pb bk ba bb glost) ∧ Bk w' wr.heap.size 45 (stp xk xf xt xg xh xi xm xv sA sn sc sA' sn' sc')) [7] (by kernel_rfl) ⟨g8.drew, s8.drew⟩ (fun hHeld => ?_)
          (refine tkL 0 ?_; refine tkL 1 ?_; refine tkL 2 ?_)
          refine nxL 3 (fun K hK => ?_)
          go_simp
          go_at_call 130
          refine (own_any2 ⟨xk, xf, xt, xg, xh, xi, xm, xv, xsl, xst⟩ sA sn sc sA' sn' sc' w8.drew ((SIN.out.more (Nat.le_trans hbw hbqz)).ext hb8.drew)).mono ?_
          rintro e w9 ⟨A2, n2, c2, A2', n2', c2', rfl, hso, hb9⟩
          refine hK.out _ _ ⟨g8.drew.ext hb9, s8.drew.ext hb9⟩ (fun hHeld => ?_)
          clear hK K
          have hb9' : Below wr.heap.size wr w9 := Below.trans hb8.drew (hb9.mono hb8.size)
          have hz9 := hb9'.size
          refine nxL 4 (fun K hK => ?_)
          go_simp
          refine hK.out _ _ ⟨(g8.drew.ext hb9).alloc _, (s8.drew.ext hb9).alloc _⟩ (fun hHeld => ?_)
          clear hK K; refine puL ?_
          have hown9 := own_below hown5 hb9'
          have hA5 := Bk.new w9 45 #[.int .i64 xk, .int .i64 xf, .int .i64 xt, .int .i64 xg, .int .i64 xh, .int .i64 xi, .int .i64 xm, .int .i64 xv, .slice A2 n2 c2, .slice A2' n2' c2']
          have gA := (g8.drew.ext hb9).alloc (.cells #[.int .i64 xk, .int .i64 xf, .int .i64 xt, .int .i64 xg, .int .i64 xh, .int .i64 xi, .int .i64 xm, .int .i64 xv, .slice A2 n2 c2, .slice A2' n2' c2'] 45)
          have sA8 := (s8.drew.ext hb9).alloc (.cells #[.int .i64 xk, .int .i64 xf, .int .i64 xt, .int .i64 xg, .int .i64 xh, .int .i64 xi, .int .i64 xm, .int .i64 xv, .slice A2 n2 c2, .slice A2' n2' c2'] 45)
          have hownA : (w9.alloc (.cells #[.int .i64 xk, .int .i64 xf, .int .i64 xt, .int .i64 xg, .int .i64 xh, .int .i64 xi, .int .i64 xm, .int .i64 xv, .slice A2 n2 c2, .slice A2' n2' c2'] 45)).ownsRow wo.heap.size 45 10 v5 Lp.length (sts Lp) := World.ownsRow.alloc hown9 _
          have hbA : Below wr.heap.size wr (w9.alloc (.cells #[.int .i64 xk, .int .i64 xf, .int .i64 xt, .int .i64 xg, .int .i64 xh, .int .i64 xi, .int .i64 xm, .int .i64 xv, .slice A2 n2 c2, .slice A2' n2' c2'] 45)) := belowA
          have hsoA : (StH.mk A2 n2 c2 A2' n2' c2' ⟨xk, xf, xt, xg, xh, xi, xm, xv, xsl, xst⟩).Own (w9.alloc (.cells #[.int .i64 xk, .int .i64 xf, .int .i64 xt, .int .i64 xg, .int .i64 xh, .int .i64 xi, .int .i64 xm, .int .i64 xv, .slice A2 n2 c2, .slice A2' n2' c2'] 45)) wo.heap.size := (hso.below ((Below.refl _ _).alloc (Nat.le_refl _) _)).base_ (by simp; omega)
          have hzA : (w9.alloc (.cells #[.int .i64 xk, .int .i64 xf, .int .i64 xt, .int .i64 xg, .int .i64 xh, .int .i64 xi, .int .i64 xm, .int .i64 xv, .slice A2 n2 c2, .slice A2' n2' c2'] 45)).heap.size = w9.heap.size + 1 := by simp
          generalize w9.alloc (.cells #[.int .i64 xk, .int .i64 xf, .int .i64 xt, .int .i64 xg, .int .i64 xh, .int .i64 xi, .int .i64 xm, .int .i64 xv, .slice A2 n2 c2, .slice A2' n2' c2'] 45) = wA at *
          refine nxL 5 (fun K hK => ?_)
          refine app_at_step Tryz.underlying23 info_step rfl (by decide) wo.heap.size _ Lp.length _ hownA (by have := HLP.out; unfold maxLen; omega) (by have := HLP.out; omega) (by omega) w9.heap.size (stp xk xf xt xg xh xi xm xv A2 n2 c2 A2' n2' c2') hA5 rfl (by simp [Value.oneCell']) rfl _ _ rfl rfl rfl ?_
          intro g4 cap4 w4 hown4 hgr4 hat4 hlt4
          have gB := gA.grown hgr4 (own_ne hownA gA (by decide))
          have sB := sA8.grown hgr4 (fun e => by have := own_lt hown5 _ e; omega)
          refine hK.out _ _ ⟨gB, sB⟩ (fun hHeld => ?_)
          clear hK K; refine puL ?_
          (refine tkL 6 ?_)
          have fB := gB.frozen; have lB := def_lt' gB; have cB := gB.cell 0
          dsimp [grp] at cB
          refine ltL 7 (fun K hK => ?_)
          go_simp
          refine hK.out _ _ ?_
          clear hK K; refine puL ?_
          refine anyL_done (by kernel_rfl) ?_
          go_wp2
          go_roundw
          case rel =>
            have hbA' : Below wo.heap.size wo wA := hbq.trans (hbA.mono hbqz)
            have hb4 := below_own hbA' hownA hgr4 (by omega) (Nat.le_refl _)
            have gr4 : w4.grownBy (w4.setCell ⟨wo.heap.size + 1, 0, none⟩ (.slice (some ⟨g4, 0, none⟩) (Lp.length + 1) cap4)) (some (wo.heap.size + 1)) := gr_set (World.grownBy.refl _ _) (.inl rfl) _
            refine ⟨p + 1, Lp ++ [⟨A2, n2, c2, A2', n2', c2', ⟨xk, xf, xt, xg, xh, xi, xm, xv, xsl, xst⟩⟩], _, by omega, by go_num, Lib.hid (by rw [HPV2.out, List.map_append, hpv.out]; rfl), hb4.setCell (by simp) _, gB.set_ 0 _, ?_, Lib.hid ?_⟩
            · rw [sts_append, List.length_append]
              exact ownsRow_setCell_other hown4 (own_ne (b := wo.heap.size + 1) (t := 76) hown4 gB (by decide)) _
            · intro y hy
              refine StH.Own.grown (w := w4) (b := wo.heap.size + 1) ?_ gB gr4 (by decide) (by decide)
              refine StH.Own.grow (w := wA) ?_ hownA hgr4 (by decide) (by decide)
              rcases List.mem_append.1 hy with hy | hy
              · exact (hLp.out y hy).below hbA
              · simp at hy; subst hy; exact hsoA
          case measure => simp [intOf]; omega
        · obtain rfl : gn = p := by omega
          have c0 := k6.cell 0; have c1 := k6.cell 1; have c2 := k6.cell 2; have c3 := k6.cell 3; have c4 := k6.cell 4; have c5 := k6.cell 5; have c6 := k6.cell 6; have c7 := k6.cell 7
          dsimp [grp] at c0 c1 c2 c3 c4 c5 c6 c7
          have hown2 := own_below hown hbq
          have hb2 : Below w.heap.size w wr := hbr.trans (hbq.mono hbw)
          have hz2 := hb2.size
          obtain ⟨A5, c5', rfl, f1, f2, f3, f4⟩ := own_form hown5
          go_wp2_with (at_builtin; ((refine app_one Tryz.underlying78 info_group rfl (by decide) wr w.heap.size _ Lo.length _ hown2 (by have := HLO.out; unfold maxLen; omega) (by have := HLO.out; omega) hz2 _ rfl (by simp [Value.oneCell']) rfl _ _ rfl rfl rfl ?_); intro g4 cap4 w4 hown4 hgr4 hat4 hlt4))
          have hb4 := below_own hb2 hown2 hgr4 hz2 (Nat.le_refl _)
          have hlp : Lp.length = gn := by
            have := congrArg List.length hpv.out
            simp only [List.length_map, List.length_take] at this
            omega
          have hLpv : Lp.map StH.x = gL.map StH.x := by rw [hpv.out, List.take_of_length_le (by omega)]
          have hnew : (GrH.mk A5 Lp.length c5' Lp ⟨pk, pa, pb⟩ ⟨bk, ba, bb⟩ glost).Own wr w.heap.size := ⟨own_base hown5 hbw, fun s hs => (hLp.out s hs).base_ hbw, by rw [hlp]; show gn ≤ 1000000; omega⟩
          go_roundw
          case rel =>
            refine ⟨q + 1, Lo ++ [⟨A5, Lp.length, c5', Lp, ⟨pk, pa, pb⟩, ⟨bk, ba, bb⟩, glost⟩], by omega, by go_num, Lib.hid ?_, hb4, ?_, Lib.hid ?_⟩
            · rw [HQV.out, List.map_append, hval.out]
              simp only [GrH.val, List.map_cons, List.map_nil]
              rw [hLpv]
            · rw [grs_append, List.length_append]
              exact hown4
            · intro y hy
              refine GrH.Own.grow (w := wr) ?_ hown2 hgr4 (by decide) (by decide) (by decide)
              rcases List.mem_append.1 hy with hy | hy
              · exact (hLo.out y hy).below hbq
              · simp at hy; subst hy; exact hnew
          case measure => simp [intOf]; omega
    · obtain rfl : n = q := by omega
      go_wp2
      go_ret
      refine ⟨_, Lo, rfl, hown, hLo.out, ?_, hbr⟩
      rw [hval.out, List.take_of_length_le (by rw [HLEN.out]; omega)]
theorem tellFrom_bd {p side : Int} (hp : 0 ≤ p) : ∀ {l : List Rg} {i : Nat} {s : Int}, (∀ r ∈ l, r.Fits) → s - 1073741824 * l.length ≤ (tellFrom p side i s l).pos ∧ (tellFrom p side i s l).pos ≤ p + s + 1073741824 * l.length + 2147483648 := by
  intro l
  induction l with
  | nil => intro i s _; simp only [tellFrom]; simp; omega
  | cons r l ih =>
    intro i s hf
    obtain ⟨f1, f2, f3, f4, f5, f6⟩ := hf r (by simp)
    have hl : ((r :: l).length : Int) = l.length + 1 := by simp
    have hl2 : (0 : Int) ≤ l.length := by omega
    rw [hl]
    unfold tellFrom
    split
    · have := ih (i := i + 1) (s := s + (r.new - r.old)) (fun q hq => hf q (by simp [hq]))
      omega
    · split
      · simp only [withinS]
        split <;> omega
      · simp only; omega
theorem tellS_bd (l : List Rg) (p s : Int) : -4398046511104 ≤ (tellS l p s).1.pos ∧ (tellS l p s).1.pos ≤ 4398046511104 := by
  unfold tellS
  split
  · rename_i hr
    split
    · rename_i hp
      have h := tellFrom_bd (side := s) hp.1 (i := 0) (s := 0) (right_fits hr)
      have hl := right_len hr
      have : (l.length : Int) ≤ 1000 := by omega
      simp only [tellM]
      omega
    · simp [Pl.zero]
  · simp [Pl.zero]
theorem recO_bd {l : List Rg} {at_ off n : Int} (h : recO l at_ off = some n) : -4398046511104 ≤ n ∧ n ≤ 4398046511104 := by
  unfold recO recS at h
  by_cases hr : rightM l = true
  · rw [if_pos hr] at h
    cases hm : recM l at_ off with
    | none => simp [hm] at h
    | some x =>
      simp [hm] at h
      subst h
      unfold recM at hm
      split at hm
      · obtain ⟨r, h1, h2⟩ := Option.bind_eq_some_iff.1 hm
        split at h2
        · injection h2 with h2
          obtain ⟨f1, f2, f3, f4, f5, f6⟩ := right_fits hr r (List.mem_of_getElem? h1)
          have hs := shift_take_bd hr at_.toNat
          omega
        · cases h2
      · cases hm
  · simp [hr] at h
theorem tellL_bd (m : List Rg) (ks : List Lk) : ∀ p s : Int, -4398046511104 ≤ (tellL m ks p s).1.pos ∧ (tellL m ks p s).1.pos ≤ 4398046511104 := by
  induction ks with
  | nil => intro p s; simp only [tellL]; exact tellS_bd m p s
  | cons k ks ih =>
    intro p s
    simp only [tellL]
    split
    · simp [Pl.zero]
    · split
      · rename_i n hn
        simp only
        split at hn
        · exact recO_bd hn
        · cases hn
      · split
        · exact ih _ _
        · split
          · simp [Pl.zero]
          · exact tellS_bd _ _ _
/-- a map comes out -/
abbrev Maps2 (w : World) (l : List Rg) (e : Ending) (w' : World) : Prop := ∃ A2 c2, e = .returned (.slice A2 l.length c2) ∧ Rd w' w'.heap.size 3 A2 l.length (rgs l) ∧ ((A2 = none → l.length = 0) ∧ ∀ a, A2 = some a → w.heap.size ≤ a.block) ∧ Below w.heap.size w w'
theorem maps_niln (w w' : World) (hb : Below w.heap.size w w') : Maps2 w [] (.returned (.slice none 0 0)) w' := ⟨none, 0, rfl, Rd.nil_ _ _ _ _, ⟨fun _ => rfl, fun _ e => by cases e⟩, hb⟩
set_option maxRecDepth 100000 in
set_option maxHeartbeats 1000000 in
theorem ranges_1n (k : Int) (f t g h i m v : Int) (A A' : Option Addr) (n n' c c' : Nat) (w : World) (hb : 0 ≤ f ∧ f ≤ t ∧ t ≤ 1073741824) :
    Calls Tryz.prog 254 #[.agg #[.int .i64 k, .int .i64 f, .int .i64 t, .int .i64 g, .int .i64 h, .int .i64 i, .int .i64 m, .int .i64 v, .slice A n c, .slice A' n' c']] w (Maps2 w [⟨f, t - f, n⟩]) := by
  have e0 : IntKind.i64.wrap (t - f) = t - f := IntWalk.i64_in _ (by omega)
  clear hb
  go_enter Tryz.func254, Tryz.ntmps254
  go_wp2
  go_ret
  exact ⟨_, _, rfl, rd_new _ #[.int .i64 f, .int .i64 (t - f), .int .i64 (n : Int)] 1 3 (by simp) rfl, ⟨by simp, by intro a e; injection e with e; subst e; simp⟩, belowA⟩
set_option maxRecDepth 100000 in
set_option maxHeartbeats 1000000 in
theorem ranges_2n (f t g h i m v : Int) (A A' : Option Addr) (n n' c c' : Nat) (w : World) (hb : 0 ≤ f ∧ f ≤ t ∧ t ≤ 1073741824) (hg : f ≤ g ∧ g ≤ h ∧ h ≤ t ∧ 0 ≤ i ∧ i ≤ n) (hn : n ≤ 20000) :
    Calls Tryz.prog 259 #[.agg #[.int .i64 2, .int .i64 f, .int .i64 t, .int .i64 g, .int .i64 h, .int .i64 i, .int .i64 m, .int .i64 v, .slice A n c, .slice A' n' c']] w (Maps2 w (mapS 2 f t g h i n)) := by
  by_cases hgh : g = h
  · subst hgh
    have hr := fun W (hb' : Below w.heap.size w W) => ranges_1n 2 f t g g i m v A A' n n' c c' W hb
    have HR := Lib.hid hr
    have e : mapS 2 f t g g i n = [⟨f, t - f, n⟩] := by unfold mapS; rw [if_pos (.inr ⟨rfl, rfl⟩)]
    rw [e]
    clear hr e hb hg
    go_enter Tryz.func259, Tryz.ntmps259
    go_wp2_with (go_at_call 254; (refine (HR.out _ belowA).mono ?_); rintro e w1 ⟨A2, c2, rfl, h1, h2, h3⟩)
    go_ret
    exact ⟨_, _, rfl, h1, ⟨h2.1, fun a e => Nat.le_trans (by simp) (h2.2 a e)⟩, Below.trans belowA (h3.mono (by simp))⟩
  · have e : mapS 2 f t g h i n = [⟨f, g - f, i⟩, ⟨h, t - h, n - i⟩] := by unfold mapS; rw [if_neg (by omega), if_pos rfl]
    rw [e]
    have e1 : (g == h) = false := by simpa using hgh
    have e2 : IntKind.i64.wrap (g - f) = g - f := IntWalk.i64_in _ (by omega)
    have e3 : IntKind.i64.wrap (t - h) = t - h := IntWalk.i64_in _ (by omega)
    have e4 : IntKind.i64.wrap ((n : Int) - i) = n - i := IntWalk.i64_in _ (by omega)
    clear e hb hg hgh
    go_enter Tryz.func259, Tryz.ntmps259
    go_wp2
    go_ret
    exact ⟨_, _, rfl, rd_new _ #[.int .i64 f, .int .i64 (g - f), .int .i64 i, .int .i64 h, .int .i64 (t - h), .int .i64 ((n : Int) - i)] 2 3 (by simp) rfl, ⟨by simp, by intro a e; injection e with e; subst e; simp⟩, belowA⟩
theorem ranges_3n (k : Int) (f t g h i m v : Int) (A A' : Option Addr) (n n' c c' : Nat) (w : World) :
    Calls Tryz.prog 264 #[.agg #[.int .i64 k, .int .i64 f, .int .i64 t, .int .i64 g, .int .i64 h, .int .i64 i, .int .i64 m, .int .i64 v, .slice A n c, .slice A' n' c']] w (Maps2 w []) := by
  go_enter Tryz.func264, Tryz.ntmps264
  go_wp2
  go_ret
  exact maps_niln _ _ belowA
theorem ranges_5n (k : Int) (f t g h i m v : Int) (A A' : Option Addr) (n n' c c' : Nat) (w : World) :
    Calls Tryz.prog 269 #[.agg #[.int .i64 k, .int .i64 f, .int .i64 t, .int .i64 g, .int .i64 h, .int .i64 i, .int .i64 m, .int .i64 v, .slice A n c, .slice A' n' c']] w (Maps2 w []) := by
  go_enter Tryz.func269, Tryz.ntmps269
  go_wp2
  go_ret
  exact maps_niln _ _ belowA
set_option maxRecDepth 100000 in
set_option maxHeartbeats 2000000 in
theorem map_anyn (k f t g h i m v : Int) (A A' : Option Addr) (n n' c c' : Nat) (w : World) (sl : List Tok) (st : List Mk) (hn : n ≤ maxLen) (hn' : n' ≤ maxLen) (hrd : Rd w w.heap.size 12 A n (toks sl)) (hrd' : Rd w w.heap.size 8 A' n' (mks st)) :
    Calls Tryz.prog 60 #[.agg #[.int .i64 k, .int .i64 f, .int .i64 t, .int .i64 g, .int .i64 h, .int .i64 i, .int .i64 m, .int .i64 v, .slice A n c, .slice A' n' c']] w (Maps2 w (mapB k f t g h i m v n n')) := by
  have hs := fun W (hb : Below w.heap.size w W) => calls_on hb (shape_any k f t g h i m v A A' n n' c c' W sl st hn hn' ((hrd.below hb).more hb.size) ((hrd'.below hb).more hb.size))
  unfold mapB
  cases hsh : shB k f t g h i m v n n' with
  | false =>
    rw [hsh] at hs
    have HS := Lib.hid hs
    clear hs hrd hrd' hsh
    simp only [Bool.false_eq_true, if_false]
    go_enter Tryz.func60, Tryz.ntmps60
    go_wp2_with (go_at_call 57; (refine (HS.out _ belowA).mono ?_); rintro e w1 ⟨rfl, hb1, hz1, hx1⟩)
    go_ret
    exact maps_niln _ _ hb1
  | true =>
    rw [hsh] at hs
    have HS := Lib.hid hs
    simp only [if_true]
    unfold shB at hsh
    rw [Bool.and_eq_true] at hsh
    obtain ⟨hbx, hsh⟩ := hsh
    have hbx : 0 ≤ f ∧ f ≤ t ∧ t ≤ 1073741824 := by simpa [boxes] using hbx
    clear hs hrd hrd'
    by_cases k1 : k = 1
    · subst k1
      have ho := fun W (hb : Below w.heap.size w W) => calls_on hb (of1 f t g h i m v A A' n n' c c' W)
      have hr := fun W => ranges_1n 1 f t g h i m v A A' n n' c c' W hbx
      have e : mapS 1 f t g h i n = [⟨f, t - f, n⟩] := by unfold mapS; rw [if_pos (.inl rfl)]
      rw [e]
      have HO := Lib.hid ho
      have HR := Lib.hid hr
      have hm : ∀ w, (method 500 272 (.agg #[.int .i64 1, .int .i64 f, .int .i64 t, .int .i64 g, .int .i64 h, .int .i64 i, .int .i64 m, .int .i64 v, .slice A n c, .slice A' n' c']) "stet/step.ranges").run Tryz.prog w = .ok (254, .agg #[.int .i64 1, .int .i64 f, .int .i64 t, .int .i64 g, .int .i64 h, .int .i64 i, .int .i64 m, .int .i64 v, .slice A n c, .slice A' n' c']) w := fun _ => by kernel_rfl
      clear ho hr e hsh
      go_enter Tryz.func60, Tryz.ntmps60
      go_wp2_with (first
        | (go_at_call 57; (refine (HS.out _ belowA).mono ?_); rintro e w1 ⟨rfl, hb1, hz1, hx1⟩; have kb := (Bk.new w 45 #[.int .i64 1, .int .i64 f, .int .i64 t, .int .i64 g, .int .i64 h, .int .i64 i, .int .i64 m, .int .i64 v, .slice A n c, .slice A' n' c']).ext hx1; have lb := def_lt' kb; have d0 := kb.cell 0; have d1 := kb.cell 1; have d2 := kb.cell 2; have d3 := kb.cell 3; have d4 := kb.cell 4; have d5 := kb.cell 5; have d6 := kb.cell 6; have d7 := kb.cell 7; have d8 := kb.cell 8; have d9 := kb.cell 9; dsimp at d0 d1 d2 d3 d4 d5 d6 d7 d8 d9)
        | (go_at_call 118; (refine (HO.out _ hb1).mono ?_); rintro e w2 ⟨rfl, hb2, hz2, hx2⟩)
        | (go_at_call 254; (refine (HR.out _).mono ?_); rintro e w3 ⟨A2, c2, rfl, h1, h2, h3⟩))
      go_ret
      exact ⟨_, _, rfl, h1, ⟨h2.1, fun a e => Nat.le_trans hz2 (h2.2 a e)⟩, hb2.trans (h3.mono hz2)⟩
    by_cases k2 : k = 2
    · subst k2
      rw [if_neg (by omega), if_pos rfl] at hsh
      have hsh2 : f ≤ g ∧ g ≤ h ∧ h ≤ t ∧ 0 ≤ i ∧ i ≤ n ∧ n ≤ 20000 ∧ m = 0 ∧ v = 0 ∧ n' = 0 := by simpa [sh2] using hsh
      have ho := fun W (hb : Below w.heap.size w W) => calls_on hb (of2 f t g h i m v A A' n n' c c' W)
      have hr := fun W => ranges_2n f t g h i m v A A' n n' c c' W hbx ⟨hsh2.1, hsh2.2.1, hsh2.2.2.1, hsh2.2.2.2.1, hsh2.2.2.2.2.1⟩ hsh2.2.2.2.2.2.1
      have HO := Lib.hid ho
      have HR := Lib.hid hr
      have hm : ∀ w, (method 500 273 (.agg #[.int .i64 2, .int .i64 f, .int .i64 t, .int .i64 g, .int .i64 h, .int .i64 i, .int .i64 m, .int .i64 v, .slice A n c, .slice A' n' c']) "stet/step.ranges").run Tryz.prog w = .ok (259, .agg #[.int .i64 2, .int .i64 f, .int .i64 t, .int .i64 g, .int .i64 h, .int .i64 i, .int .i64 m, .int .i64 v, .slice A n c, .slice A' n' c']) w := fun _ => by kernel_rfl
      clear ho hr hsh hsh2 k1
      go_enter Tryz.func60, Tryz.ntmps60
      go_wp2_with (first
        | (go_at_call 57; (refine (HS.out _ belowA).mono ?_); rintro e w1 ⟨rfl, hb1, hz1, hx1⟩; have kb := (Bk.new w 45 #[.int .i64 2, .int .i64 f, .int .i64 t, .int .i64 g, .int .i64 h, .int .i64 i, .int .i64 m, .int .i64 v, .slice A n c, .slice A' n' c']).ext hx1; have lb := def_lt' kb; have d0 := kb.cell 0; have d1 := kb.cell 1; have d2 := kb.cell 2; have d3 := kb.cell 3; have d4 := kb.cell 4; have d5 := kb.cell 5; have d6 := kb.cell 6; have d7 := kb.cell 7; have d8 := kb.cell 8; have d9 := kb.cell 9; dsimp at d0 d1 d2 d3 d4 d5 d6 d7 d8 d9)
        | (go_at_call 118; (refine (HO.out _ hb1).mono ?_); rintro e w2 ⟨rfl, hb2, hz2, hx2⟩)
        | (go_at_call 259; (refine (HR.out _).mono ?_); rintro e w3 ⟨A2, c2, rfl, h1, h2, h3⟩))
      go_ret
      exact ⟨_, _, rfl, h1, ⟨h2.1, fun a e => Nat.le_trans hz2 (h2.2 a e)⟩, hb2.trans (h3.mono hz2)⟩
    have e : mapS k f t g h i n = [] := by unfold mapS; rw [if_neg (by omega), if_neg k2]
    rw [e]
    rw [if_neg k1, if_neg k2] at hsh
    by_cases k3 : k = 3 ∨ k = 4
    · have ho := fun W (hb : Below w.heap.size w W) => calls_on hb (of3 k k3 f t g h i m v A A' n n' c c' W)
      have hr := fun W => ranges_3n k f t g h i m v A A' n n' c c' W
      have HO := Lib.hid ho
      have HR := Lib.hid hr
      have hm : ∀ w, (method 500 274 (.agg #[.int .i64 k, .int .i64 f, .int .i64 t, .int .i64 g, .int .i64 h, .int .i64 i, .int .i64 m, .int .i64 v, .slice A n c, .slice A' n' c']) "stet/step.ranges").run Tryz.prog w = .ok (264, .agg #[.int .i64 k, .int .i64 f, .int .i64 t, .int .i64 g, .int .i64 h, .int .i64 i, .int .i64 m, .int .i64 v, .slice A n c, .slice A' n' c']) w := fun _ => by kernel_rfl
      clear ho hr hsh k1 k2 k3 e
      go_enter Tryz.func60, Tryz.ntmps60
      go_wp2_with (first
        | (go_at_call 57; (refine (HS.out _ belowA).mono ?_); rintro e w1 ⟨rfl, hb1, hz1, hx1⟩; have kb := (Bk.new w 45 #[.int .i64 k, .int .i64 f, .int .i64 t, .int .i64 g, .int .i64 h, .int .i64 i, .int .i64 m, .int .i64 v, .slice A n c, .slice A' n' c']).ext hx1; have lb := def_lt' kb; have d0 := kb.cell 0; have d1 := kb.cell 1; have d2 := kb.cell 2; have d3 := kb.cell 3; have d4 := kb.cell 4; have d5 := kb.cell 5; have d6 := kb.cell 6; have d7 := kb.cell 7; have d8 := kb.cell 8; have d9 := kb.cell 9; dsimp at d0 d1 d2 d3 d4 d5 d6 d7 d8 d9)
        | (go_at_call 118; (refine (HO.out _ hb1).mono ?_); rintro e w2 ⟨rfl, hb2, hz2, hx2⟩)
        | (go_at_call 264; (refine (HR.out _).mono ?_); rintro e w3 ⟨A2, c2, rfl, h1, h2, h3⟩))
      go_ret
      exact ⟨_, _, rfl, h1, ⟨h2.1, fun a e => Nat.le_trans hz2 (h2.2 a e)⟩, hb2.trans (h3.mono hz2)⟩
    rw [if_neg k3] at hsh
    have k5 : k = 5 := by
      by_cases k5 : k = 5
      · exact k5
      · rw [if_neg k5] at hsh; cases hsh
    subst k5
    have ho := fun W (hb : Below w.heap.size w W) => calls_on hb (of5 f t g h i m v A A' n n' c c' W)
    have hr := fun W => ranges_5n 5 f t g h i m v A A' n n' c c' W
    have HO := Lib.hid ho
    have HR := Lib.hid hr
    have hm : ∀ w, (method 500 275 (.agg #[.int .i64 5, .int .i64 f, .int .i64 t, .int .i64 g, .int .i64 h, .int .i64 i, .int .i64 m, .int .i64 v, .slice A n c, .slice A' n' c']) "stet/step.ranges").run Tryz.prog w = .ok (269, .agg #[.int .i64 5, .int .i64 f, .int .i64 t, .int .i64 g, .int .i64 h, .int .i64 i, .int .i64 m, .int .i64 v, .slice A n c, .slice A' n' c']) w := fun _ => by kernel_rfl
    clear ho hr hsh k1 k2 k3 e
    go_enter Tryz.func60, Tryz.ntmps60
    go_wp2_with (first
      | (go_at_call 57; (refine (HS.out _ belowA).mono ?_); rintro e w1 ⟨rfl, hb1, hz1, hx1⟩; have kb := (Bk.new w 45 #[.int .i64 5, .int .i64 f, .int .i64 t, .int .i64 g, .int .i64 h, .int .i64 i, .int .i64 m, .int .i64 v, .slice A n c, .slice A' n' c']).ext hx1; have lb := def_lt' kb; have d0 := kb.cell 0; have d1 := kb.cell 1; have d2 := kb.cell 2; have d3 := kb.cell 3; have d4 := kb.cell 4; have d5 := kb.cell 5; have d6 := kb.cell 6; have d7 := kb.cell 7; have d8 := kb.cell 8; have d9 := kb.cell 9; dsimp at d0 d1 d2 d3 d4 d5 d6 d7 d8 d9)
      | (go_at_call 118; (refine (HO.out _ hb1).mono ?_); rintro e w2 ⟨rfl, hb2, hz2, hx2⟩)
      | (go_at_call 269; (refine (HR.out _).mono ?_); rintro e w3 ⟨A2, c2, rfl, h1, h2, h3⟩))
    go_ret
    exact ⟨_, _, rfl, h1, ⟨h2.1, fun a e => Nat.le_trans hz2 (h2.2 a e)⟩, hb2.trans (h3.mono hz2)⟩
end Go.Proofs.YtmacfoebfpljoaaGreat
