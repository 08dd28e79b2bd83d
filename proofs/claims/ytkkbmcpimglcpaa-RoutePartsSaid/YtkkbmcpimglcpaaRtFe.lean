/- route: Add of a route that has no mirrors; Invert: words -/
import Derived.Test.YtkkbmcpimglcpaaRtC
import Derived.Test.YtkkbmcpimglcpaaRtFc
namespace Go.Proofs.Ytkkbmcpimglcpaa
open Go.RowKit

set_option maxRecDepth 100000 in
set_option maxHeartbeats 2000000 in
theorem add_mo (base R : Nat) (ms : List (List Rg)) (f : IMap) (A : Option Addr) (n c : Nat) (l : List Rg) (W : World) (hR : RouteIs W base R ms f) (hbase : base ≤ W.heap.size) (hrd : Rd W W.heap.size 3 A n (rgs l)) (hA : A = none → n = 0) (hr : rightM l = true) (hms : ms.length < 5000) (hno : ∃ v, Bk W R 51 #[v, .map none]) :
    Calls Try.prog 25 #[.pointer (some ⟨R, 0, none⟩), .slice A n c] W fun e W' => e = .returned (.int .i64 0) ∧ RouteIs W' base R (ms ++ [l]) f ∧ Below base W W' ∧ W.heap.size ≤ W'.heap.size ∧ KeepRg W W' ∧ Kept W W' R ∧ ∃ v, Bk W' R 51 #[v, .map none] := by
  have hl := hrd.rlen
  have hn2 : n ≤ 1000 := by have := right_len hr; omega
  have hri := right_any A n c l W (by unfold maxLen; omega) (fun _ => hrd) hl
  rw [hr] at hri
  have hcl := fun W' (hb : Below W.heap.size W W') => clone_rg A n c l W' ((hrd.below hb).more hb.size) hA (by omega)
  have HRI := Lib.hid hri
  have HCL := Lib.hid hcl
  obtain ⟨v, mo, vs, k1, k2, k3, k4, k5⟩ := hR
  obtain rfl : mo = none := by
    obtain ⟨v', h⟩ := hno
    have h1 : W.heap[R]? = some (.cells #[v, .map mo] 51 (0, 0)) := k1
    have h2 : W.heap[R]? = some (.cells #[v', .map none] 51 (0, 0)) := h
    rw [h1] at h2
    injection h2 with h2
    injection h2 with h2
    injection h2 with h2
    injection h2 with e1 h2
    injection h2 with e2 _
    injection e2
  clear hno
  obtain ⟨A', c', rfl, _, _, _, hvs⟩ := own_form k3
  have K4 := Lib.hid k4
  have K5 := Lib.hid k5
  clear hri hr hcl hrd hl k4 k5
  go_enter Try.func25, Try.ntmps25
  go_wp2_with (go_at_call 14; refine HRI.out.mono ?_; rintro e w1 ⟨rfl, hb1⟩; have q1 := k1.ext hb1; have z0 := q1.cell 0; have z1 := q1.cell 1; have zf := q1.frozen; have zl := def_lt' q1; dsimp at z0 z1)
  refine wp_normal ?_
  go_region_law (first | (go_simp; go_at_call 42; refine (HCL.out _ hb1.drew).mono ?_; rintro e w2 ⟨vc, rfl, hvc, hb2⟩; obtain ⟨Ac, cc, rfl, _, _, _, _⟩ := own_form hvc; have q2 := q1.drew.ext hb2; have o2 := own_below (own_below k3 hb1.drew) hb2; have y4 := q2.cell 0; have yl := def_lt' q2; dsimp at y4) | (refine app_at_step Try.underlying48 info_rgs rfl (by decide) base _ ms.length vs (World.ownsRow.alloc (w := w2) o2 (.cells #[.slice Ac n cc] 22)) (by unfold maxLen; omega) (by omega) (by have := hb1.size; have := hb2.size; simp at this ⊢; omega) w2.heap.size #[.slice Ac n cc] (Bk.new w2 _ _) rfl (by simp [Value.oneCell']) rfl (.tmp 23) (.tmp 26) rfl rfl rfl ?_; intro g cap w3 hown3 hgr3 hat3 hlt3; have q3 := (q2.alloc (.cells #[.slice Ac n cc] 22)).grown hgr3 (own_ne o2 q2 (by decide)); have y0 := q3.cell 0; have yf := q3.frozen; have yl3 := def_lt' q3; dsimp at y0))
  all_goals
    go_wp2
    go_ret
    obtain ⟨g1, g2, g3, g4, g5⟩ := added (f := f) hbase k1 k2 k3 K4.out (K5.out.elim (fun h => .inl ⟨rfl, h.2⟩) (fun h => .inr h)) hb1 hb2 hvc hown3 hgr3 hat3
    exact ⟨rfl, g1, g2, g3, g4, g5, _, q3.set_ 0 _⟩
end Go.Proofs.Ytkkbmcpimglcpaa

namespace Go.Proofs.Ytkkbmcpimglcpaa
open Go.RowKit

theorem KeepsOthers.of_below {A B : World} (h : Below A.heap.size A B) : KeepsOthers A B := KeepsOthers.of_grownBy (row := none) (gr_of_below h) (fun _ _ e => by cases e)

section
variable {A B : World} {base R : Nat} {ms : List (List Rg)}
/-- a route that has no mirrors yet -/
def Bare (W : World) (base R : Nat) (ms : List (List Rg)) : Prop := RouteIs W base R ms (fun _ => none) ∧ ∃ v, Bk W R 51 #[v, .map none]
theorem Bare.ext (h : Bare A base R ms) (hb : Below A.heap.size A B) : Bare B base R ms := ⟨h.1.ext hb, let ⟨v, k⟩ := h.2; ⟨v, k.ext hb⟩⟩
theorem Bare.parts (h : Bare A base R ms) : ∃ v vs, Bk A R 51 #[v, .map none] ∧ base ≤ R ∧ A.ownsRow base 22 1 v ms.length vs ∧ Each A base vs ms := by
  obtain ⟨⟨v, mo, vs, h1, h2, h3, h4, h5⟩, v', k⟩ := h
  have e1 : A.heap[R]? = some (.cells #[v, .map mo] 51 (0, 0)) := h1
  have e2 : A.heap[R]? = some (.cells #[v', .map none] 51 (0, 0)) := k
  rw [e1] at e2
  injection e2 with e2
  injection e2 with e2
  injection e2 with e2
  injection e2 with e3 e2
  injection e2 with e2 _
  injection e2 with e2
  subst e2
  exact ⟨v, vs, h1, h2, h3, h4⟩
theorem Bare.of {v : Value} {vs : List Value} (h1 : Bk A R 51 #[v, .map none]) (h2 : base ≤ R) (h3 : A.ownsRow base 22 1 v ms.length vs) (h4 : Each A base vs ms) : Bare A base R ms :=
  ⟨⟨v, none, vs, h1, h2, h3, h4, .inl ⟨rfl, fun _ => rfl⟩⟩, v, h1⟩
theorem Bare.kept {row : Option Nat} {M : Nat} (h : Bare A base R ms) (hg : A.grownBy B row) (hr : Turns M A row) : Bare B base R ms := by
  obtain ⟨v, vs, h1, h2, h3, h4⟩ := h.parts
  refine Bare.of (blk_kept h1 hg hr) h2 (own_kept h3 hg hr) (fun i m hi => ?_)
  obtain ⟨A, n, c, e1, e2⟩ := h4 i m hi
  exact ⟨A, n, c, e1, own_kept e2 hg hr⟩
theorem Bare.foot (h : Bare A base R ms) {j : Nat} (hj : Foot A R j) : base ≤ j ∧ j < A.heap.size ∧ ∃ t cs, Bk A j t cs ∧ (t = 51 ∨ t = 22) := by
  obtain ⟨v, vs, h1, h2, h3, h4⟩ := h.parts
  rcases (Foot.one h1).1 hj with rfl | e | e
  · exact ⟨h2, def_lt' h1, _, _, h1, .inl rfl⟩
  · obtain ⟨cur, hc⟩ := own_type h3 j e
    exact ⟨own_ge h3 j e, own_lt h3 j e, _, _, hc, .inr rfl⟩
  · cases e
theorem Bare.others (h : Bare A base R ms) (hz : A.heap.size ≤ B.heap.size) (hk : Kept A B R) : KeepsOthers A B := by
  refine ⟨hz, fun k o ho hc => ?_⟩
  refine (hk.1 k (def_lt' ho) (fun hf => ?_)).trans ho
  obtain ⟨_, _, t, cs, hb, _⟩ := h.foot hf
  have hb' : A.heap[k]? = some (.cells cs t (0, 0)) := hb
  rw [hb'] at ho
  injection ho with ho
  subst ho
  simp [Obj.isCells] at hc
theorem Bare.mid {W0 W2 C : World} {D : World} (h : Bare W0 base R ms) (h02 : Below W0.heap.size W0 W2) (h2c : Below W2.heap.size W2 C) (hk : Kept C D R) : Mid W0.heap.size W2.heap.size W2 D := by
  intro j h1 h2
  obtain ⟨v, vs, k1, _, k3, _⟩ := h.parts
  refine (hk.1 j (Nat.lt_of_lt_of_le h2 h2c.size) (fun hf => ?_)).trans (h2c.block j h2)
  have hf0 : Foot W0 R j := (Foot.one k1).2 ((Foot.one ((k1.ext h02).ext h2c)).1 hf)
  have := (h.foot hf0).2.1
  omega
/-- a box beside a bare route stays when the route is turned -/
theorem Bare.beside {b : Nat} {t : TypeId} {cs : Array Value} (h : Bare A base R ms) (hk : Kept A B R) (hb : Bk A b t cs) (h1 : t ≠ 51) (h2 : t ≠ 22) : Bk B b t cs := by
  refine (hk.1 b (def_lt' hb) (fun hf => ?_)).trans hb
  obtain ⟨_, _, t', cs', hb', ht⟩ := h.foot hf
  have e1 : A.heap[b]? = some (.cells cs t (0, 0)) := hb
  have e2 : A.heap[b]? = some (.cells cs' t' (0, 0)) := hb'
  rw [e1] at e2
  injection e2 with e2
  injection e2 with _ e2
  subst e2
  exact ht.elim h1 h2
end

/-- the last k maps, the other way -/
def invK (ms : List (List Rg)) (k : Nat) : List (List Rg) := ((ms.drop (ms.length - k)).map invM).reverse
theorem drop_back {α : Type} {ms : List α} {k : Nat} {m : α} (h : k < ms.length) (hm : ms[ms.length - 1 - k]? = some m) : ms.drop (ms.length - (k + 1)) = m :: ms.drop (ms.length - k) := by
  have h1 : ms.length - (k + 1) < ms.length := by omega
  rw [List.drop_eq_getElem_cons h1]
  obtain ⟨h2, h3⟩ := List.getElem?_eq_some_iff.1 hm
  congr 1
  · rw [← h3]; congr 1; omega
  · congr 1; omega
theorem invK_succ {ms : List (List Rg)} {k : Nat} {m : List Rg} (h : k < ms.length) (hm : ms[ms.length - 1 - k]? = some m) : invK ms (k + 1) = invK ms k ++ [invM m] := by
  unfold invK
  rw [drop_back h hm, List.map_cons, List.reverse_cons]
theorem invK_zero (ms : List (List Rg)) : invK ms 0 = [] := by unfold invK; simp
def invMs (ms : List (List Rg)) : List (List Rg) := (ms.map invM).reverse
theorem invK_all (ms : List (List Rg)) : invK ms ms.length = invMs ms := by unfold invK invMs; simp
theorem invK_length (ms : List (List Rg)) {k : Nat} (h : k ≤ ms.length) : (invK ms k).length = k := by unfold invK; simp; omega
def allI (ms : List (List Rg)) : Bool := ms.all fun m => rightM (invM m)
/-- the mirrors, the other way -/
def invF (f : IMap) (n : Nat) : IMap := fun x => (f ((n : Int) - 1 - x)).map fun v => (n : Int) - 1 - v

theorem backs_next {vs : List Value} {k n : Nat} {x : Nat × Value} (h : backs vs k ++ [x] <+: backs vs n) : k < n ∧ x = backAt vs k := by
  have hlen := h.length_le
  simp [backs_length] at hlen
  refine ⟨by omega, ?_⟩
  obtain ⟨t, ht⟩ := h
  have := congrArg (fun q => q[k]?) ht
  rw [List.append_assoc, List.getElem?_append_right (by rw [backs_length]; omega), backs_length] at this
  have h2 : (backs vs n)[k]? = some (backAt vs k) := by rw [backs, List.getElem?_map, List.getElem?_range (by omega)]; rfl
  rw [h2] at this
  simpa using this
end Go.Proofs.Ytkkbmcpimglcpaa
