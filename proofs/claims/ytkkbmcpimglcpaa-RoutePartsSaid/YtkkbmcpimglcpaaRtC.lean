/- route: Add -/
import Derived.Test.YtkkbmcpimglcpaaRtB
namespace Go.Proofs.Ytkkbmcpimglcpaa
open Go.RowKit

set_option maxHeartbeats 1000000 in
theorem add_bad (R : Nat) (A : Option Addr) (n c : Nat) (l : List Rg) (W : World) (hn : n ≤ maxLen) (h : n ≤ 1000 → Rd W W.heap.size 3 A n (rgs l)) (hl : l.length = n) (hr : rightM l = false) :
    Calls Try.prog 25 #[.pointer (some ⟨R, 0, none⟩), .slice A n c] W fun e W' => e = .returned (.int .i64 1) ∧ Below W.heap.size W W' := by
  have hri := right_any A n c l W hn h hl
  rw [hr] at hri
  have HRI := Lib.hid hri
  clear hri hr h hl
  go_enter Try.func25, Try.ntmps25
  go_wp2_with (go_at_call 14; refine HRI.out.mono ?_; rintro e w1 ⟨rfl, hb1⟩)
  go_ret
  exact ⟨rfl, hb1⟩

/-- a map is added: what is in memory then -/
theorem added {W w1 w2 w3 : World} {base R : Nat} {ms : List (List Rg)} {f : IMap} {l : List Rg} {A' Ac : Option Addr} {c' n cc g cap : Nat} {mo : Option Nat} {vs : List Value} (hbase : base ≤ W.heap.size)
    (k1 : Bk W R 51 #[.slice A' ms.length c', .map mo]) (k2 : base ≤ R) (k3 : W.ownsRow base 22 1 (.slice A' ms.length c') ms.length vs) (k4 : Each W base vs ms)
    (k5 : (mo = none ∧ ∀ k, f k = none) ∨ ∃ b, mo = some b ∧ base ≤ b ∧ MapIs W b f) (hb1 : Below W.heap.size W w1) (hb2 : Below w1.drew.heap.size w1.drew w2)
    (hvc : w2.ownsRow w1.drew.heap.size 42 3 (.slice Ac n cc) n (rgs l))
    (hown3 : w3.ownsRow base 22 1 (.slice (some ⟨g, 0, none⟩) (ms.length + 1) cap) (ms.length + 1) (vs ++ (#[.slice Ac n cc] : Array Value).toList))
    (hgr3 : (w2.alloc (.cells #[.slice Ac n cc] 22)).grownBy w3 (Value.slice A' ms.length c').ownBlock)
    (hat3 : (Value.slice A' ms.length c').ownBlock = some g ∨ g = (w2.alloc (.cells #[.slice Ac n cc] 22)).heap.size) :
    RouteIs (w3.setCell ⟨R, 0, none⟩ (.slice (some ⟨g, 0, none⟩) (ms.length + 1) cap)) base R (ms ++ [l]) f ∧ Below base W (w3.setCell ⟨R, 0, none⟩ (.slice (some ⟨g, 0, none⟩) (ms.length + 1) cap)) ∧
      W.heap.size ≤ (w3.setCell ⟨R, 0, none⟩ (.slice (some ⟨g, 0, none⟩) (ms.length + 1) cap)).heap.size ∧ KeepRg W (w3.setCell ⟨R, 0, none⟩ (.slice (some ⟨g, 0, none⟩) (ms.length + 1) cap)) ∧ Kept W (w3.setCell ⟨R, 0, none⟩ (.slice (some ⟨g, 0, none⟩) (ms.length + 1) cap)) R := by
  have s1 := hb1.size
  have s2 : w1.heap.size ≤ w2.heap.size := hb2.size
  have q2 : Bk w2 R 51 #[.slice A' ms.length c', .map mo] := (k1.ext hb1).drew.ext hb2
  have o2 : w2.ownsRow base 22 1 (.slice A' ms.length c') ms.length vs := own_below (own_below k3 hb1.drew) hb2
  have q3 := (q2.alloc (.cells #[.slice Ac n cc] 22)).grown hgr3 (own_ne o2 q2 (by decide))
  have h21 : ∀ j, j < W.heap.size → w2.heap[j]? = W.heap[j]? := fun j hj => (hb2.block j (by show j < w1.heap.size; omega)).trans (hb1.block j hj)
  have h42 : ∀ j, j < w2.heap.size → (Value.slice A' ms.length c').ownBlock ≠ some j → j ≠ R → (w3.setCell ⟨R, 0, none⟩ (.slice (some ⟨g, 0, none⟩) (ms.length + 1) cap)).heap[j]? = w2.heap[j]? := fun j h1 h2 h3 =>
    (Below.heap_setCell w3 _ _ j h3).trans ((hgr3.block j (by simp; omega) (fun e => h2 e.symm)).trans (Below.heap_alloc w2 _ j h1))
  have hrange : ∀ j cs, Bk w2 j 42 cs → (w3.setCell ⟨R, 0, none⟩ (.slice (some ⟨g, 0, none⟩) (ms.length + 1) cap)).heap[j]? = w2.heap[j]? := fun j cs hj =>
    h42 j (def_lt' hj) (own_ne o2 hj (by decide)) (bk_ne hj q2 (by decide))
  have hB : Below base W (w2.alloc (.cells #[.slice Ac n cc] 22)) := ((hb1.mono hbase).trans (Below.trans ((Below.refl base w1).drew) (hb2.mono (by show base ≤ w1.heap.size; omega)))).alloc (by omega) _
  have hB3 : Below base W w3 := below_own hB (World.ownsRow.alloc (w := w2) o2 _) hgr3 (by simp; omega) (Nat.le_refl _)
  have hkept : Kept W (w3.setCell ⟨R, 0, none⟩ (.slice (some ⟨g, 0, none⟩) (ms.length + 1) cap)) R := by
    have q4 : Bk (w3.setCell ⟨R, 0, none⟩ (.slice (some ⟨g, 0, none⟩) (ms.length + 1) cap)) R 51 #[.slice (some ⟨g, 0, none⟩) (ms.length + 1) cap, .map mo] := q3.set_ 0 _
    refine ⟨fun j hj hf => ?_, fun j hj => ?_⟩
    · rw [Foot.one k1] at hf
      exact (h42 j (by omega) (fun e => hf (.inr (.inl e))) (fun e => hf (.inl e))).trans (h21 j hj)
    · rw [Foot.one q4] at hj
      rw [Foot.one k1]
      rcases hj with e | e | e
      · exact .inl (.inl e)
      · simp [Value.ownBlock] at e
        subst e
        rcases hat3 with h | h
        · exact .inl (.inr (.inl h))
        · right; rw [h]; simp; omega
      · exact .inl (.inr (.inr e))
  refine ⟨⟨_, mo, _, q3.set_ 0 _, k2, by simpa using ownsRow_setCell_other hown3 (own_ne hown3 q3 (by decide)) _, ?_, ?_⟩, hB3.setCell k2 _, (hB3.setCell k2 _).size, fun j cs hj => (hrange j cs ((h21 j (def_lt' hj)).trans hj)).trans (h21 j (def_lt' hj)), hkept⟩
  · intro i m hi
    rcases Nat.lt_or_ge i ms.length with h | h
    · rw [List.getElem?_append_left h] at hi
      obtain ⟨A, n', c, e1, e2⟩ := k4 i m hi
      refine ⟨A, n', c, ?_, own_keep e2 (fun j hj => ?_)⟩
      · rw [List.getElem?_append_left (List.getElem?_eq_some_iff.1 e1).1, e1]
      · obtain ⟨cur, hc⟩ := own_type e2 j hj
        have hj1 := def_lt' hc
        have hc2 : Bk w2 j 42 cur := (h21 j hj1).trans hc
        exact (hrange j cur hc2).trans (h21 j hj1)
    · rw [List.getElem?_append_right h] at hi
      have hvl : vs.length = ms.length := by simpa using k3.1
      cases hd : i - ms.length with
      | succ d => rw [hd] at hi; simp at hi
      | zero =>
        rw [hd] at hi
        simp at hi
        subst hi
        refine ⟨Ac, n, cc, ?_, own_keep (own_base hvc (by show base ≤ w1.heap.size; omega)) (fun j hj => ?_)⟩
        · rw [List.getElem?_append_right (by omega), hvl, hd]; rfl
        · obtain ⟨cur, hc⟩ := own_type hvc j hj
          exact hrange j cur hc
  · rcases k5 with h | ⟨b, e, h6, h7⟩
    · exact .inl h
    · refine .inr ⟨b, e, h6, ?_⟩
      have h7' : MapIs w2 b f := h7.keep (h21 b h7.lt)
      refine h7'.keep (h42 b h7'.lt (fun e2 => ?_) (h7'.ne q2))
      obtain ⟨cur, hc⟩ := own_type o2 b e2
      exact h7'.ne hc rfl

set_option maxRecDepth 100000 in
set_option maxHeartbeats 2000000 in
theorem add_good (base R : Nat) (ms : List (List Rg)) (f : IMap) (A : Option Addr) (n c : Nat) (l : List Rg) (W : World) (hR : RouteIs W base R ms f) (hbase : base ≤ W.heap.size) (hrd : Rd W W.heap.size 3 A n (rgs l)) (hA : A = none → n = 0) (hr : rightM l = true) (hms : ms.length < 5000) :
    Calls Try.prog 25 #[.pointer (some ⟨R, 0, none⟩), .slice A n c] W fun e W' => e = .returned (.int .i64 0) ∧ RouteIs W' base R (ms ++ [l]) f ∧ Below base W W' ∧ W.heap.size ≤ W'.heap.size ∧ KeepRg W W' ∧ Kept W W' R := by
  have hl := hrd.rlen
  have hn2 : n ≤ 1000 := by have := right_len hr; omega
  have hri := right_any A n c l W (by unfold maxLen; omega) (fun _ => hrd) hl
  rw [hr] at hri
  have hcl := fun W' (hb : Below W.heap.size W W') => clone_rg A n c l W' ((hrd.below hb).more hb.size) hA (by omega)
  have HRI := Lib.hid hri
  have HCL := Lib.hid hcl
  obtain ⟨v, mo, vs, k1, k2, k3, k4, k5⟩ := hR
  obtain ⟨A', c', rfl, _, _, _, hvs⟩ := own_form k3
  have K4 := Lib.hid k4
  have K5 := Lib.hid k5
  clear hri hr hcl hrd hl k4 k5
  go_enter Try.func25, Try.ntmps25
  go_wp2_with (go_at_call 14; refine HRI.out.mono ?_; rintro e w1 ⟨rfl, hb1⟩; have q1 := k1.ext hb1; have z0 := q1.cell 0; have z1 := q1.cell 1; have zf := q1.frozen; have zl := def_lt' q1; dsimp at z0 z1)
  refine wp_normal ?_
  go_region_law (first | (go_simp; go_at_call 42; refine (HCL.out _ hb1.drew).mono ?_; rintro e w2 ⟨vc, rfl, hvc, hb2⟩; obtain ⟨Ac, cc, rfl, _, _, _, _⟩ := own_form hvc; have q2 := q1.drew.ext hb2; have o2 := own_below (own_below k3 hb1.drew) hb2; have y4 := q2.cell 0; have yl := def_lt' q2; dsimp at y4) | (refine app_at_step Try.underlying48 info_rgs rfl (by decide) base _ ms.length vs (World.ownsRow.alloc (w := w2) o2 (.cells #[.slice Ac n cc] 22)) (by unfold maxLen; omega) (by omega) (by have := hb1.size; have := hb2.size; simp at this ⊢; omega) w2.heap.size #[.slice Ac n cc] (Bk.new w2 _ _) rfl (by simp [Value.oneCell']) rfl (.tmp 23) (.tmp 26) rfl rfl rfl ?_; intro g cap w3 hown3 hgr3 hat3 hlt3; have q3 := (q2.alloc (.cells #[.slice Ac n cc] 22)).grown hgr3 (own_ne o2 q2 (by decide)); have y0 := q3.cell 0; have yf := q3.frozen; have yl3 := def_lt' q3; dsimp at y0))
  all_goals
    go_wp2
    go_ret
    exact ⟨rfl, added hbase k1 k2 k3 K4.out K5.out hb1 hb2 hvc hown3 hgr3 hat3⟩
end Go.Proofs.Ytkkbmcpimglcpaa
