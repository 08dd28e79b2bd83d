/- route: pair whole, Mirror -/
import Derived.Test.YtkkbmcpimglcpaaRtE
namespace Go.Proofs.Ytkkbmcpimglcpaa
open Go.RowKit

/-- what a call that turns a route leaves -/
abbrev Turned (W W' : World) (base R : Nat) (ms : List (List Rg)) (f : IMap) : Prop := RouteIs W' base R ms f ∧ Below base W W' ∧ W.heap.size ≤ W'.heap.size ∧ KeepRg W W' ∧ Kept W W' R

theorem pair_any (base R : Nat) (ms : List (List Rg)) (f : IMap) (a b : Int) (W : World) (hR : RouteIs W base R ms f) (hbase : base ≤ W.heap.size) :
    Calls Try.prog 43 #[.pointer (some ⟨R, 0, none⟩), .int .i64 a, .int .i64 b] W fun e W' => (∃ u, e = .returned u) ∧ Turned W W' base R ms (upd (upd f a b) b a) := by
  obtain ⟨v, mo, vs, k1, k2, k3, k4, k5⟩ := hR
  rcases k5 with ⟨rfl, hf⟩ | ⟨p, rfl, hp1, hp2⟩
  · refine (pair_none R v f a b W k1 hf).mono fun e W' ⟨hu, q1, q2, q3, q4, q5, q6, q7⟩ => ⟨hu, ⟨v, _, vs, q1, k2, own_keep k3 (fun j hj => q3 j (own_lt k3 j hj) ?_), k4.keep (fun j cs hj => q3 j (def_lt' hj) (bk_ne hj k1 (by decide))), .inr ⟨_, rfl, hbase, q2⟩⟩, ⟨q5, q6, q7, by omega, fun k hk => q3 k (by omega) (by omega)⟩, by omega, fun j cs hj => q3 j (def_lt' hj) (bk_ne hj k1 (by decide)), fun j hj hf => q3 j hj (fun e => hf (.inl e)), fun j hj => ?_⟩
    rotate_left
    · rw [Foot.one q1] at hj
      rw [Foot.one k1]
      rcases hj with e | e | e
      · exact .inl (.inl e)
      · exact .inl (.inr (.inl e))
      · right; injection e with e; omega
    rintro rfl
    exact own_ne k3 k1 (by decide) hj
  · refine (pair_some R p v f a b W k1 hp2).mono fun e W' ⟨hu, q1, q2, q3, q4⟩ => ⟨hu, ⟨v, _, vs, q1, k2, own_keep k3 (fun j hj => q3 j ?_), k4.keep (fun j cs hj => q3 j (hp2.ne hj).symm), .inr ⟨_, rfl, hp1, q2⟩⟩, q4.mono hp1, q4.size, fun j cs hj => q3 j (hp2.ne hj).symm, fun j hj hf => q3 j (fun e => hf ((Foot.one k1).2 (.inr (.inr (by rw [e]))))), fun j hj => .inl ((Foot.one k1).2 ((Foot.one q1).1 hj))⟩
    obtain ⟨cur, hc⟩ := own_type k3 j hj
    exact (hp2.ne hc).symm

theorem route_look {W : World} {mo : Option Nat} {f : IMap} {base : Nat} (h : (mo = none ∧ ∀ k, f k = none) ∨ ∃ b, mo = some b ∧ base ≤ b ∧ MapIs W b f) (k : Int) :
    (Instr.lookup 49 (.map mo) (.int .i64 k) true).run Try.prog W = .ok (.tuple #[.int .i64 ((f k).getD 0), .bool (f k).isSome]) W := by
  rcases h with ⟨rfl, hf⟩ | ⟨b, rfl, _, hb⟩
  · rw [run_look_nil, hf k]; rfl
  · exact run_look hb k

/-- what Mirror answers -/
def mirE (ms : List (List Rg)) (f : IMap) (l : List Rg) (k : Int) : Int := if rightM l then (if 0 ≤ k ∧ k < ms.length ∧ f k = none then 0 else 6) else 1

set_option maxHeartbeats 2000000 in
theorem mirror_bad (base R : Nat) (ms : List (List Rg)) (f : IMap) (A : Option Addr) (n c : Nat) (l : List Rg) (k : Int) (W : World) (hR : RouteIs W base R ms f) (hn : n ≤ maxLen) (h : n ≤ 1000 → Rd W W.heap.size 3 A n (rgs l)) (hl : l.length = n) (hms : ms.length < 5000) (hbad : mirE ms f l k ≠ 0) :
    Calls Try.prog 26 #[.pointer (some ⟨R, 0, none⟩), .slice A n c, .int .i64 k] W fun e W' => e = .returned (.int .i64 (mirE ms f l k)) ∧ Below W.heap.size W W' := by
  have hri := right_any A n c l W hn h hl
  have HRI := Lib.hid hri
  obtain ⟨v, mo, vs, k1, k2, k3, k4, k5⟩ := hR
  obtain ⟨A', c', rfl, _, _, _, hvs⟩ := own_form k3
  clear hri h hl
  have hc : (rightM l = false ∧ mirE ms f l k = 1) ∨ (rightM l = true ∧ k < 0 ∧ mirE ms f l k = 6) ∨ (rightM l = true ∧ 0 ≤ k ∧ ¬ k < ms.length ∧ mirE ms f l k = 6) ∨ (rightM l = true ∧ 0 ≤ k ∧ k < ms.length ∧ (f k).isSome = true ∧ mirE ms f l k = 6) := by
    unfold mirE at *
    cases hr : rightM l with
    | false => exact .inl ⟨rfl, by simp⟩
    | true =>
      right
      rw [hr, if_pos rfl] at hbad
      have hb2 : ¬ (0 ≤ k ∧ k < ms.length ∧ f k = none) := fun h => hbad (if_pos h)
      rw [if_pos rfl, if_neg hb2]
      by_cases h1 : k < 0
      · exact .inl ⟨rfl, h1, rfl⟩
      · by_cases h2 : k < ms.length
        · refine .inr (.inr ⟨rfl, by omega, h2, ?_, rfl⟩)
          cases hf : f k with
          | none => exact absurd ⟨by omega, h2, hf⟩ hb2
          | some _ => rfl
        · exact .inr (.inl ⟨rfl, by omega, h2, rfl⟩)
  have K5 := Lib.hid k5
  clear k5 hbad
  rcases hc with ⟨hr, hm⟩ | ⟨hr, h1, hm⟩ | ⟨hr, h1, h2, hm⟩ | ⟨hr, h1, h2, h3, hm⟩
  all_goals
    rw [hm]
    rw [hr] at HRI
    clear hr hm
    go_enter Try.func26, Try.ntmps26
    go_wp2_with (go_at_call 14; refine HRI.out.mono ?_; rintro e w1 ⟨rfl, hb1⟩; have q1 := k1.ext hb1; have z0 := q1.cell 0; have z1 := q1.cell 1; have zl := def_lt' q1; dsimp at z0 z1; have hlk := route_look (base := base) (W := w1) (K5.out.imp id (fun ⟨b, e1, e2, e3⟩ => ⟨b, e1, e2, e3.keep (hb1.block b e3.lt)⟩)) k)
    go_ret
    exact ⟨rfl, hb1⟩

set_option maxHeartbeats 2000000 in
theorem mirror_good (base R : Nat) (ms : List (List Rg)) (f : IMap) (A : Option Addr) (n c : Nat) (l : List Rg) (k : Int) (W : World) (hR : RouteIs W base R ms f) (hbase : base ≤ W.heap.size) (harg : RgArg W base A n l) (hA : A = none → n = 0) (hr : rightM l = true) (hms : ms.length < 5000) (hk0 : 0 ≤ k) (hk1 : k < ms.length) (hk2 : f k = none) :
    Calls Try.prog 26 #[.pointer (some ⟨R, 0, none⟩), .slice A n c, .int .i64 k] W fun e W' => e = .returned (.int .i64 0) ∧ Turned W W' base R (ms ++ [l]) (upd (upd f k ms.length) ms.length k) := by
  have hrd := harg.rd hbase
  have hl := hrd.rlen
  have hn2 : n ≤ 1000 := by have := right_len hr; omega
  have hri := right_any A n c l W (by unfold maxLen; omega) (fun _ => hrd) hl
  rw [hr] at hri
  have hpr := fun w1 (hb : Below W.heap.size W w1) => pair_any base R ms f k ms.length w1 (hR.ext hb) (by have := hb.size; omega)
  have had := fun w1 w2 (hb : Below W.heap.size W w1) (ht : Turned w1 w2 base R ms (upd (upd f k ms.length) ms.length k)) =>
    add_good base R ms _ A n c l w2 ht.1 (by have := hb.size; have := ht.2.2.1; omega) (((harg.keep (hb.mono hbase) (KeepRg.below hb)).keep ht.2.1 ht.2.2.2.1).rd (by have := hb.size; have := ht.2.2.1; omega)) hA hr hms
  have HRI := Lib.hid hri
  have HPR := Lib.hid hpr
  have HAD := Lib.hid had
  obtain ⟨v, mo, vs, k1, k2, k3, k4, k5⟩ := hR
  obtain ⟨A', c', rfl, _, _, _, hvs⟩ := own_form k3
  have K5 := Lib.hid k5
  clear hri hpr had k5 hrd hl harg
  go_enter Try.func26, Try.ntmps26
  go_wp2_with (first
    | (go_at_call 14; refine HRI.out.mono ?_; rintro e w1 ⟨rfl, hb1⟩; have q1 := k1.ext hb1; have z0 := q1.cell 0; have z1 := q1.cell 1; have zl := def_lt' q1; dsimp at z0 z1; have hlk := route_look (base := base) (W := w1) (K5.out.imp id (fun ⟨b, e1, e2, e3⟩ => ⟨b, e1, e2, e3.keep (hb1.block b e3.lt)⟩)) k; rw [hk2] at hlk)
    | (go_at_call 43; refine (HPR.out _ hb1).mono ?_; rintro e w2 ⟨⟨u, rfl⟩, ht⟩)
    | (go_at_call 25; refine (HAD.out _ _ hb1 ht).mono ?_; rintro e w3 ⟨rfl, ht3⟩))
  go_ret
  exact ⟨rfl, ht3.1, (hb1.mono hbase).trans (ht.2.1.trans ht3.2.1), by have := hb1.size; have := ht.2.2.1; have := ht3.2.2.1; omega, (KeepRg.below hb1).trans (ht.2.2.2.1.trans ht3.2.2.2.1), (Kept.below k1 hb1).trans (ht.2.2.2.2.trans ht3.2.2.2.2 ht.2.2.1) hb1.size⟩
end Go.Proofs.Ytkkbmcpimglcpaa
