/- group: opening steps, clocks, spans -/
import Derived.Test.YtjenokeeokghgaaGrA
import Derived.Test.YtjenokeeokghgaaY
namespace Go.Proofs.Ytjenokeeokghgaa
open Go.ChangeShapes Go.WideShapes Go.ChangeAt Go.RowKit

section
variable {H : Type} {enc : TypeId × Value → H} {W : World} {b : Nat} {sp : Nat → Bool} {hd : Bool}
theorem arr_at {T e : TypeId} {n fuel : Nat} {cs : List Value} {y : DataW H × List MemPlace} (hT : Try.prog.underlying T = some (.array n e)) (hc : Try.prog.cellsOf e = 1) (h : DataW.trod enc Try.prog W b sp hd fuel T cs = some y) :
    cs.length = Try.prog.cellsOf T ∧ ∀ i, i < n → ∃ m z, DataW.trod enc Try.prog W b sp hd m e ((cs.drop i).take 1) = some z := by
  obtain ⟨xs, m, _, _, hl, hlen, hf⟩ := DataW.trod_array hT h
  refine ⟨hl, fun i hi => ?_⟩
  have := hf i hi
  rw [hc, Nat.mul_one, List.getElem?_eq_getElem (by omega)] at this
  exact ⟨m, _, this⟩
theorem str_at {T : TypeId} {fs : Array Field} {fuel : Nat} {cs : List Value} {y : DataW H × List MemPlace} (hT : Try.prog.underlying T = some (.struct fs)) (h : DataW.trod enc Try.prog W b sp hd fuel T cs = some y) :
    cs.length = Try.prog.cellsOf T ∧ ∀ (i : Nat) (ty : TypeId) (off : Nat), fs[i]?.map (fun f => (f.type, f.offset)) = some (ty, off) → ∃ m z, DataW.trod enc Try.prog W b sp hd m ty ((cs.drop off).take (Try.prog.cellsOf ty)) = some z := by
  obtain ⟨xs, m, _, _, hl, hlen, hf⟩ := DataW.trod_struct hT h
  refine ⟨hl, fun i ty off hi => ?_⟩
  obtain ⟨f, hf1, hf2⟩ := Option.map_eq_some_iff.1 hi
  injection hf2 with h1 h2
  subst h1 h2
  have hlt := (Array.getElem?_eq_some_iff.1 hf1).1
  have := hf i f hf1
  rw [List.getElem?_eq_getElem (by omega)] at this
  exact ⟨m, _, this⟩

theorem open_mk (n : Nat) (cs : List Value) (y : DataW H × List MemPlace) (h : DataW.trod enc Try.prog W b sp hd n 65 cs = some y) : ∃ x : Mk, cs = x.cells ∧ True := by
  have hc : Try.prog.cellsOf 63 = 1 := by kernel_rfl
  have hc8 : Try.prog.cellsOf 65 = 8 := by kernel_rfl
  obtain ⟨hl, hf⟩ := arr_at (n := 8) (e := 63) (by kernel_rfl) hc h
  rw [hc8] at hl
  match cs, hl with
  | [v0, v1, v2, v3, v4, v5, v6, v7], _ =>
    obtain ⟨_, _, g0⟩ := hf 0 (by omega)
    obtain ⟨_, _, g1⟩ := hf 1 (by omega)
    obtain ⟨_, _, g2⟩ := hf 2 (by omega)
    obtain ⟨_, _, g3⟩ := hf 3 (by omega)
    obtain ⟨_, _, g4⟩ := hf 4 (by omega)
    obtain ⟨_, _, g5⟩ := hf 5 (by omega)
    obtain ⟨_, _, g6⟩ := hf 6 (by omega)
    obtain ⟨_, _, g7⟩ := hf 7 (by omega)
    simp only [List.drop_succ_cons, List.drop_zero, List.take_succ_cons, List.take_zero] at g0 g1 g2 g3 g4 g5 g6 g7
    obtain ⟨x0, e0, _, _⟩ := DataW.trod_int Try.underlying63 g0
    obtain ⟨x1, e1, _, _⟩ := DataW.trod_int Try.underlying63 g1
    obtain ⟨x2, e2, _, _⟩ := DataW.trod_int Try.underlying63 g2
    obtain ⟨x3, e3, _, _⟩ := DataW.trod_int Try.underlying63 g3
    obtain ⟨x4, e4, _, _⟩ := DataW.trod_int Try.underlying63 g4
    obtain ⟨x5, e5, _, _⟩ := DataW.trod_int Try.underlying63 g5
    obtain ⟨x6, e6, _, _⟩ := DataW.trod_int Try.underlying63 g6
    obtain ⟨x7, e7, _, _⟩ := DataW.trod_int Try.underlying63 g7
    injection e0 with e0; injection e1 with e1; injection e2 with e2; injection e3 with e3; injection e4 with e4; injection e5 with e5; injection e6 with e6; injection e7 with e7
    subst e0 e1 e2 e3 e4 e5 e6 e7
    exact ⟨⟨x0, x1, x2, x3, x4, x5, x6, x7⟩, rfl, trivial⟩
theorem open_sp (n : Nat) (cs : List Value) (y : DataW H × List MemPlace) (h : DataW.trod enc Try.prog W b sp hd n 37 cs = some y) : ∃ x : Sp, cs = x.cells ∧ True := by
  have hc : Try.prog.cellsOf 3 = 1 := by kernel_rfl
  have hc2 : Try.prog.cellsOf 37 = 2 := by kernel_rfl
  obtain ⟨hl, hf⟩ := arr_at (n := 2) (e := 3) (by kernel_rfl) hc h
  rw [hc2] at hl
  match cs, hl with
  | [v0, v1], _ =>
    obtain ⟨_, _, g0⟩ := hf 0 (by omega)
    obtain ⟨_, _, g1⟩ := hf 1 (by omega)
    simp only [List.drop_succ_cons, List.drop_zero, List.take_succ_cons, List.take_zero] at g0 g1
    obtain ⟨x0, e0, _, _⟩ := DataW.trod_int Try.underlying3 g0
    obtain ⟨x1, e1, _, _⟩ := DataW.trod_int Try.underlying3 g1
    injection e0 with e0; injection e1 with e1
    subst e0 e1
    exact ⟨⟨x0, x1⟩, rfl, trivial⟩
set_option maxRecDepth 100000 in
theorem open_tok (n : Nat) (cs : List Value) (y : DataW H × List MemPlace) (h : DataW.trod enc Try.prog W b sp hd n 67 cs = some y) : ∃ x : Tok, cs = x.cells ∧ True := by
  have hc : Try.prog.cellsOf 3 = 1 := by kernel_rfl
  have hc3 : Try.prog.cellsOf 21 = 1 := by kernel_rfl
  have hc8 : Try.prog.cellsOf 65 = 8 := by kernel_rfl
  have hc12 : Try.prog.cellsOf 67 = 12 := by kernel_rfl
  obtain ⟨hl, hf⟩ := str_at Try.underlying67 h
  rw [hc12] at hl
  match cs, hl with
  | [v0, v1, v2, v3, u0, u1, u2, u3, u4, u5, u6, u7], _ =>
    obtain ⟨_, _, g0⟩ := hf 0 3 0 rfl
    obtain ⟨_, _, g1⟩ := hf 1 3 1 rfl
    obtain ⟨_, _, g2⟩ := hf 2 3 2 rfl
    obtain ⟨_, _, g3⟩ := hf 3 21 3 rfl
    obtain ⟨_, _, g4⟩ := hf 4 65 4 rfl
    simp only [hc, hc3, hc8, List.drop_succ_cons, List.drop_zero, List.take_succ_cons, List.take_zero] at g0 g1 g2 g3 g4
    obtain ⟨x0, e0, _, _⟩ := DataW.trod_int Try.underlying3 g0
    obtain ⟨x1, e1, _, _⟩ := DataW.trod_int Try.underlying3 g1
    obtain ⟨x2, e2, _, _⟩ := DataW.trod_int Try.underlying3 g2
    obtain ⟨x3, e3, _, _⟩ := DataW.trod_int Try.underlying21 g3
    obtain ⟨m, e4, _⟩ := open_mk _ _ _ g4
    injection e0 with e0; injection e1 with e1; injection e2 with e2; injection e3 with e3
    subst e0 e1 e2 e3
    refine ⟨⟨x0, x1, x2, x3, m⟩, ?_, trivial⟩
    rw [Tok.cells, ← e4]
end

section
variable {H : Type} {enc : TypeId × Value → H} {W : World} {b : Nat} {sp : Nat → Bool} {hd : Bool} {a : Option Addr} {len cap : Nat} {d : DataW H} {pl : List MemPlace}
theorem open_toks (h : ∃ fuel, DataW.trod enc Try.prog W b sp hd fuel 25 [.slice a len cap] = some (d, pl)) : ∃ l : List Tok, l.length = len ∧ Rd W W.heap.size 12 a len (toks l) ∧ len ≤ cap ∧ cap ≤ maxLen ∧ (a = none → len = 0) := by
  obtain ⟨l, h1, h2, h3, h4, h5, _⟩ := open_els (s := 12) Tok.cells (fun _ => True) Try.underlying25 (by kernel_rfl) (by omega) (fun _ => rfl) h open_tok
  exact ⟨l, h1, h2, h3, h4, h5⟩
theorem open_mks (h : ∃ fuel, DataW.trod enc Try.prog W b sp hd fuel 26 [.slice a len cap] = some (d, pl)) : ∃ l : List Mk, l.length = len ∧ Rd W W.heap.size 8 a len (mks l) ∧ len ≤ cap ∧ cap ≤ maxLen ∧ (a = none → len = 0) := by
  obtain ⟨l, h1, h2, h3, h4, h5, _⟩ := open_els (s := 8) Mk.cells (fun _ => True) Try.underlying26 (by kernel_rfl) (by omega) (fun _ => rfl) h open_mk
  exact ⟨l, h1, h2, h3, h4, h5⟩
theorem open_sps (h : ∃ fuel, DataW.trod enc Try.prog W b sp hd fuel 22 [.slice a len cap] = some (d, pl)) : ∃ l : List Sp, l.length = len ∧ Rd W W.heap.size 2 a len (sps l) ∧ len ≤ cap ∧ cap ≤ maxLen ∧ (a = none → len = 0) := by
  obtain ⟨l, h1, h2, h3, h4, h5, _⟩ := open_els (s := 2) Sp.cells (fun _ => True) Try.underlying22 (by kernel_rfl) (by omega) (fun _ => rfl) h open_sp
  exact ⟨l, h1, h2, h3, h4, h5⟩
end

section
variable {H : Type} {enc : TypeId × Value → H} {W : World} {b : Nat} {sp : Nat → Bool} {hd : Bool}
theorem slice_at {T E : TypeId} {fuel : Nat} {v : Value} {y : DataW H × List MemPlace} (hT : Try.prog.underlying T = some (.slice E)) (h : DataW.trod enc Try.prog W b sp hd fuel T [v] = some y) : ∃ a len cap, v = .slice a len cap := by
  rcases Deep.open_slice hT h with ⟨hcs, _⟩ | ⟨x, l, c, m, n, D, Pl, hcs, _⟩
  · simp at hcs; exact ⟨_, _, _, hcs⟩
  · simp at hcs; exact ⟨_, _, _, hcs⟩
set_option maxRecDepth 100000 in
theorem open_step {fuel : Nat} {cs : List Value} {y : DataW H × List MemPlace} (h : DataW.trod enc Try.prog W b sp hd fuel 28 cs = some y) :
    ∃ (k f t g h i m v : Int) (A A' : Option Addr) (n n' c c' : Nat) (sl : List Tok) (st : List Mk), cs = [.int .i64 k, .int .i64 f, .int .i64 t, .int .i64 g, .int .i64 h, .int .i64 i, .int .i64 m, .int .i64 v, .slice A n c, .slice A' n' c'] ∧
      n ≤ maxLen ∧ n' ≤ maxLen ∧ Rd W W.heap.size 12 A n (toks sl) ∧ Rd W W.heap.size 8 A' n' (mks st) := by
  have hc : Try.prog.cellsOf 3 = 1 := by kernel_rfl
  have hc1 : Try.prog.cellsOf 25 = 1 := by kernel_rfl
  have hc2 : Try.prog.cellsOf 26 = 1 := by kernel_rfl
  have hc10 : Try.prog.cellsOf 28 = 10 := by kernel_rfl
  obtain ⟨hl, hf⟩ := str_at Try.underlying28 h
  rw [hc10] at hl
  match cs, hl with
  | [v0, v1, v2, v3, v4, v5, v6, v7, v8, v9], _ =>
    obtain ⟨_, _, g0⟩ := hf 0 3 0 rfl
    obtain ⟨_, _, g1⟩ := hf 1 3 1 rfl
    obtain ⟨_, _, g2⟩ := hf 2 3 2 rfl
    obtain ⟨_, _, g3⟩ := hf 3 3 3 rfl
    obtain ⟨_, _, g4⟩ := hf 4 3 4 rfl
    obtain ⟨_, _, g5⟩ := hf 5 3 5 rfl
    obtain ⟨_, _, g6⟩ := hf 6 3 6 rfl
    obtain ⟨_, _, g7⟩ := hf 7 3 7 rfl
    obtain ⟨_, ⟨_, _⟩, g8⟩ := hf 8 25 8 rfl
    obtain ⟨_, ⟨_, _⟩, g9⟩ := hf 9 26 9 rfl
    simp only [hc, hc1, hc2, List.drop_succ_cons, List.drop_zero, List.take_succ_cons, List.take_zero] at g0 g1 g2 g3 g4 g5 g6 g7 g8 g9
    obtain ⟨x0, e0, _, _⟩ := DataW.trod_int Try.underlying3 g0
    obtain ⟨x1, e1, _, _⟩ := DataW.trod_int Try.underlying3 g1
    obtain ⟨x2, e2, _, _⟩ := DataW.trod_int Try.underlying3 g2
    obtain ⟨x3, e3, _, _⟩ := DataW.trod_int Try.underlying3 g3
    obtain ⟨x4, e4, _, _⟩ := DataW.trod_int Try.underlying3 g4
    obtain ⟨x5, e5, _, _⟩ := DataW.trod_int Try.underlying3 g5
    obtain ⟨x6, e6, _, _⟩ := DataW.trod_int Try.underlying3 g6
    obtain ⟨x7, e7, _, _⟩ := DataW.trod_int Try.underlying3 g7
    injection e0 with e0; injection e1 with e1; injection e2 with e2; injection e3 with e3; injection e4 with e4; injection e5 with e5; injection e6 with e6; injection e7 with e7
    subst e0 e1 e2 e3 e4 e5 e6 e7
    obtain ⟨A, n, c, rfl⟩ := slice_at Try.underlying25 g8
    obtain ⟨A', n', c', rfl⟩ := slice_at Try.underlying26 g9
    obtain ⟨sl, _, p2, p3, p4, _⟩ := open_toks ⟨_, g8⟩
    obtain ⟨st, _, q2, q3, q4, _⟩ := open_mks ⟨_, g9⟩
    exact ⟨x0, x1, x2, x3, x4, x5, x6, x7, A, A', n, n', c, c', sl, st, rfl, by omega, by omega, p2, q2⟩
set_option maxRecDepth 100000 in
theorem open_clock {fuel : Nat} {cs : List Value} {y : DataW H × List MemPlace} (h : DataW.trod enc Try.prog W b sp hd fuel 24 cs = some y) :
    ∃ (o : Bool) (ct : Int) (B : Option Addr) (l cl : Nat) (L : List Sp), cs = [.bool o, .int .i64 ct, .slice B l cl] ∧ (Lit.int .i64 ct).wf = true ∧
      L.length = l ∧ l ≤ cl ∧ cl ≤ maxLen ∧ Rd W W.heap.size 2 B l (sps L) ∧ (B = none → l = 0) := by
  have hc : Try.prog.cellsOf 2 = 1 := by kernel_rfl
  have hcb : Try.prog.cellsOf 4 = 1 := by kernel_rfl
  have hc1 : Try.prog.cellsOf 22 = 1 := by kernel_rfl
  have hc10 : Try.prog.cellsOf 24 = 3 := by kernel_rfl
  obtain ⟨hl, hf⟩ := str_at Try.underlying24 h
  rw [hc10] at hl
  match cs, hl with
  | [v0, v1, v2], _ =>
    obtain ⟨_, _, g0⟩ := hf 0 4 0 rfl
    obtain ⟨_, _, g1⟩ := hf 1 2 1 rfl
    obtain ⟨_, ⟨_, _⟩, g2⟩ := hf 2 22 2 rfl
    simp only [hc, hcb, hc1, List.drop_succ_cons, List.drop_zero, List.take_succ_cons, List.take_zero] at g0 g1 g2
    obtain ⟨x0, e0, _⟩ := DataW.trod_bool Try.underlying4 g0
    obtain ⟨x1, e1, _, w1⟩ := DataW.trod_int Try.underlying2 g1
    injection e0 with e0; injection e1 with e1
    subst e0 e1
    obtain ⟨B, l, cl, rfl⟩ := slice_at Try.underlying22 g2
    obtain ⟨L, p1, p2, p3, p4, p5⟩ := open_sps ⟨_, g2⟩
    exact ⟨x0, x1, B, l, cl, L, rfl, w1, p1, p3, p4, p2, p5⟩
end
theorem i64_bd {x : Int} (h : (Lit.int .i64 x).wf = true) : -9223372036854775808 ≤ x ∧ x ≤ 9223372036854775807 := by
  have hmin : IntKind.i64.min = -9223372036854775808 := rfl
  have hmax : IntKind.i64.max = 9223372036854775807 := rfl
  simp only [Lit.wf, Bool.and_eq_true, decide_eq_true_eq] at h
  omega
theorem u32_bd {x : Int} (h : (Lit.int .u32 x).wf = true) : 0 ≤ x ∧ x ≤ 4294967295 := by
  have hmin : IntKind.u32.min = 0 := rfl
  have hmax : IntKind.u32.max = 4294967295 := rfl
  simp only [Lit.wf, Bool.and_eq_true, decide_eq_true_eq] at h
  omega
theorem arr_of {cs : Array Value} {l : List Value} (h : cs.toList = l) : cs = l.toArray := by
  subst h; rfl
end Go.Proofs.Ytjenokeeokghgaa
