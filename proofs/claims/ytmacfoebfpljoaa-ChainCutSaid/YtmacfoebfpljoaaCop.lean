/- chain: opening steps and groups -/
import Derived.Test.YtmacfoebfpljoaaCraw
import Derived.Test.YtmacfoebfpljoaaY
namespace Go.Proofs.Ytmacfoebfpljoaa
open Go.ChangeShapes Go.WideShapes Go.ChangeAt Go.RowKit

section
variable {H : Type} {enc : TypeId × Value → H} {W : World} {b : Nat} {sp : Nat → Bool} {hd : Bool}
theorem arr_at {T e : TypeId} {n fuel : Nat} {cs : List Value} {y : DataW H × List MemPlace} (hT : Try.prog.underlying T = some (.array n e)) (hc : Try.prog.cellsOf e = 1) (h : DataW.trod enc Try.prog W b sp hd fuel T cs = some y) :
    cs.length = Try.prog.cellsOf T ∧ ∀ i, i < n → ∃ m z, DataW.trod enc Try.prog W b sp hd m e ((cs.drop i).take 1) = some z := by
  obtain ⟨xs, m, _, _, hl, hlen, hf⟩ := DataW.trod_array hT h
  refine ⟨hl, fun i hi => ?_⟩
  have := hf i hi
  rw [hc, Nat.mul_one, List.getElem?_eq_getElem (by omega)] at this
  exact ⟨m, _, this⟩
theorem str_at {T : TypeId} {fs : Array Field} {fuel : Nat} {cs : List Value} {y : DataW H × List MemPlace} (hT : Try.prog.underlying T = some (.struct fs)) (h : DataW.trod enc Try.prog W b sp hd fuel T cs = some y) :
    cs.length = Try.prog.cellsOf T ∧ ∀ (i : Nat) (ty : TypeId) (off : Nat), fs[i]?.map (fun f => (f.type, f.offset)) = some (ty, off) → ∃ m z, DataW.trod enc Try.prog W b sp hd m ty ((cs.drop off).take (Try.prog.cellsOf ty)) = some z := by
  obtain ⟨xs, m, _, _, hl, hlen, hf⟩ := DataW.trod_struct hT h
  refine ⟨hl, fun i ty off hi => ?_⟩
  obtain ⟨f, hf1, hf2⟩ := Option.map_eq_some_iff.1 hi
  injection hf2 with h1 h2
  subst h1 h2
  have hlt := (Array.getElem?_eq_some_iff.1 hf1).1
  have := hf i f hf1
  rw [List.getElem?_eq_getElem (by omega)] at this
  exact ⟨m, _, this⟩

theorem open_mk (n : Nat) (cs : List Value) (y : DataW H × List MemPlace) (h : DataW.trod enc Try.prog W b sp hd n 89 cs = some y) : ∃ x : Mk, cs = x.cells ∧ True := by
  have hc : Try.prog.cellsOf 48 = 1 := by kernel_rfl
  have hc8 : Try.prog.cellsOf 89 = 8 := by kernel_rfl
  obtain ⟨hl, hf⟩ := arr_at (n := 8) (e := 48) (by kernel_rfl) hc h
  rw [hc8] at hl
  match cs, hl with
  | [v0, v1, v2, v3, v4, v5, v6, v7], _ =>
    obtain ⟨_, _, g0⟩ := hf 0 (by omega)
    obtain ⟨_, _, g1⟩ := hf 1 (by omega)
    obtain ⟨_, _, g2⟩ := hf 2 (by omega)
    obtain ⟨_, _, g3⟩ := hf 3 (by omega)
    obtain ⟨_, _, g4⟩ := hf 4 (by omega)
    obtain ⟨_, _, g5⟩ := hf 5 (by omega)
    obtain ⟨_, _, g6⟩ := hf 6 (by omega)
    obtain ⟨_, _, g7⟩ := hf 7 (by omega)
    simp only [List.drop_succ_cons, List.drop_zero, List.take_succ_cons, List.take_zero] at g0 g1 g2 g3 g4 g5 g6 g7
    obtain ⟨x0, e0, _, _⟩ := DataW.trod_int Try.underlying48 g0
    obtain ⟨x1, e1, _, _⟩ := DataW.trod_int Try.underlying48 g1
    obtain ⟨x2, e2, _, _⟩ := DataW.trod_int Try.underlying48 g2
    obtain ⟨x3, e3, _, _⟩ := DataW.trod_int Try.underlying48 g3
    obtain ⟨x4, e4, _, _⟩ := DataW.trod_int Try.underlying48 g4
    obtain ⟨x5, e5, _, _⟩ := DataW.trod_int Try.underlying48 g5
    obtain ⟨x6, e6, _, _⟩ := DataW.trod_int Try.underlying48 g6
    obtain ⟨x7, e7, _, _⟩ := DataW.trod_int Try.underlying48 g7
    injection e0 with e0; injection e1 with e1; injection e2 with e2; injection e3 with e3; injection e4 with e4; injection e5 with e5; injection e6 with e6; injection e7 with e7
    subst e0 e1 e2 e3 e4 e5 e6 e7
    exact ⟨⟨x0, x1, x2, x3, x4, x5, x6, x7⟩, rfl, trivial⟩
set_option maxRecDepth 100000 in
theorem open_tok (n : Nat) (cs : List Value) (y : DataW H × List MemPlace) (h : DataW.trod enc Try.prog W b sp hd n 91 cs = some y) : ∃ x : Tok, cs = x.cells ∧ True := by
  have hc : Try.prog.cellsOf 3 = 1 := by kernel_rfl
  have hc3 : Try.prog.cellsOf 21 = 1 := by kernel_rfl
  have hc8 : Try.prog.cellsOf 89 = 8 := by kernel_rfl
  have hc12 : Try.prog.cellsOf 91 = 12 := by kernel_rfl
  obtain ⟨hl, hf⟩ := str_at Try.underlying91 h
  rw [hc12] at hl
  match cs, hl with
  | [v0, v1, v2, v3, u0, u1, u2, u3, u4, u5, u6, u7], _ =>
    obtain ⟨_, _, g0⟩ := hf 0 3 0 rfl
    obtain ⟨_, _, g1⟩ := hf 1 3 1 rfl
    obtain ⟨_, _, g2⟩ := hf 2 3 2 rfl
    obtain ⟨_, _, g3⟩ := hf 3 21 3 rfl
    obtain ⟨_, _, g4⟩ := hf 4 89 4 rfl
    simp only [hc, hc3, hc8, List.drop_succ_cons, List.drop_zero, List.take_succ_cons, List.take_zero] at g0 g1 g2 g3 g4
    obtain ⟨x0, e0, _, _⟩ := DataW.trod_int Try.underlying3 g0
    obtain ⟨x1, e1, _, _⟩ := DataW.trod_int Try.underlying3 g1
    obtain ⟨x2, e2, _, _⟩ := DataW.trod_int Try.underlying3 g2
    obtain ⟨x3, e3, _, _⟩ := DataW.trod_int Try.underlying21 g3
    obtain ⟨m, e4, _⟩ := open_mk _ _ _ g4
    injection e0 with e0; injection e1 with e1; injection e2 with e2; injection e3 with e3
    subst e0 e1 e2 e3
    refine ⟨⟨x0, x1, x2, x3, m⟩, ?_, trivial⟩
    rw [Tok.cells, ← e4]
end

section
variable {H : Type} {enc : TypeId × Value → H} {W : World} {b : Nat} {sp : Nat → Bool} {hd : Bool} {a : Option Addr} {len cap : Nat} {d : DataW H} {pl : List MemPlace}
theorem open_toks (h : ∃ fuel, DataW.trod enc Try.prog W b sp hd fuel 38 [.slice a len cap] = some (d, pl)) : ∃ l : List Tok, l.length = len ∧ Rd W W.heap.size 12 a len (toks l) ∧ len ≤ cap ∧ cap ≤ maxLen ∧ (a = none → len = 0) := by
  obtain ⟨l, h1, h2, h3, h4, h5, _⟩ := open_els (s := 12) Tok.cells (fun _ => True) Try.underlying38 (by kernel_rfl) (by omega) (fun _ => rfl) h open_tok
  exact ⟨l, h1, h2, h3, h4, h5⟩
theorem open_mks (h : ∃ fuel, DataW.trod enc Try.prog W b sp hd fuel 39 [.slice a len cap] = some (d, pl)) : ∃ l : List Mk, l.length = len ∧ Rd W W.heap.size 8 a len (mks l) ∧ len ≤ cap ∧ cap ≤ maxLen ∧ (a = none → len = 0) := by
  obtain ⟨l, h1, h2, h3, h4, h5, _⟩ := open_els (s := 8) Mk.cells (fun _ => True) Try.underlying39 (by kernel_rfl) (by omega) (fun _ => rfl) h open_mk
  exact ⟨l, h1, h2, h3, h4, h5⟩
end

theorem i64_bd {x : Int} (h : (Lit.int .i64 x).wf = true) : -9223372036854775808 ≤ x ∧ x ≤ 9223372036854775807 := by
  have hmin : IntKind.i64.min = -9223372036854775808 := rfl
  have hmax : IntKind.i64.max = 9223372036854775807 := rfl
  simp only [Lit.wf, Bool.and_eq_true, decide_eq_true_eq] at h
  omega
theorem arr_of {cs : Array Value} {l : List Value} (h : cs.toList = l) : cs = l.toArray := by
  subst h; rfl
section
variable {H : Type} {enc : TypeId × Value → H} {W : World} {b : Nat} {sp : Nat → Bool} {hd : Bool}
theorem slice_at {T E : TypeId} {fuel : Nat} {v : Value} {y : DataW H × List MemPlace} (hT : Try.prog.underlying T = some (.slice E)) (h : DataW.trod enc Try.prog W b sp hd fuel T [v] = some y) : ∃ a len cap, v = .slice a len cap := by
  rcases Deep.open_slice hT h with ⟨hcs, _⟩ | ⟨x, l, c, m, n, D, Pl, hcs, _⟩
  · simp at hcs; exact ⟨_, _, _, hcs⟩
  · simp at hcs; exact ⟨_, _, _, hcs⟩
set_option maxRecDepth 100000 in
theorem open_step (n : Nat) (cs : List Value) (y : DataW H × List MemPlace) (h : DataW.trod enc Try.prog W b sp hd n 41 cs = some y) : ∃ s : StH, cs = s.cells ∧ s.Raw W W.heap.size := by
  have hc : Try.prog.cellsOf 3 = 1 := by kernel_rfl
  have hc1 : Try.prog.cellsOf 38 = 1 := by kernel_rfl
  have hc2 : Try.prog.cellsOf 39 = 1 := by kernel_rfl
  have hc10 : Try.prog.cellsOf 41 = 10 := by kernel_rfl
  obtain ⟨hl, hf⟩ := str_at Try.underlying41 h
  rw [hc10] at hl
  match cs, hl with
  | [v0, v1, v2, v3, v4, v5, v6, v7, v8, v9], _ =>
    obtain ⟨_, _, g0⟩ := hf 0 3 0 rfl
    obtain ⟨_, _, g1⟩ := hf 1 3 1 rfl
    obtain ⟨_, _, g2⟩ := hf 2 3 2 rfl
    obtain ⟨_, _, g3⟩ := hf 3 3 3 rfl
    obtain ⟨_, _, g4⟩ := hf 4 3 4 rfl
    obtain ⟨_, _, g5⟩ := hf 5 3 5 rfl
    obtain ⟨_, _, g6⟩ := hf 6 3 6 rfl
    obtain ⟨_, _, g7⟩ := hf 7 3 7 rfl
    obtain ⟨_, ⟨_, _⟩, g8⟩ := hf 8 38 8 rfl
    obtain ⟨_, ⟨_, _⟩, g9⟩ := hf 9 39 9 rfl
    simp only [hc, hc1, hc2, List.drop_succ_cons, List.drop_zero, List.take_succ_cons, List.take_zero] at g0 g1 g2 g3 g4 g5 g6 g7 g8 g9
    obtain ⟨x0, e0, _, _⟩ := DataW.trod_int Try.underlying3 g0
    obtain ⟨x1, e1, _, _⟩ := DataW.trod_int Try.underlying3 g1
    obtain ⟨x2, e2, _, _⟩ := DataW.trod_int Try.underlying3 g2
    obtain ⟨x3, e3, _, _⟩ := DataW.trod_int Try.underlying3 g3
    obtain ⟨x4, e4, _, _⟩ := DataW.trod_int Try.underlying3 g4
    obtain ⟨x5, e5, _, _⟩ := DataW.trod_int Try.underlying3 g5
    obtain ⟨x6, e6, _, _⟩ := DataW.trod_int Try.underlying3 g6
    obtain ⟨x7, e7, _, _⟩ := DataW.trod_int Try.underlying3 g7
    injection e0 with e0; injection e1 with e1; injection e2 with e2; injection e3 with e3; injection e4 with e4; injection e5 with e5; injection e6 with e6; injection e7 with e7
    subst e0 e1 e2 e3 e4 e5 e6 e7
    obtain ⟨A, n, c, rfl⟩ := slice_at Try.underlying38 g8
    obtain ⟨A', n', c', rfl⟩ := slice_at Try.underlying39 g9
    obtain ⟨sl, _, p2, p3, p4, p5⟩ := open_toks ⟨_, g8⟩
    obtain ⟨st, _, q2, q3, q4, q5⟩ := open_mks ⟨_, g9⟩
    exact ⟨⟨A, n, c, A', n', c', ⟨x0, x1, x2, x3, x4, x5, x6, x7, sl, st⟩⟩, rfl, ⟨p2, q2, by show n ≤ maxLen; omega, by show n' ≤ maxLen; omega, p5, q5⟩⟩
theorem open_pin {fuel : Nat} {cs : List Value} {y : DataW H × List MemPlace} (h : DataW.trod enc Try.prog W b sp hd fuel 28 cs = some y) : ∃ p : Pn, cs = [.int .i64 p.k, .int .i64 p.a, .int .i64 p.b] := by
  have hc : Try.prog.cellsOf 3 = 1 := by kernel_rfl
  have hc3 : Try.prog.cellsOf 28 = 3 := by kernel_rfl
  obtain ⟨y0, y1, y2, m, _, hl, g0, g1, g2⟩ := Deep.trod_struct3 Try.underlying28 h
  simp only [hc, hc3] at hl g0 g1 g2
  match cs, hl with
  | [v0, v1, v2], _ =>
    simp at g0 g1 g2
    obtain ⟨x0, e0, _, _⟩ := DataW.trod_int Try.underlying3 g0
    obtain ⟨x1, e1, _, _⟩ := DataW.trod_int Try.underlying3 g1
    obtain ⟨x2, e2, _, _⟩ := DataW.trod_int Try.underlying3 g2
    injection e0 with e0; injection e1 with e1; injection e2 with e2
    subst e0 e1 e2
    exact ⟨⟨x0, x1, x2⟩, rfl⟩
theorem open_sts {a : Option Addr} {len cap : Nat} {d : DataW H} {pl : List MemPlace} (h : ∃ fuel, DataW.trod enc Try.prog W b sp hd fuel 26 [.slice a len cap] = some (d, pl)) : ∃ L : List StH, StsRaw W W.heap.size a len L ∧ len ≤ cap ∧ cap ≤ maxLen ∧ (a = none → len = 0) := by
  obtain ⟨l, h1, h2, h3, h4, h5, h6⟩ := open_els (s := 10) StH.cells (fun s => s.Raw W W.heap.size) Try.underlying26 (by kernel_rfl) (by omega) (fun _ => rfl) h open_step
  exact ⟨l, ⟨h2, h6⟩, h3, h4, h5⟩
set_option maxRecDepth 100000 in
theorem open_group (n : Nat) (cs : List Value) (y : DataW H × List MemPlace) (h : DataW.trod enc Try.prog W b sp hd n 30 cs = some y) : ∃ g : GrH, cs = g.cells ∧ g.Raw W W.heap.size := by
  have hc : Try.prog.cellsOf 3 = 1 := by kernel_rfl
  have hc1 : Try.prog.cellsOf 26 = 1 := by kernel_rfl
  have hc3 : Try.prog.cellsOf 28 = 3 := by kernel_rfl
  have hc8 : Try.prog.cellsOf 30 = 8 := by kernel_rfl
  obtain ⟨hl, hf⟩ := str_at Try.underlying30 h
  rw [hc8] at hl
  match cs, hl with
  | [v0, v1, v2, v3, v4, v5, v6, v7], _ =>
    obtain ⟨_, ⟨_, _⟩, g0⟩ := hf 0 26 0 rfl
    obtain ⟨_, _, g1⟩ := hf 1 28 1 rfl
    obtain ⟨_, _, g4⟩ := hf 2 28 4 rfl
    obtain ⟨_, _, g7⟩ := hf 3 3 7 rfl
    simp only [hc, hc1, hc3, List.drop_succ_cons, List.drop_zero, List.take_succ_cons, List.take_zero] at g0 g1 g4 g7
    obtain ⟨A, n, c, rfl⟩ := slice_at Try.underlying26 g0
    obtain ⟨L, q1, q2, q3, q4⟩ := open_sts ⟨_, g0⟩
    obtain ⟨p, e1⟩ := open_pin g1
    obtain ⟨p', e4⟩ := open_pin g4
    obtain ⟨x7, e7, _, w7⟩ := DataW.trod_int Try.underlying3 g7
    injection e1 with e1 e2; injection e2 with e2 e3; injection e3 with e3
    injection e4 with e4 e5; injection e5 with e5 e6; injection e6 with e6
    injection e7 with e7
    subst e1 e2 e3 e4 e5 e6 e7
    exact ⟨⟨A, n, c, L, p, p', x7⟩, rfl, ⟨q1, by show n ≤ maxLen; omega, q4, i64_bd w7⟩⟩
theorem open_grs {a : Option Addr} {len cap : Nat} {d : DataW H} {pl : List MemPlace} (h : ∃ fuel, DataW.trod enc Try.prog W b sp hd fuel 22 [.slice a len cap] = some (d, pl)) : ∃ L : List GrH, GrsRaw W W.heap.size a len L ∧ len ≤ cap ∧ cap ≤ maxLen ∧ (a = none → len = 0) := by
  obtain ⟨l, h1, h2, h3, h4, h5, h6⟩ := open_els (s := 8) GrH.cells (fun s => s.Raw W W.heap.size) Try.underlying22 (by kernel_rfl) (by omega) (fun _ => rfl) h open_group
  exact ⟨l, ⟨h2, h6⟩, h3, h4, h5⟩
end
end Go.Proofs.Ytmacfoebfpljoaa
