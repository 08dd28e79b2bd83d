/- merged texts: Le Pi Rs Lf Lg Lh Li Lj Lk -/
import Derived.Test.YtmacfoebfpljoaaGreatMa14
import Derived.Deep.MidRow
import Derived.Test.YtmacfoebfpljoaaGreatMa1
import Derived.OrdersIn
import Derived.Maps.OwnIn
import Derived.Test.YtmacfoebfpljoaaGreatMa8
set_option maxRecDepth 100000
set_option maxHeartbeats 16000000
namespace Go.Proofs.YtmacfoebfpljoaaGreat
open Go.RowKit
set_option linter.unusedVariables false
theorem tok_size : (Tryz.prog.info? 126).map (·.size) = some 12 := by kernel_rfl
theorem given_size : (Tryz.prog.info? 226).map (·.size) = some 9 := by kernel_rfl
theorem marks_size : (Tryz.prog.info? 124).map (·.size) = some 8 := by kernel_rfl
abbrev zeroTok : Array Value := #[.int .i64 0, .int .i64 0, .int .i64 0, .int .i32 0, .int .u16 0, .int .u16 0, .int .u16 0, .int .u16 0, .int .u16 0, .int .u16 0, .int .u16 0, .int .u16 0]
abbrev zeroGv : Array Value := #[.int .i64 0, .int .u16 0, .int .u16 0, .int .u16 0, .int .u16 0, .int .u16 0, .int .u16 0, .int .u16 0, .int .u16 0]
theorem tok_one (x : Tok) : x.cells.toArray.all (·.oneCell') = true := by simp [Tok.cells, Mk.cells, Value.oneCell']
theorem gv_one (x : Gv) : x.cells.toArray.all (·.oneCell') = true := by simp [Gv.cells, Mk.cells, Value.oneCell']
theorem mk_one (x : Mk) : x.cells.toArray.all (·.oneCell') = true := by simp [Mk.cells, Value.oneCell']
theorem Bk.range {w : World} {b : Nat} {t : TypeId} {cs : Array Value} (k : Bk w b t cs) (o : Nat) (xs : List Value) (h : ∀ j, j < xs.length → cs[o + j]? = xs[j]?) : w.rangeAt b o xs := by
 intro j v hv
 rw [k.cell, h j (List.getElem?_eq_some_iff.1 hv).1]
 exact hv
theorem Bk.there_ {w : World} {b : Nat} {t : TypeId} {cs : Array Value} (k : Bk w b t cs) (o n : Nat) (h : o + n ≤ cs.size) : w.there b o n := by
 intro j hj
 refine ⟨?_, k.frozen _⟩
 rw [k.cell, Array.getElem?_eq_getElem (by omega)]
 rfl
/-- the marks of a token that lies are set -/
theorem Bk.marks {w : World} {b : Nat} {x : Tok} (k : Bk w b 126 x.cells.toArray) (m : Mk) : Bk (w.setCells b 4 m.cells) b 126 ({ x with m := m } : Tok).cells.toArray := by
 obtain ⟨x0, x1, x2, x3, ⟨a0, a1, a2, a3, a4, a5, a6, a7⟩⟩ := x
 obtain ⟨m0, m1, m2, m3, m4, m5, m6, m7⟩ := m
 simp only [Tok.cells, Mk.cells] at k ⊢
 have h := (((((((k.set_ 4 (.int .u16 m0)).set_ 5 (.int .u16 m1)).set_ 6 (.int .u16 m2)).set_ 7 (.int .u16 m3)).set_ 8 (.int .u16 m4)).set_ 9 (.int .u16 m5)).set_ 10 (.int .u16 m6)).set_ 11 (.int .u16 m7)
 simp only [List.setIfInBounds_toArray, List.set_cons_zero, List.set_cons_succ] at h
 exact h
theorem setCells_sti (b : Nat) : ∀ (vs : List Value) (o : Nat) (w : World), Sti (fun i => i = b) w (w.setCells b o vs)
 | [], o, w => Sti.refl _ w
 | v :: vs, o, w => ((Sti.refl (fun i => i = b) w).set_ (p := ⟨b, o, none⟩) (.inl rfl) v).trans (setCells_sti b vs (o + 1) _) (fun i hi => .inl hi)
section
variable {ops : Array Oper} {rest : List Oper} {o : Oper} {a : Act} {Q : Exit → Act → World → Prop}
theorem ld_tok (w : World) (hg : o.guard = none) (p : Operand) (ho : o.op = .load 126 p) (b oo : Nat) (hx : a.eval p = .pointer (some ⟨b, oo, none⟩)) (x : Tok) (hc : w.rangeAt b oo x.cells)
 (h : wpList Tryz.prog ops Q rest (a.put o.dst (.agg x.cells.toArray)) w) : wpList Tryz.prog ops Q (o :: rest) a w := wpList_load_mid hg 126 p ho b oo hx x.cells _ hc Tryz.underlying126 rfl tok_size h
theorem st_tok (w : World) (hg : o.guard = none) (p q : Operand) (ho : o.op = .store 126 p q) (b : Nat) (old : Array Value) (x : Tok) (he : a.eval p = .pointer (some ⟨b, 0, none⟩)) (hx : a.eval q = .agg x.cells.toArray) (k : Bk w b 126 old) (hs : old.size = x.cells.toArray.size)
 (h : wpList Tryz.prog ops Q rest (a.put o.dst undef) (w.setRow b x.cells.toArray)) : wpList Tryz.prog ops Q (o :: rest) a w := wpList_store_all w hg 126 p q ho b old x.cells.toArray he hx k tok_size hs (tok_one x) h
theorem ld_gv (w : World) (hg : o.guard = none) (p : Operand) (ho : o.op = .load 226 p) (b oo : Nat) (hx : a.eval p = .pointer (some ⟨b, oo, none⟩)) (x : Gv) (hc : w.rangeAt b oo x.cells)
 (h : wpList Tryz.prog ops Q rest (a.put o.dst (.agg x.cells.toArray)) w) : wpList Tryz.prog ops Q (o :: rest) a w := wpList_load_mid hg 226 p ho b oo hx x.cells _ hc Tryz.underlying226 rfl given_size h
theorem st_gv (w : World) (hg : o.guard = none) (p q : Operand) (ho : o.op = .store 226 p q) (b : Nat) (old : Array Value) (x : Gv) (he : a.eval p = .pointer (some ⟨b, 0, none⟩)) (hx : a.eval q = .agg x.cells.toArray) (k : Bk w b 226 old) (hs : old.size = x.cells.toArray.size)
 (h : wpList Tryz.prog ops Q rest (a.put o.dst undef) (w.setRow b x.cells.toArray)) : wpList Tryz.prog ops Q (o :: rest) a w := wpList_store_all w hg 226 p q ho b old x.cells.toArray he hx k given_size hs (gv_one x) h
theorem ld_mk (w : World) (hg : o.guard = none) (p : Operand) (ho : o.op = .load 124 p) (b oo : Nat) (hx : a.eval p = .pointer (some ⟨b, oo, none⟩)) (x : Mk) (hc : w.rangeAt b oo x.cells)
 (h : wpList Tryz.prog ops Q rest (a.put o.dst (.agg x.cells.toArray)) w) : wpList Tryz.prog ops Q (o :: rest) a w := wpList_load_mid hg 124 p ho b oo hx x.cells _ hc Tryz.underlying124 rfl marks_size h
theorem st_mk (w : World) (hg : o.guard = none) (p q : Operand) (ho : o.op = .store 124 p q) (b : Nat) (old : Array Value) (x : Mk) (he : a.eval p = .pointer (some ⟨b, 0, none⟩)) (hx : a.eval q = .agg x.cells.toArray) (k : Bk w b 124 old) (hs : old.size = x.cells.toArray.size)
 (h : wpList Tryz.prog ops Q rest (a.put o.dst undef) (w.setRow b x.cells.toArray)) : wpList Tryz.prog ops Q (o :: rest) a w := wpList_store_all w hg 124 p q ho b old x.cells.toArray he hx k marks_size hs (mk_one x) h
theorem st_marks (w : World) (hg : o.guard = none) (p q : Operand) (ho : o.op = .store 124 p q) (b : Nat) (x : Tok) (m : Mk) (he : a.eval p = .pointer (some ⟨b, 4, none⟩)) (hx : a.eval q = .agg m.cells.toArray) (k : Bk w b 126 x.cells.toArray)
 (h : wpList Tryz.prog ops Q rest (a.put o.dst undef) (w.setCells b 4 m.cells)) : wpList Tryz.prog ops Q (o :: rest) a w := wpList_store_mid hg 124 p q ho b 4 m.cells.toArray he hx (k.there_ 4 8 (by simp [Tok.cells, Mk.cells])) marks_size (mk_one m) h
end
/-- in the midst of `now` -/
structure NwI (w W : World) (base g mb n b o : Nat) (sv : Value) (nx : Int) (x : EH) (er : Int → Bool) (k : Mk) : Prop where
 e : EAt W base g mb n b o sv nx x er
 r : Bk W w.heap.size 126 zeroTok
 t : Bk W (w.heap.size + 1) 126 ({ x.e.tok with m := k } : Tok).cells.toArray
 l : b < w.heap.size
 bl : Below w.heap.size w W
section
variable {w w' W : World} {base g mb n b o : Nat} {sv : Value} {nx : Int} {x : EH} {er : Int → Bool} {k : Mk}
theorem EAt.tok (h : EAt W base g mb n b o sv nx x er) : W.rangeAt b o x.e.tok.cells := fun j v hv => h.c j v (by
 have hj := (List.getElem?_eq_some_iff.1 hv).1
 unfold EH.cells
 rw [List.getElem?_append_left hj]
 exact hv)
theorem NwI.below (h : NwI w W base g mb n b o sv nx x er k) (hb : Below W.heap.size W w') : NwI w w' base g mb n b o sv nx x er k := ⟨h.e.below hb, h.r.ext hb, h.t.ext hb, h.l, h.bl.trans (hb.mono h.bl.size)⟩
end
theorem lnow_any (base g mb n b o : Nat) (sv : Value) (nx : Int) (x : EH) (er : Int → Bool) (w : World) (h : EAt w base g mb n b o sv nx x er) :
 Calls Tryz.prog 64 #[.pointer (some ⟨g, 0, none⟩), .pointer (some ⟨b, o, none⟩)] w fun e w' => e = .returned (.agg (nowT er x.e).cells.toArray) ∧ Below w.heap.size w w' := by
 have HH := Lib.hid h
 have hlt := h.lt
 have hlg := def_lt' h.k
 clear h
 go_enter Tryz.func64, Tryz.ntmps64
 go_upto_region 1 with fail
 have kr := Bk.new w 126 zeroTok
 have hb0 : Below w.heap.size w (w.alloc (.cells zeroTok 126)) := belowA
 have hz0 : (w.alloc (.cells zeroTok 126)).heap.size = w.heap.size + 1 := World.size_alloc ..
 generalize w.alloc (.cells zeroTok 126) = w0 at *
 have e0 := HH.out.below hb0
 have ht0 := e0.tok
 have kt0 : Bk (w0.alloc (.cells zeroTok 126)) (w.heap.size + 1) 126 zeroTok := by rw [← hz0]; exact Bk.new w0 _ _
 go_upto_region 2 with (first
  | ((with_reducible refine ld_tok w0 ?hg (.tmp 10) ?ho b o ?hx x.e.tok ht0 ?_); (case hg => rfl); (case ho => rfl); (case hx => rfl))
  | ((with_reducible refine st_tok (w0.alloc (.cells zeroTok 126)) ?hg (.tmp 5) (.tmp 11) ?ho (w.heap.size + 1) zeroTok x.e.tok ?he ?hx kt0 rfl ?_); (case hg => rfl); (case ho => rfl); (case he => rfl); (case hx => rfl)))
 have hI0 : NwI w ((w0.alloc (.cells zeroTok 126)).setRow (w.heap.size + 1) x.e.tok.cells.toArray) base g mb n b o sv nx x er x.e.tok.m := by
  have h1 : Below w0.heap.size w0 ((w0.alloc (.cells zeroTok 126)).setRow (w.heap.size + 1) x.e.tok.cells.toArray) := setRow_below belowA (by omega) _
  exact ⟨e0.below h1, kr.ext h1, setRow_bk kt0 _, hlt, hb0.trans (h1.mono hb0.size)⟩
 generalize (w0.alloc (.cells zeroTok 126)).setRow (w.heap.size + 1) x.e.tok.cells.toArray = w1 at *
 clear kt0 ht0 e0 hz0 hb0 kr
 obtain ⟨A, c, hvg, hgc, hcm, -, hrg⟩ := own_form HH.out.i.g
 have cg := hI0.e.cells.2.2.2.2.1
 rw [hvg] at cg
 have HI := Lib.hid hI0
 have HRG := Lib.hid hrg
 have hl0 := hI0.e.lt
 have hmv : nowT er x.e = { x.e.tok with m := nowM er x.e } := rfl
 have HMV := Lib.hid hmv
 clear hmv hrg hvg
 unfold maxLen at hcm
 obtain ⟨N, hN⟩ : ∃ N, N = x.e.gv.length := ⟨_, rfl⟩
 have HN := Lib.hid hN
 rw [← hN] at cg hgc
 rw [← hN] at HRG
 clear hI0 hN
 go_wp2
 go_loopw [7, 17] (fun u j wr => ∃ q : Nat, q ≤ N ∧ j = .int .i64 q ∧ Hid (NwI w wr base g mb n b o sv nx x er ((x.e.gv.take q).foldl (fun m g => if er g.ev then m else g.m) x.e.tok.m))) (fun _ j _ => N - (intOf j).toNat)
 case atStart => exact ⟨0, by omega, rfl, HI⟩
 case round =>
  obtain ⟨q, hq, rfl, hI⟩ := hrel
  by_cases hqn : q < N
  ·have e3 : (q : Int) < N := by omega
   obtain ⟨y, hy⟩ : ∃ y, x.e.gv[q]? = some y := ⟨_, List.getElem?_eq_getElem (by have := HN.out; omega)⟩
   obtain ⟨bb, oo, rfl, hbb, hcc⟩ := (HRG.out.below hI.out.bl).el Gv.cells (fun _ => rfl) HN.out.symm hy
   have hrg : wr.rangeAt bb (oo + q * 9) y.cells := fun j v hv => by
    have hj : j < 9 := (List.getElem?_eq_some_iff.1 hv).1
    rw [hcc j hj]
    exact hv
   have hbe := HH.out.i.bg y (List.mem_of_getElem? hy)
   have hms := (show (x.e.gv.take (q + 1)).foldl (fun m g => if er g.ev then m else g.m) x.e.tok.m = if er y.ev then (x.e.gv.take q).foldl (fun m g => if er g.ev then m else g.m) x.e.tok.m else y.m by rw [List.take_add_one, hy]; simp)
   have HMS := Lib.hid hms
   have HBE := Lib.hid hbe
   clear hcc hy hms hbe
   have hcg := hI.out.e.cells.2.2.2.2.1
   clear cg
   go_upto_region 5 with (first
    | ((with_reducible refine ld_gv wr ?hg (.tmp 19) ?ho bb (oo + q * 9) ?hx y hrg ?_); (case hg => rfl); (case ho => rfl); (case hx => rfl))
    | ((with_reducible refine st_gv (wr.alloc (.cells zeroGv 226)) ?hg (.tmp 7) (.tmp 20) ?ho wr.heap.size zeroGv y ?he ?hx (Bk.new wr _ _) rfl ?_); (case hg => rfl); (case ho => rfl); (case he => rfl); (case hx => rfl)))
   have hb2 : Below wr.heap.size wr ((wr.alloc (.cells zeroGv 226)).setRow wr.heap.size y.cells.toArray) := setRow_below belowA (Nat.le_refl _) _
   have k7 : Bk ((wr.alloc (.cells zeroGv 226)).setRow wr.heap.size y.cells.toArray) wr.heap.size 226 y.cells.toArray := setRow_bk (Bk.new wr _ _) _
   generalize (wr.alloc (.cells zeroGv 226)).setRow wr.heap.size y.cells.toArray = w2 at *
   obtain ⟨km, hkm⟩ : ∃ km, km = (x.e.gv.take q).foldl (fun m g => if er g.ev then m else g.m) x.e.tok.m := ⟨_, rfl⟩
   rw [← hkm] at hI HMS
   have hI2 := hI.out.below hb2
   have hz2 := hI.out.bl.size
   clear hb2 hI hkm
   have hF : ∀ W, (NwI w W base g mb n b o sv nx x er km ∧ Bk W wr.heap.size 226 y.cells.toArray) → (W.cell? ⟨g, 1, none⟩ = some (.map (some mb)) ∧ W.cell? ⟨wr.heap.size, 0, none⟩ = some (.int .i64 y.ev) ∧ (Instr.lookup 118 (.map (some mb)) (.int .i64 y.ev) false).run Tryz.prog W = .ok (.bool (er y.ev)) W) := fun W hW => ⟨hW.1.e.k.cell 1, hW.2.cell 0, hW.1.e.er.look HBE.out⟩
   have HF := Lib.hid hF
   clear hF
   refine wp_normal ?_
   refine wp_region_held_drew (S := fun W => NwI w W base g mb n b o sv nx x er km ∧ Bk W wr.heap.size 226 y.cells.toArray) (by kernel_rfl) ⟨hI2.below (Below.drew (Below.refl _ _)), k7.drew⟩ (fun hHeld => ?_)
   (refine tkH 0 ?_; refine tkH 1 ?_; refine tkH 2 ?_; refine tkH 3 ?_; refine tkH 4 ?_; refine tkH 5 ?_; refine tkH 6 ?_; refine tkH 7 ?_)
   refine wpAnyH_done (by kernel_rfl) ?_ _
   clear hI2 k7
   obtain ⟨hI3, k7⟩ := hHeld
   generalize w2.drew = w3 at *
   cases hev : er y.ev with
   | true =>
     rw [hev] at HMS
     have HI3 := Lib.hid hI3
     clear hI3
     go_wp2
     go_roundw
     case rel => exact ⟨q + 1, by omega, by go_num, Lib.hid (by rw [HMS.out]; exact HI3.out)⟩
     case measure => simp [intOf]; omega
   | false =>
     rw [hev] at HMS
     have hrm : w3.rangeAt wr.heap.size 1 y.m.cells := k7.range 1 y.m.cells (fun j hj => by
      have hj : j < 8 := hj
      rw [Nat.add_comm, List.getElem?_toArray]
      rfl)
     have hI4 : NwI w (w3.setCells (w.heap.size + 1) 4 y.m.cells) base g mb n b o sv nx x er y.m := by
      have hs := setCells_sti (w.heap.size + 1) y.m.cells 4 w3
      have hb4 : Below w.heap.size w (w3.setCells (w.heap.size + 1) 4 y.m.cells) := hI3.bl.trans (hs.below (fun i hi => by have hi : i = w.heap.size + 1 := hi; omega) hI3.bl.size)
      exact ⟨HH.out.below hb4, hs.bk hI3.r (fun e => by have e : w.heap.size = w.heap.size + 1 := e; omega), hI3.t.marks y.m, hI3.l, hb4⟩
     have HI4 := Lib.hid hI4
     clear hI4
     have kt := hI3.t
     clear hI3
     go_wp2_with (first
      | ((with_reducible refine ld_mk w3 ?hg (.tmp 29) ?ho wr.heap.size 1 ?hx y.m hrm ?_); (case hg => rfl); (case ho => rfl); (case hx => rfl))
      | ((with_reducible refine st_marks w3 ?hg (.tmp 31) (.tmp 30) ?ho (w.heap.size + 1) _ y.m ?he ?hx kt ?_); (case hg => rfl); (case ho => rfl); (case he => rfl); (case hx => rfl)))
     go_roundw
     case rel => exact ⟨q + 1, by omega, by go_num, Lib.hid (by rw [HMS.out]; exact HI4.out)⟩
     case measure => simp [intOf]; omega
  ·obtain rfl : q = N := by omega
   have hI := hI.out
   rw [List.take_of_length_le (by rw [HN.out]; exact Nat.le_refl _)] at hI
   have hmv := HMV.out
   have hI : NwI w wr base g mb n b o sv nx x er (nowM er x.e) := hI
   have hrt : wr.rangeAt (w.heap.size + 1) 0 ({ x.e.tok with m := nowM er x.e } : Tok).cells := hI.t.range 0 _ (fun j hj => by rw [Nat.zero_add]; simp)
   have kr := hI.r
   have hb5 := setRow_below hI.bl (Nat.le_refl _) ({ x.e.tok with m := nowM er x.e } : Tok).cells.toArray
   have hk5 := setRow_bk hI.r ({ x.e.tok with m := nowM er x.e } : Tok).cells.toArray
   rw [← hmv] at hrt hb5 hk5
   have hrr := hk5.range 0 (nowT er x.e).cells (fun j hj => by rw [Nat.zero_add]; simp)
   clear hI cg
   go_wp2_with (first
    | ((with_reducible refine ld_tok wr ?hg (.tmp 5) ?ho (w.heap.size + 1) 0 ?hx (nowT er x.e) hrt ?_); (case hg => rfl); (case ho => rfl); (case hx => rfl))
    | ((with_reducible refine st_tok wr ?hg (.tmp 4) (.tmp 33) ?ho w.heap.size zeroTok (nowT er x.e) ?he ?hx kr rfl ?_); (case hg => rfl); (case ho => rfl); (case he => rfl); (case hx => rfl)))
   exact bodyPost_ret (v := .agg (nowT er x.e).cells.toArray) (results_cell_row Tryz.results64 _ _ w.heap.size 126 (nowT er x.e).cells.toArray (0, 0) _ rfl hk5 Tryz.underlying126 rfl tok_size) rfl ⟨rfl, hb5⟩
end Go.Proofs.YtmacfoebfpljoaaGreat
namespace Go.Proofs.YtmacfoebfpljoaaGreat
open Go.RowKit
section
variable {n : Nat} {P : Program} {ops : Array Oper} {Q : Exit → Act → World → Prop} {S : World → Prop} {md : Region.Mode}
theorem yifI {i : Nat} {o : Oper} {v : Value} {a : Act} (hi : ops[i]? = some o) (hy : YieldsIf P ops S o v a) {K : Act → World → Prop} {w : World} (hS : S w) (h : K (a.put o.dst v) w) : wpOpIn Fence.wide n P ops Q i K a w := by
 unfold wpOpIn
 simp only [hi]
 rcases hy with ⟨hw, hv⟩ | ⟨hw, rfl⟩
 ·simp only [hw, if_true, Oper.wpIn, show Fence.wide.round = none from rfl, Oper.semAt_none, hv w hS, Oper.uponIn]
  exact ⟨fun _ _ => trivial, h⟩
 ·simp only [hw, Bool.false_eq_true, if_false]
  exact ⟨fun _ _ => trivial, h⟩
theorem putI {j : Nat} {oi oj : Oper} {v : Value} (hj : ops[j]? = some oj) (hap : oi.apart ops oj = true) (hsi : ∀ cs b, oi.op ≠ .select cs b) (hsj : ∀ cs b, oj.op ≠ .select cs b)
 (hQ : ∀ c a w, Q (.panic c) (a.put oi.dst v) w → Q (.panic c) a w) {K : Act → World → Prop} {a : Act} {w : World} (hy : YieldsIf P ops S oi v a) (h : wpOpIn Fence.wide n P ops Q j K (a.put oi.dst v) w) :
 wpOpIn Fence.wide n P ops Q j (fun a' w' => YieldsIf P ops S oi v a' ∧ K (a'.put oi.dst v) w') a w := by
 obtain ⟨h1, h2, h3⟩ := Oper.apart_spec hap
 have keep : ∀ (a : Act), YieldsIf P ops S oi v a → ∀ u, YieldsIf P ops S oi v (a.put oj.dst u) := fun a hy u =>
  hy.of_same (execOp_put oi hsi a oj.dst u h3) (wanted_put oi a oj.dst u h3)
 have keepD : ∀ d, YieldsIf P ops S oi v { a with defers := d :: a.defers } := fun d => hy.of_same rfl rfl
 have hro : Fence.wide.round = none := rfl
 unfold wpOpIn at *
 simp only [hj] at *
 rw [wanted_put oj a oi.dst v h1] at h
 split
 ·rename_i hw
  simp only [hw, if_true] at h
  unfold Oper.wpIn at *
  refine ⟨fun _ _ => trivial, ?_⟩
  have h := h.2
  rw [hro, Oper.semAt_none, execOp_put oj hsj a oi.dst v h1] at h
  rw [hro, Oper.semAt_none]
  generalize (execOp a.eval oj).run P w = r at *
  cases r with
  | ok x w' =>
    cases x <;> simp only [Oper.uponIn] at h ⊢
    case value u => exact ⟨keep a hy u, by rw [← Act.put_comm a v u h2]; exact h⟩
    case skip => exact ⟨keep a hy _, by rw [← Act.put_comm a v undef h2]; exact h⟩
    case defer d =>
     refine ⟨keep _ (keepD d) _, ?_⟩
     rw [← Act.put_comm _ v undef h2, ← Act.put_defers]
     exact h
    case enter f args =>
     refine ⟨h.1, CallsIn.mono h.2 fun e w'' he => ?_⟩
     cases e with
     | returned u => exact ⟨keep a hy u, by rw [← Act.put_comm a v u h2]; exact he⟩
     | panicked c => exact hQ _ _ _ he
     | outgrown => exact he
    case row row args => exact ⟨h.1, RowsIn.mono h.2 fun u w'' he => ⟨keep a hy u, by rw [← Act.put_comm a v u h2]; exact he⟩⟩
    case round l f tmps assign body =>
     refine ⟨h.1, RoundIn.mono h.2 fun e w'' he => ?_⟩
     cases e with
     | returned u => exact ⟨keep a hy u, by rw [← Act.put_comm a v u h2]; exact he⟩
     | panicked c => exact hQ _ _ _ he
     | outgrown => exact he
  | halt x w' =>
    cases x <;> simp only [Oper.uponIn] at h ⊢
    case panic u => exact hQ _ _ _ h
 ·rename_i hw
  simp only [hw] at h
  exact ⟨fun _ _ => trivial, keep a hy _, by rw [← Act.put_comm a v undef h2]; exact h.2⟩
/-- whatever order is picked from here on, and S holds behind every operation -/
def AnyJ (n : Nat) (P : Program) (md : Region.Mode) (ops : Array Oper) (Q : Exit → Act → World → Prop) (S : World → Prop) : Nat → Array Bool → Act → World → Prop
 | 0, listed, a, w => Region.ready md ops listed = [] ∧ Q .normal a w
 | fuel + 1, listed, a, w =>
   (Region.ready md ops listed = [] → Q .normal a w) ∧
   ∀ i ∈ Region.ready md ops listed, wpOpIn Fence.wide n P ops Q i (fun a' w' => S w' ∧ AnyJ n P md ops Q S fuel (listed.setIfInBounds i true) a' w') a w
theorem any_of_J : ∀ (fuel : Nat) (listed : Array Bool) (a : Act) (w : World), AnyJ n P md ops Q S fuel listed a w → wpAnyIn Fence.wide n P md ops Q fuel listed a w
 | 0, _, _, _, h => h
 | fuel + 1, _, _, _, h => ⟨h.1, fun i hi => wpOpIn_mono (fun a' w' h' => any_of_J fuel _ a' w' h'.2) (h.2 i hi)⟩
theorem anyI_first {i : Nat} {oi : Oper} {v : Value} (hi : ops[i]? = some oi) (hsel : ∀ (j : Nat) (o : Oper) cs b, ops[j]? = some o → o.op ≠ .select cs b)
 (hQ : ∀ c a w, Q (.panic c) (a.put oi.dst v) w → Q (.panic c) a w) :
 ∀ (fuel : Nat) (listed : Array Bool) (a : Act) (w : World),
  (∀ j oj, ops[j]? = some oj → j ≠ i → listed.getD j true = false → (∀ e ∈ oj.after, Region.binds md e = true → e.on ≠ i) → oi.apart ops oj = true) →
  i ∈ Region.ready md ops listed → YieldsIf P ops S oi v a → S w →
  AnyJ n P md ops Q S fuel (listed.setIfInBounds i true) (a.put oi.dst v) w → AnyJ n P md ops Q S (fuel + 1) listed a w := by
 intro fuel
 induction fuel with
 | zero =>
   intro listed a w _ hr hy hS H
   refine ⟨fun h => (by rw [h] at hr; cases hr), fun j hj => ?_⟩
   by_cases hji : j = i
   ·subst hji; exact yifI hi hy hS ⟨hS, H⟩
   ·have := ready_mono hj hji
    rw [H.1] at this
    cases this
 | succ fuel ih =>
   intro listed a w hfree hr hy hS H
   refine ⟨fun h => (by rw [h] at hr; cases hr), fun j hj => ?_⟩
   by_cases hji : j = i
   ·subst hji; exact yifI hi hy hS ⟨hS, H⟩
   ·have h1 := H.2 j (ready_mono hj hji)
    obtain ⟨hjun, oj, hoj, hall⟩ := mem_ready.1 hj
    have hnot : ∀ e ∈ oj.after, Region.binds md e = true → e.on ≠ i := fun e he hb heq => by
     have h1 := hall e he hb
     have h0 := (mem_ready.1 hr).1
     rw [heq] at h1
     rcases Nat.lt_or_ge i listed.size with h' | h'
     ·simp [h'] at h0 h1; rw [h0] at h1; cases h1
     ·simp [Array.getElem?_eq_none h'] at h1
    have h2 := putI hoj (hfree j oj hoj hji hjun hnot) (fun cs b => hsel i oi cs b hi) (fun cs b => hsel j oj cs b hoj) hQ hy h1
    have hfree' : ∀ k ok, ops[k]? = some ok → k ≠ i → (listed.setIfInBounds j true).getD k true = false →
     (∀ e ∈ ok.after, Region.binds md e = true → e.on ≠ i) → oi.apart ops ok = true := fun k ok hk hki hun hno => by
     refine hfree k ok hk hki ?_ hno
     by_cases hjk : j = k
     ·subst hjk; exact hjun
     ·rw [getD_set_ne true hjk] at hun; exact hun
    refine wpOpIn_mono (fun a' w' h3 => ⟨h3.2.1, ih (listed.setIfInBounds j true) a' w' hfree' (ready_mono hr (Ne.symm hji)) h3.1 h3.2.1 ?_⟩) h2
    rw [Array.setIfInBounds_comm _ _ hji]
    exact h3.2.2
theorem anyI_done {listed : Array Bool} {a : Act} {w : World} (hr : Region.ready md ops listed = []) (h : Q .normal a w) : ∀ fuel, AnyJ n P md ops Q S fuel listed a w
 | 0 => ⟨hr, h⟩
 | _ + 1 => ⟨fun _ => h, by rw [hr]; simp⟩
/-- the beginning -/
theorem region_I {id : Nat} {a : Act} {w : World} (hm : P.follows .mixedOrders = true) (hS : S w.drew)
 (h : S w.drew → AnyJ n P .any ops Q S ops.size (Array.replicate ops.size false) a w.drew) : (Code.region id ops true).wpIn Fence.wide n P Q a w :=
 wpIn_region_any hm (any_of_J _ _ _ _ (h hS))
theorem tkI (i : Nat) {oi : Oper} {v : Value} {fuel : Nat} {listed : Array Bool} {a a' : Act} {w : World} (h : AnyJ n P md ops Q S fuel (listed.setIfInBounds i true) a' w) (hi : ops[i]? = some oi := by simp only [List.getElem?_toArray, List.getElem?_cons_succ, List.getElem?_cons_zero]; rfl)
 (hs : Region.noSelect ops = true := by kernel_rfl) (hf : Region.free md ops listed i = true := by kernel_rfl) (hr : (Region.ready md ops listed).contains i = true := by kernel_rfl)
 (hQ : ∀ c a w, Q (.panic c) (a.put oi.dst v) w → Q (.panic c) a w := by exact fun _ _ _ h => h) (hw : Region.wanted oi (yielded ops a.tmps) = true := by rfl)
 (hy : ∀ w, S w → (execOp a.eval oi).run P w = .ok (.value v) w := by (focus ((intro w hSw; (try have hSw := HF.out _ hSw); (try dsimp only at hSw); go_simp); try exact rfl)))
 (hS : S w := by assumption)
 (ha : a.put oi.dst v = a' := by (simp only [Act.put, List.setIfInBounds_toArray, List.set_cons_zero, List.set_cons_succ]; rfl)) : AnyJ n P md ops Q S (fuel + 1) listed a w := by
 subst ha
 exact anyI_first hi (Region.noSelect_spec hs) hQ fuel listed a w (Region.free_spec hi hf) (by simpa using hr) (.inl ⟨hw, hy⟩) hS h
theorem tnI (i : Nat) {oi : Oper} {fuel : Nat} {listed : Array Bool} {a a' : Act} {w : World} (h : AnyJ n P md ops Q S fuel (listed.setIfInBounds i true) a' w) (hi : ops[i]? = some oi := by simp only [List.getElem?_toArray, List.getElem?_cons_succ, List.getElem?_cons_zero]; rfl)
 (hs : Region.noSelect ops = true := by kernel_rfl) (hf : Region.free md ops listed i = true := by kernel_rfl) (hr : (Region.ready md ops listed).contains i = true := by kernel_rfl)
 (hQ : ∀ c a w, Q (.panic c) (a.put oi.dst undef) w → Q (.panic c) a w := by exact fun _ _ _ h => h) (hw : Region.wanted oi (yielded ops a.tmps) = false := by rfl)
 (hS : S w := by assumption)
 (ha : a.put oi.dst undef = a' := by (simp only [Act.put, List.setIfInBounds_toArray, List.set_cons_zero, List.set_cons_succ]; rfl)) : AnyJ n P md ops Q S (fuel + 1) listed a w := by
 subst ha
 exact anyI_first hi (Region.noSelect_spec hs) hQ fuel listed a w (Region.free_spec hi hf) (by simpa using hr) (.inr ⟨hw, rfl⟩) hS h
/-- operation i, and none but it, comes next: a call -/
theorem nxI (i : Nat) {o : Oper} {f : FuncId} {args : Array Value} {fuel : Nat} {listed : Array Bool} {a : Act} {w : World}
 (h : Calls P f args w fun e w' => ∃ v, e = .returned v ∧ S w' ∧ (S w' → AnyJ n P md ops Q S fuel (listed.setIfInBounds i true) (a.put o.dst v) w'))
 (hr : Region.ready md ops listed = [i] := by kernel_rfl) (ho : ops[i]? = some o := by simp only [List.getElem?_toArray, List.getElem?_cons_succ, List.getElem?_cons_zero]; rfl) (hw : Region.wanted o (yielded ops a.tmps) = true := by rfl)
 (hx : (execOp a.eval o).run P w = .ok (.enter f args) w := by (go_simp; (first | exact ⟨rfl, rfl⟩ | exact rfl))) : AnyJ n P md ops Q S (fuel + 1) listed a w := by
 refine ⟨fun h0 => (by rw [hr] at h0; cases h0), fun j hj => ?_⟩
 rw [hr] at hj
 obtain rfl : j = i := by simpa using hj
 unfold wpOpIn
 simp only [ho, hw, if_true]
 unfold Oper.wpIn
 refine ⟨fun _ _ => trivial, ?_⟩
 rw [show Fence.wide.round = none from rfl, Oper.semAt_none, hx]
 simp only [Oper.uponIn]
 refine ⟨(fun h => by simp [Fence.wide] at h), callsIn_wide.2 (h.mono ?_)⟩
 rintro e w' ⟨v, rfl, h1, h2⟩
 exact ⟨h1, h2 h1⟩
/-- operation i, and none but it, comes next: a round -/
theorem nxR (i : Nat) {o : Oper} {l : Nat} {fn : FuncId} {tmps : Array Value} {assign body : Code} {fuel : Nat} {listed : Array Bool} {a : Act} {w : World}
 (h : RoundIn Fence.wide (n - 1) P l fn tmps assign body w fun e w' => ∃ v, e = .returned v ∧ S w' ∧ (S w' → AnyJ n P md ops Q S fuel (listed.setIfInBounds i true) (a.put o.dst v) w'))
 (hr : Region.ready md ops listed = [i] := by kernel_rfl) (ho : ops[i]? = some o := by simp only [List.getElem?_toArray, List.getElem?_cons_succ, List.getElem?_cons_zero]; rfl) (hw : Region.wanted o (yielded ops a.tmps) = true := by rfl)
 (hx : (execOp a.eval o).run P w = .ok (.round l fn tmps assign body) w := by go_simp) : AnyJ n P md ops Q S (fuel + 1) listed a w := by
 refine ⟨fun h0 => (by rw [hr] at h0; cases h0), fun j hj => ?_⟩
 rw [hr] at hj
 obtain rfl : j = i := by simpa using hj
 unfold wpOpIn
 simp only [ho, hw, if_true]
 unfold Oper.wpIn
 refine ⟨fun _ _ => trivial, ?_⟩
 rw [show Fence.wide.round = none from rfl, Oper.semAt_none, hx]
 simp only [Oper.uponIn]
 refine ⟨(fun h => by simp [Fence.wide] at h), RoundIn.mono h ?_⟩
 rintro e w' ⟨v, rfl, h1, h2⟩
 exact ⟨h1, h2 h1⟩
end
def GivesS {α : Type} (P : Program) (gf : Nat) (lb : Array Value) (encs : α → Array Value) (n₀ : Nat) (xs : List α) (w0 : World) (Kp : World → Prop) : Prop :=
 ∀ (l : Nat) (J Jx : List α → World → Prop) (W : World), Below w0.heap.size w0 W → (∀ s A, J s A → Kp A) → (∀ s A, Jx s A → Kp A) → (∀ s A B, J s A → Below A.heap.size A B → J s B) → (∀ s A B, Jx s A → Below A.heap.size A B → Jx s B) →
  (∀ pre x A W1, J pre A → pre ++ [x] <+: xs → Below A.heap.size A W1 → RoundAt P l (encs x) W1 fun e W' =>
   (e = .returned (.bool true) ∧ J (pre ++ [x]) W' ∧ Below n₀ W1 W' ∧ Mid A.heap.size W1.heap.size W1 W') ∨ (e = .returned (.bool false) ∧ Jx (pre ++ [x]) W' ∧ Below n₀ W1 W')) →
  J [] W →
  CallsIn Fence.wide 9 P gf (#[.func (.yield l) #[] #[]] ++ lb) W fun e W' => (∃ v, e = .returned v) ∧ (J xs W' ∨ ∃ pre, pre <+: xs ∧ Jx pre W')
def postS {α : Type} (M n₀ : Nat) (I : List α → World → Prop) (Ix : Code → List α → World → Prop) (ys : List α) (W0 W2 : World) : Exit → Act → World → Prop
 | .normal, _, W' => KeepsFrom M W2 W' ∧ Below n₀ W2 W' ∧ Mid W0.heap.size W2.heap.size W2 W' ∧ I ys W'
 | .ret, _, W' => KeepsFrom M W2 W' ∧ Below n₀ W2 W' ∧ Ix .ret ys W'
 | .exit id, _, W' => KeepsFrom M W2 W' ∧ Below n₀ W2 W' ∧ Ix (.exit id) ys W'
 | .goto t, _, W' => KeepsFrom M W2 W' ∧ Below n₀ W2 W' ∧ Ix (.goto t) ys W'
 | .panic _, _, _ => False
 | .outgrown, _, _ => False
theorem range_mine_s {P : Program} {α : Type} {g : Operand} {ps : Array Tmp} {assign body : Code} {Q : Exit → Act → World → Prop} {a : Act} {w : World}
 {gf : Nat} {lb : Array Value} (hg : a.eval g = .func (.func gf) #[] lb) (eg : ∀ args w, (callFunc gf args).run P w = .ok (.enter gf args) w)
 {encs : α → Array Value} {n₀ : Nat} {xs : List α} {w0 : World} {Kp : World → Prop} (hgives : GivesS P gf lb encs n₀ xs w0 Kp)
 (hb0 : Below w0.heap.size w0 w) (hn₀ : n₀ ≤ w.heap.size) (hps : ∀ x, (encs x).size = ps.size)
 (I : List α → World → Prop) (Ix : Code → List α → World → Prop) (hI : OwnFrom w.heap.size I) (hIx : ∀ c, OwnFrom w.heap.size (Ix c)) (h0 : I [] w) (hK : ∀ s W, I s W → Kp W) (hKx : ∀ c s W, Ix c s W → Kp W)
 (hround : ∀ (l : Nat) (pre : List α) (x : α) (W1 : World) (K : Act → World → Prop),
  (∀ a', (∀ W0 W2, I pre W0 → Below W0.heap.size W0 W2 → pre ++ [x] <+: xs → w.heap.size ≤ W0.heap.size → body.wpIn (Fence.wide.inRound l) 8 P (postS w.heap.size n₀ I Ix (pre ++ [x]) W0 W2) a' W2) → K a' W1) →
  assign.wpIn (Fence.wide.inRound l) 8 P (Exit.then K (fun _ _ _ => False)) { tmps := (ps.zip (encs x)).foldl (fun t (p, v) => t.setIfInBounds p v) a.tmps, defers := [] } W1)
 (hdone : ∀ (D : Nat) (W : World), w.heap.size ≤ D → I xs W → W.heap[D]? = some (.deferred (some [])) → Q .normal { a with defers := { target := .collected D, args := #[] } :: a.defers } W)
 (hstop : ∀ (D : Nat) (c : Code) (pre : List α) (W : World), w.heap.size ≤ D → pre <+: xs → Ix c pre W → W.heap[D]? = some (.deferred (some [])) → c.wpIn Fence.wide 10 P Q { a with defers := { target := .collected D, args := #[] } :: a.defers } W) :
 (Code.rangeFunc g ps assign body).wpIn Fence.wide 10 P Q a w := by
 refine wpIn_rangeFunc ?_
 intro fn hfn
 -- the loop's record, in each of its states
 let rc : LoopState → Option Code → Obj := fun st pe => .loop { state := st, pending := pe, fn, tmps := a.tmps, params := ps, assign, body, defers := w.heap.size }
 let M := w.heap.size
 have hM : w.heap.size = M := rfl
 let W1 := (w.alloc (.deferred (some []))).alloc (rc .ready none)
 have hsz : W1.heap.size = M + 2 := by show ((w.alloc _).alloc _).heap.size = _; simp [hM]
 have hbel : Below M w W1 := ((Below.refl _ w).alloc (Nat.le_refl _) _).alloc (by simp [hM]) _
 have hL1 : W1.heap[M + 1]? = some (rc .ready none) := by
  have := World.alloc_heap_new (w.alloc (.deferred (some []))) (rc .ready none)
  rwa [World.size_alloc] at this
 have hD1 : W1.heap[M]? = some (.deferred (some [])) := (Below.heap_alloc _ _ _ (by simp [hM])).trans (World.alloc_heap_new w _)
 refine ⟨M + 1, [{ target := .collected M, args := #[] }], W1, { target := .fn (.func gf) lb, args := #[.func (.yield (M + 1)) #[] #[]] }, W1, gf,
  #[.func (.yield (M + 1)) #[] #[]] ++ lb, W1, run_enterLoop_outer _ _ _ _ _, ?_, fun _ _ => trivial, ?_, fun _ => by omega, ?_⟩
 ·simp only [resolve, hg]; simp [go_sem]
 ·simp [invoke, go_sem, eg]
 refine (hgives (M + 1)
  (fun pre W => I pre W ∧ W.heap[M + 1]? = some (rc .ready none) ∧ W.heap[M]? = some (.deferred (some [])))
  (fun pre W => ∃ c, Ix c pre W ∧ W.heap[M + 1]? = some (rc .done (some c)) ∧ W.heap[M]? = some (.deferred (some [])))
  W1 (hb0.trans (hbel.mono hb0.size)) (fun s A h => hK s A h.1) (fun s A ⟨c, h, _⟩ => hKx c s A h)
  (fun s A B ⟨h1, h2, h3⟩ hb => ⟨ownFrom_ext hI h1 hb, (hb.block _ (def_lt' h2)).trans h2, (hb.block _ (def_lt' h3)).trans h3⟩)
  (fun s A B ⟨c, h1, h2, h3⟩ hb => ⟨c, ownFrom_ext (hIx c) h1 hb, (hb.block _ (def_lt' h2)).trans h2, (hb.block _ (def_lt' h3)).trans h3⟩)
  ?_ ⟨ownFrom_ext hI h0 hbel, hL1, hD1⟩).mono ?_
 ·-- one round
  rintro pre x A B ⟨hi, hl, hd⟩ hpre hAB
  have hlA := def_lt' hl
  have hlB : B.heap[M + 1]? = some (rc .ready none) := (hAB.block _ hlA).trans hl
  have hdB : B.heap[M]? = some (.deferred (some [])) := (hAB.block _ (by omega)).trans hd
  refine ⟨fn, _, assign, body, run_yield (P := P) (args := encs x) hlB (by exact hps x), roundIn_of_wpIn trivial (hround (M + 1) pre x B _ ?_)⟩
  intro a' hbody
  refine ⟨_, run_beginRound hlB rfl, ?_⟩
  let A0 := A.putObj (M + 1) (rc .busy none)
  let B2 := B.putObj (M + 1) (rc .busy none)
  have hi0 : I pre A0 := hI.putObj _ hi (by omega) hl rfl
  have hA0 : A0.heap.size = A.heap.size := World.putObj_size
  have hB2 : B2.heap.size = B.heap.size := World.putObj_size
  have hext : Below A0.heap.size A0 B2 := by
   refine ⟨hAB.os, hAB.tape, hAB.output, by rw [hA0, hB2]; exact hAB.size, fun k hk => ?_⟩
   rw [hA0] at hk
   by_cases e : k = M + 1
   ·subst e
    rw [World.putObj_heap_same (by have := hAB.size; omega), World.putObj_heap_same hlA]
   ·rw [World.putObj_heap_other e, World.putObj_heap_other e]
    exact hAB.block k hk
  have hl2 : B2.heap[M + 1]? = some (rc .busy none) := World.putObj_heap_same (by have := hAB.size; omega)
  have hd2 : B2.heap[M]? = some (.deferred (some [])) := (World.putObj_heap_other (by omega)).trans hdB
  refine wpIn_mono (hbody A0 B2 hi0 hext hpre (by rw [hA0]; omega)) ?_
  have fin : ∀ (jump : Option Code) (C : World), KeepsFrom M B2 C →
   (Instr.endRound (M + 1) jump).run P C = .ok (.bool jump.isNone) (C.putObj (M + 1) (rc (if jump.isNone then .ready else .done) jump)) ∧ C.heap[M + 1]? = some (rc .busy none) ∧
   (C.putObj (M + 1) (rc (if jump.isNone then .ready else .done) jump)).heap[M + 1]? = some (rc (if jump.isNone then .ready else .done) jump) ∧
   (C.putObj (M + 1) (rc (if jump.isNone then .ready else .done) jump)).heap[M]? = some (.deferred (some [])) := fun jump C hk => by
   have h1 := hk.same _ _ (by omega) hl2 rfl
   exact ⟨run_endRound (P := P) jump h1, h1, World.putObj_heap_same (def_lt' h1), (World.putObj_heap_other (by omega)).trans (hk.same _ _ (Nat.le_refl _) hd2 rfl)⟩
  rintro e a3 C hp
  cases e with
  | normal =>
    obtain ⟨hk, hb, hm, hi3⟩ := hp
    obtain ⟨hr, h1, h2, h3⟩ := fin none C hk
    refine ⟨_, _, hr, .inl ⟨rfl, ⟨hI.putObj _ hi3 (by omega) h1 rfl, h2, h3⟩, ?_, ?_⟩⟩
    ·have b1 : Below n₀ B B2 := below_putObj (by omega)
     exact (b1.trans hb).trans (below_putObj (by omega))
    ·intro k hk1 hk2
     rw [World.putObj_heap_other (by omega), hm k (by rw [hA0]; exact hk1) (by rw [hB2]; exact hk2), World.putObj_heap_other (by omega)]
  | ret =>
    obtain ⟨hk, hb, hi3⟩ := hp
    obtain ⟨hr, h1, h2, h3⟩ := fin (some .ret) C hk
    exact ⟨_, _, hr, .inr ⟨rfl, ⟨.ret, (hIx _).putObj _ hi3 (by omega) h1 rfl, h2, h3⟩, ((show Below n₀ B B2 from below_putObj (by omega)).trans hb).trans (below_putObj (by omega))⟩⟩
  | exit id =>
    obtain ⟨hk, hb, hi3⟩ := hp
    obtain ⟨hr, h1, h2, h3⟩ := fin (some (.exit id)) C hk
    exact ⟨_, _, hr, .inr ⟨rfl, ⟨.exit id, (hIx _).putObj _ hi3 (by omega) h1 rfl, h2, h3⟩, ((show Below n₀ B B2 from below_putObj (by omega)).trans hb).trans (below_putObj (by omega))⟩⟩
  | goto t =>
    obtain ⟨hk, hb, hi3⟩ := hp
    obtain ⟨hr, h1, h2, h3⟩ := fin (some (.goto t)) C hk
    exact ⟨_, _, hr, .inr ⟨rfl, ⟨.goto t, (hIx _).putObj _ hi3 (by omega) h1 rfl, h2, h3⟩, ((show Below n₀ B B2 from below_putObj (by omega)).trans hb).trans (below_putObj (by omega))⟩⟩
  | panic ch => exact hp.elim
  | outgrown => exact hp.elim
 ·rintro e C ⟨⟨v, rfl⟩, (⟨hi, hl, hd⟩ | ⟨pre, hpre, c, hi, hl, hd⟩)⟩
  ·exact ⟨none, _, run_endLoop (P := P) hl (by simp), hdone M _ (Nat.le_refl _) (hI.putObj _ hi (by omega) hl rfl) ((World.putObj_heap_other (by omega)).trans hd)⟩
  ·exact ⟨some c, _, run_endLoop (P := P) hl (by simp), hstop M c pre _ (Nat.le_refl _) hpre ((hIx c).putObj _ hi (by omega) hl rfl) ((World.putObj_heap_other (by omega)).trans hd)⟩
end Go.Proofs.YtmacfoebfpljoaaGreat
namespace Go.Proofs.YtmacfoebfpljoaaGreat
open Go.RowKit
set_option linter.unusedVariables false
attribute [local go_sem] Oper.semAt_some
theorem wpI_normal {P : Program} {n : Nat} {c : Code} {Q : Exit → Act → World → Prop} {a : Act} {w : World} (h : c.wpIn Fence.wide n P (Exit.then (Q .normal) (fun _ _ _ => False)) a w) : c.wpIn Fence.wide n P Q a w :=
 wpIn_mono h (fun e _ _ h => by cases e <;> first | exact h | exact h.elim)
theorem lall_any (g : Nat) (w : World) :
 Calls Tryz.prog 63 #[.pointer (some ⟨g, 0, none⟩)] w fun e w' => e = .returned (.func (.func 122) #[] #[.pointer (some ⟨w.heap.size, 0, none⟩)]) ∧ w.alloc (.cells #[.pointer (some ⟨g, 0, none⟩)] 38) = w' := by
 go_enter Tryz.func63, Tryz.ntmps63
 go_wp2
 go_ret
 exact ⟨rfl, rfl⟩
/-- the entries that are there, of the first so many -/
def pres (er : Int → Bool) (l : List EH) (q : Nat) : List (Nat × EH) := (List.range q).filterMap fun i => match l[i]? with | some x => if thereB er x.e then some (i, x) else none | none => none
section
variable {er : Int → Bool} {l : List EH} {q : Nat} {x : EH}
theorem pres_succ : pres er l (q + 1) = pres er l q ++ (match l[q]? with | some x => if thereB er x.e then [(q, x)] else [] | none => []) := by
 unfold pres
 rw [List.range_succ, List.filterMap_append]
 congr 1
 simp only [List.filterMap_cons, List.filterMap_nil]
 cases l[q]? with
 | none => rfl
 | some x => cases h : thereB er x.e <;> simp [h]
theorem pres_yes (h : l[q]? = some x) (ht : thereB er x.e = true) : pres er l (q + 1) = pres er l q ++ [(q, x)] := by rw [pres_succ, h]; simp [ht]
theorem pres_no (h : l[q]? = some x) (ht : thereB er x.e = false) : pres er l (q + 1) = pres er l q := by rw [pres_succ, h]; simp [ht]
theorem pres_pre {k : Nat} (h : q ≤ k) : pres er l q <+: pres er l k := by
 obtain ⟨d, rfl⟩ : ∃ d, k = q + d := ⟨k - q, by omega⟩
 unfold pres
 rw [List.range_add, List.filterMap_append]
 exact List.prefix_append _ _
end
abbrev encP (b : Nat) (x : Nat × EH) : Array Value := #[.int .i64 (x.1 : Int), .pointer (some ⟨b, x.1 * 18, none⟩)]
/-- w: where the ledger lies; w1: the box is made -/
theorem lall_gives (bx base g mb n b : Nat) (A : Option Addr) (c : Nat) (nx : Int) (l : List EH) (er : Int → Bool) (w w1 : World) (h : LdIn w base g mb n (.slice A l.length c) nx l er) (hA : ∀ k, A = some ⟨k, 0, none⟩ → k = b) (hw1 : Below w.heap.size w w1) (hlen : l.length ≤ 1000000) :
 GivesS Tryz.prog 122 #[.pointer (some ⟨bx, 0, none⟩)] (encP b) w.heap.size (pres er l l.length) w1 (fun W => Bk W bx 38 #[.pointer (some ⟨g, 0, none⟩)]) := by
 intro lp J Jx W hW hK hKx hJ hJx hY h0
 replace hW := hw1.trans (hW.mono hw1.size)
 have HH := Lib.hid h
 have HA := Lib.hid hA
 have HJ := Lib.hid hJ
 have HK := Lib.hid hK
 have HKx := Lib.hid hKx
 have hlg := def_lt' h.k
 have hF : ∀ W', (Below w.heap.size w W' ∧ Bk W' bx 38 #[.pointer (some ⟨g, 0, none⟩)]) → (W'.cell? ⟨bx, 0, none⟩ = some (.pointer (some ⟨g, 0, none⟩)) ∧ W'.cell? ⟨g, 0, none⟩ = some (.slice A l.length c)) := fun W' hb => ⟨hb.2.cell 0, (h.k.ext hb.1).cell 0⟩
 have HF := Lib.hid hF
 obtain ⟨f1, f2⟩ := hF W ⟨hW, hK _ _ h0⟩
 clear hF h hA hJ hJx hw1 hK hKx
 obtain ⟨N, hN⟩ : ∃ N, N = l.length := ⟨_, rfl⟩
 have HN := Lib.hid hN
 rw [← hN] at HF HH f2 hlen hY ⊢
 refine callsIn_of_wp Tryz.func122 rfl trivial ?_ rfl
 simp only [Tryz.ntmps122, List.size_toArray, List.length_cons, List.length_nil, Nat.reduceAdd, Nat.reduceSub, Array.replicate_succ, Array.replicate_zero, List.push_toArray, List.append_toArray, List.nil_append, List.cons_append]
 clear hN
 gi_wp2
 gi_loopw [3, 9] (fun v i wr => ∃ q : Nat, q ≤ N ∧ i = .int .i64 q ∧ J (pres er l q) wr ∧ Hid (Below w.heap.size w wr)) (fun _ i _ => N - (intOf i).toNat)
 case atStart => exact ⟨0, by omega, rfl, h0, Lib.hid hW⟩
 case round =>
  obtain ⟨q, hq, rfl, hJs, hbr⟩ := hrel
  by_cases hqn : q < N
  ·have e3 : (q : Int) < N := by omega
   obtain ⟨x, hx⟩ : ∃ x, l[q]? = some x := ⟨_, List.getElem?_eq_getElem (by have := HN.out; omega)⟩
   gi_wp2
   have hl1 := HH.out
   rw [HN.out] at hl1
   obtain ⟨b', hAb, hE⟩ := hl1.at_ hx
   obtain rfl := HA.out b' hAb
   subst hAb
   have hth := fun W' (hb : Below w.heap.size w W') => lthere_any base g mb n b' (q * 18) _ nx x er W' (hE.below hb)
   have HTH := Lib.hid hth
   clear hth hE hl1 f2 f1
   have hk1 : pres er l (q + 1) <+: pres er l N := pres_pre (by omega)
   refine wpI_normal ?_
   refine region_I (S := fun W' => Below w.heap.size w W' ∧ Bk W' bx 38 #[.pointer (some ⟨g, 0, none⟩)]) (by kernel_rfl) ⟨hbr.out.drew, (HK.out _ _ hJs).drew⟩ (fun hHeld => ?_)
   (refine tkI 0 ?_; refine tkI 1 ?_; refine tkI 2 ?_; refine tkI 3 ?_; refine tkI 4 ?_; refine tkI 5 ?_; refine tkI 6 ?_)
   refine nxI 7 ?_
   refine (HTH.out _ hHeld.1).mono ?_
   rintro e w5 ⟨rfl, hb5⟩
   have hb05 := hHeld.1.trans (hb5.mono hHeld.1.size)
   refine ⟨_, rfl, ⟨hb05, hHeld.2.ext hb5⟩, fun hHeld => ?_⟩
   have hbr5 : Below wr.heap.size wr w5 := (Below.drew (Below.refl wr.heap.size wr)).trans hb5
   cases ht : thereB er x.e with
   | false =>
     rw [← pres_no hx ht] at hJs
     have hJ5 := HJ.out _ _ _ hJs hbr5
     clear hY hJs hx
     (refine tkI 8 ?_; refine tnI 9 ?_; refine tnI 10 ?_; refine tnI 11 ?_; refine tnI 12 ?_; refine tnI 13 ?_; refine tnI 14 ?_; refine tnI 15 ?_; refine tnI 16 ?_; refine tnI 17 ?_; refine tnI 18 ?_; refine tkI 19 ?_)
     refine anyI_done (by kernel_rfl) ?_ _
     gi_wp2
     go_roundw
     case rel => exact ⟨q + 1, by omega, by go_num, hJ5, Lib.hid hHeld.1⟩
     case measure => simp [intOf]; omega
   | true =>
     rw [pres_yes hx ht] at hk1
     obtain ⟨fn, tmps, assign, body, hy, hR⟩ := hY _ (q, x) wr w5 hJs hk1 hbr5
     dsimp only [encP] at hy
     have HRR := Lib.hid hR
     have HK1 := Lib.hid hk1
     have HPY := Lib.hid (pres_yes hx ht)
     clear hR hk1 hY hJs hx
     (refine tkI 8 ?_; refine tkI 9 ?_; refine tkI 10 ?_; refine tkI 11 ?_; refine tkI 12 ?_; refine tkI 13 ?_; refine tkI 14 ?_; refine tkI 15 ?_; refine tkI 16 ?_)
     refine nxR 17 (RoundIn.mono HRR.out ?_)
     rintro e W3 (⟨rfl, hJ3, hb3, hm3⟩ | ⟨rfl, hJx3, hb3⟩)
     ·have hb03 : Below w.heap.size w W3 := hHeld.1.trans hb3
      have hk3 := HK.out _ _ hJ3
      rw [← HPY.out] at hJ3
      refine ⟨_, rfl, ⟨hb03, hk3⟩, fun hHeld => ?_⟩
      (refine tkI 18 ?_; refine tkI 19 ?_)
      refine anyI_done (by kernel_rfl) ?_ _
      clear hm3 hy
      gi_wp2
      go_roundw
      case rel => exact ⟨q + 1, by omega, by go_num, hJ3, Lib.hid hHeld.1⟩
      case measure => simp [intOf]; omega
     ·have hb03 : Below w.heap.size w W3 := hHeld.1.trans hb3
      refine ⟨_, rfl, ⟨hb03, HKx.out _ _ hJx3⟩, fun hHeld => ?_⟩
      (refine tkI 18 ?_; refine tkI 19 ?_)
      refine anyI_done (by kernel_rfl) ?_ _
      clear hy
      gi_wp2
      refine bodyPost_ret (results_none rfl _ _ _) rfl ?_
      exact ⟨⟨_, rfl⟩, .inr ⟨_, HK1.out, hJx3⟩⟩
  ·obtain rfl : N = q := by omega
   gi_wp2
   go_end0
   exact ⟨⟨_, rfl⟩, .inl hJs⟩
attribute [local go_sem] Oper.semAt_some
theorem lapp_in {F : Fence} {nF : Nat} {P : Program} {ops : Array Oper} {rest : List Oper} {o : Oper} {a : Act} {Q : Exit → Act → World → Prop} {t e : TypeId} {z : Value} {size bytes : Nat}
 (ht : P.underlying t = some (.slice e)) (hinfo : (P.info? e).map (fun i => (i.zero, i.size, i.bytes)) = some (some z, size, bytes)) (hzs : z.cells.size = size) (hsz : 0 < size)
 (w : World) (base : Nat) (v : Value) (n : Nat) (xs : List Value) (hown : w.ownsRow base e size v n xs) (hn : n + 1 ≤ maxLen) (hby : (n + 1) * bytes ≤ 140737488355328) (hb : base ≤ w.heap.size)
 (news : Array Value) (hl : news.size = size) (h1 : ∀ u ∈ news.toList, u.oneCell' = true)
 (hgd : o.guard = none) (s x : Operand) (ho : o.op = .call { callee := .builtin .append, args := #[s, x], argTypes := #[t, t] })
 (hs : a.eval s = v) (hx : a.eval x = .slice (some ⟨w.heap.size, 0, none⟩) 1 1)
 (h : ∀ A cap w', w'.ownsRow base e size (.slice A (n + 1) cap) (n + 1) (xs ++ news.toList) → w.grownBy w' v.ownBlock → ((Value.slice A (n + 1) cap).ownBlock = v.ownBlock ∨ (Value.slice A (n + 1) cap).ownBlock = some (w.heap.size + 1)) →
  wpListIn F nF P ops Q rest (a.put o.dst (.slice A (n + 1) cap)) w') :
 wpListIn F nF P ops Q (o :: rest) a (w.alloc (.cells news e)) := by
 obtain ⟨i0, hi, hz0, hz1, hz2⟩ := info_parts hinfo
 refine wpListIn_append_own_at _ hgd s x t ho base e i0 z size bytes ht hi hz0 hz1 hz2 hzs hsz v n xs hs (World.ownsRow.alloc (w := w) hown _) ⟨w.heap.size, 0, none⟩ 1 1 news.toList hx (by simp [hl]) ?_ h1 hn hby (by simp; omega) ?_
 ·intro j u hu
  have hb := heap_alloc_new w (.cells news e)
  rw [show (({ block := w.heap.size, off := 0 } : Addr).add j) = ⟨w.heap.size, j, none⟩ from by unfold Addr.add; split <;> simp_all]
  rw [cell_of_row _ _ _ _ _ _ hb]
  simpa using hu
 ·intro v' w' h1 h2 _ h4
  obtain ⟨A, cap, rfl, _⟩ := own_form h1
  refine h A cap w' h1 ((gr_alloc (World.grownBy.refl w _) _).trans h2) ?_
  rcases h4 with h4 | h4
  ·exact .inl h4
  ·exact .inr (by simpa using h4)
theorem its_append (a b : List Int) : its (a ++ b) = its a ++ its b := by simp [its]
/-- the places of those that are there, and the end -/
def plc (er : Int → Bool) (l : List EH) : List Int := (pres er l l.length).map (fun x => (x.1 : Int)) ++ [(l.length : Int)]
def PlcOut (er : Int → Bool) (l : List EH) (w : World) (e : Ending) (w' : World) : Prop := ∃ v, e = .returned v ∧ w'.ownsRow w.heap.size 3 1 v (plc er l).length (its (plc er l)) ∧ Below w.heap.size w w'
theorem info_int' : (Tryz.prog.info? 3).map (fun i => (i.zero, i.size, i.bytes)) = some (some (.int .i64 0), 1, 8) := by kernel_rfl
theorem pres_len (er : Int → Bool) (l : List EH) (q : Nat) : (pres er l q).length ≤ q := by
 unfold pres
 exact Nat.le_trans (List.length_filterMap_le _ _) (by simp)
/-- what places' box holds between two rounds -/
def PlI (w : World) (bx g : Nat) (pre : List (Nat × EH)) (W : World) : Prop := ∃ v, Bk W w.heap.size 51 #[v] ∧ W.ownsRow w.heap.size 3 1 v pre.length (its (pre.map fun x => (x.1 : Int))) ∧ Below w.heap.size w W ∧ Bk W bx 38 #[.pointer (some ⟨g, 0, none⟩)]
theorem places_any (base g mb n : Nat) (A : Option Addr) (c : Nat) (nx : Int) (l : List EH) (er : Int → Bool) (w : World) (h : LdIn w base g mb n (.slice A l.length c) nx l er) (hlen : l.length ≤ 100000) :
 Calls Tryz.prog 58 #[.pointer (some ⟨g, 0, none⟩)] w (PlcOut er l w) := by
 obtain ⟨b, hb⟩ : ∃ b, ∀ k, A = some ⟨k, 0, none⟩ → k = b := by
  cases A with
  | none => exact ⟨0, fun k e => by cases e⟩
  | some a => exact ⟨a.block, fun k e => by injection e with e; rw [e]⟩
 have ko := Bk.new w 51 #[.slice none 0 0]
 have hb1 : Below w.heap.size w (w.alloc (.cells #[.slice none 0 0] 51)) := belowA
 have hz1 : (w.alloc (.cells #[.slice none 0 0] 51)).heap.size = w.heap.size + 1 := by simp
 have hlg := def_lt' h.k
 have cg := h.k.cell 0
 dsimp at cg
 have HH := Lib.hid h
 have HB := Lib.hid hb
 have HCG := Lib.hid cg
 clear h hb cg
 refine callsIn_wide.1 (callsIn_of_wp_marks (n := 10) Tryz.func58 rfl trivial ?_ rfl)
 simp only [Tryz.ntmps58, List.size_toArray, List.length_cons, List.length_nil, Nat.reduceAdd, Nat.reduceSub, Array.replicate_succ, Array.replicate_zero, List.push_toArray, List.append_toArray, List.nil_append, List.cons_append]
 gi_wp2_with (refine ⟨trivial, ?_⟩; gi_at_call 63; refine (callsIn_wide.2 (lall_any _ _)).mono ?_; rintro e w2 ⟨rfl, rfl⟩)
 generalize w.alloc (.cells #[.slice none 0 0] 51) = w1 at *
 have kb := Bk.new w1 38 #[.pointer (some ⟨g, 0, none⟩)]
 have hb2 : Below w.heap.size w (w1.alloc (.cells #[.pointer (some ⟨g, 0, none⟩)] 38)) := hb1.alloc (by omega) _
 have hz2 : (w1.alloc (.cells #[.pointer (some ⟨g, 0, none⟩)] 38)).heap.size = w.heap.size + 2 := by simp [hz1]
 have ko2 := ko.alloc (.cells #[.pointer (some ⟨g, 0, none⟩)] 38)
 generalize w1.alloc (.cells #[.pointer (some ⟨g, 0, none⟩)] 38) = w2 at *
 rw [hz1] at kb
 have hgv := lall_gives (w.heap.size + 1) base g mb n b A c nx l er w w2 HH.out HB.out hb2 (by omega)
 have hpl := pres_len er l l.length
 refine range_mine_s (gf := 122) (lb := #[.pointer (some ⟨w.heap.size + 1, 0, none⟩)]) rfl (enters_of Tryz.func122 (by kernel_rfl) rfl) hgv (Below.refl _ _) hb2.size (fun _ => rfl)
  (PlI w (w.heap.size + 1) g) (fun _ _ _ => False) ?hI ?hIx ?h0 (fun s W h => h.choose_spec.2.2.2) (fun _ _ _ h => h.elim) ?hround ?hdone ?hstop
 case hI =>
  rintro s A' B row ⟨v, h1, h2, h3, h4⟩ hg hr
  exact ⟨v, blk_kept h1 hg hr, own_kept h2 hg hr, below_kept h3 (Nat.le_refl _) hb2.size hg hr, blk_kept h4 hg hr⟩
 case hIx => exact fun _ _ _ _ _ h _ _ => h
 case h0 => exact ⟨_, ko2, World.ownsRow_nil _ _ _ _, hb2, kb⟩
 case hround =>
  rintro lp pre ⟨i, x⟩ W1 KK hkk
  have HKK := Lib.hid hkk
  clear hkk hgv kb ko2 hb2 hz2
  gi_wp2
  refine HKK.out _ ?_
  clear HKK
  rintro W0 W2 ⟨v, h1, h2, h3, h4⟩ hext hpre hM
  have hlen2 := hpre.length_le
  simp only [List.length_append, List.length_cons, List.length_nil] at hlen2
  have k2 := h1.ext hext
  have kb2 := h4.ext hext
  have hown2 := own_below h2 hext
  have hb22 := h3.trans (hext.mono h3.size)
  have hz22 := hb22.size
  have y0 := k2.cell 0; have y1 := k2.frozen; have y2 := def_lt' k2
  dsimp at y0
  have hob := own_lt h2
  have hgs := def_lt' h1
  gi_wp2_with (gi_at_builtin; ((refine lapp_in Tryz.underlying51 info_int' rfl (by decide) W2 w.heap.size v pre.length _ hown2 (by unfold maxLen; omega) (by omega) hz22 _ rfl (by simp [Value.oneCell']) rfl _ _ rfl rfl rfl ?_); intro A4 cap4 w4 hown4 hgr4 hat4; have k4 := k2.grown hgr4 (own_ne hown2 k2 (by decide)); have x0 := k4.cell 0; have x1 := k4.frozen; have x2 := def_lt' k4; dsimp at x0))
  have hb4 := below_own hb22 hown2 hgr4 hz22 (Nat.le_refl _)
  have kb4 := kb2.grown hgr4 (own_ne hown2 kb2 (by decide))
  have hb24 : Below w.heap.size W2 w4 := below_own (Below.refl _ _) hown2 hgr4 hz22 (Nat.le_refl _)
  refine ⟨((KeepsOthers.of_grownBy hgr4 (own_cells hown2)).trans (KeepsOthers.setCell _ _ _)).from _, hb24.setCell (Nat.le_refl _) _, (mid_grown hgr4 hob).set_ hgs _, _, k4.set_ 0 _, ?_, hb4.setCell (Nat.le_refl _) _, kb4.far (p := ⟨w.heap.size, 0, none⟩) (by simp) _⟩
  rw [List.map_append, its_append, List.length_append]
  exact ownsRow_setCell_other (a := ⟨w.heap.size, 0, none⟩) hown4 (own_ne (b := w.heap.size) (t := 51) hown4 k4 (by decide)) _
 case hdone =>
  rintro D Wd hD ⟨v, h1, h2, h3, h4⟩ hKd
  obtain ⟨P, hP⟩ : ∃ P, P = pres er l l.length := ⟨_, rfl⟩
  have hplc : plc er l = P.map (fun x => (x.1 : Int)) ++ [(l.length : Int)] := by rw [hP]; rfl
  rw [← hP] at h2 hpl
  have HPL := Lib.hid hplc
  clear hplc hP kb ko2 hgv
  have hF : ∀ W, (Below w.heap.size w W ∧ Bk W w.heap.size 51 #[v] ∧ W.heap[D]? = some (.deferred (some []))) → (W.cell? ⟨w.heap.size, 0, none⟩ = some v ∧ W.cell? ⟨g, 0, none⟩ = some (.slice A l.length c)) := fun W hb => ⟨hb.2.1.cell 0, (hb.1.cell (p := ⟨g, 0, none⟩) hlg).trans HCG.out⟩
  have HF := Lib.hid hF
  clear hF
  have h2d : Wd.drew.ownsRow w.heap.size 3 1 v P.length (its (P.map fun x => (x.1 : Int))) := h2
  have hzd : w.heap.size ≤ Wd.drew.heap.size := h3.size
  gi_wp2
  refine wpIn_wide.2 (wp_normal ?_)
  refine wp_region_held_drew (S := fun W => Below w.heap.size w W ∧ Bk W w.heap.size 51 #[v] ∧ W.heap[D]? = some (.deferred (some []))) (by kernel_rfl) ⟨h3.drew, h1.drew, hKd⟩ (fun hHeld => ?_)
  generalize Wd.drew = Wx at *
  (refine tkH 0 ?_; refine tkH 1 ?_; refine tkH 2 ?_; refine tkH 3 ?_; refine tkH 4 ?_; refine tkH 5 ?_)
  refine nxH 6 (fun K hK => ?_)
  go_simp
  have hba : Below Wx.heap.size Wx (Wx.alloc (.cells #[.int .i64 (l.length : Int)] 3)) := belowA
  refine hK.out _ _ ⟨hHeld.1.trans (hba.mono hHeld.1.size), hHeld.2.1.ext hba, (hba.block D (def_lt' hHeld.2.2)).trans hHeld.2.2⟩ (fun hHeld2 => ?_)
  clear hK K; refine puH ?_
  refine nxH 7 (fun K hK => ?_)
  have h2y : (Wx.alloc (.cells #[.int .i64 (l.length : Int)] 3)).ownsRow w.heap.size 3 1 v P.length (its (P.map fun x => (x.1 : Int))) := own_below h2d hba
  have hky := Bk.new Wx 3 #[.int .i64 (l.length : Int)]
  have hzy : w.heap.size ≤ (Wx.alloc (.cells #[.int .i64 (l.length : Int)] 3)).heap.size := Nat.le_trans hzd hba.size
  clear h2d hzd hHeld
  generalize (Wx.alloc (.cells #[.int .i64 (l.length : Int)] 3)) = Wy at *
  refine app_at_step Tryz.underlying51 info_int' rfl (by decide) w.heap.size v P.length _ h2y (by unfold maxLen; omega) (by omega) hzy Wx.heap.size #[.int .i64 (l.length : Int)] hky rfl (by simp [Value.oneCell']) rfl (.tmp 13) (.tmp 19) rfl rfl rfl ?_
  intro g5 cap5 w5 hown5 hgr5 hat5 hlt5
  have hgb : Below w.heap.size Wy w5 := below_own (Below.refl _ _) h2y hgr5 hzy (Nat.le_refl _)
  have k5 := hHeld2.2.1.grown hgr5 (own_ne h2y hHeld2.2.1 (by decide))
  have hd5 : w5.heap[D]? = some (.deferred (some [])) := (hgr5.block D (def_lt' hHeld2.2.2) (fun e => by
   obtain ⟨cs, hc⟩ := own_bk h2y e.symm
   have hc : Wy.heap[D]? = some (.cells cs 3 (0, 0)) := hc
   rw [hHeld2.2.2] at hc
   cases hc)).trans hHeld2.2.2
  have hb5 := hHeld2.1.trans (hgb.mono (Nat.le_refl _))
  refine hK.out _ _ ⟨hb5, k5, hd5⟩ (fun hHeld => ?_)
  clear hK K; refine puH ?_
  (refine tkH 8 ?_)
  refine wpAnyH_done (by kernel_rfl) ?_ _
  have hfin : PlcOut er l w (.returned (.slice (some ⟨g5, 0, none⟩) (P.length + 1) cap5)) (w5.putObj D (.deferred none)) := by
   refine ⟨_, rfl, ?_, hb5.trans (below_putObj (by omega))⟩
   rw [HPL.out, its_append, List.length_append, List.length_map]
   exact own_put hown5 hd5 rfl _
  have HFIN := Lib.hid hfin
  clear hfin hown5
  have HD5 := Lib.hid hd5
  clear hd5 hHeld hHeld2 h2y hky hgr5 hKd k5
  simp only [Exit.then]
  gi_wp2
  refine ⟨by simp, .inl ⟨_, _, rfl, run_takeDeferred HD5.out, .slice (some ⟨g5, 0, none⟩) (P.length + 1) cap5, by simp [results, Tryz.results58, go_sem], HFIN.out⟩⟩
 case hstop =>
  rintro D cd pre Wd hD hpre h hK
  exact h.elim
attribute [local go_sem] Oper.semAt_some
theorem pres_mem {er : Int → Bool} {l : List EH} {q i : Nat} {x : EH} (h : (i, x) ∈ pres er l q) : l[i]? = some x ∧ thereB er x.e = true := by
 unfold pres at h
 obtain ⟨j, -, hj⟩ := List.mem_filterMap.1 h
 cases hl : l[j]? with
 | none => rw [hl] at hj; cases hj
 | some y =>
   rw [hl] at hj
   dsimp only at hj
   split at hj
   ·rename_i ht
    injection hj with hj
    injection hj with h1 h2
    subst h1
    subst h2
    exact ⟨hl, ht⟩
   ·cases hj
theorem LdIn.turn {w w' : World} {base g mb n n' : Nat} {sv : Value} {nx : Int} {l : List EH} {er er' : Int → Bool} (h : LdIn w base g mb n sv nx l er) (hg : w.grownBy w' (some mb)) (he : ErIs w' mb n' er') : LdIn w' base g mb n' sv nx l er' := by
 have hs : Sti (fun i => i = mb) w w' := Sti.of_gr hg (fun i e => by injection e with e; exact e.symm)
 have own_no : ∀ {e : TypeId} {size k : Nat} {v : Value} {xs : List Value}, w.ownsRow base e size v k xs → ∀ q, v.ownBlock = some q → ¬ q = mb := fun ho q hq e => by
  obtain ⟨-, -, cs, hb⟩ := own_far ho hq
  subst e
  exact h.er.ne hb rfl
 exact ⟨hs.bk h.k (fun e => h.er.ne h.k e.symm), h.le, h.lm, hs.own h.row (own_no h.row), he, fun x hx => (h.each x hx).sti hs (fun k hk e => by
  obtain ⟨-, -, t, cs, hb, -⟩ := (h.each x hx).has hk
  subst e
  exact h.er.ne hb rfl), h.apt⟩
/-- an event takes entries away -/
def tkE (ev : Int) (ps : List Int) (es : List Ent) : List Ent := ps.foldl (fun es i => es.modify i.toNat fun e => { e with tk := e.tk ++ [ev] }) es
theorem tkE_snoc (ev : Int) (ps : List Int) (p : Int) (es : List Ent) : tkE ev (ps ++ [p]) es = (tkE ev ps es).modify p.toNat fun e => { e with tk := e.tk ++ [ev] } := by simp [tkE]
theorem tkE_len (ev : Int) (ps : List Int) (es : List Ent) : (tkE ev ps es).length = es.length := by
 unfold tkE
 induction ps generalizing es with
 | nil => rfl
 | cons p ps ih => rw [List.foldl_cons, ih, List.length_modify]
theorem tkE_mem (ev : Int) (ps : List Int) (es : List Ent) (e : Ent) (h : e ∈ tkE ev ps es) : ∃ e0 ∈ es, e.tk.length ≤ e0.tk.length + ps.length := by
 unfold tkE at h
 induction ps generalizing es with
 | nil => exact ⟨e, h, Nat.le_refl _⟩
 | cons p ps ih =>
   rw [List.foldl_cons] at h
   obtain ⟨e1, h1, h2⟩ := ih _ h
   obtain ⟨i, hi⟩ := List.mem_iff_getElem?.1 h1
   rw [List.getElem?_modify] at hi
   cases he : es[i]? with
   | none => rw [he] at hi; cases hi
   | some e0 =>
     rw [he] at hi
     refine ⟨e0, List.mem_of_getElem? he, ?_⟩
     have hle : e1.tk.length ≤ e0.tk.length + 1 := by
      have hi : some _ = some e1 := hi
      injection hi with hi
      rw [← hi]
      split <;> simp
     simp only [List.length_cons]
     omega
/-- a ledger behind some writes: its entries are es; what is none of its own is as it was -/
def LdOut (base g mb n : Nat) (sv : Value) (nx : Int) (l : List EH) (er : Int → Bool) (es : List Ent) (w w' : World) : Prop :=
 ∃ l', LdIn w' base g mb n sv nx l' er ∧ l'.map EH.e = es ∧ Sti (LdIn.Mine g mb sv l) w w' ∧ ∀ k, LdIn.Mine g mb sv l' k → LdIn.Mine g mb sv l k ∨ w.heap.size ≤ k
theorem int_at' {w : World} {B n : Nat} {A : Option Addr} {ks : List Int} (h : Rd w B 1 A n (its ks)) : ks.length = n := by simpa [its] using h.1
theorem take_any (base g mb n : Nat) (A : Option Addr) (c : Nat) (nx ev : Int) (l : List EH) (er : Int → Bool) (pA : Option Addr) (pn pc : Nat) (ps : List Int) (w : World) (h : LdIn w base g mb n (.slice A l.length c) nx l er) (hb : base ≤ w.heap.size)
 (hp : Rd w w.heap.size 1 pA pn (its ps)) (hpb : ∀ a, pA = some a → ¬ LdIn.Mine g mb (.slice A l.length c) l a.block) (hpn : pn ≤ 1000000) (hps : ∀ i ∈ ps, 0 ≤ i ∧ i < l.length) (hev : Bd ev) (htk : ∀ x ∈ l, x.e.tk.length + pn ≤ 1000000) :
 Calls Tryz.prog 119 #[.pointer (some ⟨g, 0, none⟩), .slice pA pn pc, .int .i64 ev] w fun e w' => (∃ v, e = .returned v) ∧ LdOut base g mb n (.slice A l.length c) nx l er (tkE ev ps (l.map EH.e)) w w' := by
 have hpl := int_at' hp
 have HP := Lib.hid hp
 have HPB := Lib.hid hpb
 have HPS := Lib.hid hps
 have HTK := Lib.hid htk
 have HH := Lib.hid h
 have HPL := Lib.hid hpl
 clear hp hpb hps htk h hpl
 go_enter Tryz.func119, Tryz.ntmps119
 go_wp2
 go_loopw [7, 10] (fun v j wr => ∃ q : Nat, q ≤ pn ∧ j = .int .i64 q ∧ Hid (LdOut base g mb n (.slice A l.length c) nx l er (tkE ev (ps.take q) (l.map EH.e)) w wr)) (fun _ j _ => pn - (intOf j).toNat)
 case atStart => exact ⟨0, by omega, rfl, Lib.hid ⟨l, HH.out, rfl, Sti.refl _ _, fun k hk => .inl hk⟩⟩
 case round =>
  obtain ⟨q, hq, rfl, hO⟩ := hrel
  by_cases hqn : q < pn
  ·have e3 : (q : Int) < pn := by omega
   obtain ⟨i, hi⟩ : ∃ i, ps[q]? = some i := ⟨_, List.getElem?_eq_getElem (by have := HPL.out; omega)⟩
   obtain ⟨pb, po, rfl, hpb, hpc⟩ := int_at HP.out hi
   obtain ⟨l', hL, hm, hs, hmine⟩ := hO.out
   have hpc' : wr.cell? ⟨pb, po + q, none⟩ = some (.int .i64 i) := (World.cell?_of_block (a := ⟨pb, po + q, none⟩) (hs.block pb hpb (HPB.out _ rfl))).trans hpc
   obtain ⟨hi0, hi1⟩ := HPS.out i (List.mem_of_getElem? hi)
   obtain ⟨ι, rfl⟩ : ∃ ι : Nat, i = (ι : Int) := ⟨i.toNat, by omega⟩
   have hll : l'.length = l.length := by
    have := congrArg List.length hm
    simpa [tkE_len] using this
   obtain ⟨x, hx⟩ : ∃ x, l'[ι]? = some x := ⟨_, List.getElem?_eq_getElem (by omega)⟩
   rw [← hll] at hL
   obtain ⟨b, rfl, hE⟩ := hL.at_ hx
   have htl : x.e.tk.length + 1 ≤ 1000000 := by
    have h1 : x.e ∈ tkE ev (ps.take q) (l.map EH.e) := by rw [← hm]; exact List.mem_map.2 ⟨x, List.mem_of_getElem? hx, rfl⟩
    obtain ⟨e0, h2, h3⟩ := tkE_mem _ _ _ _ h1
    obtain ⟨y, hy, rfl⟩ := List.mem_map.1 h2
    have h4 := HTK.out y hy
    simp only [List.length_take] at h3
    omega
   obtain ⟨At, ct, hvt, hnt, hct, -, -⟩ := own_form hE.i.t
   have hc3 := hE.cells.2.2.1
   have HE := Lib.hid hE
   have HL := Lib.hid hL
   have HX := Lib.hid hx
   have HM := Lib.hid hm
   have HS := Lib.hid hs
   have HMI := Lib.hid hmine
   have HQ := Lib.hid hi
   have hlb := hE.lt
   have hbk := (own_far (k := b) hL.row rfl).2.2
   obtain ⟨cb, hbk⟩ := hbk
   have HBK := Lib.hid hbk
   have nb : ¬ x.Has b := hE.i.not hbk (by decide) (by decide)
   have ng : ¬ x.Has g := hE.i.not hE.k (by decide) (by decide)
   have hF : ∀ W, Sti x.Has wr W → (W.cell? ⟨g, 0, none⟩ = some (.slice (some ⟨b, 0, none⟩) l'.length c) ∧ W.cell? ⟨b, ι * 18 + 15, none⟩ = some x.vt) := fun W hb => ⟨(hb.bk hL.k ng).cell 0, (World.cell?_of_block (a := ⟨b, ι * 18 + 15, none⟩) (hb.block b hE.lt nb)).trans hc3⟩
   have HF := Lib.hid hF
   have e4 : (ι : Int) < l'.length := by omega
   clear hF hE hL hx hm hs hmine hO hi hpc
   go_upto_region 3 with fail
   refine wp_normal ?_
   refine region_L [18] (S := fun w' => Sti x.Has wr w') (by kernel_rfl) (Sti.of_below (Below.drew (Below.refl _ _))) (fun hHeld => ?_)
   (refine tkL 0 ?_; refine tkL 1 ?_; refine tkL 2 ?_; refine tkL 3 ?_; refine tkL 4 ?_; refine tkL 5 ?_; refine tkL 6 ?_; refine tkL 7 ?_; refine tkL 8 ?_; refine tkL 9 ?_; refine tkL 10 ?_; refine tkL 11 ?_; refine tkL 12 ?_; refine tkL 13 ?_)
   refine nxL 14 (fun K hK => ?_)
   go_simp
   have hb1 : Below wr.heap.size wr ((wr.alloc (.cells #[.int .i64 ev] 3)).drew) := belowA
   have hk1 := (Bk.new wr 3 #[.int .i64 ev]).drew
   refine hK.out _ _ (Sti.of_below hb1) (fun hHeld => ?_)
   clear hK K; refine puL ?_
   have hot := own_below HE.out.i.t hb1
   generalize (wr.alloc (.cells #[.int .i64 ev] 3)).drew = wA at *
   refine nxL 15 (fun K hK => ?_)
   refine app_at_step Tryz.underlying51 info_int' rfl (by decide) base x.vt x.e.tk.length _ hot (by unfold maxLen; omega) (by omega) (by have := HE.out.lt; have := hb1.size; have := HS.out.size; omega) wr.heap.size #[.int .i64 ev] hk1 rfl (by simp [Value.oneCell']) rfl (.tmp 26) (.tmp 28) rfl hvt.symm rfl ?_
   intro g5 cap5 w6 hown6 hgr6 hat6 hlt6
   have hs6 : Sti x.Has wr w6 := (Sti.of_below (Y := x.Has) hb1).trans (Sti.of_gr (Y := x.Has) hgr6 (fun i h => .inl h)) (fun i h => .inl h)
   refine hK.out _ _ hs6 (fun hHeld => ?_)
   clear hK K; refine puL ?_
   (refine tkL 16 ?_; refine tkL 17 ?_)
   have hb6 : w6.heap[b]? = wr.heap[b]? := hs6.block b HE.out.lt (HE.out.i.not HBK.out (by decide) (by decide))
   have hk6 : Bk w6 b 129 cb := hb6.trans HBK.out
   have y0 : w6.cell? ⟨b, ι * 18 + 15, none⟩ = some x.vt := (World.cell?_of_block (a := ⟨b, ι * 18 + 15, none⟩) hb6).trans hc3
   have y1 := hk6.frozen; have y2 := def_lt' hk6
   refine ltL 18 (fun K hK => ?_)
   go_simp
   refine hK.out _ _ ?_
   refine anyL_done (by kernel_rfl) ?_
   have hfin : LdOut base g mb n (.slice (some ⟨b, 0, none⟩) l.length c) nx l er (tkE ev (ps.take (q + 1)) (l.map EH.e)) w (w6.setCell ⟨b, ι * 18 + 15, none⟩ (.slice (some ⟨g5, 0, none⟩) (x.e.tk.length + 1) cap5)) := by
    have hE := HE.out
    have ho1 := own_below hE.i.o hb1
    have hg1 := own_below hE.i.g hb1
    have hfr : ∀ k, (Value.slice (some ⟨g5, 0, none⟩) (x.e.tk.length + 1) cap5).ownBlock = some k → x.vt.ownBlock = some k ∨ wr.heap.size ≤ k := fun k hk => by
     have hk : some g5 = some k := hk
     injection hk with hk
     subst hk
     rcases hat6 with h | h
     ·exact .inl h
     ·exact .inr (by rw [h]; exact hb1.size)
    have hx' : EH.In ⟨{ x.e with tk := x.e.tk ++ [ev] }, .slice (some ⟨g5, 0, none⟩) (x.e.tk.length + 1) cap5, x.vo, x.vg⟩ w6 base := by
     refine ⟨?_, hown_grow ho1 hgr6 (fun k hk => hE.i.ne k hk), hown_grow hg1 hgr6 (hown_type hg1 hot (by decide)), fun k hk h => ?_, hE.i.bm, fun k hk => ?_, hE.i.bg⟩
     ·show w6.ownsRow base 3 1 _ (x.e.tk ++ [ev]).length (its (x.e.tk ++ [ev]))
      rw [its_append, List.length_append]
      exact hown6
     ·rcases hfr k hk with h1 | h1
      ·exact hE.i.ne k h1 h
      ·have := (own_far hE.i.o h).2.1
       omega
     ·rcases List.mem_append.1 hk with hk | hk
      ·exact hE.i.bt k hk
      ·rw [List.mem_singleton.1 hk]; exact hev
    have hbl : ∀ k, EH.Has ⟨{ x.e with tk := x.e.tk ++ [ev] }, .slice (some ⟨g5, 0, none⟩) (x.e.tk.length + 1) cap5, x.vo, x.vg⟩ k → x.Has k ∨ wr.heap.size ≤ k := fun k hk => by
     rcases hk with hk | hk | hk
     ·rcases hfr k hk with h | h
      ·exact .inl (.inl h)
      ·exact .inr h
     ·exact .inl (.inr (.inl hk))
     ·exact .inl (.inr (.inr hk))
    have hup := HL.out.upd (j := 15) (u := .slice (some ⟨g5, 0, none⟩) (x.e.tk.length + 1) cap5) HX.out hs6 hx' hbl (by decide) rfl
    rw [hll] at hup
    refine ⟨_, hup, ?_, ?_, ?_⟩
    ·rw [List.take_add_one, HQ.out, Option.toList_some, tkE_snoc, ← HM.out]
     apply List.ext_getElem?
     intro j
     rw [List.getElem?_map, List.getElem?_set, List.getElem?_modify, List.getElem?_map]
     by_cases e : ι = j
     ·subst e
      rw [if_pos rfl, if_pos (by omega), HX.out]
      simp
     ·rw [if_neg e]
      have e2 : ¬ ((ι : Int).toNat = j) := by omega
      simp [e]
    ·refine HS.out.trans ((hs6.wide (Z := LdIn.Mine g mb (.slice (some ⟨b, 0, none⟩) l.length c) l') (fun i h => .inl (.inr (.inr (.inr ⟨x, List.mem_of_getElem? HX.out, h⟩))))).set_ (p := ⟨b, ι * 18 + 15, none⟩) (.inl (.inr (.inr (.inl rfl)))) _) (fun i hi => HMI.out i hi)
    ·intro k hk
     rcases hk with hk | hk | hk | ⟨y, hy, hk⟩
     ·exact .inl (.inl hk)
     ·exact .inl (.inr (.inl hk))
     ·exact .inl (.inr (.inr (.inl hk)))
     ·rcases List.mem_or_eq_of_mem_set hy with hy | rfl
      ·exact HMI.out k (.inr (.inr (.inr ⟨y, hy, hk⟩)))
      ·rcases hbl k hk with h | h
       ·exact HMI.out k (.inr (.inr (.inr ⟨x, List.mem_of_getElem? HX.out, h⟩)))
       ·exact .inr (Nat.le_trans HS.out.size h)
   have HFIN := Lib.hid hfin
   clear hfin
   generalize w6.setCell ⟨b, ι * 18 + 15, none⟩ (.slice (some ⟨g5, 0, none⟩) (x.e.tk.length + 1) cap5) = w7 at *
   clear y0 y1 y2 hk6 hb6 hc3 hs6 hgr6 hown6 hHeld
   go_wp2
   go_roundw
   case rel => exact ⟨q + 1, by omega, by go_num, HFIN⟩
   case measure => simp [intOf]; omega
  ·obtain rfl : pn = q := by omega
   go_wp2
   go_end0
   exact ⟨⟨_, rfl⟩, by have := hO.out; rwa [List.take_of_length_le (by rw [HPL.out]; exact Nat.le_refl _)] at this⟩
def freH (t : Tok) (lab ev : Int) (fi : Bool) : EH := ⟨⟨t, lab, ev, fi, [], [], []⟩, .slice none 0 0, .slice none 0 0, .slice none 0 0⟩
/-- new entries -/
def frs (ev : Int) (fi : Bool) : Int → List Tok → List EH
 | _, [] => []
 | nx, t :: l => freH t nx ev fi :: frs ev fi (nx + 1) l
theorem frs_len (ev : Int) (fi : Bool) : ∀ (l : List Tok) (nx : Int), (frs ev fi nx l).length = l.length
 | [], _ => rfl
 | t :: l, nx => by simp [frs, frs_len ev fi l]
theorem frs_snoc (ev : Int) (fi : Bool) : ∀ (l : List Tok) (nx : Int) (t : Tok), frs ev fi nx (l ++ [t]) = frs ev fi nx l ++ [freH t (nx + l.length) ev fi]
 | [], nx, t => by simp [frs]
 | a :: l, nx, t => by simp only [List.cons_append, frs, frs_snoc ev fi l (nx + 1) t, List.length_cons]; congr 3; congr 1; omega
theorem ehs_append (a b : List EH) : ehs (a ++ b) = ehs a ++ ehs b := by simp [ehs]
theorem info_entry : (Tryz.prog.info? 129).map (fun i => (i.zero, i.size, i.bytes)) = some (some (.agg #[.int .i64 0, .int .i64 0, .int .i64 0, .int .i32 0, .int .u16 0, .int .u16 0, .int .u16 0, .int .u16 0, .int .u16 0, .int .u16 0, .int .u16 0, .int .u16 0, .int .i64 0, .int .i64 0, .bool false, .slice none 0 0, .slice none 0 0, .slice none 0 0]), 18, 144) := by kernel_rfl
def FreOut (g : Nat) (sv : Value) (mb : Nat) (nx ev : Int) (fi : Bool) (sl : List Tok) (w : World) (e : Ending) (w' : World) : Prop :=
 ∃ v, e = .returned v ∧ w'.ownsRow w.heap.size 129 18 v sl.length (ehs (frs ev fi nx sl)) ∧ Bk w' g 121 #[sv, .map (some mb), .int .i64 (nx + sl.length)] ∧ Sti (fun k => k = g) w w'
theorem fresh_any' (g mb : Nat) (sv : Value) (nx ev : Int) (tA : Option Addr) (tn tc : Nat) (sl : List Tok) (w : World) (hk : Bk w g 121 #[sv, .map (some mb), .int .i64 nx]) (hr : Rd w w.heap.size 12 tA tn (toks sl)) (hta : 0 < tn → ∀ a, tA = some a → a.block ≠ g) (hn : tn ≤ 100000) (hnx : 0 ≤ nx ∧ nx ≤ 1000000000) :
 Calls Tryz.prog 120 #[.pointer (some ⟨g, 0, none⟩), .slice tA tn tc, .int .i64 ev] w (FreOut g sv mb nx ev false sl w) := by
 have hsl := hr.tlen
 have HR := Lib.hid hr
 have HT := Lib.hid hta
 have HL := Lib.hid hsl
 have HK := Lib.hid hk
 have hlg := def_lt' hk
 clear hr hta hsl hk
 go_enter Tryz.func120, Tryz.ntmps120
 go_wp2
 go_loopw [7, 9, 12] (fun v u j wr => ∃ (q : Nat) (v' : Value), v' = v ∧ q ≤ tn ∧ j = .int .i64 q ∧ Hid (wr.ownsRow w.heap.size 129 18 v q (ehs (frs ev false nx (sl.take q)))) ∧ Bk wr g 121 #[sv, .map (some mb), .int .i64 (nx + q)] ∧ Hid (Sti (fun k => k = g) w wr)) (fun _ _ j _ => tn - (intOf j).toNat)
 case atStart => exact ⟨0, _, rfl, by omega, rfl, Lib.hid (World.ownsRow_nil _ _ _ _), by simpa using HK.out, Lib.hid (Sti.refl _ _)⟩
 case round =>
  obtain ⟨q, v, rfl, hq, rfl, hO, hk, hs⟩ := hrel
  by_cases hqn : q < tn
  ·have e3 : (q : Int) < tn := by omega
   obtain ⟨x, hx⟩ : ∃ x, sl[q]? = some x := ⟨_, List.getElem?_eq_getElem (by have := HL.out; omega)⟩
   obtain ⟨bb, oo, rfl, hbb, hcc⟩ := HR.out.el Tok.cells (fun _ => rfl) HL.out hx
   have hbe := hs.out.block bb hbb (HT.out (by omega) _ rfl)
   have hrg : wr.rangeAt bb (oo + q * 12) x.cells := fun j v hv => by
    have hj : j < 12 := (List.getElem?_eq_some_iff.1 hv).1
    rw [World.cell?_of_block (a := ⟨bb, oo + q * 12 + j, none⟩) hbe, hcc j hj]
    exact hv
   have hsn : frs ev false nx (sl.take (q + 1)) = frs ev false nx (sl.take q) ++ [freH x (nx + q) ev false] := by
    rw [List.take_add_one, hx, Option.toList_some, frs_snoc, List.length_take, Nat.min_eq_left (by have := HL.out; omega)]
   have HSN := Lib.hid hsn
   clear hcc hx hsn hbe
   go_upto_region 5 with (first
    | ((with_reducible refine ld_tok wr ?hg (.tmp 14) ?ho bb (oo + q * 12) ?hx x hrg ?_); (case hg => rfl); (case ho => rfl); (case hx => rfl))
    | ((with_reducible refine st_tok (wr.alloc (.cells zeroTok 126)) ?hg (.tmp 9) (.tmp 15) ?ho wr.heap.size zeroTok x ?he ?hx (Bk.new wr _ _) rfl ?_); (case hg => rfl); (case ho => rfl); (case he => rfl); (case hx => rfl)))
   have hb2 : Below wr.heap.size wr ((wr.alloc (.cells zeroTok 126)).setRow wr.heap.size x.cells.toArray) := setRow_below belowA (Nat.le_refl _) _
   have k9 : Bk ((wr.alloc (.cells zeroTok 126)).setRow wr.heap.size x.cells.toArray) wr.heap.size 126 x.cells.toArray := setRow_bk (Bk.new wr _ _) _
   generalize (wr.alloc (.cells zeroTok 126)).setRow wr.heap.size x.cells.toArray = w2 at *
   have hk2 := hk.ext hb2
   have ho2 := own_below hO.out hb2
   have hs2 := hs.out.trans (Sti.of_below (Y := fun k => k = g) hb2) (fun i hi => .inl hi)
   have hz2 := hs.out.size
   have hz3 := hb2.size
   obtain ⟨tk, tt, ta, tr, ⟨m0, m1, m2, m3, m4, m5, m6, m7⟩⟩ := x
   simp only [Tok.cells, Mk.cells] at k9
   clear hk hs hO hrg hb2
   have hF : ∀ W, (Bk W g 121 #[sv, .map (some mb), .int .i64 (nx + q)] ∧ Bk W wr.heap.size 126 #[.int .i64 tk, .int .i64 tt, .int .i64 ta, .int .i32 tr, .int .u16 m0, .int .u16 m1, .int .u16 m2, .int .u16 m3, .int .u16 m4, .int .u16 m5, .int .u16 m6, .int .u16 m7]) → (W.cell? ⟨g, 2, none⟩ = some (.int .i64 (nx + q)) ∧ W.cell? ⟨wr.heap.size, 0, none⟩ = some (.int .i64 tk) ∧ W.cell? ⟨wr.heap.size, 1, none⟩ = some (.int .i64 tt) ∧ W.cell? ⟨wr.heap.size, 2, none⟩ = some (.int .i64 ta) ∧ W.cell? ⟨wr.heap.size, 3, none⟩ = some (.int .i32 tr) ∧ W.cell? ⟨wr.heap.size, 4, none⟩ = some (.int .u16 m0) ∧ W.cell? ⟨wr.heap.size, 5, none⟩ = some (.int .u16 m1) ∧ W.cell? ⟨wr.heap.size, 6, none⟩ = some (.int .u16 m2) ∧ W.cell? ⟨wr.heap.size, 7, none⟩ = some (.int .u16 m3) ∧ W.cell? ⟨wr.heap.size, 8, none⟩ = some (.int .u16 m4) ∧ W.cell? ⟨wr.heap.size, 9, none⟩ = some (.int .u16 m5) ∧ W.cell? ⟨wr.heap.size, 10, none⟩ = some (.int .u16 m6) ∧ W.cell? ⟨wr.heap.size, 11, none⟩ = some (.int .u16 m7)) := fun W hb => ⟨hb.1.cell 2, bk12 hb.2⟩
   have HF := Lib.hid hF
   clear hF
   refine wp_normal ?_
   refine wp_region_held_drew (S := fun W => Bk W g 121 #[sv, .map (some mb), .int .i64 (nx + q)] ∧ Bk W wr.heap.size 126 #[.int .i64 tk, .int .i64 tt, .int .i64 ta, .int .i32 tr, .int .u16 m0, .int .u16 m1, .int .u16 m2, .int .u16 m3, .int .u16 m4, .int .u16 m5, .int .u16 m6, .int .u16 m7]) (by kernel_rfl) ⟨hk2.drew, k9.drew⟩ (fun hHeld => ?_)
   have ho3 : w2.drew.ownsRow w.heap.size 129 18 v q (ehs (frs ev false nx (sl.take q))) := ho2
   have hs3 : Sti (fun k => k = g) w w2.drew := hs2.trans (Sti.of_below (Y := fun k => k = g) (Below.drew (Below.refl _ _))) (fun i hi => .inl hi)
   have hz4 : w.heap.size ≤ w2.drew.heap.size := hs3.size
   clear ho2 hs2 hk2 k9
   generalize w2.drew = wD at *
   (refine tkH 0 ?_; refine tkH 1 ?_; refine tkH 2 ?_; refine tkH 3 ?_; refine tkH 4 ?_; refine tkH 5 ?_; refine tkH 6 ?_; refine tkH 7 ?_)
   refine nxH 8 (fun K hK => ?_)
   go_simp
   have hb4 : Below wD.heap.size wD (wD.alloc (.cells #[.int .i64 tk, .int .i64 tt, .int .i64 ta, .int .i32 tr, .int .u16 m0, .int .u16 m1, .int .u16 m2, .int .u16 m3, .int .u16 m4, .int .u16 m5, .int .u16 m6, .int .u16 m7, .int .i64 (nx + q), .int .i64 ev, .bool false, .slice none 0 0, .slice none 0 0, .slice none 0 0] 129)) := belowA
   refine hK.out _ _ ⟨hHeld.1.ext hb4, hHeld.2.ext hb4⟩ (fun hHeld => ?_)
   clear hK K; refine puH ?_
   have ho4 := own_below ho3 hb4
   have hs4 := hs3.trans (Sti.of_below (Y := fun k => k = g) hb4) (fun i hi => .inl hi)
   have k4 := Bk.new wD 129 #[.int .i64 tk, .int .i64 tt, .int .i64 ta, .int .i32 tr, .int .u16 m0, .int .u16 m1, .int .u16 m2, .int .u16 m3, .int .u16 m4, .int .u16 m5, .int .u16 m6, .int .u16 m7, .int .i64 (nx + q), .int .i64 ev, .bool false, .slice none 0 0, .slice none 0 0, .slice none 0 0]
   have hz5 : w.heap.size ≤ (wD.alloc (.cells #[.int .i64 tk, .int .i64 tt, .int .i64 ta, .int .i32 tr, .int .u16 m0, .int .u16 m1, .int .u16 m2, .int .u16 m3, .int .u16 m4, .int .u16 m5, .int .u16 m6, .int .u16 m7, .int .i64 (nx + q), .int .i64 ev, .bool false, .slice none 0 0, .slice none 0 0, .slice none 0 0] 129)).heap.size := hs4.size
   clear ho3 hs3
   generalize wD.alloc (.cells #[.int .i64 tk, .int .i64 tt, .int .i64 ta, .int .i32 tr, .int .u16 m0, .int .u16 m1, .int .u16 m2, .int .u16 m3, .int .u16 m4, .int .u16 m5, .int .u16 m6, .int .u16 m7, .int .i64 (nx + q), .int .i64 ev, .bool false, .slice none 0 0, .slice none 0 0, .slice none 0 0] 129) = wE at *
   refine nxH 9 (fun K hK => ?_)
   refine app_at_step Tryz.underlying119 info_entry rfl (by decide) w.heap.size v q _ ho4 (by unfold maxLen; omega) (by omega) hz5 wD.heap.size #[.int .i64 tk, .int .i64 tt, .int .i64 ta, .int .i32 tr, .int .u16 m0, .int .u16 m1, .int .u16 m2, .int .u16 m3, .int .u16 m4, .int .u16 m5, .int .u16 m6, .int .u16 m7, .int .i64 (nx + q), .int .i64 ev, .bool false, .slice none 0 0, .slice none 0 0, .slice none 0 0] k4 rfl (by simp [Value.oneCell']) rfl (.tmp 16) (.tmp 24) rfl rfl rfl ?_
   intro g5 cap5 w5 hown5 hgr5 hat5 hlt5
   have hbE : Below w.heap.size wE w5 := below_own (Below.refl _ _) ho4 hgr5 hz5 (Nat.le_refl _)
   have hs5 : Sti (fun k => k = g) w w5 := hs4.trans (Z := fun k => w.heap.size ≤ k) ⟨hbE.os, hbE.tape, hbE.output, Nat.le_trans (Nat.le_refl _) hbE.size, fun i hi hn => hbE.block i (by omega)⟩ (fun i hi => .inr hi)
   have kg5 := hHeld.1.grown hgr5 (own_ne ho4 hHeld.1 (by decide))
   refine hK.out _ _ ⟨kg5, hHeld.2.grown hgr5 (own_ne ho4 hHeld.2 (by decide))⟩ (fun hHeld => ?_)
   clear hK K; refine puH ?_
   (refine tkH 10 ?_)
   refine wpAnyH_done (by kernel_rfl) ?_ _
   have y0 := kg5.cell 2; have y1 := kg5.frozen; have y2 := def_lt' kg5
   dsimp at y0
   have hO6 : (w5.setCell ⟨g, 2, none⟩ (.int .i64 (nx + q + 1))).ownsRow w.heap.size 129 18 (.slice (some ⟨g5, 0, none⟩) (q + 1) cap5) (q + 1) (ehs (frs ev false nx (sl.take (q + 1)))) := by
    rw [HSN.out, ehs_append]
    exact ownsRow_setCell_other (a := ⟨g, 2, none⟩) hown5 (own_ne (b := g) hown5 kg5 (by decide)) _
   have hk6 : Bk (w5.setCell ⟨g, 2, none⟩ (.int .i64 (nx + q + 1))) g 121 #[sv, .map (some mb), .int .i64 (nx + (q + 1 : Nat))] := by
    have := kg5.set_ 2 (.int .i64 (nx + q + 1))
    rw [show nx + ((q + 1 : Nat) : Int) = nx + q + 1 by omega]
    exact this
   have hs6 : Sti (fun k => k = g) w (w5.setCell ⟨g, 2, none⟩ (.int .i64 (nx + q + 1))) := hs5.set_ (p := ⟨g, 2, none⟩) (.inl rfl) _
   have HO6 := Lib.hid hO6
   have HS6 := Lib.hid hs6
   have HK6 := Lib.hid hk6
   clear hO6 hs6 hk6 hHeld hown5 hgr5 hs5 hs4 ho4 k4 hbE hb4 hat5
   go_wp2
   go_roundw
   case rel => exact ⟨q + 1, _, rfl, by omega, by go_num, HO6, HK6.out, HS6⟩
   case measure => simp [intOf]; omega
  ·obtain rfl : tn = q := by omega
   have hO := hO.out
   rw [List.take_of_length_le (by rw [HL.out]; exact Nat.le_refl _), ← HL.out] at hO
   rw [← HL.out] at hk
   have HE := Lib.hid hO
   clear hO
   go_wp2
   go_ret
   exact ⟨_, rfl, HE.out, hk, hs.out⟩
end Go.Proofs.YtmacfoebfpljoaaGreat
