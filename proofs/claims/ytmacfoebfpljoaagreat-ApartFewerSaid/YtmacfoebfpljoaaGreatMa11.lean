/- merged texts: Hnf Hng Hnh Hni Hnj -/
import Derived.Test.YtmacfoebfpljoaaGreatMa10
import Derived.Test.YtmacfoebfpljoaaGreatMa9
import Derived.Great.BuildSlice
import Derived.Test.YtmacfoebfpljoaaGreatMa8
set_option maxRecDepth 100000
set_option maxHeartbeats 16000000
namespace Go.Proofs.YtmacfoebfpljoaaGreat
open Go.RowKit
set_option linter.unusedVariables false
theorem Bk.ty {w : World} {b : Nat} {t t' : TypeId} {cs cs' : Array Value} (h : Bk w b t cs) (h' : Bk w b t' cs') : t = t' := by
 have e := Eq.trans (Eq.symm h) h'
 simp at e
 exact e.2
theorem info_r32 : (Tryz.prog.info? 261).map (fun i => (i.zero, i.size, i.bytes)) = some (some (.agg #[.int .i64 0, .int .i64 0, .int .i64 0, .int .i64 0, .int .i64 0, .int .i64 0, .int .i64 0, .int .i64 0, .int .i64 0, .int .i64 0, .int .i64 0, .int .i64 0, .int .i64 0, .int .i64 0, .int .i64 0, .int .i64 0, .int .i64 0, .int .i64 0, .int .i64 0, .int .i64 0, .int .i64 0, .int .i64 0, .int .i64 0, .int .i64 0, .int .i64 0, .int .i64 0, .int .i64 0, .int .i64 0, .int .i64 0, .int .i64 0, .int .i64 0, .int .i64 0]), 32, 256) := by kernel_rfl
theorem sizer32 : (Tryz.prog.info? 261).map (·.size) = some 32 := by kernel_rfl
abbrev zero32 : Array Value := #[.int .i64 0, .int .i64 0, .int .i64 0, .int .i64 0, .int .i64 0, .int .i64 0, .int .i64 0, .int .i64 0, .int .i64 0, .int .i64 0, .int .i64 0, .int .i64 0, .int .i64 0, .int .i64 0, .int .i64 0, .int .i64 0, .int .i64 0, .int .i64 0, .int .i64 0, .int .i64 0, .int .i64 0, .int .i64 0, .int .i64 0, .int .i64 0, .int .i64 0, .int .i64 0, .int .i64 0, .int .i64 0, .int .i64 0, .int .i64 0, .int .i64 0, .int .i64 0]
theorem sizer32z : (Tryz.prog.info? 261).map (·.size) = some zero32.size := sizer32
theorem zero32_one : zero32.all (·.oneCell') = true := by simp [zero32, Value.oneCell']
/-- 32 numbers -/
def Is32 (cs : Array Value) : Prop := cs.size = 32 ∧ ∀ (i : Nat), i < 32 → ∃ x : Int, cs[i]? = some (.int .i64 x)
theorem zero32_is : Is32 zero32 := by
 refine ⟨rfl, fun i hi => ⟨0, ?_⟩⟩
 rcases (show i = 0 ∨ i = 1 ∨ i = 2 ∨ i = 3 ∨ i = 4 ∨ i = 5 ∨ i = 6 ∨ i = 7 ∨ i = 8 ∨ i = 9 ∨ i = 10 ∨ i = 11 ∨ i = 12 ∨ i = 13 ∨ i = 14 ∨ i = 15 ∨ i = 16 ∨ i = 17 ∨ i = 18 ∨ i = 19 ∨ i = 20 ∨ i = 21 ∨ i = 22 ∨ i = 23 ∨ i = 24 ∨ i = 25 ∨ i = 26 ∨ i = 27 ∨ i = 28 ∨ i = 29 ∨ i = 30 ∨ i = 31 by omega) with rfl | rfl | rfl | rfl | rfl | rfl | rfl | rfl | rfl | rfl | rfl | rfl | rfl | rfl | rfl | rfl | rfl | rfl | rfl | rfl | rfl | rfl | rfl | rfl | rfl | rfl | rfl | rfl | rfl | rfl | rfl | rfl <;> rfl
theorem Is32.set {cs : Array Value} (h : Is32 cs) (i : Nat) (x : Int) : Is32 (cs.setIfInBounds i (.int .i64 x)) := by
 refine ⟨by simpa using h.1, fun j hj => ?_⟩
 rw [Array.getElem?_setIfInBounds]
 split
 ·rw [if_pos (by have := h.1; omega)]; exact ⟨x, rfl⟩
 ·exact h.2 j hj
theorem Is32.one {cs : Array Value} (h : Is32 cs) : cs.all (·.oneCell') = true := Array.all_eq_true_iff_forall_mem.2 fun u hu => by
 obtain ⟨j, hj⟩ := Array.mem_iff_getElem?.1 hu
 have hlt := (Array.getElem?_eq_some_iff.1 hj).1
 obtain ⟨x, hx⟩ := h.2 j (by have := h.1; omega)
 rw [hx] at hj
 injection hj with hj
 subst hj
 simp [Value.oneCell']
theorem fold_set (l : List Value) : ∀ (k : Nat) (z : Array Value), k + l.length = z.size → ((l.zipIdx k).foldl (fun (a : Array Value) (x : Value × Nat) => a.setIfInBounds x.2 x.1) z).toList = z.toList.take k ++ l := by
 induction l with
 | nil => intro k z h; simp at h; simp [List.take_of_length_le, h]
 | cons x l ih =>
   intro k z h
   rw [List.zipIdx_cons, List.foldl_cons, ih (k + 1) _ (by simp at h ⊢; omega)]
   simp only [Array.toList_setIfInBounds]
   rw [List.take_add_one, List.take_set_of_le (Nat.le_refl _), List.getElem?_set_self (by simp at h ⊢; omega)]
   simp
theorem fill_row (z cs : Array Value) (hz : z.size = 32) (h : cs.size = 32) : Instr.fill (fun i => some (i * 32, 32)) z [(0, .agg cs)] = some cs := by
 have h1 := fold_set cs.toList 0 z (by simp [h, hz])
 simp only [List.take_zero, List.nil_append] at h1
 have hc : (Value.agg cs).cells = cs := rfl
 unfold Instr.fill
 simp only [hc, Nat.zero_mul, Nat.zero_add, h, hz]
 simp only [Instr.fill]
 simp
 rw [show cs.size = cs.zipIdx.size by simp]
 rw [← Array.foldl_toList, Array.toList_zipIdx]
 apply Array.ext'
 exact h1
theorem build_row (cs : Array Value) (h : cs.size = 32) (W : World) : (Instr.buildSlice 199 1 #[(0, .agg cs)]).run Tryz.prog W = .ok (.slice (some ⟨W.heap.size, 0, none⟩) 1 1) (W.alloc (.cells cs 261)) := by
 obtain ⟨i0, hi, hz0, hz1, hz2⟩ := info_parts info_r32
 refine run_buildSlice W _ _ 1 _ cs i0 _ Tryz.underlying199 hi hz0 (by rw [hz1]; decide) (by rw [hz1]; decide) ?_
 rw [hz1]
 exact fill_row _ cs (by simp) h
theorem wpList_build_row {ops : Array Oper} {rest : List Oper} {o : Oper} {a : Act} {Q : Exit → Act → World → Prop} (w : World) (hg : o.guard = none) (x : Operand) (ho : o.op = .buildSlice 199 1 #[(0, x)]) (cs : Array Value) (hx : a.eval x = .agg cs) (hc : cs.size = 32)
 (h : wpList Tryz.prog ops Q rest (a.put o.dst (.slice (some ⟨w.heap.size, 0, none⟩) 1 1)) (w.alloc (.cells cs 261))) : wpList Tryz.prog ops Q (o :: rest) a w := by
 refine wpList_plain hg fun K hK => ?_
 have hr := build_row cs hc w
 unfold Oper.wp
 simp [execOp, ho, hx, hr, Result.andThen]
 exact hK _ _ h
/-- states, on the way -/
structure NI (w wr : World) (m K Ka k : Nat) (N : Array Value) (sets nx ac : Value) : Prop where
 n : Bk wr w.heap.size 205 N
 r : Bk wr (w.heap.size + 1) 201 #[.slice none 0 0, .slice none 0 0, .slice none 0 0]
 t : Bk wr (w.heap.size + 4) 201 #[sets, nx, ac]
 rs : Rws wr w.heap.size m sets K
 rn : ∃ xs, wr.ownsRow w.heap.size 261 32 nx k xs
 ra : ∃ xs, wr.ownsRow w.heap.size 4 1 ac Ka xs
 l : Below w.heap.size w wr
/-- a row of numbers, and the sets behind a state -/
structure RI (w wr : World) (m rb ob : Nat) (cs vs : Array Value) : Prop where
 rb : Bk wr rb 261 cs
 is : Is32 cs
 ob : Bk wr ob 262 vs
 sz : vs.size = 32
 ni : ∀ (s : Nat) (u : Value), vs[s]? = some u → NsIn wr w.heap.size m u
section
variable {w wr w' : World} {m K Ka k rb ob : Nat} {N cs vs : Array Value} {sets nx ac v' : Value} {Y : Nat → Prop}
theorem NI.below (h : NI w wr m K Ka k N sets nx ac) (hb : Below wr.heap.size wr w') : NI w w' m K Ka k N sets nx ac := by
 obtain ⟨xs, h1⟩ := h.rn
 obtain ⟨ys, h2⟩ := h.ra
 exact ⟨h.n.ext hb, h.r.ext hb, h.t.ext hb, h.rs.below hb, ⟨xs, own_below h1 hb⟩, ⟨ys, own_below h2 hb⟩, h.l.trans (hb.mono h.l.size)⟩
theorem RI.below (h : RI w wr m rb ob cs vs) (hb : Below wr.heap.size wr w') : RI w w' m rb ob cs vs :=
 ⟨h.rb.ext hb, h.is, h.ob.ext hb, h.sz, fun s u hu => (h.ni s u hu).below hb⟩
/-- blocks of another kind are written -/
theorem RI.sti {t : TypeId} (h : RI w wr m rb ob cs vs) (hs : Sti Y wr w') (hY : ∀ i, Y i → ∃ cs, Bk wr i t cs) (h1 : t ≠ 261) (h2 : t ≠ 262) (h3 : t ≠ 3) : RI w w' m rb ob cs vs :=
 ⟨hs.bk h.rb (fun y => by obtain ⟨c, hc⟩ := hY _ y; exact h1 (hc.ty h.rb)), h.is, hs.bk h.ob (fun y => by obtain ⟨c, hc⟩ := hY _ y; exact h2 (hc.ty h.ob)), h.sz, fun s u hu => hs.ns (h.ni s u hu) (fun g hg y => by obtain ⟨c, hc⟩ := hY _ y; exact (h.ni s u hu).ne hc (fun e => h3 e.symm) hg)⟩
theorem own_row_ty {w : World} {base size n : Nat} {e : TypeId} {v : Value} {xs : List Value} (h : w.ownsRow base e size v n xs) : ∀ i, v.ownBlock = some i → ∃ cs, Bk w i e cs := fun i hi => by
 rcases h.2 with ⟨rfl, _⟩ | ⟨g', cap, cur, rfl, _, hh, _⟩
 ·simp [Value.ownBlock] at hi
 ·have e1 : g' = i := by simpa [Value.ownBlock] using hi
  subst e1
  exact ⟨cur, hh⟩
theorem Rws.ty {w : World} {B m K : Nat} {v : Value} (h : Rws w B m v K) : ∀ i, v.ownBlock = some i → ∃ cs, Bk w i 51 cs := by
 obtain ⟨vs, h1, -⟩ := h
 exact own_row_ty h1
/-- one more set -/
theorem NI.pushS {u : Value} {ss : List Value} (h : NI w wr m K Ka k N sets nx ac) (h1 : wr.ownsRow w.heap.size 51 1 sets K ss) (h2 : ∀ u ∈ ss, NsIn wr w.heap.size m u) (hu : NsIn wr w.heap.size m u) (hg : wr.grownBy w' sets.ownBlock) (ho : w'.ownsRow w.heap.size 51 1 v' (K + 1) (ss ++ [u])) :
 NI w (w'.setCell ⟨w.heap.size + 4, 0, none⟩ v') m (K + 1) Ka k N v' nx ac := by
 obtain ⟨xs, hn⟩ := h.rn
 obtain ⟨ys, ha⟩ := h.ra
 have hs : Sti (fun i => sets.ownBlock = some i) wr w' := Sti.of_gr hg (fun i h => h)
 have kt := hs.bk h.t (own_ne h1 h.t (by decide))
 have hr := rows_put h1 h2 hu hs ho
 have hn' := hs.own hn (fun g hg h0 => hown_type hn h1 (by decide) g h0 hg)
 have ha' := hs.own ha (fun g hg h0 => hown_type ha h1 (by decide) g h0 hg)
 exact ⟨(hs.bk h.n (own_ne h1 h.n (by decide))).far (p := ⟨w.heap.size + 4, 0, none⟩) (by simp) _, (hs.bk h.r (own_ne h1 h.r (by decide))).far (p := ⟨w.heap.size + 4, 0, none⟩) (by simp) _, kt.set_ 0 _, hr.put_ kt (by decide) (by decide) _, ⟨xs, ownsRow_setCell_other hn' (own_ne hn' kt (by decide)) _⟩, ⟨ys, ownsRow_setCell_other ha' (own_ne ha' kt (by decide)) _⟩, (below_own h.l h1 hg h.l.size (Nat.le_refl _)).setCell (by simp) _⟩
/-- one more truth -/
theorem NI.pushA {u : Value} {ss : List Value} (h : NI w wr m K Ka k N sets nx ac) (h1 : wr.ownsRow w.heap.size 4 1 ac Ka ss) (hg : wr.grownBy w' ac.ownBlock) (ho : w'.ownsRow w.heap.size 4 1 v' (Ka + 1) (ss ++ [u])) :
 NI w (w'.setCell ⟨w.heap.size + 4, 2, none⟩ v') m K (Ka + 1) k N sets nx v' := by
 obtain ⟨xs, hn⟩ := h.rn
 have hs : Sti (fun i => ac.ownBlock = some i) wr w' := Sti.of_gr hg (fun i h => h)
 have kt := hs.bk h.t (own_ne h1 h.t (by decide))
 obtain ⟨vs, r1, r2⟩ := id h.rs
 have hr : Rws w' w.heap.size m sets K := ⟨vs, hs.own r1 (fun g hg h0 => hown_type r1 h1 (by decide) g h0 hg), fun u hu => hs.ns (r2 u hu) (fun g hg h0 => (r2 u hu).ne_row h1 (by decide) g h0 hg)⟩
 have hn' := hs.own hn (fun g hg h0 => hown_type hn h1 (by decide) g h0 hg)
 exact ⟨(hs.bk h.n (own_ne h1 h.n (by decide))).far (p := ⟨w.heap.size + 4, 2, none⟩) (by simp) _, (hs.bk h.r (own_ne h1 h.r (by decide))).far (p := ⟨w.heap.size + 4, 2, none⟩) (by simp) _, kt.set_ 2 _, hr.put_ kt (by decide) (by decide) _, ⟨xs, ownsRow_setCell_other hn' (own_ne hn' kt (by decide)) _⟩, ⟨_, ownsRow_setCell_other ho (own_ne ho kt (by decide)) _⟩, (below_own h.l h1 hg h.l.size (Nat.le_refl _)).setCell (by simp) _⟩
/-- one more row of numbers -/
theorem NI.pushN {us : List Value} {ss : List Value} (h : NI w wr m K Ka k N sets nx ac) (h1 : wr.ownsRow w.heap.size 261 32 nx k ss) (hg : wr.grownBy w' nx.ownBlock) (ho : w'.ownsRow w.heap.size 261 32 v' (k + 1) (ss ++ us)) :
 NI w (w'.setCell ⟨w.heap.size + 4, 1, none⟩ v') m K Ka (k + 1) N sets v' ac := by
 obtain ⟨ys, ha⟩ := h.ra
 have hs : Sti (fun i => nx.ownBlock = some i) wr w' := Sti.of_gr hg (fun i h => h)
 have kt := hs.bk h.t (own_ne h1 h.t (by decide))
 obtain ⟨vs, r1, r2⟩ := id h.rs
 have hr : Rws w' w.heap.size m sets K := ⟨vs, hs.own r1 (fun g hg h0 => hown_type r1 h1 (by decide) g h0 hg), fun u hu => hs.ns (r2 u hu) (fun g hg h0 => (r2 u hu).ne_row h1 (by decide) g h0 hg)⟩
 have ha' := hs.own ha (fun g hg h0 => hown_type ha h1 (by decide) g h0 hg)
 exact ⟨(hs.bk h.n (own_ne h1 h.n (by decide))).far (p := ⟨w.heap.size + 4, 1, none⟩) (by simp) _, (hs.bk h.r (own_ne h1 h.r (by decide))).far (p := ⟨w.heap.size + 4, 1, none⟩) (by simp) _, kt.set_ 1 _, hr.put_ kt (by decide) (by decide) _, ⟨_, ownsRow_setCell_other ho (own_ne ho kt (by decide)) _⟩, ⟨ys, ownsRow_setCell_other ha' (own_ne ha' kt (by decide)) _⟩, (below_own h.l h1 hg h.l.size (Nat.le_refl _)).setCell (by simp) _⟩
/-- a number of the row is set -/
theorem NI.putR {i : Nat} {u : Value} (h : NI w wr m K Ka k N sets nx ac) (kr : Bk wr rb 261 cs) (hrb : w.heap.size ≤ rb) (hne : ∀ g, nx.ownBlock = some g → g ≠ rb) : NI w (wr.setCell ⟨rb, i, none⟩ u) m K Ka k N sets nx ac := by
 obtain ⟨xs, hn⟩ := h.rn
 obtain ⟨ys, ha⟩ := h.ra
 exact ⟨h.n.far (p := ⟨rb, i, none⟩) (fun e => absurd (Bk.ty (e ▸ h.n) kr) (by decide)) _, h.r.far (p := ⟨rb, i, none⟩) (fun e => absurd (Bk.ty (e ▸ h.r) kr) (by decide)) _, h.t.far (p := ⟨rb, i, none⟩) (fun e => absurd (Bk.ty (e ▸ h.t) kr) (by decide)) _, h.rs.put_ kr (by decide) (by decide) _, ⟨xs, ownsRow_setCell_other hn (fun e => hne _ e rfl) _⟩, ⟨ys, ownsRow_setCell_other ha (own_ne ha kr (by decide)) _⟩, h.l.setCell hrb _⟩
theorem RI.put {i : Nat} (h : RI w wr m rb ob cs vs) (x : Int) : RI w (wr.setCell ⟨rb, i, none⟩ (.int .i64 x)) m rb ob (cs.setIfInBounds i (.int .i64 x)) vs :=
 ⟨h.rb.set_ i _, h.is.set i x, h.ob.far (p := ⟨rb, i, none⟩) (fun e => absurd (Bk.ty (e ▸ h.ob) h.rb) (by decide)) _, h.sz, fun s u hu => (h.ni s u hu).put h.rb (by decide) _⟩
theorem RI.set_ {b i : Nat} {t : TypeId} {ds : Array Value} (h : RI w wr m rb ob cs vs) (k : Bk wr b t ds) (h1 : 261 ≠ t) (h2 : 262 ≠ t) (h3 : 3 ≠ t) (u : Value) : RI w (wr.setCell ⟨b, i, none⟩ u) m rb ob cs vs :=
 ⟨h.rb.far (p := ⟨b, i, none⟩) (fun e => absurd (Bk.ty h.rb (by have e : rb = b := e; rw [e]; exact k)) h1) _, h.is, h.ob.far (p := ⟨b, i, none⟩) (fun e => absurd (Bk.ty h.ob (by have e : ob = b := e; rw [e]; exact k)) h2) _, h.sz, fun s u hu => (h.ni s u hu).put k h3 _⟩
end
def New8Out (w : World) (e : Ending) (w' : World) : Prop := ∃ (A0 A1 A2 : Option Addr) (n0 c0 n1 c1 n2 c2 : Nat) (b : Bool), e = .returned (.tuple #[.agg #[.slice A0 n0 c0, .slice A1 n1 c1, .slice A2 n2 c2], .bool b]) ∧ Below w.heap.size w w'
def set3 (w : World) (b : Nat) (x0 x1 x2 : Value) : World := ((w.setCell ⟨b, 0, none⟩ x0).setCell ⟨b, 1, none⟩ x1).setCell ⟨b, 2, none⟩ x2
theorem set3_bk {w : World} {b : Nat} {t : TypeId} {y0 y1 y2 : Value} (k : Bk w b t #[y0, y1, y2]) (x0 x1 x2 : Value) : Bk (set3 w b x0 x1 x2) b t #[x0, x1, x2] := by
 have q0 : Bk _ b t #[x0, y1, y2] := k.set_ 0 x0
 have q1 : Bk _ b t #[x0, x1, y2] := q0.set_ 1 x1
 have q2 : Bk _ b t #[x0, x1, x2] := q1.set_ 2 x2
 exact q2
theorem set3_below {w wr : World} {b : Nat} (h : Below w.heap.size w wr) (hb : w.heap.size ≤ b) (x0 x1 x2 : Value) : Below w.heap.size w (set3 wr b x0 x1 x2) :=
 ((h.setCell hb _).setCell hb _).setCell hb _
theorem new8_any (B m : Nat) (on bh f e : Value) (em : Bool) (w : World) (hV : NetV w B m on bh f e) (hm : m ≤ 256) : Calls Tryz.prog 105 #[.agg #[on, bh, f, e, .bool em]] w (New8Out w) := by
 obtain ⟨Ao, co, rfl⟩ := hV.ron.form
 obtain ⟨Ab, cb, rfl⟩ := hV.rbh.form
 obtain ⟨Af, cf, lf, rfl, hlf, -, -⟩ := hV.f.form
 obtain ⟨Ae, ce, le, rfl, hle, hre, -⟩ := hV.e.form
 generalize lf.length = fn at *
 obtain ⟨en, hen⟩ : ∃ en, en = le.length := ⟨_, rfl⟩
 have hel := hle.len
 rw [← hen] at hV hre hel ⊢
 have HRE := Lib.hid hre.to_is
 have HV := Lib.hid hV
 clear hV hlf hle hre hen
 go_enter Tryz.func105, Tryz.ntmps105
 go_upto_region 2 with fail
 have hI0 : NI w (((((w.alloc (.cells #[.slice Ao m co, .slice Ab m cb, .slice Af fn cf, .slice Ae en ce, .bool em] 205)).alloc (.cells #[.slice none 0 0, .slice none 0 0, .slice none 0 0] 201)).alloc (.cells #[.slice none 0 0] 51)).alloc (.cells #[.bool em] 4)).alloc (.cells #[.slice (some ⟨w.heap.size + 1 + 1, 0, none⟩) 1 1, .slice none 0 0, .slice (some ⟨w.heap.size + 1 + 1 + 1, 0, none⟩) 1 1] 201)) m 1 1 0 #[.slice Ao m co, .slice Ab m cb, .slice Af fn cf, .slice Ae en ce, .bool em] (.slice (some ⟨w.heap.size + 1 + 1, 0, none⟩) 1 1) (.slice none 0 0) (.slice (some ⟨w.heap.size + 1 + 1 + 1, 0, none⟩) 1 1) := by
  have o1 := own_sole ((w.alloc (.cells #[.slice Ao m co, .slice Ab m cb, .slice Af fn cf, .slice Ae en ce, .bool em] 205)).alloc (.cells #[.slice none 0 0, .slice none 0 0, .slice none 0 0] 201)) w.heap.size 51 #[.slice none 0 0] (by simp; omega)
  have o2 := own_sole (((w.alloc (.cells #[.slice Ao m co, .slice Ab m cb, .slice Af fn cf, .slice Ae en ce, .bool em] 205)).alloc (.cells #[.slice none 0 0, .slice none 0 0, .slice none 0 0] 201)).alloc (.cells #[.slice none 0 0] 51)) w.heap.size 4 #[.bool em] (by simp; omega)
  rw [show ((w.alloc (.cells #[.slice Ao m co, .slice Ab m cb, .slice Af fn cf, .slice Ae en ce, .bool em] 205)).alloc (.cells #[.slice none 0 0, .slice none 0 0, .slice none 0 0] 201)).heap.size = w.heap.size + 1 + 1 by simp] at o1
  rw [show (((w.alloc (.cells #[.slice Ao m co, .slice Ab m cb, .slice Af fn cf, .slice Ae en ce, .bool em] 205)).alloc (.cells #[.slice none 0 0, .slice none 0 0, .slice none 0 0] 201)).alloc (.cells #[.slice none 0 0] 51)).heap.size = w.heap.size + 1 + 1 + 1 by simp] at o2
  refine ⟨((((Bk.new w _ _).alloc _).alloc _).alloc _).alloc _, (((Bk.made _ _ (by simp)).alloc _).alloc _).alloc _, Bk.made _ _ (by simp), ⟨[.slice none 0 0], own_below (own_below o1 ((Below.refl _ _).alloc (Nat.le_refl _) _)) ((Below.refl _ _).alloc (Nat.le_refl _) _), fun u hu => ?_⟩, ⟨[], World.ownsRow_nil _ _ _ _⟩, ⟨_, own_below o2 ((Below.refl _ _).alloc (Nat.le_refl _) _)⟩, belowA⟩
  simp at hu; subst hu; exact NsIn.nil _ _ _
 generalize ((((w.alloc (.cells #[.slice Ao m co, .slice Ab m cb, .slice Af fn cf, .slice Ae en ce, .bool em] 205)).alloc (.cells #[.slice none 0 0, .slice none 0 0, .slice none 0 0] 201)).alloc (.cells #[.slice none 0 0] 51)).alloc (.cells #[.bool em] 4)).alloc (.cells #[.slice (some ⟨w.heap.size + 1 + 1, 0, none⟩) 1 1, .slice none 0 0, .slice (some ⟨w.heap.size + 1 + 1 + 1, 0, none⟩) 1 1] 201) = w0 at *
 generalize Value.slice (some ⟨w.heap.size + 1 + 1, 0, none⟩) 1 1 = sv0 at *
 generalize Value.slice (some ⟨w.heap.size + 1 + 1 + 1, 0, none⟩) 1 1 = av0 at *
 have HI0 := Lib.hid hI0
 clear hI0
 go_wp2
 go_loopw [5] (fun j wr => ∃ (k K : Nat) (sets nx ac : Value), k ≤ K ∧ 1 ≤ K ∧ K ≤ 200 ∧ j = .int .i64 k ∧ Hid (NI w wr m K K k #[.slice Ao m co, .slice Ab m cb, .slice Af fn cf, .slice Ae en ce, .bool em] sets nx ac)) (fun j _ => 201 - (intOf j).toNat)
 case atStart => exact ⟨0, 1, _, _, _, by omega, by omega, by omega, rfl, HI0⟩
 case round =>
  clear HI0
  obtain ⟨k, K, sets, nx, ac, hk, hK1, hK, rfl, hI⟩ := hrel
  obtain ⟨As, cs, rfl⟩ := hI.out.rs.form
  obtain ⟨t0, t1, t2⟩ := bk3 hI.out.t
  obtain ⟨n0, n1, n2, n3, n4⟩ := bk5 hI.out.n
  by_cases hlt : k < K
  ·have e3 : (k : Int) < K := by omega
   go_upto_region 6 with ((with_reducible refine wpList_store_all (wr.alloc (.cells zero32 261)) ?hg 261 (.tmp 6) (.tmp 23) ?ho wr.heap.size zero32 zero32 ?he ?hx (Bk.new wr _ _) sizer32z rfl zero32_one ?_); (case hg => rfl); (case ho => rfl); (case he => rfl); (case hx => rfl))
   obtain ⟨rb, hrb⟩ : ∃ rb, rb = wr.heap.size := ⟨_, rfl⟩
   have hI4 : NI w ((wr.alloc (.cells zero32 261)).setRow wr.heap.size zero32) m K K k #[.slice Ao m co, .slice Ab m cb, .slice Af fn cf, .slice Ae en ce, .bool em] (.slice As K cs) nx ac := by
    rw [World.setRow_alloc_new]
    exact hI.out.below ((Below.refl _ _).alloc (Nat.le_refl _) _)
   have kR4 : Bk ((wr.alloc (.cells zero32 261)).setRow wr.heap.size zero32) rb 261 zero32 := by
    rw [World.setRow_alloc_new, hrb]
    exact Bk.new wr _ _
   have hnx : ∀ g, nx.ownBlock = some g → g ≠ rb := fun g hg e => by
    obtain ⟨xs, hx⟩ := hI.out.rn
    have := own_lt hx g hg
    omega
   have HNX := Lib.hid hnx
   have hrl : w.heap.size ≤ rb := by have := hI.out.l.size; omega
   rw [← hrb] at hI4 kR4 ⊢
   generalize (wr.alloc (.cells zero32 261)).setRow rb zero32 = w4 at *
   have hI4 := Lib.hid hI4
   clear hrb n0 n1 n2 n3 n4 t0 t1 t2 hI hnx
   obtain ⟨n0, n1, n2, n3, n4⟩ := bk5 hI4.out.n
   have hbh := Lib.hid (behind8_any B w.heap.size m K (w.heap.size + 4) k _ _ _ _ _ _ _ em w4 (HV.out.below hI4.out.l) hm hI4.out.t hI4.out.rs (by omega) hlt)
   go_wp2_with (go_at_call 154; fail)
   refine hbh.out.mono ?_
   rintro e w5 ⟨vs, rfl, hvz, hvi, hb5⟩
   have hHSZ := Lib.hid (show (Tryz.prog.info? 262).map (·.size) = some vs.size by rw [hvz]; exact size32)
   have hNSZ := Lib.hid (show nil32.size = vs.size by rw [hvz]; rfl)
   have hone : vs.all (·.oneCell') = true := Array.all_eq_true_iff_forall_mem.2 fun u hu => by
    obtain ⟨j, hj⟩ := Array.mem_iff_getElem?.1 hu
    obtain ⟨A, c, cs, rfl, -⟩ := (hvi j u hj).form
    simp [Value.oneCell']
   go_upto_region 7 with ((with_reducible refine wpList_store_all (w5.alloc (.cells nil32 262)) ?hg 262 (.tmp 7) (.tmp 26) ?ho w5.heap.size nil32 vs ?he ?hx (Bk.new w5 _ _) hHSZ.out hNSZ.out hone ?_); (case hg => rfl); (case ho => rfl); (case he => rfl); (case hx => rfl))
   obtain ⟨ob, hob⟩ : ∃ ob, ob = w5.heap.size := ⟨_, rfl⟩
   have hI6 : NI w ((w5.alloc (.cells nil32 262)).setRow w5.heap.size vs) m K K k #[.slice Ao m co, .slice Ab m cb, .slice Af fn cf, .slice Ae en ce, .bool em] (.slice As K cs) nx ac := by
    rw [World.setRow_alloc_new]
    exact (hI4.out.below hb5).below ((Below.refl _ _).alloc (Nat.le_refl _) _)
   have hR6 : RI w ((w5.alloc (.cells nil32 262)).setRow w5.heap.size vs) m rb ob zero32 vs := by
    rw [World.setRow_alloc_new, hob]
    have hba : Below w5.heap.size w5 (w5.alloc (.cells vs 262)) := (Below.refl _ _).alloc (Nat.le_refl _) _
    exact ⟨(kR4.ext hb5).ext hba, zero32_is, Bk.new w5 _ _, hvz, fun s u hu => ((hvi s u hu).mono (Nat.le_refl _) hI4.out.l.size).below hba⟩
   rw [← hob] at hI6 hR6 ⊢
   generalize (w5.alloc (.cells nil32 262)).setRow ob vs = w6 at *
   have hI6 := Lib.hid hI6
   have hR6 := Lib.hid hR6
   clear hob n0 n1 n2 n3 n4 hI4 kR4 hbh hvi hb5 hone hHSZ hNSZ
   go_wp2
   go_loopw [8] (fun j wr => ∃ (s KK : Nat) (sets ac : Value) (cs : Array Value), s ≤ 32 ∧ k < KK ∧ KK ≤ 200 + s ∧ j = .int .i64 s ∧ Hid (NI w wr m KK KK k #[.slice Ao m co, .slice Ab m cb, .slice Af fn cf, .slice Ae en ce, .bool em] sets nx ac) ∧ Hid (RI w wr m rb ob cs vs)) (fun j _ => 32 - (intOf j).toNat)
   case atStart => exact ⟨0, K, _, _, _, by omega, hlt, by omega, rfl, hI6, hR6⟩
   case round =>
    clear hI6 hR6
    obtain ⟨s, KK, sets, ac, cs, hs, hkK, hKK, rfl, hI, hR⟩ := hrel
    rename World => wr
    obtain ⟨As, cas, rfl⟩ := hI.out.rs.form
    obtain ⟨t0, t1, t2⟩ := bk3 hI.out.t
    have tf := hI.out.t.frozen; have tl := def_lt' hI.out.t
    by_cases h32 : s < 32
    ·have e6 : (s : Int) < 32 := by omega
     have s0 : (0 : Int) ≤ s := by omega
     obtain ⟨v, hv⟩ : ∃ v, vs[s]? = some v := ⟨_, Array.getElem?_eq_getElem (by have := hR.out.sz; omega)⟩
     have hvi := hR.out.ni s v hv
     obtain ⟨Av, cv, lv, rfl, hlv, -, -⟩ := hvi.form
     obtain ⟨vn, hvn⟩ : ∃ vn, vn = lv.length := ⟨_, rfl⟩
     have hvl := hlv.len
     rw [← hvn] at hv hvi hvl
     have hvc : wr.cell? ⟨ob, s, none⟩ = some (.slice Av vn cv) := by rw [hR.out.ob.cell]; exact hv
     have HVI := Lib.hid hvi
     clear hvi hlv hvn
     obtain ⟨rx, hrx⟩ := hR.out.is.2 s h32
     have hrc : wr.cell? ⟨rb, s, none⟩ = some (.int .i64 rx) := by rw [hR.out.rb.cell]; exact hrx
     have rf := hR.out.rb.frozen; have rl := def_lt' hR.out.rb
     by_cases hz : vn = 0
     ·subst hz
      go_wp2
      go_roundw
      case rel => exact ⟨s + 1, KK, _, _, _, by omega, hkK, by omega, by go_num, Lib.hid (hI.out.putR hR.out.rb hrl HNX.out), Lib.hid (hR.out.put (-1))⟩
      case measure => simp [intOf]; omega
     ·have e7 : (0 : Int) < vn := by omega
      have hfd := Lib.hid (find8_any w.heap.size KK (w.heap.size + 4) w.heap.size m _ _ _ _ wr hI.out.t (by have := hI.out.rs; exact this.mono hm) (by omega) (by omega) HVI.out (by omega))
      go_wp2_with (go_at_call 155; fail)
      refine hfd.out.mono ?_
      rintro e w7 ⟨r, rfl, hr1, hr2, hb7⟩
      have hI7 := Lib.hid (hI.out.below hb7)
      have hR7 := Lib.hid (hR.out.below hb7)
      have hv7 := HVI.out.below hb7
      clear t0 t1 t2 tf tl hvc hrc rf rl
      have rf := hR7.out.rb.frozen; have rl := def_lt' hR7.out.rb
      have hrc : w7.cell? ⟨rb, s, none⟩ = some (.int .i64 rx) := by rw [hR7.out.rb.cell]; exact hrx
      by_cases hneg : r < 0
      ·have hz7 := hI7.out.l.size
       obtain ⟨ss, hs1, hs2⟩ := id hI7.out.rs
       obtain ⟨t0, t1, t2⟩ := bk3 hI7.out.t
       have tf := hI7.out.t.frozen; have tl := def_lt' hI7.out.t
       go_upto_region 17 with (at_builtin; ((refine app_one Tryz.underlying198 info_li rfl (by decide) w7 w.heap.size _ KK ss hs1 (by unfold maxLen; omega) (by omega) (by omega) _ rfl (by simp [Value.oneCell']) rfl _ _ rfl rfl rfl ?_); intro g8 cap8 w8 hown8 hgr8 hat8 hlt8; have hs8 : Sti (fun i => (Value.slice As KK cas).ownBlock = some i) w7 w8 := Sti.of_gr hgr8 (fun i h => h); have kt8 := hs8.bk hI7.out.t (own_ne hs1 hI7.out.t (by decide)); have tf8 := kt8.frozen; have tl8 := def_lt' kt8; obtain ⟨u0, u1, u2⟩ := bk3 kt8))
       have hI9 := hI7.out.pushS hs1 hs2 hv7 hgr8 hown8
       have hR9 := (hR7.out.sti hs8 (own_row_ty hs1) (by decide) (by decide) (by decide)).set_ kt8 (i := 0) (by decide) (by decide) (by decide) (.slice (some ⟨g8, 0, none⟩) (KK + 1) cap8)
       have hv9 := (hs8.ns hv7 (fun g hg h0 => hv7.ne_row hs1 (by decide) g h0 hg)).put kt8 (i := 0) (by decide) (.slice (some ⟨g8, 0, none⟩) (KK + 1) cap8)
       generalize w8.setCell ⟨w.heap.size + 4, 0, none⟩ (.slice (some ⟨g8, 0, none⟩) (KK + 1) cap8) = w9 at *
       have hI9 := Lib.hid hI9
       have hR9 := Lib.hid hR9
       clear t0 t1 t2 tf tl u0 u1 u2 tf8 tl8 kt8 hs8 hat8 hgr8 hown8 hs1 hs2 hI7 hR7 hrc rf rl
       obtain ⟨ys, ha⟩ := hI9.out.ra
       obtain ⟨Aa, ca, rfl, -, -, -, -⟩ := own_form ha
       have HA := Lib.hid ha
       have hF : ∀ W, (Bk W (w.heap.size + 4) 201 #[.slice (some ⟨g8, 0, none⟩) (KK + 1) cap8, nx, .slice Aa KK ca] ∧ Bk W w.heap.size 205 #[.slice Ao m co, .slice Ab m cb, .slice Af fn cf, .slice Ae en ce, .bool em]) → W.cell? ⟨w.heap.size + 4, 2, none⟩ = some (.slice Aa KK ca) ∧ W.cell? ⟨w.heap.size, 3, none⟩ = some (.slice Ae en ce) := fun W h => ⟨h.1.cell 2, h.2.cell 3⟩
       have HF := Lib.hid hF
       have htw : ∀ W, Below w9.heap.size w9 W → Calls Tryz.prog 156 #[.slice Av vn cv, .slice Ae en ce, .int .i64 1] W (NsOut 256 W) := fun W hb => by
        obtain ⟨A', c', l', e', hl', hr', -⟩ := (hv9.below hb).form
        have hll := hl'.len
        injection e' with e1 e2 e3
        rw [← e2] at hr' hll
        rw [← e1] at hr'
        exact two3_any Av Ae vn cv en ce _ _ W hr'.to_is (by unfold maxLen; omega) ((HRE.out.below (hI9.out.l.trans (hb.mono hI9.out.l.size))).more (Nat.le_trans hI9.out.l.size hb.size)) (by unfold maxLen; omega)
       have htw := Lib.hid htw
       clear hF ha hv9
       refine wp_normal ?_
       refine region_L (S := fun W => Bk W (w.heap.size + 4) 201 #[.slice (some ⟨g8, 0, none⟩) (KK + 1) cap8, nx, .slice Aa KK ca] ∧ Bk W w.heap.size 205 #[.slice Ao m co, .slice Ab m cb, .slice Af fn cf, .slice Ae en ce, .bool em]) [11] (by kernel_rfl) ⟨hI9.out.t.drew, hI9.out.n.drew⟩ (fun hHeld => ?_)
       (refine tkL 0 ?_; refine tkL 1 ?_; refine tkL 2 ?_; refine tkL 3 ?_; refine tkL 4 ?_)
       refine nxL 5 (fun K hK => ?_)
       go_simp
       go_at_call 156
       refine (htw.out _ (Below.refl _ _).drew).mono ?_
       rintro e w10 ⟨v10, rfl, hv10, hb10'⟩
       have hb10 : Below w9.heap.size w9 w10 := Below.trans (Below.refl _ _).drew hb10'
       obtain ⟨A10, c10, l10, rfl, -, -, -⟩ := hv10.form
       generalize l10.length = n10 at *
       have hI10 := Lib.hid (hI9.out.below hb10)
       have hR10 := Lib.hid (hR9.out.below hb10)
       have hA10 := own_below HA.out hb10
       clear hv10 hb10' htw
       refine hK.out _ _ ⟨hI10.out.t, hI10.out.n⟩ (fun hHeld => ?_)
       clear hK K; refine puL ?_
       (refine tkL 6 ?_; refine tkL 7 ?_)
       refine nxL 8 (fun K hK => ?_)
       go_simp
       refine hK.out _ _ ⟨hI10.out.t.alloc _, hI10.out.n.alloc _⟩ (fun hHeld => ?_)
       clear hK K; refine puL ?_
       have hbA : Below w10.heap.size w10 (w10.alloc (.cells #[.bool (decide (0 < n10))] 4)) := belowA
       have kA := Bk.new w10 4 #[.bool (decide (0 < n10))]
       generalize w10.alloc (.cells #[.bool (decide (0 < n10))] 4) = wA at *
       have hIA := Lib.hid (hI10.out.below hbA)
       have hRA := Lib.hid (hR10.out.below hbA)
       have hAA := own_below hA10 hbA
       have hzA := hIA.out.l.size
       have hz10 := hbA.size
       refine nxL 9 (fun K hK => ?_)
       refine app_at_step Tryz.underlying29 info_b rfl (by decide) w.heap.size _ KK ys hAA (by unfold maxLen; omega) (by omega) (by omega) w10.heap.size #[.bool (decide (0 < n10))] kA rfl (by simp [Value.oneCell']) rfl _ _ rfl rfl rfl ?_
       intro g12 cap12 w12 hown12 hgr12 hat12 hlt12
       have hs12 : Sti (fun i => (Value.slice Aa KK ca).ownBlock = some i) wA w12 := Sti.of_gr hgr12 (fun i h => h)
       have kt12 := hs12.bk hIA.out.t (own_ne hAA hIA.out.t (by decide))
       have kn12 := hs12.bk hIA.out.n (own_ne hAA hIA.out.n (by decide))
       have hI13 := Lib.hid (hIA.out.pushA hAA hgr12 hown12)
       have hR13 := Lib.hid ((hRA.out.sti hs12 (own_row_ty hAA) (by decide) (by decide) (by decide)).set_ kt12 (i := 2) (by decide) (by decide) (by decide) (.slice (some ⟨g12, 0, none⟩) (KK + 1) cap12))
       have n2 := kt12.cell 2
       have nf := kt12.frozen; have nl := def_lt' kt12
       dsimp at n2
       refine hK.out _ _ ⟨kt12, kn12⟩ (fun hHeld => ?_)
       clear hK K; refine puL ?_
       (refine tkL 10 ?_)
       refine ltL 11 (fun K hK => ?_)
       go_simp
       refine hK.out _ _ ?_
       refine anyL_done (by kernel_rfl) ?_
       clear n2 nf nl kt12 kn12 hs12 hown12 hgr12 hat12 hHeld hIA hRA hAA hA10 kA HF hI10 hR10 hI9 hR9 hbA HA
       generalize w12.setCell ⟨w.heap.size + 4, 2, none⟩ (.slice (some ⟨g12, 0, none⟩) (KK + 1) cap12) = w13 at *
       have rf := hR13.out.rb.frozen; have rl := def_lt' hR13.out.rb
       have hrc : w13.cell? ⟨rb, s, none⟩ = some (.int .i64 rx) := by rw [hR13.out.rb.cell]; exact hrx
       go_wp2
       go_roundw
       case rel => exact ⟨s + 1, KK + 1, _, _, _, by omega, by omega, by omega, by go_num, Lib.hid (hI13.out.putR hR13.out.rb hrl HNX.out), Lib.hid (hR13.out.put KK)⟩
       case measure => simp [intOf]; omega
      ·go_wp2
       go_roundw
       case rel => exact ⟨s + 1, KK, _, _, _, by omega, hkK, by omega, by go_num, Lib.hid (hI7.out.putR hR7.out.rb hrl HNX.out), Lib.hid (hR7.out.put r)⟩
       case measure => simp [intOf]; omega
    ·obtain rfl : s = 32 := by omega
     obtain ⟨xs, hn⟩ := hI.out.rn
     obtain ⟨An, cn, rfl, -, -, -, -⟩ := own_form hn
     have hzw := hI.out.l.size
     have hSZ := Lib.hid (show (Tryz.prog.info? 261).map (·.size) = some cs.size by rw [hR.out.is.1]; exact sizer32)
     have hone := Lib.hid (fun u (hu : u ∈ cs.toList) => (Array.all_eq_true_iff_forall_mem.1 hR.out.is.one) u (by simpa using hu))
     have hcz := Lib.hid hR.out.is.1
     have HN := Lib.hid hn
     clear hn
     go_upto_region 20 with (first | ((with_reducible refine wpList_load_all wr ?hg 261 (.tmp 6) ?ho rb cs ?he hR.out.rb 32 3 Tryz.underlying261 hSZ.out ?_); (case hg => rfl); (case ho => rfl); (case he => rfl)) | ((with_reducible refine wpList_build_row wr ?hg (.tmp 66) ?ho cs ?hx hcz.out ?_); (case hg => rfl); (case ho => rfl); (case hx => rfl)) | (at_builtin; ((refine app_one Tryz.underlying199 info_r32 rfl (by decide) wr w.heap.size _ k xs HN.out (by unfold maxLen; omega) (by omega) hzw cs hcz.out hone.out rfl _ _ rfl rfl rfl ?_); intro g8 cap8 w8 hown8 hgr8 hat8 hlt8; have hs8 : Sti (fun i => (Value.slice An k cn).ownBlock = some i) wr w8 := Sti.of_gr hgr8 (fun i h => h); have kt8 := hs8.bk hI.out.t (own_ne HN.out hI.out.t (by decide)); have tf8 := kt8.frozen; have tl8 := def_lt' kt8; obtain ⟨u0, u1, u2⟩ := bk3 kt8)))
     have hI9 := hI.out.pushN HN.out hgr8 hown8
     generalize w8.setCell ⟨w.heap.size + 4, 1, none⟩ (.slice (some ⟨g8, 0, none⟩) (k + 1) cap8) = w9 at *
     have hI9 := Lib.hid hI9
     clear t0 t1 t2 tf tl u0 u1 u2 tf8 tl8 kt8 hs8 hat8 hgr8 hown8 hI hR HNX
     obtain ⟨t0, t1, t2⟩ := bk3 hI9.out.t
     obtain ⟨r0, r1, r2⟩ := bk3 hI9.out.r
     have rf := hI9.out.r.frozen; have rl := def_lt' hI9.out.r
     by_cases hbig : 200 < KK
     ·have e8 : (200 : Int) < KK := by omega
      have hL2 := set3_bk hI9.out.r (.slice none 0 0) (.slice none 0 0) (.slice none 0 0)
      have hL1 := set3_below (b := w.heap.size + 1) hI9.out.l (by omega) (.slice none 0 0) (.slice none 0 0) (.slice none 0 0)
      unfold set3 at hL1 hL2
      have HE := Lib.hid (And.intro hL2 (show New8Out w (.returned (.tuple #[.agg #[.slice none 0 0, .slice none 0 0, .slice none 0 0], .bool false])) _ from ⟨_, _, _, _, _, _, _, _, _, _, rfl, hL1⟩))
      clear hL1 hL2
      go_wp2
      obtain ⟨z0, z1, z2⟩ := bk3 HE.out.1
      exact bodyPost_ret (v := .tuple #[.agg #[.slice none 0 0, .slice none 0 0, .slice none 0 0], .bool false]) (by simp [results, Tryz.results105, go_sem, z0, z1, z2]) rfl HE.out.2
     ·have e8 : ¬ (200 : Int) < KK := by omega
      go_wp2
      go_roundw
      case rel => exact ⟨k + 1, KK, _, _, _, by omega, by omega, by omega, by go_num, hI9⟩
      case measure => simp [intOf]; omega
  ·obtain rfl : k = K := by omega
   obtain ⟨xs, hn⟩ := hI.out.rn
   obtain ⟨An, cn, rfl, -, -, -, -⟩ := own_form hn
   obtain ⟨ys, ha⟩ := hI.out.ra
   obtain ⟨Aa, ca, rfl, -, -, -, -⟩ := own_form ha
   obtain ⟨r0, r1, r2⟩ := bk3 hI.out.r
   have rf := hI.out.r.frozen; have rl := def_lt' hI.out.r
   have hL2 := set3_bk hI.out.r (.slice As k cs) (.slice An k cn) (.slice Aa k ca)
   have hL1 := set3_below (b := w.heap.size + 1) hI.out.l (by omega) (.slice As k cs) (.slice An k cn) (.slice Aa k ca)
   unfold set3 at hL1 hL2
   have HE := Lib.hid (And.intro hL2 (show New8Out w (.returned (.tuple #[.agg #[.slice As k cs, .slice An k cn, .slice Aa k ca], .bool true])) _ from ⟨_, _, _, _, _, _, _, _, _, _, rfl, hL1⟩))
   clear hL1 hL2 hn ha
   go_wp2
   obtain ⟨z0, z1, z2⟩ := bk3 HE.out.1
   exact bodyPost_ret (v := .tuple #[.agg #[.slice As k cs, .slice An k cn, .slice Aa k ca], .bool true]) (by simp [results, Tryz.results105, go_sem, z0, z1, z2]) rfl HE.out.2
def NodeOut11 (n : Nat) (l : List Pt) (w : World) (e : Ending) (w' : World) : Prop := ∃ (b : Bool) (er : Int), e = .returned (.tuple #[.bool b, .int .i64 er]) ∧ (er = 0 → 0 < n → mn l (n - 1) ≤ 256) ∧ Below w.heap.size w w'
def ManyO (y : Nat) (w : World) (e : Ending) (w' : World) : Prop := e = .returned (.int .i64 (y : Int)) ∧ Below w.heap.size w w'
section
variable (base : Nat) (nv mv : Value) (ns : List Nd) (ms : List Mr) (PA TA EA : Option Addr) (pn pc tn tc en ec : Nat) (w : World)
theorem node11s_any (pb n c mb xc : Nat) (A XA : Option Addr) (l : List Pt) (mg : List Mg) (hD : DeclIn w base nv mv ns ms) (hp : Parts w pb (.slice A n c) n l) (hn : n ≤ 1000) (hg : MgsIn w mb (.slice XA mg.length xc) mg) (hgl : mg.length ≤ 100000) : Calls Tryz.prog 51 #[.agg #[nv, mv, .slice PA pn pc, .slice TA tn tc, .slice EA en ec], .slice A n c, .slice XA mg.length xc] w (NodeOut11 n l w) := by
 obtain ⟨NA, nc, rfl, -, -, -, -⟩ := own_form hD.n
 obtain ⟨MA, mc, rfl, -, -, -, -⟩ := own_form hD.m
 have hil := fun t W (hb : Below w.heap.size w W) => inline_any base _ _ ns ms PA TA EA pn pc tn tc en ec W t (hD.below hb)
 have HIL := Lib.hid hil
 have hma : 0 < n → ∀ W, Below w.heap.size w W → Calls Tryz.prog 104 #[.slice A n c, .int .i64 ((n : Int) - 1)] W (ManyO (min (mn l (n - 1)) 257) W) := fun h0 W hb => by
  have h := many_all n c A l n (n - 1) (by omega) pb W (hp.below hb) (by omega) hn
  rwa [show (((n - 1 : Nat) : Int)) = (n : Int) - 1 by omega] at h
 have HMA := Lib.hid hma
 have hof := fun (h0 : 0 < n → mn l (n - 1) ≤ 256) W (hb : Below w.heap.size w W) => of7_any pb n c mb xc A XA l mg W (hp.below hb) hn (hg.below hb) hgl h0
 have HOF := Lib.hid hof
 have HG := Lib.hid hg
 clear hil hma hof hD hp hg
 obtain ⟨gl, hgl2⟩ : ∃ gl, gl = mg.length := ⟨_, rfl⟩
 rw [← hgl2] at hgl HG HOF ⊢
 have HGL := Lib.hid hgl2
 clear hgl2
 go_enter Tryz.func51, Tryz.ntmps51
 go_upto_region 1 with fail
 have ks := Bk.new w 32 #[.slice NA ns.length nc, .slice MA ms.length mc, .slice PA pn pc, .slice TA tn tc, .slice EA en ec]
 have hb0 : Below w.heap.size w (w.alloc (.cells #[.slice NA ns.length nc, .slice MA ms.length mc, .slice PA pn pc, .slice TA tn tc, .slice EA en ec] 32)) := belowA
 generalize w.alloc (.cells #[.slice NA ns.length nc, .slice MA ms.length mc, .slice PA pn pc, .slice TA tn tc, .slice EA en ec] 32) = w0 at *
 go_wp2
 go_loopw [8, 9, 10] (fun u v j wr => ∃ (k : Nat) (x y : Bool), k ≤ gl ∧ j = .int .i64 k ∧ u = .bool x ∧ v = .bool y ∧ Below w.heap.size w wr ∧ Bk wr w.heap.size 32 #[.slice NA ns.length nc, .slice MA ms.length mc, .slice PA pn pc, .slice TA tn tc, .slice EA en ec]) (fun _ _ j _ => gl - (intOf j).toNat)
 case atStart => exact ⟨0, false, false, by omega, rfl, rfl, rfl, hb0, ks⟩
 case round =>
  clear hb0 ks
  obtain ⟨k, x, y, hk, rfl, rfl, rfl, hbo, kso⟩ := hrel
  rename World => wo
  by_cases hlt : k < gl
  ·have e3 : (k : Int) < gl := by omega
   obtain ⟨p, hp⟩ : ∃ p, mg[k]? = some p := ⟨_, List.getElem?_eq_getElem (by have := HGL.out; omega)⟩
   have hpo := HG.out.own p (List.mem_of_getElem? hp)
   have hpl := HG.out.ol p (List.mem_of_getElem? hp)
   obtain ⟨b, o, rfl, hb, -, c1⟩ := HG.out.at_ hp
   obtain ⟨Ap, cp, ep, -, -, -, hr⟩ := own_form hpo
   rw [ep] at c1
   obtain ⟨zn, hzn⟩ : ∃ zn, zn = p.on.length := ⟨_, rfl⟩
   rw [← hzn] at hr hpl c1
   have HC := Lib.hid c1
   have HR := Lib.hid hr
   have d1 := (hbo.cell (p := ⟨b, o + k * 2 + 1, none⟩) hb).trans c1
   clear hp hpo c1 hr ep hzn
   by_cases hz : zn = 0
   ·have e4 : ((zn : Int) == 0) = true := by rw [beq_iff_eq]; omega
    go_wp2
    go_ret2
    exact ⟨_, _, rfl, (fun h => by omega), hbo⟩
   have e4 : ((zn : Int) == 0) = false := beq_false_of_ne (by omega)
   go_wp2
   clear d1
   go_loopw [8, 9, 11] (fun u v j wr => ∃ (q : Nat) (x y : Bool), q ≤ zn ∧ j = .int .i64 q ∧ u = .bool x ∧ v = .bool y ∧ Below w.heap.size w wr ∧ Bk wr w.heap.size 32 #[.slice NA ns.length nc, .slice MA ms.length mc, .slice PA pn pc, .slice TA tn tc, .slice EA en ec]) (fun _ _ j _ => zn - (intOf j).toNat)
   case atStart => exact ⟨0, x, y, by omega, rfl, rfl, rfl, hbo, kso⟩
   case round =>
    clear hbo kso
    obtain ⟨q, x, y, hq, rfl, rfl, rfl, hbr, ksr⟩ := hrel
    rename World => wr
    have d1 := (hbr.cell (p := ⟨b, o + k * 2 + 1, none⟩) hb).trans HC.out
    by_cases hql : q < zn
    ·have e5 : (q : Int) < zn := by omega
     obtain ⟨zb, zo, z, rfl, hzb, -, hzc⟩ := HR.out.is_at hql
     have hF : ∀ W, (Below w.heap.size w W ∧ Bk W w.heap.size 32 #[.slice NA ns.length nc, .slice MA ms.length mc, .slice PA pn pc, .slice TA tn tc, .slice EA en ec]) → (W.cell? ⟨w.heap.size, 0, none⟩ = some (.slice NA ns.length nc) ∧ W.cell? ⟨w.heap.size, 1, none⟩ = some (.slice MA ms.length mc) ∧ W.cell? ⟨w.heap.size, 2, none⟩ = some (.slice PA pn pc) ∧ W.cell? ⟨w.heap.size, 3, none⟩ = some (.slice TA tn tc) ∧ W.cell? ⟨w.heap.size, 4, none⟩ = some (.slice EA en ec)) ∧ W.cell? ⟨b, o + k * 2 + 1, none⟩ = some (.slice (some ⟨zb, zo, none⟩) zn cp) ∧ W.cell? ⟨zb, zo + q, none⟩ = some (.int .i64 z) := fun W h => ⟨bk5 h.2, (h.1.cell (p := ⟨b, o + k * 2 + 1, none⟩) hb).trans HC.out, (h.1.cell (p := ⟨zb, zo + q, none⟩) hzb).trans hzc⟩
     have HF := Lib.hid hF
     clear hF
     go_upto_region 11 with fail
     clear d1 hzc
     refine wp_normal ?_
     refine wp_region_held_drew (S := fun W => Below w.heap.size w W ∧ Bk W w.heap.size 32 #[.slice NA ns.length nc, .slice MA ms.length mc, .slice PA pn pc, .slice TA tn tc, .slice EA en ec]) (by kernel_rfl) ⟨hbr.drew, ksr.drew⟩ (fun hHeld => ?_)
     clear hbr ksr
     cases x with
     | true =>
       (refine tkH 0 ?_; refine tkH 1 ?_; refine tnH 2 ?_; refine tnH 3 ?_; refine tnH 4 ?_; refine tnH 5 ?_; refine tnH 6 ?_; refine tnH 7 ?_; refine tnH 8 ?_; refine tnH 9 ?_; refine tnH 10 ?_; refine tnH 11 ?_; refine tkH 12 ?_; refine tkH 13 ?_)
       refine wpAnyH_done (by kernel_rfl) ?_ _
       go_upto_region 12 with fail
       refine wp_normal ?_
       refine wp_region_held_drew (S := fun W => Below w.heap.size w W ∧ Bk W w.heap.size 32 #[.slice NA ns.length nc, .slice MA ms.length mc, .slice PA pn pc, .slice TA tn tc, .slice EA en ec]) (by kernel_rfl) ⟨hHeld.1.drew, hHeld.2.drew⟩ (fun hHeld => ?_)
       cases y with
       | true =>
         (refine tkH 0 ?_; refine tkH 1 ?_; refine tnH 2 ?_; refine tnH 3 ?_; refine tnH 4 ?_; refine tnH 5 ?_; refine tnH 6 ?_; refine tnH 7 ?_; refine tnH 8 ?_; refine tnH 9 ?_; refine tnH 10 ?_; refine tnH 11 ?_; refine tnH 12 ?_; refine tkH 13 ?_; refine tkH 14 ?_)
         refine wpAnyH_done (by kernel_rfl) ?_ _
         go_wp2
         go_roundw
         case rel => exact ⟨q + 1, true, true, by omega, by go_num, rfl, rfl, hHeld⟩
         case measure => simp [intOf]; omega
       | false =>
         (refine tkH 0 ?_; refine tkH 1 ?_; refine tkH 2 ?_; refine tkH 3 ?_; refine tkH 4 ?_; refine tkH 5 ?_; refine tkH 6 ?_; refine tkH 7 ?_; refine tkH 8 ?_; refine tkH 9 ?_; refine tkH 10 ?_)
         refine nxH 11 (fun K hK => ?_)
         go_simp
         go_at_call 103
         refine (HIL.out z _ hHeld.1).mono ?_
         rintro e w6 ⟨⟨b6, rfl⟩, hb6⟩
         refine hK.out _ _ ⟨hHeld.1.trans (hb6.mono hHeld.1.size), hHeld.2.ext hb6⟩ (fun hHeld => ?_)
         clear hK K; refine puH ?_
         (refine tkH 12 ?_; refine tkH 13 ?_; refine tkH 14 ?_)
         refine wpAnyH_done (by kernel_rfl) ?_ _
         go_wp2
         go_roundw
         case rel => exact ⟨q + 1, true, _, by omega, by go_num, rfl, rfl, hHeld⟩
         case measure => simp [intOf]; omega
     | false =>
       (refine tkH 0 ?_; refine tkH 1 ?_; refine tkH 2 ?_; refine tkH 3 ?_; refine tkH 4 ?_; refine tkH 5 ?_; refine tkH 6 ?_; refine tkH 7 ?_; refine tkH 8 ?_; refine tkH 9 ?_; refine tkH 10 ?_)
       refine nxH 11 (fun K hK => ?_)
       go_simp
       go_at_call 103
       refine (HIL.out z _ hHeld.1).mono ?_
       rintro e w5 ⟨⟨b5, rfl⟩, hb5⟩
       refine hK.out _ _ ⟨hHeld.1.trans (hb5.mono hHeld.1.size), hHeld.2.ext hb5⟩ (fun hHeld => ?_)
       clear hK K; refine puH ?_
       (refine tkH 12 ?_; refine tkH 13 ?_)
       refine wpAnyH_done (by kernel_rfl) ?_ _
       go_upto_region 12 with fail
       refine wp_normal ?_
       refine wp_region_held_drew (S := fun W => Below w.heap.size w W ∧ Bk W w.heap.size 32 #[.slice NA ns.length nc, .slice MA ms.length mc, .slice PA pn pc, .slice TA tn tc, .slice EA en ec]) (by kernel_rfl) ⟨hHeld.1.drew, hHeld.2.drew⟩ (fun hHeld => ?_)
       cases y with
       | true =>
         (refine tkH 0 ?_; refine tkH 1 ?_; refine tnH 2 ?_; refine tnH 3 ?_; refine tnH 4 ?_; refine tnH 5 ?_; refine tnH 6 ?_; refine tnH 7 ?_; refine tnH 8 ?_; refine tnH 9 ?_; refine tnH 10 ?_; refine tnH 11 ?_; refine tnH 12 ?_; refine tkH 13 ?_; refine tkH 14 ?_)
         refine wpAnyH_done (by kernel_rfl) ?_ _
         go_wp2
         go_roundw
         case rel => exact ⟨q + 1, b5, true, by omega, by go_num, rfl, rfl, hHeld⟩
         case measure => simp [intOf]; omega
       | false =>
         (refine tkH 0 ?_; refine tkH 1 ?_; refine tkH 2 ?_; refine tkH 3 ?_; refine tkH 4 ?_; refine tkH 5 ?_; refine tkH 6 ?_; refine tkH 7 ?_; refine tkH 8 ?_; refine tkH 9 ?_; refine tkH 10 ?_)
         refine nxH 11 (fun K hK => ?_)
         go_simp
         go_at_call 103
         refine (HIL.out z _ hHeld.1).mono ?_
         rintro e w6 ⟨⟨b6, rfl⟩, hb6⟩
         refine hK.out _ _ ⟨hHeld.1.trans (hb6.mono hHeld.1.size), hHeld.2.ext hb6⟩ (fun hHeld => ?_)
         clear hK K; refine puH ?_
         (refine tkH 12 ?_; refine tkH 13 ?_; refine tkH 14 ?_)
         refine wpAnyH_done (by kernel_rfl) ?_ _
         go_wp2
         go_roundw
         case rel => exact ⟨q + 1, b5, _, by omega, by go_num, rfl, rfl, hHeld⟩
         case measure => simp [intOf]; omega
    ·obtain rfl : q = zn := by omega
     go_wp2
     go_roundw
     case rel => exact ⟨k + 1, x, y, by omega, by go_num, rfl, rfl, hbr, ksr⟩
     case measure => simp [intOf]; omega
  ·obtain rfl : k = gl := by omega
   cases hxy : (x && y) with
   | true =>
     have ex : x = true := by cases x <;> simp_all
     have ey : y = true := by cases y <;> simp_all
     subst ex
     subst ey
     clear hxy
     go_wp2
     go_ret2
     exact ⟨_, _, rfl, (fun h => by omega), hbo⟩
   | false =>
     cases x <;> cases y <;> (try (simp at hxy; done))
     all_goals
      clear hxy
      by_cases h0 : 0 < n
      ·have n0 : (0 : Int) < n := by omega
       obtain ⟨s0, s1, s2, s3, s4⟩ := bk5 kso
       go_wp2_with (go_at_call 104; fail)
       refine (HMA.out h0 _ hbo).mono ?_
       rintro e w5 ⟨rfl, hb5⟩
       have hbo5 := hbo.trans (hb5.mono hbo.size)
       obtain ⟨Y, hY⟩ : ∃ Y, Y = min (mn l (n - 1)) 257 := ⟨_, rfl⟩
       rw [← hY]
       have HY := Lib.hid hY
       clear hY s0 s1 s2 s3 s4
       by_cases hbig : 256 < Y
       ·have e7 : (256 : Int) < Y := by omega
        go_wp2
        go_ret2
        exact ⟨_, _, rfl, (fun h => by omega), hbo5⟩
       ·have e7 : ¬ (256 : Int) < Y := by omega
        have hm := Lib.hid (show 0 < n → mn l (n - 1) ≤ 256 from fun _ => by have := HY.out; omega)
        go_wp2_with (go_at_call 106; fail)
        refine (HOF.out hm.out _ hbo5).mono ?_
        rintro e w6 ⟨m, on, bh, f, e, em, rfl, hm256, hV, hb6⟩
        have hbo6 := hbo5.trans (hb6.mono hbo5.size)
        have hnw := Lib.hid (new8_any _ m _ _ _ _ em w6 hV hm256)
        clear hV
        go_wp2_with (go_at_call 105; fail)
        refine hnw.out.mono ?_
        rintro e w7 ⟨A0, A1, A2, z0, z1, z2, z3, z4, z5, b7, rfl, hb7⟩
        have hbo7 := hbo6.trans (hb7.mono hbo6.size); have hz7 := hbo7.size
        cases b7
        all_goals
         go_wp2
         go_ret2
         exact ⟨_, _, rfl, (fun _ => hm.out), belowA⟩
      ·have n0 : ¬ (0 : Int) < n := by omega
       have hm := Lib.hid (show 0 < n → mn l (n - 1) ≤ 256 from fun h => absurd h h0)
       have e0 : ((n : Int) == 0) = true := by rw [beq_iff_eq]; omega
       go_wp2_with (go_at_call 106; fail)
       refine (HOF.out hm.out _ hbo).mono ?_
       rintro e w6 ⟨m, on, bh, f, e, em, rfl, hm256, hV, hb6⟩
       have hbo6 := hbo.trans (hb6.mono hbo.size)
       have hnw := Lib.hid (new8_any _ m _ _ _ _ em w6 hV hm256)
       clear hV
       go_wp2_with (go_at_call 105; fail)
       refine hnw.out.mono ?_
       rintro e w7 ⟨A0, A1, A2, z0, z1, z2, z3, z4, z5, b7, rfl, hb7⟩
       have hbo7 := hbo6.trans (hb7.mono hbo6.size); have hz7 := hbo7.size
       cases b7
       all_goals
        go_wp2
        go_ret2
        exact ⟨_, _, rfl, (fun _ => hm.out), belowA⟩
end
section
variable {w w' : World} {Y : Nat → Prop} {T : TypeId}
theorem own_sti {base size n : Nat} {e : TypeId} {v : Value} {xs : List Value} (h : w.ownsRow base e size v n xs) (hs : Sti Y w w') (hY : ∀ i, Y i → ∃ cs, Bk w i T cs) (hne : e ≠ T) : w'.ownsRow base e size v n xs :=
 hs.own h (fun g hg y => by
  obtain ⟨cs, hc⟩ := hY g y
  obtain ⟨ds, hd⟩ := own_row_ty h g hg
  exact hne (hd.ty hc))
theorem bk_sti {b : Nat} {t : TypeId} {cs : Array Value} (h : Bk w b t cs) (hs : Sti Y w w') (hY : ∀ i, Y i → ∃ cs, Bk w i T cs) (hne : t ≠ T) : Bk w' b t cs :=
 hs.bk h (fun y => by obtain ⟨c, hc⟩ := hY _ y; exact hne (h.ty hc))
theorem DeclIn.sti {base : Nat} {nv mv : Value} {ns : List Nd} {ms : List Mr} (h : DeclIn w base nv mv ns ms) (hs : Sti Y w w') (hY : ∀ i, Y i → ∃ cs, Bk w i T cs) (h1 : 113 ≠ T) (h2 : 183 ≠ T) (h3 : 9 ≠ T) : DeclIn w' base nv mv ns ms :=
 ⟨own_sti h.n hs hY h1, h.nl, own_sti h.m hs hY h2, h.ml, fun p hp => ⟨own_sti (h.ni p hp).g hs hY h3, (h.ni p hp).gl, own_sti (h.ni p hp).m hs hY h3, (h.ni p hp).ml, (h.ni p hp).ex⟩, fun p hp => ⟨own_sti (h.mi p hp).b hs hY h3, (h.mi p hp).bl⟩⟩
theorem Parts.sti {base k : Nat} {v : Value} {l : List Pt} (h : Parts w base v k l) (hs : Sti Y w w') (hY : ∀ i, Y i → ∃ cs, Bk w i T cs) (h1 : 192 ≠ T) (h2 : 3 ≠ T) : Parts w' base v k l :=
 ⟨own_sti h.row hs hY h1, fun i p hp => own_sti (h.own i p hp) hs hY h2, h.ok, h.s⟩
theorem MgsIn.sti {base : Nat} {v : Value} {l : List Mg} (h : MgsIn w base v l) (hs : Sti Y w w') (hY : ∀ i, Y i → ∃ cs, Bk w i T cs) (h1 : 195 ≠ T) (h2 : 3 ≠ T) : MgsIn w' base v l :=
 ⟨own_sti h.row hs hY h1, fun p hp => own_sti (h.own p hp) hs hY h2, h.ol⟩
end
/-- a node's expression -/
structure Pe where
 v : Value
 n : Nat
 l : List Pt
/-- what is made of the lines: expressions, whether they have texts, what their names mean -/
structure SIn (w : World) (B : Nat) (pv tv ev : Value) (ps : List Pe) (tn : Nat) (mg : List Mg) : Prop where
 p : w.ownsRow B 108 1 pv ps.length (ps.map (·.v))
 pi : ∀ x ∈ ps, Parts w B x.v x.n x.l
 pn : ∀ x ∈ ps, x.n ≤ 1000 ∧ (0 < x.n → mn x.l (x.n - 1) ≤ 256)
 t : ∃ bs, w.ownsRow B 4 1 tv tn bs
 m : MgsIn w B ev mg
theorem info_lp : (Tryz.prog.info? 108).map (fun i => (i.zero, i.size, i.bytes)) = some (some (.slice none 0 0), 1, 24) := by kernel_rfl
section
variable {w w' : World} {B tn : Nat} {pv tv ev v' : Value} {ps : List Pe} {mg : List Mg} {Y : Nat → Prop} {T : TypeId}
theorem SIn.nil (w : World) (B : Nat) : SIn w B (.slice none 0 0) (.slice none 0 0) (.slice none 0 0) [] 0 [] := ⟨World.ownsRow_nil _ _ _ _, (fun x h => by cases h), (fun x h => by cases h), ⟨[], World.ownsRow_nil _ _ _ _⟩, MgsIn.nil _ _⟩
theorem SIn.below (h : SIn w B pv tv ev ps tn mg) (hb : Below w.heap.size w w') : SIn w' B pv tv ev ps tn mg := by
 obtain ⟨bs, ht⟩ := h.t
 exact ⟨own_below h.p hb, fun x hx => (h.pi x hx).below hb, h.pn, ⟨bs, own_below ht hb⟩, h.m.below hb⟩
theorem SIn.base_ {B' : Nat} (h : SIn w B pv tv ev ps tn mg) (hb : B' ≤ B) : SIn w B' pv tv ev ps tn mg := by
 obtain ⟨bs, ht⟩ := h.t
 exact ⟨own_base h.p hb, fun x hx => (h.pi x hx).base_ hb, h.pn, ⟨bs, own_base ht hb⟩, h.m.base_ hb⟩
theorem SIn.sti (h : SIn w B pv tv ev ps tn mg) (hs : Sti Y w w') (hY : ∀ i, Y i → ∃ cs, Bk w i T cs) (h1 : 108 ≠ T) (h2 : 192 ≠ T) (h3 : 3 ≠ T) (h4 : 4 ≠ T) (h5 : 195 ≠ T) : SIn w' B pv tv ev ps tn mg := by
 obtain ⟨bs, ht⟩ := h.t
 exact ⟨own_sti h.p hs hY h1, fun x hx => (h.pi x hx).sti hs hY h2 h3, h.pn, ⟨bs, own_sti ht hs hY h4⟩, h.m.sti hs hY h5 h3⟩
theorem SIn.pushP {x : Pe} (h : SIn w B pv tv ev ps tn mg) (hx : Parts w B x.v x.n x.l) (hn : x.n ≤ 1000 ∧ (0 < x.n → mn x.l (x.n - 1) ≤ 256)) (hg : w.grownBy w' pv.ownBlock) (ho : w'.ownsRow B 108 1 v' (ps.length + 1) (ps.map (·.v) ++ [x.v])) : SIn w' B v' tv ev (ps ++ [x]) tn mg := by
 obtain ⟨bs, ht⟩ := h.t
 have hs : Sti (fun i => pv.ownBlock = some i) w w' := Sti.of_gr hg (fun i h => h)
 have hY := own_row_ty h.p
 refine ⟨by rw [List.length_append, List.map_append]; exact ho, fun y hy => ?_, fun y hy => ?_, ⟨bs, own_sti ht hs hY (by decide)⟩, h.m.sti hs hY (by decide) (by decide)⟩
 ·rcases List.mem_append.1 hy with hy | hy
  ·exact (h.pi y hy).sti hs hY (by decide) (by decide)
  ·simp at hy; subst hy; exact hx.sti hs hY (by decide) (by decide)
 ·rcases List.mem_append.1 hy with hy | hy
  ·exact h.pn y hy
  ·simp at hy; subst hy; exact hn
theorem SIn.pushT {u : Value} {bs : List Value} (h : SIn w B pv tv ev ps tn mg) (hb : w.ownsRow B 4 1 tv tn bs) (hg : w.grownBy w' tv.ownBlock) (ho : w'.ownsRow B 4 1 v' (tn + 1) (bs ++ [u])) : SIn w' B pv v' ev ps (tn + 1) mg := by
 have hs : Sti (fun i => tv.ownBlock = some i) w w' := Sti.of_gr hg (fun i h => h)
 have hY := own_row_ty hb
 exact ⟨own_sti h.p hs hY (by decide), fun y hy => (h.pi y hy).sti hs hY (by decide) (by decide), h.pn, ⟨_, ho⟩, h.m.sti hs hY (by decide) (by decide)⟩
theorem SIn.pushM {mg2 : List Mg} {v2 : Value} (h : SIn w B pv tv ev ps tn mg) (hm : MgsIn w B v2 mg2) (hg : w.grownBy w' ev.ownBlock) (ho : w'.ownsRow B 195 2 v' (mg.length + mg2.length) (mgs mg ++ mgs mg2)) : SIn w' B pv tv v' ps tn (mg ++ mg2) := by
 obtain ⟨bs, ht⟩ := h.t
 have hs : Sti (fun i => ev.ownBlock = some i) w w' := Sti.of_gr hg (fun i h => h)
 have hY := own_row_ty h.m.row
 refine ⟨own_sti h.p hs hY (by decide), fun y hy => (h.pi y hy).sti hs hY (by decide) (by decide), h.pn, ⟨bs, own_sti ht hs hY (by decide)⟩, ⟨by rw [List.length_append, mgs_append]; exact ho, fun p hp => ?_, fun p hp => ?_⟩⟩
 ·rcases List.mem_append.1 hp with hp | hp
  ·exact own_sti (h.m.own p hp) hs hY (by decide)
  ·exact own_sti (hm.own p hp) hs hY (by decide)
 ·rcases List.mem_append.1 hp with hp | hp
  ·exact h.m.ol p hp
  ·exact hm.ol p hp
end
abbrev zeroSc : Array Value := #[.slice none 0 0, .slice none 0 0, .slice none 0 0, .slice none 0 0, .slice none 0 0]
/-- on the way -/
structure SI (w wr : World) (db : Nat) (nv mv pv tv ev : Value) (ns : List Nd) (ms : List Mr) (ps : List Pe) (tn : Nat) (mg : List Mg) : Prop where
 r : Bk wr w.heap.size 32 zeroSc
 d : Bk wr db 27 #[nv, mv]
 s : Bk wr (db + 1) 32 #[nv, mv, pv, tv, ev]
 i : DeclIn wr w.heap.size nv mv ns ms
 x : SIn wr w.heap.size pv tv ev ps tn mg
 b : Below w.heap.size w wr
 h : w.heap.size < db
section
variable {w wr w' : World} {db tn : Nat} {nv mv pv tv ev v' u : Value} {ns : List Nd} {ms : List Mr} {ps : List Pe} {mg : List Mg}
theorem SI.below (h : SI w wr db nv mv pv tv ev ns ms ps tn mg) (hb : Below wr.heap.size wr w') : SI w w' db nv mv pv tv ev ns ms ps tn mg :=
 ⟨h.r.ext hb, h.d.ext hb, h.s.ext hb, h.i.below hb, h.x.below hb, h.b.trans (hb.mono h.b.size), h.h⟩
/-- a row of it has grown, and the field is set -/
theorem SI.put {row : Option Nat} {T : TypeId} {j : Nat} {pv' tv' ev' : Value} {ps' : List Pe} {tn' : Nat} {mg' : List Mg} (h : SI w wr db nv mv pv tv ev ns ms ps tn mg) (hg : wr.grownBy w' row) (hT : ∀ i, row = some i → ∃ cs, Bk wr i T cs) (hr : ∀ i, row = some i → w.heap.size ≤ i) (h1 : 32 ≠ T) (h2 : 27 ≠ T) (h3 : 113 ≠ T) (h4 : 183 ≠ T) (h5 : 9 ≠ T) (hx : SIn w' w.heap.size pv' tv' ev' ps' tn' mg') (hk : Bk (w'.setCell ⟨db + 1, j, none⟩ u) (db + 1) 32 #[nv, mv, pv', tv', ev']) : SI w (w'.setCell ⟨db + 1, j, none⟩ u) db nv mv pv' tv' ev' ns ms ps' tn' mg' := by
 have hh := h.h
 have hs : Sti (fun i => row = some i) wr w' := Sti.of_gr hg (fun i h => h)
 have ks := bk_sti h.s hs hT h1
 have hs2 : Sti (fun i => i = db + 1) w' (w'.setCell ⟨db + 1, j, none⟩ u) := Sti.set_ (Y := fun i => i = db + 1) (p := ⟨db + 1, j, none⟩) (Sti.refl _ w') (.inl rfl) u
 have hY2 : ∀ i, i = db + 1 → ∃ cs, Bk w' i 32 cs := fun i e => by subst e; exact ⟨_, ks⟩
 exact ⟨hs2.bk (bk_sti h.r hs hT h1) (by omega), hs2.bk (bk_sti h.d hs hT h2) (by omega), hk, (h.i.sti hs hT h3 h4 h5).sti hs2 hY2 (by decide) (by decide) (by decide), hx.sti hs2 hY2 (by decide) (by decide) (by decide) (by decide) (by decide), (h.b.trans (hbelow_gr hg hr h.b.size)).setCell (by simp; omega) _, h.h⟩
end
def NewOut11 (w : World) (e : Ending) (w' : World) : Prop := ∃ (NA MA PA TA EA : Option Addr) (nn nc mn_ mc pn pc tn tc en ec : Nat) (ns : List Nd) (ms : List Mr) (ps : List Pe) (bn : Nat) (mg : List Mg) (er : Int), e = .returned (.tuple #[.agg #[.slice NA nn nc, .slice MA mn_ mc, .slice PA pn pc, .slice TA tn tc, .slice EA en ec], .int .i64 er]) ∧ DeclIn w' w.heap.size (.slice NA nn nc) (.slice MA mn_ mc) ns ms ∧ SIn w' w.heap.size (.slice PA pn pc) (.slice TA tn tc) (.slice EA en ec) ps bn mg ∧ ps.length = ns.length ∧ mg.length ≤ 10000 ∧ Below w.heap.size w w'
theorem mgs_one_cell {w : World} {base : Nat} {v : Value} {l : List Mg} (h : MgsIn w base v l) : ∀ u ∈ mgs l, u.oneCell' = true := by
 intro u hu
 simp only [mgs, List.mem_flatMap] at hu
 obtain ⟨p, hp, hu⟩ := hu
 obtain ⟨A, c, e, -, -, -, -⟩ := own_form (h.own p hp)
 simp only [Mg.cells, List.mem_cons, List.not_mem_nil, or_false] at hu
 rcases hu with rfl | rfl
 ·simp [Value.oneCell']
 ·rw [e]; simp [Value.oneCell']
theorem SI.left {w wr : World} {db tn : Nat} {nv mv pv tv ev : Value} {ns : List Nd} {ms : List Mr} {ps : List Pe} {mg : List Mg} (h : SI w wr db nv mv pv tv ev ns ms ps tn mg) : DeclIn (set5 wr w.heap.size nv mv pv tv ev) w.heap.size nv mv ns ms ∧ SIn (set5 wr w.heap.size nv mv pv tv ev) w.heap.size pv tv ev ps tn mg ∧ Bk (set5 wr w.heap.size nv mv pv tv ev) w.heap.size 32 #[nv, mv, pv, tv, ev] ∧ Below w.heap.size w (set5 wr w.heap.size nv mv pv tv ev) := by
 have hs := set5_sti wr w.heap.size nv mv pv tv ev
 have hY : ∀ i, i = w.heap.size → ∃ cs, Bk wr i 32 cs := fun i e => by subst e; exact ⟨_, h.r⟩
 exact ⟨h.i.sti hs hY (by decide) (by decide) (by decide), h.x.sti hs hY (by decide) (by decide) (by decide) (by decide) (by decide), set5_bk h.r _ _ _ _ _, set5_below h.b (Nat.le_refl _) _ _ _ _ _⟩
/-- nothing is left -/
theorem none_left {w wr : World} (hr : Bk wr w.heap.size 32 zeroSc) (hb : Below w.heap.size w wr) (er : Int) : NewOut11 w (.returned (.tuple #[.agg #[.slice none 0 0, .slice none 0 0, .slice none 0 0, .slice none 0 0, .slice none 0 0], .int .i64 er])) (set5 wr w.heap.size (.slice none 0 0) (.slice none 0 0) (.slice none 0 0) (.slice none 0 0) (.slice none 0 0)) ∧ Bk (set5 wr w.heap.size (.slice none 0 0) (.slice none 0 0) (.slice none 0 0) (.slice none 0 0) (.slice none 0 0)) w.heap.size 32 #[.slice none 0 0, .slice none 0 0, .slice none 0 0, .slice none 0 0, .slice none 0 0] :=
 ⟨⟨none, none, none, none, none, 0, 0, 0, 0, 0, 0, 0, 0, 0, 0, [], [], [], 0, [], er, rfl, DeclIn.nil _ _, SIn.nil _ _, rfl, by simp, set5_below hb (Nat.le_refl _) _ _ _ _ _⟩, set5_bk hr _ _ _ _ _⟩
theorem new11_any (s : ByteArray) (w : World) (hs : s.size ≤ maxLen) : Calls Tryz.prog 8 #[.string s] w (NewOut11 w) := by
 go_enter Tryz.func8, Tryz.ntmps8
 go_upto_region 1 with fail
 have kr : Bk (w.alloc (.cells zeroSc 32)) w.heap.size 32 zeroSc := Bk.new w _ _
 have hb0 : Below w.heap.size w (w.alloc (.cells zeroSc 32)) := belowA
 generalize w.alloc (.cells zeroSc 32) = w0 at *
 have hps := Lib.hid (parse10_any s w0 hs)
 clear hs
 go_wp2_with (go_at_call 47; fail)
 refine hps.out.mono ?_
 rintro e w1 ⟨nv, mv, ns, ms, at_, er, rfl, hD, hb1⟩
 obtain ⟨NA, nc, rfl, -, -, -, -⟩ := own_form hD.n
 obtain ⟨MA, mc, rfl, -, -, -, -⟩ := own_form hD.m
 have hnl := hD.nl
 have kr1 := kr.ext hb1
 have hb01 := hb0.trans (hb1.mono hb0.size)
 have hrl := def_lt' kr1
 have hba : Below w1.heap.size w1 (w1.alloc (.cells #[.slice NA ns.length nc, .slice MA ms.length mc] 27)) := belowA
 have kd := Bk.new w1 27 #[.slice NA ns.length nc, .slice MA ms.length mc]
 obtain ⟨db, hdb⟩ : ∃ db, db = w1.heap.size := ⟨_, rfl⟩
 go_upto_region 2 with fail
 rw [← hdb] at hba kd ⊢
 generalize hw2 : w1.alloc (.cells #[.slice NA ns.length nc, .slice MA ms.length mc] 27) = w2 at *
 have hsz2 : w2.heap.size = db + 1 := by rw [← hw2, hdb]; simp
 have kr2 := kr1.ext (hdb ▸ hba)
 have hb02 : Below w.heap.size w w2 := hb01.trans ((hdb ▸ hba : Below w1.heap.size w1 w2).mono (by omega))
 have hD2 := (hD.base_ hb0.size).below (hdb ▸ hba)
 have hlt : w.heap.size < db := by omega
 clear hw2 hps hb0 hb1 kr kr1 hb01 hba hD hdb
 by_cases her : er = 0
 ·have e0 : (er != 0) = false := by simp [her]
  have hI3 : SI w (w2.alloc (.cells #[.slice NA ns.length nc, .slice MA ms.length mc, .slice none 0 0, .slice none 0 0, .slice none 0 0] 32)) db (.slice NA ns.length nc) (.slice MA ms.length mc) (.slice none 0 0) (.slice none 0 0) (.slice none 0 0) ns ms [] 0 [] := by
   have hbb : Below w2.heap.size w2 (w2.alloc (.cells #[.slice NA ns.length nc, .slice MA ms.length mc, .slice none 0 0, .slice none 0 0, .slice none 0 0] 32)) := belowA
   exact ⟨kr2.ext hbb, kd.ext hbb, Bk.made _ _ (by omega), hD2.below hbb, SIn.nil _ _, hb02.trans (hbb.mono hb02.size), hlt⟩
  obtain ⟨d0, d1⟩ := bk2 kd
  go_upto_region 5 with fail
  generalize w2.alloc (.cells #[.slice NA ns.length nc, .slice MA ms.length mc, .slice none 0 0, .slice none 0 0, .slice none 0 0] 32) = w3 at *
  have hI3 := Lib.hid hI3
  clear d0 d1 her kr2 hb02 hD2 kd hsz2
  obtain ⟨s0, s1, s2, s3, s4⟩ := bk5 hI3.out.s
  have hnm := Lib.hid (names_any w.heap.size _ _ ns ms none none none 0 0 0 0 0 0 w3 hI3.out.i)
  go_wp2_with (go_at_call 48; fail)
  refine hnm.out.mono ?_
  rintro e w4 ⟨⟨er2, rfl⟩, hb4⟩
  have hI4 := Lib.hid (hI3.out.below hb4)
  clear s0 s1 s2 s3 s4 hnm hI3 hb4
  by_cases her2 : er2 = 0
  ·have e2 : (er2 != 0) = false := by simp [her2]
   clear her2
   go_wp2
   go_loopw [8] (fun j wr => ∃ (k bn : Nat) (pv tv ev : Value) (ps : List Pe) (mg : List Mg), k ≤ ns.length ∧ j = .int .i64 k ∧ ps.length = k ∧ bn = k ∧ mg.length ≤ 400 * k ∧ Hid (SI w wr db (.slice NA ns.length nc) (.slice MA ms.length mc) pv tv ev ns ms ps bn mg)) (fun j _ => ns.length - (intOf j).toNat)
   case atStart => exact ⟨0, 0, _, _, _, [], [], by omega, rfl, rfl, rfl, by simp, hI4⟩
   case round =>
    clear hI4
    obtain ⟨k, bn, pv, tv, ev, ps, mg, hk, rfl, hpl, hbn, hml, hI⟩ := hrel
    obtain ⟨PA, pc, rfl, -, -, -, -⟩ := own_form hI.out.x.p
    obtain ⟨bs, hbs⟩ := hI.out.x.t
    obtain ⟨TA, tc, rfl, -, -, -, -⟩ := own_form hbs
    obtain ⟨EA, ec, rfl, -, -, -, -⟩ := own_form hI.out.x.m.row
    have HBS := Lib.hid hbs
    clear hbs
    by_cases hkl : k < ns.length
    ·have e3 : (k : Int) < ns.length := by omega
     obtain ⟨p, hp⟩ : ∃ p, ns[k]? = some p := ⟨_, List.getElem?_eq_getElem hkl⟩
     have hpi := hI.out.i.ni p (List.mem_of_getElem? hp)
     obtain ⟨eb, eo, rfl, heb, hcc⟩ := hI.out.i.node hp
     have c8 : wr.cell? ⟨eb, eo + k * 9 + 8, none⟩ = some (.string p.ex) := hcc 8 (by omega)
     have hex := hpi.ex
     obtain ⟨px, hpx⟩ : ∃ px, px = p.ex := ⟨_, rfl⟩
     rw [← hpx] at c8 hex
     have hps := Lib.hid (parse6_any px wr (by omega))
     clear hcc hp hpi hpx
     obtain ⟨d0, d1⟩ := bk2 hI.out.d
     have HPL := Lib.hid hpl
     have HBN := Lib.hid hbn
     have hps1 : ps.length + 1 ≤ 1000 := by omega
     clear hpl hbn
     go_wp2_with (go_at_call 49; fail)
     refine hps.out.mono ?_
     rintro e w5 ⟨xv, xa, xe, rfl, ⟨xn, xl, hpt, hxn, hxw⟩, hb5⟩
     obtain ⟨XA, xc, rfl, -, -, -, -⟩ := own_form hpt.row
     have hI5 := Lib.hid (hI.out.below hb5)
     have hz5 := hI.out.b.size
     have hpt := Lib.hid (hpt.base_ hz5)
     clear d0 d1 c8 hps hI hb5
     obtain ⟨s0, s1, s2, s3, s4⟩ := bk5 hI5.out.s
     have hmn := Lib.hid (means_any w.heap.size _ _ ns ms PA TA EA ps.length pc bn tc mg.length ec w5 w.heap.size xn xc XA xl hI5.out.i hpt.out (by omega))
     go_wp2_with (go_at_call 50; fail)
     refine hmn.out.mono ?_
     rintro e w6 ⟨lv, lm, rfl, hlm, hll, hb6⟩
     obtain ⟨LA, lc, rfl, -, -, -, -⟩ := own_form hlm.row
     have hI6 := Lib.hid (hI5.out.below hb6)
     have hpt6 := Lib.hid (hpt.out.below hb6)
     have hlm6 := Lib.hid (hlm.base_ hI5.out.b.size)
     clear s0 s1 s2 s3 s4 hmn hI5 hpt hlm hb6
     obtain ⟨s0, s1, s2, s3, s4⟩ := bk5 hI6.out.s
     have hnd := Lib.hid (node11s_any w.heap.size _ _ ns ms PA TA EA ps.length pc bn tc mg.length ec w6 w.heap.size xn xc w.heap.size lc XA LA xl lm hI6.out.i hpt6.out (by omega) hlm6.out (by omega))
     go_wp2_with (go_at_call 51; fail)
     refine hnd.out.mono ?_
     rintro e w7 ⟨nb, er7, rfl, hmn7, hb7⟩
     have hI7 := Lib.hid (hI6.out.below hb7)
     have hpt7 := Lib.hid (hpt6.out.below hb7)
     have hlm7 := Lib.hid (hlm6.out.below hb7)
     have hmn7 := Lib.hid hmn7
     clear s0 s1 s2 s3 s4 hnd hI6 hpt6 hlm6 hb7
     by_cases her7 : er7 = 0
     ·have e7 : (er7 != 0) = false := by simp [her7]
      have hmn8 := Lib.hid (hmn7.out her7)
      clear her7 hmn7
      have hz7 := hI7.out.b.size
      obtain ⟨s0, s1, s2, s3, s4⟩ := bk5 hI7.out.s
      have sf := hI7.out.s.frozen; have sl := def_lt' hI7.out.s
      go_upto_region 17 with (at_builtin; ((refine app_one Tryz.underlying28 info_lp rfl (by decide) w7 w.heap.size _ ps.length _ hI7.out.x.p (by unfold maxLen; omega) (by omega) (by omega) _ rfl (by simp [Value.oneCell']) rfl _ _ rfl rfl rfl ?_); intro g8 cap8 w8 hown8 hgr8 hat8 hlt8; have hs8 : Sti (fun i => (Value.slice PA ps.length pc).ownBlock = some i) w7 w8 := Sti.of_gr hgr8 (fun i h => h); have ks8 := bk_sti hI7.out.s hs8 (own_row_ty hI7.out.x.p) (by decide); have sf8 := ks8.frozen; have sl8 := def_lt' ks8; obtain ⟨u0, u1, u2, u3, u4⟩ := bk5 ks8))
      have hI9 := Lib.hid (hI7.out.put (j := 2) (u := .slice (some ⟨g8, 0, none⟩) (ps.length + 1) cap8) hgr8 (own_row_ty hI7.out.x.p) (own_ge hI7.out.x.p) (by decide) (by decide) (by decide) (by decide) (by decide) (hI7.out.x.pushP (x := ⟨.slice XA xn xc, xn, xl⟩) hpt7.out ⟨show xn ≤ 1000 by omega, hmn8.out⟩ hgr8 hown8) (ks8.set_ 2 _))
      have hlm9 := (hlm7.out.sti hs8 (own_row_ty hI7.out.x.p) (by decide) (by decide)).sti (Sti.set_ (Y := fun i => i = db + 1) (p := ⟨db + 1, 2, none⟩) (Sti.refl _ w8) (.inl rfl) (.slice (some ⟨g8, 0, none⟩) (ps.length + 1) cap8)) (T := 32) (fun i e => by subst e; exact ⟨_, ks8⟩) (by decide) (by decide)
      generalize w8.setCell ⟨db + 1, 2, none⟩ (.slice (some ⟨g8, 0, none⟩) (ps.length + 1) cap8) = w9 at *
      have hlm9 := Lib.hid hlm9
      clear s0 s1 s2 s3 s4 sf sl u0 u1 u2 u3 u4 sf8 sl8 ks8 hs8 hat8 hgr8 hown8 hI7 hpt7 hlm7 hmn8
      have hz9 := hI9.out.b.size
      obtain ⟨bs, hbs⟩ := hI9.out.x.t
      have HB9 := Lib.hid hbs
      clear hbs
      obtain ⟨s0, s1, s2, s3, s4⟩ := bk5 hI9.out.s
      have sf := hI9.out.s.frozen; have sl := def_lt' hI9.out.s
      have hbk := HBN.out
      have hb1 : bn + 1 ≤ 1000 := by omega
      clear hbk
      go_upto_region 18 with (at_builtin; ((refine app_one Tryz.underlying29 info_b rfl (by decide) w9 w.heap.size _ bn _ HB9.out (by unfold maxLen; omega) (by omega) (by omega) _ rfl (by simp [Value.oneCell']) rfl _ _ rfl rfl rfl ?_); intro g8 cap8 w8 hown8 hgr8 hat8 hlt8; have hs8 : Sti (fun i => (Value.slice TA bn tc).ownBlock = some i) w9 w8 := Sti.of_gr hgr8 (fun i h => h); have ks8 := bk_sti hI9.out.s hs8 (own_row_ty HB9.out) (by decide); have sf8 := ks8.frozen; have sl8 := def_lt' ks8; obtain ⟨u0, u1, u2, u3, u4⟩ := bk5 ks8))
      have hI11 := Lib.hid (hI9.out.put (j := 3) (u := .slice (some ⟨g8, 0, none⟩) (bn + 1) cap8) hgr8 (own_row_ty HB9.out) (own_ge HB9.out) (by decide) (by decide) (by decide) (by decide) (by decide) (hI9.out.x.pushT HB9.out hgr8 hown8) (ks8.set_ 3 _))
      have hlm11 := (hlm9.out.sti hs8 (own_row_ty HB9.out) (by decide) (by decide)).sti (Sti.set_ (Y := fun i => i = db + 1) (p := ⟨db + 1, 3, none⟩) (Sti.refl _ w8) (.inl rfl) (.slice (some ⟨g8, 0, none⟩) (bn + 1) cap8)) (T := 32) (fun i e => by subst e; exact ⟨_, ks8⟩) (by decide) (by decide)
      generalize w8.setCell ⟨db + 1, 3, none⟩ (.slice (some ⟨g8, 0, none⟩) (bn + 1) cap8) = w11 at *
      have hlm11 := Lib.hid hlm11
      clear s0 s1 s2 s3 s4 sf sl u0 u1 u2 u3 u4 sf8 sl8 ks8 hs8 hat8 hgr8 hown8 hI9 hlm9 HB9
      have hz11 := hI11.out.b.size
      obtain ⟨s0, s1, s2, s3, s4⟩ := bk5 hI11.out.s
      have sf := hI11.out.s.frozen; have sl := def_lt' hI11.out.s
      obtain ⟨LA', lc', le, -, -, hLA, hlr⟩ := own_form hlm11.out.row
      injection le with le1 le2 le3
      rw [← le1] at hlr hLA
      have HLR := Lib.hid hlr
      have HLA := Lib.hid (show LA = none → lm.length = 0 from fun h => (hLA h).1)
      have hml2 : mg.length + lm.length ≤ 400 * (k + 1) := by omega
      clear le1 le3 hlr hLA
      go_wp2_with (at_builtin; ((refine app_rd Tryz.underlying30 info_mg rfl (by decide) w11 w.heap.size _ mg.length _ hI11.out.x.m.row _ LA lm.length lc (mgs lm) HLR.out HLA.out (mgs_one_cell hlm11.out) (by unfold maxLen; omega) (by omega) (by omega) rfl _ _ rfl rfl rfl ?_); intro v8 w8 hown8 hgr8 hat8; have hs8 : Sti (fun i => (Value.slice EA mg.length ec).ownBlock = some i) w11 w8 := Sti.of_gr hgr8 (fun i h => h); have ks8 := bk_sti hI11.out.s hs8 (own_row_ty hI11.out.x.m.row) (by decide); have sf8 := ks8.frozen; have sl8 := def_lt' ks8; obtain ⟨u0, u1, u2, u3, u4⟩ := bk5 ks8; obtain ⟨A8, c8, rfl, -, -, -, -⟩ := own_form hown8))
      have hI12 := Lib.hid (hI11.out.put (j := 4) (u := .slice A8 (mg.length + lm.length) c8) hgr8 (own_row_ty hI11.out.x.m.row) (own_ge hI11.out.x.m.row) (by decide) (by decide) (by decide) (by decide) (by decide) (hI11.out.x.pushM hlm11.out hgr8 hown8) (ks8.set_ 4 _))
      go_roundw
      case rel => exact ⟨k + 1, bn + 1, _, _, _, _, _, by omega, by go_num, by simp; exact HPL.out, by have := HBN.out; omega, by simpa using hml2, hI12⟩
      case measure => simp [intOf]; omega
     ·have e7 : (er7 != 0) = true := by simp [her7]
      obtain ⟨hL1, hL2⟩ := none_left hI7.out.r hI7.out.b er7
      unfold set5 at hL1 hL2
      have HE := Lib.hid (And.intro hL1 hL2)
      clear hL1 hL2 her7
      obtain ⟨r0, r1, r2, r3, r4⟩ := bk5 (show Bk _ w.heap.size 32 zeroSc from hI7.out.r)
      have rf := hI7.out.r.frozen; have rl := def_lt' hI7.out.r
      go_wp2
      obtain ⟨z0, z1, z2, z3, z4⟩ := bk5 HE.out.2
      exact bodyPost_ret (v := .tuple #[.agg #[.slice none 0 0, .slice none 0 0, .slice none 0 0, .slice none 0 0, .slice none 0 0], .int .i64 er7]) (by simp [results, Tryz.results8, go_sem, z0, z1, z2, z3, z4]) rfl HE.out.1
    ·obtain rfl : k = ns.length := by omega
     obtain ⟨hL0, hL1, hL2, hL3⟩ := hI.out.left
     have hfin : NewOut11 w (.returned (.tuple #[.agg #[.slice NA ns.length nc, .slice MA ms.length mc, .slice PA ps.length pc, .slice TA bn tc, .slice EA mg.length ec], .int .i64 0])) _ := ⟨NA, MA, PA, TA, EA, _, nc, _, mc, _, pc, _, tc, _, ec, ns, ms, ps, bn, mg, 0, rfl, hL0, hL1, hpl, by omega, hL3⟩
     obtain ⟨s0, s1, s2, s3, s4⟩ := bk5 hI.out.s
     obtain ⟨d0, d1⟩ := bk2 hI.out.d
     obtain ⟨r0, r1, r2, r3, r4⟩ := bk5 (show Bk _ w.heap.size 32 zeroSc from hI.out.r)
     have rf := hI.out.r.frozen; have rl := def_lt' hI.out.r
     unfold set5 at hfin hL2
     have HE := Lib.hid (And.intro hfin hL2)
     have HPL := Lib.hid hpl
     have HBN := Lib.hid hbn
     clear hL0 hL1 hL2 hL3 hfin hpl hbn
     go_wp2
     obtain ⟨z0, z1, z2, z3, z4⟩ := bk5 HE.out.2
     exact bodyPost_ret (v := .tuple #[.agg #[.slice NA ns.length nc, .slice MA ms.length mc, .slice PA ps.length pc, .slice TA bn tc, .slice EA mg.length ec], .int .i64 0]) (by simp [results, Tryz.results8, go_sem, z0, z1, z2, z3, z4]) rfl HE.out.1
  ·have e2 : (er2 != 0) = true := by simp [her2]
   obtain ⟨hL1, hL2⟩ := none_left hI4.out.r hI4.out.b er2
   unfold set5 at hL1 hL2
   have HE := Lib.hid (And.intro hL1 hL2)
   clear hL1 hL2 her2
   obtain ⟨r0, r1, r2, r3, r4⟩ := bk5 (show Bk _ w.heap.size 32 zeroSc from hI4.out.r)
   have rf := hI4.out.r.frozen; have rl := def_lt' hI4.out.r
   go_wp2
   obtain ⟨z0, z1, z2, z3, z4⟩ := bk5 HE.out.2
   exact bodyPost_ret (v := .tuple #[.agg #[.slice none 0 0, .slice none 0 0, .slice none 0 0, .slice none 0 0, .slice none 0 0], .int .i64 er2]) (by simp [results, Tryz.results8, go_sem, z0, z1, z2, z3, z4]) rfl HE.out.1
 ·have e0 : (er != 0) = true := by simp [her]
  obtain ⟨hL1, hL2⟩ := none_left kr2 hb02 er
  unfold set5 at hL1 hL2
  have HE := Lib.hid (And.intro hL1 hL2)
  clear hL1 hL2 her
  obtain ⟨r0, r1, r2, r3, r4⟩ := bk5 (show Bk _ w.heap.size 32 zeroSc from kr2)
  have rf := kr2.frozen; have rl := def_lt' kr2
  go_wp2
  obtain ⟨z0, z1, z2, z3, z4⟩ := bk5 HE.out.2
  exact bodyPost_ret (v := .tuple #[.agg #[.slice none 0 0, .slice none 0 0, .slice none 0 0, .slice none 0 0, .slice none 0 0], .int .i64 er]) (by simp [results, Tryz.results8, go_sem, z0, z1, z2, z3, z4]) rfl HE.out.1
end Go.Proofs.YtmacfoebfpljoaaGreat
