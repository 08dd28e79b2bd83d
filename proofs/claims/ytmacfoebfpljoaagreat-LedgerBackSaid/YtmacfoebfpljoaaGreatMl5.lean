/- merged texts: Hn Ho Hq Hra Hrb -/
import Derived.Test.YtmacfoebfpljoaaGreatMl4
import Derived.Deep.CutBlock
namespace Go.Proofs.YtmacfoebfpljoaaGreat
open Go.RowKit
set_option linter.unusedVariables false
/-- what a line says of a node -/
structure Nd where
  nm : ByteArray
  gv : Value
  gs : List ByteArray
  (il pk lf : Bool)
  at_ : Int
  all : Bool
  mv : Value
  ms : List ByteArray
  ex : ByteArray
def Nd.arr (p : Nd) : Array Value := #[.string p.nm, p.gv, .bool p.il, .bool p.pk, .bool p.lf, .int .i64 p.at_, .bool p.all, p.mv, .string p.ex]
def Nd.zero : Nd := ⟨{ data := #[] }, .slice none 0 0, [], false, false, false, 0, false, .slice none 0 0, [], { data := #[] }⟩
structure Nd.In (p : Nd) (w : World) (base : Nat) : Prop where
  g : w.ownsRow base 9 1 p.gv p.gs.length (strs p.gs)
  gl : p.gs.length ≤ 70000
  m : w.ownsRow base 9 1 p.mv p.ms.length (strs p.ms)
  ml : p.ms.length ≤ 70000
  ex : p.ex.size ≤ 102400
theorem Nd.In.below {p : Nd} {w w' : World} {base : Nat} (h : p.In w base) (hb : Below w.heap.size w w') : p.In w' base := ⟨own_below h.g hb, h.gl, own_below h.m hb, h.ml, h.ex⟩
theorem Nd.In.base_ {p : Nd} {w : World} {base base' : Nat} (h : p.In w base) (hb : base' ≤ base) : p.In w base' := ⟨own_base h.g hb, h.gl, own_base h.m hb, h.ml, h.ex⟩
theorem Nd.zero_in (w : World) (base : Nat) : Nd.zero.In w base := ⟨World.ownsRow_nil _ _ _ _, by simp [Nd.zero], World.ownsRow_nil _ _ _ _, by simp [Nd.zero], by simp [Nd.zero, ByteArray.size]⟩
theorem bk9 {w : World} {b : Nat} {t : TypeId} {x0 x1 x2 x3 x4 x5 x6 x7 x8 : Value} (k : Bk w b t #[x0, x1, x2, x3, x4, x5, x6, x7, x8]) : w.cell? ⟨b, 0, none⟩ = some x0 ∧ w.cell? ⟨b, 1, none⟩ = some x1 ∧ w.cell? ⟨b, 2, none⟩ = some x2 ∧ w.cell? ⟨b, 3, none⟩ = some x3 ∧ w.cell? ⟨b, 4, none⟩ = some x4 ∧ w.cell? ⟨b, 5, none⟩ = some x5 ∧ w.cell? ⟨b, 6, none⟩ = some x6 ∧ w.cell? ⟨b, 7, none⟩ = some x7 ∧ w.cell? ⟨b, 8, none⟩ = some x8 :=
  ⟨k.cell 0, k.cell 1, k.cell 2, k.cell 3, k.cell 4, k.cell 5, k.cell 6, k.cell 7, k.cell 8⟩
def set9 (w : World) (b : Nat) (x0 x1 x2 x3 x4 x5 x6 x7 x8 : Value) : World := (((((((((w.setCell ⟨b, 0, none⟩ x0).setCell ⟨b, 1, none⟩ x1).setCell ⟨b, 2, none⟩ x2).setCell ⟨b, 3, none⟩ x3).setCell ⟨b, 4, none⟩ x4).setCell ⟨b, 5, none⟩ x5).setCell ⟨b, 6, none⟩ x6).setCell ⟨b, 7, none⟩ x7).setCell ⟨b, 8, none⟩ x8)
theorem set9_bk {w : World} {b : Nat} {t : TypeId} {y0 y1 y2 y3 y4 y5 y6 y7 y8 : Value} (k : Bk w b t #[y0, y1, y2, y3, y4, y5, y6, y7, y8]) (x0 x1 x2 x3 x4 x5 x6 x7 x8 : Value) : Bk (set9 w b x0 x1 x2 x3 x4 x5 x6 x7 x8) b t #[x0, x1, x2, x3, x4, x5, x6, x7, x8] := by
  have q0 : Bk _ b t #[x0, y1, y2, y3, y4, y5, y6, y7, y8] := k.set_ 0 x0
  have q1 : Bk _ b t #[x0, x1, y2, y3, y4, y5, y6, y7, y8] := q0.set_ 1 x1
  have q2 : Bk _ b t #[x0, x1, x2, y3, y4, y5, y6, y7, y8] := q1.set_ 2 x2
  have q3 : Bk _ b t #[x0, x1, x2, x3, y4, y5, y6, y7, y8] := q2.set_ 3 x3
  have q4 : Bk _ b t #[x0, x1, x2, x3, x4, y5, y6, y7, y8] := q3.set_ 4 x4
  have q5 : Bk _ b t #[x0, x1, x2, x3, x4, x5, y6, y7, y8] := q4.set_ 5 x5
  have q6 : Bk _ b t #[x0, x1, x2, x3, x4, x5, x6, y7, y8] := q5.set_ 6 x6
  have q7 : Bk _ b t #[x0, x1, x2, x3, x4, x5, x6, x7, y8] := q6.set_ 7 x7
  have q8 : Bk _ b t #[x0, x1, x2, x3, x4, x5, x6, x7, x8] := q7.set_ 8 x8
  exact q8
theorem set9_below {w : World} {base b : Nat} (hb : base ≤ b) (x0 x1 x2 x3 x4 x5 x6 x7 x8 : Value) : Below base w (set9 w b x0 x1 x2 x3 x4 x5 x6 x7 x8) := by
  unfold set9
  iterate 9 with_reducible refine Below.setCell ?_ hb _
  exact Below.refl _ _
theorem set9_own {w : World} {b : Nat} {t : TypeId} {cs : Array Value} (k : Bk w b t cs) {base : Nat} {e : TypeId} {size : Nat} {v : Value} {n : Nat} {xs : List Value} (h : w.ownsRow base e size v n xs) (hne : e ≠ t) (x0 x1 x2 x3 x4 x5 x6 x7 x8 : Value) : (set9 w b x0 x1 x2 x3 x4 x5 x6 x7 x8).ownsRow base e size v n xs := by
  have hb := own_ne h k hne
  exact (ownsRow_setCell_other (ownsRow_setCell_other (ownsRow_setCell_other (ownsRow_setCell_other (ownsRow_setCell_other (ownsRow_setCell_other (ownsRow_setCell_other (ownsRow_setCell_other (ownsRow_setCell_other h hb x0) hb x1) hb x2) hb x3) hb x4) hb x5) hb x6) hb x7) hb x8)
theorem words4 (t : List UInt8) : ((t == [105, 110, 108, 105, 110, 101]) = true ∧ (t == [112, 105, 99, 107]) = false ∧ (t == [97, 116, 116, 114]) = false ∧ (t == [109, 97, 114, 107, 115]) = false) ∨ ((t == [105, 110, 108, 105, 110, 101]) = false ∧ (t == [112, 105, 99, 107]) = true ∧ (t == [97, 116, 116, 114]) = false ∧ (t == [109, 97, 114, 107, 115]) = false) ∨ ((t == [105, 110, 108, 105, 110, 101]) = false ∧ (t == [112, 105, 99, 107]) = false ∧ (t == [97, 116, 116, 114]) = true ∧ (t == [109, 97, 114, 107, 115]) = false) ∨ ((t == [105, 110, 108, 105, 110, 101]) = false ∧ (t == [112, 105, 99, 107]) = false ∧ (t == [97, 116, 116, 114]) = false ∧ (t == [109, 97, 114, 107, 115]) = true) ∨ ((t == [105, 110, 108, 105, 110, 101]) = false ∧ (t == [112, 105, 99, 107]) = false ∧ (t == [97, 116, 116, 114]) = false ∧ (t == [109, 97, 114, 107, 115]) = false) := by
  by_cases h1 : t = [105, 110, 108, 105, 110, 101]
  · subst h1; exact .inl (by decide)
  by_cases h2 : t = [112, 105, 99, 107]
  · subst h2; exact .inr (.inl (by decide))
  by_cases h3 : t = [97, 116, 116, 114]
  · subst h3; exact .inr (.inr (.inl (by decide)))
  by_cases h4 : t = [109, 97, 114, 107, 115]
  · subst h4; exact .inr (.inr (.inr (.inl (by decide))))
  · exact .inr (.inr (.inr (.inr ⟨beq_false_of_ne h1, beq_false_of_ne h2, beq_false_of_ne h3, beq_false_of_ne h4⟩)))
theorem strs_at {w : World} {B n k : Nat} {A : Option Addr} {l : List ByteArray} (h : Rd w B 1 A n (strs l)) (hk : k < n) : ∃ b o x, A = some ⟨b, o, none⟩ ∧ b < B ∧ l[k]? = some x ∧ w.cell? ⟨b, o + k, none⟩ = some (.string x) := by
  obtain ⟨b, o, u, e, hb, hu, hc⟩ := h.at1 hk
  unfold strs at hu
  rw [List.getElem?_map] at hu
  obtain ⟨x, hx, rfl⟩ := Option.map_eq_some_iff.1 hu
  exact ⟨b, o, x, e, hb, hx, hc⟩
theorem strs_len {w : World} {B n : Nat} {A : Option Addr} {l : List ByteArray} (h : Rd w B 1 A n (strs l)) : l.length = n := by
  have := h.1
  simpa [strs] using this
theorem Texts.own {w w' : World} {b : Nat} {v : Value} (h : Texts w b v w') : ∃ l, w'.ownsRow w.heap.size 9 1 v l.length (strs l) ∧ szs l ≤ b := by
  obtain ⟨n, l, h1, h2⟩ := h
  have e : n = l.length := by have := h1.1; simpa [strs] using this.symm
  subst e
  exact ⟨l, h1, h2⟩
theorem szs_drop_le (l : List ByteArray) (k : Nat) : szs (l.drop k) ≤ szs l := by
  have h := szs_append (l.take k) (l.drop k)
  rw [List.take_append_drop] at h
  omega
theorem strs_drop (l : List ByteArray) (k : Nat) : strs (l.drop k) = (strs l).drop k := by simp [strs, List.map_drop]
/-- the rest of a list of texts -/
theorem rd_rest {w : World} {B b o n k : Nat} {l : List ByteArray} (h : Rd w B 1 (some ⟨b, o, none⟩) n (strs l)) (hk : k ≤ n) : Rd w B 1 (some ⟨b, o + k, none⟩) (n - k) (strs (l.drop k)) := by
  have h1 := Rd.cut h hk (Nat.le_refl n)
  simp only [Nat.mul_one] at h1
  rw [List.take_of_length_le (by rw [List.length_drop, h.1]; omega), ← strs_drop] at h1
  exact h1
/-- in the midst of a line -/
structure NodeI (w wr : World) (k : Nat) (met : Value) (ml : List ByteArray) (p : Nd) : Prop where
  own : wr.ownsRow w.heap.size 9 1 met ml.length (strs ml)
  mlen : ml.length + 2 ≤ k
  r : Bk wr w.heap.size 113 Nd.zero.arr
  n : Bk wr (w.heap.size + 1) 113 p.arr
  i : p.In wr w.heap.size
  g : p.gs.length + 2 ≤ k
  b : Below w.heap.size w wr
  dj : ∀ j, met.ownBlock = some j → p.gv.ownBlock ≠ some j ∧ p.mv.ownBlock ≠ some j
  dg : ∀ j, p.gv.ownBlock = some j → p.mv.ownBlock ≠ some j
theorem NodeI.below {w wr wx : World} {k : Nat} {met : Value} {ml : List ByteArray} {p : Nd} (h : NodeI w wr k met ml p) (hb : Below wr.heap.size wr wx) : NodeI w wx k met ml p :=
  ⟨own_below h.own hb, h.mlen, h.r.ext hb, h.n.ext hb, h.i.below hb, h.g, h.b.trans (hb.mono h.b.size), h.dj, h.dg⟩
/-- one of its fields is set -/
theorem NodeI.set {w wr : World} {k : Nat} {met : Value} {ml : List ByteArray} {p p' : Nd} (h : NodeI w wr k met ml p) (j : Nat) (u : Value) (hp : Bk (wr.setCell ⟨w.heap.size + 1, j, none⟩ u) (w.heap.size + 1) 113 p'.arr) (e1 : p'.gv = p.gv) (e2 : p'.mv = p.mv) (e3 : p'.gs = p.gs) (e4 : p'.ms = p.ms) (e5 : p'.ex.size ≤ 102400) : NodeI w (wr.setCell ⟨w.heap.size + 1, j, none⟩ u) k met ml p' :=
  ⟨ownsRow_setCell_other h.own (own_ne h.own h.n (by decide)) _, h.mlen, h.r.far (by simp) _, hp, ⟨by rw [e1, e3]; exact ownsRow_setCell_other h.i.g (own_ne h.i.g h.n (by decide)) _, by rw [e3]; exact h.i.gl, by rw [e2, e4]; exact ownsRow_setCell_other h.i.m (own_ne h.i.m h.n (by decide)) _, by rw [e4]; exact h.i.ml, e5⟩, by rw [e3]; exact h.g, h.b.setCell (by simp) _, by rw [e1, e2]; exact h.dj, by rw [e1, e2]; exact h.dg⟩
/-- a text behind those that were met -/
theorem NodeI.push {w wr w' : World} {k g4 cap4 : Nat} {met : Value} {ml : List ByteArray} {p : Nd} {x : ByteArray} (h : NodeI w wr k met ml p) (hg : wr.grownBy w' met.ownBlock) (ho : w'.ownsRow w.heap.size 9 1 (.slice (some ⟨g4, 0, none⟩) (ml.length + 1) cap4) (ml.length + 1) (strs ml ++ [.string x])) (hat : met.ownBlock = some g4 ∨ wr.heap.size < g4) : NodeI w w' (k + 1) (.slice (some ⟨g4, 0, none⟩) (ml.length + 1) cap4) (ml ++ [x]) p := by
  refine ⟨by simpa [strs] using ho, by simp; have := h.mlen; omega, h.r.grown hg (own_ne h.own h.r (by decide)), h.n.grown hg (own_ne h.own h.n (by decide)), ⟨hown_grow h.i.g hg (fun j hj => (h.dj j hj).1), h.i.gl, hown_grow h.i.m hg (fun j hj => (h.dj j hj).2), h.i.ml, h.i.ex⟩, by have := h.g; omega, below_own h.b h.own hg h.b.size (Nat.le_refl _), fun j hj => ?_, h.dg⟩
  have e : g4 = j := by simpa [Value.ownBlock] using hj
  subst e
  rcases hat with h1 | h1
  · exact h.dj _ h1
  · exact ⟨fun e => by have := own_lt h.i.g _ e; omega, fun e => by have := own_lt h.i.m _ e; omega⟩
/-- a further group -/
theorem NodeI.grp {w wr w' : World} {k g4 cap4 : Nat} {met : Value} {ml : List ByteArray} {p : Nd} {x : ByteArray} (h : NodeI w wr k met ml p) (hk : p.gs.length + 3 ≤ k) (hk2 : k ≤ 70000) (hg : wr.grownBy w' p.gv.ownBlock) (ho : w'.ownsRow w.heap.size 9 1 (.slice (some ⟨g4, 0, none⟩) (p.gs.length + 1) cap4) (p.gs.length + 1) (strs p.gs ++ [.string x])) (hat : p.gv.ownBlock = some g4 ∨ wr.heap.size < g4) : NodeI w (w'.setCell ⟨w.heap.size + 1, 1, none⟩ (.slice (some ⟨g4, 0, none⟩) (p.gs.length + 1) cap4)) k met ml { p with gv := .slice (some ⟨g4, 0, none⟩) (p.gs.length + 1) cap4, gs := p.gs ++ [x] } := by
  have hn := h.n.grown hg (own_ne h.i.g h.n (by decide))
  have hm : w'.ownsRow w.heap.size 9 1 met ml.length (strs ml) := hown_grow h.own hg (fun j hj e => (h.dj j e).1 hj)
  have hmv : w'.ownsRow w.heap.size 9 1 p.mv p.ms.length (strs p.ms) := hown_grow h.i.m hg (fun j hj e => h.dg j hj e)
  refine ⟨ownsRow_setCell_other hm (own_ne hm hn (by decide)) _, h.mlen, (h.r.grown hg (own_ne h.i.g h.r (by decide))).far (by simp) _, hn.set_ 1 _, ⟨?_, by simp; omega, ownsRow_setCell_other hmv (own_ne hmv hn (by decide)) _, h.i.ml, h.i.ex⟩, by simp; omega, (below_own h.b h.i.g hg h.b.size (Nat.le_refl _)).setCell (by simp) _, fun j hj => ⟨fun e => ?_, (h.dj j hj).2⟩, fun j hj e => ?_⟩
  · have := ownsRow_setCell_other ho (own_ne ho hn (by decide)) (a := ⟨w.heap.size + 1, 1, none⟩) (.slice (some ⟨g4, 0, none⟩) (p.gs.length + 1) cap4)
    simpa [strs] using this
  · have e1 : g4 = j := by simpa [Value.ownBlock] using e
    subst e1
    rcases hat with h1 | h1
    · exact (h.dj _ hj).1 h1
    · have := own_lt h.own _ hj; omega
  · have e1 : g4 = j := by simpa [Value.ownBlock] using hj
    subst e1
    rcases hat with h1 | h1
    · exact h.dg _ h1 e
    · have := own_lt h.i.m _ e; omega
/-- its marks -/
theorem NodeI.mks {w wr w' : World} {k : Nat} {met v : Value} {ml l : List ByteArray} {p : Nd} (h : NodeI w wr k met ml p) (hb : Below wr.heap.size wr w') (ho : w'.ownsRow wr.heap.size 9 1 v l.length (strs l)) (hl : l.length ≤ 70000) (a : Bool) : NodeI w ((w'.setCell ⟨w.heap.size + 1, 6, none⟩ (.bool a)).setCell ⟨w.heap.size + 1, 7, none⟩ v) k met ml { p with all := a, mv := v, ms := l } := by
  have h' := h.below hb
  have h6 := h'.set (p' := { p with all := a }) 6 (.bool a) (h'.n.set_ 6 _) rfl rfl rfl rfl h.i.ex
  have hz := hb.size
  have hv := own_base ho h.b.size
  have hv6 := ownsRow_setCell_other hv (own_ne hv h'.n (by decide)) (a := ⟨w.heap.size + 1, 6, none⟩) (.bool a)
  refine ⟨ownsRow_setCell_other h6.own (own_ne h6.own h6.n (by decide)) _, h.mlen, h6.r.far (by simp) _, h6.n.set_ 7 _, ⟨ownsRow_setCell_other h6.i.g (own_ne h6.i.g h6.n (by decide)) _, h.i.gl, ownsRow_setCell_other hv6 (own_ne hv6 h6.n (by decide)) _, hl, h.i.ex⟩, h.g, h6.b.setCell (by simp) _, fun j hj => ⟨(h.dj j hj).1, fun e => ?_⟩, fun j hj e => ?_⟩
  · have h1 := own_ge ho j e
    have h2 := own_lt h.own j hj
    omega
  · have h1 := own_ge ho j e
    have h2 := own_lt h.i.g j hj
    omega
def NodeOut (w : World) (e : Ending) (w' : World) : Prop := ∃ (p : Nd) (ok : Bool), e = .returned (.tuple #[.agg p.arr, .bool ok]) ∧ p.In w' w.heap.size ∧ Below w.heap.size w w'
abbrev zeroN : Array Value := #[.string { data := #[] }, .slice none 0 0, .bool false, .bool false, .bool false, .int .i64 0, .bool false, .slice none 0 0, .string { data := #[] }]
/-- how a node's line is left -/
theorem node_left {w W : World} {p p2 : Nd} (kr : Bk W w.heap.size 113 p2.arr) (hi : p.In W w.heap.size) (hb : Below w.heap.size w W) : p.In (set9 W w.heap.size (.string p.nm) p.gv (.bool p.il) (.bool p.pk) (.bool p.lf) (.int .i64 p.at_) (.bool p.all) p.mv (.string p.ex)) w.heap.size ∧ Below w.heap.size w (set9 W w.heap.size (.string p.nm) p.gv (.bool p.il) (.bool p.pk) (.bool p.lf) (.int .i64 p.at_) (.bool p.all) p.mv (.string p.ex)) ∧ Bk (set9 W w.heap.size (.string p.nm) p.gv (.bool p.il) (.bool p.pk) (.bool p.lf) (.int .i64 p.at_) (.bool p.all) p.mv (.string p.ex)) w.heap.size 113 #[.string p.nm, p.gv, .bool p.il, .bool p.pk, .bool p.lf, .int .i64 p.at_, .bool p.all, p.mv, .string p.ex] :=
  ⟨⟨set9_own kr hi.g (by decide) _ _ _ _ _ _ _ _ _, hi.gl, set9_own kr hi.m (by decide) _ _ _ _ _ _ _ _ _, hi.ml, hi.ex⟩, hb.trans (set9_below (Nat.le_refl _) _ _ _ _ _ _ _ _ _), set9_bk kr _ _ _ _ _ _ _ _ _⟩
set_option maxRecDepth 100000 in
set_option maxHeartbeats 16000000 in
theorem node10_any (A : Option Addr) (n c : Nat) (l : List ByteArray) (w : World) (h : Rd w w.heap.size 1 A n (strs l)) (hl : szs l ≤ 65538) (hnc : n ≤ c) (hcm : c ≤ maxLen) (h2 : 2 ≤ n) : Calls Tryz.prog 147 #[.slice A n c] w (NodeOut w) := by
  unfold maxLen at hcm
  have hll := strs_len h
  have hn := szs_len l
  have hn2 : n ≤ 65538 := by omega
  have H := Lib.hid h
  have HL := Lib.hid (And.intro hll hl)
  obtain ⟨ab, ao, x1, rfl, hab, -, hx1⟩ := strs_at h (show 1 < n by omega)
  have e1 : (1 : Int) < n := by omega
  clear h hll hn hl
  go_enter Tryz.func147, Tryz.ntmps147
  go_upto_region 2 with fail
  have kr : Bk ((w.alloc (.cells zeroN 113)).alloc (.cells #[.string x1, .slice none 0 0, .bool false, .bool false, .bool true, .int .i64 0, .bool false, .slice none 0 0, .string { data := #[] }] 113)) w.heap.size 113 Nd.zero.arr := (Bk.new w _ _).alloc _
  have kn : Bk ((w.alloc (.cells zeroN 113)).alloc (.cells #[.string x1, .slice none 0 0, .bool false, .bool false, .bool true, .int .i64 0, .bool false, .slice none 0 0, .string { data := #[] }] 113)) (w.heap.size + 1) 113 (⟨x1, .slice none 0 0, [], false, false, true, 0, false, .slice none 0 0, [], { data := #[] }⟩ : Nd).arr := Bk.made _ _ (by simp)
  have hb0 : Below w.heap.size w ((w.alloc (.cells zeroN 113)).alloc (.cells #[.string x1, .slice none 0 0, .bool false, .bool false, .bool true, .int .i64 0, .bool false, .slice none 0 0, .string { data := #[] }] 113)) := belowA
  generalize (w.alloc (.cells zeroN 113)).alloc (.cells #[.string x1, .slice none 0 0, .bool false, .bool false, .bool true, .int .i64 0, .bool false, .slice none 0 0, .string { data := #[] }] 113) = w0 at *
  have hI0 := Lib.hid (show NodeI w w0 2 (.slice none 0 0) [] ⟨x1, .slice none 0 0, [], false, false, true, 0, false, .slice none 0 0, [], { data := #[] }⟩ from ⟨World.ownsRow_nil _ _ _ _, by simp, kr, kn, ⟨World.ownsRow_nil _ _ _ _, by simp, World.ownsRow_nil _ _ _ _, by simp, by show (0 : Nat) ≤ _; omega⟩, by simp, hb0, (fun j hj => by simp [Value.ownBlock] at hj), (fun j hj => by simp [Value.ownBlock] at hj)⟩)
  clear kr kn hb0 hx1
  go_wp2
  go_loopw [5, 6] (fun v j wr => ∃ (k : Nat) (ml : List ByteArray) (p : Nd), k ≤ n ∧ j = .int .i64 k ∧ Hid (NodeI w wr k v ml p)) (fun _ j _ => n - (intOf j).toNat)
  case atStart => exact ⟨2, [], _, by omega, rfl, hI0⟩
  case round =>
    clear hI0
    obtain ⟨k, ml, p, hk, rfl, hI⟩ := hrel
    obtain ⟨Am, cm, rfl, hm1, hm2, -, hmr⟩ := own_form hI.out.own
    have HM := Lib.hid hmr
    have hbw := hI.out.b
    have hz := hbw.size
    have hmlen := hI.out.mlen
    obtain ⟨nm, gv, gs, il, pk, lf, at_, all, mv, ms, ex⟩ := p
    have hgl := hI.out.g
    obtain ⟨Ag, cg, eg, -, -, -, -⟩ := own_form hI.out.i.g
    obtain ⟨Ak, ck, ek, -, -, -, -⟩ := own_form hI.out.i.m
    dsimp only at eg ek
    subst eg
    subst ek
    have rf := hI.out.r.frozen; have rl := def_lt' hI.out.r
    have nf := hI.out.n.frozen; have nl := def_lt' hI.out.n
    obtain ⟨q0, q1, q2, q3, q4, q5, q6, q7, q8⟩ := bk9 hI.out.n
    obtain ⟨r0, r1, r2, r3, r4, r5, r6, r7, r8⟩ := bk9 (show Bk wr w.heap.size 113 zeroN from hI.out.r)
    dsimp only at hgl
    clear hmr hm1 hm2
    by_cases hlt : k < n
    · have e3 : (k : Int) < n := by omega
      obtain ⟨b', o', y, hA, hb', hy, hyc⟩ := strs_at (H.out.below hbw) hlt
      obtain ⟨rfl, rfl⟩ : ab = b' ∧ ao = o' := by simpa using hA
      have HY := Lib.hid (szs_mem (List.mem_of_getElem? hy))
      have hy2 : y.size ≤ 65538 := by have := HY.out; have := HL.out.2; omega
      clear hA hy
      by_cases hcol : (y.toList == [58]) = true
      · have e4 : (k : Int) + 1 ≤ n := by omega
        have e5 : (k : Int) + 1 ≤ c := by omega
        have hszr : szs (l.drop (k + 1)) ≤ 65538 := Nat.le_trans (szs_drop_le l (k + 1)) HL.out.2
        have hr1 : Rd wr wr.heap.size 1 (some ⟨ab, ao + (k + 1), none⟩) (n - (k + 1)) (strs (l.drop (k + 1))) := ((rd_rest H.out (show k + 1 ≤ n by omega)).below hbw).more hz
        have hr0 : c = k + 1 → Rd wr wr.heap.size 1 (some ⟨ab, ao, none⟩) (n - (k + 1)) (strs (l.drop (k + 1))) := fun h => by
          rw [show n - (k + 1) = 0 by omega, List.drop_of_length_le (by rw [HL.out.1]; omega)]
          exact Rd.nil_ _ _ _ _
        have hj := fun A' c' hr => join_any A' (n - (k + 1)) c' (l.drop (k + 1)) wr hr (by omega)
        have HJJ := Lib.hid hj
        have HR1 := Lib.hid hr1
        have HR0 := Lib.hid hr0
        have HS := Lib.hid hszr
        clear hj hr1 hr0 hszr
        by_cases hcap : c = k + 1
        case' pos =>
          have HJ := Lib.hid (HJJ.out _ 0 (HR0.out hcap))
          clear HJJ HR1 HR0
          go_wp2_with (go_at_call 188; fail)
        case' neg =>
          have HJ := Lib.hid (HJJ.out _ (c - (k + 1)) HR1.out)
          clear HJJ HR1 HR0
          go_wp2_with (go_at_call 188; fail)
        all_goals
          refine HJ.out.mono ?_
          rintro e w1 ⟨⟨s, rfl, hs⟩, hb1⟩
          have hp6 := Lib.hid (parse6_any s w1 (by have := HS.out; omega))
          go_wp2_with (go_at_call 49; fail)
          refine hp6.out.mono ?_
          rintro e w2 ⟨v2, at2, er, rfl, ⟨n2, l2, hP, hn2', hw2⟩, hb2⟩
          obtain ⟨A2, c2, rfl, -, -, -, -⟩ := own_form hP.row
          have hb12 : Below wr.heap.size wr w2 := hb1.trans (hb2.mono hb1.size)
          have hI2 := hI.out.below hb12
          have h4 := hI2.set (p' := ⟨nm, .slice Ag gs.length cg, gs, il, pk, false, at_, all, .slice Ak ms.length ck, ms, ex⟩) 4 (.bool false) (hI2.n.set_ 4 _) rfl rfl rfl rfl hI.out.i.ex
          have hP4 := Lib.hid (hP.grow (row := some (w.heap.size + 1)) (gr_set (p := ⟨w.heap.size + 1, 4, none⟩) (World.grownBy.refl w2 _) (.inl rfl) (.bool false)) (fun g hg => by cases hg; exact own_ne hP.row hI2.n (by decide)) (fun i p hp g hg => by cases hg; exact own_ne (hP.own i p hp) hI2.n (by decide)))
          have H4 := Lib.hid h4
          have rf2 := hI2.r.frozen; have rl2 := def_lt' hI2.r
          have nf2 := hI2.n.frozen; have nl2 := def_lt' hI2.n
          obtain ⟨s0, s1, s2, s3, s4, s5, s6, s7, s8⟩ := bk9 hI2.n
          obtain ⟨t0, t1, t2, t3, t4, t5, t6, t7, t8⟩ := bk9 (show Bk w2 w.heap.size 113 zeroN from hI2.r)
          clear hP h4 hI2
          by_cases h0 : n2 = 0
          · have f0 : ¬ (0 : Int) < n2 := by omega
            clear h0
            go_wp2
            have hL := node_left H4.out.r H4.out.i H4.out.b
            dsimp only at hL
            obtain ⟨hL1, hL2, hL3⟩ := hL
            unfold set9 at hL1 hL2 hL3
            obtain ⟨z0, z1, z2, z3, z4, z5, z6, z7, z8⟩ := bk9 hL3
            exact bodyPost_ret (v := .tuple #[.agg #[.string nm, .slice Ag gs.length cg, .bool il, .bool pk, .bool false, .int .i64 at_, .bool all, .slice Ak ms.length ck, .string ex], .bool (er == 0)]) (by simp [results, Tryz.results147, go_sem, z0, z1, z2, z3, z4, z5, z6, z7, z8]) rfl ⟨(⟨nm, .slice Ag gs.length cg, gs, il, pk, false, at_, all, .slice Ak ms.length ck, ms, ex⟩ : Nd), _, rfl, hL1, hL2⟩
          · have f0 : (0 : Int) < n2 := by omega
            have hsh := fun hn => show6_any n2 c2 _ A2 l2 _ hP4.out (by omega) hn hw2
            have HSH := Lib.hid (hsh (by omega))
            clear hsh h0
            go_wp2_with (go_at_call 189; fail)
            refine HSH.out.mono ?_
            rintro e w4 ⟨s4', rfl, hs4, hb4⟩
            have hI4 := H4.out.below hb4
            have h5 := hI4.set (p' := ⟨nm, .slice Ag gs.length cg, gs, il, pk, false, at_, all, .slice Ak ms.length ck, ms, s4'⟩) 8 (.string s4') (hI4.n.set_ 8 _) rfl rfl rfl rfl hs4
            have H5 := Lib.hid h5
            have rf4 := hI4.r.frozen; have rl4 := def_lt' hI4.r
            have nf4 := hI4.n.frozen; have nl4 := def_lt' hI4.n
            obtain ⟨a0, a1, a2, a3, a4, a5, a6, a7, a8⟩ := bk9 hI4.n
            obtain ⟨d0, d1, d2, d3, d4, d5, d6, d7, d8⟩ := bk9 (show Bk w4 w.heap.size 113 zeroN from hI4.r)
            clear h5 hI4
            go_wp2
            have hL := node_left H5.out.r H5.out.i H5.out.b
            dsimp only at hL
            obtain ⟨hL1, hL2, hL3⟩ := hL
            unfold set9 at hL1 hL2 hL3
            obtain ⟨z0, z1, z2, z3, z4, z5, z6, z7, z8⟩ := bk9 hL3
            exact bodyPost_ret (v := .tuple #[.agg #[.string nm, .slice Ag gs.length cg, .bool il, .bool pk, .bool false, .int .i64 at_, .bool all, .slice Ak ms.length ck, .string s4'], .bool (er == 0)]) (by simp [results, Tryz.results147, go_sem, z0, z1, z2, z3, z4, z5, z6, z7, z8]) rfl ⟨(⟨nm, .slice Ag gs.length cg, gs, il, pk, false, at_, all, .slice Ak ms.length ck, ms, s4'⟩ : Nd), _, rfl, hL1, hL2⟩
      · replace hcol : (y.toList == [58]) = false := by simpa using hcol
        have hct := Lib.hid (cut10_any y wr (by unfold maxLen; omega))
        go_wp2_with (go_at_call 185; fail)
        refine hct.out.mono ?_
        rintro e w1 ⟨x, v, hb, rfl, hx, hv, hb1⟩
        have hI1 := Lib.hid (hI.out.below hb1)
        have hha := has10_any Am ml.length cm ml x w1 ((HM.out.below hb1).more hb1.size) (by unfold maxLen; omega)
        have HHA := Lib.hid hha
        clear hha hct q0 q1 q2 q3 q4 q5 q6 q7 q8 r0 r1 r2 r3 r4 r5 r6 r7 r8 rf rl nf nl
        go_wp2_with (go_at_call 151; fail)
        refine HHA.out.mono ?_
        rintro e w2 ⟨⟨b0, rfl⟩, hb2⟩
        have hI2 := Lib.hid (hI1.out.below hb2)
        have hz2 := hI2.out.b.size
        go_upto_block 2 with (at_builtin; ((refine app_one Tryz.underlying111 info_str rfl (by decide) w2 w.heap.size _ ml.length _ hI2.out.own (by unfold maxLen; omega) (by omega) hz2 _ rfl (by simp [Value.oneCell']) rfl _ _ rfl rfl rfl ?_); intro g4 cap4 w4 hown4 hgr4 hat4 hlt4))
        have hI4 := Lib.hid (hI2.out.push hgr4 hown4 hat4)
        clear hown4 hgr4 hat4 hI1 hI2 HHA hI HM hlt4 hz2 hb1 hb2
        go_cut [13] (fun u wx => ∃ (bb : Bool) (p' : Nd), u = .bool bb ∧ Hid (NodeI w wx (k + 1) (.slice (some ⟨g4, 0, none⟩) (ml.length + 1) cap4) (ml ++ [x]) p'))
        case first =>
          go_upto_region 16 with fail
          go_cut [69] (fun u wx => ∃ bb : Bool, u = .bool bb ∧ wx = w4)
          case first =>
            cases hxg : (x.toList == [103, 114, 111, 117, 112]) <;> cases hb
            all_goals
              go_wp2
              go_meet
              exact ⟨_, rfl, rfl⟩
          case rest =>
          obtain ⟨bb, rfl, hwc⟩ := hcut
          rw [← hwc] at hI4
          clear hwc
          have rf4 := hI4.out.r.frozen; have rl4 := def_lt' hI4.out.r; have nf4 := hI4.out.n.frozen; have nl4 := def_lt' hI4.out.n; obtain ⟨s04, s14, s24, s34, s44, s54, s64, s74, s84⟩ := bk9 hI4.out.n
          have hz4 := hI4.out.b.size
          cases bb with
          | true =>
            have hr2 : Rd wc wc.heap.size 1 Ag gs.length (strs gs) := by
              obtain ⟨Ag2, cg2, eg2, -, -, -, hr2⟩ := own_form hI4.out.i.g
              injection eg2 with ea eb ec
              subst ea
              exact hr2
            have HR2 := Lib.hid hr2
            clear hr2
            have hnm := Lib.hid (name_any v wc (by unfold maxLen; omega))
            go_upto_region 17 with fail
            go_cut [13] (fun u wx => ∃ bb : Bool, u = .bool bb ∧ Below wc.heap.size wc wx)
            case first =>
              go_wp2_with (go_at_call 145; fail)
              refine hnm.out.mono ?_
              rintro e w5 ⟨⟨b1, rfl⟩, hb5⟩
              have hI5 := Lib.hid (hI4.out.below hb5)
              have rf5 := hI5.out.r.frozen; have rl5 := def_lt' hI5.out.r; have nf5 := hI5.out.n.frozen; have nl5 := def_lt' hI5.out.n; obtain ⟨s05, s15, s25, s35, s45, s55, s65, s75, s85⟩ := bk9 hI5.out.n
              cases b1 with
              | false =>
                go_wp2
                go_meet
                exact ⟨_, rfl, hb5⟩
              | true =>
                have hha := has10_any Ag gs.length cg gs v w5 ((HR2.out.below hb5).more hb5.size) (by unfold maxLen; omega)
                have HHA := Lib.hid hha
                clear hha
                go_wp2_with (go_at_call 151; fail)
                refine HHA.out.mono ?_
                rintro e w6 ⟨⟨b2, rfl⟩, hb6⟩
                have hb56 := hb5.trans (hb6.mono hb5.size)
                have hI6 := Lib.hid (hI4.out.below hb56)
                have rf6 := hI6.out.r.frozen; have rl6 := def_lt' hI6.out.r; have nf6 := hI6.out.n.frozen; have nl6 := def_lt' hI6.out.n; obtain ⟨s06, s16, s26, s36, s46, s56, s66, s76, s86⟩ := bk9 hI6.out.n
                cases b2
                all_goals
                  go_wp2
                  go_meet
                  exact ⟨_, rfl, hb56⟩
            case rest =>
            obtain ⟨bb, rfl, hb5⟩ := hcut
            have hI5 := Lib.hid (hI4.out.below hb5)
            have rf5 := hI5.out.r.frozen; have rl5 := def_lt' hI5.out.r; have nf5 := hI5.out.n.frozen; have nl5 := def_lt' hI5.out.n; obtain ⟨s05, s15, s25, s35, s45, s55, s65, s75, s85⟩ := bk9 hI5.out.n
            have hz5 := hI5.out.b.size
            go_wp2_with (at_builtin; ((refine app_one Tryz.underlying111 info_str rfl (by decide) _ w.heap.size _ gs.length _ hI5.out.i.g (by unfold maxLen; omega) (by omega) hz5 _ rfl (by simp [Value.oneCell']) rfl _ _ rfl rfl rfl ?_); intro g6 cap6 w6 hown6 hgr6 hat6 hlt6; have kn6 := hI5.out.n.grown hgr6 (own_ne hI5.out.i.g hI5.out.n (by decide)); have nf6 := kn6.frozen; have nl6 := def_lt' kn6; obtain ⟨m0, m1, m2, m3, m4, m5, m6, m7, m8⟩ := bk9 kn6))
            go_meet
            exact ⟨_, _, rfl, Lib.hid (hI5.out.grp (by show gs.length + 3 ≤ _; omega) (by omega) hgr6 hown6 hat6)⟩
          | false =>
            have hvl := Lib.hid (value_any v wc (by unfold maxLen; omega))
            have hls := Lib.hid (list10_any v wc (by omega))
            rcases words4 x.toList with ⟨t1, t2, t3, t4⟩ | ⟨t1, t2, t3, t4⟩ | ⟨t1, t2, t3, t4⟩ | ⟨t1, t2, t3, t4⟩ | ⟨t1, t2, t3, t4⟩
            all_goals cases hb
            all_goals cases b0
            all_goals go_wp2_with (first | (go_at_call 186; (refine hvl.out.mono ?_); rintro e w5 ⟨⟨z, rfl, -, -⟩, hb5⟩; have hI5 := Lib.hid (hI4.out.below hb5); have rf5 := hI5.out.r.frozen; have rl5 := def_lt' hI5.out.r; have nf5 := hI5.out.n.frozen; have nl5 := def_lt' hI5.out.n; obtain ⟨s05, s15, s25, s35, s45, s55, s65, s75, s85⟩ := bk9 hI5.out.n) | (go_at_call 187; (refine hls.out.mono ?_); rintro e w5 ⟨a5, v5, b5, rfl, htx, hb5⟩; have hI5 := Lib.hid (hI4.out.below hb5); obtain ⟨l5, ho5, hs5⟩ := htx.own; obtain ⟨A5, c5, rfl, -, -, -, -⟩ := own_form ho5; have rf5 := hI5.out.r.frozen; have rl5 := def_lt' hI5.out.r; have nf5 := hI5.out.n.frozen; have nl5 := def_lt' hI5.out.n; obtain ⟨s05, s15, s25, s35, s45, s55, s65, s75, s85⟩ := bk9 hI5.out.n))
            all_goals go_meet
            all_goals first
              | exact ⟨_, _, rfl, hI4⟩
              | exact ⟨_, _, rfl, Lib.hid (hI4.out.set (p' := ⟨nm, .slice Ag gs.length cg, gs, true, pk, lf, at_, all, .slice Ak ms.length ck, ms, ex⟩) 2 (.bool true) (hI4.out.n.set_ 2 _) rfl rfl rfl rfl hI4.out.i.ex)⟩
              | exact ⟨_, _, rfl, Lib.hid (hI4.out.set (p' := ⟨nm, .slice Ag gs.length cg, gs, il, true, lf, at_, all, .slice Ak ms.length ck, ms, ex⟩) 3 (.bool true) (hI4.out.n.set_ 3 _) rfl rfl rfl rfl hI4.out.i.ex)⟩
              | exact ⟨_, _, rfl, Lib.hid (hI5.out.set (p' := ⟨nm, .slice Ag gs.length cg, gs, il, pk, lf, z, all, .slice Ak ms.length ck, ms, ex⟩) 5 (.int .i64 z) (hI5.out.n.set_ 5 _) rfl rfl rfl rfl hI4.out.i.ex)⟩
              | exact ⟨_, _, rfl, Lib.hid (hI4.out.mks hb5 ho5 (by have := szs_len l5; omega) a5)⟩
        case rest =>
        obtain ⟨bb, p', rfl, hI6⟩ := hcut
        have rf := hI6.out.r.frozen; have rl := def_lt' hI6.out.r
        obtain ⟨r0, r1, r2, r3, r4, r5, r6, r7, r8⟩ := bk9 (show Bk _ w.heap.size 113 zeroN from hI6.out.r)
        cases bb with
        | true =>
          go_wp2
          go_roundw
          case rel => exact ⟨k + 1, ml ++ [x], p', by omega, by go_num, hI6⟩
          case measure => simp [intOf]; omega
        | false =>
          go_wp2
          have hL := node_left (p := Nd.zero) hI6.out.r (Nd.zero_in _ _) hI6.out.b
          dsimp only [Nd.zero] at hL
          obtain ⟨hL1, hL2, hL3⟩ := hL
          unfold set9 at hL1 hL2 hL3
          obtain ⟨z0, z1, z2, z3, z4, z5, z6, z7, z8⟩ := bk9 hL3
          exact bodyPost_ret (v := .tuple #[.agg zeroN, .bool false]) (by simp [results, Tryz.results147, go_sem, z0, z1, z2, z3, z4, z5, z6, z7, z8]) rfl ⟨Nd.zero, _, rfl, hL1, hL2⟩
    · obtain rfl : n = k := by omega
      go_wp2
      have hL := node_left hI.out.r hI.out.i hI.out.b
      dsimp only at hL
      obtain ⟨hL1, hL2, hL3⟩ := hL
      unfold set9 at hL1 hL2 hL3
      obtain ⟨z0, z1, z2, z3, z4, z5, z6, z7, z8⟩ := bk9 hL3
      exact bodyPost_ret (v := .tuple #[.agg #[.string nm, .slice Ag gs.length cg, .bool il, .bool pk, .bool lf, .int .i64 at_, .bool all, .slice Ak ms.length ck, .string ex], .bool true]) (by simp [results, Tryz.results147, go_sem, z0, z1, z2, z3, z4, z5, z6, z7, z8]) rfl ⟨(⟨nm, .slice Ag gs.length cg, gs, il, pk, lf, at_, all, .slice Ak ms.length ck, ms, ex⟩ : Nd), _, rfl, hL1, hL2⟩
/-- what a line says of a mark -/
structure Mr where
  nm : ByteArray
  val : Int
  all : Bool
  bv : Value
  bs : List ByteArray
def Mr.arr (p : Mr) : Array Value := #[.string p.nm, .int .i64 p.val, .bool p.all, p.bv]
def Mr.zero : Mr := ⟨{ data := #[] }, 0, false, .slice none 0 0, []⟩
structure Mr.In (p : Mr) (w : World) (base : Nat) : Prop where
  b : w.ownsRow base 9 1 p.bv p.bs.length (strs p.bs)
  bl : p.bs.length ≤ 70000
theorem Mr.In.below {p : Mr} {w w' : World} {base : Nat} (h : p.In w base) (hb : Below w.heap.size w w') : p.In w' base := ⟨own_below h.b hb, h.bl⟩
theorem Mr.In.base_ {p : Mr} {w : World} {base base' : Nat} (h : p.In w base) (hb : base' ≤ base) : p.In w base' := ⟨own_base h.b hb, h.bl⟩
theorem Mr.zero_in (w : World) (base : Nat) : Mr.zero.In w base := ⟨World.ownsRow_nil _ _ _ _, by simp [Mr.zero]⟩
theorem bk4 {w : World} {b : Nat} {t : TypeId} {x0 x1 x2 x3 : Value} (k : Bk w b t #[x0, x1, x2, x3]) : w.cell? ⟨b, 0, none⟩ = some x0 ∧ w.cell? ⟨b, 1, none⟩ = some x1 ∧ w.cell? ⟨b, 2, none⟩ = some x2 ∧ w.cell? ⟨b, 3, none⟩ = some x3 :=
  ⟨k.cell 0, k.cell 1, k.cell 2, k.cell 3⟩
def set4 (w : World) (b : Nat) (x0 x1 x2 x3 : Value) : World := (((w.setCell ⟨b, 0, none⟩ x0).setCell ⟨b, 1, none⟩ x1).setCell ⟨b, 2, none⟩ x2).setCell ⟨b, 3, none⟩ x3
theorem set4_bk {w : World} {b : Nat} {t : TypeId} {y0 y1 y2 y3 : Value} (k : Bk w b t #[y0, y1, y2, y3]) (x0 x1 x2 x3 : Value) : Bk (set4 w b x0 x1 x2 x3) b t #[x0, x1, x2, x3] := by
  have q0 : Bk _ b t #[x0, y1, y2, y3] := k.set_ 0 x0
  have q1 : Bk _ b t #[x0, x1, y2, y3] := q0.set_ 1 x1
  have q2 : Bk _ b t #[x0, x1, x2, y3] := q1.set_ 2 x2
  have q3 : Bk _ b t #[x0, x1, x2, x3] := q2.set_ 3 x3
  exact q3
theorem set4_below {w : World} {base b : Nat} (hb : base ≤ b) (x0 x1 x2 x3 : Value) : Below base w (set4 w b x0 x1 x2 x3) := by
  unfold set4
  iterate 4 with_reducible refine Below.setCell ?_ hb _
  exact Below.refl _ _
theorem set4_own {w : World} {b : Nat} {t : TypeId} {cs : Array Value} (k : Bk w b t cs) {base : Nat} {e : TypeId} {size : Nat} {v : Value} {n : Nat} {xs : List Value} (h : w.ownsRow base e size v n xs) (hne : e ≠ t) (x0 x1 x2 x3 : Value) : (set4 w b x0 x1 x2 x3).ownsRow base e size v n xs := by
  have hb := own_ne h k hne
  exact ownsRow_setCell_other (ownsRow_setCell_other (ownsRow_setCell_other (ownsRow_setCell_other h hb x0) hb x1) hb x2) hb x3
/-- in the midst of a line -/
structure MarkI (w wr : World) (k : Nat) (met : Value) (ml : List ByteArray) (p : Mr) : Prop where
  own : wr.ownsRow w.heap.size 9 1 met ml.length (strs ml)
  mlen : ml.length + 2 ≤ k
  r : Bk wr w.heap.size 183 Mr.zero.arr
  n : Bk wr (w.heap.size + 1) 183 p.arr
  i : p.In wr w.heap.size
  b : Below w.heap.size w wr
  dj : ∀ j, met.ownBlock = some j → p.bv.ownBlock ≠ some j
theorem MarkI.below {w wr wx : World} {k : Nat} {met : Value} {ml : List ByteArray} {p : Mr} (h : MarkI w wr k met ml p) (hb : Below wr.heap.size wr wx) : MarkI w wx k met ml p :=
  ⟨own_below h.own hb, h.mlen, h.r.ext hb, h.n.ext hb, h.i.below hb, h.b.trans (hb.mono h.b.size), h.dj⟩
theorem MarkI.set {w wr : World} {k : Nat} {met : Value} {ml : List ByteArray} {p p' : Mr} (h : MarkI w wr k met ml p) (j : Nat) (u : Value) (hp : Bk (wr.setCell ⟨w.heap.size + 1, j, none⟩ u) (w.heap.size + 1) 183 p'.arr) (e1 : p'.bv = p.bv) (e2 : p'.bs = p.bs) : MarkI w (wr.setCell ⟨w.heap.size + 1, j, none⟩ u) k met ml p' :=
  ⟨ownsRow_setCell_other h.own (own_ne h.own h.n (by decide)) _, h.mlen, h.r.far (by simp) _, hp, ⟨by rw [e1, e2]; exact ownsRow_setCell_other h.i.b (own_ne h.i.b h.n (by decide)) _, by rw [e2]; exact h.i.bl⟩, h.b.setCell (by simp) _, by rw [e1]; exact h.dj⟩
theorem MarkI.push {w wr w' : World} {k g4 cap4 : Nat} {met : Value} {ml : List ByteArray} {p : Mr} {x : ByteArray} (h : MarkI w wr k met ml p) (hg : wr.grownBy w' met.ownBlock) (ho : w'.ownsRow w.heap.size 9 1 (.slice (some ⟨g4, 0, none⟩) (ml.length + 1) cap4) (ml.length + 1) (strs ml ++ [.string x])) (hat : met.ownBlock = some g4 ∨ wr.heap.size < g4) : MarkI w w' (k + 1) (.slice (some ⟨g4, 0, none⟩) (ml.length + 1) cap4) (ml ++ [x]) p := by
  refine ⟨by simpa [strs] using ho, by simp; have := h.mlen; omega, h.r.grown hg (own_ne h.own h.r (by decide)), h.n.grown hg (own_ne h.own h.n (by decide)), ⟨hown_grow h.i.b hg (fun j hj => h.dj j hj), h.i.bl⟩, below_own h.b h.own hg h.b.size (Nat.le_refl _), fun j hj e2 => ?_⟩
  have e : g4 = j := by simpa [Value.ownBlock] using hj
  subst e
  rcases hat with h1 | h1
  · exact h.dj _ h1 e2
  · have := own_lt h.i.b _ e2; omega
/-- its bars -/
theorem MarkI.bars {w wr w' : World} {k : Nat} {met v : Value} {ml l : List ByteArray} {p : Mr} (h : MarkI w wr k met ml p) (hb : Below wr.heap.size wr w') (ho : w'.ownsRow wr.heap.size 9 1 v l.length (strs l)) (hl : l.length ≤ 70000) (a : Bool) : MarkI w ((w'.setCell ⟨w.heap.size + 1, 2, none⟩ (.bool a)).setCell ⟨w.heap.size + 1, 3, none⟩ v) k met ml { p with all := a, bv := v, bs := l } := by
  have h' := h.below hb
  have h6 := h'.set (p' := { p with all := a }) 2 (.bool a) (h'.n.set_ 2 _) rfl rfl
  have hz := hb.size
  have hv := own_base ho h.b.size
  have hv6 := ownsRow_setCell_other hv (own_ne hv h'.n (by decide)) (a := ⟨w.heap.size + 1, 2, none⟩) (.bool a)
  refine ⟨ownsRow_setCell_other h6.own (own_ne h6.own h6.n (by decide)) _, h.mlen, h6.r.far (by simp) _, h6.n.set_ 3 _, ⟨ownsRow_setCell_other hv6 (own_ne hv6 h6.n (by decide)) _, hl⟩, h6.b.setCell (by simp) _, fun j hj e => ?_⟩
  have h1 := own_ge ho j e
  have h2 := own_lt h.own j hj
  omega
def MarkOut (w : World) (e : Ending) (w' : World) : Prop := ∃ (p : Mr) (ok : Bool), e = .returned (.tuple #[.agg p.arr, .bool ok]) ∧ p.In w' w.heap.size ∧ Below w.heap.size w w'
abbrev zeroM : Array Value := #[.string { data := #[] }, .int .i64 0, .bool false, .slice none 0 0]
theorem mark_left {w W : World} {p p2 : Mr} (kr : Bk W w.heap.size 183 p2.arr) (hi : p.In W w.heap.size) (hb : Below w.heap.size w W) : p.In (set4 W w.heap.size (.string p.nm) (.int .i64 p.val) (.bool p.all) p.bv) w.heap.size ∧ Below w.heap.size w (set4 W w.heap.size (.string p.nm) (.int .i64 p.val) (.bool p.all) p.bv) ∧ Bk (set4 W w.heap.size (.string p.nm) (.int .i64 p.val) (.bool p.all) p.bv) w.heap.size 183 #[.string p.nm, .int .i64 p.val, .bool p.all, p.bv] :=
  ⟨⟨set4_own kr hi.b (by decide) _ _ _ _, hi.bl⟩, hb.trans (set4_below (Nat.le_refl _) _ _ _ _), set4_bk kr _ _ _ _⟩
set_option maxRecDepth 100000 in
set_option maxHeartbeats 16000000 in
theorem mark10_any (A : Option Addr) (n c : Nat) (l : List ByteArray) (w : World) (h : Rd w w.heap.size 1 A n (strs l)) (hl : szs l ≤ 65538) (h2 : 2 ≤ n) : Calls Tryz.prog 146 #[.slice A n c] w (MarkOut w) := by
  have hll := strs_len h
  have hn := szs_len l
  have hn2 : n ≤ 65538 := by omega
  have H := Lib.hid h
  have HL := Lib.hid (And.intro hll hl)
  obtain ⟨ab, ao, x1, rfl, hab, -, hx1⟩ := strs_at h (show 1 < n by omega)
  have e1 : (1 : Int) < n := by omega
  clear h hll hn hl
  go_enter Tryz.func146, Tryz.ntmps146
  go_upto_region 2 with fail
  have kr : Bk ((w.alloc (.cells zeroM 183)).alloc (.cells #[.string x1, .int .i64 0, .bool false, .slice none 0 0] 183)) w.heap.size 183 Mr.zero.arr := (Bk.new w _ _).alloc _
  have kn : Bk ((w.alloc (.cells zeroM 183)).alloc (.cells #[.string x1, .int .i64 0, .bool false, .slice none 0 0] 183)) (w.heap.size + 1) 183 (⟨x1, 0, false, .slice none 0 0, []⟩ : Mr).arr := Bk.made _ _ (by simp)
  have hb0 : Below w.heap.size w ((w.alloc (.cells zeroM 183)).alloc (.cells #[.string x1, .int .i64 0, .bool false, .slice none 0 0] 183)) := belowA
  generalize (w.alloc (.cells zeroM 183)).alloc (.cells #[.string x1, .int .i64 0, .bool false, .slice none 0 0] 183) = w0 at *
  have hI0 := Lib.hid (show MarkI w w0 2 (.slice none 0 0) [] ⟨x1, 0, false, .slice none 0 0, []⟩ from ⟨World.ownsRow_nil _ _ _ _, by simp, kr, kn, ⟨World.ownsRow_nil _ _ _ _, by simp⟩, hb0, (fun j hj => by simp [Value.ownBlock] at hj)⟩)
  clear kr kn hb0 hx1
  go_wp2
  go_loopw [5, 6] (fun v j wr => ∃ (k : Nat) (ml : List ByteArray) (p : Mr), k ≤ n ∧ j = .int .i64 k ∧ Hid (MarkI w wr k v ml p)) (fun _ j _ => n - (intOf j).toNat)
  case atStart => exact ⟨2, [], _, by omega, rfl, hI0⟩
  case round =>
    clear hI0
    obtain ⟨k, ml, p, hk, rfl, hI⟩ := hrel
    obtain ⟨Am, cm, rfl, hm1, hm2, -, hmr⟩ := own_form hI.out.own
    have HM := Lib.hid hmr
    have hbw := hI.out.b
    have hz := hbw.size
    have hmlen := hI.out.mlen
    obtain ⟨nm, val, all, bv, bs⟩ := p
    obtain ⟨Ag, cg, eg, -, -, -, -⟩ := own_form hI.out.i.b
    dsimp only at eg
    subst eg
    have rf := hI.out.r.frozen; have rl := def_lt' hI.out.r
    have nf := hI.out.n.frozen; have nl := def_lt' hI.out.n
    obtain ⟨q0, q1, q2, q3⟩ := bk4 hI.out.n
    obtain ⟨r0, r1, r2, r3⟩ := bk4 (show Bk wr w.heap.size 183 zeroM from hI.out.r)
    clear hmr hm1 hm2
    by_cases hlt : k < n
    · have e3 : (k : Int) < n := by omega
      obtain ⟨b', o', y, hA, hb', hy, hyc⟩ := strs_at (H.out.below hbw) hlt
      obtain ⟨rfl, rfl⟩ : ab = b' ∧ ao = o' := by simpa using hA
      have HY := Lib.hid (szs_mem (List.mem_of_getElem? hy))
      have hy2 : y.size ≤ 65538 := by have := HY.out; have := HL.out.2; omega
      clear hA hy
      have hct := Lib.hid (cut10_any y wr (by unfold maxLen; omega))
      go_wp2_with (go_at_call 185; fail)
      refine hct.out.mono ?_
      rintro e w1 ⟨x, v, hb, rfl, hx, hv, hb1⟩
      have hI1 := Lib.hid (hI.out.below hb1)
      have hha := has10_any Am ml.length cm ml x w1 ((HM.out.below hb1).more hb1.size) (by unfold maxLen; omega)
      have HHA := Lib.hid hha
      clear hha hct q0 q1 q2 q3 r0 r1 r2 r3 rf rl nf nl
      go_upto_region 7 with fail
      go_cut [10] (fun u wx => ∃ bb : Bool, u = .bool bb ∧ Below w1.heap.size w1 wx)
      case first =>
        cases hb with
        | false =>
          go_wp2
          go_meet
          exact ⟨_, rfl, Below.refl _ _⟩
        | true =>
          go_wp2_with (go_at_call 151; fail)
          refine HHA.out.mono ?_
          rintro e w2 ⟨⟨b0, rfl⟩, hb2⟩
          go_wp2
          go_meet
          exact ⟨_, rfl, hb2⟩
      case rest =>
      obtain ⟨b0, rfl, hb2⟩ := hcut
      have hI2 := Lib.hid (hI1.out.below hb2)
      have hz2 := hI2.out.b.size
      go_upto_if 45 with (at_builtin; ((refine app_one Tryz.underlying111 info_str rfl (by decide) _ w.heap.size _ ml.length _ hI2.out.own (by unfold maxLen; omega) (by omega) hz2 _ rfl (by simp [Value.oneCell']) rfl _ _ rfl rfl rfl ?_); intro g4 cap4 w4 hown4 hgr4 hat4 hlt4))
      have hI4 := Lib.hid (hI2.out.push hgr4 hown4 hat4)
      clear hown4 hgr4 hat4 hI1 hI2 HHA hI HM hlt4 hz2 hb1 hb2
      go_cut [10] (fun u wx => ∃ (bb : Bool) (p' : Mr), u = .bool bb ∧ Hid (MarkI w wx (k + 1) (.slice (some ⟨g4, 0, none⟩) (ml.length + 1) cap4) (ml ++ [x]) p'))
      case first =>
        have rf4 := hI4.out.r.frozen; have rl4 := def_lt' hI4.out.r; have nf4 := hI4.out.n.frozen; have nl4 := def_lt' hI4.out.n; obtain ⟨s0, s1, s2, s3⟩ := bk4 hI4.out.n
        have hz4 := hI4.out.b.size
        have hvl := Lib.hid (value_any v w4 (by unfold maxLen; omega))
        have hls := Lib.hid (list10_any v w4 (by omega))
        cases t1 : (x.toList == [118, 97, 108]) <;> cases t2 : (x.toList == [98, 97, 114, 115])
        all_goals cases b0
        all_goals go_wp2_with (first | (go_at_call 186; (refine hvl.out.mono ?_); rintro e w5 ⟨⟨z, rfl, -, -⟩, hb5⟩; have hI5 := Lib.hid (hI4.out.below hb5); have rf5 := hI5.out.r.frozen; have rl5 := def_lt' hI5.out.r; have nf5 := hI5.out.n.frozen; have nl5 := def_lt' hI5.out.n; obtain ⟨m0, m1, m2, m3⟩ := bk4 hI5.out.n) | (go_at_call 187; (refine hls.out.mono ?_); rintro e w5 ⟨a5, v5, b5, rfl, htx, hb5⟩; have hI5 := Lib.hid (hI4.out.below hb5); obtain ⟨l5, ho5, hs5⟩ := htx.own; obtain ⟨A5, c5, rfl, -, -, -, -⟩ := own_form ho5; have rf5 := hI5.out.r.frozen; have rl5 := def_lt' hI5.out.r; have nf5 := hI5.out.n.frozen; have nl5 := def_lt' hI5.out.n; obtain ⟨m0, m1, m2, m3⟩ := bk4 hI5.out.n))
        all_goals go_meet
        all_goals first
          | exact ⟨_, _, rfl, hI4⟩
          | exact ⟨_, _, rfl, Lib.hid (hI5.out.set (p' := ⟨nm, z, all, .slice Ag bs.length cg, bs⟩) 1 (.int .i64 z) (hI5.out.n.set_ 1 _) rfl rfl)⟩
          | exact ⟨_, _, rfl, Lib.hid (hI4.out.bars hb5 ho5 (by have := szs_len l5; omega) a5)⟩
      case rest =>
      obtain ⟨bb, p', rfl, hI6⟩ := hcut
      have rf := hI6.out.r.frozen; have rl := def_lt' hI6.out.r
      obtain ⟨r0, r1, r2, r3⟩ := bk4 (show Bk _ w.heap.size 183 zeroM from hI6.out.r)
      cases bb with
      | true =>
        go_wp2
        go_roundw
        case rel => exact ⟨k + 1, ml ++ [x], p', by omega, by go_num, hI6⟩
        case measure => simp [intOf]; omega
      | false =>
        go_wp2
        have hL := mark_left (p := Mr.zero) hI6.out.r (Mr.zero_in _ _) hI6.out.b
        dsimp only [Mr.zero] at hL
        obtain ⟨hL1, hL2, hL3⟩ := hL
        unfold set4 at hL1 hL2 hL3
        obtain ⟨z0, z1, z2, z3⟩ := bk4 hL3
        exact bodyPost_ret (v := .tuple #[.agg zeroM, .bool false]) (by simp [results, Tryz.results146, go_sem, z0, z1, z2, z3]) rfl ⟨Mr.zero, _, rfl, hL1, hL2⟩
    · obtain rfl : n = k := by omega
      go_wp2
      have hL := mark_left hI.out.r hI.out.i hI.out.b
      dsimp only at hL
      obtain ⟨hL1, hL2, hL3⟩ := hL
      unfold set4 at hL1 hL2 hL3
      obtain ⟨z0, z1, z2, z3⟩ := bk4 hL3
      exact bodyPost_ret (v := .tuple #[.agg #[.string nm, .int .i64 val, .bool all, .slice Ag bs.length cg], .bool true]) (by simp [results, Tryz.results146, go_sem, z0, z1, z2, z3]) rfl ⟨(⟨nm, val, all, .slice Ag bs.length cg, bs⟩ : Mr), _, rfl, hL1, hL2⟩
def nds (l : List Nd) : List Value := l.flatMap fun p => p.arr.toList
def mrs (l : List Mr) : List Value := l.flatMap fun p => p.arr.toList
theorem nds_snoc (l : List Nd) (p : Nd) : nds (l ++ [p]) = nds l ++ p.arr.toList := by simp [nds]
theorem mrs_snoc (l : List Mr) (p : Mr) : mrs (l ++ [p]) = mrs l ++ p.arr.toList := by simp [mrs]
theorem info_nd : (Tryz.prog.info? 113).map (fun i => (i.zero, i.size, i.bytes)) = some (some (.agg #[.string ByteArray.empty, .slice none 0 0, .bool false, .bool false, .bool false, .int .i64 0, .bool false, .slice none 0 0, .string ByteArray.empty]), 9, 104) := by kernel_rfl
theorem info_mr : (Tryz.prog.info? 183).map (fun i => (i.zero, i.size, i.bytes)) = some (some (.agg #[.string ByteArray.empty, .int .i64 0, .bool false, .slice none 0 0]), 4, 56) := by kernel_rfl
/-- what lines say, as it lies -/
structure DeclIn (w : World) (base : Nat) (nv mv : Value) (ns : List Nd) (ms : List Mr) : Prop where
  n : w.ownsRow base 113 9 nv ns.length (nds ns)
  nl : ns.length ≤ 24
  m : w.ownsRow base 183 4 mv ms.length (mrs ms)
  ml : ms.length ≤ 8
  ni : ∀ p ∈ ns, p.In w base
  mi : ∀ p ∈ ms, p.In w base
section
variable {w w' : World} {base : Nat} {nv mv : Value} {ns : List Nd} {ms : List Mr}
theorem DeclIn.nil (w : World) (base : Nat) : DeclIn w base (.slice none 0 0) (.slice none 0 0) [] [] := ⟨World.ownsRow_nil _ _ _ _, by simp, World.ownsRow_nil _ _ _ _, by simp, (fun p h => by cases h), (fun p h => by cases h)⟩
theorem DeclIn.below (h : DeclIn w base nv mv ns ms) (hb : Below w.heap.size w w') : DeclIn w' base nv mv ns ms :=
  ⟨own_below h.n hb, h.nl, own_below h.m hb, h.ml, fun p hp => (h.ni p hp).below hb, fun p hp => (h.mi p hp).below hb⟩
theorem DeclIn.base_ {base' : Nat} (h : DeclIn w base nv mv ns ms) (hb : base' ≤ base) : DeclIn w base' nv mv ns ms :=
  ⟨own_base h.n hb, h.nl, own_base h.m hb, h.ml, fun p hp => (h.ni p hp).base_ hb, fun p hp => (h.mi p hp).base_ hb⟩
/-- a block of another kind is written -/
theorem DeclIn.put {t : TypeId} {b : Nat} {cs : Array Value} (h : DeclIn w base nv mv ns ms) (k : Bk w b t cs) (h1 : 113 ≠ t) (h2 : 183 ≠ t) (h3 : 9 ≠ t) (i : Nat) (u : Value) : DeclIn (w.setCell ⟨b, i, none⟩ u) base nv mv ns ms :=
  ⟨ownsRow_setCell_other h.n (own_ne h.n k h1) _, h.nl, ownsRow_setCell_other h.m (own_ne h.m k h2) _, h.ml, fun p hp => ⟨ownsRow_setCell_other (h.ni p hp).g (own_ne (h.ni p hp).g k h3) _, (h.ni p hp).gl, ownsRow_setCell_other (h.ni p hp).m (own_ne (h.ni p hp).m k h3) _, (h.ni p hp).ml, (h.ni p hp).ex⟩, fun p hp => ⟨ownsRow_setCell_other (h.mi p hp).b (own_ne (h.mi p hp).b k h3) _, (h.mi p hp).bl⟩⟩
theorem Nd.In.grow {p : Nd} {row : Option Nat} {e : TypeId} {size n : Nat} {v : Value} {xs : List Value} (h : p.In w base) (hg : w.grownBy w' row) (ho : w.ownsRow base e size v n xs) (hr : row = v.ownBlock) (hne : 9 ≠ e) : p.In w' base := by
  subst hr
  exact ⟨hown_grow h.g hg (hown_type h.g ho hne), h.gl, hown_grow h.m hg (hown_type h.m ho hne), h.ml, h.ex⟩
theorem Mr.In.grow {p : Mr} {row : Option Nat} {e : TypeId} {size n : Nat} {v : Value} {xs : List Value} (h : p.In w base) (hg : w.grownBy w' row) (ho : w.ownsRow base e size v n xs) (hr : row = v.ownBlock) (hne : 9 ≠ e) : p.In w' base := by
  subst hr
  exact ⟨hown_grow h.b hg (hown_type h.b ho hne), h.bl⟩
theorem DeclIn.pushN {p : Nd} {nv' : Value} (h : DeclIn w base nv mv ns ms) (hp : p.In w base) (hl : ns.length < 24) (hg : w.grownBy w' nv.ownBlock) (ho : w'.ownsRow base 113 9 nv' (ns.length + 1) (nds ns ++ p.arr.toList)) : DeclIn w' base nv' mv (ns ++ [p]) ms :=
  ⟨by rw [List.length_append, nds_snoc]; exact ho, by simp; omega, hown_grow h.m hg (hown_type h.m h.n (by decide)), h.ml, fun q hq => by
    rcases List.mem_append.1 hq with hq | hq
    · exact (h.ni q hq).grow hg h.n rfl (by decide)
    · simp at hq; subst hq; exact hp.grow hg h.n rfl (by decide), fun q hq => (h.mi q hq).grow hg h.n rfl (by decide)⟩
theorem DeclIn.pushM {p : Mr} {mv' : Value} (h : DeclIn w base nv mv ns ms) (hp : p.In w base) (hl : ms.length < 8) (hg : w.grownBy w' mv.ownBlock) (ho : w'.ownsRow base 183 4 mv' (ms.length + 1) (mrs ms ++ p.arr.toList)) : DeclIn w' base nv mv' ns (ms ++ [p]) :=
  ⟨hown_grow h.n hg (hown_type h.n h.m (by decide)), h.nl, by rw [List.length_append, mrs_snoc]; exact ho, by simp; omega, fun q hq => (h.ni q hq).grow hg h.m rfl (by decide), fun q hq => by
    rcases List.mem_append.1 hq with hq | hq
    · exact (h.mi q hq).grow hg h.m rfl (by decide)
    · simp at hq; subst hq; exact hp.grow hg h.m rfl (by decide)⟩
/-- one node: its cells -/
theorem DeclIn.node {k : Nat} {A : Option Addr} {n c : Nat} {p : Nd} (h : DeclIn w base (.slice A n c) mv ns ms) (hk : ns[k]? = some p) : ∃ b o, A = some ⟨b, o, none⟩ ∧ b < w.heap.size ∧ ∀ i, i < 9 → w.cell? ⟨b, o + k * 9 + i, none⟩ = p.arr.toList[i]? := by
  obtain ⟨A', c', e, -, -, -, r⟩ := own_form h.n
  injection e with e1 e2 e3
  subst e1
  exact Rd.el (fun p : Nd => p.arr.toList) (fun _ => rfl) r rfl hk
theorem DeclIn.mark {k : Nat} {A : Option Addr} {n c : Nat} {p : Mr} (h : DeclIn w base nv (.slice A n c) ns ms) (hk : ms[k]? = some p) : ∃ b o, A = some ⟨b, o, none⟩ ∧ b < w.heap.size ∧ ∀ i, i < 4 → w.cell? ⟨b, o + k * 4 + i, none⟩ = p.arr.toList[i]? := by
  obtain ⟨A', c', e, -, -, -, r⟩ := own_form h.m
  injection e with e1 e2 e3
  subst e1
  exact Rd.el (fun p : Mr => p.arr.toList) (fun _ => rfl) r rfl hk
end
def AddOut (base : Nat) (nv mv : Value) (w : World) (e : Ending) (w' : World) : Prop := ∃ (nv' mv' : Value) (ns' : List Nd) (ms' : List Mr) (er : Int) (row : Option Nat), e = .returned (.tuple #[.agg #[nv', mv'], .int .i64 er]) ∧ DeclIn w' base nv' mv' ns' ms' ∧ w.grownBy w' row ∧ (row = nv.ownBlock ∨ row = mv.ownBlock)
theorem bk2 {w : World} {b : Nat} {t : TypeId} {x0 x1 : Value} (k : Bk w b t #[x0, x1]) : w.cell? ⟨b, 0, none⟩ = some x0 ∧ w.cell? ⟨b, 1, none⟩ = some x1 := ⟨k.cell 0, k.cell 1⟩
/-- what was said stays, and comes out -/
theorem add_left {w W : World} {base : Nat} {nv mv y0 y1 : Value} {ns : List Nd} {ms : List Mr} {row : Option Nat} (h : DeclIn W base nv mv ns ms) (hb : w.grownBy W row) (kr : Bk W (w.heap.size + 1) 27 #[y0, y1]) : DeclIn ((W.setCell ⟨w.heap.size + 1, 0, none⟩ nv).setCell ⟨w.heap.size + 1, 1, none⟩ mv) base nv mv ns ms ∧ Bk ((W.setCell ⟨w.heap.size + 1, 0, none⟩ nv).setCell ⟨w.heap.size + 1, 1, none⟩ mv) (w.heap.size + 1) 27 #[nv, mv] ∧ w.grownBy ((W.setCell ⟨w.heap.size + 1, 0, none⟩ nv).setCell ⟨w.heap.size + 1, 1, none⟩ mv) row := by
  have k1 : Bk _ (w.heap.size + 1) 27 #[nv, y1] := kr.set_ 0 nv
  exact ⟨(h.put kr (by decide) (by decide) (by decide) 0 nv).put k1 (by decide) (by decide) (by decide) 1 mv, k1.set_ 1 mv, gr_set (gr_set hb (.inr (by simp)) _) (.inr (by simp)) _⟩
set_option maxRecDepth 100000 in
set_option maxHeartbeats 16000000 in
theorem add10_any (base : Nat) (nv mv : Value) (ns : List Nd) (ms : List Mr) (A : Option Addr) (n c : Nat) (l : List ByteArray) (w : World) (hbw : base ≤ w.heap.size) (hD : DeclIn w base nv mv ns ms) (h : Rd w w.heap.size 1 A n (strs l)) (hl : szs l ≤ 65538) (hnc : n ≤ c) (hcm : c ≤ maxLen) : Calls Tryz.prog 96 #[.agg #[nv, mv], .slice A n c] w (AddOut base nv mv w) := by
  obtain ⟨NA, nc, rfl, -, -, -, -⟩ := own_form hD.n
  obtain ⟨MA, mc, rfl, -, -, -, -⟩ := own_form hD.m
  have hnn := hD.nl
  have hmm := hD.ml
  have hn2 : n ≤ 65538 := by have h1 := strs_len h; have h2 := szs_len l; omega
  have H := Lib.hid h
  have HD := Lib.hid hD
  have HCM := Lib.hid hcm
  clear h hD hcm
  go_enter Tryz.func96, Tryz.ntmps96
  go_upto_region 1 with fail
  have kd : Bk ((w.alloc (.cells #[.slice NA ns.length nc, .slice MA ms.length mc] 27)).alloc (.cells #[.slice none 0 0, .slice none 0 0] 27)) w.heap.size 27 #[.slice NA ns.length nc, .slice MA ms.length mc] := (Bk.new w _ _).alloc _
  have kr : Bk ((w.alloc (.cells #[.slice NA ns.length nc, .slice MA ms.length mc] 27)).alloc (.cells #[.slice none 0 0, .slice none 0 0] 27)) (w.heap.size + 1) 27 #[.slice none 0 0, .slice none 0 0] := Bk.made _ _ (by simp)
  have hb0 : Below w.heap.size w ((w.alloc (.cells #[.slice NA ns.length nc, .slice MA ms.length mc] 27)).alloc (.cells #[.slice none 0 0, .slice none 0 0] 27)) := belowA
  generalize (w.alloc (.cells #[.slice NA ns.length nc, .slice MA ms.length mc] 27)).alloc (.cells #[.slice none 0 0, .slice none 0 0] 27) = w0 at *
  go_cut [33] (fun u wx => ∃ bb : Bool, u = .bool bb ∧ (bb = false → 2 ≤ n) ∧ Below w0.heap.size w0 wx)
  case first =>
    by_cases h2 : n < 2
    · have e2 : (n : Int) < 2 := by omega
      go_wp2
      go_meet
      exact ⟨_, rfl, (fun h => by cases h), Below.refl _ _⟩
    · have e2 : ¬ (n : Int) < 2 := by omega
      have e1 : (1 : Int) < n := by omega
      have e0 : 0 < n := by omega
      obtain ⟨ab, ao, x1, rfl, hab, -, hx1⟩ := strs_at (H.out.below hb0) (show 1 < n by omega)
      obtain ⟨ab', ao', x0, hA, -, hxx, hx0⟩ := strs_at (H.out.below hb0) (show 0 < n by omega)
      obtain ⟨rfl, rfl⟩ : ab = ab' ∧ ao = ao' := by simpa using hA
      have hz0 := hb0.size
      have hs1 : x1.size ≤ 65538 := by
        obtain ⟨_, _, x1', _, _, hxl, hc'⟩ := strs_at (H.out.below hb0) (show 1 < n by omega)
        rename_i b1 o1 hA1 _
        obtain ⟨rfl, rfl⟩ : ab = b1 ∧ ao = o1 := by simpa using hA1
        rw [hx1] at hc'
        injection hc' with hc'
        injection hc' with hc'
        subst hc'
        have := szs_mem (List.mem_of_getElem? hxl)
        omega
      have hnm := Lib.hid (name_any x1 w0 (by unfold maxLen; omega))
      clear hA hxx
      go_wp2_with (go_at_call 145; fail)
      refine hnm.out.mono ?_
      rintro e w1 ⟨⟨b1, rfl⟩, hb1⟩
      have hy0 := (hb1.cell (p := ⟨ab, ao + 0, none⟩) (show ab < w0.heap.size by omega)).trans hx0
      rw [Nat.add_zero] at hy0
      have hab1 : ab < w1.heap.size := by have := hb1.size; omega
      cases b1 with
      | false =>
        go_wp2
        go_meet
        exact ⟨_, rfl, (fun h => by cases h), hb1⟩
      | true =>
        cases t1 : (x0.toList == [110, 111, 100, 101]) <;> cases t2 : (x0.toList == [109, 97, 114, 107])
        all_goals
          have t1' : (x0.toList != [110, 111, 100, 101]) = !(x0.toList == [110, 111, 100, 101]) := rfl
          have t2' : (x0.toList != [109, 97, 114, 107]) = !(x0.toList == [109, 97, 114, 107]) := rfl
          rw [t1] at t1'
          rw [t2] at t2'
          go_wp2
          go_meet
          exact ⟨_, rfl, (fun _ => by omega), hb1⟩
  case rest =>
  obtain ⟨bb, rfl, hb2, hbc⟩ := hcut
  have hb1 := hb0.trans (hbc.mono hb0.size)
  have kd1 := kd.ext hbc
  have kr1 := kr.ext hbc
  have hD1 := Lib.hid (HD.out.below hb1)
  have rf := kr1.frozen; have rl := def_lt' kr1
  obtain ⟨d0, d1⟩ := bk2 kd1
  obtain ⟨r0, r1⟩ := bk2 kr1
  have hz1 := hb1.size
  clear kd kr hbc hb0
  cases bb with
  | true =>
    go_wp2
    obtain ⟨g1, g2, g3⟩ := add_left hD1.out (below_gr (row := (Value.slice NA ns.length nc).ownBlock) hb1) kr1
    obtain ⟨z0, z1⟩ := bk2 g2
    exact bodyPost_ret (v := .tuple #[.agg #[.slice NA ns.length nc, .slice MA ms.length mc], .int .i64 2]) (by simp [results, Tryz.results96, go_sem, z0, z1]) rfl ⟨_, _, ns, ms, 2, _, rfl, g1, g3, .inl rfl⟩
  | false =>
    have h2 := hb2 rfl
    clear hb2
    obtain ⟨ab, ao, x0, rfl, hab, -, hx0⟩ := strs_at (H.out.below hb1) (show 0 < n by omega)
    rw [Nat.add_zero] at hx0
    have e0 : 0 < n := by omega
    have hrd := Lib.hid ((H.out.below hb1).more hz1)
    cases t2 : (x0.toList == [109, 97, 114, 107]) with
    | true =>
      have hmk := Lib.hid (mark10_any _ n c l _ hrd.out hl h2)
      go_wp2_with (go_at_call 146; fail)
      refine hmk.out.mono ?_
      rintro e w2 ⟨⟨nm, val, all, bv, bs⟩, ok, rfl, hpi, hb2⟩
      obtain ⟨Ag, cg, eg, -, -, -, -⟩ := own_form hpi.b
      dsimp only at eg
      subst eg
      have HPI := Lib.hid hpi
      dsimp only [Mr.arr]
      go_upto_region 5 with fail
      have k6 : Bk (w2.alloc (.cells #[.string nm, .int .i64 val, .bool all, .slice Ag bs.length cg] 183)) w2.heap.size 183 (⟨nm, val, all, .slice Ag bs.length cg, bs⟩ : Mr).arr := Bk.new w2 _ _
      have hb23 : Below w2.heap.size w2 (w2.alloc (.cells #[.string nm, .int .i64 val, .bool all, .slice Ag bs.length cg] 183)) := belowA
      generalize w2.alloc (.cells #[.string nm, .int .i64 val, .bool all, .slice Ag bs.length cg] 183) = w3 at *
      have hb13 := hb2.trans (hb23.mono hb2.size)
      have kd3 := kd1.ext hb13
      have kr3 := kr1.ext hb13
      have hD3 := Lib.hid (hD1.out.below hb13)
      have HPI3 := Lib.hid (hpi.below hb23)
      have hb3 := hb1.trans (hb13.mono hz1)
      have hz3 := hb3.size
      clear d0 d1 r0 r1 rf rl kd1 kr1 hmk hx0 hpi hb23 hb13 hb2
      cases ok with
      | false =>
        have rf := kr3.frozen; have rl := def_lt' kr3
        obtain ⟨d0, d1⟩ := bk2 kd3
        obtain ⟨r0, r1⟩ := bk2 kr3
        go_wp2
        obtain ⟨g1, g2, g3⟩ := add_left hD3.out (below_gr (row := (Value.slice NA ns.length nc).ownBlock) hb3) kr3
        obtain ⟨z0, z1⟩ := bk2 g2
        exact bodyPost_ret (v := .tuple #[.agg #[.slice NA ns.length nc, .slice MA ms.length mc], .int .i64 2]) (by simp [results, Tryz.results96, go_sem, z0, z1]) rfl ⟨_, _, ns, ms, 2, _, rfl, g1, g3, .inl rfl⟩
      | true =>
        go_wp2
        go_loopw [8] (fun j wr => ∃ k : Nat, k ≤ ms.length ∧ j = .int .i64 k ∧ Below w3.heap.size w3 wr) (fun j _ => ms.length - (intOf j).toNat)
        case atStart => exact ⟨0, by omega, rfl, Below.refl _ _⟩
        case round =>
          obtain ⟨k, hk, rfl, hbr⟩ := hrel
          have kd4 := kd3.ext hbr
          have kr4 := kr3.ext hbr
          have k64 := k6.ext hbr
          have hD4 := Lib.hid (hD3.out.below hbr)
          have hb4 := hb3.trans (hbr.mono hz3)
          have hz4 := hb4.size
          have rf := kr4.frozen; have rl := def_lt' kr4
          have df := kd4.frozen; have dl := def_lt' kd4
          obtain ⟨d0, d1⟩ := bk2 kd4
          obtain ⟨r0, r1⟩ := bk2 kr4
          obtain ⟨s0, s1, s2, s3⟩ := bk4 k64
          by_cases hlt : k < ms.length
          · have e3 : (k : Int) < ms.length := by omega
            obtain ⟨q, hq⟩ : ∃ q, ms[k]? = some q := ⟨_, List.getElem?_eq_getElem hlt⟩
            obtain ⟨qb, qo, rfl, hqb, hqc⟩ := hD4.out.mark hq
            have hq0 : wr.cell? ⟨qb, qo + k * 4, none⟩ = some (.string q.nm) := hqc 0 (by omega)
            clear hqc hq
            go_upto_region 10 with fail
            go_cut [62] (fun u wx => ∃ bb : Bool, u = .bool bb ∧ Below wr.heap.size wr wx)
            case first =>
              go_quiet (fail)
              go_wp2
              go_meet
              exact ⟨_, rfl, below_drewN (Below.refl _ _) _⟩
            case rest =>
            obtain ⟨bb, rfl, hb5⟩ := hcut
            have kr5 := kr4.ext hb5
            have hD5 := Lib.hid (hD4.out.below hb5)
            have hbr5 := hbr.trans (hb5.mono hbr.size)
            have hb05 := hb4.trans (hb5.mono hz4)
            obtain ⟨d0, d1⟩ := bk2 (kd4.ext hb5)
            obtain ⟨r0, r1⟩ := bk2 kr5
            have rf := kr5.frozen; have rl := def_lt' kr5
            cases bb with
            | true =>
              go_wp2
              obtain ⟨g1, g2, g3⟩ := add_left hD5.out (below_gr (row := (Value.slice NA ns.length nc).ownBlock) hb05) kr5
              obtain ⟨z0, z1⟩ := bk2 g2
              exact bodyPost_ret (v := .tuple #[.agg #[.slice NA ns.length nc, .slice (some ⟨qb, qo, none⟩) ms.length mc], .int .i64 9]) (by simp [results, Tryz.results96, go_sem, z0, z1]) rfl ⟨_, _, ns, ms, 9, _, rfl, g1, g3, .inl rfl⟩
            | false =>
              go_wp2
              go_roundw
              case rel => exact ⟨k + 1, by omega, by go_num, hbr5⟩
              case measure => simp [intOf]; omega
          · obtain rfl : k = ms.length := by omega
            by_cases h8 : ms.length = 8
            · have e8 : ((ms.length : Int) == 8) = true := by rw [beq_iff_eq]; omega
              have H8 := Lib.hid h8
              clear h8
              go_wp2
              obtain ⟨g1, g2, g3⟩ := add_left hD4.out (below_gr (row := (Value.slice NA ns.length nc).ownBlock) hb4) kr4
              obtain ⟨z0, z1⟩ := bk2 g2
              exact bodyPost_ret (v := .tuple #[.agg #[.slice NA ns.length nc, .slice MA ms.length mc], .int .i64 4]) (by simp [results, Tryz.results96, go_sem, z0, z1]) rfl ⟨_, _, ns, ms, 4, _, rfl, g1, g3, .inl rfl⟩
            · have e8 : ((ms.length : Int) == 8) = false := beq_false_of_ne (by omega)
              have HPI4 := Lib.hid ((HPI3.out.below hbr).base_ (show base ≤ _ by omega))
              have h8l : ms.length < 8 := by omega
              clear h8
              go_wp2_with (at_builtin; ((refine app_one Tryz.underlying25 info_mr rfl (by decide) wr base _ ms.length _ hD4.out.m (by unfold maxLen; omega) (by omega) (by omega) _ rfl (by simp [Value.oneCell']) rfl _ _ rfl rfl rfl ?_); intro g7 cap7 w7 hown7 hgr7 hat7 hlt7; have kd7 := kd4.grown hgr7 (own_ne hD4.out.m kd4 (by decide)); have kr7 := kr4.grown hgr7 (own_ne hD4.out.m kr4 (by decide)); have df7 := kd7.frozen; have dl7 := def_lt' kd7; have rf7 := kr7.frozen; have rl7 := def_lt' kr7; obtain ⟨m0, m1⟩ := bk2 kd7; obtain ⟨u0, u1⟩ := bk2 kr7))
              have hD7 := hD4.out.pushM HPI4.out (by omega) hgr7 hown7
              have hD8 := hD7.put kd7 (by decide) (by decide) (by decide) 1 (.slice (some ⟨g7, 0, none⟩) (ms.length + 1) cap7)
              have kr8 := kr7.far (p := ⟨w.heap.size, 1, none⟩) (by simp) (.slice (some ⟨g7, 0, none⟩) (ms.length + 1) cap7)
              have hg8 := gr_set (p := ⟨w.heap.size, 1, none⟩) ((below_gr (row := (Value.slice MA ms.length mc).ownBlock) hb4).andThen hgr7 (fun j h => .inr h)) (.inr (Nat.le_refl _)) (.slice (some ⟨g7, 0, none⟩) (ms.length + 1) cap7)
              obtain ⟨g1, g2, g3⟩ := add_left hD8 hg8 kr8
              obtain ⟨z0, z1⟩ := bk2 g2
              exact bodyPost_ret (v := .tuple #[.agg #[.slice NA ns.length nc, .slice (some ⟨g7, 0, none⟩) (ms.length + 1) cap7], .int .i64 0]) (by simp [results, Tryz.results96, go_sem, z0, z1]) rfl ⟨_, _, ns, _, 0, _, rfl, g1, g3, .inr rfl⟩
    | false =>
      have hmk := Lib.hid (node10_any _ n c l _ hrd.out hl hnc HCM.out h2)
      go_wp2_with (go_at_call 147; fail)
      refine hmk.out.mono ?_
      rintro e w2 ⟨⟨nm, gv, gs, il, pk, lf, at_, all, mv, mk, ex⟩, ok, rfl, hpi, hb2⟩
      obtain ⟨Ag, cg, eg, -, -, -, -⟩ := own_form hpi.g
      obtain ⟨Ak, ck, ek, -, -, -, -⟩ := own_form hpi.m
      dsimp only at eg ek
      subst eg
      subst ek
      have HPI := Lib.hid hpi
      dsimp only [Nd.arr]
      go_upto_region 17 with fail
      have k6 : Bk (w2.alloc (.cells #[.string nm, .slice Ag gs.length cg, .bool il, .bool pk, .bool lf, .int .i64 at_, .bool all, .slice Ak mk.length ck, .string ex] 113)) w2.heap.size 113 (⟨nm, .slice Ag gs.length cg, gs, il, pk, lf, at_, all, .slice Ak mk.length ck, mk, ex⟩ : Nd).arr := Bk.new w2 _ _
      have hb23 : Below w2.heap.size w2 (w2.alloc (.cells #[.string nm, .slice Ag gs.length cg, .bool il, .bool pk, .bool lf, .int .i64 at_, .bool all, .slice Ak mk.length ck, .string ex] 113)) := belowA
      generalize w2.alloc (.cells #[.string nm, .slice Ag gs.length cg, .bool il, .bool pk, .bool lf, .int .i64 at_, .bool all, .slice Ak mk.length ck, .string ex] 113) = w3 at *
      have hb13 := hb2.trans (hb23.mono hb2.size)
      have kd3 := kd1.ext hb13
      have kr3 := kr1.ext hb13
      have hD3 := Lib.hid (hD1.out.below hb13)
      have HPI3 := Lib.hid (hpi.below hb23)
      have hb3 := hb1.trans (hb13.mono hz1)
      have hz3 := hb3.size
      clear d0 d1 r0 r1 rf rl kd1 kr1 hmk hx0 hpi hb23 hb13 hb2
      cases ok with
      | false =>
        have rf := kr3.frozen; have rl := def_lt' kr3
        obtain ⟨d0, d1⟩ := bk2 kd3
        obtain ⟨r0, r1⟩ := bk2 kr3
        go_wp2
        obtain ⟨g1, g2, g3⟩ := add_left hD3.out (below_gr (row := (Value.slice NA ns.length nc).ownBlock) hb3) kr3
        obtain ⟨z0, z1⟩ := bk2 g2
        exact bodyPost_ret (v := .tuple #[.agg #[.slice NA ns.length nc, .slice MA ms.length mc], .int .i64 2]) (by simp [results, Tryz.results96, go_sem, z0, z1]) rfl ⟨_, _, ns, ms, 2, _, rfl, g1, g3, .inl rfl⟩
      | true =>
        have rf := kr3.frozen; have rl := def_lt' kr3
        obtain ⟨d0, d1⟩ := bk2 kd3
        obtain ⟨r0, r1⟩ := bk2 kr3
        obtain ⟨s0, s1, s2, s3, s4, s5, s6, s7, s8⟩ := bk9 k6
        cases tt : (nm.toList == [116, 101, 120, 116]) with
        | true =>
          go_wp2
          obtain ⟨g1, g2, g3⟩ := add_left hD3.out (below_gr (row := (Value.slice NA ns.length nc).ownBlock) hb3) kr3
          obtain ⟨z0, z1⟩ := bk2 g2
          exact bodyPost_ret (v := .tuple #[.agg #[.slice NA ns.length nc, .slice MA ms.length mc], .int .i64 9]) (by simp [results, Tryz.results96, go_sem, z0, z1]) rfl ⟨_, _, ns, ms, 9, _, rfl, g1, g3, .inl rfl⟩
        | false =>
        go_wp2
        clear rf rl d0 d1 r0 r1 s0 s1 s2 s3 s4 s5 s6 s7 s8
        go_loopw [11] (fun j wr => ∃ k : Nat, k ≤ ns.length ∧ j = .int .i64 k ∧ Below w3.heap.size w3 wr) (fun j _ => ns.length - (intOf j).toNat)
        case atStart => exact ⟨0, by omega, rfl, Below.refl _ _⟩
        case round =>
          obtain ⟨k, hk, rfl, hbr⟩ := hrel
          have kd4 := kd3.ext hbr
          have kr4 := kr3.ext hbr
          have k64 := k6.ext hbr
          have hD4 := Lib.hid (hD3.out.below hbr)
          have hb4 := hb3.trans (hbr.mono hz3)
          have hz4 := hb4.size
          have rf := kr4.frozen; have rl := def_lt' kr4
          have df := kd4.frozen; have dl := def_lt' kd4
          obtain ⟨d0, d1⟩ := bk2 kd4
          obtain ⟨r0, r1⟩ := bk2 kr4
          obtain ⟨s0, s1, s2, s3, s4, s5, s6, s7, s8⟩ := bk9 k64
          by_cases hlt : k < ns.length
          · have e3 : (k : Int) < ns.length := by omega
            obtain ⟨q, hq⟩ : ∃ q, ns[k]? = some q := ⟨_, List.getElem?_eq_getElem hlt⟩
            obtain ⟨qb, qo, rfl, hqb, hqc⟩ := hD4.out.node hq
            have hq0 : wr.cell? ⟨qb, qo + k * 9, none⟩ = some (.string q.nm) := hqc 0 (by omega)
            clear hqc hq
            go_upto_region 24 with fail
            go_cut [103] (fun u wx => ∃ bb : Bool, u = .bool bb ∧ Below wr.heap.size wr wx)
            case first =>
              go_quiet (fail)
              go_wp2
              go_meet
              exact ⟨_, rfl, below_drewN (Below.refl _ _) _⟩
            case rest =>
            obtain ⟨bb, rfl, hb5⟩ := hcut
            have kr5 := kr4.ext hb5
            have hD5 := Lib.hid (hD4.out.below hb5)
            have hbr5 := hbr.trans (hb5.mono hbr.size)
            have hb05 := hb4.trans (hb5.mono hz4)
            obtain ⟨d0, d1⟩ := bk2 (kd4.ext hb5)
            obtain ⟨r0, r1⟩ := bk2 kr5
            have rf := kr5.frozen; have rl := def_lt' kr5
            cases bb with
            | true =>
              go_wp2
              obtain ⟨g1, g2, g3⟩ := add_left hD5.out (below_gr (row := (Value.slice (some ⟨qb, qo, none⟩) ns.length nc).ownBlock) hb05) kr5
              obtain ⟨z0, z1⟩ := bk2 g2
              exact bodyPost_ret (v := .tuple #[.agg #[.slice (some ⟨qb, qo, none⟩) ns.length nc, .slice MA ms.length mc], .int .i64 9]) (by simp [results, Tryz.results96, go_sem, z0, z1]) rfl ⟨_, _, ns, ms, 9, _, rfl, g1, g3, .inl rfl⟩
            | false =>
              go_wp2
              go_roundw
              case rel => exact ⟨k + 1, by omega, by go_num, hbr5⟩
              case measure => simp [intOf]; omega
          · obtain rfl : k = ns.length := by omega
            by_cases h8 : ns.length = 24
            · have e8 : ((ns.length : Int) == 24) = true := by rw [beq_iff_eq]; omega
              have H8 := Lib.hid h8
              clear h8
              go_wp2
              obtain ⟨g1, g2, g3⟩ := add_left hD4.out (below_gr (row := (Value.slice NA ns.length nc).ownBlock) hb4) kr4
              obtain ⟨z0, z1⟩ := bk2 g2
              exact bodyPost_ret (v := .tuple #[.agg #[.slice NA ns.length nc, .slice MA ms.length mc], .int .i64 4]) (by simp [results, Tryz.results96, go_sem, z0, z1]) rfl ⟨_, _, ns, ms, 4, _, rfl, g1, g3, .inl rfl⟩
            · have e8 : ((ns.length : Int) == 24) = false := beq_false_of_ne (by omega)
              have HPI4 := Lib.hid ((HPI3.out.below hbr).base_ (show base ≤ _ by omega))
              have h8l : ns.length < 24 := by omega
              clear h8
              go_wp2_with (at_builtin; ((refine app_one Tryz.underlying24 info_nd rfl (by decide) wr base _ ns.length _ hD4.out.n (by unfold maxLen; omega) (by omega) (by omega) _ rfl (by simp [Value.oneCell']) rfl _ _ rfl rfl rfl ?_); intro g7 cap7 w7 hown7 hgr7 hat7 hlt7; have kd7 := kd4.grown hgr7 (own_ne hD4.out.n kd4 (by decide)); have kr7 := kr4.grown hgr7 (own_ne hD4.out.n kr4 (by decide)); have df7 := kd7.frozen; have dl7 := def_lt' kd7; have rf7 := kr7.frozen; have rl7 := def_lt' kr7; obtain ⟨m0, m1⟩ := bk2 kd7; obtain ⟨u0, u1⟩ := bk2 kr7))
              have hD7 := hD4.out.pushN HPI4.out (by omega) hgr7 hown7
              have hD8 := hD7.put kd7 (by decide) (by decide) (by decide) 0 (.slice (some ⟨g7, 0, none⟩) (ns.length + 1) cap7)
              have kr8 := kr7.far (p := ⟨w.heap.size, 0, none⟩) (by simp) (.slice (some ⟨g7, 0, none⟩) (ns.length + 1) cap7)
              have hg8 := gr_set (p := ⟨w.heap.size, 0, none⟩) ((below_gr (row := (Value.slice NA ns.length nc).ownBlock) hb4).andThen hgr7 (fun j h => .inr h)) (.inr (Nat.le_refl _)) (.slice (some ⟨g7, 0, none⟩) (ns.length + 1) cap7)
              obtain ⟨g1, g2, g3⟩ := add_left hD8 hg8 kr8
              obtain ⟨z0, z1⟩ := bk2 g2
              exact bodyPost_ret (v := .tuple #[.agg #[.slice (some ⟨g7, 0, none⟩) (ns.length + 1) cap7, .slice MA ms.length mc], .int .i64 0]) (by simp [results, Tryz.results96, go_sem, z0, z1]) rfl ⟨_, _, _, ms, 0, _, rfl, g1, g3, .inl rfl⟩
end Go.Proofs.YtmacfoebfpljoaaGreat
