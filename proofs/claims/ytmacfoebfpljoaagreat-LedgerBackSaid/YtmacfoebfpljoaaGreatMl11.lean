/- merged texts: Hna Hnc Hnd Hne Hnf Hng -/
import Derived.Test.YtmacfoebfpljoaaGreatMl6
import Derived.Test.YtmacfoebfpljoaaGreatMl10
import Derived.Deep.OwnRows
import Derived.Deep.WholeRow
import Derived.Deep.CutBlock
import Derived.Great.BuildSlice
import Derived.Test.YtmacfoebfpljoaaGreatMl9
namespace Go.Proofs.YtmacfoebfpljoaaGreat
open Go.RowKit
set_option linter.unusedVariables false
set_option maxRecDepth 100000 in
set_option maxHeartbeats 4000000 in
theorem two3_any (A B : Option Addr) (n c n2 c2 : Nat) (l l2 : List Int) (w : World) (h : Rd w w.heap.size 1 A n (is l)) (hn : n ≤ maxLen) (h2 : Rd w w.heap.size 1 B n2 (is l2)) (hn2 : n2 ≤ maxLen) : Calls Tryz.prog 156 #[.slice A n c, .slice B n2 c2, .int .i64 1] w (NsOut 256 w) := by
  have hha := fun x W (hb : Below w.heap.size w W) => has3_any A n c l x W ((h.below hb).more hb.size) hn
  have hhb := fun x W (hb : Below w.heap.size w W) => has3_any B n2 c2 l2 x W ((h2.below hb).more hb.size) hn2
  have HHA := Lib.hid hha
  have HHB := Lib.hid hhb
  clear hha hhb h hn h2 hn2
  go_enter Tryz.func156, Tryz.ntmps156
  go_wp2
  go_loopw [7, 8] (fun v j wr => ∃ (k : Nat) (cs : List Nat), k ≤ 256 ∧ j = .int .i64 k ∧ Hid (Ris k cs) ∧ Hid (wr.ownsRow w.heap.size 3 1 v cs.length (nts cs)) ∧ cs.length ≤ k ∧ Below w.heap.size w wr) (fun _ j _ => 256 - (intOf j).toNat)
  case atStart => exact ⟨0, [], by omega, rfl, Lib.hid (Ris.nil _), Lib.hid (World.ownsRow_nil _ _ _ _), by simp, Below.refl _ _⟩
  case round =>
    obtain ⟨k, cs, hk, rfl, hR, hown, hcl, hbr⟩ := hrel
    have hz := hbr.size
    by_cases hlt : k < 256
    · have e3 : (k : Int) < 256 := by omega
      go_wp2_with (go_at_call 124; fail)
      refine (HHA.out k wr hbr).mono ?_
      rintro e w1 ⟨rfl, hb1⟩
      have hb01 := hbr.trans (hb1.mono hz)
      have hown1 := own_below hown.out hb1
      have hz1 := hb01.size
      generalize decide ((k : Int) ∈ l) = q1
      go_wp2_with (go_at_call 124; fail)
      refine (HHB.out k w1 hb01).mono ?_
      rintro e w2 ⟨rfl, hb2⟩
      have hb02 := hb01.trans (hb2.mono hz1)
      have hown2 := own_below hown1 hb2
      have hz2 := hb02.size
      generalize decide ((k : Int) ∈ l2) = q2
      clear hown1
      cases q1 <;> cases q2
      case true.true =>
        go_wp2_with (at_builtin; ((refine app_one Tryz.underlying51 info_in rfl (by decide) w2 w.heap.size _ cs.length _ hown2 (by unfold maxLen; omega) (by omega) hz2 _ rfl (by simp [Value.oneCell']) rfl _ _ rfl rfl rfl ?_); intro g4 cap4 w4 hown4 hgr4 hat4 hlt4))
        have hb4 := below_own hb02 hown2 hgr4 hz2 (Nat.le_refl _)
        go_roundw
        case rel => exact ⟨k + 1, cs ++ [k], by omega, by go_num, Lib.hid ((hR.out.mono (by omega)).snoc (fun y hy => hR.out.2 y hy) (by omega)), Lib.hid (by rw [List.length_append, nts_snoc]; exact hown4), by simp; omega, hb4⟩
        case measure => simp [intOf]; omega
      all_goals
        go_wp2
        go_roundw
        case rel => exact ⟨k + 1, cs, by omega, by go_num, Lib.hid (hR.out.mono (by omega)), Lib.hid hown2, by omega, hb02⟩
        case measure => simp [intOf]; omega
    · obtain rfl : k = 256 := by omega
      obtain ⟨A1, c1, rfl, -, -, -, -⟩ := own_form hown.out
      go_wp2
      exact bodyPost_ret (v := .slice A1 cs.length c1) (by simp [results, Tryz.results156, go_sem]) rfl ⟨_, rfl, ⟨cs, hown.out, hR.out⟩, hbr⟩
set_option maxRecDepth 100000 in
set_option maxHeartbeats 4000000 in
theorem same3_any (A B : Option Addr) (n c n2 c2 : Nat) (l l2 : List Int) (w : World) (h : Rd w w.heap.size 1 A n (is l)) (hn : n ≤ maxLen) (h2 : Rd w w.heap.size 1 B n2 (is l2)) (hn2 : n2 ≤ maxLen) : Calls Tryz.prog 194 #[.slice A n c, .slice B n2 c2] w (AnyB w) := by
  unfold maxLen at hn hn2
  have H := Lib.hid h
  have H2 := Lib.hid h2
  clear h h2
  by_cases hne : n = n2
  · subst hne
    go_enter Tryz.func194, Tryz.ntmps194
    go_wp2
    go_loopw [5] (fun j wr => ∃ k : Nat, k ≤ n ∧ j = .int .i64 k ∧ Below w.heap.size w wr) (fun j _ => n - (intOf j).toNat)
    case atStart => exact ⟨0, by omega, rfl, Below.refl _ _⟩
    case round =>
      obtain ⟨k, hk, rfl, hbr⟩ := hrel
      by_cases hlt : k < n
      · have e3 : (k : Int) < n := by omega
        obtain ⟨b, o, y, rfl, hb, -, hc⟩ := (H.out.below hbr).is_at hlt
        obtain ⟨b', o', y', rfl, hb', -, hc'⟩ := (H2.out.below hbr).is_at hlt
        go_upto_region 6 with fail
        go_quiet (fail)
        rename_i nq
        have hbq := below_drewN hbr nq
        cases he : (y != y') <;> go_wp2
        · go_roundw
          case rel => exact ⟨k + 1, by omega, by go_num, hbq⟩
          case measure => simp [intOf]; omega
        · go_ret
          exact ⟨⟨_, rfl⟩, hbq⟩
      · obtain rfl : k = n := by omega
        go_wp2
        go_ret
        exact ⟨⟨_, rfl⟩, hbr⟩
  · go_enter Tryz.func194, Tryz.ntmps194
    have e1 : ((n : Int) != n2) = true := by simp; omega
    go_wp2
    all_goals go_ret
    all_goals exact ⟨⟨_, rfl⟩, belowA⟩
theorem bk3 {w : World} {b : Nat} {t : TypeId} {x0 x1 x2 : Value} (k : Bk w b t #[x0, x1, x2]) : w.cell? ⟨b, 0, none⟩ = some x0 ∧ w.cell? ⟨b, 1, none⟩ = some x1 ∧ w.cell? ⟨b, 2, none⟩ = some x2 := ⟨k.cell 0, k.cell 1, k.cell 2⟩
def FindOut (K : Nat) (w : World) (e : Ending) (w' : World) : Prop := ∃ r : Int, e = .returned (.int .i64 r) ∧ -1 ≤ r ∧ r < K ∧ Below w.heap.size w w'
set_option maxRecDepth 100000 in
set_option maxHeartbeats 8000000 in
theorem find8_any (B K tb b2 m : Nat) (sets nx ac s : Value) (w : World) (kt : Bk w tb 201 #[sets, nx, ac]) (hr : Rws w B 256 sets K) (hK : K ≤ 300) (hK1 : 1 ≤ K) (hs : NsIn w b2 m s) (hm : m ≤ 1000) : Calls Tryz.prog 155 #[.pointer (some ⟨tb, 0, none⟩), s] w (FindOut K w) := by
  obtain ⟨A, c, rfl⟩ := hr.form
  obtain ⟨As, cs, ls, rfl, hls, hrs, -⟩ := hs.form
  have hsl := hls.len
  have HS := Lib.hid hrs.to_is
  have HR := Lib.hid hr
  obtain ⟨sn, hsn⟩ : ∃ sn, sn = ls.length := ⟨_, rfl⟩
  rw [← hsn] at hsl HS ⊢
  have htl := def_lt' kt
  clear hr hs hls hrs hsn
  go_enter Tryz.func155, Tryz.ntmps155
  go_wp2
  go_loopw [5] (fun j wr => ∃ k : Nat, 1 ≤ k ∧ k ≤ K ∧ j = .int .i64 k ∧ Below w.heap.size w wr) (fun j _ => K - (intOf j).toNat)
  case atStart => exact ⟨1, by omega, by omega, rfl, Below.refl _ _⟩
  case round =>
    obtain ⟨k, hk1, hk, rfl, hbr⟩ := hrel
    obtain ⟨t0, t1, t2⟩ := bk3 (kt.ext hbr)
    by_cases hlt : k < K
    · have e3 : (k : Int) < K := by omega
      obtain ⟨g, u, rfl, -, hg, huc, hui, -⟩ := (HR.out.below hbr).at_ hlt
      obtain ⟨Au, cu, lu, rfl, hlu, hur, -⟩ := hui.form
      have hlul := hlu.len
      have HU := Lib.hid hur.to_is
      obtain ⟨un, hun⟩ : ∃ un, un = lu.length := ⟨_, rfl⟩
      rw [← hun] at hlul HU huc
      clear hui hlu hur hun
      go_wp2_with (go_at_call 194; fail)
      refine (same3_any Au As un cu sn cs _ _ wr (HU.out.more (Nat.le_refl _)) (by unfold maxLen; omega) ((HS.out.below hbr).more hbr.size) (by unfold maxLen; omega)).mono ?_
      rintro e w1 ⟨⟨b, rfl⟩, hb1⟩
      have hb01 := hbr.trans (hb1.mono hbr.size)
      cases b with
      | true =>
        go_wp2
        go_ret
        exact ⟨k, rfl, by omega, by omega, hb01⟩
      | false =>
        go_wp2
        go_roundw
        case rel => exact ⟨k + 1, by omega, by omega, by go_num, hb01⟩
        case measure => simp [intOf]; omega
    · obtain rfl : k = K := by omega
      go_wp2
      go_ret
      exact ⟨-1, rfl, by omega, by omega, hbr⟩
theorem info_b : (Tryz.prog.info? 4).map (fun i => (i.zero, i.size, i.bytes)) = some (some (.bool false), 1, 1) := by kernel_rfl
theorem make_bools (n : Nat) (hn : n ≤ 1000) (w : World) : (Instr.makeSlice 29 (.int .i64 (n : Int)) (.int .i64 (n : Int))).run Tryz.prog w = .ok (.slice (some ⟨w.heap.size, 0, none⟩) n n) (w.alloc (.cells (madeCells #[.bool false] n) 4)) :=
  run_make_row' _ _ _ 1 Tryz.underlying29 info_b rfl _ _ n (by omega) (by omega) w
/-- a row of truths -/
def Bls (w : World) (g m : Nat) : Prop := ∃ cs : Array Value, Bk w g 4 cs ∧ cs.size = m ∧ ∀ i, i < m → ∃ b : Bool, cs[i]? = some (.bool b)
theorem Bls.ext {w w' : World} {g m : Nat} (h : Bls w g m) (hb : Below w.heap.size w w') : Bls w' g m := by
  obtain ⟨cs, h1, h2⟩ := h
  exact ⟨cs, h1.ext hb, h2⟩
theorem Bls.made (w : World) (m : Nat) : Bls (w.alloc (.cells (madeCells #[.bool false] m) 4)) w.heap.size m := by
  refine ⟨_, Bk.new w _ _, by simp [madeCells], fun i hi => ⟨false, ?_⟩⟩
  simp [madeCells, hi, Nat.mod_one]
theorem Bls.far {w : World} {g m : Nat} (h : Bls w g m) {p : Addr} (hp : g ≠ p.block) (u : Value) : Bls (w.setCell p u) g m := by
  obtain ⟨cs, h1, h2⟩ := h
  exact ⟨cs, h1.far hp u, h2⟩
theorem Bls.set_ {w : World} {g m : Nat} (h : Bls w g m) (i : Nat) (b : Bool) : Bls (w.setCell ⟨g, i, none⟩ (.bool b)) g m := by
  obtain ⟨cs, h1, h2, h3⟩ := h
  refine ⟨_, h1.set_ i (.bool b), by simpa using h2, fun j hj => ?_⟩
  rw [Array.getElem?_setIfInBounds]
  split
  · rename_i e
    subst e
    rw [if_pos (by omega)]
    exact ⟨b, rfl⟩
  · exact h3 j hj
theorem Bls.cell {w : World} {g m i : Nat} (h : Bls w g m) (hi : i < m) : ∃ b : Bool, w.cell? ⟨g, i, none⟩ = some (.bool b) := by
  obtain ⟨cs, h1, h2, h3⟩ := h
  obtain ⟨b, hb⟩ := h3 i hi
  exact ⟨b, by rw [h1.cell]; exact hb⟩
theorem Bls.frozen {w : World} {g m : Nat} (h : Bls w g m) (i : Nat) : w.frozen? ⟨g, i, none⟩ = false := by
  obtain ⟨cs, h1, -⟩ := h
  exact h1.frozen i
theorem Bls.lt {w : World} {g m : Nat} (h : Bls w g m) : g < w.heap.size := by
  obtain ⟨cs, h1, -⟩ := h
  exact def_lt' h1
theorem Bls.grown {w w' : World} {g m base n : Nat} {v : Value} {xs : List Value} (h : Bls w g m) (hg : w.grownBy w' v.ownBlock) (ho : w.ownsRow base 3 1 v n xs) : Bls w' g m := by
  obtain ⟨cs, h1, h2⟩ := h
  exact ⟨cs, h1.grown hg (own_ne ho h1 (by decide)), h2⟩
theorem setRow_bk {W : World} {b : Nat} {t : TypeId} {cs : Array Value} (k : Bk W b t cs) (vs : Array Value) : Bk (W.setRow b vs) b t vs := setRow_heap W b cs vs t (0, 0) k
theorem setRow_sti (W : World) (b : Nat) (vs : Array Value) : Sti (fun i => i = b) W (W.setRow b vs) :=
  ⟨rfl, rfl, rfl, by simp, fun i hi hn => by
    have hn : ¬ i = b := hn
    unfold World.setRow
    rw [Array.getElem?_modify, if_neg (fun e => hn e.symm)]⟩
theorem setRow_below {w W : World} {b : Nat} (h : Below w.heap.size w W) (hb : w.heap.size ≤ b) (vs : Array Value) : Below w.heap.size w (W.setRow b vs) :=
  h.trans ((setRow_sti W b vs).below (fun i hi => by have hi : i = b := hi; omega) h.size)
section
variable {P : Program} {ops : Array Oper} {rest : List Oper} {o : Oper} {a : Act} {Q : Exit → Act → World → Prop}
/-- a whole row is stored -/
theorem wpList_store_all (w : World) (hg : o.guard = none) (t : TypeId) (p x : Operand) (ho : o.op = .store t p x) (b : Nat) (old vs : Array Value) (he : a.eval p = .pointer (some ⟨b, 0, none⟩)) (hx : a.eval x = .agg vs) (k : Bk w b t old) (hi : (P.info? t).map (·.size) = some vs.size) (hs : old.size = vs.size) (h1 : vs.all (·.oneCell') = true)
    (h : wpList P ops Q rest (a.put o.dst undef) (w.setRow b vs)) : wpList P ops Q (o :: rest) a w := by
  refine wpList_plain hg fun K hK => ?_
  have hr := run_storeVar_row (P := P) w b t t old vs k hi hs h1
  unfold Oper.wp
  simp [execOp, ho, he, hx, Instr.storeAt, Instr.sureAddr, hr, Result.andThen]
  exact hK _ _ h
/-- a whole row is loaded -/
theorem wpList_load_all (w : World) (hg : o.guard = none) (t : TypeId) (p : Operand) (ho : o.op = .load t p) (b : Nat) (cs : Array Value) (he : a.eval p = .pointer (some ⟨b, 0, none⟩)) (k : Bk w b t cs) (n : Nat) (e : TypeId) (hu : P.underlying t = some (.array n e)) (hi : (P.info? t).map (·.size) = some cs.size)
    (h : wpList P ops Q rest (a.put o.dst (.agg cs)) w) : wpList P ops Q (o :: rest) a w := by
  refine wpList_plain hg fun K hK => ?_
  have hr := run_loadVar_row (P := P) w b t t cs (0, 0) _ k hu rfl hi
  unfold Oper.wp
  simp [execOp, ho, he, Instr.loadAt, Instr.sureAddr, hr, Result.andThen]
  exact hK _ _ h
end
abbrev nil32 : Array Value := #[.slice none 0 0, .slice none 0 0, .slice none 0 0, .slice none 0 0, .slice none 0 0, .slice none 0 0, .slice none 0 0, .slice none 0 0, .slice none 0 0, .slice none 0 0, .slice none 0 0, .slice none 0 0, .slice none 0 0, .slice none 0 0, .slice none 0 0, .slice none 0 0, .slice none 0 0, .slice none 0 0, .slice none 0 0, .slice none 0 0, .slice none 0 0, .slice none 0 0, .slice none 0 0, .slice none 0 0, .slice none 0 0, .slice none 0 0, .slice none 0 0, .slice none 0 0, .slice none 0 0, .slice none 0 0, .slice none 0 0, .slice none 0 0]
theorem nil32_get {s : Nat} {u : Value} (h : nil32[s]? = some u) : u = .slice none 0 0 := by
  have h2 : u ∈ nil32.toList := List.mem_of_getElem? (by rw [Array.getElem?_toList]; exact h)
  simpa [nil32] using h2
/-- the sets behind a state, as they lie -/
structure Outs (w : World) (B ob : Nat) (vs : Array Value) (P : Nat → Nat) : Prop where
  bk : Bk w ob 262 vs
  sz : vs.size = 32
  ni : ∀ (s : Nat) (u : Value), vs[s]? = some u → NsIn w B (P s) u
  dj : ∀ (s s' : Nat) (u u' : Value) (g : Nat), vs[s]? = some u → vs[s']? = some u' → u.ownBlock = some g → u'.ownBlock = some g → s = s'
theorem Outs.zero {w : World} {B ob : Nat} {P : Nat → Nat} (k : Bk w ob 262 nil32) : Outs w B ob nil32 P :=
  ⟨k, rfl, fun s u h => by rw [nil32_get h]; exact NsIn.nil _ _ _, fun s s' u u' g h h' e e' => by rw [nil32_get h] at e; cases e⟩
theorem Outs.below {w w' : World} {B ob : Nat} {vs : Array Value} {P : Nat → Nat} (h : Outs w B ob vs P) (hb : Below w.heap.size w w') : Outs w' B ob vs P :=
  ⟨h.bk.ext hb, h.sz, fun s u hu => (h.ni s u hu).below hb, h.dj⟩
theorem Outs.mono {w : World} {B ob : Nat} {vs : Array Value} {P P' : Nat → Nat} (h : Outs w B ob vs P) (hp : ∀ s, P s ≤ P' s) : Outs w B ob vs P' :=
  ⟨h.bk, h.sz, fun s u hu => (h.ni s u hu).mono (hp s) (Nat.le_refl _), h.dj⟩
/-- one more in one of them -/
theorem Outs.push {w w' : World} {B ob s g cap M : Nat} {vs : Array Value} {P : Nat → Nat} {v : Value} {xs : List Nat} {x : Nat} (h : Outs w B ob vs P) (hs : vs[s]? = some v) (ho : w.ownsRow B 3 1 v xs.length (nts xs)) (hx : Ris M xs) (hlt : ∀ y ∈ xs, y < x) (hM : x < M)
    (hg : w.grownBy w' v.ownBlock) (ho' : w'.ownsRow B 3 1 (.slice (some ⟨g, 0, none⟩) (xs.length + 1) cap) (xs.length + 1) (nts xs ++ [.int .i64 (x : Int)])) (hat : v.ownBlock = some g ∨ w.heap.size < g) :
    Outs (w'.setCell ⟨ob, s, none⟩ (.slice (some ⟨g, 0, none⟩) (xs.length + 1) cap)) B ob (vs.setIfInBounds s (.slice (some ⟨g, 0, none⟩) (xs.length + 1) cap)) (fun j => if j = s then M else P j) := by
  have hsz := h.sz
  have hsl : s < 32 := by have := (Array.getElem?_eq_some_iff.1 hs).1; omega
  have k' : Bk w' ob 262 vs := h.bk.grown hg (own_ne ho h.bk (by decide))
  have key : ∀ j u, vs[j]? = some u → j ≠ s → NsIn w' B (P j) u := fun j u hu hj => by
    obtain ⟨cs, h1, h2⟩ := h.ni j u hu
    exact ⟨cs, hown_grow h1 hg (fun q hq e => hj (h.dj j s u v q hu hs e hq)), h2⟩
  have lt : ∀ (j : Nat) (u : Value) (q : Nat), vs[j]? = some u → u.ownBlock = some q → q < w.heap.size := fun j u q hu e => (h.ni j u hu).lt q e
  refine ⟨k'.set_ s _, by simpa using hsz, fun j u hu => ?_, fun j j' u u' q hu hu' e e' => ?_⟩
  · rw [Array.getElem?_setIfInBounds] at hu
    by_cases hj : s = j
    · subst hj
      rw [if_pos rfl, if_pos (by omega)] at hu
      rw [if_pos rfl]
      injection hu with hu
      subst hu
      have hN : NsIn w' B M (.slice (some ⟨g, 0, none⟩) (xs.length + 1) cap) := ⟨xs ++ [x], by rw [List.length_append, nts_snoc]; exact ho', hx.snoc hlt hM⟩
      exact hN.put k' (by decide) _
    · rw [if_neg hj] at hu
      rw [if_neg (fun e => hj e.symm)]
      exact (key j u hu (fun e => hj e.symm)).put k' (by decide) _
  · rw [Array.getElem?_setIfInBounds] at hu hu'
    by_cases hj : s = j <;> by_cases hj' : s = j'
    · omega
    · rw [if_pos hj, if_pos (by omega)] at hu
      rw [if_neg hj'] at hu'
      injection hu with hu
      subst hu
      have eg : g = q := by simpa [Value.ownBlock] using e
      subst eg
      rcases hat with h1 | h1
      · exact absurd (h.dj s j' v u' g hs hu' h1 e') hj'
      · have := lt j' u' g hu' e'; omega
    · rw [if_neg hj] at hu
      rw [if_pos hj', if_pos (by omega)] at hu'
      injection hu' with hu'
      subst hu'
      have eg : g = q := by simpa [Value.ownBlock] using e'
      subst eg
      rcases hat with h1 | h1
      · exact absurd (h.dj s j v u g hs hu h1 e) hj
      · have := lt j u g hu e; omega
    · rw [if_neg hj] at hu
      rw [if_neg hj'] at hu'
      exact h.dj j j' u u' q hu hu' e e'
theorem size32 : (Tryz.prog.info? 262).map (·.size) = some 32 := by kernel_rfl
theorem size32z : (Tryz.prog.info? 262).map (·.size) = some nil32.size := size32
theorem nil32_one : nil32.all (·.oneCell') = true := by simp [nil32, Value.oneCell']
def BehindOut (m : Nat) (w : World) (e : Ending) (w' : World) : Prop := ∃ vs : Array Value, e = .returned (.agg vs) ∧ vs.size = 32 ∧ (∀ (s : Nat) (u : Value), vs[s]? = some u → NsIn w' w.heap.size m u) ∧ Below w.heap.size w w'
abbrev NetC (Ao Ab Af Ae : Option Addr) (m co cb fn cf en ce : Nat) (em : Bool) : Array Value := #[.slice Ao m co, .slice Ab m cb, .slice Af fn cf, .slice Ae en ce, .bool em]
/-- on the way through `behind`: its own blocks -/
structure BI (w wr : World) (m : Nat) (N : Array Value) : Prop where
  n : Bk wr w.heap.size 205 N
  r : Bk wr (w.heap.size + 1) 262 nil32
  b : Bls wr (w.heap.size + 2) m
  l : Below w.heap.size w wr
theorem BI.below {w wr w' : World} {m : Nat} {N : Array Value} (h : BI w wr m N) (hb : Below wr.heap.size wr w') : BI w w' m N := ⟨h.n.ext hb, h.r.ext hb, h.b.ext hb, h.l.trans (hb.mono h.l.size)⟩
theorem BI.put {w wr : World} {m : Nat} {N : Array Value} (h : BI w wr m N) (i : Nat) (x : Bool) : BI w (wr.setCell ⟨w.heap.size + 2, i, none⟩ (.bool x)) m N :=
  ⟨h.n.far (p := ⟨w.heap.size + 2, i, none⟩) (by simp) _, h.r.far (p := ⟨w.heap.size + 2, i, none⟩) (by simp) _, h.b.set_ i x, h.l.setCell (by simp) _⟩
theorem BI.grown {w wr w' : World} {m n ob s : Nat} {N : Array Value} {v u : Value} {xs : List Value} (h : BI w wr m N) (hg : wr.grownBy w' v.ownBlock) (ho : wr.ownsRow w.heap.size 3 1 v n xs) (hob : w.heap.size + 2 < ob) : BI w (w'.setCell ⟨ob, s, none⟩ u) m N :=
  ⟨(h.n.grown hg (own_ne ho h.n (by decide))).far (p := ⟨ob, s, none⟩) (by simp; omega) _, (h.r.grown hg (own_ne ho h.r (by decide))).far (p := ⟨ob, s, none⟩) (by simp; omega) _, (h.b.grown hg ho).far (p := ⟨ob, s, none⟩) (by simp; omega) _, (below_own h.l ho hg h.l.size (Nat.le_refl _)).setCell (by simp; omega) _⟩
theorem not_taken {l : List Nat} {k x m : Nat} (hr : Ris m l) (hk : l[k]? = some x) : x ∉ l.take k := by
  intro h
  obtain ⟨j, hj⟩ := List.mem_iff_getElem?.1 h
  rw [List.getElem?_take] at hj
  split at hj
  · rename_i hlt
    obtain ⟨h1, e1⟩ := List.getElem?_eq_some_iff.1 hj
    obtain ⟨h2, e2⟩ := List.getElem?_eq_some_iff.1 hk
    have := (List.pairwise_iff_getElem.1 hr.1) j k h1 h2 hlt
    omega
  · cases hj
set_option maxRecDepth 100000 in
set_option maxHeartbeats 32000000 in
theorem behind8_any (B B2 m K tb at_ : Nat) (on bh f e sets nx ac : Value) (em : Bool) (w : World) (hV : NetV w B m on bh f e) (hm : m ≤ 256) (kt : Bk w tb 201 #[sets, nx, ac]) (hr : Rws w B2 m sets K) (hK : K ≤ 300) (ha : at_ < K) : Calls Tryz.prog 154 #[.pointer (some ⟨tb, 0, none⟩), .agg #[on, bh, f, e, .bool em], .int .i64 at_] w (BehindOut m w) := by
  obtain ⟨Ao, co, rfl⟩ := hV.ron.form
  obtain ⟨Ab, cb, rfl⟩ := hV.rbh.form
  obtain ⟨Af, cf, lf, rfl, hlf, hrf, -⟩ := hV.f.form
  obtain ⟨Ae, ce, le, rfl, hle, -, -⟩ := hV.e.form
  obtain ⟨fn, hfn⟩ : ∃ fn, fn = lf.length := ⟨_, rfl⟩
  have hfl := hlf.len
  rw [← hfn] at hV hrf hfl ⊢
  have HLF := Lib.hid hlf
  have HRF := Lib.hid hrf
  generalize le.length = en at *
  clear hlf hrf hle hfn
  have HV := Lib.hid hV
  have HT := Lib.hid kt
  have HR := Lib.hid hr
  obtain ⟨As, cs, rfl⟩ := hr.form
  have htl := def_lt' kt
  obtain ⟨sg, u, rfl, -, hsg, huc, hui, -⟩ := hr.at_ ha
  obtain ⟨Au, cu, lu, rfl, hlu, hru, -⟩ := hui.form
  obtain ⟨un, hun⟩ : ∃ un, un = lu.length := ⟨_, rfl⟩
  have hul := hlu.len
  rw [← hun] at hru hul huc
  have HLU := Lib.hid hlu
  have HRU := Lib.hid hru
  have HUC := Lib.hid huc
  clear hV kt hr hlu hru hun hui huc
  have hmk := make_bools m (by omega)
  go_enter Tryz.func154, Tryz.ntmps154
  go_upto_region 2 with fail
  clear hmk
  have hI0 : BI w (((w.alloc (.cells #[.slice Ao m co, .slice Ab m cb, .slice Af fn cf, .slice Ae en ce, .bool em] 205)).alloc (.cells nil32 262)).alloc (.cells (madeCells #[.bool false] m) 4)) m (NetC Ao Ab Af Ae m co cb fn cf en ce em) := by
    refine ⟨((Bk.new w _ _).alloc _).alloc _, (Bk.made _ _ (by simp)).alloc _, ?_, belowA⟩
    have h := Bls.made ((w.alloc (.cells #[.slice Ao m co, .slice Ab m cb, .slice Af fn cf, .slice Ae en ce, .bool em] 205)).alloc (.cells nil32 262)) m
    rw [show ((w.alloc (.cells #[.slice Ao m co, .slice Ab m cb, .slice Af fn cf, .slice Ae en ce, .bool em] 205)).alloc (.cells nil32 262)).heap.size = w.heap.size + 2 by simp] at h
    exact h
  generalize ((w.alloc (.cells #[.slice Ao m co, .slice Ab m cb, .slice Af fn cf, .slice Ae en ce, .bool em] 205)).alloc (.cells nil32 262)).alloc (.cells (madeCells #[.bool false] m) 4) = w0 at *
  have a0 : (0 : Int) ≤ at_ := by omega
  have a1 : (at_ : Int) < K := by omega
  go_upto_block 0 with fail
  go_cut [8] (fun _ wx => BI w wx m (NetC Ao Ab Af Ae m co cb fn cf en ce em))
  case first =>
    go_wp2
    go_loopw [8] (fun j wr => ∃ q : Nat, q ≤ fn ∧ j = .int .i64 q ∧ BI w wr m (NetC Ao Ab Af Ae m co cb fn cf en ce em)) (fun j _ => fn - (intOf j).toNat)
    case atStart => exact ⟨0, by omega, rfl, hI0⟩
    case round =>
      clear hI0
      obtain ⟨q, hq, rfl, hI⟩ := hrel
      obtain ⟨n0, n1, n2, n3, n4⟩ := bk5 hI.n
      by_cases hgo : at_ = 0 ∧ q < fn
      · obtain ⟨rfl, hlt⟩ := hgo
        have e3 : (q : Int) < fn := by omega
        obtain ⟨fb, fo, z, rfl, hfb, hz, hzc⟩ := (HRF.out.below hI.l).nt_at hlt
        have hzm := HLF.out.2 z (List.mem_of_getElem? hz)
        have hzm' : (z : Int) < m := by omega
        obtain ⟨bx, hbx⟩ := hI.b.cell hzm
        have bf := hI.b.frozen z
        have bl := hI.b.lt
        clear hz
        go_wp2
        go_roundw
        case rel => exact ⟨q + 1, by omega, by go_num, hI.put z true⟩
        case measure => simp [intOf]; omega
      · have hg2 : ((at_ : Int) == 0) = false ∨ (((at_ : Int) == 0) = true ∧ ¬ (q : Int) < fn) := by
          by_cases h0 : at_ = 0
          · exact .inr ⟨by simp [h0], by omega⟩
          · exact .inl (beq_false_of_ne (by omega))
        clear hgo
        rcases hg2 with e4 | ⟨e4, e5⟩
        all_goals
          go_wp2
          go_meet
          exact hI
  case rest =>
  rename World => wy
  have hI := hcut
  clear hcut hI0
  go_wp2
  go_loopw [9] (fun j wr => ∃ q : Nat, q ≤ un ∧ j = .int .i64 q ∧ BI w wr m (NetC Ao Ab Af Ae m co cb fn cf en ce em)) (fun j _ => un - (intOf j).toNat)
  case atStart => exact ⟨0, by omega, rfl, hI⟩
  case round =>
    clear hI
    obtain ⟨q, hq, rfl, hI⟩ := hrel
    obtain ⟨n0, n1, n2, n3, n4⟩ := bk5 hI.n
    obtain ⟨t0, t1, t2⟩ := bk3 (HT.out.ext hI.l)
    have d0 := (hI.l.cell (p := ⟨sg, at_, none⟩) hsg).trans HUC.out
    by_cases hlt : q < un
    · have e3 : (q : Int) < un := by omega
      obtain ⟨fb, fo, z, rfl, hfb, hz, hzc⟩ := (HRU.out.below hI.l).nt_at hlt
      have hzm := HLU.out.2 z (List.mem_of_getElem? hz)
      have hzm' : (z : Int) < m := by omega
      obtain ⟨bg, y, rfl, -, hbg, hyc, hyi, -⟩ := HV.out.rbh.at_ hzm
      obtain ⟨Ay, cy, ly, rfl, hly, hry, -⟩ := hyi.form
      obtain ⟨yn, hyn⟩ : ∃ yn, yn = ly.length := ⟨_, rfl⟩
      have hyl := hly.len
      rw [← hyn] at hry hyl hyc
      have d1 := (hI.l.cell (p := ⟨bg, z, none⟩) hbg).trans hyc
      have HLY := Lib.hid hly
      have HRY := Lib.hid hry
      clear hyi hly hry hyn hz hyc
      go_upto_region 9 with fail
      go_quiet (fail)
      rename_i nq
      have hI1 := hI.below (below_drewN (Below.refl _ _) nq)
      clear n0 n1 n2 n3 n4 t0 t1 t2 d0 d1 hzc hI
      go_wp2
      go_loopw [11] (fun j wr => ∃ q : Nat, q ≤ yn ∧ j = .int .i64 q ∧ BI w wr m (NetC Ao (some ⟨bg, 0, none⟩) Af Ae m co cb fn cf en ce em)) (fun j _ => yn - (intOf j).toNat)
      case atStart => exact ⟨0, by omega, rfl, hI1⟩
      case round =>
        clear hI1
        obtain ⟨x, hx, rfl, hI⟩ := hrel
        by_cases hxl : x < yn
        · have e4 : (x : Int) < yn := by omega
          obtain ⟨xb, xo, y, rfl, hxb, hy, hyc⟩ := (HRY.out.below hI.l).nt_at hxl
          have hym := HLY.out.2 y (List.mem_of_getElem? hy)
          have hym' : (y : Int) < m := by omega
          obtain ⟨bx, hbx⟩ := hI.b.cell hym
          have bf := hI.b.frozen y
          have bl := hI.b.lt
          clear hy
          go_wp2
          go_roundw
          case rel => exact ⟨x + 1, by omega, by go_num, hI.put y true⟩
          case measure => simp [intOf]; omega
        · obtain rfl : x = yn := by omega
          go_wp2
          go_roundw
          case rel => exact ⟨q + 1, by omega, by go_num, hI⟩
          case measure => simp [intOf]; omega
    · obtain rfl : q = un := by omega
      go_upto_region 15 with ((with_reducible refine wpList_store_all (wr.alloc (.cells nil32 262)) ?hg 262 (.tmp 12) (.tmp 76) ?ho wr.heap.size nil32 nil32 ?he ?hx (Bk.new wr _ _) size32z rfl nil32_one ?_); (case hg => rfl); (case ho => rfl); (case he => rfl); (case hx => rfl))
      have hbl := hI.b.lt
      obtain ⟨ob, hob⟩ : ∃ ob, ob = wr.heap.size := ⟨_, rfl⟩
      have hI4 : BI w ((wr.alloc (.cells nil32 262)).setRow wr.heap.size nil32) m (NetC Ao Ab Af Ae m co cb fn cf en ce em) := by
        rw [World.setRow_alloc_new]
        exact hI.below ((Below.refl _ _).alloc (Nat.le_refl _) _)
      have kO4 : Bk ((wr.alloc (.cells nil32 262)).setRow wr.heap.size nil32) ob 262 nil32 := by
        rw [World.setRow_alloc_new, hob]
        exact Bk.new wr _ _
      rw [← hob] at hbl
      rw [← hob] at hI4 kO4 ⊢
      generalize (wr.alloc (.cells nil32 262)).setRow ob nil32 = w4 at *
      clear hob n0 n1 n2 n3 n4 t0 t1 t2 d0 hI
      go_wp2
      go_loopw [13] (fun j wr => ∃ (p : Nat) (vs : Array Value), p ≤ m ∧ j = .int .i64 p ∧ BI w wr m (NetC Ao Ab Af Ae m co cb fn cf en ce em) ∧ Hid (Outs wr w.heap.size ob vs fun _ => p)) (fun j _ => m - (intOf j).toNat)
      case atStart => exact ⟨0, nil32, by omega, rfl, hI4, Lib.hid (Outs.zero kO4)⟩
      case round =>
        clear hI4 kO4
        obtain ⟨p, vs, hp, rfl, hI, hO⟩ := hrel
        by_cases hpl : p < m
        · have e4 : (p : Int) < m := by omega
          obtain ⟨og, y, rfl, -, hog, hyc, hyi, -⟩ := HV.out.ron.at_ hpl
          obtain ⟨Ay, cy, ly, rfl, hly, hry, -⟩ := hyi.form
          obtain ⟨yn, hyn⟩ : ∃ yn, yn = ly.length := ⟨_, rfl⟩
          have hyl := hly.len
          rw [← hyn] at hry hyl hyc
          have HLY := Lib.hid hly
          have HRY := Lib.hid hry
          have HYC := Lib.hid hyc
          clear hyi hly hry hyn hyc
          go_wp2
          go_loopw [14] (fun j wr => ∃ (k : Nat) (vs : Array Value), k ≤ yn ∧ j = .int .i64 k ∧ BI w wr m (NetC (some ⟨og, 0, none⟩) Ab Af Ae m co cb fn cf en ce em) ∧ Hid (Outs wr w.heap.size ob vs fun s => if s ∈ ly.take k then p + 1 else p)) (fun j _ => yn - (intOf j).toNat)
          case atStart => exact ⟨0, vs, by omega, rfl, hI, Lib.hid (hO.out.mono (fun s => by simp))⟩
          case round =>
            clear hI hO
            obtain ⟨k, vs, hk, rfl, hI, hO⟩ := hrel
            rename World => wr
            obtain ⟨n0, n1, n2, n3, n4⟩ := bk5 hI.n
            have d0 := (hI.l.cell (p := ⟨og, p, none⟩) hog).trans HYC.out
            obtain ⟨bx, hbx⟩ := hI.b.cell hpl
            cases bx with
            | false =>
              go_wp2
              go_roundw
              case rel => exact ⟨p + 1, vs, by omega, by go_num, hI, Lib.hid (hO.out.mono (fun s => by split <;> omega))⟩
              case measure => simp [intOf]; omega
            | true =>
              by_cases hkl : k < yn
              · have e5 : (k : Int) < yn := by omega
                obtain ⟨xb, xo, s, rfl, hxb, hs, hsc⟩ := (HRY.out.below hI.l).nt_at hkl
                have hnt := Lib.hid (not_taken HLY.out hs)
                have HS := Lib.hid hs
                clear hs
                by_cases h32 : s < 32
                · have e6 : (s : Int) < 32 := by omega
                  have s0 : (0 : Int) ≤ s := by omega
                  have hsz := hO.out.sz
                  obtain ⟨v, hv⟩ : ∃ v, vs[s]? = some v := ⟨_, Array.getElem?_eq_getElem (by omega)⟩
                  have hvi := hO.out.ni s v hv
                  rw [if_neg hnt.out] at hvi
                  obtain ⟨xs, hxo, hxr⟩ := hvi
                  obtain ⟨Av, cv, rfl, -, -, -, -⟩ := own_form hxo
                  have ko := hO.out.bk
                  have hvc : wr.cell? ⟨ob, s, none⟩ = some (.slice Av xs.length cv) := by rw [ko.cell]; exact hv
                  have hxl := hxr.len
                  have hzw := hI.l.size
                  go_wp2_with (at_builtin; ((refine app_one Tryz.underlying51 info_in rfl (by decide) wr w.heap.size _ xs.length _ hxo (by unfold maxLen; omega) (by omega) hzw _ rfl (by simp [Value.oneCell']) rfl _ _ rfl rfl rfl ?_); intro g5 cap5 w5 hown5 hgr5 hat5 hlt5; have ko5 := ko.grown hgr5 (own_ne hxo ko (by decide)); have of5 := ko5.frozen; have ol5 := def_lt' ko5; have oc5 := (ko5.cell s).trans hv))
                  have hI5 := hI.grown (ob := ob) (s := s) (u := .slice (some ⟨g5, 0, none⟩) (xs.length + 1) cap5) hgr5 hxo hbl
                  have hO5 := hO.out.push hv hxo (M := p + 1) (hxr.mono (by omega)) (fun y hy => hxr.2 y hy) (Nat.lt_succ_self p) hgr5 hown5 hat5
                  have hO6 := Lib.hid (hO5.mono (P' := fun j => if j ∈ ly.take (k + 1) then p + 1 else p) (fun j => by
                    have hmem : j ∈ ly.take (k + 1) ↔ j ∈ ly.take k ∨ j = s := by
                      rw [List.take_add_one, HS.out, Option.toList_some, List.mem_append]
                      simp
                    by_cases hj : j = s
                    · rw [if_pos hj, if_pos (hmem.2 (.inr hj))]; exact Nat.le_refl _
                    · rw [if_neg hj]
                      by_cases hj2 : j ∈ ly.take k
                      · rw [if_pos hj2, if_pos (hmem.2 (.inl hj2))]; exact Nat.le_refl _
                      · rw [if_neg hj2, if_neg (by rw [hmem]; intro h; rcases h with h | h; (· exact hj2 h); (· exact hj h))]; exact Nat.le_refl _))
                  go_roundw
                  case rel => exact ⟨k + 1, _, by omega, by go_num, hI5, hO6⟩
                  case measure => simp [intOf]; omega
                · have e6 : ¬ (s : Int) < 32 := by omega
                  go_wp2
                  go_roundw
                  case rel => exact ⟨k + 1, vs, by omega, by go_num, hI, Lib.hid (hO.out.mono (fun j => by
                    by_cases hj2 : j ∈ ly.take k
                    · rw [if_pos hj2, if_pos (by rw [List.take_add_one]; exact List.mem_append_left _ hj2)]; exact Nat.le_refl _
                    · rw [if_neg hj2]; split <;> omega))⟩
                  case measure => simp [intOf]; omega
              · obtain rfl : k = yn := by omega
                go_wp2
                go_roundw
                case rel => exact ⟨p + 1, vs, by omega, by go_num, hI, Lib.hid (hO.out.mono (fun s => by split <;> omega))⟩
                case measure => simp [intOf]; omega
        · obtain rfl : p = m := by omega
          have ko := hO.out.bk
          have hsz := hO.out.sz
          have hone : vs.all (·.oneCell') = true := Array.all_eq_true_iff_forall_mem.2 fun u hu => by
            obtain ⟨j, hj⟩ := Array.mem_iff_getElem?.1 hu
            obtain ⟨A, c, cs, rfl, -⟩ := (hO.out.ni j u hj).form
            simp [Value.oneCell']
          have hs32 : (Tryz.prog.info? 262).map (·.size) = some vs.size := by rw [hsz]; exact size32
          have HIR := Lib.hid hI.r
          have HS32 := Lib.hid hs32
          have HSZ := Lib.hid (show nil32.size = vs.size by rw [hsz]; rfl)
          have hk9 := setRow_bk hI.r vs
          have hs9 := setRow_sti wr (w.heap.size + 1) vs
          have hb9 := setRow_below hI.l (b := w.heap.size + 1) (by omega) vs
          have hni : ∀ (s : Nat) (u : Value), vs[s]? = some u → NsIn (wr.setRow (w.heap.size + 1) vs) w.heap.size p u := fun s u hu => hs9.ns (hO.out.ni s u hu) (fun g hg e => by
            have e : g = w.heap.size + 1 := e
            subst e
            exact (hO.out.ni s u hu).ne hI.r (by decide) hg)
          have HE := Lib.hid (show BehindOut p w (.returned (.agg vs)) (wr.setRow (w.heap.size + 1) vs) from ⟨vs, rfl, hsz, hni, hb9⟩)
          have HK9 := Lib.hid hk9
          clear hs32 hsz hk9 hs9 hb9 hni
          go_wp2_with (first | ((with_reducible refine wpList_load_all wr ?hg 262 (.tmp 12) ?ho ob vs ?he ko 32 51 Tryz.underlying262 HS32.out ?_); (case hg => rfl); (case ho => rfl); (case he => rfl)) | ((with_reducible refine wpList_store_all wr ?hg 262 (.tmp 6) (.tmp 117) ?ho (w.heap.size + 1) nil32 vs ?he ?hx HIR.out HS32.out HSZ.out hone ?_); (case hg => rfl); (case ho => rfl); (case he => rfl); (case hx => rfl)))
          exact bodyPost_ret (v := .agg vs) (results_cell_row Tryz.results154 _ _ (w.heap.size + 1) 262 vs (0, 0) _ rfl HK9.out Tryz.underlying262 rfl HS32.out) rfl HE.out
theorem Bk.ty {w : World} {b : Nat} {t t' : TypeId} {cs cs' : Array Value} (h : Bk w b t cs) (h' : Bk w b t' cs') : t = t' := by
  have e := Eq.trans (Eq.symm h) h'
  simp at e
  exact e.2
theorem info_r32 : (Tryz.prog.info? 261).map (fun i => (i.zero, i.size, i.bytes)) = some (some (.agg #[.int .i64 0, .int .i64 0, .int .i64 0, .int .i64 0, .int .i64 0, .int .i64 0, .int .i64 0, .int .i64 0, .int .i64 0, .int .i64 0, .int .i64 0, .int .i64 0, .int .i64 0, .int .i64 0, .int .i64 0, .int .i64 0, .int .i64 0, .int .i64 0, .int .i64 0, .int .i64 0, .int .i64 0, .int .i64 0, .int .i64 0, .int .i64 0, .int .i64 0, .int .i64 0, .int .i64 0, .int .i64 0, .int .i64 0, .int .i64 0, .int .i64 0, .int .i64 0]), 32, 256) := by kernel_rfl
theorem sizer32 : (Tryz.prog.info? 261).map (·.size) = some 32 := by kernel_rfl
abbrev zero32 : Array Value := #[.int .i64 0, .int .i64 0, .int .i64 0, .int .i64 0, .int .i64 0, .int .i64 0, .int .i64 0, .int .i64 0, .int .i64 0, .int .i64 0, .int .i64 0, .int .i64 0, .int .i64 0, .int .i64 0, .int .i64 0, .int .i64 0, .int .i64 0, .int .i64 0, .int .i64 0, .int .i64 0, .int .i64 0, .int .i64 0, .int .i64 0, .int .i64 0, .int .i64 0, .int .i64 0, .int .i64 0, .int .i64 0, .int .i64 0, .int .i64 0, .int .i64 0, .int .i64 0]
theorem sizer32z : (Tryz.prog.info? 261).map (·.size) = some zero32.size := sizer32
theorem zero32_one : zero32.all (·.oneCell') = true := by simp [zero32, Value.oneCell']
/-- 32 numbers -/
def Is32 (cs : Array Value) : Prop := cs.size = 32 ∧ ∀ (i : Nat), i < 32 → ∃ x : Int, cs[i]? = some (.int .i64 x)
theorem zero32_is : Is32 zero32 := by
  refine ⟨rfl, fun i hi => ⟨0, ?_⟩⟩
  rcases (show i = 0 ∨ i = 1 ∨ i = 2 ∨ i = 3 ∨ i = 4 ∨ i = 5 ∨ i = 6 ∨ i = 7 ∨ i = 8 ∨ i = 9 ∨ i = 10 ∨ i = 11 ∨ i = 12 ∨ i = 13 ∨ i = 14 ∨ i = 15 ∨ i = 16 ∨ i = 17 ∨ i = 18 ∨ i = 19 ∨ i = 20 ∨ i = 21 ∨ i = 22 ∨ i = 23 ∨ i = 24 ∨ i = 25 ∨ i = 26 ∨ i = 27 ∨ i = 28 ∨ i = 29 ∨ i = 30 ∨ i = 31 by omega) with rfl | rfl | rfl | rfl | rfl | rfl | rfl | rfl | rfl | rfl | rfl | rfl | rfl | rfl | rfl | rfl | rfl | rfl | rfl | rfl | rfl | rfl | rfl | rfl | rfl | rfl | rfl | rfl | rfl | rfl | rfl | rfl <;> rfl
theorem Is32.set {cs : Array Value} (h : Is32 cs) (i : Nat) (x : Int) : Is32 (cs.setIfInBounds i (.int .i64 x)) := by
  refine ⟨by simpa using h.1, fun j hj => ?_⟩
  rw [Array.getElem?_setIfInBounds]
  split
  · rw [if_pos (by have := h.1; omega)]; exact ⟨x, rfl⟩
  · exact h.2 j hj
theorem Is32.one {cs : Array Value} (h : Is32 cs) : cs.all (·.oneCell') = true := Array.all_eq_true_iff_forall_mem.2 fun u hu => by
  obtain ⟨j, hj⟩ := Array.mem_iff_getElem?.1 hu
  have hlt := (Array.getElem?_eq_some_iff.1 hj).1
  obtain ⟨x, hx⟩ := h.2 j (by have := h.1; omega)
  rw [hx] at hj
  injection hj with hj
  subst hj
  simp [Value.oneCell']
theorem fold_set (l : List Value) : ∀ (k : Nat) (z : Array Value), k + l.length = z.size → ((l.zipIdx k).foldl (fun (a : Array Value) (x : Value × Nat) => a.setIfInBounds x.2 x.1) z).toList = z.toList.take k ++ l := by
  induction l with
  | nil => intro k z h; simp at h; simp [List.take_of_length_le, h]
  | cons x l ih =>
    intro k z h
    rw [List.zipIdx_cons, List.foldl_cons, ih (k + 1) _ (by simp at h ⊢; omega)]
    simp only [Array.toList_setIfInBounds]
    rw [List.take_add_one, List.take_set_of_le (Nat.le_refl _), List.getElem?_set_self (by simp at h ⊢; omega)]
    simp
theorem fill_row (z cs : Array Value) (hz : z.size = 32) (h : cs.size = 32) : Instr.fill (fun i => some (i * 32, 32)) z [(0, .agg cs)] = some cs := by
  have h1 := fold_set cs.toList 0 z (by simp [h, hz])
  simp only [List.take_zero, List.nil_append] at h1
  have hc : (Value.agg cs).cells = cs := rfl
  unfold Instr.fill
  simp only [hc, Nat.zero_mul, Nat.zero_add, h, hz]
  simp only [Instr.fill]
  simp
  rw [show cs.size = cs.zipIdx.size by simp]
  rw [← Array.foldl_toList, Array.toList_zipIdx]
  apply Array.ext'
  exact h1
theorem build_row (cs : Array Value) (h : cs.size = 32) (W : World) : (Instr.buildSlice 199 1 #[(0, .agg cs)]).run Tryz.prog W = .ok (.slice (some ⟨W.heap.size, 0, none⟩) 1 1) (W.alloc (.cells cs 261)) := by
  obtain ⟨i0, hi, hz0, hz1, hz2⟩ := info_parts info_r32
  refine run_buildSlice W _ _ 1 _ cs i0 _ Tryz.underlying199 hi hz0 (by rw [hz1]; decide) (by rw [hz1]; decide) ?_
  rw [hz1]
  exact fill_row _ cs (by simp) h
theorem wpList_build_row {ops : Array Oper} {rest : List Oper} {o : Oper} {a : Act} {Q : Exit → Act → World → Prop} (w : World) (hg : o.guard = none) (x : Operand) (ho : o.op = .buildSlice 199 1 #[(0, x)]) (cs : Array Value) (hx : a.eval x = .agg cs) (hc : cs.size = 32)
    (h : wpList Tryz.prog ops Q rest (a.put o.dst (.slice (some ⟨w.heap.size, 0, none⟩) 1 1)) (w.alloc (.cells cs 261))) : wpList Tryz.prog ops Q (o :: rest) a w := by
  refine wpList_plain hg fun K hK => ?_
  have hr := build_row cs hc w
  unfold Oper.wp
  simp [execOp, ho, hx, hr, Result.andThen]
  exact hK _ _ h
/-- states, on the way -/
structure NI (w wr : World) (m K Ka k : Nat) (N : Array Value) (sets nx ac : Value) : Prop where
  n : Bk wr w.heap.size 205 N
  r : Bk wr (w.heap.size + 1) 201 #[.slice none 0 0, .slice none 0 0, .slice none 0 0]
  t : Bk wr (w.heap.size + 4) 201 #[sets, nx, ac]
  rs : Rws wr w.heap.size m sets K
  rn : ∃ xs, wr.ownsRow w.heap.size 261 32 nx k xs
  ra : ∃ xs, wr.ownsRow w.heap.size 4 1 ac Ka xs
  l : Below w.heap.size w wr
/-- a row of numbers, and the sets behind a state -/
structure RI (w wr : World) (m rb ob : Nat) (cs vs : Array Value) : Prop where
  rb : Bk wr rb 261 cs
  is : Is32 cs
  ob : Bk wr ob 262 vs
  sz : vs.size = 32
  ni : ∀ (s : Nat) (u : Value), vs[s]? = some u → NsIn wr w.heap.size m u
section
variable {w wr w' : World} {m K Ka k rb ob : Nat} {N cs vs : Array Value} {sets nx ac v' : Value} {Y : Nat → Prop}
theorem NI.below (h : NI w wr m K Ka k N sets nx ac) (hb : Below wr.heap.size wr w') : NI w w' m K Ka k N sets nx ac := by
  obtain ⟨xs, h1⟩ := h.rn
  obtain ⟨ys, h2⟩ := h.ra
  exact ⟨h.n.ext hb, h.r.ext hb, h.t.ext hb, h.rs.below hb, ⟨xs, own_below h1 hb⟩, ⟨ys, own_below h2 hb⟩, h.l.trans (hb.mono h.l.size)⟩
theorem RI.below (h : RI w wr m rb ob cs vs) (hb : Below wr.heap.size wr w') : RI w w' m rb ob cs vs :=
  ⟨h.rb.ext hb, h.is, h.ob.ext hb, h.sz, fun s u hu => (h.ni s u hu).below hb⟩
/-- blocks of another kind are written -/
theorem RI.sti {t : TypeId} (h : RI w wr m rb ob cs vs) (hs : Sti Y wr w') (hY : ∀ i, Y i → ∃ cs, Bk wr i t cs) (h1 : t ≠ 261) (h2 : t ≠ 262) (h3 : t ≠ 3) : RI w w' m rb ob cs vs :=
  ⟨hs.bk h.rb (fun y => by obtain ⟨c, hc⟩ := hY _ y; exact h1 (hc.ty h.rb)), h.is, hs.bk h.ob (fun y => by obtain ⟨c, hc⟩ := hY _ y; exact h2 (hc.ty h.ob)), h.sz, fun s u hu => hs.ns (h.ni s u hu) (fun g hg y => by obtain ⟨c, hc⟩ := hY _ y; exact (h.ni s u hu).ne hc (fun e => h3 e.symm) hg)⟩
theorem own_row_ty {w : World} {base size n : Nat} {e : TypeId} {v : Value} {xs : List Value} (h : w.ownsRow base e size v n xs) : ∀ i, v.ownBlock = some i → ∃ cs, Bk w i e cs := fun i hi => by
  rcases h.2 with ⟨rfl, _⟩ | ⟨g', cap, cur, rfl, _, hh, _⟩
  · simp [Value.ownBlock] at hi
  · have e1 : g' = i := by simpa [Value.ownBlock] using hi
    subst e1
    exact ⟨cur, hh⟩
theorem Rws.ty {w : World} {B m K : Nat} {v : Value} (h : Rws w B m v K) : ∀ i, v.ownBlock = some i → ∃ cs, Bk w i 51 cs := by
  obtain ⟨vs, h1, -⟩ := h
  exact own_row_ty h1
/-- one more set -/
theorem NI.pushS {u : Value} {ss : List Value} (h : NI w wr m K Ka k N sets nx ac) (h1 : wr.ownsRow w.heap.size 51 1 sets K ss) (h2 : ∀ u ∈ ss, NsIn wr w.heap.size m u) (hu : NsIn wr w.heap.size m u) (hg : wr.grownBy w' sets.ownBlock) (ho : w'.ownsRow w.heap.size 51 1 v' (K + 1) (ss ++ [u])) :
    NI w (w'.setCell ⟨w.heap.size + 4, 0, none⟩ v') m (K + 1) Ka k N v' nx ac := by
  obtain ⟨xs, hn⟩ := h.rn
  obtain ⟨ys, ha⟩ := h.ra
  have hs : Sti (fun i => sets.ownBlock = some i) wr w' := Sti.of_gr hg (fun i h => h)
  have kt := hs.bk h.t (own_ne h1 h.t (by decide))
  have hr := rows_put h1 h2 hu hs ho
  have hn' := hs.own hn (fun g hg h0 => hown_type hn h1 (by decide) g h0 hg)
  have ha' := hs.own ha (fun g hg h0 => hown_type ha h1 (by decide) g h0 hg)
  exact ⟨(hs.bk h.n (own_ne h1 h.n (by decide))).far (p := ⟨w.heap.size + 4, 0, none⟩) (by simp) _, (hs.bk h.r (own_ne h1 h.r (by decide))).far (p := ⟨w.heap.size + 4, 0, none⟩) (by simp) _, kt.set_ 0 _, hr.put_ kt (by decide) (by decide) _, ⟨xs, ownsRow_setCell_other hn' (own_ne hn' kt (by decide)) _⟩, ⟨ys, ownsRow_setCell_other ha' (own_ne ha' kt (by decide)) _⟩, (below_own h.l h1 hg h.l.size (Nat.le_refl _)).setCell (by simp) _⟩
/-- one more truth -/
theorem NI.pushA {u : Value} {ss : List Value} (h : NI w wr m K Ka k N sets nx ac) (h1 : wr.ownsRow w.heap.size 4 1 ac Ka ss) (hg : wr.grownBy w' ac.ownBlock) (ho : w'.ownsRow w.heap.size 4 1 v' (Ka + 1) (ss ++ [u])) :
    NI w (w'.setCell ⟨w.heap.size + 4, 2, none⟩ v') m K (Ka + 1) k N sets nx v' := by
  obtain ⟨xs, hn⟩ := h.rn
  have hs : Sti (fun i => ac.ownBlock = some i) wr w' := Sti.of_gr hg (fun i h => h)
  have kt := hs.bk h.t (own_ne h1 h.t (by decide))
  obtain ⟨vs, r1, r2⟩ := id h.rs
  have hr : Rws w' w.heap.size m sets K := ⟨vs, hs.own r1 (fun g hg h0 => hown_type r1 h1 (by decide) g h0 hg), fun u hu => hs.ns (r2 u hu) (fun g hg h0 => (r2 u hu).ne_row h1 (by decide) g h0 hg)⟩
  have hn' := hs.own hn (fun g hg h0 => hown_type hn h1 (by decide) g h0 hg)
  exact ⟨(hs.bk h.n (own_ne h1 h.n (by decide))).far (p := ⟨w.heap.size + 4, 2, none⟩) (by simp) _, (hs.bk h.r (own_ne h1 h.r (by decide))).far (p := ⟨w.heap.size + 4, 2, none⟩) (by simp) _, kt.set_ 2 _, hr.put_ kt (by decide) (by decide) _, ⟨xs, ownsRow_setCell_other hn' (own_ne hn' kt (by decide)) _⟩, ⟨_, ownsRow_setCell_other ho (own_ne ho kt (by decide)) _⟩, (below_own h.l h1 hg h.l.size (Nat.le_refl _)).setCell (by simp) _⟩
/-- one more row of numbers -/
theorem NI.pushN {us : List Value} {ss : List Value} (h : NI w wr m K Ka k N sets nx ac) (h1 : wr.ownsRow w.heap.size 261 32 nx k ss) (hg : wr.grownBy w' nx.ownBlock) (ho : w'.ownsRow w.heap.size 261 32 v' (k + 1) (ss ++ us)) :
    NI w (w'.setCell ⟨w.heap.size + 4, 1, none⟩ v') m K Ka (k + 1) N sets v' ac := by
  obtain ⟨ys, ha⟩ := h.ra
  have hs : Sti (fun i => nx.ownBlock = some i) wr w' := Sti.of_gr hg (fun i h => h)
  have kt := hs.bk h.t (own_ne h1 h.t (by decide))
  obtain ⟨vs, r1, r2⟩ := id h.rs
  have hr : Rws w' w.heap.size m sets K := ⟨vs, hs.own r1 (fun g hg h0 => hown_type r1 h1 (by decide) g h0 hg), fun u hu => hs.ns (r2 u hu) (fun g hg h0 => (r2 u hu).ne_row h1 (by decide) g h0 hg)⟩
  have ha' := hs.own ha (fun g hg h0 => hown_type ha h1 (by decide) g h0 hg)
  exact ⟨(hs.bk h.n (own_ne h1 h.n (by decide))).far (p := ⟨w.heap.size + 4, 1, none⟩) (by simp) _, (hs.bk h.r (own_ne h1 h.r (by decide))).far (p := ⟨w.heap.size + 4, 1, none⟩) (by simp) _, kt.set_ 1 _, hr.put_ kt (by decide) (by decide) _, ⟨_, ownsRow_setCell_other ho (own_ne ho kt (by decide)) _⟩, ⟨ys, ownsRow_setCell_other ha' (own_ne ha' kt (by decide)) _⟩, (below_own h.l h1 hg h.l.size (Nat.le_refl _)).setCell (by simp) _⟩
/-- a number of the row is set -/
theorem NI.putR {i : Nat} {u : Value} (h : NI w wr m K Ka k N sets nx ac) (kr : Bk wr rb 261 cs) (hrb : w.heap.size ≤ rb) (hne : ∀ g, nx.ownBlock = some g → g ≠ rb) : NI w (wr.setCell ⟨rb, i, none⟩ u) m K Ka k N sets nx ac := by
  obtain ⟨xs, hn⟩ := h.rn
  obtain ⟨ys, ha⟩ := h.ra
  exact ⟨h.n.far (p := ⟨rb, i, none⟩) (fun e => absurd (Bk.ty (e ▸ h.n) kr) (by decide)) _, h.r.far (p := ⟨rb, i, none⟩) (fun e => absurd (Bk.ty (e ▸ h.r) kr) (by decide)) _, h.t.far (p := ⟨rb, i, none⟩) (fun e => absurd (Bk.ty (e ▸ h.t) kr) (by decide)) _, h.rs.put_ kr (by decide) (by decide) _, ⟨xs, ownsRow_setCell_other hn (fun e => hne _ e rfl) _⟩, ⟨ys, ownsRow_setCell_other ha (own_ne ha kr (by decide)) _⟩, h.l.setCell hrb _⟩
theorem RI.put {i : Nat} (h : RI w wr m rb ob cs vs) (x : Int) : RI w (wr.setCell ⟨rb, i, none⟩ (.int .i64 x)) m rb ob (cs.setIfInBounds i (.int .i64 x)) vs :=
  ⟨h.rb.set_ i _, h.is.set i x, h.ob.far (p := ⟨rb, i, none⟩) (fun e => absurd (Bk.ty (e ▸ h.ob) h.rb) (by decide)) _, h.sz, fun s u hu => (h.ni s u hu).put h.rb (by decide) _⟩
theorem RI.set_ {b i : Nat} {t : TypeId} {ds : Array Value} (h : RI w wr m rb ob cs vs) (k : Bk wr b t ds) (h1 : 261 ≠ t) (h2 : 262 ≠ t) (h3 : 3 ≠ t) (u : Value) : RI w (wr.setCell ⟨b, i, none⟩ u) m rb ob cs vs :=
  ⟨h.rb.far (p := ⟨b, i, none⟩) (fun e => absurd (Bk.ty h.rb (by have e : rb = b := e; rw [e]; exact k)) h1) _, h.is, h.ob.far (p := ⟨b, i, none⟩) (fun e => absurd (Bk.ty h.ob (by have e : ob = b := e; rw [e]; exact k)) h2) _, h.sz, fun s u hu => (h.ni s u hu).put k h3 _⟩
end
def New8Out (w : World) (e : Ending) (w' : World) : Prop := ∃ (A0 A1 A2 : Option Addr) (n0 c0 n1 c1 n2 c2 : Nat) (b : Bool), e = .returned (.tuple #[.agg #[.slice A0 n0 c0, .slice A1 n1 c1, .slice A2 n2 c2], .bool b]) ∧ Below w.heap.size w w'
def set3 (w : World) (b : Nat) (x0 x1 x2 : Value) : World := ((w.setCell ⟨b, 0, none⟩ x0).setCell ⟨b, 1, none⟩ x1).setCell ⟨b, 2, none⟩ x2
theorem set3_bk {w : World} {b : Nat} {t : TypeId} {y0 y1 y2 : Value} (k : Bk w b t #[y0, y1, y2]) (x0 x1 x2 : Value) : Bk (set3 w b x0 x1 x2) b t #[x0, x1, x2] := by
  have q0 : Bk _ b t #[x0, y1, y2] := k.set_ 0 x0
  have q1 : Bk _ b t #[x0, x1, y2] := q0.set_ 1 x1
  have q2 : Bk _ b t #[x0, x1, x2] := q1.set_ 2 x2
  exact q2
theorem set3_below {w wr : World} {b : Nat} (h : Below w.heap.size w wr) (hb : w.heap.size ≤ b) (x0 x1 x2 : Value) : Below w.heap.size w (set3 wr b x0 x1 x2) :=
  ((h.setCell hb _).setCell hb _).setCell hb _
set_option maxRecDepth 100000 in
set_option maxHeartbeats 32000000 in
theorem new8_any (B m : Nat) (on bh f e : Value) (em : Bool) (w : World) (hV : NetV w B m on bh f e) (hm : m ≤ 256) : Calls Tryz.prog 105 #[.agg #[on, bh, f, e, .bool em]] w (New8Out w) := by
  obtain ⟨Ao, co, rfl⟩ := hV.ron.form
  obtain ⟨Ab, cb, rfl⟩ := hV.rbh.form
  obtain ⟨Af, cf, lf, rfl, hlf, -, -⟩ := hV.f.form
  obtain ⟨Ae, ce, le, rfl, hle, hre, -⟩ := hV.e.form
  generalize lf.length = fn at *
  obtain ⟨en, hen⟩ : ∃ en, en = le.length := ⟨_, rfl⟩
  have hel := hle.len
  rw [← hen] at hV hre hel ⊢
  have HRE := Lib.hid hre.to_is
  have HV := Lib.hid hV
  clear hV hlf hle hre hen
  go_enter Tryz.func105, Tryz.ntmps105
  go_upto_region 2 with fail
  have hI0 : NI w (((((w.alloc (.cells #[.slice Ao m co, .slice Ab m cb, .slice Af fn cf, .slice Ae en ce, .bool em] 205)).alloc (.cells #[.slice none 0 0, .slice none 0 0, .slice none 0 0] 201)).alloc (.cells #[.slice none 0 0] 51)).alloc (.cells #[.bool em] 4)).alloc (.cells #[.slice (some ⟨w.heap.size + 1 + 1, 0, none⟩) 1 1, .slice none 0 0, .slice (some ⟨w.heap.size + 1 + 1 + 1, 0, none⟩) 1 1] 201)) m 1 1 0 #[.slice Ao m co, .slice Ab m cb, .slice Af fn cf, .slice Ae en ce, .bool em] (.slice (some ⟨w.heap.size + 1 + 1, 0, none⟩) 1 1) (.slice none 0 0) (.slice (some ⟨w.heap.size + 1 + 1 + 1, 0, none⟩) 1 1) := by
    have o1 := own_sole ((w.alloc (.cells #[.slice Ao m co, .slice Ab m cb, .slice Af fn cf, .slice Ae en ce, .bool em] 205)).alloc (.cells #[.slice none 0 0, .slice none 0 0, .slice none 0 0] 201)) w.heap.size 51 #[.slice none 0 0] (by simp; omega)
    have o2 := own_sole (((w.alloc (.cells #[.slice Ao m co, .slice Ab m cb, .slice Af fn cf, .slice Ae en ce, .bool em] 205)).alloc (.cells #[.slice none 0 0, .slice none 0 0, .slice none 0 0] 201)).alloc (.cells #[.slice none 0 0] 51)) w.heap.size 4 #[.bool em] (by simp; omega)
    rw [show ((w.alloc (.cells #[.slice Ao m co, .slice Ab m cb, .slice Af fn cf, .slice Ae en ce, .bool em] 205)).alloc (.cells #[.slice none 0 0, .slice none 0 0, .slice none 0 0] 201)).heap.size = w.heap.size + 1 + 1 by simp] at o1
    rw [show (((w.alloc (.cells #[.slice Ao m co, .slice Ab m cb, .slice Af fn cf, .slice Ae en ce, .bool em] 205)).alloc (.cells #[.slice none 0 0, .slice none 0 0, .slice none 0 0] 201)).alloc (.cells #[.slice none 0 0] 51)).heap.size = w.heap.size + 1 + 1 + 1 by simp] at o2
    refine ⟨((((Bk.new w _ _).alloc _).alloc _).alloc _).alloc _, (((Bk.made _ _ (by simp)).alloc _).alloc _).alloc _, Bk.made _ _ (by simp), ⟨[.slice none 0 0], own_below (own_below o1 ((Below.refl _ _).alloc (Nat.le_refl _) _)) ((Below.refl _ _).alloc (Nat.le_refl _) _), fun u hu => ?_⟩, ⟨[], World.ownsRow_nil _ _ _ _⟩, ⟨_, own_below o2 ((Below.refl _ _).alloc (Nat.le_refl _) _)⟩, belowA⟩
    simp at hu; subst hu; exact NsIn.nil _ _ _
  generalize ((((w.alloc (.cells #[.slice Ao m co, .slice Ab m cb, .slice Af fn cf, .slice Ae en ce, .bool em] 205)).alloc (.cells #[.slice none 0 0, .slice none 0 0, .slice none 0 0] 201)).alloc (.cells #[.slice none 0 0] 51)).alloc (.cells #[.bool em] 4)).alloc (.cells #[.slice (some ⟨w.heap.size + 1 + 1, 0, none⟩) 1 1, .slice none 0 0, .slice (some ⟨w.heap.size + 1 + 1 + 1, 0, none⟩) 1 1] 201) = w0 at *
  generalize Value.slice (some ⟨w.heap.size + 1 + 1, 0, none⟩) 1 1 = sv0 at *
  generalize Value.slice (some ⟨w.heap.size + 1 + 1 + 1, 0, none⟩) 1 1 = av0 at *
  have HI0 := Lib.hid hI0
  clear hI0
  go_wp2
  go_loopw [5] (fun j wr => ∃ (k K : Nat) (sets nx ac : Value), k ≤ K ∧ 1 ≤ K ∧ K ≤ 200 ∧ j = .int .i64 k ∧ Hid (NI w wr m K K k #[.slice Ao m co, .slice Ab m cb, .slice Af fn cf, .slice Ae en ce, .bool em] sets nx ac)) (fun j _ => 201 - (intOf j).toNat)
  case atStart => exact ⟨0, 1, _, _, _, by omega, by omega, by omega, rfl, HI0⟩
  case round =>
    clear HI0
    obtain ⟨k, K, sets, nx, ac, hk, hK1, hK, rfl, hI⟩ := hrel
    obtain ⟨As, cs, rfl⟩ := hI.out.rs.form
    obtain ⟨t0, t1, t2⟩ := bk3 hI.out.t
    obtain ⟨n0, n1, n2, n3, n4⟩ := bk5 hI.out.n
    by_cases hlt : k < K
    · have e3 : (k : Int) < K := by omega
      go_upto_region 6 with ((with_reducible refine wpList_store_all (wr.alloc (.cells zero32 261)) ?hg 261 (.tmp 6) (.tmp 23) ?ho wr.heap.size zero32 zero32 ?he ?hx (Bk.new wr _ _) sizer32z rfl zero32_one ?_); (case hg => rfl); (case ho => rfl); (case he => rfl); (case hx => rfl))
      obtain ⟨rb, hrb⟩ : ∃ rb, rb = wr.heap.size := ⟨_, rfl⟩
      have hI4 : NI w ((wr.alloc (.cells zero32 261)).setRow wr.heap.size zero32) m K K k #[.slice Ao m co, .slice Ab m cb, .slice Af fn cf, .slice Ae en ce, .bool em] (.slice As K cs) nx ac := by
        rw [World.setRow_alloc_new]
        exact hI.out.below ((Below.refl _ _).alloc (Nat.le_refl _) _)
      have kR4 : Bk ((wr.alloc (.cells zero32 261)).setRow wr.heap.size zero32) rb 261 zero32 := by
        rw [World.setRow_alloc_new, hrb]
        exact Bk.new wr _ _
      have hnx : ∀ g, nx.ownBlock = some g → g ≠ rb := fun g hg e => by
        obtain ⟨xs, hx⟩ := hI.out.rn
        have := own_lt hx g hg
        omega
      have HNX := Lib.hid hnx
      have hrl : w.heap.size ≤ rb := by have := hI.out.l.size; omega
      rw [← hrb] at hI4 kR4 ⊢
      generalize (wr.alloc (.cells zero32 261)).setRow rb zero32 = w4 at *
      have hI4 := Lib.hid hI4
      clear hrb n0 n1 n2 n3 n4 t0 t1 t2 hI hnx
      obtain ⟨n0, n1, n2, n3, n4⟩ := bk5 hI4.out.n
      have hbh := Lib.hid (behind8_any B w.heap.size m K (w.heap.size + 4) k _ _ _ _ _ _ _ em w4 (HV.out.below hI4.out.l) hm hI4.out.t hI4.out.rs (by omega) hlt)
      go_wp2_with (go_at_call 154; fail)
      refine hbh.out.mono ?_
      rintro e w5 ⟨vs, rfl, hvz, hvi, hb5⟩
      have hHSZ := Lib.hid (show (Tryz.prog.info? 262).map (·.size) = some vs.size by rw [hvz]; exact size32)
      have hNSZ := Lib.hid (show nil32.size = vs.size by rw [hvz]; rfl)
      have hone : vs.all (·.oneCell') = true := Array.all_eq_true_iff_forall_mem.2 fun u hu => by
        obtain ⟨j, hj⟩ := Array.mem_iff_getElem?.1 hu
        obtain ⟨A, c, cs, rfl, -⟩ := (hvi j u hj).form
        simp [Value.oneCell']
      go_upto_region 7 with ((with_reducible refine wpList_store_all (w5.alloc (.cells nil32 262)) ?hg 262 (.tmp 7) (.tmp 26) ?ho w5.heap.size nil32 vs ?he ?hx (Bk.new w5 _ _) hHSZ.out hNSZ.out hone ?_); (case hg => rfl); (case ho => rfl); (case he => rfl); (case hx => rfl))
      obtain ⟨ob, hob⟩ : ∃ ob, ob = w5.heap.size := ⟨_, rfl⟩
      have hI6 : NI w ((w5.alloc (.cells nil32 262)).setRow w5.heap.size vs) m K K k #[.slice Ao m co, .slice Ab m cb, .slice Af fn cf, .slice Ae en ce, .bool em] (.slice As K cs) nx ac := by
        rw [World.setRow_alloc_new]
        exact (hI4.out.below hb5).below ((Below.refl _ _).alloc (Nat.le_refl _) _)
      have hR6 : RI w ((w5.alloc (.cells nil32 262)).setRow w5.heap.size vs) m rb ob zero32 vs := by
        rw [World.setRow_alloc_new, hob]
        have hba : Below w5.heap.size w5 (w5.alloc (.cells vs 262)) := (Below.refl _ _).alloc (Nat.le_refl _) _
        exact ⟨(kR4.ext hb5).ext hba, zero32_is, Bk.new w5 _ _, hvz, fun s u hu => ((hvi s u hu).mono (Nat.le_refl _) hI4.out.l.size).below hba⟩
      rw [← hob] at hI6 hR6 ⊢
      generalize (w5.alloc (.cells nil32 262)).setRow ob vs = w6 at *
      have hI6 := Lib.hid hI6
      have hR6 := Lib.hid hR6
      clear hob n0 n1 n2 n3 n4 hI4 kR4 hbh hvi hb5 hone hHSZ hNSZ
      go_wp2
      go_loopw [8] (fun j wr => ∃ (s KK : Nat) (sets ac : Value) (cs : Array Value), s ≤ 32 ∧ k < KK ∧ KK ≤ 200 + s ∧ j = .int .i64 s ∧ Hid (NI w wr m KK KK k #[.slice Ao m co, .slice Ab m cb, .slice Af fn cf, .slice Ae en ce, .bool em] sets nx ac) ∧ Hid (RI w wr m rb ob cs vs)) (fun j _ => 32 - (intOf j).toNat)
      case atStart => exact ⟨0, K, _, _, _, by omega, hlt, by omega, rfl, hI6, hR6⟩
      case round =>
        clear hI6 hR6
        obtain ⟨s, KK, sets, ac, cs, hs, hkK, hKK, rfl, hI, hR⟩ := hrel
        rename World => wr
        obtain ⟨As, cas, rfl⟩ := hI.out.rs.form
        obtain ⟨t0, t1, t2⟩ := bk3 hI.out.t
        have tf := hI.out.t.frozen; have tl := def_lt' hI.out.t
        by_cases h32 : s < 32
        · have e6 : (s : Int) < 32 := by omega
          have s0 : (0 : Int) ≤ s := by omega
          obtain ⟨v, hv⟩ : ∃ v, vs[s]? = some v := ⟨_, Array.getElem?_eq_getElem (by have := hR.out.sz; omega)⟩
          have hvi := hR.out.ni s v hv
          obtain ⟨Av, cv, lv, rfl, hlv, -, -⟩ := hvi.form
          obtain ⟨vn, hvn⟩ : ∃ vn, vn = lv.length := ⟨_, rfl⟩
          have hvl := hlv.len
          rw [← hvn] at hv hvi hvl
          have hvc : wr.cell? ⟨ob, s, none⟩ = some (.slice Av vn cv) := by rw [hR.out.ob.cell]; exact hv
          have HVI := Lib.hid hvi
          clear hvi hlv hvn
          obtain ⟨rx, hrx⟩ := hR.out.is.2 s h32
          have hrc : wr.cell? ⟨rb, s, none⟩ = some (.int .i64 rx) := by rw [hR.out.rb.cell]; exact hrx
          have rf := hR.out.rb.frozen; have rl := def_lt' hR.out.rb
          by_cases hz : vn = 0
          · subst hz
            go_wp2
            go_roundw
            case rel => exact ⟨s + 1, KK, _, _, _, by omega, hkK, by omega, by go_num, Lib.hid (hI.out.putR hR.out.rb hrl HNX.out), Lib.hid (hR.out.put (-1))⟩
            case measure => simp [intOf]; omega
          · have e7 : (0 : Int) < vn := by omega
            have hfd := Lib.hid (find8_any w.heap.size KK (w.heap.size + 4) w.heap.size m _ _ _ _ wr hI.out.t (by have := hI.out.rs; exact this.mono hm) (by omega) (by omega) HVI.out (by omega))
            go_wp2_with (go_at_call 155; fail)
            refine hfd.out.mono ?_
            rintro e w7 ⟨r, rfl, hr1, hr2, hb7⟩
            have hI7 := Lib.hid (hI.out.below hb7)
            have hR7 := Lib.hid (hR.out.below hb7)
            have hv7 := HVI.out.below hb7
            clear t0 t1 t2 tf tl hvc hrc rf rl
            have rf := hR7.out.rb.frozen; have rl := def_lt' hR7.out.rb
            have hrc : w7.cell? ⟨rb, s, none⟩ = some (.int .i64 rx) := by rw [hR7.out.rb.cell]; exact hrx
            by_cases hneg : r < 0
            · have hz7 := hI7.out.l.size
              obtain ⟨ss, hs1, hs2⟩ := id hI7.out.rs
              obtain ⟨t0, t1, t2⟩ := bk3 hI7.out.t
              have tf := hI7.out.t.frozen; have tl := def_lt' hI7.out.t
              go_upto_region 17 with (at_builtin; ((refine app_one Tryz.underlying198 info_li rfl (by decide) w7 w.heap.size _ KK ss hs1 (by unfold maxLen; omega) (by omega) (by omega) _ rfl (by simp [Value.oneCell']) rfl _ _ rfl rfl rfl ?_); intro g8 cap8 w8 hown8 hgr8 hat8 hlt8; have hs8 : Sti (fun i => (Value.slice As KK cas).ownBlock = some i) w7 w8 := Sti.of_gr hgr8 (fun i h => h); have kt8 := hs8.bk hI7.out.t (own_ne hs1 hI7.out.t (by decide)); have tf8 := kt8.frozen; have tl8 := def_lt' kt8; obtain ⟨u0, u1, u2⟩ := bk3 kt8))
              have hI9 := hI7.out.pushS hs1 hs2 hv7 hgr8 hown8
              have hR9 := (hR7.out.sti hs8 (own_row_ty hs1) (by decide) (by decide) (by decide)).set_ kt8 (i := 0) (by decide) (by decide) (by decide) (.slice (some ⟨g8, 0, none⟩) (KK + 1) cap8)
              have hv9 := (hs8.ns hv7 (fun g hg h0 => hv7.ne_row hs1 (by decide) g h0 hg)).put kt8 (i := 0) (by decide) (.slice (some ⟨g8, 0, none⟩) (KK + 1) cap8)
              generalize w8.setCell ⟨w.heap.size + 4, 0, none⟩ (.slice (some ⟨g8, 0, none⟩) (KK + 1) cap8) = w9 at *
              have hI9 := Lib.hid hI9
              have hR9 := Lib.hid hR9
              clear t0 t1 t2 tf tl u0 u1 u2 tf8 tl8 kt8 hs8 hat8 hgr8 hown8 hs1 hs2 hI7 hR7 hrc rf rl
              obtain ⟨ys, ha⟩ := hI9.out.ra
              obtain ⟨Aa, ca, rfl, -, -, -, -⟩ := own_form ha
              have HA := Lib.hid ha
              have hF : ∀ W, (Bk W (w.heap.size + 4) 201 #[.slice (some ⟨g8, 0, none⟩) (KK + 1) cap8, nx, .slice Aa KK ca] ∧ Bk W w.heap.size 205 #[.slice Ao m co, .slice Ab m cb, .slice Af fn cf, .slice Ae en ce, .bool em]) → W.cell? ⟨w.heap.size + 4, 2, none⟩ = some (.slice Aa KK ca) ∧ W.cell? ⟨w.heap.size, 3, none⟩ = some (.slice Ae en ce) := fun W h => ⟨h.1.cell 2, h.2.cell 3⟩
              have HF := Lib.hid hF
              have htw : ∀ W, Below w9.heap.size w9 W → Calls Tryz.prog 156 #[.slice Av vn cv, .slice Ae en ce, .int .i64 1] W (NsOut 256 W) := fun W hb => by
                obtain ⟨A', c', l', e', hl', hr', -⟩ := (hv9.below hb).form
                have hll := hl'.len
                injection e' with e1 e2 e3
                rw [← e2] at hr' hll
                rw [← e1] at hr'
                exact two3_any Av Ae vn cv en ce _ _ W hr'.to_is (by unfold maxLen; omega) ((HRE.out.below (hI9.out.l.trans (hb.mono hI9.out.l.size))).more (Nat.le_trans hI9.out.l.size hb.size)) (by unfold maxLen; omega)
              have htw := Lib.hid htw
              clear hF ha hv9
              refine wp_normal ?_
              refine region_L (S := fun W => Bk W (w.heap.size + 4) 201 #[.slice (some ⟨g8, 0, none⟩) (KK + 1) cap8, nx, .slice Aa KK ca] ∧ Bk W w.heap.size 205 #[.slice Ao m co, .slice Ab m cb, .slice Af fn cf, .slice Ae en ce, .bool em]) [11] (by kernel_rfl) ⟨hI9.out.t.drew, hI9.out.n.drew⟩ (fun hHeld => ?_)
              (refine tkL 0 ?_; refine tkL 1 ?_; refine tkL 2 ?_; refine tkL 3 ?_; refine tkL 4 ?_)
              refine nxL 5 (fun K hK => ?_)
              go_simp
              go_at_call 156
              refine (htw.out _ (Below.refl _ _).drew).mono ?_
              rintro e w10 ⟨v10, rfl, hv10, hb10'⟩
              have hb10 : Below w9.heap.size w9 w10 := Below.trans (Below.refl _ _).drew hb10'
              obtain ⟨A10, c10, l10, rfl, -, -, -⟩ := hv10.form
              generalize l10.length = n10 at *
              have hI10 := Lib.hid (hI9.out.below hb10)
              have hR10 := Lib.hid (hR9.out.below hb10)
              have hA10 := own_below HA.out hb10
              clear hv10 hb10' htw
              refine hK.out _ _ ⟨hI10.out.t, hI10.out.n⟩ (fun hHeld => ?_)
              clear hK K; refine puL ?_
              (refine tkL 6 ?_; refine tkL 7 ?_)
              refine nxL 8 (fun K hK => ?_)
              go_simp
              refine hK.out _ _ ⟨hI10.out.t.alloc _, hI10.out.n.alloc _⟩ (fun hHeld => ?_)
              clear hK K; refine puL ?_
              have hbA : Below w10.heap.size w10 (w10.alloc (.cells #[.bool (decide (0 < n10))] 4)) := belowA
              have kA := Bk.new w10 4 #[.bool (decide (0 < n10))]
              generalize w10.alloc (.cells #[.bool (decide (0 < n10))] 4) = wA at *
              have hIA := Lib.hid (hI10.out.below hbA)
              have hRA := Lib.hid (hR10.out.below hbA)
              have hAA := own_below hA10 hbA
              have hzA := hIA.out.l.size
              have hz10 := hbA.size
              refine nxL 9 (fun K hK => ?_)
              refine app_at_step Tryz.underlying29 info_b rfl (by decide) w.heap.size _ KK ys hAA (by unfold maxLen; omega) (by omega) (by omega) w10.heap.size #[.bool (decide (0 < n10))] kA rfl (by simp [Value.oneCell']) rfl _ _ rfl rfl rfl ?_
              intro g12 cap12 w12 hown12 hgr12 hat12 hlt12
              have hs12 : Sti (fun i => (Value.slice Aa KK ca).ownBlock = some i) wA w12 := Sti.of_gr hgr12 (fun i h => h)
              have kt12 := hs12.bk hIA.out.t (own_ne hAA hIA.out.t (by decide))
              have kn12 := hs12.bk hIA.out.n (own_ne hAA hIA.out.n (by decide))
              have hI13 := Lib.hid (hIA.out.pushA hAA hgr12 hown12)
              have hR13 := Lib.hid ((hRA.out.sti hs12 (own_row_ty hAA) (by decide) (by decide) (by decide)).set_ kt12 (i := 2) (by decide) (by decide) (by decide) (.slice (some ⟨g12, 0, none⟩) (KK + 1) cap12))
              have n2 := kt12.cell 2
              have nf := kt12.frozen; have nl := def_lt' kt12
              dsimp at n2
              refine hK.out _ _ ⟨kt12, kn12⟩ (fun hHeld => ?_)
              clear hK K; refine puL ?_
              (refine tkL 10 ?_)
              refine ltL 11 (fun K hK => ?_)
              go_simp
              refine hK.out _ _ ?_
              refine anyL_done (by kernel_rfl) ?_
              clear n2 nf nl kt12 kn12 hs12 hown12 hgr12 hat12 hHeld hIA hRA hAA hA10 kA HF hI10 hR10 hI9 hR9 hbA HA
              generalize w12.setCell ⟨w.heap.size + 4, 2, none⟩ (.slice (some ⟨g12, 0, none⟩) (KK + 1) cap12) = w13 at *
              have rf := hR13.out.rb.frozen; have rl := def_lt' hR13.out.rb
              have hrc : w13.cell? ⟨rb, s, none⟩ = some (.int .i64 rx) := by rw [hR13.out.rb.cell]; exact hrx
              go_wp2
              go_roundw
              case rel => exact ⟨s + 1, KK + 1, _, _, _, by omega, by omega, by omega, by go_num, Lib.hid (hI13.out.putR hR13.out.rb hrl HNX.out), Lib.hid (hR13.out.put KK)⟩
              case measure => simp [intOf]; omega
            · go_wp2
              go_roundw
              case rel => exact ⟨s + 1, KK, _, _, _, by omega, hkK, by omega, by go_num, Lib.hid (hI7.out.putR hR7.out.rb hrl HNX.out), Lib.hid (hR7.out.put r)⟩
              case measure => simp [intOf]; omega
        · obtain rfl : s = 32 := by omega
          obtain ⟨xs, hn⟩ := hI.out.rn
          obtain ⟨An, cn, rfl, -, -, -, -⟩ := own_form hn
          have hzw := hI.out.l.size
          have hSZ := Lib.hid (show (Tryz.prog.info? 261).map (·.size) = some cs.size by rw [hR.out.is.1]; exact sizer32)
          have hone := Lib.hid (fun u (hu : u ∈ cs.toList) => (Array.all_eq_true_iff_forall_mem.1 hR.out.is.one) u (by simpa using hu))
          have hcz := Lib.hid hR.out.is.1
          have HN := Lib.hid hn
          clear hn
          go_upto_region 20 with (first | ((with_reducible refine wpList_load_all wr ?hg 261 (.tmp 6) ?ho rb cs ?he hR.out.rb 32 3 Tryz.underlying261 hSZ.out ?_); (case hg => rfl); (case ho => rfl); (case he => rfl)) | ((with_reducible refine wpList_build_row wr ?hg (.tmp 66) ?ho cs ?hx hcz.out ?_); (case hg => rfl); (case ho => rfl); (case hx => rfl)) | (at_builtin; ((refine app_one Tryz.underlying199 info_r32 rfl (by decide) wr w.heap.size _ k xs HN.out (by unfold maxLen; omega) (by omega) hzw cs hcz.out hone.out rfl _ _ rfl rfl rfl ?_); intro g8 cap8 w8 hown8 hgr8 hat8 hlt8; have hs8 : Sti (fun i => (Value.slice An k cn).ownBlock = some i) wr w8 := Sti.of_gr hgr8 (fun i h => h); have kt8 := hs8.bk hI.out.t (own_ne HN.out hI.out.t (by decide)); have tf8 := kt8.frozen; have tl8 := def_lt' kt8; obtain ⟨u0, u1, u2⟩ := bk3 kt8)))
          have hI9 := hI.out.pushN HN.out hgr8 hown8
          generalize w8.setCell ⟨w.heap.size + 4, 1, none⟩ (.slice (some ⟨g8, 0, none⟩) (k + 1) cap8) = w9 at *
          have hI9 := Lib.hid hI9
          clear t0 t1 t2 tf tl u0 u1 u2 tf8 tl8 kt8 hs8 hat8 hgr8 hown8 hI hR HNX
          obtain ⟨t0, t1, t2⟩ := bk3 hI9.out.t
          obtain ⟨r0, r1, r2⟩ := bk3 hI9.out.r
          have rf := hI9.out.r.frozen; have rl := def_lt' hI9.out.r
          by_cases hbig : 200 < KK
          · have e8 : (200 : Int) < KK := by omega
            have hL2 := set3_bk hI9.out.r (.slice none 0 0) (.slice none 0 0) (.slice none 0 0)
            have hL1 := set3_below (b := w.heap.size + 1) hI9.out.l (by omega) (.slice none 0 0) (.slice none 0 0) (.slice none 0 0)
            unfold set3 at hL1 hL2
            have HE := Lib.hid (And.intro hL2 (show New8Out w (.returned (.tuple #[.agg #[.slice none 0 0, .slice none 0 0, .slice none 0 0], .bool false])) _ from ⟨_, _, _, _, _, _, _, _, _, _, rfl, hL1⟩))
            clear hL1 hL2
            go_wp2
            obtain ⟨z0, z1, z2⟩ := bk3 HE.out.1
            exact bodyPost_ret (v := .tuple #[.agg #[.slice none 0 0, .slice none 0 0, .slice none 0 0], .bool false]) (by simp [results, Tryz.results105, go_sem, z0, z1, z2]) rfl HE.out.2
          · have e8 : ¬ (200 : Int) < KK := by omega
            go_wp2
            go_roundw
            case rel => exact ⟨k + 1, KK, _, _, _, by omega, by omega, by omega, by go_num, hI9⟩
            case measure => simp [intOf]; omega
    · obtain rfl : k = K := by omega
      obtain ⟨xs, hn⟩ := hI.out.rn
      obtain ⟨An, cn, rfl, -, -, -, -⟩ := own_form hn
      obtain ⟨ys, ha⟩ := hI.out.ra
      obtain ⟨Aa, ca, rfl, -, -, -, -⟩ := own_form ha
      obtain ⟨r0, r1, r2⟩ := bk3 hI.out.r
      have rf := hI.out.r.frozen; have rl := def_lt' hI.out.r
      have hL2 := set3_bk hI.out.r (.slice As k cs) (.slice An k cn) (.slice Aa k ca)
      have hL1 := set3_below (b := w.heap.size + 1) hI.out.l (by omega) (.slice As k cs) (.slice An k cn) (.slice Aa k ca)
      unfold set3 at hL1 hL2
      have HE := Lib.hid (And.intro hL2 (show New8Out w (.returned (.tuple #[.agg #[.slice As k cs, .slice An k cn, .slice Aa k ca], .bool true])) _ from ⟨_, _, _, _, _, _, _, _, _, _, rfl, hL1⟩))
      clear hL1 hL2 hn ha
      go_wp2
      obtain ⟨z0, z1, z2⟩ := bk3 HE.out.1
      exact bodyPost_ret (v := .tuple #[.agg #[.slice As k cs, .slice An k cn, .slice Aa k ca], .bool true]) (by simp [results, Tryz.results105, go_sem, z0, z1, z2]) rfl HE.out.2
end Go.Proofs.YtmacfoebfpljoaaGreat
