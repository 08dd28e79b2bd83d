/- merged texts: E I M N Ca Cb F Cc -/
import Derived.Test.YtmacfoebfpljoaaGreatMf2
import Derived.Deep.RegionLaw
import Derived.Laws.StructEq
import Derived.Test.YtmacfoebfpljoaaGreatMf1
namespace Go.Proofs.YtmacfoebfpljoaaGreat
open Go.RowKit
attribute [local go_sem] Oper.semAt_some
def tellFrom (p side : Int) : Nat → Int → List Rg → Pl
  | _, s, [] => ⟨p + s, false, false, 0, 0⟩
  | i, s, r :: t => if r.at_ + r.old < p then tellFrom p side (i + 1) (s + (r.new - r.old)) t else if r.at_ ≤ p then withinS r i s p side else ⟨p + s, false, false, 0, 0⟩
def tellM (l : List Rg) (p side : Int) : Pl := tellFrom p side 0 0 l
def tellS (l : List Rg) (p side : Int) : Pl × Int := if rightM l then (if 0 ≤ p ∧ p ≤ 1099511627776 then (tellM l p side, 0) else (Pl.zero, 3)) else (Pl.zero, 1)
def TellSays (q : Pl × Int) (w : World) (e : Ending) (w' : World) : Prop := e = .returned (.tuple #[q.1.val, .int .i64 q.2]) ∧ Below w.heap.size w w'
theorem bcell {W w1 : World} (hb : Below W.heap.size W w1) : (∀ b o, b < W.heap.size → w1.cell? ⟨b, o, none⟩ = W.cell? ⟨b, o, none⟩) ∧ (∀ b o, b < W.heap.size → w1.frozen? ⟨b, o, none⟩ = W.frozen? ⟨b, o, none⟩) :=
  ⟨fun b o h => hb.cell (p := ⟨b, o, none⟩) h, fun b o h => hb.frozen (p := ⟨b, o, none⟩) h⟩
section five
variable (w : World)
theorem five_0 {t : TypeId} {cs : Array Value} (t1 t2 t3 t4 : Obj) : Bk (((((w.alloc (.cells cs t)).alloc t1).alloc t2).alloc t3).alloc t4) w.heap.size t cs := ((((Bk.new w t cs).alloc _).alloc _).alloc _).alloc _
theorem five_1 {t : TypeId} {cs : Array Value} (t0 t2 t3 t4 : Obj) : Bk (((((w.alloc t0).alloc (.cells cs t)).alloc t2).alloc t3).alloc t4) (w.heap.size + 1) t cs := by
  have := (((Bk.new (w.alloc t0) t cs).alloc t2).alloc t3).alloc t4
  rwa [World.size_alloc] at this
theorem five_2 {t : TypeId} {cs : Array Value} (t0 t1 t3 t4 : Obj) : Bk (((((w.alloc t0).alloc t1).alloc (.cells cs t)).alloc t3).alloc t4) (w.heap.size + 2) t cs := by
  have := ((Bk.new ((w.alloc t0).alloc t1) t cs).alloc t3).alloc t4
  rwa [World.size_alloc, World.size_alloc] at this
theorem five_3 {t : TypeId} {cs : Array Value} (t0 t1 t2 t4 : Obj) : Bk (((((w.alloc t0).alloc t1).alloc t2).alloc (.cells cs t)).alloc t4) (w.heap.size + 3) t cs := by
  have := (Bk.new (((w.alloc t0).alloc t1).alloc t2) t cs).alloc t4
  rwa [World.size_alloc, World.size_alloc, World.size_alloc] at this
theorem five_4 {t : TypeId} {cs : Array Value} (t0 t1 t2 t3 : Obj) : Bk (((((w.alloc t0).alloc t1).alloc t2).alloc t3).alloc (.cells cs t)) (w.heap.size + 4) t cs := by
  have := Bk.new ((((w.alloc t0).alloc t1).alloc t2).alloc t3) t cs
  rwa [World.size_alloc, World.size_alloc, World.size_alloc, World.size_alloc] at this
end five
set_option maxHeartbeats 1000000 in
theorem tell_bad (A : Option Addr) (n c : Nat) (l : List Rg) (p side : Int) (w : World) (hn : n ≤ maxLen) (h : n ≤ 1000 → Rd w w.heap.size 3 A n (rgs l)) (hl : l.length = n) (hr : rightM l = false) :
    Calls Tryz.prog 211 #[.slice A n c, .int .i64 p, .int .i64 side] w (TellSays (Pl.zero, 1) w) := by
  have hri := fun W (hb : Below w.heap.size w W) => right_any A n c l W hn (fun hh => ((h hh).below hb).more hb.size) hl
  rw [hr] at hri
  have HRI := Lib.hid hri
  clear hri hr h hl
  go_enter Tryz.func211, Tryz.ntmps211
  go_wp2_with (go_at_call 80; refine (HRI.out _ (by repeat (first | exact Below.refl _ _ | refine Below.alloc ?_ (by simp; try omega) _))).mono ?_; rintro e w1 ⟨rfl, hb1⟩; obtain ⟨hcc, hff⟩ := bcell hb1; have hz : w.heap.size + 5 ≤ w1.heap.size := by have := hb1.size; simp at this; omega)
  have hb2 : Below w.heap.size w w1 := Below.trans (by repeat (first | exact Below.refl _ _ | refine Below.alloc ?_ (by simp; try omega) _)) (hb1.mono (by simp; try omega))
  refine bodyPost_ret (v := .tuple #[Pl.zero.val, .int .i64 1]) (by simp [results, Tryz.results211, go_sem, hcc, Pl.val, Pl.zero]) rfl ⟨rfl, ?_⟩
  repeat (first | (refine Below.setCell ?_ (by simp; try omega) _) | with_reducible exact hb2)
set_option maxHeartbeats 1000000 in
theorem tell_out (A : Option Addr) (n c : Nat) (l : List Rg) (p side : Int) (w : World) (hn : n ≤ maxLen) (h : n ≤ 1000 → Rd w w.heap.size 3 A n (rgs l)) (hl : l.length = n) (hr : rightM l = true) (hp : p < 0 ∨ 1099511627776 < p) :
    Calls Tryz.prog 211 #[.slice A n c, .int .i64 p, .int .i64 side] w (TellSays (Pl.zero, 3) w) := by
  have hri := fun W (hb : Below w.heap.size w W) => right_any A n c l W hn (fun hh => ((h hh).below hb).more hb.size) hl
  rw [hr] at hri
  have HRI := Lib.hid hri
  clear hri hr h hl
  rcases hp with hp | hp
  all_goals
    go_enter Tryz.func211, Tryz.ntmps211
    go_wp2_with (go_at_call 80; refine (HRI.out _ (by repeat (first | exact Below.refl _ _ | refine Below.alloc ?_ (by simp; try omega) _))).mono ?_; rintro e w1 ⟨rfl, hb1⟩; obtain ⟨hcc, hff⟩ := bcell hb1; have hz : w.heap.size + 5 ≤ w1.heap.size := by have := hb1.size; simp at this; omega)
    have hb2 : Below w.heap.size w w1 := Below.trans (by repeat (first | exact Below.refl _ _ | refine Below.alloc ?_ (by simp; try omega) _)) (hb1.mono (by simp; try omega))
  all_goals
    refine bodyPost_ret (v := .tuple #[Pl.zero.val, .int .i64 3]) (by simp [results, Tryz.results211, go_sem, hcc, Pl.val, Pl.zero]) rfl ⟨rfl, ?_⟩
    repeat (first | (refine Below.setCell ?_ (by simp; try omega) _) | with_reducible exact hb2)
theorem Bk.put {W : World} {b : Nat} {t : TypeId} {cs : Array Value} (h : Bk W b t cs) {D : Nat} (hD : b ≠ D) (o : Obj) : Bk (W.putObj D o) b t cs := (World.putObj_heap_other hD).trans h
/-- a code that ends as it should: whatever else its end is asked for is not asked (the region's walk wants an end that a register doesn't turn) -/
theorem wp_normal {P : Program} {c : Code} {Q : Exit → Act → World → Prop} {a : Act} {w : World} (h : c.wp P (Exit.then (Q .normal) (fun _ _ _ => False)) a w) : c.wp P Q a w :=
  wpIn_wide (n := 0) |>.1 (wpIn_mono (wpIn_wide.2 h) (fun e _ _ h => by cases e <;> first | exact h | exact h.elim))
theorem dfar {W : World} {D : Nat} {o : Obj} (h : W.heap[D]? = some o) {p : Addr} (hp : D ≠ p.block) (u : Value) : (W.setCell p u).heap[D]? = some o := (Below.heap_setCell W p u D hp).trans h
theorem tellFrom_step {p side : Int} {i : Nat} {s : Int} {r : Rg} {t : List Rg} (h : r.at_ + r.old < p) : tellFrom p side i s (r :: t) = tellFrom p side (i + 1) (s + (r.new - r.old)) t := by
  rw [tellFrom, if_pos h]
theorem tellFrom_in {p side : Int} {i : Nat} {s : Int} {r : Rg} {t : List Rg} (h : ¬ r.at_ + r.old < p) (h2 : r.at_ ≤ p) : tellFrom p side i s (r :: t) = withinS r i s p side := by
  rw [tellFrom, if_neg h, if_pos h2]
theorem tellFrom_out {p side : Int} {i : Nat} {s : Int} {r : Rg} {t : List Rg} (h : ¬ r.at_ + r.old < p) (h2 : ¬ r.at_ ≤ p) : tellFrom p side i s (r :: t) = ⟨p + s, false, false, 0, 0⟩ := by
  rw [tellFrom, if_neg h, if_neg h2]
theorem within_agg (r : Rg) (i shift p side : Int) (w : World) (hf : r.Fits) (h1 : r.at_ ≤ p) (h2 : p ≤ r.at_ + r.old) (hs : -2000000000000 ≤ shift ∧ shift ≤ 2000000000000) :
    Calls Tryz.prog 227 #[.agg #[.int .i64 r.at_, .int .i64 r.old, .int .i64 r.new], .int .i64 i, .int .i64 shift, .int .i64 p, .int .i64 side] w fun e w' =>
      ∃ q : Pl, Hid (q = withinS r i shift p side) ∧ e = .returned (.agg #[.int .i64 q.pos, .bool q.gone, .bool q.inside, .int .i64 q.range, .int .i64 q.off]) ∧ Below w.heap.size w w' :=
  (within_any r i shift p side w hf h1 h2 hs).mono fun _ _ ⟨he, hb⟩ => ⟨_, rfl, he, hb⟩
theorem upto_next {l : List Rg} {k n : Nat} {x : Nat × Int} (h : upto l k ++ [x] <+: upto l n) : k < n ∧ x = told l k := by
  have hlen := h.length_le
  simp [upto_length] at hlen
  refine ⟨by omega, ?_⟩
  obtain ⟨t, ht⟩ := h
  have := congrArg (fun q => q[k]?) ht
  rw [List.append_assoc, List.getElem?_append_right (by rw [upto_length]; omega), upto_length] at this
  have h2 : (upto l n)[k]? = some (told l k) := by rw [upto, List.getElem?_map, List.getElem?_range (by omega)]; rfl
  rw [h2] at this
  simpa using this
/-- what Tell's boxes hold between two rounds -/
def TellI (l : List Rg) (p side : Int) (A : Option Addr) (n c : Nat) (w : World) (pre : List (Nat × Int)) (W : World) : Prop :=
  (∃ k, k ≤ n ∧ pre = upto l k ∧ tellFrom p side k (shiftL (l.take k)) (l.drop k) = tellM l p side) ∧ Below w.heap.size w W ∧
  Bk W w.heap.size 94 #[.slice A n c] ∧ Bk W (w.heap.size + 1) 3 #[.int .i64 p] ∧ Bk W (w.heap.size + 1 + 1) 3 #[.int .i64 side] ∧
  Bk W (w.heap.size + 1 + 1 + 1) 327 #[.int .i64 0, .bool false, .bool false, .int .i64 0, .int .i64 0] ∧ Bk W (w.heap.size + 1 + 1 + 1 + 1) 33 #[.int .i64 0]
def TellX (l : List Rg) (p side : Int) (w : World) (cd : Code) (_ : List (Nat × Int)) (W : World) : Prop :=
  cd = .ret ∧ Below w.heap.size w W ∧ ∃ q : Pl, q = tellM l p side ∧ Bk W (w.heap.size + 1 + 1 + 1) 327 #[.int .i64 q.pos, .bool q.gone, .bool q.inside, .int .i64 q.range, .int .i64 q.off] ∧ Bk W (w.heap.size + 1 + 1 + 1 + 1) 33 #[.int .i64 0]
set_option maxRecDepth 100000 in
set_option maxHeartbeats 2000000 in
theorem tell_go (A : Option Addr) (n c : Nat) (l : List Rg) (p side : Int) (w : World) (hrd : Rd w w.heap.size 3 A n (rgs l)) (hr : rightM l = true) (hp0 : 0 ≤ p) (hp1 : p ≤ 1099511627776) :
    Calls Tryz.prog 211 #[.slice A n c, .int .i64 p, .int .i64 side] w (TellSays (tellM l p side, 0) w) := by
  have hl := hrd.rlen
  have hn2 : n ≤ 1000 := by have := right_len hr; omega
  have hri := fun W (hb : Below w.heap.size w W) => right_any A n c l W (by unfold maxLen; omega) (fun hh => (hrd.below hb).more hb.size) hl
  have hsh := fun W (hb : Below w.heap.size w W) => shift_any A n c l W (by unfold maxLen; omega) (fun hh => (hrd.below hb).more hb.size) hl
  rw [hr] at hri
  have hsm : shiftM l = shiftL l := by unfold shiftM; rw [if_pos hr]
  rw [hsm] at hsh
  have HRI := Lib.hid hri
  have HSH := Lib.hid hsh
  have HR := Lib.hid hr
  have HL := Lib.hid hl
  have HRD := Lib.hid hrd
  clear hri hsh hr hl hsm hrd
  refine callsIn_wide.1 (callsIn_of_wp_marks (n := 10) Tryz.func211 rfl trivial ?_ rfl)
  simp only [Tryz.ntmps211, List.size_toArray, List.length_cons, List.length_nil, Nat.reduceAdd, Nat.reduceSub, Array.replicate_succ, Array.replicate_zero, List.push_toArray, List.append_toArray, List.nil_append, List.cons_append]
  gi_wp2_with (first
    | (refine ⟨trivial, ?_⟩; gi_at_call 80; refine (callsIn_wide.2 (HRI.out _ (by repeat (first | exact Below.refl _ _ | refine Below.alloc ?_ (by simp; try omega) _)))).mono ?_; rintro e w1 ⟨rfl, hb1⟩; have hb2 : Below w.heap.size w w1 := Below.trans (by repeat (first | exact Below.refl _ _ | refine Below.alloc ?_ (by simp; try omega) _)) (hb1.mono (by simp; try omega)); have k3 := Bk.ext (five_0 w _ _ _ _) hb1; have k4 := Bk.ext (five_1 w _ _ _ _) hb1; have k5 := Bk.ext (five_2 w _ _ _ _) hb1; have k6 := Bk.ext (five_3 w _ _ _ _) hb1; have k7 := Bk.ext (five_4 w _ _ _ _) hb1; have hz : w.heap.size + 5 ≤ w1.heap.size := (by have := hb1.size; simp at this; omega); clear hb1; have c3 := k3.cell 0; have c4 := k4.cell 0; dsimp at c3 c4)
    | (refine ⟨trivial, ?_⟩; gi_at_call 226; refine (callsIn_wide.2 (ranges_any _ _ _ _)).mono ?_; rintro e w2 ⟨rfl, rfl⟩))
  have hgv := ranges_gives w1.heap.size w.heap.size n A c l (w1.alloc (.cells #[.slice A n c] 94)) HR.out (by simp; omega) (by simp) (by have := (Bk.new w1 94 #[.slice A n c]).cell 0; exact this) (HRD.out.below (hb2.alloc hb2.size _))
  refine range_mine (gf := 232) (lb := #[.pointer (some ⟨w1.heap.size, 0, none⟩)]) rfl (enters_of Tryz.func232 (by kernel_rfl) rfl) hgv (Below.refl _ _) (by simp; omega) (fun _ => rfl) (TellI l p side A n c w) (TellX l p side w) ?hI ?hIx ?h0 ?hround ?hdone ?hstop
  case hI =>
    rintro s A' B row ⟨hk, g1, g2, g3, g4, g5, g6⟩ hg hr
    exact ⟨hk, below_kept g1 (Nat.le_refl _) (by simp; omega) hg hr, blk_kept g2 hg hr, blk_kept g3 hg hr, blk_kept g4 hg hr, blk_kept g5 hg hr, blk_kept g6 hg hr⟩
  case hIx =>
    rintro cd s A' B row ⟨hk, g1, q, hq, g5, g6⟩ hg hr
    exact ⟨hk, below_kept g1 (Nat.le_refl _) (by simp; omega) hg hr, q, hq, blk_kept g5 hg hr, blk_kept g6 hg hr⟩
  case h0 => exact ⟨⟨0, by omega, rfl, rfl⟩, hb2.alloc hb2.size _, k3.alloc _, k4.alloc _, k5.alloc _, k6.alloc _, k7.alloc _⟩
  case hround =>
    clear k3 k4 k5 k6 k7 c3 c4 hgv hb2
    rintro lp pre ⟨i, s⟩ W1 KK hkk
    have HKK := Lib.hid hkk
    clear hkk
    gi_wp2
    refine HKK.out _ ?_
    clear HKK
    rintro W0 W2 ⟨⟨k, hk, hpre, hI⟩, g1, g2, g3, g4, g5, g6⟩ hext hpx hM
    subst hpre
    obtain ⟨hkn, hx⟩ := upto_next hpx
    obtain ⟨rfl, rfl⟩ : i = k ∧ s = shiftL (l.take k) := by injection hx; exact ⟨by assumption, by assumption⟩
    clear hx hpx
    have hb2 : Below w.heap.size w W2 := g1.trans (hext.mono g1.size)
    have q2 := g2.ext hext; have q3 := g3.ext hext; have q4 := g4.ext hext; have q5 := g5.ext hext; have q6 := g6.ext hext
    have c2 := q2.cell 0; have c3 := q3.cell 0; have c4 := q4.cell 0
    have d0 := q5.cell 0; have d1 := q5.cell 1; have d2 := q5.cell 2; have d3 := q5.cell 3; have d4 := q5.cell 4; have d5 := q6.cell 0
    have f5 := q5.frozen; have f6 := q6.frozen
    dsimp at c2 c3 c4 d0 d1 d2 d3 d4 d5
    have hsz := hext.size
    have hsz2 : w.heap.size + 6 ≤ W2.heap.size := by simp at hM; omega
    have z0 : w.heap.size < W2.heap.size := by omega
    have z1 : w.heap.size + 1 < W2.heap.size := by omega
    have z2 : w.heap.size + 1 + 1 < W2.heap.size := by omega
    have z3 : w.heap.size + 1 + 1 + 1 < W2.heap.size := by omega
    have z4 : w.heap.size + 1 + 1 + 1 + 1 < W2.heap.size := by omega
    obtain ⟨b, o, rfl, hbB, _⟩ := HRD.out.2 (by omega)
    obtain ⟨r, hx⟩ : ∃ r, l[i]? = some r := ⟨_, List.getElem?_eq_getElem (by have := HL.out; omega)⟩
    obtain ⟨hc0, hc1, hc2, hb⟩ := (HRD.out.below hb2).rg hx
    have hfit := right_fits HR.out r (List.mem_of_getElem? hx)
    have hsb := shift_take_bd HR.out i
    have hsn := shiftL_snoc hx
    have hdr := drop_cons hx
    rw [hdr] at hI
    have HS := Lib.hid hsn
    have HI := Lib.hid hI
    have HF := Lib.hid hfit
    clear hx hsn hdr hI g2 g3 g4 g5 g6
    obtain ⟨f1, f2, f3, f4, f7, f8⟩ := hfit
    have hin : Fence.wide.fn 227 := trivial
    by_cases h1 : r.at_ + r.old < p
    · have HN := Lib.hid ((tellFrom_step h1).symm.trans HI.out)
      clear HI d0 d1 d2 d3 d4 d5 f5 f6
      gi_wp2
      refine ⟨(KeepsOthers.alloc _ _).from _, (Below.refl _ _).alloc (by omega) _, Mid.of_below ((Below.refl _ _).alloc (Nat.le_refl _) _), ⟨i + 1, by omega, (upto_succ _ _).symm, by rw [HS.out]; exact HN.out⟩, hb2.alloc hb2.size _, q2.alloc _, q3.alloc _, q4.alloc _, q5.alloc _, q6.alloc _⟩
    · by_cases h2 : r.at_ ≤ p
      · have HN := Lib.hid ((tellFrom_in h1 h2).symm.trans HI.out)
        have hw := within_agg r i (shiftL (l.take i)) p side (W2.alloc (.cells #[.int .i64 r.at_, .int .i64 r.old, .int .i64 r.new] 155)) HF.out h2 (by omega) (by omega)
        have HW := Lib.hid hw
        clear HI hw d0 d1 d2 d3 d4 d5 f5 f6
        gi_wp2_with (gi_at_call 227; refine (in_round lp _ HW.out).mono ?_; rintro e w3 ⟨q, hq, rfl, hb3⟩; have p5 := (q5.alloc (.cells #[.int .i64 r.at_, .int .i64 r.old, .int .i64 r.new] 155)).ext hb3; have p6 := (q6.alloc (.cells #[.int .i64 r.at_, .int .i64 r.old, .int .i64 r.new] 155)).ext hb3; have d0 := p5.cell 0; have d1 := p5.cell 1; have d2 := p5.cell 2; have d3 := p5.cell 3; have d4 := p5.cell 4; have d5 := p6.cell 0; have f5 := p5.frozen; have f6 := p6.frozen; dsimp at d0 d1 d2 d3 d4 d5)
        have hb4 : Below W2.heap.size W2 w3 := Below.trans ((Below.refl _ _).alloc (Nat.le_refl _) _) (hb3.mono (by simp))
        have m3 : Mid (w1.alloc (.cells #[.slice (some ⟨b, o, none⟩) n c] 94)).heap.size W2.heap.size W2 w3 := Mid.of_full _ hb4
        have hsq := hb4.size
        refine ⟨Mid.keeps (by repeat (first | with_reducible exact m3 | (with_reducible refine Mid.set_ ?_ ?_ _; rotate_left; simp <;> omega))) (by simp; try omega), rfl, ?_, q, hq.out.trans HN.out, ?_, ?_⟩
        · have hb5 := hb2.trans (hb4.mono (by omega))
          repeat (first | (refine Below.setCell ?_ (by simp; try omega) _) | with_reducible exact hb5)
        · exact Bk.far (((((p5.set_ 0 _).set_ 1 _).set_ 2 _).set_ 3 _).set_ 4 _) (by simp; try omega) _
        · exact (((((p6.far (by simp) _).far (by simp) _).far (by simp) _).far (by simp) _).far (by simp) _).set_ 0 _
      · have HN := Lib.hid ((tellFrom_out h1 h2).symm.trans HI.out)
        clear HI
        gi_wp2
        refine ⟨Mid.keeps ?_ (by simp; try omega), rfl, ?_, ⟨p + shiftL (l.take i), false, false, 0, 0⟩, HN.out, ?_, ?_⟩
        · repeat (first | with_reducible exact Mid.refl _ _ _ | (with_reducible refine Mid.alloc ?_ ?_ _; rotate_left; simp) | (with_reducible refine Mid.set_ ?_ ?_ _; rotate_left; simp <;> omega))
        · repeat (first | with_reducible exact hb2 | (with_reducible refine Below.alloc ?_ ?_ _; rotate_left; simp <;> omega) | (with_reducible refine Below.setCell ?_ ?_ _; rotate_left; simp <;> omega))
        · exact (Bk.far (((((q5.set_ 0 _).set_ 1 _).set_ 2 _).set_ 3 _).set_ 4 _) (by simp; try omega) _).alloc _
        · exact ((((((q6.far (by simp) _).far (by simp) _).far (by simp) _).far (by simp) _).far (by simp) _).set_ 0 _).alloc _
  case hdone =>
    rintro D W hD ⟨⟨k, hk, hpre, hI⟩, g1, g2, g3, g4, g5, g6⟩ hK
    have hnk : n = k := by have := congrArg List.length hpre; simpa [upto_length] using this
    subst hnk
    have e0 : tellM l p side = ⟨p + shiftL l, false, false, 0, 0⟩ := by
      rw [← hI, List.take_of_length_le (by rw [HL.out]; omega), List.drop_of_length_le (by rw [HL.out]; omega)]; rfl
    have HN := Lib.hid e0
    clear hI hpre e0 k3 k4 k5 k6 k7 c3 c4 hgv hb2
    have c2 := g2.cell 0; have c3 := g3.cell 0; have c4 := g4.cell 0
    have d0 := g5.cell 0; have d1 := g5.cell 1; have d2 := g5.cell 2; have d3 := g5.cell 3; have d4 := g5.cell 4; have d5 := g6.cell 0
    have f5 := g5.frozen; have f6 := g6.frozen
    dsimp at c2 c3 c4 d0 d1 d2 d3 d4 d5
    have HD := Lib.hid hK
    have hD' := def_lt' hK
    clear hK
    gi_wp2
    refine wpIn_wide.2 (wp_normal ?_)
    have hsb := shift_take_bd HR.out n
    rw [List.take_of_length_le (by rw [HL.out]; omega)] at hsb
    have hw : IntKind.i64.wrap (p + shiftL l) = p + shiftL l := IntWalk.i64_in _ (by omega)
    clear HRI HR HL HRD g2 g4 c4
    go_region_law (go_simp; go_at_call 59; refine (HSH.out _ g1.drew).mono ?_; rintro e w2 ⟨rfl, hb3⟩; have p3 := g3.drew.ext hb3; have p5 := g5.drew.ext hb3; have p6 := g6.drew.ext hb3; have c4 := p3.cell 0; have d0 := p5.cell 0; have d1 := p5.cell 1; have d2 := p5.cell 2; have d3 := p5.cell 3; have d4 := p5.cell 4; have d5 := p6.cell 0; have f5 := p5.frozen; have f6 := p6.frozen; dsimp at c4 d0 d1 d2 d3 d4 d5)
    all_goals
      gi_wp2
      have hDD : w.heap.size + 6 ≤ D := by simp at hD; omega
      have HD2 := dfar (dfar (dfar (dfar (dfar (dfar ((hb3.block D hD').trans HD.out) (p := ⟨w.heap.size + 1 + 1 + 1, 0, none⟩) (by simp; omega) (.int .i64 (p + shiftL l))) (p := ⟨w.heap.size + 1 + 1 + 1, 1, none⟩) (by simp; omega) (.bool false)) (p := ⟨w.heap.size + 1 + 1 + 1, 2, none⟩) (by simp; omega) (.bool false)) (p := ⟨w.heap.size + 1 + 1 + 1, 3, none⟩) (by simp; omega) (.int .i64 0)) (p := ⟨w.heap.size + 1 + 1 + 1, 4, none⟩) (by simp; omega) (.int .i64 0)) (p := ⟨w.heap.size + 1 + 1 + 1 + 1, 0, none⟩) (by simp; omega) (.int .i64 0)
      have r5 : Bk _ (w.heap.size + 1 + 1 + 1) 327 #[.int .i64 (p + shiftL l), .bool false, .bool false, .int .i64 0, .int .i64 0] := Bk.put (D := D) (Bk.far (p := ⟨w.heap.size + 1 + 1 + 1 + 1, 0, none⟩) (((((p5.set_ 0 (.int .i64 (p + shiftL l))).set_ 1 (.bool false)).set_ 2 (.bool false)).set_ 3 (.int .i64 0)).set_ 4 (.int .i64 0)) (by simp) (.int .i64 0)) (by omega) (.deferred none)
      have r6 : Bk _ (w.heap.size + 1 + 1 + 1 + 1) 33 #[.int .i64 0] := Bk.put (D := D) ((((((p6.far (p := ⟨w.heap.size + 1 + 1 + 1, 0, none⟩) (by simp) (.int .i64 (p + shiftL l))).far (p := ⟨w.heap.size + 1 + 1 + 1, 1, none⟩) (by simp) (.bool false)).far (p := ⟨w.heap.size + 1 + 1 + 1, 2, none⟩) (by simp) (.bool false)).far (p := ⟨w.heap.size + 1 + 1 + 1, 3, none⟩) (by simp) (.int .i64 0)).far (p := ⟨w.heap.size + 1 + 1 + 1, 4, none⟩) (by simp) (.int .i64 0)).set_ 0 (.int .i64 0)) (by omega) (.deferred none)
      have d0 := r5.cell 0; have d1 := r5.cell 1; have d2 := r5.cell 2; have d3 := r5.cell 3; have d4 := r5.cell 4; have d5 := r6.cell 0
      dsimp at d0 d1 d2 d3 d4 d5
      refine ⟨by simp, .inl ⟨_, _, rfl, run_takeDeferred HD2, .tuple #[(tellM l p side).val, .int .i64 0], ?_, rfl, ?_⟩⟩
      · rw [HN.out]
        simp [results, Tryz.results211, go_sem, Pl.val, d0, d1, d2, d3, d4, d5]
      · refine Below.trans ?_ (below_putObj (by omega))
        have hb4 : Below w.heap.size w w2 := g1.trans (Below.trans (Below.refl _ _).drew (hb3.mono g1.size))
        repeat (first | with_reducible exact hb4 | (with_reducible refine Below.setCell ?_ ?_ _; rotate_left; simp <;> omega))
  case hstop =>
    rintro D cd pre W hD hpre ⟨rfl, g1, q, hq, g5, g6⟩ hK
    have HD := Lib.hid hK
    have hD' := def_lt' hK
    clear hK
    have d0 := g5.cell 0; have d1 := g5.cell 1; have d2 := g5.cell 2; have d3 := g5.cell 3; have d4 := g5.cell 4; have d5 := g6.cell 0
    have f5 := g5.frozen; have f6 := g6.frozen
    dsimp at d0 d1 d2 d3 d4 d5
    gi_wp2
    refine ⟨by simp, .inl ⟨_, _, rfl, run_takeDeferred HD.out, ?_⟩⟩
    refine ⟨.tuple #[(tellM l p side).val, .int .i64 0], ?_, rfl, ?_⟩
    · rw [← hq]
      have p5 := Bk.put g5 (D := D) (by simp at hD; omega) (.deferred none)
      have p6 := Bk.put g6 (D := D) (by simp at hD; omega) (.deferred none)
      have d0 := p5.cell 0; have d1 := p5.cell 1; have d2 := p5.cell 2; have d3 := p5.cell 3; have d4 := p5.cell 4; have d5 := p6.cell 0
      dsimp at d0 d1 d2 d3 d4 d5
      simp [results, Tryz.results211, go_sem, Pl.val, d0, d1, d2, d3, d4, d5]
    · exact Below.trans g1 (below_putObj (by simp at hD; omega))
theorem info_range : (Tryz.prog.info? 155).map (fun i => (i.zero, i.size, i.bytes)) = some (some (.agg #[.int .i64 0, .int .i64 0, .int .i64 0]), 3, 24) := by kernel_rfl
def invFrom : Int → List Rg → List Rg
  | _, [] => []
  | s, r :: t => ⟨r.at_ + s, r.new, r.old⟩ :: invFrom (s + (r.new - r.old)) t
def invM (l : List Rg) : List Rg := invFrom 0 l
theorem invFrom_append : ∀ (a b : List Rg) (s : Int), invFrom s (a ++ b) = invFrom s a ++ invFrom (s + shiftL a) b := by
  intro a
  induction a with
  | nil => intro b s; simp [invFrom, shiftL]
  | cons r a ih => intro b s; simp only [List.cons_append, invFrom, ih, shiftL]; rw [Int.add_assoc]
theorem invM_snoc {l : List Rg} {k : Nat} {r : Rg} (h : l[k]? = some r) : invM (l.take (k + 1)) = invM (l.take k) ++ [⟨r.at_ + shiftL (l.take k), r.new, r.old⟩] := by
  rw [List.take_add_one, h, Option.toList_some, invM, invFrom_append]; simp [invFrom, invM]
theorem invFrom_length : ∀ (l : List Rg) (s : Int), (invFrom s l).length = l.length := by
  intro l
  induction l with
  | nil => intro s; rfl
  | cons r l ih => intro s; simp only [invFrom, List.length_cons, ih]
theorem invM_length (l : List Rg) : (invM l).length = l.length := invFrom_length l 0
theorem rgs_append (a b : List Rg) : rgs (a ++ b) = rgs a ++ rgs b := by simp [rgs]
@[go_sem] theorem eq_range (a b c a' b' c' : Int) (w : World) : (Op.equalIn 10000 155 (.agg #[.int .i64 a, .int .i64 b, .int .i64 c]) (.agg #[.int .i64 a', .int .i64 b', .int .i64 c'])).run Tryz.prog w = .ok (a == a' && b == b' && c == c') w := by
  have u3 := Tryz.underlying3
  have a3 := Tryz.isAgg3
  have z3 := Tryz.sizeOf3
  have hS : Tryz.prog.underlying 155 = some (.struct (Tryz.prog.fieldsOf 155)) := by kernel_rfl
  have hp : Tryz.prog.stoodInHeld 155 = false := by kernel_rfl
  rw [show (10000 : Nat) = 9999 + 1 from rfl, run_equalIn_agg w 9999 155 _ _ hS hp]
  simp only [Program.fieldsOf, Tryz.underlying155]
  go_simp
  by_cases h1 : a = a' <;> by_cases h2 : b = b' <;> by_cases h3 : c = c' <;> simp [h1, h2, h3]
attribute [local go_sem] Oper.semAt_some
/-- what Invert's boxes hold between two rounds -/
def InvI (l : List Rg) (A : Option Addr) (n c : Nat) (w : World) (bo : Nat) (pre : List (Nat × Int)) (W : World) : Prop :=
  (∃ k, k ≤ n ∧ pre = upto l k ∧ ∃ v, Bk W bo 94 #[v] ∧ W.ownsRow bo 155 3 v k (rgs (invM (l.take k)))) ∧ Below w.heap.size w W ∧
  Bk W w.heap.size 94 #[.slice A n c] ∧ bo < W.heap.size ∧ w.heap.size < bo
set_option maxRecDepth 100000 in
set_option maxHeartbeats 2000000 in
theorem inv_go (A : Option Addr) (n c : Nat) (l : List Rg) (w : World) (hrd : Rd w w.heap.size 3 A n (rgs l)) (hr : rightM l = true) :
    Calls Tryz.prog 214 #[.slice A n c] w fun e w' => ∃ v, e = .returned v ∧ w'.ownsRow w.heap.size 155 3 v n (rgs (invM l)) ∧ Below w.heap.size w w' := by
  have hl := hrd.rlen
  have hn2 : n ≤ 1000 := by have := right_len hr; omega
  have hri := fun W (hb : Below w.heap.size w W) => right_any A n c l W (by unfold maxLen; omega) (fun hh => (hrd.below hb).more hb.size) hl
  rw [hr] at hri
  have HRI := Lib.hid hri
  have HR := Lib.hid hr
  have HL := Lib.hid hl
  have HRD := Lib.hid hrd
  clear hri hr hl hrd
  refine callsIn_wide.1 (callsIn_of_wp_marks (n := 10) Tryz.func214 rfl trivial ?_ rfl)
  simp only [Tryz.ntmps214, List.size_toArray, List.length_cons, List.length_nil, Nat.reduceAdd, Nat.reduceSub, Array.replicate_succ, Array.replicate_zero, List.push_toArray, List.append_toArray, List.nil_append, List.cons_append]
  gi_wp2_with (first
    | (refine ⟨trivial, ?_⟩; gi_at_call 80; refine (callsIn_wide.2 (HRI.out _ belowA)).mono ?_; rintro e w1 ⟨rfl, hb1⟩; have k1 := (Bk.new w 94 #[.slice A n c]).ext hb1; have hb2 : Below w.heap.size w w1 := Below.trans belowA (hb1.mono (by simp)); have hz := def_lt' k1; have c1 := k1.cell 0; dsimp at c1)
    | (refine ⟨trivial, ?_⟩; gi_at_call 226; refine (callsIn_wide.2 (ranges_any _ _ _ _)).mono ?_; rintro e w2 ⟨rfl, rfl⟩))
  have kb : Bk ((w1.alloc (.cells #[.slice none 0 0] 94)).alloc (.cells #[.slice A n c] 94)) (w1.heap.size + 1) 94 #[.slice A n c] := Bk.made _ _ (by simp)
  have ko := (Bk.new w1 94 #[.slice none 0 0]).alloc (.cells #[.slice A n c] 94)
  have km := (k1.alloc (.cells #[.slice none 0 0] 94)).alloc (.cells #[.slice A n c] 94)
  have hb3 : Below w.heap.size w ((w1.alloc (.cells #[.slice none 0 0] 94)).alloc (.cells #[.slice A n c] 94)) := (hb2.alloc hb2.size _).alloc (by simp; omega) _
  have hgv := ranges_gives (w1.heap.size + 1) w.heap.size n A c l ((w1.alloc (.cells #[.slice none 0 0] 94)).alloc (.cells #[.slice A n c] 94)) HR.out (by simp; omega) (by simp) (by have := kb.cell 0; exact this) (HRD.out.below hb3)
  refine range_mine (gf := 232) (lb := #[.pointer (some ⟨w1.heap.size + 1, 0, none⟩)]) rfl (enters_of Tryz.func232 (by kernel_rfl) rfl) hgv (Below.refl _ _) (by simp; omega) (fun _ => rfl) (InvI l A n c w w1.heap.size) (fun _ _ _ => False) ?hI ?hIx ?h0 ?hround ?hdone ?hstop
  case hI =>
    rintro s A' B row ⟨⟨k, hk, hpre, v, g1, g2⟩, g3, g4, g5, g6⟩ hg hr
    exact ⟨⟨k, hk, hpre, v, blk_kept g1 hg hr, own_kept g2 hg hr⟩, below_kept g3 (Nat.le_refl _) (by simp; omega) hg hr, blk_kept g4 hg hr, Nat.lt_of_lt_of_le g5 hg.size, g6⟩
  case hIx =>
    rintro cd s A' B row h hg hr
    exact h
  case h0 => exact ⟨⟨0, by omega, rfl, _, ko, World.ownsRow_nil _ _ _ _⟩, hb3, km, by simp; omega, hz⟩
  case hround =>
    clear kb ko km hgv hb3
    rintro lp pre ⟨i, s⟩ W1 KK hkk
    have HKK := Lib.hid hkk
    clear hkk
    gi_wp2
    refine HKK.out _ ?_
    clear HKK
    rintro W0 W2 ⟨⟨k, hk, hpre, v, g1, g2⟩, g3, g4, g5, g6⟩ hext hpx hM
    subst hpre
    obtain ⟨hkn, hx⟩ := upto_next hpx
    obtain ⟨rfl, rfl⟩ : i = k ∧ s = shiftL (l.take k) := by injection hx; exact ⟨by assumption, by assumption⟩
    clear hx hpx
    have hb2' : Below w.heap.size w W2 := g3.trans (hext.mono g3.size)
    have q1 := g1.ext hext; have q4 := g4.ext hext; have hown := own_below g2 hext
    have z1 := q1.cell 0; have z4 := q4.cell 0; have f1 := q1.frozen
    dsimp at z1 z4
    have hsz := hext.size
    obtain ⟨b, o, rfl, hbB, _⟩ := HRD.out.2 (by omega)
    obtain ⟨r, hx⟩ : ∃ r, l[i]? = some r := ⟨_, List.getElem?_eq_getElem (by have := HL.out; omega)⟩
    obtain ⟨hc0, hc1, hc2, hb⟩ := (HRD.out.below hb2').rg hx
    have hfit := right_fits HR.out r (List.mem_of_getElem? hx)
    have hsb := shift_take_bd HR.out i
    have hsn := invM_snoc hx
    have HS := Lib.hid hsn
    clear hx hsn
    obtain ⟨f1, f2, f3, f4, f7, f8⟩ := hfit
    generalize hs : shiftL (l.take i) = s at *
    have e3 : (i : Int) < n := by omega
    have e4 : IntKind.i64.wrap (r.at_ + s) = r.at_ + s := IntWalk.i64_in _ (by omega)
    gi_wp2
    have hF : ∀ w', Below w1.heap.size W2 w' → w'.cell? ⟨w.heap.size, 0, none⟩ = some (.slice (some ⟨b, o, none⟩) n c) ∧ w'.cell? ⟨b, o + i * 3, none⟩ = some (.int .i64 r.at_) ∧ w'.cell? ⟨b, o + i * 3 + 1, none⟩ = some (.int .i64 r.old) ∧ w'.cell? ⟨b, o + i * 3 + 2, none⟩ = some (.int .i64 r.new) :=
      fun w' hb' => ⟨(hb'.cell (p := ⟨w.heap.size, 0, none⟩) g6).trans z4, (hb'.cell (p := ⟨b, _, none⟩) (Nat.lt_trans hbB g6)).trans hc0, (hb'.cell (p := ⟨b, _, none⟩) (Nat.lt_trans hbB g6)).trans hc1, (hb'.cell (p := ⟨b, _, none⟩) (Nat.lt_trans hbB g6)).trans hc2⟩
    have HF := Lib.hid hF
    clear hF
    have hbo : w1.heap.size ≤ W2.heap.size := by omega
    refine region_round (by rintro ⟨_, _, h⟩; exact h) (by kernel_rfl) (by kernel_rfl) (S := fun w' => Below w1.heap.size W2 w') (Below.drew (Below.refl _ _)) (fun hHeld => ?_)
    (refine tkH 1 ?_; refine tkH 2 ?_; refine tkH 3 ?_; refine tkH 4 ?_; refine tkH 5 ?_; refine tkH 6 ?_; refine tkH 7 ?_; refine tkH 8 ?_; refine tkH 9 ?_; refine tkH 10 ?_; refine tkH 11 ?_; refine tkH 12 ?_; refine tkH 13 ?_; refine tkH 14 ?_; refine tkH 15 ?_; refine tkH 16 ?_; refine tkH 17 ?_; refine tkH 18 ?_)
    refine wpAnyH_ready (rs := [0, 19]) (by kernel_rfl) (by simp) ?_; refine (AllReadyH.cons (o := _) (by simp only [List.getElem?_toArray, List.getElem?_cons_zero]; rfl) (fun K hK => ?_) (AllReadyH.cons (o := _) (by simp only [List.getElem?_toArray, List.getElem?_cons_succ, List.getElem?_cons_zero]; rfl) (fun K hK => ?_) AllReadyH.nil))
    · go_simp
      refine hK.out _ _ hHeld (fun hHeld => ?_)
      clear hK K; (try simp only [Act.put, List.setIfInBounds_toArray, List.set_cons_zero, List.set_cons_succ])
      refine nxH 19 (fun K hK => ?_)
      go_simp
      refine hK.out _ _ belowA (fun hHeld => ?_)
      clear hK K; (try simp only [Act.put, List.setIfInBounds_toArray, List.set_cons_zero, List.set_cons_succ])
      refine nxH 20 (fun K hK => ?_)
      refine app_one_step Tryz.underlying94 info_range rfl (by decide) W2 w1.heap.size v i _ hown (by unfold maxLen; omega) (by omega) hbo _ rfl (by simp [Value.oneCell']) rfl (.tmp 13) (.tmp 32) rfl rfl rfl ?_
      intro g cap w2 hown2 hgr2 hat2 hlt2
      have hgb : Below w1.heap.size W2 w2 := below_own (Below.refl _ _) hown hgr2 hbo (Nat.le_refl _)
      refine hK.out _ _ hgb (fun hHeld => ?_)
      clear hK K; (try simp only [Act.put, List.setIfInBounds_toArray, List.set_cons_zero, List.set_cons_succ])
      refine nxH 21 (fun K hK => ?_)
      have y1 := q1.grown hgr2 (own_ne hown q1 (by decide))
      have y4 := q4.grown hgr2 (own_ne hown q4 (by decide))
      have x1 := y1.cell 0; have x2 := y1.frozen; have x3 := def_lt' y1
      dsimp at x1
      have hne2 : (Value.slice (some ⟨g, 0, none⟩) (i + 1) cap).ownBlock ≠ some w1.heap.size := own_ne hown2 y1 (by decide)
      go_simp
      have hend : Below w1.heap.size W2 (w2.setCell ⟨w1.heap.size, 0, none⟩ (.slice (some ⟨g, 0, none⟩) (i + 1) cap)) := hgb.setCell (Nat.le_refl _) _
      refine hK.out _ _ hend (fun _ => ?_)
      clear hK K; (try simp only [Act.put, List.setIfInBounds_toArray, List.set_cons_zero, List.set_cons_succ])
      refine wpAnyH_done (by kernel_rfl) ?_ _
      refine ⟨((KeepsOthers.of_grownBy hgr2 (own_cells hown)).trans (KeepsOthers.setCell _ _ _)).from _, hend.mono (Nat.le_of_lt g6), (mid_grown hgr2 (own_lt g2)).set_ g5 _, ⟨i + 1, by omega, (by rw [upto_succ, told, hs]), _, y1.set_ 0 _, ?_⟩, hb2'.trans (hend.mono (Nat.le_of_lt g6)), y4.far (Nat.ne_of_lt g6) _, Nat.lt_of_lt_of_le (def_lt' q1) hend.size, g6⟩
      rw [HS.out, rgs_append]
      exact ownsRow_setCell_other hown2 hne2 _
    · go_simp
      refine hK.out _ _ belowA (fun hHeld => ?_)
      clear hK K; (try simp only [Act.put, List.setIfInBounds_toArray, List.set_cons_zero, List.set_cons_succ])
      refine nxH 0 (fun K hK => ?_)
      have zb := ((q1.alloc (.cells #[.int .i64 (r.at_ + s), .int .i64 r.new, .int .i64 r.old] 155)).drew).cell 0
      have hbl := def_lt' q1
      dsimp at zb
      go_simp
      refine hK.out _ _ hHeld (fun hHeld => ?_)
      clear hK K; (try simp only [Act.put, List.setIfInBounds_toArray, List.set_cons_zero, List.set_cons_succ])
      refine nxH 20 (fun K hK => ?_)
      refine app_one_step Tryz.underlying94 info_range rfl (by decide) W2 w1.heap.size v i _ hown (by unfold maxLen; omega) (by omega) hbo _ rfl (by simp [Value.oneCell']) rfl (.tmp 13) (.tmp 32) rfl rfl rfl ?_
      intro g cap w2 hown2 hgr2 hat2 hlt2
      have hgb : Below w1.heap.size W2 w2 := below_own (Below.refl _ _) hown hgr2 hbo (Nat.le_refl _)
      refine hK.out _ _ hgb (fun hHeld => ?_)
      clear hK K; (try simp only [Act.put, List.setIfInBounds_toArray, List.set_cons_zero, List.set_cons_succ])
      refine nxH 21 (fun K hK => ?_)
      have y1 := q1.grown hgr2 (own_ne hown q1 (by decide))
      have y4 := q4.grown hgr2 (own_ne hown q4 (by decide))
      have x1 := y1.cell 0; have x2 := y1.frozen; have x3 := def_lt' y1
      dsimp at x1
      have hne2 : (Value.slice (some ⟨g, 0, none⟩) (i + 1) cap).ownBlock ≠ some w1.heap.size := own_ne hown2 y1 (by decide)
      go_simp
      have hend : Below w1.heap.size W2 (w2.setCell ⟨w1.heap.size, 0, none⟩ (.slice (some ⟨g, 0, none⟩) (i + 1) cap)) := hgb.setCell (Nat.le_refl _) _
      refine hK.out _ _ hend (fun _ => ?_)
      clear hK K; (try simp only [Act.put, List.setIfInBounds_toArray, List.set_cons_zero, List.set_cons_succ])
      refine wpAnyH_done (by kernel_rfl) ?_ _
      refine ⟨((KeepsOthers.of_grownBy hgr2 (own_cells hown)).trans (KeepsOthers.setCell _ _ _)).from _, hend.mono (Nat.le_of_lt g6), (mid_grown hgr2 (own_lt g2)).set_ g5 _, ⟨i + 1, by omega, (by rw [upto_succ, told, hs]), _, y1.set_ 0 _, ?_⟩, hb2'.trans (hend.mono (Nat.le_of_lt g6)), y4.far (Nat.ne_of_lt g6) _, Nat.lt_of_lt_of_le (def_lt' q1) hend.size, g6⟩
      rw [HS.out, rgs_append]
      exact ownsRow_setCell_other hown2 hne2 _
  case hdone =>
    rintro D W hD ⟨⟨k, hk, hpre, v, g1, g2⟩, g3, g4, g5, g6⟩ hHD
    obtain rfl : k = n := by
      have := congrArg List.length hpre
      simp [upto_length] at this
      omega
    have q1 := g1.cell 0
    dsimp at q1
    have HD := Lib.hid hHD
    clear hHD
    gi_wp2
    refine ⟨by simp, .inl ⟨_, _, rfl, run_takeDeferred HD.out, v, by simp [results, Tryz.results214, go_sem], v, rfl, ?_, ?_⟩⟩
    · have := own_base (own_put g2 HD.out rfl (.deferred none)) (Nat.le_of_lt g6)
      rw [List.take_of_length_le (by rw [HL.out]; omega)] at this
      exact this
    · exact Below.trans g3 (below_putObj (by simp at hD; omega))
  case hstop => exact fun _ _ _ _ _ _ h _ => h.elim
attribute [local go_sem] Oper.semAt_some
/-- what Invert gives: an owned row -/
def InvSays (l : List Rg) (w : World) (e : Ending) (w' : World) : Prop :=
  ∃ v m, e = .returned v ∧ w'.ownsRow w.heap.size 155 3 v m (rgs (if rightM l then invM l else [])) ∧ Below w.heap.size w w'
set_option maxHeartbeats 1000000 in
theorem inv_any (A : Option Addr) (n c : Nat) (l : List Rg) (w : World) (hn : n ≤ maxLen) (h : n ≤ 1000 → Rd w w.heap.size 3 A n (rgs l)) (hl : l.length = n) :
    Calls Tryz.prog 214 #[.slice A n c] w (InvSays l w) := by
  cases hr : rightM l with
  | true => exact (inv_go A n c l w (h (by have := right_len hr; omega)) hr).mono fun e w' ⟨v, he, ho, hb⟩ => ⟨v, n, he, by rw [hr, if_pos rfl]; exact ho, hb⟩
  | false =>
    have hri := fun W (hb : Below w.heap.size w W) => right_any A n c l W hn (fun hh => ((h hh).below hb).more hb.size) hl
    rw [hr] at hri
    have HRI := Lib.hid hri
    unfold InvSays
    rw [hr, if_neg (by simp)]
    clear hri hr h hl
    go_enter Tryz.func214, Tryz.ntmps214
    go_wp2_with (go_at_call 80; refine (HRI.out _ belowA).mono ?_; rintro e w1 ⟨rfl, hb1⟩; have hb2 : Below w.heap.size w w1 := Below.trans belowA (hb1.mono (by simp)))
    go_ret
    exact ⟨_, 0, rfl, World.ownsRow_nil _ _ _ _, hb2⟩
def hitB (l : List Rg) (at_ off : Int) (k : Nat) : Prop := at_ = k ∧ ∃ r, l[k]? = some r ∧ 0 ≤ off ∧ off ≤ r.new
/-- a position among a range's new tokens, if there is one -/
def recM (l : List Rg) (at_ off : Int) : Option Int :=
  if 0 ≤ at_ then (l[at_.toNat]?).bind fun r => if 0 ≤ off ∧ off ≤ r.new then some (r.at_ + shiftL (l.take at_.toNat) + off) else none else none
def recS (l : List Rg) (at_ off : Int) : Int × Bool := if rightM l then (match recM l at_ off with | some x => (x, true) | none => (0, false)) else (0, false)
theorem recM_hit {l : List Rg} {at_ off : Int} {k : Nat} {r : Rg} (h1 : at_ = k) (h2 : l[k]? = some r) (h3 : 0 ≤ off) (h4 : off ≤ r.new) : recM l at_ off = some (r.at_ + shiftL (l.take k) + off) := by
  subst h1
  unfold recM
  rw [if_pos (by omega), Int.toNat_natCast, h2, Option.bind_some, if_pos ⟨h3, h4⟩]
theorem recM_none {l : List Rg} {at_ off : Int} (h : ∀ j, j < l.length → ¬ hitB l at_ off j) : recM l at_ off = none := by
  unfold recM
  split
  · rename_i h0
    cases hx : l[at_.toNat]? with
    | none => rfl
    | some r =>
      rw [Option.bind_some]
      split
      · rename_i h1
        exact absurd ⟨by omega, r, hx, h1⟩ (h at_.toNat (List.getElem?_eq_some_iff.1 hx).1)
      · rfl
  · rfl
/-- what Recover's boxes hold between two rounds -/
def RecI (l : List Rg) (at_ off : Int) (A : Option Addr) (n c : Nat) (w : World) (pre : List (Nat × Int)) (W : World) : Prop :=
  (∃ k, k ≤ n ∧ pre = upto l k ∧ ∀ j, j < k → ¬ hitB l at_ off j) ∧ Below w.heap.size w W ∧
  Bk W w.heap.size 94 #[.slice A n c] ∧ Bk W (w.heap.size + 1) 3 #[.int .i64 at_] ∧ Bk W (w.heap.size + 1 + 1) 3 #[.int .i64 off] ∧
  Bk W (w.heap.size + 1 + 1 + 1) 3 #[.int .i64 0] ∧ Bk W (w.heap.size + 1 + 1 + 1 + 1) 4 #[.bool false]
def RecX (l : List Rg) (at_ off : Int) (w : World) (cd : Code) (_ : List (Nat × Int)) (W : World) : Prop :=
  cd = .ret ∧ Below w.heap.size w W ∧ ∃ x : Int, recM l at_ off = some x ∧ Bk W (w.heap.size + 1 + 1 + 1) 3 #[.int .i64 x] ∧ Bk W (w.heap.size + 1 + 1 + 1 + 1) 4 #[.bool true]
def RecSays (q : Int × Bool) (w : World) (e : Ending) (w' : World) : Prop := e = .returned (.tuple #[.int .i64 q.1, .bool q.2]) ∧ Below w.heap.size w w'
set_option maxHeartbeats 1000000 in
theorem rec_bad (A : Option Addr) (n c : Nat) (l : List Rg) (at_ off : Int) (w : World) (hn : n ≤ maxLen) (h : n ≤ 1000 → Rd w w.heap.size 3 A n (rgs l)) (hl : l.length = n) (hr : rightM l = false) :
    Calls Tryz.prog 212 #[.slice A n c, .int .i64 at_, .int .i64 off] w (RecSays (0, false) w) := by
  have hri := fun W (hb : Below w.heap.size w W) => right_any A n c l W hn (fun hh => ((h hh).below hb).more hb.size) hl
  rw [hr] at hri
  have HRI := Lib.hid hri
  clear hri hr h hl
  go_enter Tryz.func212, Tryz.ntmps212
  go_wp2_with (go_at_call 80; refine (HRI.out _ belowA).mono ?_; rintro e w1 ⟨rfl, hb1⟩; obtain ⟨hcc, hff⟩ := bcell hb1; have hz : w.heap.size + 5 ≤ w1.heap.size := by have := hb1.size; simp at this; omega)
  have hb2 : Below w.heap.size w w1 := Below.trans belowA (hb1.mono (by simp; try omega))
  refine bodyPost_ret (v := .tuple #[.int .i64 0, .bool false]) (by simp [results, Tryz.results212, go_sem, hcc]) rfl ⟨rfl, ?_⟩
  repeat (first | (refine Below.setCell ?_ (by simp; try omega) _) | with_reducible exact hb2)
set_option maxRecDepth 100000 in
set_option maxHeartbeats 2000000 in
theorem rec_go (A : Option Addr) (n c : Nat) (l : List Rg) (at_ off : Int) (w : World) (hrd : Rd w w.heap.size 3 A n (rgs l)) (hr : rightM l = true) :
    Calls Tryz.prog 212 #[.slice A n c, .int .i64 at_, .int .i64 off] w (RecSays (recS l at_ off) w) := by
  have hl := hrd.rlen
  have hn2 : n ≤ 1000 := by have := right_len hr; omega
  have hri := fun W (hb : Below w.heap.size w W) => right_any A n c l W (by unfold maxLen; omega) (fun hh => (hrd.below hb).more hb.size) hl
  rw [hr] at hri
  have HRI := Lib.hid hri
  have HR := Lib.hid hr
  have HL := Lib.hid hl
  have HRD := Lib.hid hrd
  clear hri hr hl hrd
  refine callsIn_wide.1 (callsIn_of_wp_marks (n := 10) Tryz.func212 rfl trivial ?_ rfl)
  simp only [Tryz.ntmps212, List.size_toArray, List.length_cons, List.length_nil, Nat.reduceAdd, Nat.reduceSub, Array.replicate_succ, Array.replicate_zero, List.push_toArray, List.append_toArray, List.nil_append, List.cons_append]
  gi_wp2_with (first
    | (refine ⟨trivial, ?_⟩; gi_at_call 80; refine (callsIn_wide.2 (HRI.out _ belowA)).mono ?_; rintro e w1 ⟨rfl, hb1⟩; have hb2 : Below w.heap.size w w1 := Below.trans belowA (hb1.mono (by simp; try omega)); have k3 := Bk.ext (five_0 w _ _ _ _) hb1; have k4 := Bk.ext (five_1 w _ _ _ _) hb1; have k5 := Bk.ext (five_2 w _ _ _ _) hb1; have k6 := Bk.ext (five_3 w _ _ _ _) hb1; have k7 := Bk.ext (five_4 w _ _ _ _) hb1; have hz : w.heap.size + 5 ≤ w1.heap.size := (by have := hb1.size; simp at this; omega); clear hb1; have c3 := k3.cell 0; dsimp at c3)
    | (refine ⟨trivial, ?_⟩; gi_at_call 226; refine (callsIn_wide.2 (ranges_any _ _ _ _)).mono ?_; rintro e w2 ⟨rfl, rfl⟩))
  have hgv := ranges_gives w1.heap.size w.heap.size n A c l (w1.alloc (.cells #[.slice A n c] 94)) HR.out (by simp; omega) (by simp) (by have := (Bk.new w1 94 #[.slice A n c]).cell 0; exact this) (HRD.out.below (hb2.alloc hb2.size _))
  refine range_mine (gf := 232) (lb := #[.pointer (some ⟨w1.heap.size, 0, none⟩)]) rfl (enters_of Tryz.func232 (by kernel_rfl) rfl) hgv (Below.refl _ _) (by simp; omega) (fun _ => rfl) (RecI l at_ off A n c w) (RecX l at_ off w) ?hI ?hIx ?h0 ?hround ?hdone ?hstop
  case hI =>
    rintro s A' B row ⟨hk, g1, g2, g3, g4, g5, g6⟩ hg hr
    exact ⟨hk, below_kept g1 (Nat.le_refl _) (by simp; omega) hg hr, blk_kept g2 hg hr, blk_kept g3 hg hr, blk_kept g4 hg hr, blk_kept g5 hg hr, blk_kept g6 hg hr⟩
  case hIx =>
    rintro cd s A' B row ⟨hk, g1, q, hq, g5, g6⟩ hg hr
    exact ⟨hk, below_kept g1 (Nat.le_refl _) (by simp; omega) hg hr, q, hq, blk_kept g5 hg hr, blk_kept g6 hg hr⟩
  case h0 => exact ⟨⟨0, by omega, rfl, fun j h => absurd h (by omega)⟩, hb2.alloc hb2.size _, k3.alloc _, k4.alloc _, k5.alloc _, k6.alloc _, k7.alloc _⟩
  case hround =>
    clear k3 k4 k5 k6 k7 c3 hgv hb2
    rintro lp pre ⟨i, s⟩ W1 KK hkk
    have HKK := Lib.hid hkk
    clear hkk
    gi_wp2
    refine HKK.out _ ?_
    clear HKK
    rintro W0 W2 ⟨⟨k, hk, hpre, hI⟩, g1, g2, g3, g4, g5, g6⟩ hext hpx hM
    subst hpre
    obtain ⟨hkn, hx⟩ := upto_next hpx
    obtain ⟨rfl, rfl⟩ : i = k ∧ s = shiftL (l.take k) := by injection hx; exact ⟨by assumption, by assumption⟩
    clear hx hpx
    have hb2 : Below w.heap.size w W2 := g1.trans (hext.mono g1.size)
    have q2 := g2.ext hext; have q3 := g3.ext hext; have q4 := g4.ext hext; have q5 := g5.ext hext; have q6 := g6.ext hext
    have c2 := q2.cell 0; have c3 := q3.cell 0; have c4 := q4.cell 0
    have d0 := q5.cell 0; have d5 := q6.cell 0
    have f5 := q5.frozen; have f6 := q6.frozen
    dsimp at c2 c3 c4 d0 d5
    have hsz := hext.size
    have hz2 : w.heap.size + 5 ≤ W2.heap.size := by simp at hM; omega
    obtain ⟨b, o, rfl, hbB, _⟩ := HRD.out.2 (by omega)
    obtain ⟨r, hx⟩ : ∃ r, l[i]? = some r := ⟨_, List.getElem?_eq_getElem (by have := HL.out; omega)⟩
    obtain ⟨hc0, hc1, hc2, hb⟩ := (HRD.out.below hb2).rg hx
    have hfit := right_fits HR.out r (List.mem_of_getElem? hx)
    have hsb := shift_take_bd HR.out i
    have HX := Lib.hid hx
    have HI := Lib.hid hI
    clear hx hI g2 g3 g4 g5 g6
    obtain ⟨f1, f2, f3, f4, f7, f8⟩ := hfit
    generalize hs : shiftL (l.take i) = s at *
    have e3 : (i : Int) < n := by omega
    have hF : ∀ w', Below (w.heap.size + 1 + 1 + 1) W2 w' → w'.cell? ⟨w.heap.size, 0, none⟩ = some (.slice (some ⟨b, o, none⟩) n c) ∧ w'.cell? ⟨w.heap.size + 1, 0, none⟩ = some (.int .i64 at_) ∧ w'.cell? ⟨w.heap.size + 1 + 1, 0, none⟩ = some (.int .i64 off) ∧ w'.cell? ⟨b, o + i * 3, none⟩ = some (.int .i64 r.at_) ∧ w'.cell? ⟨b, o + i * 3 + 2, none⟩ = some (.int .i64 r.new) :=
      fun w' hb' => ⟨(hb'.cell (p := ⟨w.heap.size, 0, none⟩) (by simp; omega)).trans c2, (hb'.cell (p := ⟨w.heap.size + 1, 0, none⟩) (by simp)).trans c3, (hb'.cell (p := ⟨w.heap.size + 1 + 1, 0, none⟩) (by simp)).trans c4, (hb'.cell (p := ⟨b, _, none⟩) (by simp; omega)).trans hc0, (hb'.cell (p := ⟨b, _, none⟩) (by simp; omega)).trans hc2⟩
    have HF := Lib.hid hF
    clear hF
    have hnext : ¬ hitB l at_ off i → RecI l at_ off (some ⟨b, o, none⟩) n c w (upto l i ++ [(i, s)]) W2.drew := fun hno =>
      ⟨⟨i + 1, by omega, by rw [upto_succ, told, hs], fun j hj => (Nat.lt_or_ge j i).elim (HI.out j) (fun h => by obtain rfl : j = i := (by omega); exact hno)⟩, hb2.drew, q2.drew, q3.drew, q4.drew, q5.drew, q6.drew⟩
    have HN := Lib.hid hnext
    clear hnext
    by_cases h1 : at_ = i
    · have t1 : ((i : Int) == at_) = true := by simp [h1]
      have H1 := Lib.hid h1
      clear h1
      by_cases h2 : off < 0
      · have t2 : decide (0 ≤ off) = false := decide_eq_false (by omega)
        gi_wp2
        refine region_round (by rintro ⟨_, _, h⟩; exact h) (by kernel_rfl) (by kernel_rfl) (S := fun w' => Below (w.heap.size + 1 + 1 + 1) W2 w') belowA (fun hHeld => ?_)
        (refine tkH 0 ?_; refine tkH 1 ?_; refine tkH 2 ?_; refine tkH 3 ?_; refine tkH 4 ?_; refine tkH 5 ?_; refine tkH 6 ?_; refine tkH 7 ?_; refine tnH 8 ?_; refine tnH 9 ?_; refine tnH 10 ?_; refine tnH 11 ?_; refine tnH 12 ?_; refine tnH 13 ?_; refine tnH 14 ?_; refine tkH 15 ?_)
        refine wpAnyH_done (by kernel_rfl) ?_ _
        gi_wp2
        exact ⟨(KeepsOthers.drew _).from _, (Below.refl _ _).drew, (Mid.refl _ _ _).drew, HN.out (by rintro ⟨_, q, hq, h3, h4⟩; omega)⟩
      · by_cases h3 : off ≤ r.new
        · have h4 : 0 ≤ off := by omega
          have t2 : decide (0 ≤ off) = true := decide_eq_true h4
          have t3 : decide (off ≤ r.new) = true := decide_eq_true h3
          have e5 : IntKind.i64.wrap (r.at_ + s) = r.at_ + s := IntWalk.i64_in _ (by omega)
          have e6 : IntKind.i64.wrap (r.at_ + s + off) = r.at_ + s + off := IntWalk.i64_in _ (by omega)
          have hrm := recM_hit H1.out HX.out h4 h3
          rw [hs] at hrm
          have HRM := Lib.hid hrm
          clear hrm HN HX HI
          gi_wp2
          refine region_round (by rintro ⟨_, _, h⟩; exact h) (by kernel_rfl) (by kernel_rfl) (S := fun w' => Below (w.heap.size + 1 + 1 + 1) W2 w') belowA (fun hHeld => ?_)
          (refine tkH 0 ?_; refine tkH 1 ?_; refine tkH 2 ?_; refine tkH 3 ?_; refine tkH 4 ?_; refine tkH 5 ?_; refine tkH 6 ?_; refine tkH 7 ?_; refine tkH 8 ?_; refine tkH 9 ?_; refine tkH 10 ?_; refine tkH 11 ?_; refine tkH 12 ?_; refine tkH 13 ?_; refine tkH 14 ?_; refine tkH 15 ?_)
          refine wpAnyH_done (by kernel_rfl) ?_ _
          gi_wp2
          refine region_round (by rintro ⟨_, _, h⟩; exact h) (by kernel_rfl) (by kernel_rfl) (S := fun w' => Below (w.heap.size + 1 + 1 + 1) W2 w') belowA (fun hHeld => ?_)
          (refine tkH 0 ?_; refine tkH 1 ?_; refine tkH 2 ?_; refine tkH 3 ?_; refine tkH 4 ?_; refine tkH 5 ?_; refine tkH 6 ?_; refine tkH 7 ?_; refine tkH 8 ?_)
          refine nxH 9 (fun K hK => ?_)
          go_simp
          refine hK.out _ _ belowA (fun hHeld => ?_)
          clear hK K; (try simp only [Act.put, List.setIfInBounds_toArray, List.set_cons_zero, List.set_cons_succ])
          refine nxH 10 (fun K hK => ?_)
          go_simp
          have hend : Below (w.heap.size + 1 + 1 + 1) W2 ((W2.setCell ⟨w.heap.size + 1 + 1 + 1, 0, none⟩ (.int .i64 (r.at_ + s + off))).setCell ⟨w.heap.size + 1 + 1 + 1 + 1, 0, none⟩ (.bool true)).drew.drew := belowA
          refine hK.out _ _ hend (fun hHeld => ?_)
          clear hK K; (try simp only [Act.put, List.setIfInBounds_toArray, List.set_cons_zero, List.set_cons_succ])
          refine wpAnyH_done (by kernel_rfl) ?_ _
          gi_wp2
          refine ⟨(((KeepsOthers.setCell _ _ _).trans (KeepsOthers.setCell _ _ _)).trans ((KeepsOthers.drew _).trans (KeepsOthers.drew _))).from _, rfl, hb2.trans (hend.mono (by omega)), _, HRM.out, ?_, ?_⟩
          · exact Bk.drew (Bk.drew (Bk.far (q5.set_ 0 (.int .i64 (r.at_ + s + off))) (by simp) _))
          · exact Bk.drew (Bk.drew (Bk.set_ (q6.far (p := ⟨w.heap.size + 1 + 1 + 1, 0, none⟩) (by simp) _) 0 (.bool true)))
        · have t2 : decide (0 ≤ off) = true := decide_eq_true (by omega)
          have t3 : decide (off ≤ r.new) = false := decide_eq_false h3
          gi_wp2
          refine region_round (by rintro ⟨_, _, h⟩; exact h) (by kernel_rfl) (by kernel_rfl) (S := fun w' => Below (w.heap.size + 1 + 1 + 1) W2 w') belowA (fun hHeld => ?_)
          (refine tkH 0 ?_; refine tkH 1 ?_; refine tkH 2 ?_; refine tkH 3 ?_; refine tkH 4 ?_; refine tkH 5 ?_; refine tkH 6 ?_; refine tkH 7 ?_; refine tkH 8 ?_; refine tkH 9 ?_; refine tkH 10 ?_; refine tkH 11 ?_; refine tkH 12 ?_; refine tkH 13 ?_; refine tkH 14 ?_; refine tkH 15 ?_)
          refine wpAnyH_done (by kernel_rfl) ?_ _
          gi_wp2
          exact ⟨(KeepsOthers.drew _).from _, (Below.refl _ _).drew, (Mid.refl _ _ _).drew, HN.out (by rintro ⟨_, q, hq, h5, h6⟩; rw [HX.out] at hq; injection hq with hq; subst hq; omega)⟩
    · have t1 : ((i : Int) == at_) = false := by simp; omega
      gi_wp2
      refine region_round (by rintro ⟨_, _, h⟩; exact h) (by kernel_rfl) (by kernel_rfl) (S := fun w' => Below (w.heap.size + 1 + 1 + 1) W2 w') belowA (fun hHeld => ?_)
      (refine tkH 0 ?_; refine tkH 1 ?_; refine tkH 2 ?_; refine tkH 3 ?_; refine tnH 4 ?_; refine tnH 5 ?_; refine tkH 6 ?_; refine tkH 7 ?_; refine tnH 8 ?_; refine tnH 9 ?_; refine tnH 10 ?_; refine tnH 11 ?_; refine tnH 12 ?_; refine tnH 13 ?_; refine tnH 14 ?_; refine tkH 15 ?_)
      refine wpAnyH_done (by kernel_rfl) ?_ _
      gi_wp2
      exact ⟨(KeepsOthers.drew _).from _, (Below.refl _ _).drew, (Mid.refl _ _ _).drew, HN.out (by rintro ⟨h5, _⟩; exact h1 h5)⟩
  case hdone =>
    rintro D W hD ⟨⟨k, hk, hpre, hI⟩, g1, g2, g3, g4, g5, g6⟩ hK
    have hnk : n = k := by have := congrArg List.length hpre; simpa [upto_length] using this
    subst hnk
    have e0 : recS l at_ off = (0, false) := by
      unfold recS
      rw [HR.out, if_pos rfl, recM_none (fun j hj => hI j (by rw [HL.out] at hj; exact hj))]
    have HN := Lib.hid e0
    clear hI hpre e0 k3 k4 k5 k6 k7 c3 hgv hb2
    have d0 := g5.cell 0; have d5 := g6.cell 0
    have f5 := g5.frozen; have f6 := g6.frozen
    dsimp at d0 d5
    have HD := Lib.hid hK
    have hD' := def_lt' hK
    have hz5 := def_lt' g5
    have hz6 := def_lt' g6
    have hDD : w.heap.size + 6 ≤ D := by simp at hD; omega
    clear hK
    gi_wp2
    have HD2 := dfar (dfar HD.out (p := ⟨w.heap.size + 1 + 1 + 1, 0, none⟩) (by simp; omega) (.int .i64 0)) (p := ⟨w.heap.size + 1 + 1 + 1 + 1, 0, none⟩) (by simp; omega) (.bool false)
    have r5 : Bk _ (w.heap.size + 1 + 1 + 1) 3 #[.int .i64 0] := Bk.put (D := D) (Bk.far (p := ⟨w.heap.size + 1 + 1 + 1 + 1, 0, none⟩) (g5.set_ 0 (.int .i64 0)) (by simp) (.bool false)) (by omega) (.deferred none)
    have r6 : Bk _ (w.heap.size + 1 + 1 + 1 + 1) 4 #[.bool false] := Bk.put (D := D) ((g6.far (p := ⟨w.heap.size + 1 + 1 + 1, 0, none⟩) (by simp) (.int .i64 0)).set_ 0 (.bool false)) (by omega) (.deferred none)
    have d0 := r5.cell 0; have d5 := r6.cell 0
    dsimp at d0 d5
    refine ⟨by simp, .inl ⟨_, _, rfl, run_takeDeferred HD2, .tuple #[.int .i64 (recS l at_ off).1, .bool (recS l at_ off).2], ?_, rfl, ?_⟩⟩
    · rw [HN.out]
      simp [results, Tryz.results212, go_sem, d0, d5]
    · refine Below.trans ?_ (below_putObj (by omega))
      repeat (first | with_reducible exact g1 | (with_reducible refine Below.setCell ?_ ?_ _; rotate_left; focus (first | omega | (simp; done) | (simp; omega))))
  case hstop =>
    rintro D cd pre W hD hpre ⟨rfl, g1, x, hx, g5, g6⟩ hK
    have HD := Lib.hid hK
    have hD' := def_lt' hK
    have hDD : w.heap.size + 6 ≤ D := by simp at hD; omega
    clear hK
    have e0 : recS l at_ off = (x, true) := by
      unfold recS
      rw [HR.out, if_pos rfl, hx]
    have HN := Lib.hid e0
    clear e0 hx
    gi_wp2
    have r5 := Bk.put g5 (D := D) (by omega) (.deferred none)
    have r6 := Bk.put g6 (D := D) (by omega) (.deferred none)
    have d0 := r5.cell 0; have d5 := r6.cell 0
    dsimp at d0 d5
    refine ⟨by simp, .inl ⟨_, _, rfl, run_takeDeferred HD.out, .tuple #[.int .i64 (recS l at_ off).1, .bool (recS l at_ off).2], ?_, rfl, ?_⟩⟩
    · rw [HN.out]
      simp [results, Tryz.results212, go_sem, d0, d5]
    · exact Below.trans g1 (below_putObj (by omega))
theorem rec_any (A : Option Addr) (n c : Nat) (l : List Rg) (at_ off : Int) (w : World) (hn : n ≤ maxLen) (h : n ≤ 1000 → Rd w w.heap.size 3 A n (rgs l)) (hl : l.length = n) :
    Calls Tryz.prog 212 #[.slice A n c, .int .i64 at_, .int .i64 off] w (RecSays (recS l at_ off) w) := by
  cases hr : rightM l with
  | true => exact rec_go A n c l at_ off w (h (by have := right_len hr; omega)) hr
  | false =>
    have e : recS l at_ off = (0, false) := by unfold recS; rw [hr]; rfl
    rw [e]
    exact rec_bad A n c l at_ off w hn h hl hr
/-- what a step says -/
structure StC where
  (k f t g h i m v : Int)
  sl : List Tok
  st : List Mk
deriving DecidableEq, Inhabited
def StC.sh (x : StC) : Bool := shB x.k x.f x.t x.g x.h x.i x.m x.v x.sl.length x.st.length
def StC.map (x : StC) : List Rg := mapB x.k x.f x.t x.g x.h x.i x.m x.v x.sl.length x.st.length
/-- a map back, a map over, and whether it was kept -/
structure Lk where
  (back over : List Rg)
  kept : Bool
deriving DecidableEq, Inhabited
def recO (l : List Rg) (at_ off : Int) : Option Int := if (recS l at_ off).2 then some (recS l at_ off).1 else none
/-- where a position comes to, back over links, over a map, and over the links -/
def tellL (m : List Rg) : List Lk → Int → Int → Pl × Int
  | [], p, s => (⟨(tellS m p s).1.pos, (tellS m p s).1.gone, (tellS m p s).1.inside, 0, 0⟩, (tellS m p s).2)
  | k :: ks, p, s =>
    let P := tellS k.back p s
    if P.2 ≠ 0 then (Pl.zero, P.2) else
    match (if (P.1.gone && k.kept) = true then recO k.over P.1.range P.1.off else none) with
    | some n => (⟨n, false, false, 0, 0⟩, 0)
    | none =>
      let q := tellL m ks P.1.pos s
      if q.2 ≠ 0 ∨ k.kept = false then (⟨q.1.pos, decide (q.2 = 0) && (q.1.gone || P.1.gone), decide (q.2 = 0) && (q.1.inside || P.1.inside), q.1.range, q.1.off⟩, q.2)
      else
        let x := tellS k.over q.1.pos s
        if x.2 ≠ 0 then (Pl.zero, x.2) else (⟨x.1.pos, P.1.gone || q.1.gone || x.1.gone, P.1.inside || q.1.inside || x.1.inside, 0, 0⟩, 0)
def rowB (T : Int → Int → Pl × Int) (from_ to_ : Int) : Nat → Bool
  | 0 => true
  | n + 1 => rowB T from_ to_ n && (decide ((T (from_ + n) 1).2 = 0) && !(T (from_ + n) 1).1.gone && decide ((T (from_ + n) 1).1.pos = to_ + n))
def kindB (T : Int → Int → Pl × Int) (x : StC) (f' t' e : Int) : Option StC :=
  if x.k = 2 then
    if (T x.g (-1)).2 = 0 ∧ (T x.h 1).2 = 0 ∧ f' ≤ (T x.g (-1)).1.pos ∧ (T x.g (-1)).1.pos ≤ (T x.h 1).1.pos ∧ (T x.h 1).1.pos ≤ e then some { x with f := f', t := t', g := (T x.g (-1)).1.pos, h := (T x.h 1).1.pos } else none
  else if x.k = 3 ∨ x.k = 4 then if f' < e then some { x with f := f', t := t' } else none
  else if x.k = 5 then if rowB T x.f f' (x.t - x.f).toNat = true then some { x with f := f', t := f' + x.t - x.f } else none
  else some { x with f := f', t := t' }
/-- a step by where positions come to -/
def shiftB (T : Int → Int → Pl × Int) (x : StC) : Option StC :=
  if x.sh = true ∧ (T x.f 1).2 = 0 ∧ (T x.t (-1)).2 = 0 ∧ ((T x.f 1).1.inside && (T x.t (-1)).1.inside) = false then
    (kindB T x (T x.f 1).1.pos (max (T x.f 1).1.pos (T x.t (-1)).1.pos) (T x.t (-1)).1.pos).filter StC.sh
  else none
def invS (l : List Rg) : List Rg := if rightM l then invM l else []
/-- one more step -/
def stepT (m : List Rg) (ks : List Lk) (x : StC) : List Lk × Option StC :=
  if x.sh = true then
    let y := shiftB (tellL m ks) x
    if rightM (invS x.map) = true then (⟨invS x.map, (match y with | some z => z.map | none => []), y.isSome⟩ :: ks, y) else (ks, y)
  else (ks, none)
/-- many steps: the links, the steps that are kept, how many are lost -/
def runG (m : List Rg) (ks : List Lk) : List StC → List Lk × List StC × Nat
  | [] => (ks, [], 0)
  | x :: xs =>
    let a := stepT m ks x
    let b := runG m a.1 xs
    (b.1, a.2.toList ++ b.2.1, (if a.2.isSome then 0 else 1) + b.2.2)
/-- a pin -/
structure Pn where
  (k a b : Int)
deriving DecidableEq, Inhabited
def pinAt (T : Int → Int → Pl × Int) (p : Int) : Int := if (T p 1).2 = 0 then (T p 1).1.pos else 0
def pinB (T : Int → Int → Pl × Int) (p : Pn) : Pn := if p.k = 1 then ⟨p.k, pinAt T p.a, pinAt T p.b⟩ else if p.k = 2 then ⟨p.k, pinAt T p.a, p.b⟩ else p
/-- what a group says -/
structure GrC where
  steps : List StC
  (pin back : Pn)
  lost : Int
deriving DecidableEq, Inhabited
def overG (m : List Rg) (ks : List Lk) : List GrC → List Lk × List GrC
  | [] => (ks, [])
  | g :: gs =>
    let a := runG m ks g.steps
    let b := overG m a.1 gs
    (b.1, ⟨a.2.1, pinB (tellL m a.1) g.pin, pinB (tellL m ks) g.back, IntKind.i64.wrap (g.lost + (a.2.2 : Nat))⟩ :: b.2)
/-- groups over a map -/
def overC (m : List Rg) (L : List GrC) : List GrC := if rightM m then (overG m [] L).2 else L
section
variable {m : List Rg}
theorem runG_append (ks : List Lk) (xs ys : List StC) : runG m ks (xs ++ ys) = ((runG m (runG m ks xs).1 ys).1, (runG m ks xs).2.1 ++ (runG m (runG m ks xs).1 ys).2.1, (runG m ks xs).2.2 + (runG m (runG m ks xs).1 ys).2.2) := by
  induction xs generalizing ks with
  | nil => simp [runG]
  | cons x xs ih =>
    simp only [List.cons_append, runG]
    rw [ih]
    simp only [List.append_assoc, Nat.add_assoc]
theorem runG_snoc (ks : List Lk) {xs : List StC} {k : Nat} {x : StC} (h : xs[k]? = some x) : runG m ks (xs.take (k + 1)) = ((stepT m (runG m ks (xs.take k)).1 x).1, (runG m ks (xs.take k)).2.1 ++ (stepT m (runG m ks (xs.take k)).1 x).2.toList, (runG m ks (xs.take k)).2.2 + (if (stepT m (runG m ks (xs.take k)).1 x).2.isSome then 0 else 1)) := by
  rw [List.take_add_one, h, Option.toList_some, runG_append]
  simp [runG]
theorem overG_append (ks : List Lk) (xs ys : List GrC) : overG m ks (xs ++ ys) = ((overG m (overG m ks xs).1 ys).1, (overG m ks xs).2 ++ (overG m (overG m ks xs).1 ys).2) := by
  induction xs generalizing ks with
  | nil => simp [overG]
  | cons x xs ih =>
    simp only [List.cons_append, overG]
    rw [ih]
theorem overG_snoc (ks : List Lk) {xs : List GrC} {k : Nat} {g : GrC} (h : xs[k]? = some g) : overG m ks (xs.take (k + 1)) = ((runG m (overG m ks (xs.take k)).1 g.steps).1, (overG m ks (xs.take k)).2 ++ [⟨(runG m (overG m ks (xs.take k)).1 g.steps).2.1, pinB (tellL m (runG m (overG m ks (xs.take k)).1 g.steps).1) g.pin, pinB (tellL m (overG m ks (xs.take k)).1) g.back, IntKind.i64.wrap (g.lost + ((runG m (overG m ks (xs.take k)).1 g.steps).2.2 : Nat))⟩]) := by
  rw [List.take_add_one, h, Option.toList_some, overG_append]
  simp [overG]
theorem overG_len (ks : List Lk) (xs : List GrC) : (overG m ks xs).2.length = xs.length := by
  induction xs generalizing ks with
  | nil => rfl
  | cons x xs ih => simp [overG, ih]
theorem runG_count (ks : List Lk) (xs : List StC) : (runG m ks xs).2.1.length + (runG m ks xs).2.2 = xs.length := by
  induction xs generalizing ks with
  | nil => rfl
  | cons x xs ih =>
    have := ih (stepT m ks x).1
    simp only [runG, List.length_append, List.length_cons]
    cases h : (stepT m ks x).2 <;> simp <;> omega
end
/-- a slice doesn't lie in block bt -/
def Off (bt : Nat) (A : Option Addr) : Prop := ∀ a, A = some a → a.block ≠ bt
theorem Off.none_ (bt : Nat) : Off bt none := fun _ h => by cases h
theorem Off.of_own {w : World} {base : Nat} {e : TypeId} {size : Nat} {A : Option Addr} {c n m bt : Nat} {xs : List Value} (h : w.ownsRow base e size (.slice A n c) m xs) (hb : bt < base) : Off bt A := by
  rintro a rfl
  have := own_ge h a.block rfl
  omega
theorem Off.of_rd {w : World} {B size n bt : Nat} {A : Option Addr} {xs : List Value} (h : Rd w B size A n xs) (hn : 0 < n) (hb : B ≤ bt) : Off bt A := by
  rintro a rfl
  obtain ⟨b, o, e, hlt, _⟩ := h.2 hn
  injection e with e
  subst e
  show b ≠ bt
  omega
theorem Rd.grown {w w' : World} {B size n bt : Nat} {A : Option Addr} {xs : List Value} (h : Rd w B size A n xs) (hg : w.grownBy w' (some bt)) (hA : n = 0 ∨ Off bt A) (hB : B ≤ w.heap.size) : Rd w' B size A n xs := by
  refine ⟨h.1, fun hn => ?_⟩
  obtain ⟨b, o, e, hb, hc⟩ := h.2 hn
  refine ⟨b, o, e, hb, fun j u hu => ?_⟩
  have hne : b ≠ bt := by
    rcases hA with hA | hA
    · omega
    · exact hA _ e
  exact (World.cell?_of_block (a := ⟨b, o + j, none⟩) (hg.block b (by omega) (fun e => hne (by injection e)))).trans (hc j u hu)
/-- a step as it lies -/
structure StH where
  A : Option Addr
  n : Nat
  c : Nat
  A' : Option Addr
  n' : Nat
  c' : Nat
  x : StC
deriving Inhabited
def StH.cells (s : StH) : List Value := [.int .i64 s.x.k, .int .i64 s.x.f, .int .i64 s.x.t, .int .i64 s.x.g, .int .i64 s.x.h, .int .i64 s.x.i, .int .i64 s.x.m, .int .i64 s.x.v, .slice s.A s.n s.c, .slice s.A' s.n' s.c']
/-- what a step's lists are -/
structure StH.In (w : World) (B : Nat) (s : StH) : Prop where
  rd : Rd w B 12 s.A s.n (toks s.x.sl)
  rd' : Rd w B 8 s.A' s.n' (mks s.x.st)
  n : s.n ≤ 1000000
  n' : s.n' ≤ 1000000
  A : s.A = none → s.n = 0
  A' : s.A' = none → s.n' = 0
/-- its lists don't lie in block bt -/
def StH.Off (bt : Nat) (s : StH) : Prop := (s.n = 0 ∨ Go.Proofs.YtmacfoebfpljoaaGreat.Off bt s.A) ∧ (s.n' = 0 ∨ Go.Proofs.YtmacfoebfpljoaaGreat.Off bt s.A')
def sts (L : List StH) : List Value := L.flatMap StH.cells
theorem sts_len (L : List StH) : (sts L).length = L.length * 10 := by
  induction L with
  | nil => rfl
  | cons r l ih => simp only [sts, List.flatMap_cons, List.length_append] at *; rw [ih]; simp [StH.cells]; omega
theorem sts_append (a b : List StH) : sts (a ++ b) = sts a ++ sts b := by simp [sts]
theorem sts_one (l : List StH) : ∀ u ∈ sts l, u.oneCell' = true := by
  intro u hu
  obtain ⟨r, _, hr⟩ := List.mem_flatMap.1 hu
  simp only [StH.cells, List.mem_cons, List.not_mem_nil, or_false] at hr
  rcases hr with rfl | rfl | rfl | rfl | rfl | rfl | rfl | rfl | rfl | rfl <;> rfl
/-- steps as they lie -/
def StsIn (w : World) (B : Nat) (A : Option Addr) (n : Nat) (L : List StH) : Prop := Rd w B 10 A n (sts L) ∧ ∀ s ∈ L, s.In w B
section
variable {w w' : World} {B B' n bt : Nat} {A : Option Addr} {L : List StH} {s : StH}
theorem StH.In.len (h : s.In w B) : s.x.sl.length = s.n := h.rd.tlen
theorem StH.In.len' (h : s.In w B) : s.x.st.length = s.n' := h.rd'.mlen
theorem StH.In.below (h : s.In w B) (hb : Below B w w') : s.In w' B := ⟨h.rd.below hb, h.rd'.below hb, h.n, h.n', h.A, h.A'⟩
theorem StH.In.more (h : s.In w B) (hb : B ≤ B') : s.In w B' := ⟨h.rd.more hb, h.rd'.more hb, h.n, h.n', h.A, h.A'⟩
theorem StH.In.ext (h : s.In w w.heap.size) (hb : Below w.heap.size w w') : s.In w' w'.heap.size := (h.below hb).more hb.size
theorem StH.In.grown (h : s.In w B) (hg : w.grownBy w' (some bt)) (ho : s.Off bt) (hB : B ≤ w.heap.size) : s.In w' B := ⟨h.rd.grown hg ho.1 hB, h.rd'.grown hg ho.2 hB, h.n, h.n', h.A, h.A'⟩
theorem StsIn.len (h : StsIn w B A n L) : L.length = n := by
  have := h.1.1
  rw [sts_len] at this
  omega
theorem StsIn.below (h : StsIn w B A n L) (hb : Below B w w') : StsIn w' B A n L := ⟨h.1.below hb, fun x hx => (h.2 x hx).below hb⟩
theorem StsIn.more (h : StsIn w B A n L) (hb : B ≤ B') : StsIn w B' A n L := ⟨h.1.more hb, fun x hx => (h.2 x hx).more hb⟩
theorem StsIn.ext (h : StsIn w w.heap.size A n L) (hb : Below w.heap.size w w') : StsIn w' w'.heap.size A n L := (h.below hb).more hb.size
theorem StsIn.at_ {k : Nat} (h : StsIn w B A n L) (hx : L[k]? = some s) : s.In w B ∧ ∃ b o, A = some ⟨b, o, none⟩ ∧ b < B ∧ ∀ i, i < 10 → w.cell? ⟨b, o + k * 10 + i, none⟩ = s.cells[i]? :=
  ⟨h.2 s (List.mem_of_getElem? hx), h.1.el StH.cells (fun _ => rfl) h.len hx⟩
theorem StsIn.nil_ (w : World) (B : Nat) (A : Option Addr) : StsIn w B A 0 [] := ⟨Rd.nil_ _ _ _ _, fun _ h => by cases h⟩
end
/-- a group as it lies -/
structure GrH where
  A : Option Addr
  n : Nat
  c : Nat
  L : List StH
  pin : Pn
  back : Pn
  lost : Int
deriving Inhabited
def GrH.cells (g : GrH) : List Value := [.slice g.A g.n g.c, .int .i64 g.pin.k, .int .i64 g.pin.a, .int .i64 g.pin.b, .int .i64 g.back.k, .int .i64 g.back.a, .int .i64 g.back.b, .int .i64 g.lost]
def GrH.val (g : GrH) : GrC := ⟨g.L.map StH.x, g.pin, g.back, g.lost⟩
structure GrH.In (w : World) (B : Nat) (g : GrH) : Prop where
  sts : StsIn w B g.A g.n g.L
  n : g.n ≤ 1000000
  A : g.A = none → g.n = 0
def grs (L : List GrH) : List Value := L.flatMap GrH.cells
theorem grs_len (L : List GrH) : (grs L).length = L.length * 8 := by
  induction L with
  | nil => rfl
  | cons r l ih => simp only [grs, List.flatMap_cons, List.length_append] at *; rw [ih]; simp [GrH.cells]; omega
theorem grs_append (a b : List GrH) : grs (a ++ b) = grs a ++ grs b := by simp [grs]
theorem grs_one (l : List GrH) : ∀ u ∈ grs l, u.oneCell' = true := by
  intro u hu
  obtain ⟨r, _, hr⟩ := List.mem_flatMap.1 hu
  simp only [GrH.cells, List.mem_cons, List.not_mem_nil, or_false] at hr
  rcases hr with rfl | rfl | rfl | rfl | rfl | rfl | rfl | rfl <;> rfl
def GrsIn (w : World) (B : Nat) (A : Option Addr) (n : Nat) (L : List GrH) : Prop := Rd w B 8 A n (grs L) ∧ ∀ g ∈ L, g.In w B
section
variable {w w' : World} {B B' n bt : Nat} {A : Option Addr} {L : List GrH} {g : GrH}
theorem GrH.In.below (h : g.In w B) (hb : Below B w w') : g.In w' B := ⟨h.sts.below hb, h.n, h.A⟩
theorem GrH.In.more (h : g.In w B) (hb : B ≤ B') : g.In w B' := ⟨h.sts.more hb, h.n, h.A⟩
theorem GrH.In.ext (h : g.In w w.heap.size) (hb : Below w.heap.size w w') : g.In w' w'.heap.size := (h.below hb).more hb.size
theorem GrsIn.len (h : GrsIn w B A n L) : L.length = n := by
  have := h.1.1
  rw [grs_len] at this
  omega
theorem GrsIn.below (h : GrsIn w B A n L) (hb : Below B w w') : GrsIn w' B A n L := ⟨h.1.below hb, fun x hx => (h.2 x hx).below hb⟩
theorem GrsIn.more (h : GrsIn w B A n L) (hb : B ≤ B') : GrsIn w B' A n L := ⟨h.1.more hb, fun x hx => (h.2 x hx).more hb⟩
theorem GrsIn.ext (h : GrsIn w w.heap.size A n L) (hb : Below w.heap.size w w') : GrsIn w' w'.heap.size A n L := (h.below hb).more hb.size
theorem GrsIn.at_ {k : Nat} (h : GrsIn w B A n L) (hx : L[k]? = some g) : g.In w B ∧ ∃ b o, A = some ⟨b, o, none⟩ ∧ b < B ∧ ∀ i, i < 8 → w.cell? ⟨b, o + k * 8 + i, none⟩ = g.cells[i]? :=
  ⟨h.2 g (List.mem_of_getElem? hx), h.1.el GrH.cells (fun _ => rfl) h.len hx⟩
end
/-- a map as it lies -/
structure MapAt (w : World) (B : Nat) (A : Option Addr) (n : Nat) (l : List Rg) : Prop where
  rd : Rd w B 3 A n (rgs l)
  n : n ≤ 1000
section
variable {w w' : World} {B B' n bt : Nat} {A : Option Addr} {l : List Rg}
theorem MapAt.below (h : MapAt w B A n l) (hb : Below B w w') : MapAt w' B A n l := ⟨h.rd.below hb, h.n⟩
theorem MapAt.more (h : MapAt w B A n l) (hb : B ≤ B') : MapAt w B' A n l := ⟨h.rd.more hb, h.n⟩
theorem MapAt.grown (h : MapAt w B A n l) (hg : w.grownBy w' (some bt)) (hA : n = 0 ∨ Off bt A) (hB : B ≤ w.heap.size) : MapAt w' B A n l := ⟨h.rd.grown hg hA hB, h.n⟩
end
/-- links as they lie; none of it in block bt -/
def LinkAt (w : World) (B bt : Nat) : Nat → List Rg → List Lk → Prop
  | b, m, [] => b < B ∧ ∃ A n c v, Bk w b 291 #[v, .slice A n c, .bool false, .pointer none] ∧ MapAt w B A n m ∧ (n = 0 ∨ Off bt A)
  | b, m, k :: ks => b < B ∧ ∃ A n c A' n' c' b', Bk w b 291 #[.slice A n c, .slice A' n' c', .bool k.kept, .pointer (some ⟨b', 0, none⟩)] ∧ MapAt w B A n k.back ∧ MapAt w B A' n' k.over ∧ (n = 0 ∨ Off bt A) ∧ (n' = 0 ∨ Off bt A') ∧ LinkAt w B bt b' m ks
section
variable {w w' : World} {B B' bt : Nat} {m : List Rg}
theorem LinkAt.lt {b : Nat} {ks : List Lk} (h : LinkAt w B bt b m ks) : b < B := by
  cases ks <;> exact h.1
theorem LinkAt.below {b : Nat} {ks : List Lk} (h : LinkAt w B bt b m ks) (hb : Below B w w') : LinkAt w' B bt b m ks := by
  induction ks generalizing b with
  | nil =>
    obtain ⟨h1, A, n, c, v, h2, h3, h4⟩ := h
    exact ⟨h1, A, n, c, v, (hb.block b h1).trans h2, h3.below hb, h4⟩
  | cons k ks ih =>
    obtain ⟨h1, A, n, c, A', n', c', b', h2, h3, h4, h5, h6, h7⟩ := h
    exact ⟨h1, A, n, c, A', n', c', b', (hb.block b h1).trans h2, h3.below hb, h4.below hb, h5, h6, ih h7⟩
theorem LinkAt.more {b : Nat} {ks : List Lk} (h : LinkAt w B bt b m ks) (hb : B ≤ B') : LinkAt w B' bt b m ks := by
  induction ks generalizing b with
  | nil =>
    obtain ⟨h1, A, n, c, v, h2, h3, h4⟩ := h
    exact ⟨by omega, A, n, c, v, h2, h3.more hb, h4⟩
  | cons k ks ih =>
    obtain ⟨h1, A, n, c, A', n', c', b', h2, h3, h4, h5, h6, h7⟩ := h
    exact ⟨by omega, A, n, c, A', n', c', b', h2, h3.more hb, h4.more hb, h5, h6, ih h7⟩
theorem LinkAt.ext {b : Nat} {ks : List Lk} (h : LinkAt w w.heap.size bt b m ks) (hb : Below w.heap.size w w') : LinkAt w' w'.heap.size bt b m ks := (h.below hb).more hb.size
theorem LinkAt.grown {b : Nat} {ks : List Lk} (h : LinkAt w B bt b m ks) (hg : w.grownBy w' (some bt)) {t : TypeId} {cs : Array Value} (hk : Bk w bt t cs) (ht : t ≠ 291) (hB : B ≤ w.heap.size) : LinkAt w' B bt b m ks := by
  have hne : ∀ {x : Nat} {cs' : Array Value}, Bk w x 291 cs' → some bt ≠ some x := by
    intro x cs' hx e
    injection e with e
    subst e
    have hx' : w.heap[bt]? = some (.cells cs' 291 (0, 0)) := hx
    have hk' : w.heap[bt]? = some (.cells cs t (0, 0)) := hk
    rw [hk'] at hx'
    injection hx' with hx'
    injection hx' with _ e2
    exact ht e2
  induction ks generalizing b with
  | nil =>
    obtain ⟨h1, A, n, c, v, h2, h3, h4⟩ := h
    exact ⟨h1, A, n, c, v, h2.grown hg (hne h2), h3.grown hg h4 hB, h4⟩
  | cons k ks ih =>
    obtain ⟨h1, A, n, c, A', n', c', b', h2, h3, h4, h5, h6, h7⟩ := h
    exact ⟨h1, A, n, c, A', n', c', b', h2.grown hg (hne h2), h3.grown hg h5 hB, h4.grown hg h6 hB, h5, h6, ih h7⟩
end
theorem tell_any (A : Option Addr) (n c : Nat) (l : List Rg) (p side : Int) (w : World) (hn : n ≤ maxLen) (h : n ≤ 1000 → Rd w w.heap.size 3 A n (rgs l)) (hl : l.length = n) :
    Calls Tryz.prog 211 #[.slice A n c, .int .i64 p, .int .i64 side] w (TellSays (tellS l p side) w) := by
  unfold tellS
  cases hr : rightM l with
  | false => exact tell_bad A n c l p side w hn h hl hr
  | true =>
    by_cases hp : 0 ≤ p ∧ p ≤ 1099511627776
    · rw [if_pos rfl, if_pos hp]
      exact tell_go A n c l p side w (h (by have := right_len hr; omega)) hr hp.1 hp.2
    · rw [if_pos rfl, if_neg hp]
      exact tell_out A n c l p side w hn h hl hr (by omega)
theorem tell_agg (A : Option Addr) (n c : Nat) (l : List Rg) (p side : Int) (w : World) (hn : n ≤ maxLen) (h : n ≤ 1000 → Rd w w.heap.size 3 A n (rgs l)) (hl : l.length = n) :
    Calls Tryz.prog 211 #[.slice A n c, .int .i64 p, .int .i64 side] w fun e w' => ∃ q : Pl, ∃ er : Int, Hid (tellS l p side = (q, er)) ∧ e = .returned (.tuple #[.agg #[.int .i64 q.pos, .bool q.gone, .bool q.inside, .int .i64 q.range, .int .i64 q.off], .int .i64 er]) ∧ Below w.heap.size w w' :=
  (tell_any A n c l p side w hn h hl).mono fun _ _ ⟨he, hb⟩ => ⟨_, _, rfl, he, hb⟩
set_option maxRecDepth 100000 in
set_option maxHeartbeats 2000000 in
theorem ltell_nil (bt b : Nat) (m : List Rg) (p s : Int) (w : World) (h : LinkAt w w.heap.size bt b m []) :
    Calls Tryz.prog 178 #[.pointer (some ⟨b, 0, none⟩), .int .i64 p, .int .i64 s] w (TellSays (tellL m [] p s) w) := by
  obtain ⟨hlt, A, n, c, v, hk, hm, _⟩ := h
  have ht := fun W (hb : Below w.heap.size w W) => tell_agg A n c m p s W (by have := hm.n; unfold maxLen; omega) (fun _ => (hm.rd.below hb).more hb.size) hm.rd.rlen
  have HT := Lib.hid ht
  have HLT := def_lt' hk
  have c1 := hk.cell 1; have c3 := hk.cell 3
  dsimp at c1 c3
  clear ht hm hk
  go_enter Tryz.func178, Tryz.ntmps178
  go_wp2_with (go_at_call 211; (refine (HT.out _ belowA).mono ?_); rintro e w1 ⟨q, er, hq, rfl, hb1⟩; have kb := (Bk.new w 327 #[.int .i64 0, .bool false, .bool false, .int .i64 0, .int .i64 0]).ext hb1; have lb := def_lt' kb; have fb := kb.frozen; have d0 := kb.cell 0; have d1 := kb.cell 1; have d2 := kb.cell 2; have d3 := kb.cell 3; have d4 := kb.cell 4; dsimp at d0 d1 d2 d3 d4)
  have e : tellL m [] p s = (⟨q.pos, q.gone, q.inside, 0, 0⟩, er) := by simp only [tellL, hq.out]
  rw [e]
  have y : Bk ((((((w1.setCell ⟨w.heap.size, 0, none⟩ (.int .i64 q.pos)).setCell ⟨w.heap.size, 1, none⟩ (.bool q.gone)).setCell ⟨w.heap.size, 2, none⟩ (.bool q.inside)).setCell ⟨w.heap.size, 3, none⟩ (.int .i64 0)).setCell ⟨w.heap.size, 4, none⟩ (.int .i64 0)).alloc (.cells #[.int .i64 q.pos, .bool q.gone, .bool q.inside, .int .i64 0, .int .i64 0] 327)) w.heap.size 327 #[.int .i64 q.pos, .bool q.gone, .bool q.inside, .int .i64 0, .int .i64 0] := (((((kb.set_ 0 _).set_ 1 _).set_ 2 _).set_ 3 _).set_ 4 _).alloc _
  have hbe : Below w.heap.size w w1 := Below.trans belowA (hb1.mono (by simp))
  have q0 := y.cell 0; have q1 := y.cell 1; have q2 := y.cell 2; have q3 := y.cell 3; have q4 := y.cell 4
  dsimp at q0 q1 q2 q3 q4
  refine bodyPost_ret (v := .tuple #[.agg #[.int .i64 q.pos, .bool q.gone, .bool q.inside, .int .i64 0, .int .i64 0], .int .i64 er]) (by simp [results, Tryz.results178, go_sem, q0, q1, q2, q3, q4]) rfl ⟨rfl, ?_⟩
  have hz := hbe.size
  exact belowA
end Go.Proofs.YtmacfoebfpljoaaGreat
