/- smap: Tell, Position -/
import Derived.Test.YtmacfoebfpljoaaD
namespace Go.Proofs.Ytmacfoebfpljoaa
open Go.RowKit
attribute [local go_sem] Oper.semAt_some

def tellFrom (p side : Int) : Nat → Int → List Rg → Pl
  | _, s, [] => ⟨p + s, false, false, 0, 0⟩
  | i, s, r :: t => if r.at_ + r.old < p then tellFrom p side (i + 1) (s + (r.new - r.old)) t else if r.at_ ≤ p then withinS r i s p side else ⟨p + s, false, false, 0, 0⟩
def tellM (l : List Rg) (p side : Int) : Pl := tellFrom p side 0 0 l

def tellS (l : List Rg) (p side : Int) : Pl × Int := if rightM l then (if 0 ≤ p ∧ p ≤ 1099511627776 then (tellM l p side, 0) else (Pl.zero, 3)) else (Pl.zero, 1)
def TellSays (q : Pl × Int) (w : World) (e : Ending) (w' : World) : Prop := e = .returned (.tuple #[q.1.val, .int .i64 q.2]) ∧ Below w.heap.size w w'

theorem bcell {W w1 : World} (hb : Below W.heap.size W w1) : (∀ b o, b < W.heap.size → w1.cell? ⟨b, o, none⟩ = W.cell? ⟨b, o, none⟩) ∧ (∀ b o, b < W.heap.size → w1.frozen? ⟨b, o, none⟩ = W.frozen? ⟨b, o, none⟩) :=
  ⟨fun b o h => hb.cell (p := ⟨b, o, none⟩) h, fun b o h => hb.frozen (p := ⟨b, o, none⟩) h⟩

section five
variable (w : World)
theorem five_0 {t : TypeId} {cs : Array Value} (t1 t2 t3 t4 : Obj) : Bk (((((w.alloc (.cells cs t)).alloc t1).alloc t2).alloc t3).alloc t4) w.heap.size t cs := ((((Bk.new w t cs).alloc _).alloc _).alloc _).alloc _
theorem five_1 {t : TypeId} {cs : Array Value} (t0 t2 t3 t4 : Obj) : Bk (((((w.alloc t0).alloc (.cells cs t)).alloc t2).alloc t3).alloc t4) (w.heap.size + 1) t cs := by
  have := (((Bk.new (w.alloc t0) t cs).alloc t2).alloc t3).alloc t4
  rwa [World.size_alloc] at this
theorem five_2 {t : TypeId} {cs : Array Value} (t0 t1 t3 t4 : Obj) : Bk (((((w.alloc t0).alloc t1).alloc (.cells cs t)).alloc t3).alloc t4) (w.heap.size + 2) t cs := by
  have := ((Bk.new ((w.alloc t0).alloc t1) t cs).alloc t3).alloc t4
  rwa [World.size_alloc, World.size_alloc] at this
theorem five_3 {t : TypeId} {cs : Array Value} (t0 t1 t2 t4 : Obj) : Bk (((((w.alloc t0).alloc t1).alloc t2).alloc (.cells cs t)).alloc t4) (w.heap.size + 3) t cs := by
  have := (Bk.new (((w.alloc t0).alloc t1).alloc t2) t cs).alloc t4
  rwa [World.size_alloc, World.size_alloc, World.size_alloc] at this
theorem five_4 {t : TypeId} {cs : Array Value} (t0 t1 t2 t3 : Obj) : Bk (((((w.alloc t0).alloc t1).alloc t2).alloc t3).alloc (.cells cs t)) (w.heap.size + 4) t cs := by
  have := Bk.new ((((w.alloc t0).alloc t1).alloc t2).alloc t3) t cs
  rwa [World.size_alloc, World.size_alloc, World.size_alloc, World.size_alloc] at this
end five

set_option maxHeartbeats 1000000 in
theorem tell_bad (A : Option Addr) (n c : Nat) (l : List Rg) (p side : Int) (w : World) (hn : n ≤ maxLen) (h : n ≤ 1000 → Rd w w.heap.size 3 A n (rgs l)) (hl : l.length = n) (hr : rightM l = false) :
    Calls Try.prog 35 #[.slice A n c, .int .i64 p, .int .i64 side] w (TellSays (Pl.zero, 1) w) := by
  have hri := fun W (hb : Below w.heap.size w W) => right_any A n c l W hn (fun hh => ((h hh).below hb).more hb.size) hl
  rw [hr] at hri
  have HRI := Lib.hid hri
  clear hri hr h hl
  go_enter Try.func35, Try.ntmps35
  go_wp2_with (go_at_call 20; refine (HRI.out _ (by repeat (first | exact Below.refl _ _ | refine Below.alloc ?_ (by simp; try omega) _))).mono ?_; rintro e w1 ⟨rfl, hb1⟩; obtain ⟨hcc, hff⟩ := bcell hb1; have hz : w.heap.size + 5 ≤ w1.heap.size := by have := hb1.size; simp at this; omega)
  have hb2 : Below w.heap.size w w1 := Below.trans (by repeat (first | exact Below.refl _ _ | refine Below.alloc ?_ (by simp; try omega) _)) (hb1.mono (by simp; try omega))
  refine bodyPost_ret (v := .tuple #[Pl.zero.val, .int .i64 1]) (by simp [results, Try.results35, go_sem, hcc, Pl.val, Pl.zero]) rfl ⟨rfl, ?_⟩
  repeat (first | (refine Below.setCell ?_ (by simp; try omega) _) | with_reducible exact hb2)

set_option maxHeartbeats 1000000 in
theorem tell_out (A : Option Addr) (n c : Nat) (l : List Rg) (p side : Int) (w : World) (hn : n ≤ maxLen) (h : n ≤ 1000 → Rd w w.heap.size 3 A n (rgs l)) (hl : l.length = n) (hr : rightM l = true) (hp : p < 0 ∨ 1099511627776 < p) :
    Calls Try.prog 35 #[.slice A n c, .int .i64 p, .int .i64 side] w (TellSays (Pl.zero, 3) w) := by
  have hri := fun W (hb : Below w.heap.size w W) => right_any A n c l W hn (fun hh => ((h hh).below hb).more hb.size) hl
  rw [hr] at hri
  have HRI := Lib.hid hri
  clear hri hr h hl
  rcases hp with hp | hp
  all_goals
    go_enter Try.func35, Try.ntmps35
    go_wp2_with (go_at_call 20; refine (HRI.out _ (by repeat (first | exact Below.refl _ _ | refine Below.alloc ?_ (by simp; try omega) _))).mono ?_; rintro e w1 ⟨rfl, hb1⟩; obtain ⟨hcc, hff⟩ := bcell hb1; have hz : w.heap.size + 5 ≤ w1.heap.size := by have := hb1.size; simp at this; omega)
    have hb2 : Below w.heap.size w w1 := Below.trans (by repeat (first | exact Below.refl _ _ | refine Below.alloc ?_ (by simp; try omega) _)) (hb1.mono (by simp; try omega))
  all_goals
    refine bodyPost_ret (v := .tuple #[Pl.zero.val, .int .i64 3]) (by simp [results, Try.results35, go_sem, hcc, Pl.val, Pl.zero]) rfl ⟨rfl, ?_⟩
    repeat (first | (refine Below.setCell ?_ (by simp; try omega) _) | with_reducible exact hb2)

theorem Bk.put {W : World} {b : Nat} {t : TypeId} {cs : Array Value} (h : Bk W b t cs) {D : Nat} (hD : b ≠ D) (o : Obj) : Bk (W.putObj D o) b t cs := (World.putObj_heap_other hD).trans h

/-- a code that ends as it should: whatever else its end is asked for is not asked (the region's walk wants an end that a register doesn't turn) -/
theorem wp_normal {P : Program} {c : Code} {Q : Exit → Act → World → Prop} {a : Act} {w : World} (h : c.wp P (Exit.then (Q .normal) (fun _ _ _ => False)) a w) : c.wp P Q a w :=
  wpIn_wide (n := 0) |>.1 (wpIn_mono (wpIn_wide.2 h) (fun e _ _ h => by cases e <;> first | exact h | exact h.elim))

theorem dfar {W : World} {D : Nat} {o : Obj} (h : W.heap[D]? = some o) {p : Addr} (hp : D ≠ p.block) (u : Value) : (W.setCell p u).heap[D]? = some o := (Below.heap_setCell W p u D hp).trans h

theorem tellFrom_step {p side : Int} {i : Nat} {s : Int} {r : Rg} {t : List Rg} (h : r.at_ + r.old < p) : tellFrom p side i s (r :: t) = tellFrom p side (i + 1) (s + (r.new - r.old)) t := by
  rw [tellFrom, if_pos h]
theorem tellFrom_in {p side : Int} {i : Nat} {s : Int} {r : Rg} {t : List Rg} (h : ¬ r.at_ + r.old < p) (h2 : r.at_ ≤ p) : tellFrom p side i s (r :: t) = withinS r i s p side := by
  rw [tellFrom, if_neg h, if_pos h2]
theorem tellFrom_out {p side : Int} {i : Nat} {s : Int} {r : Rg} {t : List Rg} (h : ¬ r.at_ + r.old < p) (h2 : ¬ r.at_ ≤ p) : tellFrom p side i s (r :: t) = ⟨p + s, false, false, 0, 0⟩ := by
  rw [tellFrom, if_neg h, if_neg h2]

theorem within_agg (r : Rg) (i shift p side : Int) (w : World) (hf : r.Fits) (h1 : r.at_ ≤ p) (h2 : p ≤ r.at_ + r.old) (hs : -2000000000000 ≤ shift ∧ shift ≤ 2000000000000) :
    Calls Try.prog 47 #[.agg #[.int .i64 r.at_, .int .i64 r.old, .int .i64 r.new], .int .i64 i, .int .i64 shift, .int .i64 p, .int .i64 side] w fun e w' =>
      ∃ q : Pl, Hid (q = withinS r i shift p side) ∧ e = .returned (.agg #[.int .i64 q.pos, .bool q.gone, .bool q.inside, .int .i64 q.range, .int .i64 q.off]) ∧ Below w.heap.size w w' :=
  (within_any r i shift p side w hf h1 h2 hs).mono fun _ _ ⟨he, hb⟩ => ⟨_, rfl, he, hb⟩

theorem upto_next {l : List Rg} {k n : Nat} {x : Nat × Int} (h : upto l k ++ [x] <+: upto l n) : k < n ∧ x = told l k := by
  have hlen := h.length_le
  simp [upto_length] at hlen
  refine ⟨by omega, ?_⟩
  obtain ⟨t, ht⟩ := h
  have := congrArg (fun q => q[k]?) ht
  rw [List.append_assoc, List.getElem?_append_right (by rw [upto_length]; omega), upto_length] at this
  have h2 : (upto l n)[k]? = some (told l k) := by rw [upto, List.getElem?_map, List.getElem?_range (by omega)]; rfl
  rw [h2] at this
  simpa using this

/-- what Tell's boxes hold between two rounds -/
def TellI (l : List Rg) (p side : Int) (A : Option Addr) (n c : Nat) (w : World) (pre : List (Nat × Int)) (W : World) : Prop :=
  (∃ k, k ≤ n ∧ pre = upto l k ∧ tellFrom p side k (shiftL (l.take k)) (l.drop k) = tellM l p side) ∧ Below w.heap.size w W ∧
  Bk W w.heap.size 23 #[.slice A n c] ∧ Bk W (w.heap.size + 1) 3 #[.int .i64 p] ∧ Bk W (w.heap.size + 1 + 1) 3 #[.int .i64 side] ∧
  Bk W (w.heap.size + 1 + 1 + 1) 79 #[.int .i64 0, .bool false, .bool false, .int .i64 0, .int .i64 0] ∧ Bk W (w.heap.size + 1 + 1 + 1 + 1) 50 #[.int .i64 0]
def TellX (l : List Rg) (p side : Int) (w : World) (cd : Code) (_ : List (Nat × Int)) (W : World) : Prop :=
  cd = .ret ∧ Below w.heap.size w W ∧ ∃ q : Pl, q = tellM l p side ∧ Bk W (w.heap.size + 1 + 1 + 1) 79 #[.int .i64 q.pos, .bool q.gone, .bool q.inside, .int .i64 q.range, .int .i64 q.off] ∧ Bk W (w.heap.size + 1 + 1 + 1 + 1) 50 #[.int .i64 0]

set_option maxRecDepth 100000 in
set_option maxHeartbeats 2000000 in
theorem tell_go (A : Option Addr) (n c : Nat) (l : List Rg) (p side : Int) (w : World) (hrd : Rd w w.heap.size 3 A n (rgs l)) (hr : rightM l = true) (hp0 : 0 ≤ p) (hp1 : p ≤ 1099511627776) :
    Calls Try.prog 35 #[.slice A n c, .int .i64 p, .int .i64 side] w (TellSays (tellM l p side, 0) w) := by
  have hl := hrd.rlen
  have hn2 : n ≤ 1000 := by have := right_len hr; omega
  have hri := fun W (hb : Below w.heap.size w W) => right_any A n c l W (by unfold maxLen; omega) (fun hh => (hrd.below hb).more hb.size) hl
  have hsh := fun W (hb : Below w.heap.size w W) => shift_any A n c l W (by unfold maxLen; omega) (fun hh => (hrd.below hb).more hb.size) hl
  rw [hr] at hri
  have hsm : shiftM l = shiftL l := by unfold shiftM; rw [if_pos hr]
  rw [hsm] at hsh
  have HRI := Lib.hid hri
  have HSH := Lib.hid hsh
  have HR := Lib.hid hr
  have HL := Lib.hid hl
  have HRD := Lib.hid hrd
  clear hri hsh hr hl hsm hrd
  refine callsIn_wide.1 (callsIn_of_wp_marks (n := 10) Try.func35 rfl trivial ?_ rfl)
  simp only [Try.ntmps35, List.size_toArray, List.length_cons, List.length_nil, Nat.reduceAdd, Nat.reduceSub, Array.replicate_succ, Array.replicate_zero, List.push_toArray, List.append_toArray, List.nil_append, List.cons_append]
  gi_wp2_with (first
    | (refine ⟨trivial, ?_⟩; gi_at_call 20; refine (callsIn_wide.2 (HRI.out _ (by repeat (first | exact Below.refl _ _ | refine Below.alloc ?_ (by simp; try omega) _)))).mono ?_; rintro e w1 ⟨rfl, hb1⟩; have hb2 : Below w.heap.size w w1 := Below.trans (by repeat (first | exact Below.refl _ _ | refine Below.alloc ?_ (by simp; try omega) _)) (hb1.mono (by simp; try omega)); have k3 := Bk.ext (five_0 w _ _ _ _) hb1; have k4 := Bk.ext (five_1 w _ _ _ _) hb1; have k5 := Bk.ext (five_2 w _ _ _ _) hb1; have k6 := Bk.ext (five_3 w _ _ _ _) hb1; have k7 := Bk.ext (five_4 w _ _ _ _) hb1; have hz : w.heap.size + 5 ≤ w1.heap.size := (by have := hb1.size; simp at this; omega); clear hb1; have c3 := k3.cell 0; have c4 := k4.cell 0; dsimp at c3 c4)
    | (refine ⟨trivial, ?_⟩; gi_at_call 46; refine (callsIn_wide.2 (ranges_any _ _ _ _)).mono ?_; rintro e w2 ⟨rfl, rfl⟩))
  have hgv := ranges_gives w1.heap.size w.heap.size n A c l (w1.alloc (.cells #[.slice A n c] 23)) HR.out (by simp; omega) (by simp) (by have := (Bk.new w1 23 #[.slice A n c]).cell 0; exact this) (HRD.out.below (hb2.alloc hb2.size _))
  refine range_mine (gf := 54) (lb := #[.pointer (some ⟨w1.heap.size, 0, none⟩)]) rfl (enters_of Try.func54 (by kernel_rfl) rfl) hgv (Below.refl _ _) (by simp; omega) (fun _ => rfl) (TellI l p side A n c w) (TellX l p side w) ?hI ?hIx ?h0 ?hround ?hdone ?hstop
  case hI =>
    rintro s A' B row ⟨hk, g1, g2, g3, g4, g5, g6⟩ hg hr
    exact ⟨hk, below_kept g1 (Nat.le_refl _) (by simp; omega) hg hr, blk_kept g2 hg hr, blk_kept g3 hg hr, blk_kept g4 hg hr, blk_kept g5 hg hr, blk_kept g6 hg hr⟩
  case hIx =>
    rintro cd s A' B row ⟨hk, g1, q, hq, g5, g6⟩ hg hr
    exact ⟨hk, below_kept g1 (Nat.le_refl _) (by simp; omega) hg hr, q, hq, blk_kept g5 hg hr, blk_kept g6 hg hr⟩
  case h0 => exact ⟨⟨0, by omega, rfl, rfl⟩, hb2.alloc hb2.size _, k3.alloc _, k4.alloc _, k5.alloc _, k6.alloc _, k7.alloc _⟩
  case hround =>
    clear k3 k4 k5 k6 k7 c3 c4 hgv hb2
    rintro lp pre ⟨i, s⟩ W1 KK hkk
    have HKK := Lib.hid hkk
    clear hkk
    gi_wp2
    refine HKK.out _ ?_
    clear HKK
    rintro W0 W2 ⟨⟨k, hk, hpre, hI⟩, g1, g2, g3, g4, g5, g6⟩ hext hpx hM
    subst hpre
    obtain ⟨hkn, hx⟩ := upto_next hpx
    obtain ⟨rfl, rfl⟩ : i = k ∧ s = shiftL (l.take k) := by injection hx; exact ⟨by assumption, by assumption⟩
    clear hx hpx
    have hb2 : Below w.heap.size w W2 := g1.trans (hext.mono g1.size)
    have q2 := g2.ext hext; have q3 := g3.ext hext; have q4 := g4.ext hext; have q5 := g5.ext hext; have q6 := g6.ext hext
    have c2 := q2.cell 0; have c3 := q3.cell 0; have c4 := q4.cell 0
    have d0 := q5.cell 0; have d1 := q5.cell 1; have d2 := q5.cell 2; have d3 := q5.cell 3; have d4 := q5.cell 4; have d5 := q6.cell 0
    have f5 := q5.frozen; have f6 := q6.frozen
    dsimp at c2 c3 c4 d0 d1 d2 d3 d4 d5
    have hsz := hext.size
    have hsz2 : w.heap.size + 6 ≤ W2.heap.size := by simp at hM; omega
    have z0 : w.heap.size < W2.heap.size := by omega
    have z1 : w.heap.size + 1 < W2.heap.size := by omega
    have z2 : w.heap.size + 1 + 1 < W2.heap.size := by omega
    have z3 : w.heap.size + 1 + 1 + 1 < W2.heap.size := by omega
    have z4 : w.heap.size + 1 + 1 + 1 + 1 < W2.heap.size := by omega
    obtain ⟨b, o, rfl, hbB, _⟩ := HRD.out.2 (by omega)
    obtain ⟨r, hx⟩ : ∃ r, l[i]? = some r := ⟨_, List.getElem?_eq_getElem (by have := HL.out; omega)⟩
    obtain ⟨hc0, hc1, hc2, hb⟩ := (HRD.out.below hb2).rg hx
    have hfit := right_fits HR.out r (List.mem_of_getElem? hx)
    have hsb := shift_take_bd HR.out i
    have hsn := shiftL_snoc hx
    have hdr := drop_cons hx
    rw [hdr] at hI
    have HS := Lib.hid hsn
    have HI := Lib.hid hI
    have HF := Lib.hid hfit
    clear hx hsn hdr hI g2 g3 g4 g5 g6
    obtain ⟨f1, f2, f3, f4, f7, f8⟩ := hfit
    have hin : Fence.wide.fn 47 := trivial
    by_cases h1 : r.at_ + r.old < p
    · have HN := Lib.hid ((tellFrom_step h1).symm.trans HI.out)
      clear HI d0 d1 d2 d3 d4 d5 f5 f6
      gi_wp2
      refine ⟨(KeepsOthers.alloc _ _).from _, (Below.refl _ _).alloc (by omega) _, Mid.of_below ((Below.refl _ _).alloc (Nat.le_refl _) _), ⟨i + 1, by omega, (upto_succ _ _).symm, by rw [HS.out]; exact HN.out⟩, hb2.alloc hb2.size _, q2.alloc _, q3.alloc _, q4.alloc _, q5.alloc _, q6.alloc _⟩
    · by_cases h2 : r.at_ ≤ p
      · have HN := Lib.hid ((tellFrom_in h1 h2).symm.trans HI.out)
        have hw := within_agg r i (shiftL (l.take i)) p side (W2.alloc (.cells #[.int .i64 r.at_, .int .i64 r.old, .int .i64 r.new] 45)) HF.out h2 (by omega) (by omega)
        have HW := Lib.hid hw
        clear HI hw d0 d1 d2 d3 d4 d5 f5 f6
        gi_wp2_with (gi_at_call 47; refine (in_round lp _ HW.out).mono ?_; rintro e w3 ⟨q, hq, rfl, hb3⟩; have p5 := (q5.alloc (.cells #[.int .i64 r.at_, .int .i64 r.old, .int .i64 r.new] 45)).ext hb3; have p6 := (q6.alloc (.cells #[.int .i64 r.at_, .int .i64 r.old, .int .i64 r.new] 45)).ext hb3; have d0 := p5.cell 0; have d1 := p5.cell 1; have d2 := p5.cell 2; have d3 := p5.cell 3; have d4 := p5.cell 4; have d5 := p6.cell 0; have f5 := p5.frozen; have f6 := p6.frozen; dsimp at d0 d1 d2 d3 d4 d5)
        have hb4 : Below W2.heap.size W2 w3 := Below.trans ((Below.refl _ _).alloc (Nat.le_refl _) _) (hb3.mono (by simp))
        have m3 : Mid (w1.alloc (.cells #[.slice (some ⟨b, o, none⟩) n c] 23)).heap.size W2.heap.size W2 w3 := Mid.of_full _ hb4
        have hsq := hb4.size
        refine ⟨Mid.keeps (by repeat (first | with_reducible exact m3 | (with_reducible refine Mid.set_ ?_ ?_ _; rotate_left; simp <;> omega))) (by simp; try omega), rfl, ?_, q, hq.out.trans HN.out, ?_, ?_⟩
        · have hb5 := hb2.trans (hb4.mono (by omega))
          repeat (first | (refine Below.setCell ?_ (by simp; try omega) _) | with_reducible exact hb5)
        · exact Bk.far (((((p5.set_ 0 _).set_ 1 _).set_ 2 _).set_ 3 _).set_ 4 _) (by simp; try omega) _
        · exact (((((p6.far (by simp) _).far (by simp) _).far (by simp) _).far (by simp) _).far (by simp) _).set_ 0 _
      · have HN := Lib.hid ((tellFrom_out h1 h2).symm.trans HI.out)
        clear HI
        gi_wp2
        refine ⟨Mid.keeps ?_ (by simp; try omega), rfl, ?_, ⟨p + shiftL (l.take i), false, false, 0, 0⟩, HN.out, ?_, ?_⟩
        · repeat (first | with_reducible exact Mid.refl _ _ _ | (with_reducible refine Mid.alloc ?_ ?_ _; rotate_left; simp) | (with_reducible refine Mid.set_ ?_ ?_ _; rotate_left; simp <;> omega))
        · repeat (first | with_reducible exact hb2 | (with_reducible refine Below.alloc ?_ ?_ _; rotate_left; simp <;> omega) | (with_reducible refine Below.setCell ?_ ?_ _; rotate_left; simp <;> omega))
        · exact (Bk.far (((((q5.set_ 0 _).set_ 1 _).set_ 2 _).set_ 3 _).set_ 4 _) (by simp; try omega) _).alloc _
        · exact ((((((q6.far (by simp) _).far (by simp) _).far (by simp) _).far (by simp) _).far (by simp) _).set_ 0 _).alloc _
  case hdone =>
    rintro D W hD ⟨⟨k, hk, hpre, hI⟩, g1, g2, g3, g4, g5, g6⟩ hK
    have hnk : n = k := by have := congrArg List.length hpre; simpa [upto_length] using this
    subst hnk
    have e0 : tellM l p side = ⟨p + shiftL l, false, false, 0, 0⟩ := by
      rw [← hI, List.take_of_length_le (by rw [HL.out]; omega), List.drop_of_length_le (by rw [HL.out]; omega)]; rfl
    have HN := Lib.hid e0
    clear hI hpre e0 k3 k4 k5 k6 k7 c3 c4 hgv hb2
    have c2 := g2.cell 0; have c3 := g3.cell 0; have c4 := g4.cell 0
    have d0 := g5.cell 0; have d1 := g5.cell 1; have d2 := g5.cell 2; have d3 := g5.cell 3; have d4 := g5.cell 4; have d5 := g6.cell 0
    have f5 := g5.frozen; have f6 := g6.frozen
    dsimp at c2 c3 c4 d0 d1 d2 d3 d4 d5
    have HD := Lib.hid hK
    have hD' := def_lt' hK
    clear hK
    gi_wp2
    refine wpIn_wide.2 (wp_normal ?_)
    have hsb := shift_take_bd HR.out n
    rw [List.take_of_length_le (by rw [HL.out]; omega)] at hsb
    have hw : IntKind.i64.wrap (p + shiftL l) = p + shiftL l := IntWalk.i64_in _ (by omega)
    clear HRI HR HL HRD g2 g4 c4
    go_region_law (go_simp; go_at_call 48; refine (HSH.out _ g1.drew).mono ?_; rintro e w2 ⟨rfl, hb3⟩; have p3 := g3.drew.ext hb3; have p5 := g5.drew.ext hb3; have p6 := g6.drew.ext hb3; have c4 := p3.cell 0; have d0 := p5.cell 0; have d1 := p5.cell 1; have d2 := p5.cell 2; have d3 := p5.cell 3; have d4 := p5.cell 4; have d5 := p6.cell 0; have f5 := p5.frozen; have f6 := p6.frozen; dsimp at c4 d0 d1 d2 d3 d4 d5)
    all_goals
      gi_wp2
      have hDD : w.heap.size + 6 ≤ D := by simp at hD; omega
      have HD2 := dfar (dfar (dfar (dfar (dfar (dfar ((hb3.block D hD').trans HD.out) (p := ⟨w.heap.size + 1 + 1 + 1, 0, none⟩) (by simp; omega) (.int .i64 (p + shiftL l))) (p := ⟨w.heap.size + 1 + 1 + 1, 1, none⟩) (by simp; omega) (.bool false)) (p := ⟨w.heap.size + 1 + 1 + 1, 2, none⟩) (by simp; omega) (.bool false)) (p := ⟨w.heap.size + 1 + 1 + 1, 3, none⟩) (by simp; omega) (.int .i64 0)) (p := ⟨w.heap.size + 1 + 1 + 1, 4, none⟩) (by simp; omega) (.int .i64 0)) (p := ⟨w.heap.size + 1 + 1 + 1 + 1, 0, none⟩) (by simp; omega) (.int .i64 0)
      have r5 : Bk _ (w.heap.size + 1 + 1 + 1) 79 #[.int .i64 (p + shiftL l), .bool false, .bool false, .int .i64 0, .int .i64 0] := Bk.put (D := D) (Bk.far (p := ⟨w.heap.size + 1 + 1 + 1 + 1, 0, none⟩) (((((p5.set_ 0 (.int .i64 (p + shiftL l))).set_ 1 (.bool false)).set_ 2 (.bool false)).set_ 3 (.int .i64 0)).set_ 4 (.int .i64 0)) (by simp) (.int .i64 0)) (by omega) (.deferred none)
      have r6 : Bk _ (w.heap.size + 1 + 1 + 1 + 1) 50 #[.int .i64 0] := Bk.put (D := D) ((((((p6.far (p := ⟨w.heap.size + 1 + 1 + 1, 0, none⟩) (by simp) (.int .i64 (p + shiftL l))).far (p := ⟨w.heap.size + 1 + 1 + 1, 1, none⟩) (by simp) (.bool false)).far (p := ⟨w.heap.size + 1 + 1 + 1, 2, none⟩) (by simp) (.bool false)).far (p := ⟨w.heap.size + 1 + 1 + 1, 3, none⟩) (by simp) (.int .i64 0)).far (p := ⟨w.heap.size + 1 + 1 + 1, 4, none⟩) (by simp) (.int .i64 0)).set_ 0 (.int .i64 0)) (by omega) (.deferred none)
      have d0 := r5.cell 0; have d1 := r5.cell 1; have d2 := r5.cell 2; have d3 := r5.cell 3; have d4 := r5.cell 4; have d5 := r6.cell 0
      dsimp at d0 d1 d2 d3 d4 d5
      refine ⟨by simp, .inl ⟨_, _, rfl, run_takeDeferred HD2, .tuple #[(tellM l p side).val, .int .i64 0], ?_, rfl, ?_⟩⟩
      · rw [HN.out]
        simp [results, Try.results35, go_sem, Pl.val, d0, d1, d2, d3, d4, d5]
      · refine Below.trans ?_ (below_putObj (by omega))
        have hb4 : Below w.heap.size w w2 := g1.trans (Below.trans (Below.refl _ _).drew (hb3.mono g1.size))
        repeat (first | with_reducible exact hb4 | (with_reducible refine Below.setCell ?_ ?_ _; rotate_left; simp <;> omega))
  case hstop =>
    rintro D cd pre W hD hpre ⟨rfl, g1, q, hq, g5, g6⟩ hK
    have HD := Lib.hid hK
    have hD' := def_lt' hK
    clear hK
    have d0 := g5.cell 0; have d1 := g5.cell 1; have d2 := g5.cell 2; have d3 := g5.cell 3; have d4 := g5.cell 4; have d5 := g6.cell 0
    have f5 := g5.frozen; have f6 := g6.frozen
    dsimp at d0 d1 d2 d3 d4 d5
    gi_wp2
    refine ⟨by simp, .inl ⟨_, _, rfl, run_takeDeferred HD.out, ?_⟩⟩
    refine ⟨.tuple #[(tellM l p side).val, .int .i64 0], ?_, rfl, ?_⟩
    · rw [← hq]
      have p5 := Bk.put g5 (D := D) (by simp at hD; omega) (.deferred none)
      have p6 := Bk.put g6 (D := D) (by simp at hD; omega) (.deferred none)
      have d0 := p5.cell 0; have d1 := p5.cell 1; have d2 := p5.cell 2; have d3 := p5.cell 3; have d4 := p5.cell 4; have d5 := p6.cell 0
      dsimp at d0 d1 d2 d3 d4 d5
      simp [results, Try.results35, go_sem, Pl.val, d0, d1, d2, d3, d4, d5]
    · exact Below.trans g1 (below_putObj (by simp at hD; omega))
end Go.Proofs.Ytmacfoebfpljoaa
