/- group: the document's Over -/
import Derived.Test.YtjenokeeokghgaaGrM
namespace Go.Proofs.Ytjenokeeokghgaa
open Go.RowKit

set_option maxRecDepth 100000 in
set_option maxHeartbeats 1000000 in
theorem rposition_any (A : Option Addr) (n c : Nat) (l : List Rg) (p sd : Int) (w : World) (hrd : Rd w w.heap.size 3 A n (rgs l)) (hr : rightM l = true) :
    Calls Try.prog 35 #[.slice A n c, .int .i64 p, .int .i64 sd] w fun e w' => e = .returned (.int .i64 (tellS l p sd).1.pos) ∧ Below w.heap.size w w' := by
  have HRD := Lib.hid hrd
  have HR := Lib.hid hr
  clear hrd hr
  by_cases h0 : p < 0
  · have e : (tellS l p sd).1.pos = 0 := by unfold tellS; rw [HR.out, if_pos rfl, if_neg (by omega)]; rfl
    rw [e]
    clear e
    go_enter Try.func35, Try.ntmps35
    go_wp2
    go_ret
    exact ⟨rfl, Below.refl _ _⟩
  by_cases h1 : 1099511627776 < p
  · have e : (tellS l p sd).1.pos = 0 := by unfold tellS; rw [HR.out, if_pos rfl, if_neg (by omega)]; rfl
    rw [e]
    clear e
    go_enter Try.func35, Try.ntmps35
    go_wp2
    go_ret
    exact ⟨rfl, Below.refl _ _⟩
  have e : tellS l p sd = (tellM l p sd, 0) := by unfold tellS; rw [HR.out, if_pos rfl, if_pos (by omega)]
  rw [e]
  clear e
  have ht := rtell_any A n c l p sd w HRD.out HR.out (by omega) (by omega)
  unfold Pl.val at ht
  have HT := Lib.hid ht
  have hfd : ∀ (a b c d e : Value) w, (Instr.field 79 (.agg #[a, b, c, d, e]) 0).run Try.prog w = .ok a w := fun a b c d e w => by
    simp [Instr.field, go_sem, asAgg]
  clear ht
  go_enter Try.func35, Try.ntmps35
  go_wp2_with (go_at_call 42; refine HT.out.mono ?_; rintro e w1 ⟨rfl, hb1⟩)
  go_ret
  exact ⟨rfl, hb1⟩

set_option maxRecDepth 100000 in
set_option maxHeartbeats 4000000 in
theorem rover_no (o : Bool) (ct : Int) (B : Option Addr) (cl : Nat) (L : List Sp) (A : Option Addr) (n c : Nat) (l : List Rg) (w : World) (hrs : Rd w w.heap.size 2 B L.length (sps L)) (hl : L.length ≤ 1000) (hn : n ≤ maxLen) (hrg : n ≤ 1000 → Rd w w.heap.size 3 A n (rgs l)) (hln : l.length = n) (hr : rightM l = false) :
    Calls Try.prog 17 #[.agg #[.bool o, .int .i64 ct, .slice B L.length cl], .slice A n c] w (Clk w o ct (overS l L)) := by
  have hcr := fun W (hb : Below w.heap.size w W) => calls_on hb (rright_any A n c l W hn (fun h => ((hrg h).below hb).more hb.size) hln)
  rw [hr] at hcr
  rw [overS_not hr]
  have HCR := Lib.hid hcr
  have hb0 : Below w.heap.size w (((w.alloc (.cells #[.bool o, .int .i64 ct, .slice B L.length cl] 24)).alloc (.cells #[.bool false, .int .i64 0, .slice none 0 0] 24)).alloc (.cells #[.bool o, .int .i64 ct, .slice none 0 0] 24)) := by repeat (first | with_reducible exact Below.refl _ _ | with_reducible assumption | (with_reducible refine below_drewN ?_ _) | (with_reducible refine Below.drew ?_) | (with_reducible refine Below.alloc ?_ ?_ _; rotate_left; focus (first | with_reducible assumption | omega | (simp; done) | (simp; omega))) | (with_reducible refine Below.setCell ?_ ?_ _; rotate_left; focus (first | with_reducible assumption | omega | (simp; done) | (simp; omega))))
  have k0 : Bk (((w.alloc (.cells #[.bool o, .int .i64 ct, .slice B L.length cl] 24)).alloc (.cells #[.bool false, .int .i64 0, .slice none 0 0] 24)).alloc (.cells #[.bool o, .int .i64 ct, .slice none 0 0] 24)) w.heap.size 24 #[.bool o, .int .i64 ct, .slice B L.length cl] := ((Bk.new w 24 _).alloc _).alloc _
  have k1 : Bk (((w.alloc (.cells #[.bool o, .int .i64 ct, .slice B L.length cl] 24)).alloc (.cells #[.bool false, .int .i64 0, .slice none 0 0] 24)).alloc (.cells #[.bool o, .int .i64 ct, .slice none 0 0] 24)) (w.heap.size + 1) 24 #[.bool false, .int .i64 0, .slice none 0 0] := (Bk.made 24 _ (by simp)).alloc _
  have k2 : Bk (((w.alloc (.cells #[.bool o, .int .i64 ct, .slice B L.length cl] 24)).alloc (.cells #[.bool false, .int .i64 0, .slice none 0 0] 24)).alloc (.cells #[.bool o, .int .i64 ct, .slice none 0 0] 24)) (w.heap.size + 1 + 1) 24 #[.bool o, .int .i64 ct, .slice none 0 0] := Bk.made 24 _ (by simp)
  clear hcr hrg hr
  have HLN := Lib.hid hln
  clear hln hn
  go_enter Try.func17, Try.ntmps17
  go_wp2
  generalize ((w.alloc (.cells #[.bool o, .int .i64 ct, .slice B L.length cl] 24)).alloc (.cells #[.bool false, .int .i64 0, .slice none 0 0] 24)).alloc (.cells #[.bool o, .int .i64 ct, .slice none 0 0] 24) = w0 at *
  go_loopw [6] (fun j wr => ∃ q : Nat, q ≤ L.length ∧ j = .int .i64 q ∧ Below w.heap.size w wr ∧ Bk wr w.heap.size 24 #[.bool o, .int .i64 ct, .slice B L.length cl] ∧ Bk wr (w.heap.size + 1) 24 #[.bool false, .int .i64 0, .slice none 0 0] ∧ ∃ v, Bk wr (w.heap.size + 1 + 1) 24 #[.bool o, .int .i64 ct, v] ∧ wr.ownsRow w.heap.size 37 2 v q (sps (L.take q))) (fun j _ => L.length - (intOf j).toNat)
  case atStart => exact ⟨0, by omega, rfl, hb0, k0, k1, _, k2, World.ownsRow_nil _ _ _ _⟩
  case round =>
    obtain ⟨q, hq, rfl, hbr, j0, j1, v, j2, hown⟩ := hrel
    have z2 := j0.cell 2; have z0 := def_lt' j0
    dsimp at z2
    by_cases hqn : q < L.length
    · obtain ⟨s, hx⟩ : ∃ s, L[q]? = some s := ⟨_, List.getElem?_eq_getElem hqn⟩
      obtain ⟨b, oo, rfl, hb, hcc⟩ := (hrs.below hbr).el Sp.cells (fun _ => rfl) rfl hx
      have hst : L.take (q + 1) = L.take q ++ [s] := by rw [List.take_add_one, hx]; rfl
      have HS := Lib.hid hst
      obtain ⟨sa, sb⟩ := s
      have d0 := hcc 0 (by omega)
      have d1 := hcc 1 (by omega)
      dsimp [Sp.cells] at d0 d1
      have e3 : (q : Int) < L.length := by omega
      have hbz := hbr.size
      clear hst hx hcc k0 k1 k2 hb0
      go_wp2_with (first
        | (go_at_call 34; (refine (HCR.out _ (by repeat (first | with_reducible exact Below.refl _ _ | with_reducible assumption | (with_reducible refine below_drewN ?_ _) | (with_reducible refine Below.drew ?_) | (with_reducible refine Below.alloc ?_ ?_ _; rotate_left; focus (first | with_reducible assumption | omega | (simp; done) | (simp; omega))) | (with_reducible refine Below.setCell ?_ ?_ _; rotate_left; focus (first | with_reducible assumption | omega | (simp; done) | (simp; omega)))))).mono ?_); rintro e w1 ⟨rfl, hb1, hz1, hx1⟩; have i0 := j0.ext hx1; have i1 := j1.ext hx1; have i2 := j2.ext hx1; have c2 := i2.cell 2; dsimp at c2; have own1 := own_below hown hx1)
        | (at_builtin; ((refine app_one Try.underlying22 info_span rfl (by decide) w1 w.heap.size _ q _ own1 (by unfold maxLen; omega) (by omega) hz1 _ rfl (by simp [Value.oneCell']) rfl _ _ rfl rfl rfl ?_); intro g4 cap4 w4 hown4 hgr4 hat4 hlt4); have m0 := i0.grown hgr4 (own_ne own1 i0 (by decide)); have m1 := i1.grown hgr4 (own_ne own1 i1 (by decide)); have m2 := i2.grown hgr4 (own_ne own1 i2 (by decide)); have l2 := def_lt' m2; have f2 := m2.frozen; have n2 := m2.cell 2; dsimp at n2))
      have hb4 := below_own hb1 own1 hgr4 hz1 (Nat.le_refl _)
      go_roundw
      case rel =>
        refine ⟨q + 1, by omega, by go_num, hb4.setCell (by simp; omega) _, m0.far (by simp; omega) _, m1.far (by simp) _, _, m2.set_ 2 _, ?_⟩
        rw [HS.out, sps_append]
        exact ownsRow_setCell_other hown4 (own_ne hown4 m2 (by decide)) _
      case measure => simp [intOf]; omega
    · obtain rfl : L.length = q := by omega
      obtain ⟨A4, c4, rfl, p1, p2, p3, hr4⟩ := own_form hown
      rw [List.take_length] at hr4
      have c0 := j1.cell 0; have c1 := j1.cell 1; have c2 := j1.cell 2; have l1 := def_lt' j1; have f1 := j1.frozen
      have d0 := j2.cell 0; have d1 := j2.cell 1; have d2 := j2.cell 2
      dsimp at c0 c1 c2 d0 d1 d2
      have o0 := ownsRow_setCell_other hown (own_ne hown j1 (by decide)) (a := ⟨w.heap.size + 1, 0, none⟩) (.bool o)
      have o1 := ownsRow_setCell_other o0 (own_ne o0 (j1.set_ 0 _) (by decide)) (a := ⟨w.heap.size + 1, 1, none⟩) (.int .i64 ct)
      have o2 := ownsRow_setCell_other o1 (own_ne o1 ((j1.set_ 0 _).set_ 1 _) (by decide)) (a := ⟨w.heap.size + 1, 2, none⟩) (.slice A4 L.length c4)
      have y : Bk (((wr.setCell ⟨w.heap.size + 1, 0, none⟩ (.bool o)).setCell ⟨w.heap.size + 1, 1, none⟩ (.int .i64 ct)).setCell ⟨w.heap.size + 1, 2, none⟩ (.slice A4 L.length c4)) (w.heap.size + 1) 24 #[.bool o, .int .i64 ct, .slice A4 L.length c4] := ((j1.set_ 0 _).set_ 1 _).set_ 2 _
      have q0 := y.cell 0; have q1 := y.cell 1; have q2 := y.cell 2
      dsimp at q0 q1 q2
      rw [List.take_length] at o2
      have hbe := ((hbr.setCell (p := ⟨w.heap.size + 1, 0, none⟩) (by simp) (.bool o)).setCell (p := ⟨w.heap.size + 1, 1, none⟩) (by simp) (.int .i64 ct)).setCell (p := ⟨w.heap.size + 1, 2, none⟩) (by simp) (.slice A4 L.length c4)
      have O2 := Lib.hid o2
      have HBE := Lib.hid hbe
      clear o0 o1 o2 hbe y j1 j2 hown k0 k1 k2 hb0 hr4
      go_wp2
      exact bodyPost_ret (v := .agg #[.bool o, .int .i64 ct, .slice A4 L.length c4]) (by simp [results, Try.results17, go_sem, q0, q1, q2]) rfl ⟨A4, c4, rfl, Rd.of_own O2.out, fun e => (p3 e).1, p1, p2, HBE.out⟩
set_option maxRecDepth 100000 in
set_option maxHeartbeats 4000000 in
theorem rover_yes (o : Bool) (ct : Int) (B : Option Addr) (cl : Nat) (L : List Sp) (A : Option Addr) (n c : Nat) (l : List Rg) (w : World) (hrs : Rd w w.heap.size 2 B L.length (sps L)) (hl : L.length ≤ 1000) (hn : n ≤ maxLen) (hrg : n ≤ 1000 → Rd w w.heap.size 3 A n (rgs l)) (hln : l.length = n) (hr : rightM l = true) :
    Calls Try.prog 17 #[.agg #[.bool o, .int .i64 ct, .slice B L.length cl], .slice A n c] w (Clk w o ct (overS l L)) := by
  have hcr := fun W (hb : Below w.heap.size w W) => calls_on hb (rright_any A n c l W hn (fun h => ((hrg h).below hb).more hb.size) hln)
  rw [hr] at hcr
  have HCR := Lib.hid hcr
  have hpo := fun W p sd (hb : Below w.heap.size w W) => calls_on hb (rposition_any A n c l p sd W ((hrg (by have := right_len hr; omega)).below hb |>.more hb.size) hr)
  have HPO := Lib.hid hpo
  have HR := Lib.hid hr
  have hb0 : Below w.heap.size w (((w.alloc (.cells #[.bool o, .int .i64 ct, .slice B L.length cl] 24)).alloc (.cells #[.bool false, .int .i64 0, .slice none 0 0] 24)).alloc (.cells #[.bool o, .int .i64 ct, .slice none 0 0] 24)) := by repeat (first | with_reducible exact Below.refl _ _ | with_reducible assumption | (with_reducible refine below_drewN ?_ _) | (with_reducible refine Below.drew ?_) | (with_reducible refine Below.alloc ?_ ?_ _; rotate_left; focus (first | with_reducible assumption | omega | (simp; done) | (simp; omega))) | (with_reducible refine Below.setCell ?_ ?_ _; rotate_left; focus (first | with_reducible assumption | omega | (simp; done) | (simp; omega))))
  have k0 : Bk (((w.alloc (.cells #[.bool o, .int .i64 ct, .slice B L.length cl] 24)).alloc (.cells #[.bool false, .int .i64 0, .slice none 0 0] 24)).alloc (.cells #[.bool o, .int .i64 ct, .slice none 0 0] 24)) w.heap.size 24 #[.bool o, .int .i64 ct, .slice B L.length cl] := ((Bk.new w 24 _).alloc _).alloc _
  have k1 : Bk (((w.alloc (.cells #[.bool o, .int .i64 ct, .slice B L.length cl] 24)).alloc (.cells #[.bool false, .int .i64 0, .slice none 0 0] 24)).alloc (.cells #[.bool o, .int .i64 ct, .slice none 0 0] 24)) (w.heap.size + 1) 24 #[.bool false, .int .i64 0, .slice none 0 0] := (Bk.made 24 _ (by simp)).alloc _
  have k2 : Bk (((w.alloc (.cells #[.bool o, .int .i64 ct, .slice B L.length cl] 24)).alloc (.cells #[.bool false, .int .i64 0, .slice none 0 0] 24)).alloc (.cells #[.bool o, .int .i64 ct, .slice none 0 0] 24)) (w.heap.size + 1 + 1) 24 #[.bool o, .int .i64 ct, .slice none 0 0] := Bk.made 24 _ (by simp)
  clear hcr hrg hr hpo
  have HLN := Lib.hid hln
  clear hln hn
  go_enter Try.func17, Try.ntmps17
  go_wp2
  generalize ((w.alloc (.cells #[.bool o, .int .i64 ct, .slice B L.length cl] 24)).alloc (.cells #[.bool false, .int .i64 0, .slice none 0 0] 24)).alloc (.cells #[.bool o, .int .i64 ct, .slice none 0 0] 24) = w0 at *
  go_loopw [6] (fun j wr => ∃ q : Nat, q ≤ L.length ∧ j = .int .i64 q ∧ Below w.heap.size w wr ∧ Bk wr w.heap.size 24 #[.bool o, .int .i64 ct, .slice B L.length cl] ∧ Bk wr (w.heap.size + 1) 24 #[.bool false, .int .i64 0, .slice none 0 0] ∧ ∃ v, Bk wr (w.heap.size + 1 + 1) 24 #[.bool o, .int .i64 ct, v] ∧ wr.ownsRow w.heap.size 37 2 v (overS l (L.take q)).length (sps (overS l (L.take q)))) (fun j _ => L.length - (intOf j).toNat)
  case atStart => exact ⟨0, by omega, rfl, hb0, k0, k1, _, k2, by
      have e : overS l (L.take 0) = [] := by unfold overS; rw [HR.out]; rfl
      rw [e]; exact World.ownsRow_nil _ _ _ _⟩
  case round =>
    obtain ⟨q, hq, rfl, hbr, j0, j1, v, j2, hown⟩ := hrel
    have z2 := j0.cell 2; have z0 := def_lt' j0
    dsimp at z2
    by_cases hqn : q < L.length
    · obtain ⟨s, hx⟩ : ∃ s, L[q]? = some s := ⟨_, List.getElem?_eq_getElem hqn⟩
      obtain ⟨b, oo, rfl, hb, hcc⟩ := (hrs.below hbr).el Sp.cells (fun _ => rfl) rfl hx
      obtain ⟨sa, sb⟩ := s
      have d0 := hcc 0 (by omega)
      have d1 := hcc 1 (by omega)
      dsimp [Sp.cells] at d0 d1
      have e3 : (q : Int) < L.length := by omega
      have hbz := hbr.size
      have HX := Lib.hid hx
      have hle := overS_le l (L.take q)
      have hll : (L.take q).length ≤ q := List.length_take_le _ _
      have hp1 := fun W hb => HPO.out W sa 1 hb
      have hp2 := fun W hb => HPO.out W sb (-1) hb
      have hmv : Hid (movS l ⟨sa, sb⟩ = ⟨(tellS l sa 1).1.pos, (tellS l sb (-1)).1.pos⟩) := rfl
      generalize (tellS l sa 1).1.pos = pa at *
      generalize (tellS l sb (-1)).1.pos = pb at *
      have HP1 := Lib.hid hp1
      have HP2 := Lib.hid hp2
      clear hp1 hp2 hx hcc k0 k1 k2 hb0
      by_cases hd : pb < pa
      · have hst := overS_drop HR.out HX.out (by rw [hmv.out]; exact hd)
        have HS := Lib.hid hst
        clear hst
        go_wp2_with (go_at_call 34; (refine (HCR.out _ hbr).mono ?_); rintro e w1 ⟨rfl, hb1, hz1, hx1⟩)
        go_wp2_with (go_at_call 35; fail)
        refine (HP1.out _ hb1).mono ?_
        rintro e w2 ⟨rfl, hb2, hz2, hx2⟩
        go_wp2_with (go_at_call 35; fail)
        refine (HP2.out _ hb2).mono ?_
        rintro e w3 ⟨rfl, hb3, hz3, hx3⟩
        go_wp2
        go_roundw
        case rel => exact ⟨q + 1, by omega, by go_num, hb3, ((j0.ext hx1).ext hx2).ext hx3, ((j1.ext hx1).ext hx2).ext hx3, _, ((j2.ext hx1).ext hx2).ext hx3, by rw [HS.out]; exact own_below (own_below (own_below hown hx1) hx2) hx3⟩
        case measure => simp [intOf]; omega
      · have hst := overS_keep HR.out HX.out (by rw [hmv.out]; exact hd)
        rw [hmv.out] at hst
        have HS := Lib.hid hst
        clear hst
        go_wp2_with (go_at_call 34; (refine (HCR.out _ hbr).mono ?_); rintro e w1 ⟨rfl, hb1, hz1, hx1⟩)
        go_wp2_with (go_at_call 35; fail)
        refine (HP1.out _ hb1).mono ?_
        rintro e w2 ⟨rfl, hb2, hz2, hx2⟩
        go_wp2_with (go_at_call 35; fail)
        refine (HP2.out _ hb2).mono ?_
        rintro e w3 ⟨rfl, hb3, hz3, hx3⟩
        have i0 := ((j0.ext hx1).ext hx2).ext hx3
        have i1 := ((j1.ext hx1).ext hx2).ext hx3
        have i2 := ((j2.ext hx1).ext hx2).ext hx3
        have c2 := i2.cell 2
        dsimp at c2
        have own1 := own_below (own_below (own_below hown hx1) hx2) hx3
        go_wp2_with (at_builtin; ((refine app_one Try.underlying22 info_span rfl (by decide) w3 w.heap.size _ (overS l (L.take q)).length _ own1 (by unfold maxLen; omega) (by omega) hz3 _ rfl (by simp [Value.oneCell']) rfl _ _ rfl rfl rfl ?_); intro g4 cap4 w4 hown4 hgr4 hat4 hlt4); have m0 := i0.grown hgr4 (own_ne own1 i0 (by decide)); have m1 := i1.grown hgr4 (own_ne own1 i1 (by decide)); have m2 := i2.grown hgr4 (own_ne own1 i2 (by decide)); have l2 := def_lt' m2; have f2 := m2.frozen; have n2 := m2.cell 2; dsimp at n2)
        have hb4 := below_own hb3 own1 hgr4 hz3 (Nat.le_refl _)
        go_roundw
        case rel =>
          refine ⟨q + 1, by omega, by go_num, hb4.setCell (by simp; omega) _, m0.far (by simp; omega) _, m1.far (by simp) _, _, m2.set_ 2 _, ?_⟩
          rw [HS.out, sps_append, List.length_append]
          exact ownsRow_setCell_other hown4 (own_ne hown4 m2 (by decide)) _
        case measure => simp [intOf]; omega
    · obtain rfl : L.length = q := by omega
      rw [List.take_length] at hown
      obtain ⟨A4, c4, rfl, p1, p2, p3, hr4⟩ := own_form hown
      have c0 := j1.cell 0; have c1 := j1.cell 1; have c2 := j1.cell 2; have l1 := def_lt' j1; have f1 := j1.frozen
      have d0 := j2.cell 0; have d1 := j2.cell 1; have d2 := j2.cell 2
      dsimp at c0 c1 c2 d0 d1 d2
      have o0 := ownsRow_setCell_other hown (own_ne hown j1 (by decide)) (a := ⟨w.heap.size + 1, 0, none⟩) (.bool o)
      have o1 := ownsRow_setCell_other o0 (own_ne o0 (j1.set_ 0 _) (by decide)) (a := ⟨w.heap.size + 1, 1, none⟩) (.int .i64 ct)
      have o2 := ownsRow_setCell_other o1 (own_ne o1 ((j1.set_ 0 _).set_ 1 _) (by decide)) (a := ⟨w.heap.size + 1, 2, none⟩) (.slice A4 (overS l L).length c4)
      have y : Bk (((wr.setCell ⟨w.heap.size + 1, 0, none⟩ (.bool o)).setCell ⟨w.heap.size + 1, 1, none⟩ (.int .i64 ct)).setCell ⟨w.heap.size + 1, 2, none⟩ (.slice A4 (overS l L).length c4)) (w.heap.size + 1) 24 #[.bool o, .int .i64 ct, .slice A4 (overS l L).length c4] := ((j1.set_ 0 _).set_ 1 _).set_ 2 _
      have q0 := y.cell 0; have q1 := y.cell 1; have q2 := y.cell 2
      dsimp at q0 q1 q2
      have hbe := ((hbr.setCell (p := ⟨w.heap.size + 1, 0, none⟩) (by simp) (.bool o)).setCell (p := ⟨w.heap.size + 1, 1, none⟩) (by simp) (.int .i64 ct)).setCell (p := ⟨w.heap.size + 1, 2, none⟩) (by simp) (.slice A4 (overS l L).length c4)
      have O2 := Lib.hid o2
      have HBE := Lib.hid hbe
      clear o0 o1 o2 hbe y j1 j2 hown k0 k1 k2 hb0 hr4
      go_wp2
      exact bodyPost_ret (v := .agg #[.bool o, .int .i64 ct, .slice A4 (overS l L).length c4]) (by simp [results, Try.results17, go_sem, q0, q1, q2]) rfl ⟨A4, c4, rfl, Rd.of_own O2.out, fun e => (p3 e).1, p1, p2, HBE.out⟩
end Go.Proofs.Ytjenokeeokghgaa
