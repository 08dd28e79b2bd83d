/- group: Over -/
import Derived.Test.YtjenokeeokghgaaGrL
import Derived.Test.YtjenokeeokghgaaK1
namespace Go.Proofs.Ytjenokeeokghgaa
open Go.RowKit

def movS (l : List Rg) (s : Sp) : Sp := ⟨(tellS l s.a 1).1.pos, (tellS l s.b (-1)).1.pos⟩
/-- spans over a map -/
def overS (l : List Rg) (L : List Sp) : List Sp := if rightM l then (L.map (movS l)).filter (fun s => decide (s.a ≤ s.b)) else L
theorem overS_not {l : List Rg} (h : rightM l = false) (L : List Sp) : overS l L = L := by unfold overS; rw [h]; rfl
theorem overS_drop {l : List Rg} (h : rightM l = true) {L : List Sp} {k : Nat} {s : Sp} (hk : L[k]? = some s) (hd : (movS l s).b < (movS l s).a) : overS l (L.take (k + 1)) = overS l (L.take k) := by
  unfold overS
  rw [h, List.take_add_one, hk]
  simp
  omega
theorem overS_keep {l : List Rg} (h : rightM l = true) {L : List Sp} {k : Nat} {s : Sp} (hk : L[k]? = some s) (hd : ¬ (movS l s).b < (movS l s).a) : overS l (L.take (k + 1)) = overS l (L.take k) ++ [movS l s] := by
  unfold overS
  rw [h, List.take_add_one, hk]
  simp
  omega
theorem overS_le (l : List Rg) (L : List Sp) : (overS l L).length ≤ L.length := by
  unfold overS
  split
  · exact Nat.le_trans (List.length_filter_le _ _) (by simp)
  · exact Nat.le_refl _

set_option maxRecDepth 100000 in
set_option maxHeartbeats 4000000 in
theorem over_no (o : Bool) (ct : Int) (B : Option Addr) (cl : Nat) (L : List Sp) (A : Option Addr) (n c : Nat) (l : List Rg) (w : World) (hrs : Rd w w.heap.size 2 B L.length (sps L)) (hl : L.length ≤ 1000) (hn : n ≤ maxLen) (hrg : n ≤ 1000 → Rd w w.heap.size 3 A n (rgs l)) (hln : l.length = n) (hr : rightM l = false) :
    Calls Try.prog 16 #[.agg #[.bool o, .int .i64 ct, .slice B L.length cl], .slice A n c] w (Clk w o ct (overS l L)) := by
  have hcr := fun W (hb : Below w.heap.size w W) => calls_on hb (right_any A n c l W hn (fun h => ((hrg h).below hb).more hb.size) hln)
  rw [hr] at hcr
  rw [overS_not hr]
  have HCR := Lib.hid hcr
  have hb0 : Below w.heap.size w (((w.alloc (.cells #[.bool o, .int .i64 ct, .slice B L.length cl] 31)).alloc (.cells #[.bool false, .int .i64 0, .slice none 0 0] 31)).alloc (.cells #[.bool o, .int .i64 ct, .slice none 0 0] 31)) := by repeat (first | with_reducible exact Below.refl _ _ | with_reducible assumption | (with_reducible refine below_drewN ?_ _) | (with_reducible refine Below.drew ?_) | (with_reducible refine Below.alloc ?_ ?_ _; rotate_left; focus (first | with_reducible assumption | omega | (simp; done) | (simp; omega))) | (with_reducible refine Below.setCell ?_ ?_ _; rotate_left; focus (first | with_reducible assumption | omega | (simp; done) | (simp; omega))))
  have k0 : Bk (((w.alloc (.cells #[.bool o, .int .i64 ct, .slice B L.length cl] 31)).alloc (.cells #[.bool false, .int .i64 0, .slice none 0 0] 31)).alloc (.cells #[.bool o, .int .i64 ct, .slice none 0 0] 31)) w.heap.size 31 #[.bool o, .int .i64 ct, .slice B L.length cl] := ((Bk.new w 31 _).alloc _).alloc _
  have k1 : Bk (((w.alloc (.cells #[.bool o, .int .i64 ct, .slice B L.length cl] 31)).alloc (.cells #[.bool false, .int .i64 0, .slice none 0 0] 31)).alloc (.cells #[.bool o, .int .i64 ct, .slice none 0 0] 31)) (w.heap.size + 1) 31 #[.bool false, .int .i64 0, .slice none 0 0] := (Bk.made 31 _ (by simp)).alloc _
  have k2 : Bk (((w.alloc (.cells #[.bool o, .int .i64 ct, .slice B L.length cl] 31)).alloc (.cells #[.bool false, .int .i64 0, .slice none 0 0] 31)).alloc (.cells #[.bool o, .int .i64 ct, .slice none 0 0] 31)) (w.heap.size + 1 + 1) 31 #[.bool o, .int .i64 ct, .slice none 0 0] := Bk.made 31 _ (by simp)
  clear hcr hrg hr
  have HLN := Lib.hid hln
  clear hln hn
  go_enter Try.func16, Try.ntmps16
  go_wp2
  generalize ((w.alloc (.cells #[.bool o, .int .i64 ct, .slice B L.length cl] 31)).alloc (.cells #[.bool false, .int .i64 0, .slice none 0 0] 31)).alloc (.cells #[.bool o, .int .i64 ct, .slice none 0 0] 31) = w0 at *
  go_loopw [13] (fun j wr => ∃ q : Nat, q ≤ L.length ∧ j = .int .i64 q ∧ Below w.heap.size w wr ∧ Bk wr (w.heap.size + 1) 31 #[.bool false, .int .i64 0, .slice none 0 0] ∧ ∃ v, Bk wr (w.heap.size + 1 + 1) 31 #[.bool o, .int .i64 ct, v] ∧ wr.ownsRow w.heap.size 37 2 v q (sps (L.take q))) (fun j _ => L.length - (intOf j).toNat)
  case atStart => exact ⟨0, by omega, rfl, hb0, k1, _, k2, World.ownsRow_nil _ _ _ _⟩
  case round =>
    obtain ⟨q, hq, rfl, hbr, j1, v, j2, hown⟩ := hrel
    by_cases hqn : q < L.length
    · obtain ⟨s, hx⟩ : ∃ s, L[q]? = some s := ⟨_, List.getElem?_eq_getElem hqn⟩
      obtain ⟨b, oo, rfl, hb, hcc⟩ := (hrs.below hbr).el Sp.cells (fun _ => rfl) rfl hx
      have hst : L.take (q + 1) = L.take q ++ [s] := by rw [List.take_add_one, hx]; rfl
      have HS := Lib.hid hst
      obtain ⟨sa, sb⟩ := s
      have d0 := hcc 0 (by omega)
      have d1 := hcc 1 (by omega)
      dsimp [Sp.cells] at d0 d1
      have e3 : (q : Int) < L.length := by omega
      have hbz := hbr.size
      clear hst hx hcc k0 k1 k2 hb0
      go_wp2_with (first
        | (go_at_call 32; (refine (HCR.out _ (by repeat (first | with_reducible exact Below.refl _ _ | with_reducible assumption | (with_reducible refine below_drewN ?_ _) | (with_reducible refine Below.drew ?_) | (with_reducible refine Below.alloc ?_ ?_ _; rotate_left; focus (first | with_reducible assumption | omega | (simp; done) | (simp; omega))) | (with_reducible refine Below.setCell ?_ ?_ _; rotate_left; focus (first | with_reducible assumption | omega | (simp; done) | (simp; omega)))))).mono ?_); rintro e w1 ⟨rfl, hb1, hz1, hx1⟩; have i1 := (j1.alloc (.cells #[.int .i64 sa, .int .i64 sb] 37)).ext hx1; have i2 := (j2.alloc (.cells #[.int .i64 sa, .int .i64 sb] 37)).ext hx1; have i7 := (Bk.new wr 37 #[.int .i64 sa, .int .i64 sb]).ext hx1; have c0 := i7.cell 0; have c1 := i7.cell 1; have c2 := i2.cell 2; dsimp at c0 c1 c2; have own1 := own_kept (M := 0) (hown.alloc (.cells #[.int .i64 sa, .int .i64 sb] 37)) (row := none) (gr_of_below hx1) (fun r e => by cases e))
        | (at_builtin; ((refine app_one Try.underlying22 info_span rfl (by decide) w1 w.heap.size _ q _ own1 (by unfold maxLen; omega) (by omega) hz1 _ rfl (by simp [Value.oneCell']) rfl _ _ rfl rfl rfl ?_); intro g4 cap4 w4 hown4 hgr4 hat4 hlt4); have m1 := i1.grown hgr4 (own_ne own1 i1 (by decide)); have m2 := i2.grown hgr4 (own_ne own1 i2 (by decide)); have l2 := def_lt' m2; have f2 := m2.frozen; have n2 := m2.cell 2; dsimp at n2))
      have hb4 := below_own hb1 own1 hgr4 hz1 (Nat.le_refl _)
      go_roundw
      case rel =>
        refine ⟨q + 1, by omega, by go_num, hb4.setCell (by simp; omega) _, m1.far (by simp) _, _, m2.set_ 2 _, ?_⟩
        rw [HS.out, sps_append]
        exact ownsRow_setCell_other hown4 (own_ne hown4 m2 (by decide)) _
      case measure => simp [intOf]; omega
    · obtain rfl : L.length = q := by omega
      obtain ⟨A4, c4, rfl, p1, p2, p3, hr4⟩ := own_form hown
      rw [List.take_length] at hr4
      have c0 := j1.cell 0; have c1 := j1.cell 1; have c2 := j1.cell 2; have l1 := def_lt' j1; have f1 := j1.frozen
      have d0 := j2.cell 0; have d1 := j2.cell 1; have d2 := j2.cell 2
      dsimp at c0 c1 c2 d0 d1 d2
      have o0 := ownsRow_setCell_other hown (own_ne hown j1 (by decide)) (a := ⟨w.heap.size + 1, 0, none⟩) (.bool o)
      have o1 := ownsRow_setCell_other o0 (own_ne o0 (j1.set_ 0 _) (by decide)) (a := ⟨w.heap.size + 1, 1, none⟩) (.int .i64 ct)
      have o2 := ownsRow_setCell_other o1 (own_ne o1 ((j1.set_ 0 _).set_ 1 _) (by decide)) (a := ⟨w.heap.size + 1, 2, none⟩) (.slice A4 L.length c4)
      have y : Bk (((wr.setCell ⟨w.heap.size + 1, 0, none⟩ (.bool o)).setCell ⟨w.heap.size + 1, 1, none⟩ (.int .i64 ct)).setCell ⟨w.heap.size + 1, 2, none⟩ (.slice A4 L.length c4)) (w.heap.size + 1) 31 #[.bool o, .int .i64 ct, .slice A4 L.length c4] := ((j1.set_ 0 _).set_ 1 _).set_ 2 _
      have q0 := y.cell 0; have q1 := y.cell 1; have q2 := y.cell 2
      dsimp at q0 q1 q2
      rw [List.take_length] at o2
      have hbe := ((hbr.setCell (p := ⟨w.heap.size + 1, 0, none⟩) (by simp) (.bool o)).setCell (p := ⟨w.heap.size + 1, 1, none⟩) (by simp) (.int .i64 ct)).setCell (p := ⟨w.heap.size + 1, 2, none⟩) (by simp) (.slice A4 L.length c4)
      have O2 := Lib.hid o2
      have HBE := Lib.hid hbe
      clear o0 o1 o2 hbe y j1 j2 hown k0 k1 k2 hb0 hr4
      go_wp2
      exact bodyPost_ret (v := .agg #[.bool o, .int .i64 ct, .slice A4 L.length c4]) (by simp [results, Try.results16, go_sem, q0, q1, q2]) rfl ⟨A4, c4, rfl, Rd.of_own O2.out, fun e => (p3 e).1, p1, p2, HBE.out⟩
set_option maxRecDepth 100000 in
set_option maxHeartbeats 4000000 in
theorem over_yes (o : Bool) (ct : Int) (B : Option Addr) (cl : Nat) (L : List Sp) (A : Option Addr) (n c : Nat) (l : List Rg) (w : World) (hrs : Rd w w.heap.size 2 B L.length (sps L)) (hl : L.length ≤ 1000) (hn : n ≤ maxLen) (hrg : n ≤ 1000 → Rd w w.heap.size 3 A n (rgs l)) (hln : l.length = n) (hr : rightM l = true) :
    Calls Try.prog 16 #[.agg #[.bool o, .int .i64 ct, .slice B L.length cl], .slice A n c] w (Clk w o ct (overS l L)) := by
  have hcr := fun W (hb : Below w.heap.size w W) => calls_on hb (right_any A n c l W hn (fun h => ((hrg h).below hb).more hb.size) hln)
  rw [hr] at hcr
  have HCR := Lib.hid hcr
  have hpo := fun W p sd (hb : Below w.heap.size w W) => calls_on hb (position_any A n c l p sd W hn (fun h => ((hrg h).below hb).more hb.size) hln)
  have HPO := Lib.hid hpo
  have HR := Lib.hid hr
  have hb0 : Below w.heap.size w (((w.alloc (.cells #[.bool o, .int .i64 ct, .slice B L.length cl] 31)).alloc (.cells #[.bool false, .int .i64 0, .slice none 0 0] 31)).alloc (.cells #[.bool o, .int .i64 ct, .slice none 0 0] 31)) := by repeat (first | with_reducible exact Below.refl _ _ | with_reducible assumption | (with_reducible refine below_drewN ?_ _) | (with_reducible refine Below.drew ?_) | (with_reducible refine Below.alloc ?_ ?_ _; rotate_left; focus (first | with_reducible assumption | omega | (simp; done) | (simp; omega))) | (with_reducible refine Below.setCell ?_ ?_ _; rotate_left; focus (first | with_reducible assumption | omega | (simp; done) | (simp; omega))))
  have k0 : Bk (((w.alloc (.cells #[.bool o, .int .i64 ct, .slice B L.length cl] 31)).alloc (.cells #[.bool false, .int .i64 0, .slice none 0 0] 31)).alloc (.cells #[.bool o, .int .i64 ct, .slice none 0 0] 31)) w.heap.size 31 #[.bool o, .int .i64 ct, .slice B L.length cl] := ((Bk.new w 31 _).alloc _).alloc _
  have k1 : Bk (((w.alloc (.cells #[.bool o, .int .i64 ct, .slice B L.length cl] 31)).alloc (.cells #[.bool false, .int .i64 0, .slice none 0 0] 31)).alloc (.cells #[.bool o, .int .i64 ct, .slice none 0 0] 31)) (w.heap.size + 1) 31 #[.bool false, .int .i64 0, .slice none 0 0] := (Bk.made 31 _ (by simp)).alloc _
  have k2 : Bk (((w.alloc (.cells #[.bool o, .int .i64 ct, .slice B L.length cl] 31)).alloc (.cells #[.bool false, .int .i64 0, .slice none 0 0] 31)).alloc (.cells #[.bool o, .int .i64 ct, .slice none 0 0] 31)) (w.heap.size + 1 + 1) 31 #[.bool o, .int .i64 ct, .slice none 0 0] := Bk.made 31 _ (by simp)
  clear hcr hrg hr hpo
  have HLN := Lib.hid hln
  clear hln hn
  go_enter Try.func16, Try.ntmps16
  go_wp2
  generalize ((w.alloc (.cells #[.bool o, .int .i64 ct, .slice B L.length cl] 31)).alloc (.cells #[.bool false, .int .i64 0, .slice none 0 0] 31)).alloc (.cells #[.bool o, .int .i64 ct, .slice none 0 0] 31) = w0 at *
  go_loopw [13] (fun j wr => ∃ q : Nat, q ≤ L.length ∧ j = .int .i64 q ∧ Below w.heap.size w wr ∧ Bk wr (w.heap.size + 1) 31 #[.bool false, .int .i64 0, .slice none 0 0] ∧ ∃ v, Bk wr (w.heap.size + 1 + 1) 31 #[.bool o, .int .i64 ct, v] ∧ wr.ownsRow w.heap.size 37 2 v (overS l (L.take q)).length (sps (overS l (L.take q)))) (fun j _ => L.length - (intOf j).toNat)
  case atStart => exact ⟨0, by omega, rfl, hb0, k1, _, k2, by
      have e : overS l (L.take 0) = [] := by unfold overS; rw [HR.out]; rfl
      rw [e]; exact World.ownsRow_nil _ _ _ _⟩
  case round =>
    obtain ⟨q, hq, rfl, hbr, j1, v, j2, hown⟩ := hrel
    by_cases hqn : q < L.length
    · obtain ⟨s, hx⟩ : ∃ s, L[q]? = some s := ⟨_, List.getElem?_eq_getElem hqn⟩
      obtain ⟨b, oo, rfl, hb, hcc⟩ := (hrs.below hbr).el Sp.cells (fun _ => rfl) rfl hx
      obtain ⟨sa, sb⟩ := s
      have d0 := hcc 0 (by omega)
      have d1 := hcc 1 (by omega)
      dsimp [Sp.cells] at d0 d1
      have e3 : (q : Int) < L.length := by omega
      have hbz := hbr.size
      have HX := Lib.hid hx
      have hle := overS_le l (L.take q)
      have hll : (L.take q).length ≤ q := List.length_take_le _ _
      clear hx hcc k0 k1 k2 hb0
      go_wp2_with (go_at_call 32; (refine (HCR.out _ (by repeat (first | with_reducible exact Below.refl _ _ | with_reducible assumption | (with_reducible refine below_drewN ?_ _) | (with_reducible refine Below.drew ?_) | (with_reducible refine Below.alloc ?_ ?_ _; rotate_left; focus (first | with_reducible assumption | omega | (simp; done) | (simp; omega))) | (with_reducible refine Below.setCell ?_ ?_ _; rotate_left; focus (first | with_reducible assumption | omega | (simp; done) | (simp; omega)))))).mono ?_); rintro e w1 ⟨rfl, hb1, hz1, hx1⟩)
      have i1 := (j1.alloc (.cells #[.int .i64 sa, .int .i64 sb] 37)).ext hx1
      have i2 := (j2.alloc (.cells #[.int .i64 sa, .int .i64 sb] 37)).ext hx1
      have i7 := (Bk.new wr 37 #[.int .i64 sa, .int .i64 sb]).ext hx1
      have own1 := own_below (hown.alloc (.cells #[.int .i64 sa, .int .i64 sb] 37)) hx1
      have hF : ∀ w', Below w1.heap.size w1 w' → w'.cell? ⟨wr.heap.size, 0, none⟩ = some (.int .i64 sa) ∧ w'.cell? ⟨wr.heap.size, 1, none⟩ = some (.int .i64 sb) := fun w' hb => ⟨(i7.ext hb).cell 0, (i7.ext hb).cell 1⟩
      have HF := Lib.hid hF
      have hp1 := fun W hb => HPO.out W sa 1 hb
      have hp2 := fun W hb => HPO.out W sb (-1) hb
      have hmv : Hid (movS l ⟨sa, sb⟩ = ⟨(tellS l sa 1).1.pos, (tellS l sb (-1)).1.pos⟩) := rfl
      generalize (tellS l sa 1).1.pos = pa at *
      generalize (tellS l sb (-1)).1.pos = pb at *
      have HP1 := Lib.hid hp1
      have HP2 := Lib.hid hp2
      have l7 := def_lt' i7
      have hne : v.ownBlock ≠ some wr.heap.size := fun e => Nat.lt_irrefl _ (own_lt hown _ e)
      have j1' := def_lt' j1
      have j2' := def_lt' j2
      clear hp1 hp2 hF hx1 j1 j2 hown d0 d1
      refine wp_normal ?_
      refine region_K (S := fun w' => Below w1.heap.size w1 w') 9 (by kernel_rfl) (Below.refl _ _).drew (fun hHeld => ?_)
      (refine takeK_if (i := 0) (oi := _) (v := ?_) (by simp only [List.getElem?_toArray, List.getElem?_cons_zero]; rfl) (by kernel_rfl) (by kernel_rfl) (by kernel_rfl) (fun _ _ _ h => h) (by rfl) ?_ (by assumption) ?_; rotate_left; (focus ((intro w hSw; (try have hSw := HF.out _ hSw); (try dsimp only at hSw); go_simp); try exact rfl)); simp only [Act.put, List.setIfInBounds_toArray, List.set_cons_zero, List.set_cons_succ]; refine takeK_if (i := 1) (oi := _) (v := ?_) (by simp only [List.getElem?_toArray, List.getElem?_cons_succ, List.getElem?_cons_zero]; rfl) (by kernel_rfl) (by kernel_rfl) (by kernel_rfl) (fun _ _ _ h => h) (by rfl) ?_ (by assumption) ?_; rotate_left; (focus ((intro w hSw; (try have hSw := HF.out _ hSw); (try dsimp only at hSw); go_simp); try exact rfl)); simp only [Act.put, List.setIfInBounds_toArray, List.set_cons_zero, List.set_cons_succ]; refine takeK_if (i := 2) (oi := _) (v := ?_) (by simp only [List.getElem?_toArray, List.getElem?_cons_succ, List.getElem?_cons_zero]; rfl) (by kernel_rfl) (by kernel_rfl) (by kernel_rfl) (fun _ _ _ h => h) (by rfl) ?_ (by assumption) ?_; rotate_left; (focus ((intro w hSw; (try have hSw := HF.out _ hSw); (try dsimp only at hSw); go_simp); try exact rfl)); simp only [Act.put, List.setIfInBounds_toArray, List.set_cons_zero, List.set_cons_succ]; refine takeK_if (i := 4) (oi := _) (v := ?_) (by simp only [List.getElem?_toArray, List.getElem?_cons_succ, List.getElem?_cons_zero]; rfl) (by kernel_rfl) (by kernel_rfl) (by kernel_rfl) (fun _ _ _ h => h) (by rfl) ?_ (by assumption) ?_; rotate_left; (focus ((intro w hSw; (try have hSw := HF.out _ hSw); (try dsimp only at hSw); go_simp); try exact rfl)); simp only [Act.put, List.setIfInBounds_toArray, List.set_cons_zero, List.set_cons_succ]; refine takeK_if (i := 5) (oi := _) (v := ?_) (by simp only [List.getElem?_toArray, List.getElem?_cons_succ, List.getElem?_cons_zero]; rfl) (by kernel_rfl) (by kernel_rfl) (by kernel_rfl) (fun _ _ _ h => h) (by rfl) ?_ (by assumption) ?_; rotate_left; (focus ((intro w hSw; (try have hSw := HF.out _ hSw); (try dsimp only at hSw); go_simp); try exact rfl)); simp only [Act.put, List.setIfInBounds_toArray, List.set_cons_zero, List.set_cons_succ]; refine takeK_if (i := 6) (oi := _) (v := ?_) (by simp only [List.getElem?_toArray, List.getElem?_cons_succ, List.getElem?_cons_zero]; rfl) (by kernel_rfl) (by kernel_rfl) (by kernel_rfl) (fun _ _ _ h => h) (by rfl) ?_ (by assumption) ?_; rotate_left; (focus ((intro w hSw; (try have hSw := HF.out _ hSw); (try dsimp only at hSw); go_simp); try exact rfl)); simp only [Act.put, List.setIfInBounds_toArray, List.set_cons_zero, List.set_cons_succ])
      refine anyK_ready (rs := [3]) (by kernel_rfl) (by simp) ?_; refine (ReadyK.cons (o := _) (by simp only [List.getElem?_toArray, List.getElem?_cons_succ, List.getElem?_cons_zero]; rfl) (fun K hK => ?_) ReadyK.nil)
      go_simp
      go_at_call 33
      refine (HP1.out _ (hb1.trans ((Below.refl w1.heap.size w1).drew.mono hz1))).mono ?_
      rintro e w2 ⟨rfl, hb2, hz2, hx2⟩
      have hx2' : Below w1.heap.size w1 w2 := Below.trans (Below.refl _ _).drew hx2
      refine hK.out _ _ hx2' (fun hHeld => ?_)
      clear hK K; (try simp only [Act.put, List.setIfInBounds_toArray, List.set_cons_zero, List.set_cons_succ])
      refine anyK_ready (rs := [7]) (by kernel_rfl) (by simp) ?_; refine (ReadyK.cons (o := _) (by simp only [List.getElem?_toArray, List.getElem?_cons_succ, List.getElem?_cons_zero]; rfl) (fun K hK => ?_) ReadyK.nil)
      go_simp
      go_at_call 33
      refine (HP2.out _ hb2).mono ?_
      rintro e w3 ⟨rfl, hb3, hz3, hx3⟩
      have hx3' := hx2'.trans (hx3.mono hx2'.size)
      refine hK.out _ _ hx3' (fun hHeld => ?_)
      clear hK K; (try simp only [Act.put, List.setIfInBounds_toArray, List.set_cons_zero, List.set_cons_succ])
      (refine takeK_if (i := 8) (oi := _) (v := ?_) (by simp only [List.getElem?_toArray, List.getElem?_cons_succ, List.getElem?_cons_zero]; rfl) (by kernel_rfl) (by kernel_rfl) (by kernel_rfl) (fun _ _ _ h => h) (by rfl) ?_ (by assumption) ?_; rotate_left; (focus ((intro w hSw; (try have hSw := HF.out _ hSw); (try dsimp only at hSw); go_simp); try exact rfl)); simp only [Act.put, List.setIfInBounds_toArray, List.set_cons_zero, List.set_cons_succ])
      refine anyK_last (o := _) (by kernel_rfl) (by simp only [List.getElem?_toArray, List.getElem?_cons_succ, List.getElem?_cons_zero]; rfl) (by kernel_rfl) (fun K hK => ?_)
      have m1 := i1.ext hx3'
      have m2 := i2.ext hx3'
      have m7 := i7.ext hx3'
      have own3 := own_below own1 hx3'
      have c0 := m7.cell 0; have c1 := m7.cell 1; have f7 := m7.frozen; have l7' := def_lt' m7
      dsimp at c0 c1
      clear i1 i2 i7 own1 hx2 hx3 hx2' hx3' hHeld
      go_simp
      refine hK.out _ _ ?_
      clear hK K
      have n1 := (m1.far (p := ⟨wr.heap.size, 0, none⟩) (by simp; omega) (.int .i64 pa)).far (p := ⟨wr.heap.size, 1, none⟩) (by simp; omega) (.int .i64 pb)
      have n2 := (m2.far (p := ⟨wr.heap.size, 0, none⟩) (by simp; omega) (.int .i64 pa)).far (p := ⟨wr.heap.size, 1, none⟩) (by simp; omega) (.int .i64 pb)
      have n7 : Bk ((w3.setCell ⟨wr.heap.size, 0, none⟩ (.int .i64 pa)).setCell ⟨wr.heap.size, 1, none⟩ (.int .i64 pb)) wr.heap.size 37 #[.int .i64 pa, .int .i64 pb] := (m7.set_ 0 _).set_ 1 _
      have own5 := ownsRow_setCell_other (ownsRow_setCell_other own3 (a := ⟨wr.heap.size, 0, none⟩) hne (.int .i64 pa)) (a := ⟨wr.heap.size, 1, none⟩) hne (.int .i64 pb)
      have hb5 := (hb3.setCell (p := ⟨wr.heap.size, 0, none⟩) hbz (.int .i64 pa)).setCell (p := ⟨wr.heap.size, 1, none⟩) hbz (.int .i64 pb)
      generalize (w3.setCell ⟨wr.heap.size, 0, none⟩ (.int .i64 pa)).setCell ⟨wr.heap.size, 1, none⟩ (.int .i64 pb) = w5 at *
      clear m1 m2 m7 own3 c0 c1 f7 l7'
      have c0 := n7.cell 0; have c1 := n7.cell 1
      have c2 := n2.cell 2
      dsimp at c0 c1 c2
      by_cases hd : pb < pa
      · have hst := overS_drop HR.out HX.out (by rw [hmv.out]; exact hd)
        have HS := Lib.hid hst
        clear hst
        go_wp2
        go_roundw
        case rel => exact ⟨q + 1, by omega, by go_num, hb5, n1, _, n2, by rw [HS.out]; exact own5⟩
        case measure => simp [intOf]; omega
      · have hst := overS_keep HR.out HX.out (by rw [hmv.out]; exact hd)
        rw [hmv.out] at hst
        have HS := Lib.hid hst
        have hz5 := hb5.size
        clear hst
        go_wp2_with (at_builtin; ((refine app_one Try.underlying22 info_span rfl (by decide) w5 w.heap.size _ (overS l (L.take q)).length _ own5 (by unfold maxLen; omega) (by omega) hz5 _ rfl (by simp [Value.oneCell']) rfl _ _ rfl rfl rfl ?_); intro g4 cap4 w4 hown4 hgr4 hat4 hlt4); have m1 := n1.grown hgr4 (own_ne own5 n1 (by decide)); have m2 := n2.grown hgr4 (own_ne own5 n2 (by decide)); have l2 := def_lt' m2; have f2 := m2.frozen; have p2 := m2.cell 2; dsimp at p2)
        have hb4 := below_own hb5 own5 hgr4 hz5 (Nat.le_refl _)
        go_roundw
        case rel =>
          refine ⟨q + 1, by omega, by go_num, hb4.setCell (by simp; omega) _, m1.far (by simp) _, _, m2.set_ 2 _, ?_⟩
          rw [HS.out, sps_append, List.length_append]
          exact ownsRow_setCell_other hown4 (own_ne hown4 m2 (by decide)) _
        case measure => simp [intOf]; omega
    · obtain rfl : L.length = q := by omega
      rw [List.take_length] at hown
      obtain ⟨A4, c4, rfl, p1, p2, p3, hr4⟩ := own_form hown
      have c0 := j1.cell 0; have c1 := j1.cell 1; have c2 := j1.cell 2; have l1 := def_lt' j1; have f1 := j1.frozen
      have d0 := j2.cell 0; have d1 := j2.cell 1; have d2 := j2.cell 2
      dsimp at c0 c1 c2 d0 d1 d2
      have o0 := ownsRow_setCell_other hown (own_ne hown j1 (by decide)) (a := ⟨w.heap.size + 1, 0, none⟩) (.bool o)
      have o1 := ownsRow_setCell_other o0 (own_ne o0 (j1.set_ 0 _) (by decide)) (a := ⟨w.heap.size + 1, 1, none⟩) (.int .i64 ct)
      have o2 := ownsRow_setCell_other o1 (own_ne o1 ((j1.set_ 0 _).set_ 1 _) (by decide)) (a := ⟨w.heap.size + 1, 2, none⟩) (.slice A4 (overS l L).length c4)
      have y : Bk (((wr.setCell ⟨w.heap.size + 1, 0, none⟩ (.bool o)).setCell ⟨w.heap.size + 1, 1, none⟩ (.int .i64 ct)).setCell ⟨w.heap.size + 1, 2, none⟩ (.slice A4 (overS l L).length c4)) (w.heap.size + 1) 31 #[.bool o, .int .i64 ct, .slice A4 (overS l L).length c4] := ((j1.set_ 0 _).set_ 1 _).set_ 2 _
      have q0 := y.cell 0; have q1 := y.cell 1; have q2 := y.cell 2
      dsimp at q0 q1 q2
      have hbe := ((hbr.setCell (p := ⟨w.heap.size + 1, 0, none⟩) (by simp) (.bool o)).setCell (p := ⟨w.heap.size + 1, 1, none⟩) (by simp) (.int .i64 ct)).setCell (p := ⟨w.heap.size + 1, 2, none⟩) (by simp) (.slice A4 (overS l L).length c4)
      have O2 := Lib.hid o2
      have HBE := Lib.hid hbe
      clear o0 o1 o2 hbe y j1 j2 hown k0 k1 k2 hb0 hr4
      go_wp2
      exact bodyPost_ret (v := .agg #[.bool o, .int .i64 ct, .slice A4 (overS l L).length c4]) (by simp [results, Try.results16, go_sem, q0, q1, q2]) rfl ⟨A4, c4, rfl, Rd.of_own O2.out, fun e => (p3 e).1, p1, p2, HBE.out⟩
end Go.Proofs.Ytjenokeeokghgaa
