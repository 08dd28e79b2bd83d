/- group: GroupShifts -/
import Derived.Test.YtjenokeeokghgaaGrG
namespace Go.Proofs.Ytjenokeeokghgaa
open Go.RowKit

set_option maxHeartbeats 400000 in
theorem few25_any (k f t g h i m v : Int) (A A' : Option Addr) (n n' c c' : Nat) (w : World) :
    Calls Try.prog 6 #[.agg #[.int .i64 k, .int .i64 f, .int .i64 t, .int .i64 g, .int .i64 h, .int .i64 i, .int .i64 m, .int .i64 v, .slice A n c, .slice A' n' c']] w fun e w' => e = .returned (.bool (decide (n ≤ 60 ∧ n' ≤ 150))) ∧ Below w.heap.size w w' := by
  go_enter Try.func6, Try.ntmps6
  go_wp2
  all_goals go_ret
  all_goals exact ⟨ret_bool (by rw [Bool.eq_iff_iff]; simp; try omega), by repeat (first | with_reducible exact Below.refl _ _ | with_reducible assumption | (with_reducible refine below_drewN ?_ _) | (with_reducible refine Below.drew ?_) | (with_reducible refine Below.alloc ?_ ?_ _; rotate_left; focus (first | with_reducible assumption | omega | (simp; done) | (simp; omega))) | (with_reducible refine Below.setCell ?_ ?_ _; rotate_left; focus (first | with_reducible assumption | omega | (simp; done) | (simp; omega))))⟩

theorem fresh_by (o : Bool) (ct tm dl b : Int) (T : Bool) : freshB o (ct + b) (tm + b) dl T = freshB o ct tm dl T := by
  unfold freshB
  rw [show tm + b - (ct + b) = tm - ct by omega, show decide (tm + b < ct + b) = decide (tm < ct) from decide_eq_decide.2 (by omega)]

set_option maxRecDepth 100000 in
set_option maxHeartbeats 4000000 in
theorem shifts_any (k f t g h i m v : Int) (A A' : Option Addr) (n n' c c' : Nat) (sl : List Tok) (st : List Mk) (B : Option Addr) (l cl : Nat) (L : List Sp) (o : Bool) (ct tm dl by_ : Int) (w : World) (hn : n ≤ maxLen) (hn' : n' ≤ maxLen) (hl : l ≤ maxLen) (hrd : Rd w w.heap.size 12 A n (toks sl)) (hrd' : Rd w w.heap.size 8 A' n' (mks st)) (hrs : Rd w w.heap.size 2 B l (sps L))
    (hct : -9223372036854775808 ≤ ct ∧ ct ≤ 9223372036854775807) (htm : -9223372036854775808 ≤ tm ∧ tm ≤ 9223372036854775807) (hdl : -9223372036854775808 ≤ dl ∧ dl ≤ 9223372036854775807) (hby : 0 ≤ by_ ∧ by_ ≤ 4294967295) :
    Calls Try.prog 4 #[.agg #[.bool o, .int .i64 ct, .slice B l cl], .int .i64 tm, .agg #[.int .i64 k, .int .i64 f, .int .i64 t, .int .i64 g, .int .i64 h, .int .i64 i, .int .i64 m, .int .i64 v, .slice A n c, .slice A' n' c'], .int .i64 dl, .int .u32 by_] w fun e w' => e = .returned (.bool true) ∧ Below w.heap.size w w' := by
  have hlv := fun W (hb : Below w.heap.size w W) => calls_on hb (live36_any W)
  have HLV := Lib.hid hlv
  have hfw := fun W (hb : Below w.heap.size w W) => calls_on hb (few25_any k f t g h i m v A A' n n' c c' W)
  have k1 : Bk ((w.alloc (.cells #[.bool o, .int .i64 ct, .slice B l cl] 24)).alloc (.cells #[.int .i64 k, .int .i64 f, .int .i64 t, .int .i64 g, .int .i64 h, .int .i64 i, .int .i64 m, .int .i64 v, .slice A n c, .slice A' n' c'] 28)) w.heap.size 24 #[.bool o, .int .i64 ct, .slice B l cl] := (Bk.new w 24 _).alloc _
  have k2 : Bk ((w.alloc (.cells #[.bool o, .int .i64 ct, .slice B l cl] 24)).alloc (.cells #[.int .i64 k, .int .i64 f, .int .i64 t, .int .i64 g, .int .i64 h, .int .i64 i, .int .i64 m, .int .i64 v, .slice A n c, .slice A' n' c'] 28)) (w.heap.size + 1) 28 #[.int .i64 k, .int .i64 f, .int .i64 t, .int .i64 g, .int .i64 h, .int .i64 i, .int .i64 m, .int .i64 v, .slice A n c, .slice A' n' c'] := Bk.made 28 _ (by simp)
  clear hlv
  unfold maxLen at hl
  by_cases h50 : (50 : Int) < l
  · clear hfw hrd hrd' hrs hct htm hdl hby hn hn' hl
    go_enter Try.func4, Try.ntmps4
    go_wp2_with (first
      | (go_at_call 7; (refine (HLV.out _ (by first | exact hb1 | repeat (first | with_reducible exact Below.refl _ _ | with_reducible assumption | (with_reducible refine below_drewN ?_ _) | (with_reducible refine Below.drew ?_) | (with_reducible refine Below.alloc ?_ ?_ _; rotate_left; focus (first | with_reducible assumption | omega | (simp; done) | (simp; omega))) | (with_reducible refine Below.setCell ?_ ?_ _; rotate_left; focus (first | with_reducible assumption | omega | (simp; done) | (simp; omega)))))).mono ?_); rintro e w9 ⟨rfl, hb9, _, _⟩))
    go_ret
    exact ⟨rfl, hb9⟩
  have h50' : ¬ (50 : Int) < l := h50
  cases hfe : decide (n ≤ 60 ∧ n' ≤ 150) with
  | false =>
    rw [hfe] at hfw
    have HFW := Lib.hid hfw
    clear hfw hrd hrd' hrs hct htm hdl hby hn hn' hl hfe
    go_enter Try.func4, Try.ntmps4
    go_wp2_with (first
      | (go_at_call 7; (refine (HLV.out _ (by first | exact hb1 | repeat (first | with_reducible exact Below.refl _ _ | with_reducible assumption | (with_reducible refine below_drewN ?_ _) | (with_reducible refine Below.drew ?_) | (with_reducible refine Below.alloc ?_ ?_ _; rotate_left; focus (first | with_reducible assumption | omega | (simp; done) | (simp; omega))) | (with_reducible refine Below.setCell ?_ ?_ _; rotate_left; focus (first | with_reducible assumption | omega | (simp; done) | (simp; omega)))))).mono ?_); rintro e w9 ⟨rfl, hb9, _, _⟩)
      | (go_at_call 6; (refine (HFW.out _ (by repeat (first | with_reducible exact Below.refl _ _ | with_reducible assumption | (with_reducible refine below_drewN ?_ _) | (with_reducible refine Below.drew ?_) | (with_reducible refine Below.alloc ?_ ?_ _; rotate_left; focus (first | with_reducible assumption | omega | (simp; done) | (simp; omega))) | (with_reducible refine Below.setCell ?_ ?_ _; rotate_left; focus (first | with_reducible assumption | omega | (simp; done) | (simp; omega)))))).mono ?_); rintro e w1 ⟨rfl, hb1, hz1, hx1⟩; have j1 := k1.ext hx1; have l1 := def_lt' j1; have a0 := j1.cell 0; have a1 := j1.cell 1; have a2 := j1.cell 2; dsimp at a0 a1 a2))
    go_ret
    exact ⟨rfl, hb9⟩
  | true =>
    rw [hfe] at hfw
    have HFW := Lib.hid hfw
    have hfe := of_decide_eq_true hfe
    by_cases h1 : 4611686018427387904 < tm
    · clear hfw hrd hrd' hrs hct htm hdl hby hn hn' hl hfe
      go_enter Try.func4, Try.ntmps4
      go_wp2_with (first
        | (go_at_call 7; (refine (HLV.out _ (by first | exact hb1 | repeat (first | with_reducible exact Below.refl _ _ | with_reducible assumption | (with_reducible refine below_drewN ?_ _) | (with_reducible refine Below.drew ?_) | (with_reducible refine Below.alloc ?_ ?_ _; rotate_left; focus (first | with_reducible assumption | omega | (simp; done) | (simp; omega))) | (with_reducible refine Below.setCell ?_ ?_ _; rotate_left; focus (first | with_reducible assumption | omega | (simp; done) | (simp; omega)))))).mono ?_); rintro e w9 ⟨rfl, hb9, _, _⟩)
        | (go_at_call 6; (refine (HFW.out _ (by repeat (first | with_reducible exact Below.refl _ _ | with_reducible assumption | (with_reducible refine below_drewN ?_ _) | (with_reducible refine Below.drew ?_) | (with_reducible refine Below.alloc ?_ ?_ _; rotate_left; focus (first | with_reducible assumption | omega | (simp; done) | (simp; omega))) | (with_reducible refine Below.setCell ?_ ?_ _; rotate_left; focus (first | with_reducible assumption | omega | (simp; done) | (simp; omega)))))).mono ?_); rintro e w1 ⟨rfl, hb1, hz1, hx1⟩; have j1 := k1.ext hx1; have l1 := def_lt' j1; have a0 := j1.cell 0; have a1 := j1.cell 1; have a2 := j1.cell 2; dsimp at a0 a1 a2))
      go_ret
      exact ⟨rfl, hb9⟩
    by_cases h2 : 4611686018427387904 < ct
    · clear hfw hrd hrd' hrs hct htm hdl hby hn hn' hl hfe
      go_enter Try.func4, Try.ntmps4
      go_wp2_with (first
        | (go_at_call 7; (refine (HLV.out _ (by first | exact hb1 | repeat (first | with_reducible exact Below.refl _ _ | with_reducible assumption | (with_reducible refine below_drewN ?_ _) | (with_reducible refine Below.drew ?_) | (with_reducible refine Below.alloc ?_ ?_ _; rotate_left; focus (first | with_reducible assumption | omega | (simp; done) | (simp; omega))) | (with_reducible refine Below.setCell ?_ ?_ _; rotate_left; focus (first | with_reducible assumption | omega | (simp; done) | (simp; omega)))))).mono ?_); rintro e w9 ⟨rfl, hb9, _, _⟩)
        | (go_at_call 6; (refine (HFW.out _ (by repeat (first | with_reducible exact Below.refl _ _ | with_reducible assumption | (with_reducible refine below_drewN ?_ _) | (with_reducible refine Below.drew ?_) | (with_reducible refine Below.alloc ?_ ?_ _; rotate_left; focus (first | with_reducible assumption | omega | (simp; done) | (simp; omega))) | (with_reducible refine Below.setCell ?_ ?_ _; rotate_left; focus (first | with_reducible assumption | omega | (simp; done) | (simp; omega)))))).mono ?_); rintro e w1 ⟨rfl, hb1, hz1, hx1⟩; have j1 := k1.ext hx1; have l1 := def_lt' j1; have a0 := j1.cell 0; have a1 := j1.cell 1; have a2 := j1.cell 2; dsimp at a0 a1 a2))
      go_ret
      exact ⟨rfl, hb9⟩
    have e1 : IntKind.i64.wrap by_ = by_ := IntWalk.i64_in _ (by omega)
    have e2 : IntKind.i64.wrap (ct + by_) = ct + by_ := IntWalk.i64_in _ (by omega)
    have e3 : IntKind.i64.wrap (tm + by_) = tm + by_ := IntWalk.i64_in _ (by omega)
    have hf1 := fun W (hb : Below w.heap.size w W) => calls_on hb (fresh_any k f t g h i m v A A' n n' c c' sl st B l cl L o ct tm dl W hn hn' (by unfold maxLen; omega) ((hrd.below hb).more hb.size) ((hrd'.below hb).more hb.size) ((hrs.below hb).more hb.size) hct htm hdl)
    have hf2 := fun W (hb : Below w.heap.size w W) => calls_on hb (fresh_any k f t g h i m v A A' n n' c c' sl st B l cl L o (ct + by_) (tm + by_) dl W hn hn' (by unfold maxLen; omega) ((hrd.below hb).more hb.size) ((hrd'.below hb).more hb.size) ((hrs.below hb).more hb.size) (by omega) (by omega) hdl)
    simp only [fresh_by] at hf2
    generalize freshB o ct tm dl (touchB k f t g h i m v n n' L) = fb at *
    have HF1 := Lib.hid hf1
    have HF2 := Lib.hid hf2
    clear hf1 hf2 hfw hrd hrd' hrs hct htm hdl hby hn hn' hl hfe
    go_enter Try.func4, Try.ntmps4
    go_wp2_with (go_at_call 6; (refine (HFW.out _ (by repeat (first | with_reducible exact Below.refl _ _ | with_reducible assumption | (with_reducible refine below_drewN ?_ _) | (with_reducible refine Below.drew ?_) | (with_reducible refine Below.alloc ?_ ?_ _; rotate_left; focus (first | with_reducible assumption | omega | (simp; done) | (simp; omega))) | (with_reducible refine Below.setCell ?_ ?_ _; rotate_left; focus (first | with_reducible assumption | omega | (simp; done) | (simp; omega)))))).mono ?_); rintro e w1 ⟨rfl, hb1, hz1, hx1⟩; have j1 := k1.ext hx1; have l1 := def_lt' j1; have a0 := j1.cell 0; have a1 := j1.cell 1; have a2 := j1.cell 2; dsimp at a0 a1 a2)
    have j2 := k2.ext hx1
    have hw2 : Below w1.heap.size w1 (w1.alloc (.cells #[.bool o, .int .i64 (ct + by_), .slice B l cl] 24)) := (Below.refl _ _).alloc (Nat.le_refl _) _
    have j1' := j1.ext hw2
    have j2' := j2.ext hw2
    have j3' := Bk.new w1 24 #[.bool o, .int .i64 (ct + by_), .slice B l cl]
    have hb2 : Below w.heap.size w (w1.alloc (.cells #[.bool o, .int .i64 (ct + by_), .slice B l cl] 24)) := hb1.trans (hw2.mono hz1)
    generalize w1.alloc (.cells #[.bool o, .int .i64 (ct + by_), .slice B l cl] 24) = w2 at *
    have hF : ∀ w', Below w2.heap.size w2 w' → w'.cell? ⟨w.heap.size, 0, none⟩ = some (.bool o) ∧ w'.cell? ⟨w.heap.size, 1, none⟩ = some (.int .i64 ct) ∧ w'.cell? ⟨w.heap.size, 2, none⟩ = some (.slice B l cl) ∧ w'.cell? ⟨w.heap.size + 1, 0, none⟩ = some (.int .i64 k) ∧ w'.cell? ⟨w.heap.size + 1, 1, none⟩ = some (.int .i64 f) ∧ w'.cell? ⟨w.heap.size + 1, 2, none⟩ = some (.int .i64 t) ∧ w'.cell? ⟨w.heap.size + 1, 3, none⟩ = some (.int .i64 g) ∧ w'.cell? ⟨w.heap.size + 1, 4, none⟩ = some (.int .i64 h) ∧ w'.cell? ⟨w.heap.size + 1, 5, none⟩ = some (.int .i64 i) ∧ w'.cell? ⟨w.heap.size + 1, 6, none⟩ = some (.int .i64 m) ∧ w'.cell? ⟨w.heap.size + 1, 7, none⟩ = some (.int .i64 v) ∧ w'.cell? ⟨w.heap.size + 1, 8, none⟩ = some (.slice A n c) ∧ w'.cell? ⟨w.heap.size + 1, 9, none⟩ = some (.slice A' n' c') ∧ w'.cell? ⟨w1.heap.size, 0, none⟩ = some (.bool o) ∧ w'.cell? ⟨w1.heap.size, 1, none⟩ = some (.int .i64 (ct + by_)) ∧ w'.cell? ⟨w1.heap.size, 2, none⟩ = some (.slice B l cl) := fun w' hb => ⟨(j1'.ext hb).cell 0, (j1'.ext hb).cell 1, (j1'.ext hb).cell 2, (j2'.ext hb).cell 0, (j2'.ext hb).cell 1, (j2'.ext hb).cell 2, (j2'.ext hb).cell 3, (j2'.ext hb).cell 4, (j2'.ext hb).cell 5, (j2'.ext hb).cell 6, (j2'.ext hb).cell 7, (j2'.ext hb).cell 8, (j2'.ext hb).cell 9, (j3'.ext hb).cell 0, (j3'.ext hb).cell 1, (j3'.ext hb).cell 2⟩
    have HF := Lib.hid hF
    have hbb : ((fb == fb) : Bool) = true := by simp
    clear hF j1' j2' j3' j1 j2 a0 a1 a2 hx1 k1 k2 hw2
    refine wp_normal ?_
    refine wp_region_held_drew (S := fun w' => Below w2.heap.size w2 w') (by kernel_rfl) (Below.refl _ _).drew (fun hHeld => ?_)
    (refine take_if (i := 0) (oi := _) (v := ?_) (by simp only [List.getElem?_toArray, List.getElem?_cons_zero]; rfl) (by kernel_rfl) (by kernel_rfl) (by kernel_rfl) (fun _ _ _ h => h) (by rfl) ?_ (by assumption) ?_; rotate_left; (focus ((intro w hSw; (try have hSw := HF.out _ hSw); (try dsimp only at hSw); go_simp); try exact rfl)); simp only [Act.put, List.setIfInBounds_toArray, List.set_cons_zero, List.set_cons_succ]; refine take_if (i := 1) (oi := _) (v := ?_) (by simp only [List.getElem?_toArray, List.getElem?_cons_succ, List.getElem?_cons_zero]; rfl) (by kernel_rfl) (by kernel_rfl) (by kernel_rfl) (fun _ _ _ h => h) (by rfl) ?_ (by assumption) ?_; rotate_left; (focus ((intro w hSw; (try have hSw := HF.out _ hSw); (try dsimp only at hSw); go_simp); try exact rfl)); simp only [Act.put, List.setIfInBounds_toArray, List.set_cons_zero, List.set_cons_succ]; refine take_if (i := 2) (oi := _) (v := ?_) (by simp only [List.getElem?_toArray, List.getElem?_cons_succ, List.getElem?_cons_zero]; rfl) (by kernel_rfl) (by kernel_rfl) (by kernel_rfl) (fun _ _ _ h => h) (by rfl) ?_ (by assumption) ?_; rotate_left; (focus ((intro w hSw; (try have hSw := HF.out _ hSw); (try dsimp only at hSw); go_simp); try exact rfl)); simp only [Act.put, List.setIfInBounds_toArray, List.set_cons_zero, List.set_cons_succ]; refine take_if (i := 3) (oi := _) (v := ?_) (by simp only [List.getElem?_toArray, List.getElem?_cons_succ, List.getElem?_cons_zero]; rfl) (by kernel_rfl) (by kernel_rfl) (by kernel_rfl) (fun _ _ _ h => h) (by rfl) ?_ (by assumption) ?_; rotate_left; (focus ((intro w hSw; (try have hSw := HF.out _ hSw); (try dsimp only at hSw); go_simp); try exact rfl)); simp only [Act.put, List.setIfInBounds_toArray, List.set_cons_zero, List.set_cons_succ]; refine take_if (i := 5) (oi := _) (v := ?_) (by simp only [List.getElem?_toArray, List.getElem?_cons_succ, List.getElem?_cons_zero]; rfl) (by kernel_rfl) (by kernel_rfl) (by kernel_rfl) (fun _ _ _ h => h) (by rfl) ?_ (by assumption) ?_; rotate_left; (focus ((intro w hSw; (try have hSw := HF.out _ hSw); (try dsimp only at hSw); go_simp); try exact rfl)); simp only [Act.put, List.setIfInBounds_toArray, List.set_cons_zero, List.set_cons_succ]; refine take_if (i := 6) (oi := _) (v := ?_) (by simp only [List.getElem?_toArray, List.getElem?_cons_succ, List.getElem?_cons_zero]; rfl) (by kernel_rfl) (by kernel_rfl) (by kernel_rfl) (fun _ _ _ h => h) (by rfl) ?_ (by assumption) ?_; rotate_left; (focus ((intro w hSw; (try have hSw := HF.out _ hSw); (try dsimp only at hSw); go_simp); try exact rfl)); simp only [Act.put, List.setIfInBounds_toArray, List.set_cons_zero, List.set_cons_succ]; refine take_if (i := 7) (oi := _) (v := ?_) (by simp only [List.getElem?_toArray, List.getElem?_cons_succ, List.getElem?_cons_zero]; rfl) (by kernel_rfl) (by kernel_rfl) (by kernel_rfl) (fun _ _ _ h => h) (by rfl) ?_ (by assumption) ?_; rotate_left; (focus ((intro w hSw; (try have hSw := HF.out _ hSw); (try dsimp only at hSw); go_simp); try exact rfl)); simp only [Act.put, List.setIfInBounds_toArray, List.set_cons_zero, List.set_cons_succ]; refine take_if (i := 8) (oi := _) (v := ?_) (by simp only [List.getElem?_toArray, List.getElem?_cons_succ, List.getElem?_cons_zero]; rfl) (by kernel_rfl) (by kernel_rfl) (by kernel_rfl) (fun _ _ _ h => h) (by rfl) ?_ (by assumption) ?_; rotate_left; (focus ((intro w hSw; (try have hSw := HF.out _ hSw); (try dsimp only at hSw); go_simp); try exact rfl)); simp only [Act.put, List.setIfInBounds_toArray, List.set_cons_zero, List.set_cons_succ]; refine take_if (i := 9) (oi := _) (v := ?_) (by simp only [List.getElem?_toArray, List.getElem?_cons_succ, List.getElem?_cons_zero]; rfl) (by kernel_rfl) (by kernel_rfl) (by kernel_rfl) (fun _ _ _ h => h) (by rfl) ?_ (by assumption) ?_; rotate_left; (focus ((intro w hSw; (try have hSw := HF.out _ hSw); (try dsimp only at hSw); go_simp); try exact rfl)); simp only [Act.put, List.setIfInBounds_toArray, List.set_cons_zero, List.set_cons_succ]; refine take_if (i := 10) (oi := _) (v := ?_) (by simp only [List.getElem?_toArray, List.getElem?_cons_succ, List.getElem?_cons_zero]; rfl) (by kernel_rfl) (by kernel_rfl) (by kernel_rfl) (fun _ _ _ h => h) (by rfl) ?_ (by assumption) ?_; rotate_left; (focus ((intro w hSw; (try have hSw := HF.out _ hSw); (try dsimp only at hSw); go_simp); try exact rfl)); simp only [Act.put, List.setIfInBounds_toArray, List.set_cons_zero, List.set_cons_succ]; refine take_if (i := 11) (oi := _) (v := ?_) (by simp only [List.getElem?_toArray, List.getElem?_cons_succ, List.getElem?_cons_zero]; rfl) (by kernel_rfl) (by kernel_rfl) (by kernel_rfl) (fun _ _ _ h => h) (by rfl) ?_ (by assumption) ?_; rotate_left; (focus ((intro w hSw; (try have hSw := HF.out _ hSw); (try dsimp only at hSw); go_simp); try exact rfl)); simp only [Act.put, List.setIfInBounds_toArray, List.set_cons_zero, List.set_cons_succ])
    refine wpAnyH_ready (rs := [4]) (by kernel_rfl) (by simp) ?_; refine (AllReadyH.cons (o := _) (by simp only [List.getElem?_toArray, List.getElem?_cons_succ, List.getElem?_cons_zero]; rfl) (fun K hK => ?_) AllReadyH.nil)
    go_simp
    go_at_call 10
    refine (HF1.out _ (hb2.trans ((Below.refl w2.heap.size w2).drew.mono hb2.size))).mono ?_
    rintro e w3 ⟨rfl, hb3, hz3, hx3⟩
    have hx3' : Below w2.heap.size w2 w3 := Below.trans (Below.refl _ _).drew hx3
    refine hK.out _ _ hx3' (fun hHeld => ?_)
    clear hK K; (try simp only [Act.put, List.setIfInBounds_toArray, List.set_cons_zero, List.set_cons_succ])
    refine wpAnyH_ready (rs := [12]) (by kernel_rfl) (by simp) ?_; refine (AllReadyH.cons (o := _) (by simp only [List.getElem?_toArray, List.getElem?_cons_succ, List.getElem?_cons_zero]; rfl) (fun K hK => ?_) AllReadyH.nil)
    go_simp
    go_at_call 10
    refine (HF2.out _ hb3).mono ?_
    rintro e w4 ⟨rfl, hbz, hz4, hx4⟩
    have hbx := hx3'.trans (hx4.mono hx3'.size)
    refine hK.out _ _ hbx (fun hHeld => ?_)
    clear hK K; (try simp only [Act.put, List.setIfInBounds_toArray, List.set_cons_zero, List.set_cons_succ])
    (refine take_if (i := 13) (oi := _) (v := ?_) (by simp only [List.getElem?_toArray, List.getElem?_cons_succ, List.getElem?_cons_zero]; rfl) (by kernel_rfl) (by kernel_rfl) (by kernel_rfl) (fun _ _ _ h => h) (by rfl) ?_ (by assumption) ?_; rotate_left; (focus ((intro w hSw; (try have hSw := HF.out _ hSw); (try dsimp only at hSw); go_simp); try exact rfl)); simp only [Act.put, List.setIfInBounds_toArray, List.set_cons_zero, List.set_cons_succ]; refine take_if (i := 14) (oi := _) (v := ?_) (by simp only [List.getElem?_toArray, List.getElem?_cons_succ, List.getElem?_cons_zero]; rfl) (by kernel_rfl) (by kernel_rfl) (by kernel_rfl) (fun _ _ _ h => h) (by rfl) ?_ (by assumption) ?_; rotate_left; (focus ((intro w hSw; (try have hSw := HF.out _ hSw); (try dsimp only at hSw); go_simp); try exact rfl)); simp only [Act.put, List.setIfInBounds_toArray, List.set_cons_zero, List.set_cons_succ])
    refine wpAnyH_ready (rs := [15]) (by kernel_rfl) (by simp) ?_; refine (AllReadyH.cons (o := _) (by simp only [List.getElem?_toArray, List.getElem?_cons_succ, List.getElem?_cons_zero]; rfl) (fun K hK => ?_) AllReadyH.nil)
    go_simp
    go_at_call 7
    refine (HLV.out _ hbz).mono ?_
    rintro e w9 ⟨rfl, hb9, hz9, hx9⟩
    have hb9' := hbx.trans (hx9.mono hbx.size)
    refine hK.out _ _ hb9' (fun hHeld => ?_)
    clear hK K; (try simp only [Act.put, List.setIfInBounds_toArray, List.set_cons_zero, List.set_cons_succ])
    (refine take_if (i := 16) (oi := _) (v := ?_) (by simp only [List.getElem?_toArray, List.getElem?_cons_succ, List.getElem?_cons_zero]; rfl) (by kernel_rfl) (by kernel_rfl) (by kernel_rfl) (fun _ _ _ h => h) (by rfl) ?_ (by assumption) ?_; rotate_left; (focus ((intro w hSw; (try have hSw := HF.out _ hSw); (try dsimp only at hSw); go_simp); try exact rfl)); simp only [Act.put, List.setIfInBounds_toArray, List.set_cons_zero, List.set_cons_succ]; refine take_if (i := 17) (oi := _) (v := ?_) (by simp only [List.getElem?_toArray, List.getElem?_cons_succ, List.getElem?_cons_zero]; rfl) (by kernel_rfl) (by kernel_rfl) (by kernel_rfl) (fun _ _ _ h => h) (by rfl) ?_ (by assumption) ?_; rotate_left; (focus ((intro w hSw; (try have hSw := HF.out _ hSw); (try dsimp only at hSw); go_simp); try exact rfl)); simp only [Act.put, List.setIfInBounds_toArray, List.set_cons_zero, List.set_cons_succ])
    refine wpAnyH_done (by kernel_rfl) ?_ _
    go_wp2
    go_ret
    exact ⟨rfl, hb9⟩
end Go.Proofs.Ytjenokeeokghgaa
