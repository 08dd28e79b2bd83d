/- group: GroupFresh -/
import Derived.Test.YtjenokeeokghgaaGrK
namespace Go.Proofs.Ytjenokeeokghgaa
open Go.RowKit

theorem fresh_shut (ct tm dl : Int) (T : Bool) : freshB false ct tm dl T = true := by
  unfold freshB; rfl

set_option maxRecDepth 100000 in
set_option maxHeartbeats 4000000 in
theorem gfresh_any (k f t g h i m v : Int) (A A' : Option Addr) (n n' c c' : Nat) (sl : List Tok) (st : List Mk) (B : Option Addr) (l cl : Nat) (L : List Sp) (o : Bool) (ct tm dl : Int) (w : World) (hn : n ≤ maxLen) (hn' : n' ≤ maxLen) (hl : l ≤ maxLen) (hLl : L.length = l) (hB : B = none → l = 0) (hrd : Rd w w.heap.size 12 A n (toks sl)) (hrd' : Rd w w.heap.size 8 A' n' (mks st)) (hrs : Rd w w.heap.size 2 B l (sps L))
    (hct : -9223372036854775808 ≤ ct ∧ ct ≤ 9223372036854775807) (htm : -9223372036854775808 ≤ tm ∧ tm ≤ 9223372036854775807) (hdl : -9223372036854775808 ≤ dl ∧ dl ≤ 9223372036854775807) :
    Calls Try.prog 3 #[.agg #[.bool o, .int .i64 ct, .slice B l cl], .int .i64 tm, .agg #[.int .i64 k, .int .i64 f, .int .i64 t, .int .i64 g, .int .i64 h, .int .i64 i, .int .i64 m, .int .i64 v, .slice A n c, .slice A' n' c'], .int .i64 dl] w fun e w' => e = .returned (.bool true) ∧ Below w.heap.size w w' := by
  have hlv := fun W (hb : Below w.heap.size w W) => calls_on hb (live36_any W)
  have HLV := Lib.hid hlv
  have hfw := fun W (hb : Below w.heap.size w W) => calls_on hb (few25_any k f t g h i m v A A' n n' c c' W)
  have k1 : Bk ((w.alloc (.cells #[.bool o, .int .i64 ct, .slice B l cl] 24)).alloc (.cells #[.int .i64 k, .int .i64 f, .int .i64 t, .int .i64 g, .int .i64 h, .int .i64 i, .int .i64 m, .int .i64 v, .slice A n c, .slice A' n' c'] 28)) w.heap.size 24 #[.bool o, .int .i64 ct, .slice B l cl] := (Bk.new w 24 _).alloc _
  have k2 : Bk ((w.alloc (.cells #[.bool o, .int .i64 ct, .slice B l cl] 24)).alloc (.cells #[.int .i64 k, .int .i64 f, .int .i64 t, .int .i64 g, .int .i64 h, .int .i64 i, .int .i64 m, .int .i64 v, .slice A n c, .slice A' n' c'] 28)) (w.heap.size + 1) 28 #[.int .i64 k, .int .i64 f, .int .i64 t, .int .i64 g, .int .i64 h, .int .i64 i, .int .i64 m, .int .i64 v, .slice A n c, .slice A' n' c'] := Bk.made 28 _ (by simp)
  clear hlv
  unfold maxLen at hl
  by_cases h50 : (50 : Int) < l
  · clear hfw hrd hrd' hrs hct htm hdl hn hn' hl hLl hB
    go_enter Try.func3, Try.ntmps3
    go_wp2_with (first
      | (go_at_call 7; (refine (HLV.out _ (by first | exact hb1 | repeat (first | with_reducible exact Below.refl _ _ | with_reducible assumption | (with_reducible refine below_drewN ?_ _) | (with_reducible refine Below.drew ?_) | (with_reducible refine Below.alloc ?_ ?_ _; rotate_left; focus (first | with_reducible assumption | omega | (simp; done) | (simp; omega))) | (with_reducible refine Below.setCell ?_ ?_ _; rotate_left; focus (first | with_reducible assumption | omega | (simp; done) | (simp; omega)))))).mono ?_); rintro e w9 ⟨rfl, hb9, _, _⟩))
    go_ret
    exact ⟨rfl, hb9⟩
  have h50' : ¬ (50 : Int) < l := h50
  cases hfe : decide (n ≤ 60 ∧ n' ≤ 150) with
  | false =>
    rw [hfe] at hfw
    have HFW := Lib.hid hfw
    clear hfw hrd hrd' hrs hct htm hdl hn hn' hl hfe hLl hB
    go_enter Try.func3, Try.ntmps3
    go_wp2_with (first
      | (go_at_call 7; (refine (HLV.out _ (by first | exact hb1 | repeat (first | with_reducible exact Below.refl _ _ | with_reducible assumption | (with_reducible refine below_drewN ?_ _) | (with_reducible refine Below.drew ?_) | (with_reducible refine Below.alloc ?_ ?_ _; rotate_left; focus (first | with_reducible assumption | omega | (simp; done) | (simp; omega))) | (with_reducible refine Below.setCell ?_ ?_ _; rotate_left; focus (first | with_reducible assumption | omega | (simp; done) | (simp; omega)))))).mono ?_); rintro e w9 ⟨rfl, hb9, _, _⟩)
      | (go_at_call 6; (refine (HFW.out _ (by repeat (first | with_reducible exact Below.refl _ _ | with_reducible assumption | (with_reducible refine below_drewN ?_ _) | (with_reducible refine Below.drew ?_) | (with_reducible refine Below.alloc ?_ ?_ _; rotate_left; focus (first | with_reducible assumption | omega | (simp; done) | (simp; omega))) | (with_reducible refine Below.setCell ?_ ?_ _; rotate_left; focus (first | with_reducible assumption | omega | (simp; done) | (simp; omega)))))).mono ?_); rintro e w1 ⟨rfl, hb1, hz1, hx1⟩; have j1 := k1.ext hx1; have l1 := def_lt' j1; have a0 := j1.cell 0; have a1 := j1.cell 1; have a2 := j1.cell 2; dsimp at a0 a1 a2))
    go_ret
    exact ⟨rfl, hb9⟩
  | true =>
    rw [hfe] at hfw
    have HFW := Lib.hid hfw
    have hfe := of_decide_eq_true hfe
    have ht1 := fun W (hb : Below w.heap.size w W) => calls_on hb (touches_any k f t g h i m v A A' n n' c c' sl st B l cl L W hn hn' (by unfold maxLen; omega) ((hrd.below hb).more hb.size) ((hrd'.below hb).more hb.size) ((hrs.below hb).more hb.size))
    have ht2 := fun W (hb : Below w.heap.size w W) => calls_on hb (rtouches_any k f t g h i m v A A' n n' c c' B l cl L W (by omega) (by omega) (by omega) ((hrs.below hb).more hb.size))
    have hf1 := fun W (hb : Below w.heap.size w W) => calls_on hb (fresh_any k f t g h i m v A A' n n' c c' sl st B l cl L o ct tm dl W hn hn' (by unfold maxLen; omega) ((hrd.below hb).more hb.size) ((hrd'.below hb).more hb.size) ((hrs.below hb).more hb.size) hct htm hdl)
    have hf2 := fun W (hb : Below w.heap.size w W) => calls_on hb (rfresh_any k f t g h i m v A A' n n' c c' B l cl L o ct tm dl W (by omega) (by omega) (by omega) ((hrs.below hb).more hb.size) hct htm hdl)
    have hst := fun W (hb : Below w.heap.size w W) => (by
      have := shut_any o ct B cl L W (by rw [hLl]; exact (hrs.below hb).more hb.size) (by rw [hLl]; exact hB) (by omega)
      rw [hLl] at this
      exact this : Calls Try.prog 12 #[.agg #[.bool o, .int .i64 ct, .slice B l cl]] W (Clk W false ct L))
    have hf3 := fun W (B2 : Option Addr) (c2 : Nat) (hb : Below w.heap.size w W) (hr : Rd W W.heap.size 2 B2 L.length (sps L)) => calls_on hb (fresh_any k f t g h i m v A A' n n' c c' sl st B2 L.length c2 L false ct tm dl W hn hn' (by unfold maxLen; omega) ((hrd.below hb).more hb.size) ((hrd'.below hb).more hb.size) hr hct htm hdl)
    simp only [fresh_shut] at hf3
    have hf4 := fun W (B2 : Option Addr) (c2 : Nat) (hb : Below w.heap.size w W) (hr : Rd W W.heap.size 2 B2 1 (sps [⟨f, t⟩])) => calls_on hb (fresh_any k f t g h i m v A A' n n' c c' sl st B2 1 c2 [⟨f, t⟩] true tm tm dl W hn hn' (by unfold maxLen; omega) ((hrd.below hb).more hb.size) ((hrd'.below hb).more hb.size) hr htm htm hdl)
    have hsp := fun W (hb : Below w.heap.size w W) => calls_on hb (rshape_any k f t g h i m v A A' n n' c c' W (by omega) (by omega))
    have hag : Hid (shB k f t g h i m v n n' = true → freshB true tm tm dl (touchB k f t g h i m v n n' [⟨f, t⟩]) = false) := Lib.hid fun hsh => again_not hsh
    generalize hfb1 : freshB o ct tm dl (touchB k f t g h i m v n n' L) = fb at *
    generalize hfb2 : touchB k f t g h i m v n n' L = T at *
    generalize hfb3 : freshB true tm tm dl (touchB k f t g h i m v n n' [⟨f, t⟩]) = fa at *
    have HT1 := Lib.hid ht1
    have HT2 := Lib.hid ht2
    have HF1 := Lib.hid hf1
    have HF2 := Lib.hid hf2
    have HF3 := Lib.hid hf3
    have HF4 := Lib.hid hf4
    have HSH := Lib.hid hst
    have HSP := Lib.hid hsp
    clear ht1 ht2 hf1 hf2 hf3 hf4 hst hsp hfb1 hfb2 hfb3 hfw hrd hrd' hrs hct htm hdl hn hn' hl hfe hLl hB
    go_enter Try.func3, Try.ntmps3
    go_wp2_with (go_at_call 6; (refine (HFW.out _ (by repeat (first | with_reducible exact Below.refl _ _ | with_reducible assumption | (with_reducible refine below_drewN ?_ _) | (with_reducible refine Below.drew ?_) | (with_reducible refine Below.alloc ?_ ?_ _; rotate_left; focus (first | with_reducible assumption | omega | (simp; done) | (simp; omega))) | (with_reducible refine Below.setCell ?_ ?_ _; rotate_left; focus (first | with_reducible assumption | omega | (simp; done) | (simp; omega)))))).mono ?_); rintro e w1 ⟨rfl, hb1, hz1, hx1⟩; have j1 := k1.ext hx1; have l1 := def_lt' j1; have a0 := j1.cell 0; have a1 := j1.cell 1; have a2 := j1.cell 2; dsimp at a0 a1 a2)
    have j2 := k2.ext hx1
    have hw2 : Below w1.heap.size w1 (w1.alloc (.cells #[.bool o, .int .i64 ct, .slice B l cl] 31)) := (Below.refl _ _).alloc (Nat.le_refl _) _
    have j1' := j1.ext hw2
    have j2' := j2.ext hw2
    have j3' := Bk.new w1 31 #[.bool o, .int .i64 ct, .slice B l cl]
    have hb2 : Below w.heap.size w (w1.alloc (.cells #[.bool o, .int .i64 ct, .slice B l cl] 31)) := hb1.trans (hw2.mono hz1)
    generalize w1.alloc (.cells #[.bool o, .int .i64 ct, .slice B l cl] 31) = w2 at *
    have hF : ∀ w', Below w2.heap.size w2 w' → w'.cell? ⟨w.heap.size, 0, none⟩ = some (.bool o) ∧ w'.cell? ⟨w.heap.size, 1, none⟩ = some (.int .i64 ct) ∧ w'.cell? ⟨w.heap.size, 2, none⟩ = some (.slice B l cl) ∧ w'.cell? ⟨w.heap.size + 1, 0, none⟩ = some (.int .i64 k) ∧ w'.cell? ⟨w.heap.size + 1, 1, none⟩ = some (.int .i64 f) ∧ w'.cell? ⟨w.heap.size + 1, 2, none⟩ = some (.int .i64 t) ∧ w'.cell? ⟨w.heap.size + 1, 3, none⟩ = some (.int .i64 g) ∧ w'.cell? ⟨w.heap.size + 1, 4, none⟩ = some (.int .i64 h) ∧ w'.cell? ⟨w.heap.size + 1, 5, none⟩ = some (.int .i64 i) ∧ w'.cell? ⟨w.heap.size + 1, 6, none⟩ = some (.int .i64 m) ∧ w'.cell? ⟨w.heap.size + 1, 7, none⟩ = some (.int .i64 v) ∧ w'.cell? ⟨w.heap.size + 1, 8, none⟩ = some (.slice A n c) ∧ w'.cell? ⟨w.heap.size + 1, 9, none⟩ = some (.slice A' n' c') ∧ w'.cell? ⟨w1.heap.size, 0, none⟩ = some (.bool o) ∧ w'.cell? ⟨w1.heap.size, 1, none⟩ = some (.int .i64 ct) ∧ w'.cell? ⟨w1.heap.size, 2, none⟩ = some (.slice B l cl) := fun w' hb => ⟨(j1'.ext hb).cell 0, (j1'.ext hb).cell 1, (j1'.ext hb).cell 2, (j2'.ext hb).cell 0, (j2'.ext hb).cell 1, (j2'.ext hb).cell 2, (j2'.ext hb).cell 3, (j2'.ext hb).cell 4, (j2'.ext hb).cell 5, (j2'.ext hb).cell 6, (j2'.ext hb).cell 7, (j2'.ext hb).cell 8, (j2'.ext hb).cell 9, (j3'.ext hb).cell 0, (j3'.ext hb).cell 1, (j3'.ext hb).cell 2⟩
    have HF := Lib.hid hF
    have hbb : ((fb != fb) : Bool) = false := by simp
    have hbT : ((T != T) : Bool) = false := by simp
    clear hF j1' j2' j3' j1 j2 a0 a1 a2 hx1 k1 k2 hw2
    refine wp_normal ?_
    refine wp_region_held_drew (S := fun w' => Below w2.heap.size w2 w') (by kernel_rfl) (Below.refl _ _).drew (fun hHeld => ?_)
    (refine take_if (i := 0) (oi := _) (v := ?_) (by simp only [List.getElem?_toArray, List.getElem?_cons_zero]; rfl) (by kernel_rfl) (by kernel_rfl) (by kernel_rfl) (fun _ _ _ h => h) (by rfl) ?_ (by assumption) ?_; rotate_left; (focus ((intro w hSw; (try have hSw := HF.out _ hSw); (try dsimp only at hSw); go_simp); try exact rfl)); simp only [Act.put, List.setIfInBounds_toArray, List.set_cons_zero, List.set_cons_succ]; refine take_if (i := 1) (oi := _) (v := ?_) (by simp only [List.getElem?_toArray, List.getElem?_cons_succ, List.getElem?_cons_zero]; rfl) (by kernel_rfl) (by kernel_rfl) (by kernel_rfl) (fun _ _ _ h => h) (by rfl) ?_ (by assumption) ?_; rotate_left; (focus ((intro w hSw; (try have hSw := HF.out _ hSw); (try dsimp only at hSw); go_simp); try exact rfl)); simp only [Act.put, List.setIfInBounds_toArray, List.set_cons_zero, List.set_cons_succ]; refine take_if (i := 2) (oi := _) (v := ?_) (by simp only [List.getElem?_toArray, List.getElem?_cons_succ, List.getElem?_cons_zero]; rfl) (by kernel_rfl) (by kernel_rfl) (by kernel_rfl) (fun _ _ _ h => h) (by rfl) ?_ (by assumption) ?_; rotate_left; (focus ((intro w hSw; (try have hSw := HF.out _ hSw); (try dsimp only at hSw); go_simp); try exact rfl)); simp only [Act.put, List.setIfInBounds_toArray, List.set_cons_zero, List.set_cons_succ]; refine take_if (i := 4) (oi := _) (v := ?_) (by simp only [List.getElem?_toArray, List.getElem?_cons_succ, List.getElem?_cons_zero]; rfl) (by kernel_rfl) (by kernel_rfl) (by kernel_rfl) (fun _ _ _ h => h) (by rfl) ?_ (by assumption) ?_; rotate_left; (focus ((intro w hSw; (try have hSw := HF.out _ hSw); (try dsimp only at hSw); go_simp); try exact rfl)); simp only [Act.put, List.setIfInBounds_toArray, List.set_cons_zero, List.set_cons_succ]; refine take_if (i := 5) (oi := _) (v := ?_) (by simp only [List.getElem?_toArray, List.getElem?_cons_succ, List.getElem?_cons_zero]; rfl) (by kernel_rfl) (by kernel_rfl) (by kernel_rfl) (fun _ _ _ h => h) (by rfl) ?_ (by assumption) ?_; rotate_left; (focus ((intro w hSw; (try have hSw := HF.out _ hSw); (try dsimp only at hSw); go_simp); try exact rfl)); simp only [Act.put, List.setIfInBounds_toArray, List.set_cons_zero, List.set_cons_succ]; refine take_if (i := 6) (oi := _) (v := ?_) (by simp only [List.getElem?_toArray, List.getElem?_cons_succ, List.getElem?_cons_zero]; rfl) (by kernel_rfl) (by kernel_rfl) (by kernel_rfl) (fun _ _ _ h => h) (by rfl) ?_ (by assumption) ?_; rotate_left; (focus ((intro w hSw; (try have hSw := HF.out _ hSw); (try dsimp only at hSw); go_simp); try exact rfl)); simp only [Act.put, List.setIfInBounds_toArray, List.set_cons_zero, List.set_cons_succ])
    refine wpAnyH_ready (rs := [3]) (by kernel_rfl) (by simp) ?_; refine (AllReadyH.cons (o := _) (by simp only [List.getElem?_toArray, List.getElem?_cons_succ, List.getElem?_cons_zero]; rfl) (fun K hK => ?_) AllReadyH.nil)
    go_simp
    go_at_call 8
    refine (HT1.out _ (hb2.trans ((Below.refl w2.heap.size w2).drew.mono hb2.size))).mono ?_
    rintro e w3 ⟨rfl, hb3, hz3, hx3⟩
    have hx3' : Below w2.heap.size w2 w3 := Below.trans (Below.refl _ _).drew hx3
    refine hK.out _ _ hx3' (fun hHeld => ?_)
    clear hK K; (try simp only [Act.put, List.setIfInBounds_toArray, List.set_cons_zero, List.set_cons_succ])
    refine wpAnyH_ready (rs := [7]) (by kernel_rfl) (by simp) ?_; refine (AllReadyH.cons (o := _) (by simp only [List.getElem?_toArray, List.getElem?_cons_succ, List.getElem?_cons_zero]; rfl) (fun K hK => ?_) AllReadyH.nil)
    go_simp
    go_at_call 9
    refine (HT2.out _ hb3).mono ?_
    rintro e w4 ⟨rfl, hb4, hz4, hx4⟩
    have hx4' := hx3'.trans (hx4.mono hx3'.size)
    refine hK.out _ _ hx4' (fun hHeld => ?_)
    clear hK K; (try simp only [Act.put, List.setIfInBounds_toArray, List.set_cons_zero, List.set_cons_succ])
    (refine take_if (i := 8) (oi := _) (v := ?_) (by simp only [List.getElem?_toArray, List.getElem?_cons_succ, List.getElem?_cons_zero]; rfl) (by kernel_rfl) (by kernel_rfl) (by kernel_rfl) (fun _ _ _ h => h) (by rfl) ?_ (by assumption) ?_; rotate_left; (focus ((intro w hSw; (try have hSw := HF.out _ hSw); (try dsimp only at hSw); go_simp); try exact rfl)); simp only [Act.put, List.setIfInBounds_toArray, List.set_cons_zero, List.set_cons_succ]; refine take_if (i := 9) (oi := _) (v := ?_) (by simp only [List.getElem?_toArray, List.getElem?_cons_succ, List.getElem?_cons_zero]; rfl) (by kernel_rfl) (by kernel_rfl) (by kernel_rfl) (fun _ _ _ h => h) (by rfl) ?_ (by assumption) ?_; rotate_left; (focus ((intro w hSw; (try have hSw := HF.out _ hSw); (try dsimp only at hSw); go_simp); try exact rfl)); simp only [Act.put, List.setIfInBounds_toArray, List.set_cons_zero, List.set_cons_succ]; refine take_if (i := 10) (oi := _) (v := ?_) (by simp only [List.getElem?_toArray, List.getElem?_cons_succ, List.getElem?_cons_zero]; rfl) (by kernel_rfl) (by kernel_rfl) (by kernel_rfl) (fun _ _ _ h => h) (by rfl) ?_ (by assumption) ?_; rotate_left; (focus ((intro w hSw; (try have hSw := HF.out _ hSw); (try dsimp only at hSw); go_simp); try exact rfl)); simp only [Act.put, List.setIfInBounds_toArray, List.set_cons_zero, List.set_cons_succ]; refine take_if (i := 11) (oi := _) (v := ?_) (by simp only [List.getElem?_toArray, List.getElem?_cons_succ, List.getElem?_cons_zero]; rfl) (by kernel_rfl) (by kernel_rfl) (by kernel_rfl) (fun _ _ _ h => h) (by rfl) ?_ (by assumption) ?_; rotate_left; (focus ((intro w hSw; (try have hSw := HF.out _ hSw); (try dsimp only at hSw); go_simp); try exact rfl)); simp only [Act.put, List.setIfInBounds_toArray, List.set_cons_zero, List.set_cons_succ]; refine take_if (i := 12) (oi := _) (v := ?_) (by simp only [List.getElem?_toArray, List.getElem?_cons_succ, List.getElem?_cons_zero]; rfl) (by kernel_rfl) (by kernel_rfl) (by kernel_rfl) (fun _ _ _ h => h) (by rfl) ?_ (by assumption) ?_; rotate_left; (focus ((intro w hSw; (try have hSw := HF.out _ hSw); (try dsimp only at hSw); go_simp); try exact rfl)); simp only [Act.put, List.setIfInBounds_toArray, List.set_cons_zero, List.set_cons_succ]; refine take_if (i := 13) (oi := _) (v := ?_) (by simp only [List.getElem?_toArray, List.getElem?_cons_succ, List.getElem?_cons_zero]; rfl) (by kernel_rfl) (by kernel_rfl) (by kernel_rfl) (fun _ _ _ h => h) (by rfl) ?_ (by assumption) ?_; rotate_left; (focus ((intro w hSw; (try have hSw := HF.out _ hSw); (try dsimp only at hSw); go_simp); try exact rfl)); simp only [Act.put, List.setIfInBounds_toArray, List.set_cons_zero, List.set_cons_succ]; refine take_if (i := 15) (oi := _) (v := ?_) (by simp only [List.getElem?_toArray, List.getElem?_cons_succ, List.getElem?_cons_zero]; rfl) (by kernel_rfl) (by kernel_rfl) (by kernel_rfl) (fun _ _ _ h => h) (by rfl) ?_ (by assumption) ?_; rotate_left; (focus ((intro w hSw; (try have hSw := HF.out _ hSw); (try dsimp only at hSw); go_simp); try exact rfl)); simp only [Act.put, List.setIfInBounds_toArray, List.set_cons_zero, List.set_cons_succ]; refine take_if (i := 16) (oi := _) (v := ?_) (by simp only [List.getElem?_toArray, List.getElem?_cons_succ, List.getElem?_cons_zero]; rfl) (by kernel_rfl) (by kernel_rfl) (by kernel_rfl) (fun _ _ _ h => h) (by rfl) ?_ (by assumption) ?_; rotate_left; (focus ((intro w hSw; (try have hSw := HF.out _ hSw); (try dsimp only at hSw); go_simp); try exact rfl)); simp only [Act.put, List.setIfInBounds_toArray, List.set_cons_zero, List.set_cons_succ]; refine take_if (i := 17) (oi := _) (v := ?_) (by simp only [List.getElem?_toArray, List.getElem?_cons_succ, List.getElem?_cons_zero]; rfl) (by kernel_rfl) (by kernel_rfl) (by kernel_rfl) (fun _ _ _ h => h) (by rfl) ?_ (by assumption) ?_; rotate_left; (focus ((intro w hSw; (try have hSw := HF.out _ hSw); (try dsimp only at hSw); go_simp); try exact rfl)); simp only [Act.put, List.setIfInBounds_toArray, List.set_cons_zero, List.set_cons_succ]; refine take_if (i := 18) (oi := _) (v := ?_) (by simp only [List.getElem?_toArray, List.getElem?_cons_succ, List.getElem?_cons_zero]; rfl) (by kernel_rfl) (by kernel_rfl) (by kernel_rfl) (fun _ _ _ h => h) (by rfl) ?_ (by assumption) ?_; rotate_left; (focus ((intro w hSw; (try have hSw := HF.out _ hSw); (try dsimp only at hSw); go_simp); try exact rfl)); simp only [Act.put, List.setIfInBounds_toArray, List.set_cons_zero, List.set_cons_succ])
    refine wpAnyH_ready (rs := [14]) (by kernel_rfl) (by simp) ?_; refine (AllReadyH.cons (o := _) (by simp only [List.getElem?_toArray, List.getElem?_cons_succ, List.getElem?_cons_zero]; rfl) (fun K hK => ?_) AllReadyH.nil)
    go_simp
    go_at_call 10
    refine (HF1.out _ hb4).mono ?_
    rintro e w5 ⟨rfl, hb5, hz5, hx5⟩
    have hx5' := hx4'.trans (hx5.mono hx4'.size)
    refine hK.out _ _ hx5' (fun hHeld => ?_)
    clear hK K; (try simp only [Act.put, List.setIfInBounds_toArray, List.set_cons_zero, List.set_cons_succ])
    refine wpAnyH_ready (rs := [19]) (by kernel_rfl) (by simp) ?_; refine (AllReadyH.cons (o := _) (by simp only [List.getElem?_toArray, List.getElem?_cons_succ, List.getElem?_cons_zero]; rfl) (fun K hK => ?_) AllReadyH.nil)
    go_simp
    go_at_call 11
    refine (HF2.out _ hb5).mono ?_
    rintro e w6 ⟨rfl, hb6, hz6, hx6⟩
    have hx6' := hx5'.trans (hx6.mono hx5'.size)
    refine hK.out _ _ hx6' (fun hHeld => ?_)
    clear hK K; (try simp only [Act.put, List.setIfInBounds_toArray, List.set_cons_zero, List.set_cons_succ])
    (refine take_if (i := 20) (oi := _) (v := ?_) (by simp only [List.getElem?_toArray, List.getElem?_cons_succ, List.getElem?_cons_zero]; rfl) (by kernel_rfl) (by kernel_rfl) (by kernel_rfl) (fun _ _ _ h => h) (by rfl) ?_ (by assumption) ?_; rotate_left; (focus ((intro w hSw; (try have hSw := HF.out _ hSw); (try dsimp only at hSw); go_simp); try exact rfl)); simp only [Act.put, List.setIfInBounds_toArray, List.set_cons_zero, List.set_cons_succ]; refine take_if (i := 21) (oi := _) (v := ?_) (by simp only [List.getElem?_toArray, List.getElem?_cons_succ, List.getElem?_cons_zero]; rfl) (by kernel_rfl) (by kernel_rfl) (by kernel_rfl) (fun _ _ _ h => h) (by rfl) ?_ (by assumption) ?_; rotate_left; (focus ((intro w hSw; (try have hSw := HF.out _ hSw); (try dsimp only at hSw); go_simp); try exact rfl)); simp only [Act.put, List.setIfInBounds_toArray, List.set_cons_zero, List.set_cons_succ]; refine take_if (i := 22) (oi := _) (v := ?_) (by simp only [List.getElem?_toArray, List.getElem?_cons_succ, List.getElem?_cons_zero]; rfl) (by kernel_rfl) (by kernel_rfl) (by kernel_rfl) (fun _ _ _ h => h) (by rfl) ?_ (by assumption) ?_; rotate_left; (focus ((intro w hSw; (try have hSw := HF.out _ hSw); (try dsimp only at hSw); go_simp); try exact rfl)); simp only [Act.put, List.setIfInBounds_toArray, List.set_cons_zero, List.set_cons_succ]; refine take_if (i := 23) (oi := _) (v := ?_) (by simp only [List.getElem?_toArray, List.getElem?_cons_succ, List.getElem?_cons_zero]; rfl) (by kernel_rfl) (by kernel_rfl) (by kernel_rfl) (fun _ _ _ h => h) (by rfl) ?_ (by assumption) ?_; rotate_left; (focus ((intro w hSw; (try have hSw := HF.out _ hSw); (try dsimp only at hSw); go_simp); try exact rfl)); simp only [Act.put, List.setIfInBounds_toArray, List.set_cons_zero, List.set_cons_succ]; refine take_if (i := 25) (oi := _) (v := ?_) (by simp only [List.getElem?_toArray, List.getElem?_cons_succ, List.getElem?_cons_zero]; rfl) (by kernel_rfl) (by kernel_rfl) (by kernel_rfl) (fun _ _ _ h => h) (by rfl) ?_ (by assumption) ?_; rotate_left; (focus ((intro w hSw; (try have hSw := HF.out _ hSw); (try dsimp only at hSw); go_simp); try exact rfl)); simp only [Act.put, List.setIfInBounds_toArray, List.set_cons_zero, List.set_cons_succ]; refine take_if (i := 26) (oi := _) (v := ?_) (by simp only [List.getElem?_toArray, List.getElem?_cons_succ, List.getElem?_cons_zero]; rfl) (by kernel_rfl) (by kernel_rfl) (by kernel_rfl) (fun _ _ _ h => h) (by rfl) ?_ (by assumption) ?_; rotate_left; (focus ((intro w hSw; (try have hSw := HF.out _ hSw); (try dsimp only at hSw); go_simp); try exact rfl)); simp only [Act.put, List.setIfInBounds_toArray, List.set_cons_zero, List.set_cons_succ]; refine take_if (i := 27) (oi := _) (v := ?_) (by simp only [List.getElem?_toArray, List.getElem?_cons_succ, List.getElem?_cons_zero]; rfl) (by kernel_rfl) (by kernel_rfl) (by kernel_rfl) (fun _ _ _ h => h) (by rfl) ?_ (by assumption) ?_; rotate_left; (focus ((intro w hSw; (try have hSw := HF.out _ hSw); (try dsimp only at hSw); go_simp); try exact rfl)); simp only [Act.put, List.setIfInBounds_toArray, List.set_cons_zero, List.set_cons_succ])
    refine wpAnyH_ready (rs := [24]) (by kernel_rfl) (by simp) ?_; refine (AllReadyH.cons (o := _) (by simp only [List.getElem?_toArray, List.getElem?_cons_succ, List.getElem?_cons_zero]; rfl) (fun K hK => ?_) AllReadyH.nil)
    go_simp
    go_at_call 12
    refine (HSH.out _ hb6).mono ?_
    rintro e w7 ⟨B2, c2, rfl, y1, y2, y3, y4, hx7⟩
    have hx7' := hx6'.trans (hx7.mono hx6'.size)
    have hb7 := hb6.trans (hx7.mono hb6.size)
    refine hK.out _ _ hx7' (fun hHeld => ?_)
    clear hK K; (try simp only [Act.put, List.setIfInBounds_toArray, List.set_cons_zero, List.set_cons_succ])
    refine wpAnyH_ready (rs := [28]) (by kernel_rfl) (by simp) ?_; refine (AllReadyH.cons (o := _) (by simp only [List.getElem?_toArray, List.getElem?_cons_succ, List.getElem?_cons_zero]; rfl) (fun K hK => ?_) AllReadyH.nil)
    go_simp
    go_at_call 10
    refine (HF3.out _ B2 c2 hb7 y1).mono ?_
    rintro e w8 ⟨rfl, hb8, hz8, hx8⟩
    have hx8' := hx7'.trans (hx8.mono hx7'.size)
    refine hK.out _ _ hx8' (fun hHeld => ?_)
    clear hK K; (try simp only [Act.put, List.setIfInBounds_toArray, List.set_cons_zero, List.set_cons_succ])
    (refine take_if (i := 29) (oi := _) (v := ?_) (by simp only [List.getElem?_toArray, List.getElem?_cons_succ, List.getElem?_cons_zero]; rfl) (by kernel_rfl) (by kernel_rfl) (by kernel_rfl) (fun _ _ _ h => h) (by rfl) ?_ (by assumption) ?_; rotate_left; (focus ((intro w hSw; (try have hSw := HF.out _ hSw); (try dsimp only at hSw); go_simp); try exact rfl)); simp only [Act.put, List.setIfInBounds_toArray, List.set_cons_zero, List.set_cons_succ]; refine take_if (i := 30) (oi := _) (v := ?_) (by simp only [List.getElem?_toArray, List.getElem?_cons_succ, List.getElem?_cons_zero]; rfl) (by kernel_rfl) (by kernel_rfl) (by kernel_rfl) (fun _ _ _ h => h) (by rfl) ?_ (by assumption) ?_; rotate_left; (focus ((intro w hSw; (try have hSw := HF.out _ hSw); (try dsimp only at hSw); go_simp); try exact rfl)); simp only [Act.put, List.setIfInBounds_toArray, List.set_cons_zero, List.set_cons_succ])
    refine wpAnyH_done (by kernel_rfl) ?_ _
    have hH8 := Lib.hid hx8'
    clear hx3' hx4' hx5' hx6' hx7' hx8' hx3 hx4 hx5 hx6 hx7 hx8 y1 y2 y3 y4 hHeld
    have hs : ∀ W, Below w8.heap.size w8 W → W.cell? ⟨w.heap.size + 1, 0, none⟩ = some (.int .i64 k) ∧ W.cell? ⟨w.heap.size + 1, 1, none⟩ = some (.int .i64 f) ∧ W.cell? ⟨w.heap.size + 1, 2, none⟩ = some (.int .i64 t) ∧ W.cell? ⟨w.heap.size + 1, 3, none⟩ = some (.int .i64 g) ∧ W.cell? ⟨w.heap.size + 1, 4, none⟩ = some (.int .i64 h) ∧ W.cell? ⟨w.heap.size + 1, 5, none⟩ = some (.int .i64 i) ∧ W.cell? ⟨w.heap.size + 1, 6, none⟩ = some (.int .i64 m) ∧ W.cell? ⟨w.heap.size + 1, 7, none⟩ = some (.int .i64 v) ∧ W.cell? ⟨w.heap.size + 1, 8, none⟩ = some (.slice A n c) ∧ W.cell? ⟨w.heap.size + 1, 9, none⟩ = some (.slice A' n' c') := fun W hb => by
      obtain ⟨_, _, _, g3, g4, g5, g6, g7, g8, g9, g10, g11, g12, _⟩ := HF.out W (hH8.out.trans (hb.mono hH8.out.size))
      exact ⟨g3, g4, g5, g6, g7, g8, g9, g10, g11, g12⟩
    have HS := Lib.hid hs
    clear hs hH8 HF HF1 HF2 HF3 HT1 HT2 HSH HFW hb7 hb6 hb5 hb4 hb3 hb2 hb1 hz1 hz3 hz4 hz5 hz6 hz8 l1
    obtain ⟨g0, g1, g2, g3, g4, g5, g6, g7, g8, g9⟩ := HS.out _ (Below.refl _ _)
    have h0 : Rd (w8.alloc (.cells #[.int .i64 f, .int .i64 t] 37)) (w8.alloc (.cells #[.int .i64 f, .int .i64 t] 37)).heap.size 2 (some ⟨w8.heap.size, 0, none⟩) ([⟨f, t⟩] : List Sp).length (sps [⟨f, t⟩]) := rd_new _ #[.int .i64 f, .int .i64 t] 1 2 rfl rfl
    have haf := after_any tm _ 1 [⟨f, t⟩] _ h0 (by simp) (by simp)
    have HAF := Lib.hid haf
    clear haf h0
    go_wp2_with (go_at_call 13; fail)
    refine HAF.out.mono ?_
    rintro e w9 ⟨B3, c3, rfl, p1, p2, p3, p4, hb9⟩
    have hw9 : Below w8.heap.size w8 w9 := Below.trans (by repeat (first | with_reducible exact Below.refl _ _ | with_reducible assumption | (with_reducible refine below_drewN ?_ _) | (with_reducible refine Below.drew ?_) | (with_reducible refine Below.alloc ?_ ?_ _; rotate_left; focus (first | with_reducible assumption | omega | (simp; done) | (simp; omega))) | (with_reducible refine Below.setCell ?_ ?_ _; rotate_left; focus (first | with_reducible assumption | omega | (simp; done) | (simp; omega))))) (hb9.mono (by simp))
    have kc := Bk.new w9 31 #[.bool true, .int .i64 tm, .slice B3 1 c3]
    have pp : Rd w9 w9.heap.size 2 B3 1 (sps [⟨f, t⟩]) := p1
    have hw10 : Below w9.heap.size w9 (w9.alloc (.cells #[.bool true, .int .i64 tm, .slice B3 1 c3] 31)) := (Below.refl _ _).alloc (Nat.le_refl _) _
    have hv10 := hw9.trans (hw10.mono hw9.size)
    clear g0 g1 g2 g3 g4 g5 g6 g7 g8 g9 hb9 p1 p2 p3 p4 HAF
    obtain ⟨g0, g1, g2, g3, g4, g5, g6, g7, g8, g9⟩ := HS.out _ hv10
    have hb10 := hb8.trans (hv10.mono hb8.size)
    have ppX := (pp.below hw10).more hw10.size
    cases hsh : shB k f t g h i m v n n' with
    | false =>
      rw [hsh] at HSP
      go_wp2_with (go_at_call 14; fail)
      refine (HSP.out _ hb10).mono ?_
      rintro e W0 ⟨rfl, hbW, hzW, hxW⟩
      have ppW := (ppX.below hxW).more hxW.size
      have kW := kc.ext hxW
      have c0 := kW.cell 0; have c1 := kW.cell 1; have c2' := kW.cell 2
      dsimp at c0 c1 c2'
      clear g0 g1 g2 g3 g4 g5 g6 g7 g8 g9
      obtain ⟨g0, g1, g2, g3, g4, g5, g6, g7, g8, g9⟩ := HS.out _ (hv10.trans (hxW.mono hv10.size))
      clear hxW kc kW pp ppX hw10 hv10 hw9
      have h0 : Rd (W0.alloc (.cells #[.int .i64 f, .int .i64 t] 37)) (W0.alloc (.cells #[.int .i64 f, .int .i64 t] 37)).heap.size 2 (some ⟨W0.heap.size, 0, none⟩) ([⟨f, t⟩] : List Sp).length (sps [⟨f, t⟩]) := rd_new _ #[.int .i64 f, .int .i64 t] 1 2 rfl rfl
      have hW1 : Below W0.heap.size W0 (W0.alloc (.cells #[.int .i64 f, .int .i64 t] 37)) := (Below.refl _ _).alloc (Nat.le_refl _) _
      have hsm : Calls Try.prog 15 #[.agg #[.bool true, .int .i64 tm, .slice B3 1 c3], .agg #[.bool true, .int .i64 tm, .slice (some ⟨W0.heap.size, 0, none⟩) 1 1]] (W0.alloc (.cells #[.int .i64 f, .int .i64 t] 37)) (On w _ (.bool true)) :=
        calls_on (hbW.trans (hW1.mono hbW.size)) ((csame_any true true tm tm B3 (some ⟨W0.heap.size, 0, none⟩) c3 1 [⟨f, t⟩] [⟨f, t⟩] _ (by simp) ((ppW.below hW1).more hW1.size) h0).mono fun e w' ⟨he, hb⟩ => ⟨by rw [he]; simp, hb⟩)
      have HSM := Lib.hid hsm
      clear hsm h0 hW1 ppW
      go_wp2_with (go_at_call 15; fail)
      refine HSM.out.mono ?_
      rintro e w13 ⟨rfl, hb13, hz13, hx13⟩
      clear HSM
      go_wp2_with (go_at_call 7; fail)
      refine (HLV.out _ hb13).mono ?_
      rintro e w14 ⟨rfl, hb14, hz14, hx14⟩
      go_wp2
      go_ret
      exact ⟨rfl, hb14⟩
    | true =>
      rw [hsh] at HSP
      obtain rfl := hag.out hsh
      go_wp2_with (go_at_call 14; fail)
      refine (HSP.out _ hb10).mono ?_
      rintro e V0 ⟨rfl, hbV, hzV, hxV⟩
      have ppV := (ppX.below hxV).more hxV.size
      have kV := kc.ext hxV
      have c0 := kV.cell 0; have c1 := kV.cell 1; have c2' := kV.cell 2
      dsimp at c0 c1 c2'
      clear g0 g1 g2 g3 g4 g5 g6 g7 g8 g9
      obtain ⟨g0, g1, g2, g3, g4, g5, g6, g7, g8, g9⟩ := HS.out _ (hv10.trans (hxV.mono hv10.size))
      go_wp2_with (go_at_call 10; fail)
      refine (HF4.out _ B3 c3 hbV ppV).mono ?_
      rintro e W0 ⟨rfl, hbW, hzW, hxW⟩
      have ppW := (ppV.below hxW).more hxW.size
      have kW := kV.ext hxW
      clear c0 c1 c2' g0 g1 g2 g3 g4 g5 g6 g7 g8 g9
      have c0 := kW.cell 0; have c1 := kW.cell 1; have c2' := kW.cell 2
      dsimp at c0 c1 c2'
      obtain ⟨g0, g1, g2, g3, g4, g5, g6, g7, g8, g9⟩ := HS.out _ ((hv10.trans (hxV.mono hv10.size)).trans (hxW.mono (hv10.trans (hxV.mono hv10.size)).size))
      clear hxW kc kW pp ppX hw10 hv10 hw9 hxV kV ppV
      have h0 : Rd (W0.alloc (.cells #[.int .i64 f, .int .i64 t] 37)) (W0.alloc (.cells #[.int .i64 f, .int .i64 t] 37)).heap.size 2 (some ⟨W0.heap.size, 0, none⟩) ([⟨f, t⟩] : List Sp).length (sps [⟨f, t⟩]) := rd_new _ #[.int .i64 f, .int .i64 t] 1 2 rfl rfl
      have hW1 : Below W0.heap.size W0 (W0.alloc (.cells #[.int .i64 f, .int .i64 t] 37)) := (Below.refl _ _).alloc (Nat.le_refl _) _
      have hsm : Calls Try.prog 15 #[.agg #[.bool true, .int .i64 tm, .slice B3 1 c3], .agg #[.bool true, .int .i64 tm, .slice (some ⟨W0.heap.size, 0, none⟩) 1 1]] (W0.alloc (.cells #[.int .i64 f, .int .i64 t] 37)) (On w _ (.bool true)) :=
        calls_on (hbW.trans (hW1.mono hbW.size)) ((csame_any true true tm tm B3 (some ⟨W0.heap.size, 0, none⟩) c3 1 [⟨f, t⟩] [⟨f, t⟩] _ (by simp) ((ppW.below hW1).more hW1.size) h0).mono fun e w' ⟨he, hb⟩ => ⟨by rw [he]; simp, hb⟩)
      have HSM := Lib.hid hsm
      clear hsm h0 hW1 ppW
      go_wp2_with (go_at_call 15; fail)
      refine HSM.out.mono ?_
      rintro e w13 ⟨rfl, hb13, hz13, hx13⟩
      clear HSM
      go_wp2_with (go_at_call 7; fail)
      refine (HLV.out _ hb13).mono ?_
      rintro e w14 ⟨rfl, hb14, hz14, hx14⟩
      go_wp2
      go_ret
      exact ⟨rfl, hb14⟩
end Go.Proofs.Ytjenokeeokghgaa
