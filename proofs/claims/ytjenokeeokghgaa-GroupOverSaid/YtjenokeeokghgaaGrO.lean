/- group: GroupOver -/
import Derived.Test.YtjenokeeokghgaaGrN
namespace Go.Proofs.Ytjenokeeokghgaa
open Go.RowKit

theorem over_any (o : Bool) (ct : Int) (B : Option Addr) (cl : Nat) (L : List Sp) (A : Option Addr) (n c : Nat) (l : List Rg) (w : World) (hrs : Rd w w.heap.size 2 B L.length (sps L)) (hl : L.length ≤ 1000) (hn : n ≤ maxLen) (hrg : n ≤ 1000 → Rd w w.heap.size 3 A n (rgs l)) (hln : l.length = n) :
    Calls Try.prog 16 #[.agg #[.bool o, .int .i64 ct, .slice B L.length cl], .slice A n c] w (Clk w o ct (overS l L)) := by
  cases hr : rightM l with
  | false => exact over_no o ct B cl L A n c l w hrs hl hn hrg hln hr
  | true => exact over_yes o ct B cl L A n c l w hrs hl hn hrg hln hr
theorem rover_any (o : Bool) (ct : Int) (B : Option Addr) (cl : Nat) (L : List Sp) (A : Option Addr) (n c : Nat) (l : List Rg) (w : World) (hrs : Rd w w.heap.size 2 B L.length (sps L)) (hl : L.length ≤ 1000) (hn : n ≤ maxLen) (hrg : n ≤ 1000 → Rd w w.heap.size 3 A n (rgs l)) (hln : l.length = n) :
    Calls Try.prog 17 #[.agg #[.bool o, .int .i64 ct, .slice B L.length cl], .slice A n c] w (Clk w o ct (overS l L)) := by
  cases hr : rightM l with
  | false => exact rover_no o ct B cl L A n c l w hrs hl hn hrg hln hr
  | true => exact rover_yes o ct B cl L A n c l w hrs hl hn hrg hln hr
theorem csame_refl (o : Bool) (ct : Int) (B B' : Option Addr) (cl cl' : Nat) (L : List Sp) (w : World) (hl : L.length ≤ 1000000) (hr : Rd w w.heap.size 2 B L.length (sps L)) (hr' : Rd w w.heap.size 2 B' L.length (sps L)) :
    Calls Try.prog 15 #[.agg #[.bool o, .int .i64 ct, .slice B L.length cl], .agg #[.bool o, .int .i64 ct, .slice B' L.length cl']] w fun e w' => e = .returned (.bool true) ∧ Below w.heap.size w w' :=
  (csame_any o o ct ct B B' cl cl' L L w hl hr hr').mono fun e w' ⟨he, hb⟩ => ⟨by rw [he]; simp, hb⟩

set_option maxRecDepth 100000 in
set_option maxHeartbeats 4000000 in
theorem gover_any (o : Bool) (ct : Int) (B : Option Addr) (cl : Nat) (L : List Sp) (A : Option Addr) (n c : Nat) (l : List Rg) (w : World) (hB : B = none → L.length = 0) (hL : L.length ≤ maxLen) (hn : n ≤ maxLen) (hrs : Rd w w.heap.size 2 B L.length (sps L)) (hrg : Rd w w.heap.size 3 A n (rgs l)) :
    Calls Try.prog 5 #[.agg #[.bool o, .int .i64 ct, .slice B L.length cl], .slice A n c] w fun e w' => e = .returned (.bool true) ∧ Below w.heap.size w w' := by
  have hln := hrg.rlen
  have hlv := fun W (hb : Below w.heap.size w W) => calls_on hb (live36_any W)
  have HLV := Lib.hid hlv
  have hle := overS_le l L
  clear hlv
  unfold maxLen at hL hn
  by_cases h50 : (50 : Int) < L.length
  · have HL := Lib.hid hln
    clear hrs hrg hB hL hn hln hle
    go_enter Try.func5, Try.ntmps5
    go_wp2_with (go_at_call 7; (refine (HLV.out _ (by repeat (first | with_reducible exact Below.refl _ _ | with_reducible assumption | (with_reducible refine below_drewN ?_ _) | (with_reducible refine Below.drew ?_) | (with_reducible refine Below.alloc ?_ ?_ _; rotate_left; focus (first | with_reducible assumption | omega | (simp; done) | (simp; omega))) | (with_reducible refine Below.setCell ?_ ?_ _; rotate_left; focus (first | with_reducible assumption | omega | (simp; done) | (simp; omega)))))).mono ?_); rintro e w9 ⟨rfl, hb9, _, _⟩)
    go_ret
    exact ⟨rfl, hb9⟩
  by_cases h20 : (20 : Int) < n
  · have HL := Lib.hid hln
    clear hrs hrg hB hL hn hln hle
    go_enter Try.func5, Try.ntmps5
    go_wp2_with (go_at_call 7; (refine (HLV.out _ (by repeat (first | with_reducible exact Below.refl _ _ | with_reducible assumption | (with_reducible refine below_drewN ?_ _) | (with_reducible refine Below.drew ?_) | (with_reducible refine Below.alloc ?_ ?_ _; rotate_left; focus (first | with_reducible assumption | omega | (simp; done) | (simp; omega))) | (with_reducible refine Below.setCell ?_ ?_ _; rotate_left; focus (first | with_reducible assumption | omega | (simp; done) | (simp; omega)))))).mono ?_); rintro e w9 ⟨rfl, hb9, _, _⟩)
    go_ret
    exact ⟨rfl, hb9⟩
  have ho := fun W (hb : Below w.heap.size w W) => over_any o ct B cl L A n c l W ((hrs.below hb).more hb.size) (by omega) (by unfold maxLen; omega) (fun _ => (hrg.below hb).more hb.size) hln
  have hro := fun W (hb : Below w.heap.size w W) => rover_any o ct B cl L A n c l W ((hrs.below hb).more hb.size) (by omega) (by unfold maxLen; omega) (fun _ => (hrg.below hb).more hb.size) hln
  have hst := fun W (hb : Below w.heap.size w W) => shut_any o ct B cl L W ((hrs.below hb).more hb.size) hB (by omega)
  have hrsW : Hid (∀ W, Below w.heap.size w W → Rd W W.heap.size 2 B L.length (sps L)) := Lib.hid fun W hb => (hrs.below hb).more hb.size
  have hsm := fun W B1 c1 B2 c2 (hb : Below w.heap.size w W) h1 h2 => calls_on hb (csame_refl o ct B1 B2 c1 c2 (overS l L) W (by omega) h1 h2)
  have hsm2 := fun o W B1 c1 B2 c2 (hb : Below w.heap.size w W) h1 h2 => calls_on hb (csame_refl o ct B1 B2 c1 c2 L W (by omega) h1 h2)
  have HO := Lib.hid ho
  have HRO := Lib.hid hro
  have HST := Lib.hid hst
  have HSM := Lib.hid hsm
  have HSM2 := Lib.hid hsm2
  have HL := Lib.hid hln
  generalize overS l L = M at *
  have k1 : Bk ((w.alloc (.cells #[.bool o, .int .i64 ct, .slice B L.length cl] 24)).alloc (.cells #[.bool o, .int .i64 ct, .slice B L.length cl] 31)) w.heap.size 24 #[.bool o, .int .i64 ct, .slice B L.length cl] := (Bk.new w 24 _).alloc _
  have k2 : Bk ((w.alloc (.cells #[.bool o, .int .i64 ct, .slice B L.length cl] 24)).alloc (.cells #[.bool o, .int .i64 ct, .slice B L.length cl] 31)) (w.heap.size + 1) 31 #[.bool o, .int .i64 ct, .slice B L.length cl] := Bk.made 31 _ (by simp)
  have hb0 : Below w.heap.size w ((w.alloc (.cells #[.bool o, .int .i64 ct, .slice B L.length cl] 24)).alloc (.cells #[.bool o, .int .i64 ct, .slice B L.length cl] 31)) := by repeat (first | with_reducible exact Below.refl _ _ | with_reducible assumption | (with_reducible refine below_drewN ?_ _) | (with_reducible refine Below.drew ?_) | (with_reducible refine Below.alloc ?_ ?_ _; rotate_left; focus (first | with_reducible assumption | omega | (simp; done) | (simp; omega))) | (with_reducible refine Below.setCell ?_ ?_ _; rotate_left; focus (first | with_reducible assumption | omega | (simp; done) | (simp; omega))))
  clear ho hro hst hsm hsm2 hrs hrg hB hL hn hln hle
  go_enter Try.func5, Try.ntmps5
  go_wp2_with (go_at_call 16; fail)
  generalize (w.alloc (.cells #[.bool o, .int .i64 ct, .slice B L.length cl] 24)).alloc (.cells #[.bool o, .int .i64 ct, .slice B L.length cl] 31) = w0 at *
  refine (HO.out _ hb0).mono ?_
  rintro e w1 ⟨A1, c1, rfl, p1, p2, p3, p4, hb1⟩
  have x1 := hb0.trans (hb1.mono hb0.size)
  have i1 := k1.ext hb1
  have i2 := k2.ext hb1
  have i6 := Bk.new w1 31 #[.bool o, .int .i64 ct, .slice A1 M.length c1]
  have y1 : Below w1.heap.size w1 (w1.alloc (.cells #[.bool o, .int .i64 ct, .slice A1 M.length c1] 31)) := (Below.refl _ _).alloc (Nat.le_refl _) _
  have a0 := (i2.ext y1).cell 0; have a1 := (i2.ext y1).cell 1; have a2 := (i2.ext y1).cell 2
  dsimp at a0 a1 a2
  have x2 := x1.trans (y1.mono x1.size)
  clear p2 p3 p4 hb1 hb0 k1 k2
  go_wp2_with (go_at_call 12; fail)
  refine (HST.out _ x2).mono ?_
  rintro e w2 ⟨A2, c2, rfl, q1, q2, q3, q4, hb2⟩
  have x3 := x2.trans (hb2.mono x2.size)
  have r1 := (i1.ext y1).ext hb2
  have r2 := (i2.ext y1).ext hb2
  have r6 := i6.ext hb2
  have s7 := (Bk.new w2 31 #[.bool false, .int .i64 ct, .slice A2 L.length c2]).alloc (.cells #[.bool false, .int .i64 ct, .slice B L.length cl] 24)
  have s8 : Bk ((w2.alloc (.cells #[.bool false, .int .i64 ct, .slice A2 L.length c2] 31)).alloc (.cells #[.bool false, .int .i64 ct, .slice B L.length cl] 24)) (w2.heap.size + 1) 24 #[.bool false, .int .i64 ct, .slice B L.length cl] := Bk.made 24 _ (by simp)
  have y3 : Below w2.heap.size w2 ((w2.alloc (.cells #[.bool false, .int .i64 ct, .slice A2 L.length c2] 31)).alloc (.cells #[.bool false, .int .i64 ct, .slice B L.length cl] 24)) := by repeat (first | with_reducible exact Below.refl _ _ | with_reducible assumption | (with_reducible refine below_drewN ?_ _) | (with_reducible refine Below.drew ?_) | (with_reducible refine Below.alloc ?_ ?_ _; rotate_left; focus (first | with_reducible assumption | omega | (simp; done) | (simp; omega))) | (with_reducible refine Below.setCell ?_ ?_ _; rotate_left; focus (first | with_reducible assumption | omega | (simp; done) | (simp; omega))))
  have lz := def_lt' r1
  have b0 := r1.cell 0; have b1 := r1.cell 1; have b2 := r1.cell 2
  dsimp at b0 b1 b2
  clear i1 i2 i6 a0 a1 a2 q2 q3 q4
  go_wp2
  have x4 := x3.trans (y3.mono x3.size)
  have s1 := r1.ext y3
  have s5 := r2.ext y3
  have s6 := r6.ext y3
  have g6 := (p1.below (y1.trans ((hb2.trans (y3.mono hb2.size)).mono y1.size))).more (y1.trans ((hb2.trans (y3.mono hb2.size)).mono y1.size)).size
  have g7 := (q1.below y3).more y3.size
  clear y1 hb2 r1 r2 r6 b0 b1 b2 x1 x2 x3 p1 q1 y3
  generalize (w2.alloc (.cells #[.bool false, .int .i64 ct, .slice A2 L.length c2] 31)).alloc (.cells #[.bool false, .int .i64 ct, .slice B L.length cl] 24) = w3 at *
  have hF : ∀ w', Below w3.heap.size w3 w' → w'.cell? ⟨w.heap.size, 0, none⟩ = some (.bool o) ∧ w'.cell? ⟨w.heap.size, 1, none⟩ = some (.int .i64 ct) ∧ w'.cell? ⟨w.heap.size, 2, none⟩ = some (.slice B L.length cl) ∧ w'.cell? ⟨w.heap.size + 1, 0, none⟩ = some (.bool o) ∧ w'.cell? ⟨w.heap.size + 1, 1, none⟩ = some (.int .i64 ct) ∧ w'.cell? ⟨w.heap.size + 1, 2, none⟩ = some (.slice B L.length cl) ∧ w'.cell? ⟨w1.heap.size, 0, none⟩ = some (.bool o) ∧ w'.cell? ⟨w1.heap.size, 1, none⟩ = some (.int .i64 ct) ∧ w'.cell? ⟨w1.heap.size, 2, none⟩ = some (.slice A1 M.length c1) ∧ w'.cell? ⟨w2.heap.size, 0, none⟩ = some (.bool false) ∧ w'.cell? ⟨w2.heap.size, 1, none⟩ = some (.int .i64 ct) ∧ w'.cell? ⟨w2.heap.size, 2, none⟩ = some (.slice A2 L.length c2) ∧ w'.cell? ⟨w2.heap.size + 1, 0, none⟩ = some (.bool false) ∧ w'.cell? ⟨w2.heap.size + 1, 1, none⟩ = some (.int .i64 ct) ∧ w'.cell? ⟨w2.heap.size + 1, 2, none⟩ = some (.slice B L.length cl) := fun w' hb => ⟨(s1.ext hb).cell 0, (s1.ext hb).cell 1, (s1.ext hb).cell 2, (s5.ext hb).cell 0, (s5.ext hb).cell 1, (s5.ext hb).cell 2, (s6.ext hb).cell 0, (s6.ext hb).cell 1, (s6.ext hb).cell 2, (s7.ext hb).cell 0, (s7.ext hb).cell 1, (s7.ext hb).cell 2, (s8.ext hb).cell 0, (s8.ext hb).cell 1, (s8.ext hb).cell 2⟩
  have HF := Lib.hid hF
  have hG : ∀ w', Below w3.heap.size w3 w' → Rd w' w'.heap.size 2 A1 M.length (sps M) ∧ Rd w' w'.heap.size 2 A2 L.length (sps L) := fun w' hb => ⟨(g6.below hb).more hb.size, (g7.below hb).more hb.size⟩
  have HG := Lib.hid hG
  clear hF hG s1 s5 s6 s7 s8 g6 g7
  refine wp_normal ?_
  refine wp_region_held_drew (S := fun w' => Below w3.heap.size w3 w') (by kernel_rfl) (Below.refl _ _).drew (fun hHeld => ?_)
  (refine take_if (i := 0) (oi := _) (v := ?_) (by simp only [List.getElem?_toArray, List.getElem?_cons_zero]; rfl) (by kernel_rfl) (by kernel_rfl) (by kernel_rfl) (fun _ _ _ h => h) (by rfl) ?_ (by assumption) ?_; rotate_left; (focus ((intro w hSw; (try have hSw := HF.out _ hSw); (try dsimp only at hSw); go_simp); try exact rfl)); simp only [Act.put, List.setIfInBounds_toArray, List.set_cons_zero, List.set_cons_succ]; refine take_if (i := 1) (oi := _) (v := ?_) (by simp only [List.getElem?_toArray, List.getElem?_cons_succ, List.getElem?_cons_zero]; rfl) (by kernel_rfl) (by kernel_rfl) (by kernel_rfl) (fun _ _ _ h => h) (by rfl) ?_ (by assumption) ?_; rotate_left; (focus ((intro w hSw; (try have hSw := HF.out _ hSw); (try dsimp only at hSw); go_simp); try exact rfl)); simp only [Act.put, List.setIfInBounds_toArray, List.set_cons_zero, List.set_cons_succ]; refine take_if (i := 2) (oi := _) (v := ?_) (by simp only [List.getElem?_toArray, List.getElem?_cons_succ, List.getElem?_cons_zero]; rfl) (by kernel_rfl) (by kernel_rfl) (by kernel_rfl) (fun _ _ _ h => h) (by rfl) ?_ (by assumption) ?_; rotate_left; (focus ((intro w hSw; (try have hSw := HF.out _ hSw); (try dsimp only at hSw); go_simp); try exact rfl)); simp only [Act.put, List.setIfInBounds_toArray, List.set_cons_zero, List.set_cons_succ])
  refine wpAnyH_ready (rs := [3]) (by kernel_rfl) (by simp) ?_; refine (AllReadyH.cons (o := _) (by simp only [List.getElem?_toArray, List.getElem?_cons_succ, List.getElem?_cons_zero]; rfl) (fun K hK => ?_) AllReadyH.nil)
  go_simp
  go_at_call 17
  refine (HRO.out _ (x4.trans ((Below.refl w3.heap.size w3).drew.mono x4.size))).mono ?_
  rintro e w4 ⟨A3, c3, rfl, t1, t2, t3, t4, hb4⟩
  have hx4 : Below w3.heap.size w3 w4 := Below.trans (Below.refl _ _).drew hb4
  have x5 := x4.trans (hx4.mono x4.size)
  refine hK.out _ _ hx4 (fun hHeld => ?_)
  clear hK K; (try simp only [Act.put, List.setIfInBounds_toArray, List.set_cons_zero, List.set_cons_succ])
  refine wpAnyH_ready (rs := [4]) (by kernel_rfl) (by simp) ?_; refine (AllReadyH.cons (o := _) (by simp only [List.getElem?_toArray, List.getElem?_cons_succ, List.getElem?_cons_zero]; rfl) (fun K hK => ?_) AllReadyH.nil)
  go_simp
  go_at_call 15
  refine (HSM.out _ _ _ _ _ x5 (HG.out _ hx4).1 t1).mono ?_
  rintro e w5 ⟨rfl, hb5, hz5, hx5⟩
  have hx5' := hx4.trans (hx5.mono hx4.size)
  refine hK.out _ _ hx5' (fun hHeld => ?_)
  clear hK K; (try simp only [Act.put, List.setIfInBounds_toArray, List.set_cons_zero, List.set_cons_succ])
  (refine take_if (i := 5) (oi := _) (v := ?_) (by simp only [List.getElem?_toArray, List.getElem?_cons_succ, List.getElem?_cons_zero]; rfl) (by kernel_rfl) (by kernel_rfl) (by kernel_rfl) (fun _ _ _ h => h) (by rfl) ?_ (by assumption) ?_; rotate_left; (focus ((intro w hSw; (try have hSw := HF.out _ hSw); (try dsimp only at hSw); go_simp); try exact rfl)); simp only [Act.put, List.setIfInBounds_toArray, List.set_cons_zero, List.set_cons_succ]; refine take_if (i := 6) (oi := _) (v := ?_) (by simp only [List.getElem?_toArray, List.getElem?_cons_succ, List.getElem?_cons_zero]; rfl) (by kernel_rfl) (by kernel_rfl) (by kernel_rfl) (fun _ _ _ h => h) (by rfl) ?_ (by assumption) ?_; rotate_left; (focus ((intro w hSw; (try have hSw := HF.out _ hSw); (try dsimp only at hSw); go_simp); try exact rfl)); simp only [Act.put, List.setIfInBounds_toArray, List.set_cons_zero, List.set_cons_succ]; refine take_if (i := 7) (oi := _) (v := ?_) (by simp only [List.getElem?_toArray, List.getElem?_cons_succ, List.getElem?_cons_zero]; rfl) (by kernel_rfl) (by kernel_rfl) (by kernel_rfl) (fun _ _ _ h => h) (by rfl) ?_ (by assumption) ?_; rotate_left; (focus ((intro w hSw; (try have hSw := HF.out _ hSw); (try dsimp only at hSw); go_simp); try exact rfl)); simp only [Act.put, List.setIfInBounds_toArray, List.set_cons_zero, List.set_cons_succ])
  refine wpAnyH_ready (rs := [8]) (by kernel_rfl) (by simp) ?_; refine (AllReadyH.cons (o := _) (by simp only [List.getElem?_toArray, List.getElem?_cons_succ, List.getElem?_cons_zero]; rfl) (fun K hK => ?_) AllReadyH.nil)
  go_simp
  go_at_call 15
  refine (HSM2.out _ _ _ _ _ _ hb5 (HG.out _ hx5').2 (hrsW.out _ hb5)).mono ?_
  rintro e w6 ⟨rfl, hb6, hz6, hx6⟩
  have hx6' := hx5'.trans (hx6.mono hx5'.size)
  refine hK.out _ _ hx6' (fun hHeld => ?_)
  clear hK K; (try simp only [Act.put, List.setIfInBounds_toArray, List.set_cons_zero, List.set_cons_succ])
  (refine take_if (i := 9) (oi := _) (v := ?_) (by simp only [List.getElem?_toArray, List.getElem?_cons_succ, List.getElem?_cons_zero]; rfl) (by kernel_rfl) (by kernel_rfl) (by kernel_rfl) (fun _ _ _ h => h) (by rfl) ?_ (by assumption) ?_; rotate_left; (focus ((intro w hSw; (try have hSw := HF.out _ hSw); (try dsimp only at hSw); go_simp); try exact rfl)); simp only [Act.put, List.setIfInBounds_toArray, List.set_cons_zero, List.set_cons_succ]; refine take_if (i := 10) (oi := _) (v := ?_) (by simp only [List.getElem?_toArray, List.getElem?_cons_succ, List.getElem?_cons_zero]; rfl) (by kernel_rfl) (by kernel_rfl) (by kernel_rfl) (fun _ _ _ h => h) (by rfl) ?_ (by assumption) ?_; rotate_left; (focus ((intro w hSw; (try have hSw := HF.out _ hSw); (try dsimp only at hSw); go_simp); try exact rfl)); simp only [Act.put, List.setIfInBounds_toArray, List.set_cons_zero, List.set_cons_succ]; refine take_if (i := 11) (oi := _) (v := ?_) (by simp only [List.getElem?_toArray, List.getElem?_cons_succ, List.getElem?_cons_zero]; rfl) (by kernel_rfl) (by kernel_rfl) (by kernel_rfl) (fun _ _ _ h => h) (by rfl) ?_ (by assumption) ?_; rotate_left; (focus ((intro w hSw; (try have hSw := HF.out _ hSw); (try dsimp only at hSw); go_simp); try exact rfl)); simp only [Act.put, List.setIfInBounds_toArray, List.set_cons_zero, List.set_cons_succ]; refine take_if (i := 12) (oi := _) (v := ?_) (by simp only [List.getElem?_toArray, List.getElem?_cons_succ, List.getElem?_cons_zero]; rfl) (by kernel_rfl) (by kernel_rfl) (by kernel_rfl) (fun _ _ _ h => h) (by rfl) ?_ (by assumption) ?_; rotate_left; (focus ((intro w hSw; (try have hSw := HF.out _ hSw); (try dsimp only at hSw); go_simp); try exact rfl)); simp only [Act.put, List.setIfInBounds_toArray, List.set_cons_zero, List.set_cons_succ])
  refine wpAnyH_ready (rs := [13]) (by kernel_rfl) (by simp) ?_; refine (AllReadyH.cons (o := _) (by simp only [List.getElem?_toArray, List.getElem?_cons_succ, List.getElem?_cons_zero]; rfl) (fun K hK => ?_) AllReadyH.nil)
  go_simp
  go_at_call 15
  refine (HSM2.out _ _ _ _ _ _ hb6 (hrsW.out _ hb6) (hrsW.out _ hb6)).mono ?_
  rintro e w7 ⟨rfl, hb7, hz7, hx7⟩
  have hx7' := hx6'.trans (hx7.mono hx6'.size)
  refine hK.out _ _ hx7' (fun hHeld => ?_)
  clear hK K; (try simp only [Act.put, List.setIfInBounds_toArray, List.set_cons_zero, List.set_cons_succ])
  (refine take_if (i := 14) (oi := _) (v := ?_) (by simp only [List.getElem?_toArray, List.getElem?_cons_succ, List.getElem?_cons_zero]; rfl) (by kernel_rfl) (by kernel_rfl) (by kernel_rfl) (fun _ _ _ h => h) (by rfl) ?_ (by assumption) ?_; rotate_left; (focus ((intro w hSw; (try have hSw := HF.out _ hSw); (try dsimp only at hSw); go_simp); try exact rfl)); simp only [Act.put, List.setIfInBounds_toArray, List.set_cons_zero, List.set_cons_succ]; refine take_if (i := 15) (oi := _) (v := ?_) (by simp only [List.getElem?_toArray, List.getElem?_cons_succ, List.getElem?_cons_zero]; rfl) (by kernel_rfl) (by kernel_rfl) (by kernel_rfl) (fun _ _ _ h => h) (by rfl) ?_ (by assumption) ?_; rotate_left; (focus ((intro w hSw; (try have hSw := HF.out _ hSw); (try dsimp only at hSw); go_simp); try exact rfl)); simp only [Act.put, List.setIfInBounds_toArray, List.set_cons_zero, List.set_cons_succ])
  refine wpAnyH_ready (rs := [16]) (by kernel_rfl) (by simp) ?_; refine (AllReadyH.cons (o := _) (by simp only [List.getElem?_toArray, List.getElem?_cons_succ, List.getElem?_cons_zero]; rfl) (fun K hK => ?_) AllReadyH.nil)
  go_simp
  go_at_call 7
  refine (HLV.out _ hb7).mono ?_
  rintro e w8 ⟨rfl, hb8, hz8, hx8⟩
  have hx8' := hx7'.trans (hx8.mono hx7'.size)
  refine hK.out _ _ hx8' (fun hHeld => ?_)
  clear hK K; (try simp only [Act.put, List.setIfInBounds_toArray, List.set_cons_zero, List.set_cons_succ])
  (refine take_if (i := 17) (oi := _) (v := ?_) (by simp only [List.getElem?_toArray, List.getElem?_cons_succ, List.getElem?_cons_zero]; rfl) (by kernel_rfl) (by kernel_rfl) (by kernel_rfl) (fun _ _ _ h => h) (by rfl) ?_ (by assumption) ?_; rotate_left; (focus ((intro w hSw; (try have hSw := HF.out _ hSw); (try dsimp only at hSw); go_simp); try exact rfl)); simp only [Act.put, List.setIfInBounds_toArray, List.set_cons_zero, List.set_cons_succ]; refine take_if (i := 18) (oi := _) (v := ?_) (by simp only [List.getElem?_toArray, List.getElem?_cons_succ, List.getElem?_cons_zero]; rfl) (by kernel_rfl) (by kernel_rfl) (by kernel_rfl) (fun _ _ _ h => h) (by rfl) ?_ (by assumption) ?_; rotate_left; (focus ((intro w hSw; (try have hSw := HF.out _ hSw); (try dsimp only at hSw); go_simp); try exact rfl)); simp only [Act.put, List.setIfInBounds_toArray, List.set_cons_zero, List.set_cons_succ])
  refine wpAnyH_done (by kernel_rfl) ?_ _
  go_wp2
  go_ret
  exact ⟨rfl, hb8⟩
end Go.Proofs.Ytjenokeeokghgaa
