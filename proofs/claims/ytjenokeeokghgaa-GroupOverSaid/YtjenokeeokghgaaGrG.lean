/- group: Text of one letter; live -/
import Derived.Test.YtjenokeeokghgaaGrF
import Derived.Test.YtjenokeeokghgaaF
import Derived.Test.YtjenokeeokghgaaG
namespace Go.Proofs.Ytjenokeeokghgaa
open Go.RowKit

theorem info_tok : (Try.prog.info? 67).map (fun i => (i.zero, i.size, i.bytes)) = some (some (.agg #[.int .i64 0, .int .i64 0, .int .i64 0, .int .i32 0, .int .u16 0, .int .u16 0, .int .u16 0, .int .u16 0, .int .u16 0, .int .u16 0, .int .u16 0, .int .u16 0]), 12, 48) := by kernel_rfl
set_option maxRecDepth 100000 in
set_option maxHeartbeats 1000000 in
theorem text_one (r : Int) (b : Nat) (w : World) (hb : b < w.heap.size) (hc : w.cell? ⟨b, 0, none⟩ = some (.int .i32 r)) :
    Calls Try.prog 18 #[.slice (some ⟨b, 0, none⟩) 1 1] w fun e w' => ∃ A c, e = .returned (.slice A 1 c) ∧ Rd w' w'.heap.size 12 A 1 (toks [⟨4, 0, 0, r, ⟨0, 0, 0, 0, 0, 0, 0, 0⟩⟩]) ∧ Below w.heap.size w w' := by
  have hmk : ∀ w, (Instr.makeSlice 25 (.int .i64 0) (.int .i64 1)).run Try.prog w = .ok (.slice (some ⟨w.heap.size, 0, none⟩) 0 1) (w.alloc (.cells #[.int .i64 0, .int .i64 0, .int .i64 0, .int .i32 0, .int .u16 0, .int .u16 0, .int .u16 0, .int .u16 0, .int .u16 0, .int .u16 0, .int .u16 0, .int .u16 0] 67)) := fun _ => by kernel_rfl
  have hown0 : (w.alloc (.cells #[.int .i64 0, .int .i64 0, .int .i64 0, .int .i32 0, .int .u16 0, .int .u16 0, .int .u16 0, .int .u16 0, .int .u16 0, .int .u16 0, .int .u16 0, .int .u16 0] 67)).ownsRow w.heap.size 67 12 (.slice (some ⟨w.heap.size, 0, none⟩) 0 1) 0 [] :=
    ⟨by simp, .inr ⟨w.heap.size, 1, _, rfl, Nat.le_refl _, heap_alloc_new w _, by omega, by unfold maxLen; omega, by simp, by simp⟩⟩
  have hb1 : Below w.heap.size w (w.alloc (.cells #[.int .i64 0, .int .i64 0, .int .i64 0, .int .i32 0, .int .u16 0, .int .u16 0, .int .u16 0, .int .u16 0, .int .u16 0, .int .u16 0, .int .u16 0, .int .u16 0] 67)) := by repeat (first | with_reducible exact Below.refl _ _ | with_reducible assumption | (with_reducible refine below_drewN ?_ _) | (with_reducible refine Below.drew ?_) | (with_reducible refine Below.alloc ?_ ?_ _; rotate_left; focus (first | with_reducible assumption | omega | (simp; done) | (simp; omega))) | (with_reducible refine Below.setCell ?_ ?_ _; rotate_left; focus (first | with_reducible assumption | omega | (simp; done) | (simp; omega))))
  go_enter Try.func18, Try.ntmps18
  go_wp2
  generalize w.alloc (.cells #[.int .i64 0, .int .i64 0, .int .i64 0, .int .i32 0, .int .u16 0, .int .u16 0, .int .u16 0, .int .u16 0, .int .u16 0, .int .u16 0, .int .u16 0, .int .u16 0] 67) = w0 at *
  clear hmk
  go_loopw [3, 11] (fun v j wr => ∃ q : Nat, q ≤ 1 ∧ j = .int .i64 q ∧ Below w.heap.size w wr ∧ wr.ownsRow w.heap.size 67 12 v q (toks (([⟨4, 0, 0, r, ⟨0, 0, 0, 0, 0, 0, 0, 0⟩⟩] : List Tok).take q))) (fun _ j _ => 1 - (intOf j).toNat)
  case atStart => exact ⟨0, by omega, rfl, hb1, hown0⟩
  case round =>
    obtain ⟨q, hq, rfl, hbr, hown⟩ := hrel
    have hbz := hbr.size
    by_cases hq0 : q = 0
    · subst hq0
      have hcr := (hbr.cell (p := ⟨b, 0, none⟩) hb).trans hc
      clear hown0 hb1
      go_wp2_with (at_builtin; ((refine app_one Try.underlying25 info_tok rfl (by decide) wr w.heap.size _ 0 _ hown (by unfold maxLen; omega) (by omega) hbz _ rfl (by simp [Value.oneCell']) rfl _ _ rfl rfl rfl ?_); intro g4 cap4 w4 hown4 hgr4 hat4 hlt4))
      have hb4 := below_own hbr hown hgr4 hbz (Nat.le_refl _)
      go_roundw
      case rel => exact ⟨1, by omega, rfl, hb4, hown4⟩
      case measure => simp [intOf]
    · obtain rfl : q = 1 := by omega
      obtain ⟨A4, c4, rfl, _, _, _, hr4⟩ := own_form hown
      go_wp2
      go_ret
      exact ⟨A4, c4, rfl, hr4, hbr⟩

set_option maxRecDepth 100000 in
set_option maxHeartbeats 4000000 in
theorem live36_any (w : World) : Calls Try.prog 7 #[] w fun e w' => e = .returned (.bool true) ∧ Below w.heap.size w w' := by
  have h0 : Rd (w.alloc (.cells #[.int .i64 5, .int .i64 6] 37)) (w.alloc (.cells #[.int .i64 5, .int .i64 6] 37)).heap.size 2 (some ⟨w.heap.size, 0, none⟩) ([⟨5, 6⟩] : List Sp).length (sps [⟨5, 6⟩]) := rd_new _ #[.int .i64 5, .int .i64 6] 1 2 rfl rfl
  have haf := after_any 100 _ 1 [⟨5, 6⟩] _ h0 (by simp) (by simp)
  have HAF := Lib.hid haf
  clear haf h0
  go_enter Try.func7, Try.ntmps7
  go_wp2_with (go_at_call 13; (refine HAF.out.mono ?_); rintro e w1 ⟨B2, c2, rfl, p1, p2, p3, p4, hb1⟩)
  have hw1 : Below w.heap.size w w1 := Below.trans (by repeat (first | with_reducible exact Below.refl _ _ | with_reducible assumption | (with_reducible refine below_drewN ?_ _) | (with_reducible refine Below.drew ?_) | (with_reducible refine Below.alloc ?_ ?_ _; rotate_left; focus (first | with_reducible assumption | omega | (simp; done) | (simp; omega))) | (with_reducible refine Below.setCell ?_ ?_ _; rotate_left; focus (first | with_reducible assumption | omega | (simp; done) | (simp; omega))))) (hb1.mono (by simp))
  refine (text_one 97 (w1.heap.size + 1) _ (by simp) ((Bk.made (W := w1.alloc (.cells #[.bool true, .int .i64 100, .slice B2 1 c2] 31)) 21 #[.int .i32 97] (by simp)).cell 0)).mono ?_
  rintro e w2 ⟨A2, cc2, rfl, r2, hb2⟩
  have kc := ((Bk.new w1 31 #[.bool true, .int .i64 100, .slice B2 1 c2]).alloc (.cells #[.int .i32 97] 21)).ext hb2
  have hw2 : Below w1.heap.size w1 w2 := Below.trans (by repeat (first | with_reducible exact Below.refl _ _ | with_reducible assumption | (with_reducible refine below_drewN ?_ _) | (with_reducible refine Below.drew ?_) | (with_reducible refine Below.alloc ?_ ?_ _; rotate_left; focus (first | with_reducible assumption | omega | (simp; done) | (simp; omega))) | (with_reducible refine Below.setCell ?_ ?_ _; rotate_left; focus (first | with_reducible assumption | omega | (simp; done) | (simp; omega))))) (hb2.mono (by simp; omega))
  clear hb1 hb2
  go_wp2_with (go_at_call 13; fail)
  refine (text_one 97 (w2.heap.size + 1) _ (by simp) ((Bk.made (W := w2.alloc (.cells #[.int .i64 1, .int .i64 6, .int .i64 6, .int .i64 0, .int .i64 0, .int .i64 0, .int .i64 0, .int .i64 0, .slice A2 1 cc2, .slice none 0 0] 28)) 21 #[.int .i32 97] (by simp)).cell 0)).mono ?_
  rintro e w3 ⟨A3, cc3, rfl, r3, hb3⟩
  have kx := ((Bk.new w2 28 #[.int .i64 1, .int .i64 6, .int .i64 6, .int .i64 0, .int .i64 0, .int .i64 0, .int .i64 0, .int .i64 0, .slice A2 1 cc2, .slice none 0 0]).alloc (.cells #[.int .i32 97] 21)).ext hb3
  have hw3 : Below w2.heap.size w2 w3 := Below.trans (by repeat (first | with_reducible exact Below.refl _ _ | with_reducible assumption | (with_reducible refine below_drewN ?_ _) | (with_reducible refine Below.drew ?_) | (with_reducible refine Below.alloc ?_ ?_ _; rotate_left; focus (first | with_reducible assumption | omega | (simp; done) | (simp; omega))) | (with_reducible refine Below.setCell ?_ ?_ _; rotate_left; focus (first | with_reducible assumption | omega | (simp; done) | (simp; omega))))) (hb3.mono (by simp; omega))
  clear hb3
  go_wp2_with (go_at_call 13; fail)
  have hw4 : Below w3.heap.size w3 (w3.alloc (.cells #[.int .i64 1, .int .i64 9, .int .i64 9, .int .i64 0, .int .i64 0, .int .i64 0, .int .i64 0, .int .i64 0, .slice A3 1 cc3, .slice none 0 0] 28)) := (Below.refl _ _).alloc (Nat.le_refl _) _
  have ky4 := Bk.new w3 28 #[.int .i64 1, .int .i64 9, .int .i64 9, .int .i64 0, .int .i64 0, .int .i64 0, .int .i64 0, .int .i64 0, .slice A3 1 cc3, .slice none 0 0]
  have kx4 := kx.ext hw4
  have kc4 := (kc.ext hw3).ext hw4
  have x2 := (((r2.below hw3).more hw3.size).below hw4).more hw4.size
  have x3 := (r3.below hw4).more hw4.size
  have hw24 := hw3.trans (hw4.mono hw3.size)
  have hw14 := hw2.trans (hw24.mono hw2.size)
  have pp : Rd w1 w1.heap.size 2 B2 ([⟨5, 6⟩] : List Sp).length (sps [⟨5, 6⟩]) := p1
  have xp := (pp.below hw14).more hw14.size
  have hwA : Below w.heap.size w (w3.alloc (.cells #[.int .i64 1, .int .i64 9, .int .i64 9, .int .i64 0, .int .i64 0, .int .i64 0, .int .i64 0, .int .i64 0, .slice A3 1 cc3, .slice none 0 0] 28)) := hw1.trans (hw14.mono hw1.size)
  generalize w3.alloc (.cells #[.int .i64 1, .int .i64 9, .int .i64 9, .int .i64 0, .int .i64 0, .int .i64 0, .int .i64 0, .int .i64 0, .slice A3 1 cc3, .slice none 0 0] 28) = w4 at *
  have hmx : (1 : Nat) ≤ maxLen := by unfold maxLen; omega
  have hmz : (0 : Nat) ≤ maxLen := by omega
  have e1 : freshB true 100 200 500 (touchB 1 6 6 0 0 0 0 0 1 0 [⟨5, 6⟩]) = false := by decide
  have e2 : freshB true 100 200 500 (touchB 1 9 9 0 0 0 0 0 1 0 [⟨5, 6⟩]) = true := by decide
  have hf1 := fun W (hb : Below w4.heap.size w4 W) => calls_on hb (fresh_any 1 6 6 0 0 0 0 0 A2 none 1 0 cc2 0 _ [] B2 1 c2 [⟨5, 6⟩] true 100 200 500 W hmx hmz hmx ((x2.below hb).more hb.size) (Rd.nil_ _ _ _ _) ((xp.below hb).more hb.size) (by omega) (by omega) (by omega))
  have hf2 := fun W (hb : Below w4.heap.size w4 W) => calls_on hb (fresh_any 1 9 9 0 0 0 0 0 A3 none 1 0 cc3 0 _ [] B2 1 c2 [⟨5, 6⟩] true 100 200 500 W hmx hmz hmx ((x3.below hb).more hb.size) (Rd.nil_ _ _ _ _) ((xp.below hb).more hb.size) (by omega) (by omega) (by omega))
  rw [e1] at hf1
  rw [e2] at hf2
  have hsh := fun W (hb : Below w4.heap.size w4 W) => shut_any true 100 B2 c2 [⟨5, 6⟩] W ((xp.below hb).more hb.size) p2 (by simp)
  have hf3 := fun W B4 c4 (hb : Below w4.heap.size w4 W) (hr : Rd W W.heap.size 2 B4 1 (sps [⟨5, 6⟩])) => calls_on hb (fresh_any 1 6 6 0 0 0 0 0 A2 none 1 0 cc2 0 _ [] B4 1 c4 [⟨5, 6⟩] false 100 200 500 W hmx hmz hmx ((x2.below hb).more hb.size) (Rd.nil_ _ _ _ _) hr (by omega) (by omega) (by omega))
  have hF : ∀ w', Below w4.heap.size w4 w' → w'.cell? ⟨w1.heap.size, 0, none⟩ = some (.bool true) ∧ w'.cell? ⟨w1.heap.size, 1, none⟩ = some (.int .i64 100) ∧ w'.cell? ⟨w1.heap.size, 2, none⟩ = some (.slice B2 1 c2) ∧ w'.cell? ⟨w2.heap.size, 0, none⟩ = some (.int .i64 1) ∧ w'.cell? ⟨w2.heap.size, 1, none⟩ = some (.int .i64 6) ∧ w'.cell? ⟨w2.heap.size, 2, none⟩ = some (.int .i64 6) ∧ w'.cell? ⟨w2.heap.size, 3, none⟩ = some (.int .i64 0) ∧ w'.cell? ⟨w2.heap.size, 4, none⟩ = some (.int .i64 0) ∧ w'.cell? ⟨w2.heap.size, 5, none⟩ = some (.int .i64 0) ∧ w'.cell? ⟨w2.heap.size, 6, none⟩ = some (.int .i64 0) ∧ w'.cell? ⟨w2.heap.size, 7, none⟩ = some (.int .i64 0) ∧ w'.cell? ⟨w2.heap.size, 8, none⟩ = some (.slice A2 1 cc2) ∧ w'.cell? ⟨w2.heap.size, 9, none⟩ = some (.slice none 0 0) ∧ w'.cell? ⟨w3.heap.size, 0, none⟩ = some (.int .i64 1) ∧ w'.cell? ⟨w3.heap.size, 1, none⟩ = some (.int .i64 9) ∧ w'.cell? ⟨w3.heap.size, 2, none⟩ = some (.int .i64 9) ∧ w'.cell? ⟨w3.heap.size, 3, none⟩ = some (.int .i64 0) ∧ w'.cell? ⟨w3.heap.size, 4, none⟩ = some (.int .i64 0) ∧ w'.cell? ⟨w3.heap.size, 5, none⟩ = some (.int .i64 0) ∧ w'.cell? ⟨w3.heap.size, 6, none⟩ = some (.int .i64 0) ∧ w'.cell? ⟨w3.heap.size, 7, none⟩ = some (.int .i64 0) ∧ w'.cell? ⟨w3.heap.size, 8, none⟩ = some (.slice A3 1 cc3) ∧ w'.cell? ⟨w3.heap.size, 9, none⟩ = some (.slice none 0 0) := fun w' hb => ⟨(kc4.ext hb).cell 0, (kc4.ext hb).cell 1, (kc4.ext hb).cell 2, (kx4.ext hb).cell 0, (kx4.ext hb).cell 1, (kx4.ext hb).cell 2, (kx4.ext hb).cell 3, (kx4.ext hb).cell 4, (kx4.ext hb).cell 5, (kx4.ext hb).cell 6, (kx4.ext hb).cell 7, (kx4.ext hb).cell 8, (kx4.ext hb).cell 9, (ky4.ext hb).cell 0, (ky4.ext hb).cell 1, (ky4.ext hb).cell 2, (ky4.ext hb).cell 3, (ky4.ext hb).cell 4, (ky4.ext hb).cell 5, (ky4.ext hb).cell 6, (ky4.ext hb).cell 7, (ky4.ext hb).cell 8, (ky4.ext hb).cell 9⟩
  have HF := Lib.hid hF
  have HF1 := Lib.hid hf1
  have HF2 := Lib.hid hf2
  have HF3 := Lib.hid hf3
  have HSH := Lib.hid hsh
  clear hF hf1 hf2 hf3 hsh e1 e2 x2 x3 xp pp r2 r3 p1 p2 p3 p4 kc kx kc4 kx4 ky4 hw1 hw2 hw3 hw4 hw24 hw14 hmx hmz HAF
  refine wp_normal ?_
  refine wp_region_held_drew (S := fun w' => Below w4.heap.size w4 w') (by kernel_rfl) (Below.refl _ _).drew (fun hHeld => ?_)
  (refine take_if (i := 0) (oi := _) (v := ?_) (by simp only [List.getElem?_toArray, List.getElem?_cons_zero]; rfl) (by kernel_rfl) (by kernel_rfl) (by kernel_rfl) (fun _ _ _ h => h) (by rfl) ?_ (by assumption) ?_; rotate_left; (focus ((intro w hSw; (try have hSw := HF.out _ hSw); (try dsimp only at hSw); go_simp); try exact rfl)); simp only [Act.put, List.setIfInBounds_toArray, List.set_cons_zero, List.set_cons_succ]; refine take_if (i := 1) (oi := _) (v := ?_) (by simp only [List.getElem?_toArray, List.getElem?_cons_succ, List.getElem?_cons_zero]; rfl) (by kernel_rfl) (by kernel_rfl) (by kernel_rfl) (fun _ _ _ h => h) (by rfl) ?_ (by assumption) ?_; rotate_left; (focus ((intro w hSw; (try have hSw := HF.out _ hSw); (try dsimp only at hSw); go_simp); try exact rfl)); simp only [Act.put, List.setIfInBounds_toArray, List.set_cons_zero, List.set_cons_succ])
  refine wpAnyH_ready (rs := [2]) (by kernel_rfl) (by simp) ?_; refine (AllReadyH.cons (o := _) (by simp only [List.getElem?_toArray, List.getElem?_cons_succ, List.getElem?_cons_zero]; rfl) (fun K hK => ?_) AllReadyH.nil)
  go_simp
  go_at_call 10
  refine (HF1.out _ (Below.refl _ _).drew).mono ?_
  rintro e w5 ⟨rfl, hb5, _, _⟩
  refine hK.out _ _ hb5 (fun hHeld => ?_)
  clear hK K; (try simp only [Act.put, List.setIfInBounds_toArray, List.set_cons_zero, List.set_cons_succ])
  (refine take_if (i := 3) (oi := _) (v := ?_) (by simp only [List.getElem?_toArray, List.getElem?_cons_succ, List.getElem?_cons_zero]; rfl) (by kernel_rfl) (by kernel_rfl) (by kernel_rfl) (fun _ _ _ h => h) (by rfl) ?_ (by assumption) ?_; rotate_left; (focus ((intro w hSw; (try have hSw := HF.out _ hSw); (try dsimp only at hSw); go_simp); try exact rfl)); simp only [Act.put, List.setIfInBounds_toArray, List.set_cons_zero, List.set_cons_succ]; refine take_if (i := 4) (oi := _) (v := ?_) (by simp only [List.getElem?_toArray, List.getElem?_cons_succ, List.getElem?_cons_zero]; rfl) (by kernel_rfl) (by kernel_rfl) (by kernel_rfl) (fun _ _ _ h => h) (by rfl) ?_ (by assumption) ?_; rotate_left; (focus ((intro w hSw; (try have hSw := HF.out _ hSw); (try dsimp only at hSw); go_simp); try exact rfl)); simp only [Act.put, List.setIfInBounds_toArray, List.set_cons_zero, List.set_cons_succ]; refine take_if (i := 5) (oi := _) (v := ?_) (by simp only [List.getElem?_toArray, List.getElem?_cons_succ, List.getElem?_cons_zero]; rfl) (by kernel_rfl) (by kernel_rfl) (by kernel_rfl) (fun _ _ _ h => h) (by rfl) ?_ (by assumption) ?_; rotate_left; (focus ((intro w hSw; (try have hSw := HF.out _ hSw); (try dsimp only at hSw); go_simp); try exact rfl)); simp only [Act.put, List.setIfInBounds_toArray, List.set_cons_zero, List.set_cons_succ]; refine take_if (i := 6) (oi := _) (v := ?_) (by simp only [List.getElem?_toArray, List.getElem?_cons_succ, List.getElem?_cons_zero]; rfl) (by kernel_rfl) (by kernel_rfl) (by kernel_rfl) (fun _ _ _ h => h) (by rfl) ?_ (by assumption) ?_; rotate_left; (focus ((intro w hSw; (try have hSw := HF.out _ hSw); (try dsimp only at hSw); go_simp); try exact rfl)); simp only [Act.put, List.setIfInBounds_toArray, List.set_cons_zero, List.set_cons_succ])
  refine wpAnyH_ready (rs := [7]) (by kernel_rfl) (by simp) ?_; refine (AllReadyH.cons (o := _) (by simp only [List.getElem?_toArray, List.getElem?_cons_succ, List.getElem?_cons_zero]; rfl) (fun K hK => ?_) AllReadyH.nil)
  go_simp
  go_at_call 10
  refine (HF2.out _ hb5).mono ?_
  rintro e w6 ⟨rfl, hb6, _, _⟩
  refine hK.out _ _ hb6 (fun hHeld => ?_)
  clear hK K; (try simp only [Act.put, List.setIfInBounds_toArray, List.set_cons_zero, List.set_cons_succ])
  (refine take_if (i := 8) (oi := _) (v := ?_) (by simp only [List.getElem?_toArray, List.getElem?_cons_succ, List.getElem?_cons_zero]; rfl) (by kernel_rfl) (by kernel_rfl) (by kernel_rfl) (fun _ _ _ h => h) (by rfl) ?_ (by assumption) ?_; rotate_left; (focus ((intro w hSw; (try have hSw := HF.out _ hSw); (try dsimp only at hSw); go_simp); try exact rfl)); simp only [Act.put, List.setIfInBounds_toArray, List.set_cons_zero, List.set_cons_succ]; refine take_if (i := 9) (oi := _) (v := ?_) (by simp only [List.getElem?_toArray, List.getElem?_cons_succ, List.getElem?_cons_zero]; rfl) (by kernel_rfl) (by kernel_rfl) (by kernel_rfl) (fun _ _ _ h => h) (by rfl) ?_ (by assumption) ?_; rotate_left; (focus ((intro w hSw; (try have hSw := HF.out _ hSw); (try dsimp only at hSw); go_simp); try exact rfl)); simp only [Act.put, List.setIfInBounds_toArray, List.set_cons_zero, List.set_cons_succ]; refine take_if (i := 10) (oi := _) (v := ?_) (by simp only [List.getElem?_toArray, List.getElem?_cons_succ, List.getElem?_cons_zero]; rfl) (by kernel_rfl) (by kernel_rfl) (by kernel_rfl) (fun _ _ _ h => h) (by rfl) ?_ (by assumption) ?_; rotate_left; (focus ((intro w hSw; (try have hSw := HF.out _ hSw); (try dsimp only at hSw); go_simp); try exact rfl)); simp only [Act.put, List.setIfInBounds_toArray, List.set_cons_zero, List.set_cons_succ]; refine take_if (i := 12) (oi := _) (v := ?_) (by simp only [List.getElem?_toArray, List.getElem?_cons_succ, List.getElem?_cons_zero]; rfl) (by kernel_rfl) (by kernel_rfl) (by kernel_rfl) (fun _ _ _ h => h) (by rfl) ?_ (by assumption) ?_; rotate_left; (focus ((intro w hSw; (try have hSw := HF.out _ hSw); (try dsimp only at hSw); go_simp); try exact rfl)); simp only [Act.put, List.setIfInBounds_toArray, List.set_cons_zero, List.set_cons_succ])
  refine wpAnyH_ready (rs := [11]) (by kernel_rfl) (by simp) ?_; refine (AllReadyH.cons (o := _) (by simp only [List.getElem?_toArray, List.getElem?_cons_succ, List.getElem?_cons_zero]; rfl) (fun K hK => ?_) AllReadyH.nil)
  go_simp
  go_at_call 12
  refine (HSH.out _ hb6).mono ?_
  rintro e w7 ⟨B4, c4, rfl, y1, y2, y3, y4, hb7⟩
  have hb7' : Below w4.heap.size w4 w7 := hb6.trans (hb7.mono hb6.size)
  refine hK.out _ _ hb7' (fun hHeld => ?_)
  clear hK K; (try simp only [Act.put, List.setIfInBounds_toArray, List.set_cons_zero, List.set_cons_succ])
  refine wpAnyH_ready (rs := [13]) (by kernel_rfl) (by simp) ?_; refine (AllReadyH.cons (o := _) (by simp only [List.getElem?_toArray, List.getElem?_cons_succ, List.getElem?_cons_zero]; rfl) (fun K hK => ?_) AllReadyH.nil)
  go_simp
  go_at_call 10
  refine (HF3.out _ B4 c4 hb7' y1).mono ?_
  rintro e w8 ⟨rfl, hb8, _, _⟩
  refine hK.out _ _ hb8 (fun hHeld => ?_)
  clear hK K; (try simp only [Act.put, List.setIfInBounds_toArray, List.set_cons_zero, List.set_cons_succ])
  (refine take_if (i := 14) (oi := _) (v := ?_) (by simp only [List.getElem?_toArray, List.getElem?_cons_succ, List.getElem?_cons_zero]; rfl) (by kernel_rfl) (by kernel_rfl) (by kernel_rfl) (fun _ _ _ h => h) (by rfl) ?_ (by assumption) ?_; rotate_left; (focus ((intro w hSw; (try have hSw := HF.out _ hSw); (try dsimp only at hSw); go_simp); try exact rfl)); simp only [Act.put, List.setIfInBounds_toArray, List.set_cons_zero, List.set_cons_succ])
  refine take_if (i := 15) (oi := _) (v := ?_) (by simp only [List.getElem?_toArray, List.getElem?_cons_succ, List.getElem?_cons_zero]; rfl) (by kernel_rfl) (by kernel_rfl) (by kernel_rfl) (fun _ _ _ h => h) (by rfl) ?_ (by assumption) ?_; rotate_left; (focus ((intro w hSw; go_simp); try exact rfl)); simp only [Act.put, List.setIfInBounds_toArray, List.set_cons_zero]
  refine wpAnyH_done (by kernel_rfl) ?_ _
  go_wp2
  go_ret
  exact ⟨rfl, hwA.trans (hb8.mono hwA.size)⟩
end Go.Proofs.Ytjenokeeokghgaa
