/- smap: SmapTells -/
import Derived.Test.YtkkbmcpimglcpaaG
import Derived.Test.YtkkbmcpimglcpaaH
import Derived.Test.YtkkbmcpimglcpaaI
import Derived.Test.YtkkbmcpimglcpaaQ
namespace Go.Proofs.Ytkkbmcpimglcpaa
open Go.RowKit

@[go_sem] theorem eq_place (a d e a' d' e' : Int) (b c b' c' : Bool) (w : World) : (Op.equalIn 10000 30 (.agg #[.int .i64 a, .bool b, .bool c, .int .i64 d, .int .i64 e]) (.agg #[.int .i64 a', .bool b', .bool c', .int .i64 d', .int .i64 e'])).run Try.prog w = .ok (a == a' && b == b' && c == c' && d == d' && e == e') w := by
  have u3 := Try.underlying3
  have a3 := Try.isAgg3
  have z3 := Try.sizeOf3
  have u4 := Try.underlying4
  have a4 := Try.isAgg4
  have z4 := Try.sizeOf4
  have hS : Try.prog.underlying 30 = some (.struct (Try.prog.fieldsOf 30)) := by kernel_rfl
  have hp : Try.prog.stoodInHeld 30 = false := by kernel_rfl
  rw [show (10000 : Nat) = 9999 + 1 from rfl, run_equalIn_agg w 9999 30 _ _ hS hp]
  simp only [Program.fieldsOf, Try.underlying30]
  go_simp
  by_cases h1 : a = a' <;> by_cases h2 : b = b' <;> by_cases h3 : c = c' <;> by_cases h4 : d = d' <;> by_cases h5 : e = e' <;> simp [h1, h2, h3, h4, h5]

set_option maxRecDepth 100000 in
set_option maxHeartbeats 8000000 in
/-- what the law asks the code, in one of its three ways: the place, the code, what is right -/
theorem tells_way (A : Option Addr) (n c : Nat) (l : List Rg) (p side : Int) (w : World) (hn : n ≤ 60) (hrd : Rd w w.heap.size 3 A n (rgs l)) (q1 q4 q5 er : Int) (q2 q3 rb mb : Bool)
    (hr : rightM l = rb) (hm : decide (0 ≤ p ∧ p ≤ 1099511627776) = mb) (ht : tellS l p side = (⟨q1, q2, q3, q4, q5⟩, er)) (hwant : rb = true → mb = true → tellM l p side = ⟨q1, q2, q3, q4, q5⟩)
    (hcase : (rb = false ∧ q1 = 0 ∧ q2 = false ∧ q3 = false ∧ q4 = 0 ∧ q5 = 0 ∧ er = 1) ∨ (rb = true ∧ mb = false ∧ q1 = 0 ∧ q2 = false ∧ q3 = false ∧ q4 = 0 ∧ q5 = 0 ∧ er = 3) ∨ (rb = true ∧ mb = true ∧ 0 ≤ p ∧ p ≤ 1099511627776 ∧ er = 0)) :
    Calls Try.prog 3 #[.slice A n c, .int .i64 p, .int .i64 side] w fun e w' => e = .returned (.bool true) ∧ Below w.heap.size w w' := by
  have hl := hrd.rlen
  have hrd' := fun W (hb : Below w.heap.size w W) => (hrd.below hb).more hb.size
  have hT : ∀ W, Below w.heap.size w W → Calls Try.prog 10 #[.slice A n c, .int .i64 p, .int .i64 side] W (On w W (.tuple #[.agg #[.int .i64 q1, .bool q2, .bool q3, .int .i64 q4, .int .i64 q5], .int .i64 er])) := fun W hb => calls_on hb ((tell_agg A n c l p side W (by unfold maxLen; omega) (fun _ => hrd' W hb) hl).mono fun e w' ⟨q, er', hq, he, hb'⟩ => by
    have := hq.out
    rw [ht] at this
    injection this with e1 e2
    subst e1 e2
    exact ⟨he, hb'⟩)
  have hP := fun W (hb : Below w.heap.size w W) => calls_on hb (position_any A n c l p side W (by unfold maxLen; omega) (fun _ => hrd' W hb) hl)
  simp only [ht] at hP
  have hR := fun W (hb : Below w.heap.size w W) => calls_on hb (right_any A n c l W (by unfold maxLen; omega) (fun _ => hrd' W hb) hl)
  have hRR := fun W (hb : Below w.heap.size w W) => calls_on hb (rright_any A n c l W (by unfold maxLen; omega) (fun _ => hrd' W hb) hl)
  have hS := fun W (hb : Below w.heap.size w W) => calls_on hb (shift_any A n c l W (by unfold maxLen; omega) (fun _ => hrd' W hb) hl)
  have hLV := fun W (hb : Below w.heap.size w W) => calls_on hb (live23_any W)
  have hM := fun W (hb : Below w.heap.size w W) => calls_same hb (may_any p W)
  rw [hm] at hM
  rw [hr] at hR hRR
  have hSH : rb = true → ∀ W, Below w.heap.size w W → Calls Try.prog 16 #[.slice A n c, .int .i64 n] W (On w W (.int .i64 (shiftM l))) := fun h W hb => by
    have := calls_drew hb (rshift_any A n c n l W (hrd' W hb) (by rw [hr, h]) (Nat.le_refl _))
    have e1 : shiftL (l.take n) = shiftM l := by rw [List.take_of_length_le (by omega)]; unfold shiftM; rw [hr, h]; rfl
    rw [e1] at this
    exact this
  have hRT : rb = true → mb = true → 0 ≤ p → p ≤ 1099511627776 → ∀ W, Below w.heap.size w W → Calls Try.prog 13 #[.slice A n c, .int .i64 p, .int .i64 side] W (On w W (.agg #[.int .i64 q1, .bool q2, .bool q3, .int .i64 q4, .int .i64 q5])) := fun h1 h2 h3 h4 W hb => by
    have := calls_on hb (rtell_any A n c l p side W (hrd' W hb) (by rw [hr, h1]) h3 h4)
    rw [hwant h1 h2] at this
    exact this
  have hz : rb = false → shiftM l = 0 := fun h => by unfold shiftM; rw [hr, h]; rfl
  generalize shiftM l = sh at *
  have HT := Lib.hid hT
  have HP := Lib.hid hP
  have HR := Lib.hid hR
  have HRR := Lib.hid hRR
  have HS := Lib.hid hS
  have HSH := Lib.hid hSH
  have HRT := Lib.hid hRT
  have HM := Lib.hid hM
  have HLV := Lib.hid hLV
  clear hT hP hR hRR hS hSH hRT hM hLV hwant hrd hrd' hl ht hr hm
  rcases hcase with ⟨rfl, rfl, rfl, rfl, rfl, rfl, rfl⟩ | ⟨rfl, rfl, rfl, rfl, rfl, rfl, rfl, rfl⟩ | ⟨rfl, rfl, g1, g2, rfl⟩
  all_goals
    have hz' := hz
    clear hz
    try obtain rfl := hz' rfl
    clear hz'
    try have HQ := Lib.hid (HRT.out rfl rfl g1 g2)
    try have HSK := Lib.hid (HSH.out rfl)
    clear HRT HSH
    go_enter Try.func3, Try.ntmps3
    go_wp2_with (first
      | (go_at_call 10; ((with_reducible refine (HT.out _ (by repeat (first | with_reducible exact Below.refl _ _ | with_reducible assumption | (with_reducible refine below_drewN ?_ _) | (with_reducible refine Below.drew ?_) | (with_reducible refine Below.alloc ?_ ?_ _; rotate_left; first | with_reducible assumption | omega | (simp; done) | (simp; omega)) | (with_reducible refine Below.setCell ?_ ?_ _; rotate_left; first | with_reducible assumption | omega | (simp; done) | (simp; omega))))).mono ?_); rintro e w1 ⟨rfl, hb1, hz1, hx1⟩))
      | (go_at_call 11; ((with_reducible refine (HRR.out _ (by repeat (first | with_reducible exact Below.refl _ _ | with_reducible assumption | (with_reducible refine below_drewN ?_ _) | (with_reducible refine Below.drew ?_) | (with_reducible refine Below.alloc ?_ ?_ _; rotate_left; first | with_reducible assumption | omega | (simp; done) | (simp; omega)) | (with_reducible refine Below.setCell ?_ ?_ _; rotate_left; first | with_reducible assumption | omega | (simp; done) | (simp; omega))))).mono ?_); rintro e w2 ⟨rfl, hb2, hz2, hx2⟩))
      | (go_at_call 12; ((with_reducible refine (HM.out _ (by repeat (first | with_reducible exact Below.refl _ _ | with_reducible assumption | (with_reducible refine below_drewN ?_ _) | (with_reducible refine Below.drew ?_) | (with_reducible refine Below.alloc ?_ ?_ _; rotate_left; first | with_reducible assumption | omega | (simp; done) | (simp; omega)) | (with_reducible refine Below.setCell ?_ ?_ _; rotate_left; first | with_reducible assumption | omega | (simp; done) | (simp; omega))))).mono ?_); rintro e w3 ⟨rfl, hb3, hz3, hx3⟩))
      | (go_at_call 13; ((with_reducible refine (HQ.out _ (by repeat (first | with_reducible exact Below.refl _ _ | with_reducible assumption | (with_reducible refine below_drewN ?_ _) | (with_reducible refine Below.drew ?_) | (with_reducible refine Below.alloc ?_ ?_ _; rotate_left; first | with_reducible assumption | omega | (simp; done) | (simp; omega)) | (with_reducible refine Below.setCell ?_ ?_ _; rotate_left; first | with_reducible assumption | omega | (simp; done) | (simp; omega))))).mono ?_); rintro e w4 ⟨rfl, hb4, hz4, hx4⟩; have k10 := ((Bk.new w2 30 #[.int .i64 0, .bool false, .bool false, .int .i64 0, .int .i64 0]).ext hx3).ext hx4; have k7 := ((((Bk.new w1 25 #[.int .i64 q1, .bool q2, .bool q3, .int .i64 q4, .int .i64 q5]).ext hx2).alloc (.cells #[.int .i64 0, .bool false, .bool false, .int .i64 0, .int .i64 0] 30)).ext hx3).ext hx4; have zz := def_lt' k10; have ne := (Nat.ne_of_lt (def_lt' ((Bk.new w1 25 #[.int .i64 q1, .bool q2, .bool q3, .int .i64 q4, .int .i64 q5]).ext hx2))); have c0 := k10.cell 0; have c1 := k10.cell 1; have c2 := k10.cell 2; have c3 := k10.cell 3; have c4 := k10.cell 4; have f0 := k10.frozen; dsimp at c0 c1 c2 c3 c4)))
    go_cut [58] (fun v wx => v = .bool false ∧ Below w.heap.size w wx ∧ w.heap.size ≤ wx.heap.size)
    case first =>
      first
        | (have K10 : Bk _ w2.heap.size 30 #[.int .i64 q1, .bool q2, .bool q3, .int .i64 q4, .int .i64 q5] := ((((k10.set_ 0 (.int .i64 q1)).set_ 1 (.bool q2)).set_ 2 (.bool q3)).set_ 3 (.int .i64 q4)).set_ 4 (.int .i64 q5)
           have K7 := ((((k7.far (p := ⟨w2.heap.size, 0, none⟩) ne (.int .i64 q1)).far (p := ⟨w2.heap.size, 1, none⟩) ne (.bool q2)).far (p := ⟨w2.heap.size, 2, none⟩) ne (.bool q3)).far (p := ⟨w2.heap.size, 3, none⟩) ne (.int .i64 q4)).far (p := ⟨w2.heap.size, 4, none⟩) ne (.int .i64 q5))
        | (have K10 := (Bk.new w2 30 #[.int .i64 0, .bool false, .bool false, .int .i64 0, .int .i64 0]).ext hx3
           have K7 := (((Bk.new w1 25 #[.int .i64 0, .bool false, .bool false, .int .i64 0, .int .i64 0]).ext hx2).alloc (.cells #[.int .i64 0, .bool false, .bool false, .int .i64 0, .int .i64 0] 30)).ext hx3)
        | (have K10 := Bk.new w2 30 #[.int .i64 0, .bool false, .bool false, .int .i64 0, .int .i64 0]
           have K7 := ((Bk.new w1 25 #[.int .i64 0, .bool false, .bool false, .int .i64 0, .int .i64 0]).ext hx2).alloc (.cells #[.int .i64 0, .bool false, .bool false, .int .i64 0, .int .i64 0] 30))
      go_region_law (first | (go_simp; go_at_call 14; ((with_reducible refine (HR.out _ (by repeat (first | with_reducible exact Below.refl _ _ | with_reducible assumption | (with_reducible refine below_drewN ?_ _) | (with_reducible refine Below.drew ?_) | (with_reducible refine Below.alloc ?_ ?_ _; rotate_left; first | with_reducible assumption | omega | (simp; done) | (simp; omega)) | (with_reducible refine Below.setCell ?_ ?_ _; rotate_left; first | with_reducible assumption | omega | (simp; done) | (simp; omega))))).mono ?_); rintro e w5 ⟨rfl, hb5, hz5, hx5⟩; have L7 := K7.drew.ext hx5; have L10 := K10.drew.ext hx5; have m0 := L10.cell 0; have m1 := L10.cell 1; have m2 := L10.cell 2; have m3 := L10.cell 3; have m4 := L10.cell 4; have l0 := L7.cell 0; have l1 := L7.cell 1; have l2 := L7.cell 2; have l3 := L7.cell 3; have l4 := L7.cell 4; dsimp at m0 m1 m2 m3 m4 l0 l1 l2 l3 l4; have y7 := def_lt' L7; have y10 := def_lt' L10)) | (go_simp; go_at_call 15; ((with_reducible refine (HP.out _ (by repeat (first | with_reducible exact Below.refl _ _ | with_reducible assumption | (with_reducible refine below_drewN ?_ _) | (with_reducible refine Below.drew ?_) | (with_reducible refine Below.alloc ?_ ?_ _; rotate_left; first | with_reducible assumption | omega | (simp; done) | (simp; omega)) | (with_reducible refine Below.setCell ?_ ?_ _; rotate_left; first | with_reducible assumption | omega | (simp; done) | (simp; omega))))).mono ?_); rintro e w6 ⟨rfl, hb6, hz6, hx6⟩; have M10 := L10.ext hx6; have v0 := M10.cell 0; dsimp at v0)))
      all_goals
        go_wp2_with fail
        go_meet
        exact ⟨rfl, hb6, hz6⟩
    case rest =>
      obtain ⟨rfl, hb5, hz5⟩ := hcut
      go_wp2_with (first
        | (go_at_call 16; ((with_reducible refine (HSK.out _ (by repeat (first | with_reducible exact Below.refl _ _ | with_reducible assumption | (with_reducible refine below_drewN ?_ _) | (with_reducible refine Below.drew ?_) | (with_reducible refine Below.alloc ?_ ?_ _; rotate_left; first | with_reducible assumption | omega | (simp; done) | (simp; omega)) | (with_reducible refine Below.setCell ?_ ?_ _; rotate_left; first | with_reducible assumption | omega | (simp; done) | (simp; omega))))).mono ?_); rintro e w6 ⟨rfl, hb6, hz6, hx6⟩))
        | (go_at_call 17; ((with_reducible refine (HS.out _ (by repeat (first | with_reducible exact Below.refl _ _ | with_reducible assumption | (with_reducible refine below_drewN ?_ _) | (with_reducible refine Below.drew ?_) | (with_reducible refine Below.alloc ?_ ?_ _; rotate_left; first | with_reducible assumption | omega | (simp; done) | (simp; omega)) | (with_reducible refine Below.setCell ?_ ?_ _; rotate_left; first | with_reducible assumption | omega | (simp; done) | (simp; omega))))).mono ?_); rintro e w7 ⟨rfl, hb7, hz7, hx7⟩))
        | (go_at_call 9; ((with_reducible refine (HLV.out _ (by repeat (first | with_reducible exact Below.refl _ _ | with_reducible assumption | (with_reducible refine below_drewN ?_ _) | (with_reducible refine Below.drew ?_) | (with_reducible refine Below.alloc ?_ ?_ _; rotate_left; first | with_reducible assumption | omega | (simp; done) | (simp; omega)) | (with_reducible refine Below.setCell ?_ ?_ _; rotate_left; first | with_reducible assumption | omega | (simp; done) | (simp; omega))))).mono ?_); rintro e w8 ⟨rfl, hb8, hz8, hx8⟩)))
      go_ret
      exact ⟨rfl, hb8⟩
end Go.Proofs.Ytkkbmcpimglcpaa
