/- smap: SmapBack -/
import Derived.Test.YtkkbmcpimglcpaaPB
import Derived.Test.YtkkbmcpimglcpaaIW
namespace Go.Proofs.Ytkkbmcpimglcpaa
open Go.RowKit

section
variable {A : Option Addr} {n c : Nat} {l : List Rg} {w W : World}
theorem Has.pos (h : Has A n c l w) (hb : Below w.heap.size w W) (p side : Int) : Calls Try.prog 15 #[.slice A n c, .int .i64 p, .int .i64 side] W (On w W (.int .i64 (tellS l p side).1.pos)) := calls_on hb (position_any A n c l p side W h.hn (fun _ => h.at_ hb) h.rd.rlen)
theorem Has.tell (h : Has A n c l w) (hb : Below w.heap.size w W) (p side : Int) {x : Pl} {er : Int} (hx : tellS l p side = (x, er)) :
    Calls Try.prog 10 #[.slice A n c, .int .i64 p, .int .i64 side] W (On w W (.tuple #[.agg #[.int .i64 x.pos, .bool x.gone, .bool x.inside, .int .i64 x.range, .int .i64 x.off], .int .i64 er])) :=
  calls_on hb ((tell_any A n c l p side W h.hn (fun _ => h.at_ hb) h.rd.rlen).mono fun e w' ⟨he, hb'⟩ => by rw [hx] at he; exact ⟨he, hb'⟩)
theorem may_on (hb : Below w.heap.size w W) (p : Int) : Calls Try.prog 12 #[.int .i64 p] W (On w W (.bool (decide (0 ≤ p ∧ p ≤ 1099511627776)))) := calls_same hb (may_any p W)
end

/-- which of two numbers is the lower one, as the code tells it -/
abbrev LoHi (a b lo hi : Int) : Prop := (a < b ∧ ¬ b < a ∧ lo = a ∧ hi = b) ∨ (¬ a < b ∧ ¬ b < a ∧ lo = a ∧ hi = a) ∨ (¬ a < b ∧ b < a ∧ lo = b ∧ hi = a)

set_option maxRecDepth 100000 in
set_option maxHeartbeats 4000000 in
theorem back_early (A : Option Addr) (n c : Nat) (l : List Rg) (a b lo hi side : Int) (w : World) (hn : n ≤ maxLen) (hrd : Rd w w.heap.size 3 A n (rgs l)) (hab : LoHi a b lo hi) (rb m1 m2 : Bool)
    (h1 : rightM l = rb) (h2 : decide (0 ≤ lo ∧ lo ≤ 1099511627776) = m1) (h3 : decide (0 ≤ hi ∧ hi ≤ 1099511627776) = m2) (hc : 60 < n ∨ (n ≤ 60 ∧ rb = false) ∨ (n ≤ 60 ∧ rb = true ∧ m1 = false) ∨ (n ≤ 60 ∧ rb = true ∧ m1 = true ∧ m2 = false)) :
    Calls Try.prog 5 #[.slice A n c, .agg #[.int .i64 a, .int .i64 b], .int .i64 side] w fun e w' => e = .returned (.bool true) ∧ Below w.heap.size w w' := by
  have HM : Has A n c l w := ⟨hn, hrd⟩
  have hR := fun W (hb : Below w.heap.size w W) => HM.rright hb
  have hM1 := fun W (hb : Below w.heap.size w W) => may_on hb lo
  have hM2 := fun W (hb : Below w.heap.size w W) => may_on hb hi
  rw [h1] at hR
  rw [h2] at hM1
  rw [h3] at hM2
  have HR := Lib.hid hR
  have HM1 := Lib.hid hM1
  have HM2 := Lib.hid hM2
  have H23 : Hid (lo = hi → m1 = m2) := Lib.hid (fun e => by rw [← h2, ← h3, e])
  unfold maxLen at hn
  clear hR hM1 hM2 h1 h2 h3 hrd HM
  rcases hab with ⟨g1, g2, rfl, rfl⟩ | ⟨g1, g2, rfl, rfl⟩ | ⟨g1, g2, rfl, rfl⟩
  all_goals
    rcases hc with hc | ⟨hc, rfl⟩ | ⟨hc, rfl, rfl⟩ | ⟨hc, rfl, rfl, rfl⟩
  all_goals
    first
    | (exact absurd (H23.out rfl) (by decide))
    | (go_enter Try.func5, Try.ntmps5
       go_wp2_with (first
         | (go_at_call 11; ((with_reducible refine (HR.out _ (by repeat (first | with_reducible exact Below.refl _ _ | with_reducible assumption | (with_reducible refine below_drewN ?_ _) | (with_reducible refine Below.drew ?_) | (with_reducible refine Below.alloc ?_ ?_ _; rotate_left; focus (first | with_reducible assumption | omega | (simp; done) | (simp; omega))) | (with_reducible refine Below.setCell ?_ ?_ _; rotate_left; focus (first | with_reducible assumption | omega | (simp; done) | (simp; omega)))))).mono ?_); rintro e w1 ⟨rfl, hb1, hz1, hx1⟩))
         | (go_at_call 12; ((with_reducible refine (HM1.out _ (by repeat (first | with_reducible exact Below.refl _ _ | with_reducible assumption | (with_reducible refine below_drewN ?_ _) | (with_reducible refine Below.drew ?_) | (with_reducible refine Below.alloc ?_ ?_ _; rotate_left; focus (first | with_reducible assumption | omega | (simp; done) | (simp; omega))) | (with_reducible refine Below.setCell ?_ ?_ _; rotate_left; focus (first | with_reducible assumption | omega | (simp; done) | (simp; omega)))))).mono ?_); rintro e w2 ⟨rfl, hb2, hz2, hx2⟩))
         | (go_at_call 12; ((with_reducible refine (HM2.out _ (by repeat (first | with_reducible exact Below.refl _ _ | with_reducible assumption | (with_reducible refine below_drewN ?_ _) | (with_reducible refine Below.drew ?_) | (with_reducible refine Below.alloc ?_ ?_ _; rotate_left; focus (first | with_reducible assumption | omega | (simp; done) | (simp; omega))) | (with_reducible refine Below.setCell ?_ ?_ _; rotate_left; focus (first | with_reducible assumption | omega | (simp; done) | (simp; omega)))))).mono ?_); rintro e w3 ⟨rfl, hb3, hz3, hx3⟩))
         | (go_at_call 9; ((with_reducible refine (live_on (w := w) (by repeat (first | with_reducible exact Below.refl _ _ | with_reducible assumption | (with_reducible refine below_drewN ?_ _) | (with_reducible refine Below.drew ?_) | (with_reducible refine Below.alloc ?_ ?_ _; rotate_left; focus (first | with_reducible assumption | omega | (simp; done) | (simp; omega))) | (with_reducible refine Below.setCell ?_ ?_ _; rotate_left; focus (first | with_reducible assumption | omega | (simp; done) | (simp; omega)))))).mono ?_); rintro e w4 ⟨rfl, hb4, hz4, hx4⟩)))
       go_ret
       exact ⟨rfl, hb4⟩)

set_option maxRecDepth 100000 in
set_option maxHeartbeats 4000000 in
theorem back_main (A : Option Addr) (n c : Nat) (l : List Rg) (a b lo hi side : Int) (w : World) (h60 : n ≤ 60) (hrd : Rd w w.heap.size 3 A n (rgs l)) (hab : LoHi a b lo hi)
    (hr : rightM l = true) (h2 : 0 ≤ lo ∧ lo ≤ 1099511627776) (h3 : 0 ≤ hi ∧ hi ≤ 1099511627776) :
    Calls Try.prog 5 #[.slice A n c, .agg #[.int .i64 a, .int .i64 b], .int .i64 side] w fun e w' => e = .returned (.bool true) ∧ Below w.heap.size w w' := by
  have HM : Has A n c l w := ⟨by unfold maxLen; omega, hrd⟩
  have hle : lo ≤ hi := by rcases hab with h | h | h <;> omega
  have htell : ∀ p side, 0 ≤ p ∧ p ≤ 1099511627776 → tellS l p side = (tellM l p side, 0) := fun p side hp => by unfold tellS; rw [hr, if_pos rfl, if_pos hp]
  have hR := fun W (hb : Below w.heap.size w W) => HM.rright hb
  rw [hr] at hR
  have hM1 := fun W (hb : Below w.heap.size w W) => may_on hb lo
  rw [decide_eq_true h2] at hM1
  have hM2 := fun W (hb : Below w.heap.size w W) => may_on hb hi
  rw [decide_eq_true h3] at hM2
  have hT1 := fun W (hb : Below w.heap.size w W) => HM.tell hb lo side (htell lo side h2)
  have hT2 := fun W (hb : Below w.heap.size w W) => HM.tell hb hi side (htell hi side h3)
  have hP1 := fun W (hb : Below w.heap.size w W) => HM.pos hb lo (-1)
  have hP2 := fun W (hb : Below w.heap.size w W) => HM.pos hb lo 1
  rw [htell lo _ h2] at hP1 hP2
  have hIN := fun W (hb : Below w.heap.size w W) => HM.inv hb
  simp only [hr, if_true] at hIN
  have o1 : (tellM l lo side).pos ≤ (tellM l hi side).pos := mono_M hr hle
  have o2 : (tellM l lo (-1)).pos ≤ (tellM l lo 1).pos := sides_M hr
  have hback : (tellM l lo side).gone = true → recS (invM l) (tellM l lo side).range (tellM l lo side).off = (lo, true) ∨ rightM (invM l) = false := fun hg => by
    cases hri : rightM (invM l) with
    | false => exact .inr rfl
    | true => left; unfold recS; rw [hri, if_pos rfl, back_gone hg]
  have hnot : (tellM l lo side).gone = false → (0 ≤ (tellM l lo side).pos ∧ (tellM l lo side).pos ≤ 1099511627776) → rightM (invM l) = true → (tellS (invM l) (tellM l lo side).pos side).1.pos = lo := fun hg hm hri => by
    unfold tellS
    rw [hri, if_pos rfl, if_pos hm]
    exact back_not hr h2.1 hg
  generalize tellM l lo side = x at hT1 o1 hback hnot
  generalize tellM l hi side = y at hT2 o1
  obtain ⟨x1, x2, x3, x4, x5⟩ := x
  obtain ⟨y1, y2, y3, y4, y5⟩ := y
  simp only at hT1 hT2 hP1 hP2 o1 hback hnot
  generalize (tellM l lo (-1)).pos = z1 at hP1 o2
  generalize (tellM l lo 1).pos = z2 at hP2 o2
  have HR := Lib.hid hR
  have HM1 := Lib.hid hM1
  have HM2 := Lib.hid hM2
  have HT1 := Lib.hid hT1
  have HT2 := Lib.hid hT2
  have HP1 := Lib.hid hP1
  have HP2 := Lib.hid hP2
  have HIN := Lib.hid hIN
  have HBK := Lib.hid hback
  have HNT := Lib.hid hnot
  clear hR hM1 hM2 hT1 hT2 hP1 hP2 hIN hback hnot htell hr hrd
  have hk9 : ∀ W : World, Bk (W.alloc (.cells #[.int .i64 x1, .bool x2, .bool x3, .int .i64 x4, .int .i64 x5] 25)) W.heap.size 25 #[.int .i64 x1, .bool x2, .bool x3, .int .i64 x4, .int .i64 x5] := fun W => Bk.new W _ _
  have HK9 := Lib.hid hk9
  clear hk9
  obtain ⟨rw_, hrw⟩ : ∃ q, rightM (invM l) = q := ⟨_, rfl⟩
  obtain ⟨mx, hmx⟩ : ∃ q, decide (0 ≤ x1 ∧ x1 ≤ 1099511627776) = q := ⟨_, rfl⟩
  have hMX := fun W (hb : Below w.heap.size w W) => may_on hb x1
  rw [hmx] at hMX
  have HMX := Lib.hid hMX
  have HRW := Lib.hid hrw
  have hq : rw_ = false ∨ (rw_ = true ∧ mx = false) ∨ (rw_ = true ∧ mx = true ∧ x2 = true ∧ Hid (recS (invM l) x4 x5 = (lo, true))) ∨ (rw_ = true ∧ mx = true ∧ x2 = false ∧ Hid ((tellS (invM l) x1 side).1.pos = lo)) := by
    cases hrw' : rw_ with
    | false => exact .inl rfl
    | true =>
      cases hmx' : mx with
      | false => exact .inr (.inl ⟨rfl, rfl⟩)
      | true =>
        rw [hrw'] at hrw; rw [hmx'] at hmx
        cases hx2 : x2 with
        | true => exact .inr (.inr (.inl ⟨rfl, rfl, rfl, Lib.hid ((HBK.out hx2).elim id (fun h => by rw [h] at hrw; cases hrw))⟩))
        | false => exact .inr (.inr (.inr ⟨rfl, rfl, rfl, Lib.hid (HNT.out hx2 (of_decide_eq_true hmx) hrw)⟩))
  clear hMX hrw hmx HBK HNT
  rcases hab with ⟨g1, g2, rfl, rfl⟩ | ⟨g1, g2, rfl, rfl⟩ | ⟨g1, g2, rfl, rfl⟩
  all_goals rcases hq with rfl | ⟨rfl, rfl⟩ | ⟨rfl, rfl, rfl, HG⟩ | ⟨rfl, rfl, rfl, HG⟩
  all_goals
    go_enter Try.func5, Try.ntmps5
    go_wp2_with (first
      | (go_at_call 11; ((with_reducible refine (HR.out _ (by repeat (first | with_reducible exact Below.refl _ _ | with_reducible assumption | (with_reducible refine below_drewN ?_ _) | (with_reducible refine Below.drew ?_) | (with_reducible refine Below.alloc ?_ ?_ _; rotate_left; focus (first | with_reducible assumption | omega | (simp; done) | (simp; omega))) | (with_reducible refine Below.setCell ?_ ?_ _; rotate_left; focus (first | with_reducible assumption | omega | (simp; done) | (simp; omega)))))).mono ?_); rintro e w1 ⟨rfl, hb1, hz1, hx1⟩))
      | (go_at_call 12; ((with_reducible refine (HM1.out _ (by repeat (first | with_reducible exact Below.refl _ _ | with_reducible assumption | (with_reducible refine below_drewN ?_ _) | (with_reducible refine Below.drew ?_) | (with_reducible refine Below.alloc ?_ ?_ _; rotate_left; focus (first | with_reducible assumption | omega | (simp; done) | (simp; omega))) | (with_reducible refine Below.setCell ?_ ?_ _; rotate_left; focus (first | with_reducible assumption | omega | (simp; done) | (simp; omega)))))).mono ?_); rintro e w2 ⟨rfl, hb2, hz2, hx2⟩))
      | (go_at_call 12; ((with_reducible refine (HM2.out _ (by repeat (first | with_reducible exact Below.refl _ _ | with_reducible assumption | (with_reducible refine below_drewN ?_ _) | (with_reducible refine Below.drew ?_) | (with_reducible refine Below.alloc ?_ ?_ _; rotate_left; focus (first | with_reducible assumption | omega | (simp; done) | (simp; omega))) | (with_reducible refine Below.setCell ?_ ?_ _; rotate_left; focus (first | with_reducible assumption | omega | (simp; done) | (simp; omega)))))).mono ?_); rintro e w3 ⟨rfl, hb3, hz3, hx3⟩))
      | (go_at_call 10; have hst := hx4; ((with_reducible refine (HT2.out _ (by repeat (first | with_reducible exact Below.refl _ _ | with_reducible assumption | (with_reducible refine below_drewN ?_ _) | (with_reducible refine Below.drew ?_) | (with_reducible refine Below.alloc ?_ ?_ _; rotate_left; focus (first | with_reducible assumption | omega | (simp; done) | (simp; omega))) | (with_reducible refine Below.setCell ?_ ?_ _; rotate_left; focus (first | with_reducible assumption | omega | (simp; done) | (simp; omega)))))).mono ?_); rintro e w5 ⟨rfl, hb5, hz5, hx5⟩; have k9 := (HK9.out w4).ext hx5; have hlt := def_lt' k9; have e0 := k9.cell 0; have e1 := k9.cell 1; have e2 := k9.cell 2; have e3 := k9.cell 3; have e4 := k9.cell 4; dsimp at e0 e1 e2 e3 e4))
      | (go_at_call 10; ((with_reducible refine (HT1.out _ (by repeat (first | with_reducible exact Below.refl _ _ | with_reducible assumption | (with_reducible refine below_drewN ?_ _) | (with_reducible refine Below.drew ?_) | (with_reducible refine Below.alloc ?_ ?_ _; rotate_left; focus (first | with_reducible assumption | omega | (simp; done) | (simp; omega))) | (with_reducible refine Below.setCell ?_ ?_ _; rotate_left; focus (first | with_reducible assumption | omega | (simp; done) | (simp; omega)))))).mono ?_); rintro e w4 ⟨rfl, hb4, hz4, hx4⟩; have k9 := HK9.out w4))
      | (go_at_call 15; ((with_reducible refine (HP1.out _ (by repeat (first | with_reducible exact Below.refl _ _ | with_reducible assumption | (with_reducible refine below_drewN ?_ _) | (with_reducible refine Below.drew ?_) | (with_reducible refine Below.alloc ?_ ?_ _; rotate_left; focus (first | with_reducible assumption | omega | (simp; done) | (simp; omega))) | (with_reducible refine Below.setCell ?_ ?_ _; rotate_left; focus (first | with_reducible assumption | omega | (simp; done) | (simp; omega)))))).mono ?_); rintro e w6 ⟨rfl, hb6, hz6, hx6⟩; have k9 := (k9.alloc (.cells #[.int .i64 y1, .bool y2, .bool y3, .int .i64 y4, .int .i64 y5] 25)).ext hx6))
      | (go_at_call 15; ((with_reducible refine (HP2.out _ (by repeat (first | with_reducible exact Below.refl _ _ | with_reducible assumption | (with_reducible refine below_drewN ?_ _) | (with_reducible refine Below.drew ?_) | (with_reducible refine Below.alloc ?_ ?_ _; rotate_left; focus (first | with_reducible assumption | omega | (simp; done) | (simp; omega))) | (with_reducible refine Below.setCell ?_ ?_ _; rotate_left; focus (first | with_reducible assumption | omega | (simp; done) | (simp; omega)))))).mono ?_); rintro e w7 ⟨rfl, hb7, hz7, hx7⟩; have k9 := k9.ext hx7))
      | (go_at_call 18; ((with_reducible refine (HIN.out _ (by repeat (first | with_reducible exact Below.refl _ _ | with_reducible assumption | (with_reducible refine below_drewN ?_ _) | (with_reducible refine Below.drew ?_) | (with_reducible refine Below.alloc ?_ ?_ _; rotate_left; focus (first | with_reducible assumption | omega | (simp; done) | (simp; omega))) | (with_reducible refine Below.setCell ?_ ?_ _; rotate_left; focus (first | with_reducible assumption | omega | (simp; done) | (simp; omega)))))).mono ?_); rintro e w8 ⟨A', c', rfl, HW, hb8, hz8, hx8⟩; have k9 := k9.ext hx8))
      | (go_at_call 14; have hh := HW.right (Below.refl _ _); rw [HRW.out] at hh; ((with_reducible refine hh.mono ?_); rintro e w9 ⟨rfl, b9, z9, hx9⟩; clear hh; have k9 := k9.ext hx9; have hb9 := hb8.trans (b9.mono hb8.size); have e0 := k9.cell 0; have e1 := k9.cell 1; have e2 := k9.cell 2; have e3 := k9.cell 3; have e4 := k9.cell 4; dsimp at e0 e1 e2 e3 e4; have hlt := def_lt' k9))
      | (go_at_call 12; ((with_reducible refine (HMX.out _ (by repeat (first | with_reducible exact Below.refl _ _ | with_reducible assumption | (with_reducible refine below_drewN ?_ _) | (with_reducible refine Below.drew ?_) | (with_reducible refine Below.alloc ?_ ?_ _; rotate_left; focus (first | with_reducible assumption | omega | (simp; done) | (simp; omega))) | (with_reducible refine Below.setCell ?_ ?_ _; rotate_left; focus (first | with_reducible assumption | omega | (simp; done) | (simp; omega)))))).mono ?_); rintro e w10 ⟨rfl, hb10, hz10, hx10⟩; have k9 := k9.ext hx10; have b10 := b9.trans (hx10.mono b9.size); have e0 := k9.cell 0; have e1 := k9.cell 1; have e2 := k9.cell 2; have e3 := k9.cell 3; have e4 := k9.cell 4; dsimp at e0 e1 e2 e3 e4; have hlt := def_lt' k9))
      | (go_at_call 19; have hh := HW.rec_ b10 x4 x5; rw [HG.out] at hh; ((with_reducible refine hh.mono ?_); rintro e w11 ⟨rfl, b11, z11, hx11⟩; clear hh; have hb11 := hb10.trans (hx11.mono hb10.size)))
      | (go_at_call 15; have hh := HW.pos b10 x1 side; rw [HG.out] at hh; ((with_reducible refine hh.mono ?_); rintro e w11 ⟨rfl, b11, z11, hx11⟩; clear hh; have hb11 := hb10.trans (hx11.mono hb10.size)))
      | (go_at_call 9; ((with_reducible refine (live_on (w := w) (by repeat (first | with_reducible exact Below.refl _ _ | with_reducible assumption | (with_reducible refine below_drewN ?_ _) | (with_reducible refine Below.drew ?_) | (with_reducible refine Below.alloc ?_ ?_ _; rotate_left; focus (first | with_reducible assumption | omega | (simp; done) | (simp; omega))) | (with_reducible refine Below.setCell ?_ ?_ _; rotate_left; focus (first | with_reducible assumption | omega | (simp; done) | (simp; omega)))))).mono ?_); rintro e w12 ⟨rfl, hb12, hz12, hx12⟩)))
    all_goals
      go_ret
      exact ⟨rfl, by assumption⟩
end Go.Proofs.Ytkkbmcpimglcpaa
