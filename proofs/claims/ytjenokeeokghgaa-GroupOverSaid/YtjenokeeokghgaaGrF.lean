/- group: the document's Fresh; Text of one letter -/
import Derived.Test.YtjenokeeokghgaaGrE
namespace Go.Proofs.Ytjenokeeokghgaa
open Go.RowKit

set_option maxHeartbeats 1000000 in
theorem far_any (ct tm dl : Int) (w : World) (hct : -9223372036854775808 ≤ ct ∧ ct ≤ 9223372036854775807) (htm : -9223372036854775808 ≤ tm ∧ tm ≤ 9223372036854775807) (hdl : -9223372036854775808 ≤ dl ∧ dl ≤ 9223372036854775807) :
    Calls Try.prog 30 #[.int .i64 tm, .int .i64 ct, .int .i64 dl] w fun e w' => e = .returned (.bool (decide (max dl 0 < tm - ct))) ∧ w = w' := by
  by_cases h0 : dl < 0
  · have e1 : IntKind.i64.wrap (ct + 0) = ct + 0 := IntWalk.i64_in _ (by omega)
    have e2 : ¬ (9223372036854775807 : Int) < ct := by omega
    go_enter Try.func30, Try.ntmps30
    go_wp2
    go_ret
    exact ⟨ret_bool (by rw [Bool.eq_iff_iff]; simp; omega), rfl⟩
  · have e0 : IntKind.i64.wrap (9223372036854775807 - dl) = 9223372036854775807 - dl := IntWalk.i64_in _ (by omega)
    by_cases h1 : 9223372036854775807 - dl < ct
    · go_enter Try.func30, Try.ntmps30
      go_wp2
      go_ret
      exact ⟨ret_bool (by rw [Bool.eq_iff_iff]; simp; omega), rfl⟩
    · have e1 : IntKind.i64.wrap (ct + dl) = ct + dl := IntWalk.i64_in _ (by omega)
      go_enter Try.func30, Try.ntmps30
      go_wp2
      go_ret
      exact ⟨ret_bool (by rw [Bool.eq_iff_iff]; simp; omega), rfl⟩

set_option maxRecDepth 100000 in
set_option maxHeartbeats 2000000 in
theorem rfresh_any (k f t g h i m v : Int) (A A' : Option Addr) (n n' c c' : Nat) (B : Option Addr) (l cl : Nat) (L : List Sp) (o : Bool) (ct tm dl : Int) (w : World) (hn : n ≤ 20000) (hn' : n' ≤ 20000) (hl : l ≤ 1000) (hrs : Rd w w.heap.size 2 B l (sps L))
    (hct : -9223372036854775808 ≤ ct ∧ ct ≤ 9223372036854775807) (htm : -9223372036854775808 ≤ tm ∧ tm ≤ 9223372036854775807) (hdl : -9223372036854775808 ≤ dl ∧ dl ≤ 9223372036854775807) :
    Calls Try.prog 11 #[.agg #[.bool o, .int .i64 ct, .slice B l cl], .int .i64 tm, .agg #[.int .i64 k, .int .i64 f, .int .i64 t, .int .i64 g, .int .i64 h, .int .i64 i, .int .i64 m, .int .i64 v, .slice A n c, .slice A' n' c'], .int .i64 dl] w fun e w' => e = .returned (.bool (freshB o ct tm dl (touchB k f t g h i m v n n' L))) ∧ Below w.heap.size w w' := by
  have hfr := fun W => far_any ct tm dl W hct htm hdl
  have htc := fun W (hb : Below w.heap.size w W) => calls_on hb (rtouches_any k f t g h i m v A A' n n' c c' B l cl L W hn hn' hl ((hrs.below hb).more hb.size))
  have HTC := Lib.hid htc
  unfold freshB
  generalize touchB k f t g h i m v n n' L = T at *
  clear htc hrs hct htm hdl hn hn' hl
  cases o with
  | false =>
    go_enter Try.func11, Try.ntmps11
    go_wp2
    go_ret
    exact ⟨rfl, by repeat (first | with_reducible exact Below.refl _ _ | with_reducible assumption | (with_reducible refine below_drewN ?_ _) | (with_reducible refine Below.drew ?_) | (with_reducible refine Below.alloc ?_ ?_ _; rotate_left; focus (first | with_reducible assumption | omega | (simp; done) | (simp; omega))) | (with_reducible refine Below.setCell ?_ ?_ _; rotate_left; focus (first | with_reducible assumption | omega | (simp; done) | (simp; omega))))⟩
  | true =>
    by_cases h1 : tm < ct
    · rw [decide_eq_true h1]
      go_enter Try.func11, Try.ntmps11
      go_wp2
      go_ret
      exact ⟨rfl, by repeat (first | with_reducible exact Below.refl _ _ | with_reducible assumption | (with_reducible refine below_drewN ?_ _) | (with_reducible refine Below.drew ?_) | (with_reducible refine Below.alloc ?_ ?_ _; rotate_left; focus (first | with_reducible assumption | omega | (simp; done) | (simp; omega))) | (with_reducible refine Below.setCell ?_ ?_ _; rotate_left; focus (first | with_reducible assumption | omega | (simp; done) | (simp; omega))))⟩
    · have h1' : decide (tm < ct) = false := decide_eq_false h1
      rw [h1']
      cases h2 : decide (max dl 0 < tm - ct) with
      | true =>
        rw [h2] at hfr
        have HFR := Lib.hid hfr
        clear hfr h2 HTC
        go_enter Try.func11, Try.ntmps11
        go_wp2_with (go_at_call 30; (refine (HFR.out _).mono ?_); rintro e w1 ⟨rfl, rfl⟩)
        go_ret
        exact ⟨rfl, by repeat (first | with_reducible exact Below.refl _ _ | with_reducible assumption | (with_reducible refine below_drewN ?_ _) | (with_reducible refine Below.drew ?_) | (with_reducible refine Below.alloc ?_ ?_ _; rotate_left; focus (first | with_reducible assumption | omega | (simp; done) | (simp; omega))) | (with_reducible refine Below.setCell ?_ ?_ _; rotate_left; focus (first | with_reducible assumption | omega | (simp; done) | (simp; omega))))⟩
      | false =>
        rw [h2] at hfr
        have HFR := Lib.hid hfr
        clear hfr h2
        go_enter Try.func11, Try.ntmps11
        go_wp2_with (first
          | (go_at_call 30; (refine (HFR.out _).mono ?_); rintro e w1 ⟨rfl, rfl⟩)
          | (go_at_call 9; (refine (HTC.out _ (by repeat (first | with_reducible exact Below.refl _ _ | with_reducible assumption | (with_reducible refine below_drewN ?_ _) | (with_reducible refine Below.drew ?_) | (with_reducible refine Below.alloc ?_ ?_ _; rotate_left; focus (first | with_reducible assumption | omega | (simp; done) | (simp; omega))) | (with_reducible refine Below.setCell ?_ ?_ _; rotate_left; focus (first | with_reducible assumption | omega | (simp; done) | (simp; omega)))))).mono ?_); rintro e w2 ⟨rfl, hb2, hz2, _⟩))
        go_ret
        exact ⟨rfl, hb2⟩
end Go.Proofs.Ytjenokeeokghgaa
