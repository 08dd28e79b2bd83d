/- step: the document's Shape -/
import Derived.Test.YtmacfoebfpljoaaStE
namespace Go.Proofs.Ytmacfoebfpljoaa
open Go.RowKit

set_option maxRecDepth 100000 in
set_option maxHeartbeats 4000000 in
theorem rshape_any (k f t g h i m v : Int) (A A' : Option Addr) (n n' c c' : Nat) (w : World) (hn : n ≤ 20000) (hn' : n' ≤ 20000) :
    Calls Try.prog 11 #[.agg #[.int .i64 k, .int .i64 f, .int .i64 t, .int .i64 g, .int .i64 h, .int .i64 i, .int .i64 m, .int .i64 v, .slice A n c, .slice A' n' c']] w fun e w' => e = .returned (.bool (shB k f t g h i m v n n')) ∧ Below w.heap.size w w' := by
  by_cases hbox : 0 ≤ f ∧ f ≤ t ∧ t ≤ 1073741824
  · obtain ⟨h0, h1, h2⟩ := hbox
    have e3 : ¬ (20000 : Int) < n := by omega
    have e4 : ¬ (20000 : Int) < n' := by omega
    have e5 : ¬ f < 0 := by omega
    have e6 : ¬ t < f := by omega
    have e7 : ¬ 1073741824 < t := by omega
    have e8 : IntKind.i64.wrap (t - f) = t - f := IntWalk.i64_in _ (by omega)
    have hbx : boxes f t = true := decide_eq_true ⟨h0, h1, h2⟩
    have HN := Lib.hid hn
    have HN' := Lib.hid hn'
    have H0 := Lib.hid h0
    have H1 := Lib.hid h1
    have H2 := Lib.hid h2
    have HBX := Lib.hid hbx
    clear hn hn' h0 h1 h2 hbx
    go_enter Try.func11, Try.ntmps11
    go_upto_region 3 with fail
    go_cut [3] (fun b wx => b = .bool (decide (¬ (g = 0 ∧ h = 0 ∧ i = 0))) ∧ wx = w.alloc (.cells #[.int .i64 k, .int .i64 f, .int .i64 t, .int .i64 g, .int .i64 h, .int .i64 i, .int .i64 m, .int .i64 v, .slice A n c, .slice A' n' c'] 41))
    case first =>
      have hc : ((g != 0) = true) ∨ (g = 0 ∧ (h != 0) = true) ∨ (g = 0 ∧ h = 0 ∧ (i != 0) = true) ∨ (g = 0 ∧ h = 0 ∧ i = 0) := by
        simp only [bne_iff_ne, ne_eq]; omega
      rcases hc with g1 | ⟨rfl, g1⟩ | ⟨rfl, rfl, g1⟩ | ⟨rfl, rfl, rfl⟩
      all_goals
        go_wp2
        go_meet
      · exact ⟨congrArg Value.bool (decide_eq_true (by intro h; rw [h.1] at g1; cases g1)).symm, rfl⟩
      · exact ⟨congrArg Value.bool (decide_eq_true (by intro h; rw [h.2.1] at g1; cases g1)).symm, rfl⟩
      · exact ⟨congrArg Value.bool (decide_eq_true (by intro h; rw [h.2.2] at g1; cases g1)).symm, rfl⟩
      · exact ⟨rfl, rfl⟩
    case rest =>
      obtain ⟨rfl, rfl⟩ := hcut
      obtain ⟨gB, hgB⟩ : ∃ b, decide (¬ (g = 0 ∧ h = 0 ∧ i = 0)) = b := ⟨_, rfl⟩
      rw [hgB]
      have HG := Lib.hid hgB
      clear hgB
      go_upto_region 4 with fail
      go_cut [4] (fun b wx => b = .bool (decide (¬ (m = 0 ∧ v = 0))) ∧ wx = w.alloc (.cells #[.int .i64 k, .int .i64 f, .int .i64 t, .int .i64 g, .int .i64 h, .int .i64 i, .int .i64 m, .int .i64 v, .slice A n c, .slice A' n' c'] 41))
      case first =>
        have hc : ((m != 0) = true) ∨ (m = 0 ∧ (v != 0) = true) ∨ (m = 0 ∧ v = 0) := by
          simp only [bne_iff_ne, ne_eq]; omega
        rcases hc with g1 | ⟨rfl, g1⟩ | ⟨rfl, rfl⟩
        all_goals
          go_wp2
          go_meet
        · exact ⟨congrArg Value.bool (decide_eq_true (by intro h; rw [h.1] at g1; cases g1)).symm, rfl⟩
        · exact ⟨congrArg Value.bool (decide_eq_true (by intro h; rw [h.2] at g1; cases g1)).symm, rfl⟩
        · exact ⟨rfl, rfl⟩
      case rest =>
        obtain ⟨rfl, rfl⟩ := hcut
        obtain ⟨mB, hmB⟩ : ∃ b, decide (¬ (m = 0 ∧ v = 0)) = b := ⟨_, rfl⟩
        rw [hmB]
        have HM := Lib.hid hmB
        clear hmB
        have hk : k = 1 ∨ k = 2 ∨ k = 3 ∨ k = 4 ∨ k = 5 ∨ (k < 1 ∨ 5 < k) := by omega
        rcases hk with rfl | rfl | rfl | rfl | rfl | hk
        · cases gB <;> cases mB
          all_goals
            go_wp2
            go_ret
            exact ⟨ret_bool (by have a := HG.out; have b := HM.out; have c := HBX.out; have d := HN.out; have d' := HN'.out; have x := H0.out; have y := H1.out; have z := H2.out; unfold shB; rw [c]; rw [Bool.eq_iff_iff]; simp [sh1] at a b ⊢; omega), by repeat (first | with_reducible exact Below.refl _ _ | with_reducible assumption | (with_reducible refine below_drewN ?_ _) | (with_reducible refine Below.drew ?_) | (with_reducible refine Below.alloc ?_ ?_ _; rotate_left; focus (first | with_reducible assumption | omega | (simp; done) | (simp; omega))) | (with_reducible refine Below.setCell ?_ ?_ _; rotate_left; focus (first | with_reducible assumption | omega | (simp; done) | (simp; omega))))⟩
        · cases mB
          all_goals
            go_wp2
            all_goals go_ret
            all_goals exact ⟨ret_bool (by have a := HG.out; have b := HM.out; have c := HBX.out; have d := HN.out; have d' := HN'.out; have x := H0.out; have y := H1.out; have z := H2.out; unfold shB; rw [c]; rw [Bool.eq_iff_iff]; simp [sh2] at a b ⊢; omega), by repeat (first | with_reducible exact Below.refl _ _ | with_reducible assumption | (with_reducible refine below_drewN ?_ _) | (with_reducible refine Below.drew ?_) | (with_reducible refine Below.alloc ?_ ?_ _; rotate_left; focus (first | with_reducible assumption | omega | (simp; done) | (simp; omega))) | (with_reducible refine Below.setCell ?_ ?_ _; rotate_left; focus (first | with_reducible assumption | omega | (simp; done) | (simp; omega))))⟩
        · cases gB
          all_goals
            go_wp2
            all_goals go_ret
            all_goals exact ⟨ret_bool (by have a := HG.out; have b := HM.out; have c := HBX.out; have d := HN.out; have d' := HN'.out; have x := H0.out; have y := H1.out; have z := H2.out; unfold shB; rw [c]; rw [Bool.eq_iff_iff]; simp [sh3] at a b ⊢; omega), by repeat (first | with_reducible exact Below.refl _ _ | with_reducible assumption | (with_reducible refine below_drewN ?_ _) | (with_reducible refine Below.drew ?_) | (with_reducible refine Below.alloc ?_ ?_ _; rotate_left; focus (first | with_reducible assumption | omega | (simp; done) | (simp; omega))) | (with_reducible refine Below.setCell ?_ ?_ _; rotate_left; focus (first | with_reducible assumption | omega | (simp; done) | (simp; omega))))⟩
        · cases gB
          all_goals
            go_wp2
            all_goals go_ret
            all_goals exact ⟨ret_bool (by have a := HG.out; have b := HM.out; have c := HBX.out; have d := HN.out; have d' := HN'.out; have x := H0.out; have y := H1.out; have z := H2.out; unfold shB; rw [c]; rw [Bool.eq_iff_iff]; simp [sh3] at a b ⊢; omega), by repeat (first | with_reducible exact Below.refl _ _ | with_reducible assumption | (with_reducible refine below_drewN ?_ _) | (with_reducible refine Below.drew ?_) | (with_reducible refine Below.alloc ?_ ?_ _; rotate_left; focus (first | with_reducible assumption | omega | (simp; done) | (simp; omega))) | (with_reducible refine Below.setCell ?_ ?_ _; rotate_left; focus (first | with_reducible assumption | omega | (simp; done) | (simp; omega))))⟩
        · cases gB <;> cases mB
          all_goals
            go_wp2
            all_goals go_ret
            all_goals exact ⟨ret_bool (by have a := HG.out; have b := HM.out; have c := HBX.out; have d := HN.out; have d' := HN'.out; have x := H0.out; have y := H1.out; have z := H2.out; unfold shB; rw [c]; rw [Bool.eq_iff_iff]; simp [sh5] at a b ⊢; omega), by repeat (first | with_reducible exact Below.refl _ _ | with_reducible assumption | (with_reducible refine below_drewN ?_ _) | (with_reducible refine Below.drew ?_) | (with_reducible refine Below.alloc ?_ ?_ _; rotate_left; focus (first | with_reducible assumption | omega | (simp; done) | (simp; omega))) | (with_reducible refine Below.setCell ?_ ?_ _; rotate_left; focus (first | with_reducible assumption | omega | (simp; done) | (simp; omega))))⟩
        · have e11 : (k == 1) = false := by simp; omega
          have e12 : (k == 2) = false := by simp; omega
          have e13 : (k == 3) = false := by simp; omega
          have e14 : (k == 4) = false := by simp; omega
          have e15 : (k == 5) = false := by simp; omega
          have HK := Lib.hid hk
          clear hk
          go_wp2
          go_ret
          exact ⟨ret_bool (by have hk := HK.out; unfold shB; rw [if_neg (by omega), if_neg (by omega), if_neg (by omega), if_neg (by omega), Bool.and_false]), by repeat (first | with_reducible exact Below.refl _ _ | with_reducible assumption | (with_reducible refine below_drewN ?_ _) | (with_reducible refine Below.drew ?_) | (with_reducible refine Below.alloc ?_ ?_ _; rotate_left; focus (first | with_reducible assumption | omega | (simp; done) | (simp; omega))) | (with_reducible refine Below.setCell ?_ ?_ _; rotate_left; focus (first | with_reducible assumption | omega | (simp; done) | (simp; omega))))⟩
  · have hres : shB k f t g h i m v n n' = false := by
      unfold shB boxes
      rw [decide_eq_false hbox, Bool.false_and]
    rw [hres]
    have hc : f < 0 ∨ (¬ f < 0 ∧ t < f) ∨ (¬ f < 0 ∧ ¬ t < f ∧ 1073741824 < t) := by omega
    clear hres hbox
    rcases hc with e1 | ⟨e1, e2⟩ | ⟨e1, e2, e3⟩
    all_goals
      go_enter Try.func11, Try.ntmps11
      go_wp2
      go_ret
      exact ⟨rfl, by repeat (first | with_reducible exact Below.refl _ _ | with_reducible assumption | (with_reducible refine below_drewN ?_ _) | (with_reducible refine Below.drew ?_) | (with_reducible refine Below.alloc ?_ ?_ _; rotate_left; focus (first | with_reducible assumption | omega | (simp; done) | (simp; omega))) | (with_reducible refine Below.setCell ?_ ?_ _; rotate_left; focus (first | with_reducible assumption | omega | (simp; done) | (simp; omega))))⟩
end Go.Proofs.Ytmacfoebfpljoaa
