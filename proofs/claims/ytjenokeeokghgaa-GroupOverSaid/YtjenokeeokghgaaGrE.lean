/- group: After, Shut -/
import Derived.Test.YtjenokeeokghgaaGrD
namespace Go.Proofs.Ytjenokeeokghgaa
open Go.RowKit

theorem sps_one : ∀ (l : List Sp), ∀ u ∈ sps l, u.oneCell' = true := by
  intro l u hu
  obtain ⟨r, _, hr⟩ := List.mem_flatMap.1 hu
  simp only [Sp.cells, List.mem_cons, List.not_mem_nil, or_false] at hr
  rcases hr with rfl | rfl <;> rfl
set_option maxHeartbeats 400000 in
theorem clone_sp (A : Option Addr) (n c : Nat) (l : List Sp) (w : World) (h : Rd w w.heap.size 2 A n (sps l)) (hA : A = none → n = 0) (hn : n ≤ 1000000) :
    Calls Try.prog 31 #[.slice A n c] w (Cloned 37 2 n (sps l) w) := by
  cases A with
  | none =>
    obtain rfl : n = 0 := hA rfl
    clear hA
    have heq := fun w' => Lib.run_eql_slice_nil (P := Try.prog) w' 22 37 none 0 c 0 0 Try.underlying22
    go_enter Try.func31, Try.ntmps31
    go_wp2
    go_ret
    exact cloned_nil _ _ _ _ _ rfl h.1
  | some a =>
    have heq := fun w' => Lib.run_eql_slice_nil (P := Try.prog) w' 22 37 (some a) n c 0 0 Try.underlying22
    go_enter Try.func31, Try.ntmps31
    go_wp2_with (at_builtin; ((with_reducible refine app_rd Try.underlying22 info_span rfl (by decide) _ w.heap.size _ 0 [] (own_empty w _ _ _ (Nat.le_refl _)) _ (some a) n c (sps l) (h.alloc (Nat.le_refl _) _) (by simp) (sps_one l) (by unfold maxLen; omega) (by omega) (by simp) rfl _ _ rfl rfl rfl ?_); intro v' w1 hown hgr hat))
    go_ret
    refine ⟨v', rfl, by simpa using hown, ((Below.refl _ w).alloc (Nat.le_refl _) _).grown hgr (by simp) (by intro k hk; simp [Value.ownBlock] at hk; omega)⟩

/-- a clock comes out -/
abbrev Clk (w : World) (o : Bool) (ct : Int) (L : List Sp) (e : Ending) (w' : World) : Prop := ∃ B2 c2, e = .returned (.agg #[.bool o, .int .i64 ct, .slice B2 L.length c2]) ∧ Rd w' w'.heap.size 2 B2 L.length (sps L) ∧ (B2 = none → L.length = 0) ∧ L.length ≤ c2 ∧ c2 ≤ maxLen ∧ Below w.heap.size w w'

set_option maxHeartbeats 400000 in
theorem after_any (tm : Int) (B : Option Addr) (cl : Nat) (L : List Sp) (w : World) (hrs : Rd w w.heap.size 2 B L.length (sps L)) (hB : B = none → L.length = 0) (hl : L.length ≤ 1000000) :
    Calls Try.prog 13 #[.int .i64 tm, .slice B L.length cl] w (Clk w true tm L) := by
  have hc := fun W (hb : Below w.heap.size w W) => clone_sp B L.length cl L W ((hrs.below hb).more hb.size) hB hl
  have HC := Lib.hid hc
  clear hc hrs hB
  go_enter Try.func13, Try.ntmps13
  go_wp2_with (go_at_call 31; (refine (HC.out _ (by repeat (first | with_reducible exact Below.refl _ _ | with_reducible assumption | (with_reducible refine below_drewN ?_ _) | (with_reducible refine Below.drew ?_) | (with_reducible refine Below.alloc ?_ ?_ _; rotate_left; focus (first | with_reducible assumption | omega | (simp; done) | (simp; omega))) | (with_reducible refine Below.setCell ?_ ?_ _; rotate_left; focus (first | with_reducible assumption | omega | (simp; done) | (simp; omega)))))).mono ?_); rintro e w1 ⟨v, rfl, ho, hb⟩; obtain ⟨B2, c2, rfl, p1, p2, p3, p4⟩ := own_form ho; have kb := (Bk.new w 31 #[.bool false, .int .i64 0, .slice none 0 0]).ext hb; have lb := def_lt' kb; have fb := kb.frozen; have d0 := kb.cell 0; have d1 := kb.cell 1; have d2 := kb.cell 2; dsimp at d0 d1 d2)
  have y : Bk (((w1.setCell ⟨w.heap.size, 0, none⟩ (.bool true)).setCell ⟨w.heap.size, 1, none⟩ (.int .i64 tm)).setCell ⟨w.heap.size, 2, none⟩ (.slice B2 L.length c2)) w.heap.size 31 #[.bool true, .int .i64 tm, .slice B2 L.length c2] := ((kb.set_ 0 _).set_ 1 _).set_ 2 _
  have q0 := y.cell 0; have q1 := y.cell 1; have q2 := y.cell 2
  dsimp at q0 q1 q2
  have o1 := ownsRow_setCell_other ho (own_ne ho kb (by decide)) (a := ⟨w.heap.size, 0, none⟩) (.bool true)
  have o2 := ownsRow_setCell_other o1 (own_ne o1 (kb.set_ 0 _) (by decide)) (a := ⟨w.heap.size, 1, none⟩) (.int .i64 tm)
  have o3 := ownsRow_setCell_other o2 (own_ne o2 ((kb.set_ 0 _).set_ 1 _) (by decide)) (a := ⟨w.heap.size, 2, none⟩) (.slice B2 L.length c2)
  have hbe : Below w.heap.size w w1 := Below.trans (by repeat (first | with_reducible exact Below.refl _ _ | with_reducible assumption | (with_reducible refine below_drewN ?_ _) | (with_reducible refine Below.drew ?_) | (with_reducible refine Below.alloc ?_ ?_ _; rotate_left; focus (first | with_reducible assumption | omega | (simp; done) | (simp; omega))) | (with_reducible refine Below.setCell ?_ ?_ _; rotate_left; focus (first | with_reducible assumption | omega | (simp; done) | (simp; omega))))) (hb.mono (by simp))
  refine bodyPost_ret (v := .agg #[.bool true, .int .i64 tm, .slice B2 L.length c2]) (by simp [results, Try.results13, go_sem, q0, q1, q2]) rfl ⟨B2, c2, rfl, Rd.of_own o3, fun e => (p3 e).1, p1, p2, ?_⟩
  exact ((hbe.setCell (Nat.le_refl _) _).setCell (Nat.le_refl _) _).setCell (Nat.le_refl _) _

set_option maxHeartbeats 1000000 in
theorem shut_any (o : Bool) (ct : Int) (B : Option Addr) (cl : Nat) (L : List Sp) (w : World) (hrs : Rd w w.heap.size 2 B L.length (sps L)) (hB : B = none → L.length = 0) (hl : L.length ≤ 1000000) :
    Calls Try.prog 12 #[.agg #[.bool o, .int .i64 ct, .slice B L.length cl]] w (Clk w false ct L) := by
  have hc := fun W (hb : Below w.heap.size w W) => clone_sp B L.length cl L W ((hrs.below hb).more hb.size) hB hl
  have HC := Lib.hid hc
  clear hc hrs hB
  have hb0 : Below w.heap.size w ((w.alloc (.cells #[.bool false, .int .i64 ct, .slice B L.length cl] 31)).alloc (.cells #[.bool false, .int .i64 0, .slice none 0 0] 31)) := by repeat (first | with_reducible exact Below.refl _ _ | with_reducible assumption | (with_reducible refine below_drewN ?_ _) | (with_reducible refine Below.drew ?_) | (with_reducible refine Below.alloc ?_ ?_ _; rotate_left; focus (first | with_reducible assumption | omega | (simp; done) | (simp; omega))) | (with_reducible refine Below.setCell ?_ ?_ _; rotate_left; focus (first | with_reducible assumption | omega | (simp; done) | (simp; omega))))
  have k1 : Bk ((w.alloc (.cells #[.bool false, .int .i64 ct, .slice B L.length cl] 31)).alloc (.cells #[.bool false, .int .i64 0, .slice none 0 0] 31)) w.heap.size 31 #[.bool false, .int .i64 ct, .slice B L.length cl] := (Bk.new w 31 _).alloc _
  have k2 : Bk ((w.alloc (.cells #[.bool false, .int .i64 ct, .slice B L.length cl] 31)).alloc (.cells #[.bool false, .int .i64 0, .slice none 0 0] 31)) (w.heap.size + 1) 31 #[.bool false, .int .i64 0, .slice none 0 0] := Bk.made 31 _ (by simp)
  go_enter Try.func12, Try.ntmps12
  go_wp2_with (go_at_call 31; (refine (HC.out _ (by repeat (first | with_reducible exact Below.refl _ _ | with_reducible assumption | (with_reducible refine below_drewN ?_ _) | (with_reducible refine Below.drew ?_) | (with_reducible refine Below.alloc ?_ ?_ _; rotate_left; focus (first | with_reducible assumption | omega | (simp; done) | (simp; omega))) | (with_reducible refine Below.setCell ?_ ?_ _; rotate_left; focus (first | with_reducible assumption | omega | (simp; done) | (simp; omega)))))).mono ?_); rintro e w1 ⟨v, rfl, ho, hb⟩; obtain ⟨B2, c2, rfl, p1, p2, p3, p4⟩ := own_form ho; have j1 := k1.ext hb; have j2 := k2.ext hb; have l1 := def_lt' j1; have l2 := def_lt' j2; have f1 := j1.frozen; have f2 := j2.frozen; have a0 := j1.cell 0; have a1 := j1.cell 1; have a2 := j1.cell 2; have b0 := j2.cell 0; have b1 := j2.cell 1; have b2 := j2.cell 2; dsimp at a0 a1 a2 b0 b1 b2)
  have y1 : Bk (w1.setCell ⟨w.heap.size, 2, none⟩ (.slice B2 L.length c2)) (w.heap.size + 1) 31 #[.bool false, .int .i64 0, .slice none 0 0] := j2.far (by simp) _
  have y : Bk ((((w1.setCell ⟨w.heap.size, 2, none⟩ (.slice B2 L.length c2)).setCell ⟨w.heap.size + 1, 0, none⟩ (.bool false)).setCell ⟨w.heap.size + 1, 1, none⟩ (.int .i64 ct)).setCell ⟨w.heap.size + 1, 2, none⟩ (.slice B2 L.length c2)) (w.heap.size + 1) 31 #[.bool false, .int .i64 ct, .slice B2 L.length c2] := ((y1.set_ 0 _).set_ 1 _).set_ 2 _
  have q0 := y.cell 0; have q1 := y.cell 1; have q2 := y.cell 2
  dsimp at q0 q1 q2
  have o0 := ownsRow_setCell_other ho (own_ne ho j1 (by decide)) (a := ⟨w.heap.size, 2, none⟩) (.slice B2 L.length c2)
  have o1 := ownsRow_setCell_other o0 (own_ne o0 y1 (by decide)) (a := ⟨w.heap.size + 1, 0, none⟩) (.bool false)
  have o2 := ownsRow_setCell_other o1 (own_ne o1 (y1.set_ 0 _) (by decide)) (a := ⟨w.heap.size + 1, 1, none⟩) (.int .i64 ct)
  have o3 := ownsRow_setCell_other o2 (own_ne o2 ((y1.set_ 0 _).set_ 1 _) (by decide)) (a := ⟨w.heap.size + 1, 2, none⟩) (.slice B2 L.length c2)
  have hbe : Below w.heap.size w w1 := hb0.trans (hb.mono hb0.size)
  refine bodyPost_ret (v := .agg #[.bool false, .int .i64 ct, .slice B2 L.length c2]) (by simp [results, Try.results12, go_sem, q0, q1, q2]) rfl ⟨B2, c2, rfl, Rd.of_own o3, fun e => (p3 e).1, p1, p2, ?_⟩
  exact (((hbe.setCell (Nat.le_refl _) _).setCell (by simp) _).setCell (by simp) _).setCell (by simp) _
end Go.Proofs.Ytjenokeeokghgaa
