/- shift: at, row -/
import Derived.Test.YtmacfoebfpljoaaCe
namespace Go.Proofs.Ytmacfoebfpljoaa
open Go.RowKit

/-- a shifter -/
abbrev Shf (w : World) (bs bl : Nat) (bad : Bool) : Prop := Bk w bs 104 #[tellV bl, .bool bad]

set_option maxRecDepth 100000 in
set_option maxHeartbeats 2000000 in
theorem at_any (T : Int → Int → Pl × Int) (bl B bs : Nat) (bad : Bool) (p s : Int) (w : World) (hT : Tells T bl B w) (hk : Shf w bs bl bad) :
    Calls Try.prog 50 #[.pointer (some ⟨bs, 0, none⟩), .int .i64 p, .int .i64 s] w fun e w' => e = .returned (T p s).1.val ∧ w.grownBy w' (some bs) ∧ Shf w' bs bl (bad || decide ((T p s).2 ≠ 0)) := by
  have ht := fun W hb => calls_on hb (hT.2 W p s (hb.mono hT.1))
  obtain ⟨⟨⟨x, g, i, r, o⟩, er⟩, hX⟩ : ∃ y, T p s = y := ⟨_, rfl⟩
  rw [hX]
  simp only [hX, Pl.val] at ht ⊢
  have HT := Lib.hid ht
  have c0 := hk.cell 0
  have hlk := def_lt' hk
  dsimp at c0
  clear ht hT hX
  cases bad with
  | true =>
    go_enter Try.func50, Try.ntmps50
    go_upto_region 2 with (go_at_call 23; (refine (HT.out _ (by repeat (first | with_reducible exact Below.refl _ _ | with_reducible assumption | (with_reducible refine below_drewN ?_ _) | (with_reducible refine Below.drew ?_) | (with_reducible refine Below.alloc ?_ ?_ _; rotate_left; focus (first | with_reducible assumption | omega | (simp; done) | (simp; omega))) | (with_reducible refine Below.setCell ?_ ?_ _; rotate_left; focus (first | with_reducible assumption | omega | (simp; done) | (simp; omega)))))).mono ?_); rintro e w1 ⟨rfl, hb1, hz1, hx1⟩)
    have kr := ((Bk.new w 79 #[.int .i64 0, .bool false, .bool false, .int .i64 0, .int .i64 0]).ext hx1)
    have ks := (hk.alloc (.cells #[.int .i64 0, .bool false, .bool false, .int .i64 0, .int .i64 0] 79)).ext hx1
    have lr := def_lt' kr; have fr := kr.frozen; have ls := def_lt' ks; have fs := ks.frozen
    have r0 := kr.cell 0; have r1 := kr.cell 1; have r2 := kr.cell 2; have r3 := kr.cell 3; have r4 := kr.cell 4
    have s0 := ks.cell 0; have s1 := ks.cell 1
    dsimp at r0 r1 r2 r3 r4 s0 s1
    have hne : bs ≠ w.heap.size := Nat.ne_of_lt hlk
    have hg : w.grownBy w1 (some bs) := gr_of_below hb1
    go_wp2
    have y := (place_set (kr.far (p := ⟨bs, 1, none⟩) (Ne.symm hne) (.bool true)) x g i r o).alloc (.cells #[.int .i64 x, .bool g, .bool i, .int .i64 r, .int .i64 o] 79)
    have z := ((((((ks.set_ 1 (.bool true)).far (p := ⟨w.heap.size, 0, none⟩) hne (.int .i64 x)).far (p := ⟨w.heap.size, 1, none⟩) hne (.bool g)).far (p := ⟨w.heap.size, 2, none⟩) hne (.bool i)).far (p := ⟨w.heap.size, 3, none⟩) hne (.int .i64 r)).far (p := ⟨w.heap.size, 4, none⟩) hne (.int .i64 o)).alloc (.cells #[.int .i64 x, .bool g, .bool i, .int .i64 r, .int .i64 o] 79)
    have q0 := y.cell 0; have q1 := y.cell 1; have q2 := y.cell 2; have q3 := y.cell 3; have q4 := y.cell 4
    dsimp at q0 q1 q2 q3 q4
    refine bodyPost_ret (v := .agg #[.int .i64 x, .bool g, .bool i, .int .i64 r, .int .i64 o]) (by simp [results, Try.results50, go_sem, q0, q1, q2, q3, q4]) rfl ⟨rfl, ?_, ?_⟩
    · repeat (first | with_reducible assumption | (with_reducible refine gr_drewN ?_ _) | (with_reducible refine gr_drew ?_) | (with_reducible refine gr_alloc ?_ _) | (with_reducible refine gr_set ?_ ?_ _; rotate_left; focus (first | (with_reducible exact .inl rfl) | exact .inr (by first | with_reducible assumption | omega | (simp; done) | (simp; omega)))))
    · first | exact z | simpa using z
  | false =>
    by_cases he : er = 0
    · subst he
      go_enter Try.func50, Try.ntmps50
      go_upto_region 2 with (go_at_call 23; (refine (HT.out _ (by repeat (first | with_reducible exact Below.refl _ _ | with_reducible assumption | (with_reducible refine below_drewN ?_ _) | (with_reducible refine Below.drew ?_) | (with_reducible refine Below.alloc ?_ ?_ _; rotate_left; focus (first | with_reducible assumption | omega | (simp; done) | (simp; omega))) | (with_reducible refine Below.setCell ?_ ?_ _; rotate_left; focus (first | with_reducible assumption | omega | (simp; done) | (simp; omega)))))).mono ?_); rintro e w1 ⟨rfl, hb1, hz1, hx1⟩)
      have kr := ((Bk.new w 79 #[.int .i64 0, .bool false, .bool false, .int .i64 0, .int .i64 0]).ext hx1)
      have ks := (hk.alloc (.cells #[.int .i64 0, .bool false, .bool false, .int .i64 0, .int .i64 0] 79)).ext hx1
      have lr := def_lt' kr; have fr := kr.frozen; have ls := def_lt' ks; have fs := ks.frozen
      have r0 := kr.cell 0; have r1 := kr.cell 1; have r2 := kr.cell 2; have r3 := kr.cell 3; have r4 := kr.cell 4
      have s0 := ks.cell 0; have s1 := ks.cell 1
      dsimp at r0 r1 r2 r3 r4 s0 s1
      have hne : bs ≠ w.heap.size := Nat.ne_of_lt hlk
      have hg : w.grownBy w1 (some bs) := gr_of_below hb1
      go_wp2
      have y := (place_set (kr.far (p := ⟨bs, 1, none⟩) (Ne.symm hne) (.bool false)) x g i r o).alloc (.cells #[.int .i64 x, .bool g, .bool i, .int .i64 r, .int .i64 o] 79)
      have z := ((((((ks.set_ 1 (.bool false)).far (p := ⟨w.heap.size, 0, none⟩) hne (.int .i64 x)).far (p := ⟨w.heap.size, 1, none⟩) hne (.bool g)).far (p := ⟨w.heap.size, 2, none⟩) hne (.bool i)).far (p := ⟨w.heap.size, 3, none⟩) hne (.int .i64 r)).far (p := ⟨w.heap.size, 4, none⟩) hne (.int .i64 o)).alloc (.cells #[.int .i64 x, .bool g, .bool i, .int .i64 r, .int .i64 o] 79)
      have q0 := y.cell 0; have q1 := y.cell 1; have q2 := y.cell 2; have q3 := y.cell 3; have q4 := y.cell 4
      dsimp at q0 q1 q2 q3 q4
      refine bodyPost_ret (v := .agg #[.int .i64 x, .bool g, .bool i, .int .i64 r, .int .i64 o]) (by simp [results, Try.results50, go_sem, q0, q1, q2, q3, q4]) rfl ⟨rfl, ?_, ?_⟩
      · repeat (first | with_reducible assumption | (with_reducible refine gr_drewN ?_ _) | (with_reducible refine gr_drew ?_) | (with_reducible refine gr_alloc ?_ _) | (with_reducible refine gr_set ?_ ?_ _; rotate_left; focus (first | (with_reducible exact .inl rfl) | exact .inr (by first | with_reducible assumption | omega | (simp; done) | (simp; omega)))))
      · first | exact z | simpa using z
    · have t1 : (er == 0) = false := by simpa using he
      have t3 : (er != 0) = true := by simpa using he
      have t2 : decide (er ≠ 0) = true := decide_eq_true he
      rw [t2]
      go_enter Try.func50, Try.ntmps50
      go_upto_region 2 with (go_at_call 23; (refine (HT.out _ (by repeat (first | with_reducible exact Below.refl _ _ | with_reducible assumption | (with_reducible refine below_drewN ?_ _) | (with_reducible refine Below.drew ?_) | (with_reducible refine Below.alloc ?_ ?_ _; rotate_left; focus (first | with_reducible assumption | omega | (simp; done) | (simp; omega))) | (with_reducible refine Below.setCell ?_ ?_ _; rotate_left; focus (first | with_reducible assumption | omega | (simp; done) | (simp; omega)))))).mono ?_); rintro e w1 ⟨rfl, hb1, hz1, hx1⟩)
      have kr := ((Bk.new w 79 #[.int .i64 0, .bool false, .bool false, .int .i64 0, .int .i64 0]).ext hx1)
      have ks := (hk.alloc (.cells #[.int .i64 0, .bool false, .bool false, .int .i64 0, .int .i64 0] 79)).ext hx1
      have lr := def_lt' kr; have fr := kr.frozen; have ls := def_lt' ks; have fs := ks.frozen
      have r0 := kr.cell 0; have r1 := kr.cell 1; have r2 := kr.cell 2; have r3 := kr.cell 3; have r4 := kr.cell 4
      have s0 := ks.cell 0; have s1 := ks.cell 1
      dsimp at r0 r1 r2 r3 r4 s0 s1
      have hne : bs ≠ w.heap.size := Nat.ne_of_lt hlk
      have hg : w.grownBy w1 (some bs) := gr_of_below hb1
      go_wp2
      have y := (place_set (kr.far (p := ⟨bs, 1, none⟩) (Ne.symm hne) (.bool true)) x g i r o).alloc (.cells #[.int .i64 x, .bool g, .bool i, .int .i64 r, .int .i64 o] 79)
      have z := ((((((ks.set_ 1 (.bool true)).far (p := ⟨w.heap.size, 0, none⟩) hne (.int .i64 x)).far (p := ⟨w.heap.size, 1, none⟩) hne (.bool g)).far (p := ⟨w.heap.size, 2, none⟩) hne (.bool i)).far (p := ⟨w.heap.size, 3, none⟩) hne (.int .i64 r)).far (p := ⟨w.heap.size, 4, none⟩) hne (.int .i64 o)).alloc (.cells #[.int .i64 x, .bool g, .bool i, .int .i64 r, .int .i64 o] 79)
      have q0 := y.cell 0; have q1 := y.cell 1; have q2 := y.cell 2; have q3 := y.cell 3; have q4 := y.cell 4
      dsimp at q0 q1 q2 q3 q4
      refine bodyPost_ret (v := .agg #[.int .i64 x, .bool g, .bool i, .int .i64 r, .int .i64 o]) (by simp [results, Try.results50, go_sem, q0, q1, q2, q3, q4]) rfl ⟨rfl, ?_, ?_⟩
      · repeat (first | with_reducible assumption | (with_reducible refine gr_drewN ?_ _) | (with_reducible refine gr_drew ?_) | (with_reducible refine gr_alloc ?_ _) | (with_reducible refine gr_set ?_ ?_ _; rotate_left; focus (first | (with_reducible exact .inl rfl) | exact .inr (by first | with_reducible assumption | omega | (simp; done) | (simp; omega)))))
      · first | exact z | simpa using z
end Go.Proofs.Ytmacfoebfpljoaa
