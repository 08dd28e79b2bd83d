/- utf: tail -/
import Derived.Test.YtlfofgefpjihlaaA
namespace Go.Proofs.Ytlfofgefpjihlaa
open Go.RowKit

def enc (r : Int) : List Int :=
  if r ≤ 127 then [r] else if r ≤ 2047 then [192 + r / 64, 128 + r % 64] else if r ≤ 65535 then [224 + r / 4096, 128 + r / 64 % 64, 128 + r % 64]
  else [240 + r / 262144, 128 + r / 4096 % 64, 128 + r / 64 % 64, 128 + r % 64]
abbrev u8s (l : List Int) : List Value := l.map (Value.int .u8)

theorem info_u8 : (Try.prog.info? 5).map (fun i => (i.zero, i.size, i.bytes)) = some (some (.int .u8 0), 1, 1) := by kernel_rfl

/-- what tail leaves -/
def Tailed (base : Nat) (v : Value) (n : Nat) (xs : List Value) (l : List Int) (w : World) (e : Ending) (w' : World) : Prop :=
  ∃ v', e = .returned v' ∧ w'.ownsRow base 5 1 v' (n + l.length) (xs ++ u8s l) ∧ w.grownBy w' v.ownBlock ∧ (v'.ownBlock = v.ownBlock ∨ ∃ g, v'.ownBlock = some g ∧ w.heap.size ≤ g)

set_option maxHeartbeats 1000000 in
theorem tail_1 (v : Value) (n : Nat) (xs : List Value) (base : Nat) (r : Int) (w : World) (hb : base ≤ w.heap.size) (hl : len r = 1) (h1 : 0 ≤ r) (h2 : r ≤ 127) (hown : w.ownsRow base 5 1 v n xs) (hn : n ≤ 1000000) :
    Calls Try.prog 21 #[v, .int .i32 r] w (Tailed base v n xs [r] w) := by
  have HL := Lib.hid hl
  clear hl
  go_enter Try.func21, Try.ntmps21
  go_wp2_with (go_at_call 11; refine (len_any _ _).mono ?_; rw [HL.out]; rintro e w' ⟨rfl, rfl⟩)
  have e7 : IntKind.u8.wrap (r) = r := IntWalk.u8_in _ (by omega)
  have e1 : IntKind.i64.wrap 0 = 0 := by decide
  have e8 : bits .or .u8 (headOf 1) r = r := (u8_or _ _ (by decide) (by decide) (by omega) (by omega)).trans (by simp [headOf]; omega)
  go_region_law (first | (go_simp; go_at_call 24; refine (head_any 1 _ (by omega) (by omega)).mono ?_; rintro e w' ⟨rfl, rfl⟩) | ((with_reducible refine app_one_step Try.underlying22 info_u8 rfl (by decide) _ base v n xs hown (by unfold maxLen; omega) (by omega) hb _ rfl (by simp [Value.oneCell']) rfl (.tmp 9) (.tmp 19) rfl rfl rfl ?_); intro g0 cap0 w0 hown0 hgr0 hat0 hlt0))
  clear e7 e1 e8
  go_wp2
  refine wp_loop_rounds 1 ?_
  rw [rounds_succ]
  go_wp2
  go_ret
  exact ⟨_, rfl, by simpa [u8s] using hown0, hgr0, own_last hat0⟩

set_option maxHeartbeats 1000000 in
theorem tail_2 (v : Value) (n : Nat) (xs : List Value) (base : Nat) (r : Int) (w : World) (hb : base ≤ w.heap.size) (hl : len r = 2) (h1 : 127 < r) (h2 : r ≤ 2047) (hown : w.ownsRow base 5 1 v n xs) (hn : n ≤ 1000000) :
    Calls Try.prog 21 #[v, .int .i32 r] w (Tailed base v n xs [192 + r / 64, 128 + r % 64] w) := by
  have HL := Lib.hid hl
  clear hl
  go_enter Try.func21, Try.ntmps21
  go_wp2_with (go_at_call 11; refine (len_any _ _).mono ?_; rw [HL.out]; rintro e w' ⟨rfl, rfl⟩)
  have e7 : IntKind.u8.wrap (r / 64) = r / 64 := IntWalk.u8_in _ (by omega)
  have e1 : IntKind.i64.wrap 1 = 1 := by decide
  have e6 : IntKind.i64.wrap 6 = 6 := by decide
  have e8 : bits .or .u8 (headOf 2) (r / 64) = 192 + r / 64 := u8_or192 (y := r / 64) (by omega) (by omega)
  go_region_law (first | (go_simp; go_at_call 24; refine (head_any 2 _ (by omega) (by omega)).mono ?_; rintro e w' ⟨rfl, rfl⟩) | ((with_reducible refine app_one_step Try.underlying22 info_u8 rfl (by decide) _ base v n xs hown (by unfold maxLen; omega) (by omega) hb _ rfl (by simp [Value.oneCell']) rfl (.tmp 9) (.tmp 19) rfl rfl rfl ?_); intro g0 cap0 w0 hown0 hgr0 hat0 hlt0))
  clear e7 e1 e6 e8
  go_wp2
  refine wp_loop_rounds 2 ?_
  rw [rounds_succ]
  go_wp2_with (at_builtin; ((with_reducible refine app_one Try.underlying22 info_u8 rfl (by decide) _ base _ (n + 1) _ hown0 (by unfold maxLen; omega) (by omega) (by have := hgr0.size; omega) _ rfl (by simp [Value.oneCell']) rfl _ _ rfl rfl rfl ?_); intro g1 cap1 w1 hown1 hgrx1 hatx1 hlt1; have hgr1 := hgr0.andThen hgrx1 (own_or hat0); have hat1 := own_step hat0 hatx1 hgr0.size; clear hgrx1 hatx1))
  rw [rounds_succ]
  go_wp2
  go_ret
  exact ⟨_, rfl, by simpa [u8s] using hown1, hgr1, own_last hat1⟩

set_option maxHeartbeats 1000000 in
theorem tail_3 (v : Value) (n : Nat) (xs : List Value) (base : Nat) (r : Int) (w : World) (hb : base ≤ w.heap.size) (hl : len r = 3) (h1 : 2047 < r) (h2 : r ≤ 65535) (hown : w.ownsRow base 5 1 v n xs) (hn : n ≤ 1000000) :
    Calls Try.prog 21 #[v, .int .i32 r] w (Tailed base v n xs [224 + r / 4096, 128 + r / 64 % 64, 128 + r % 64] w) := by
  have HL := Lib.hid hl
  clear hl
  go_enter Try.func21, Try.ntmps21
  go_wp2_with (go_at_call 11; refine (len_any _ _).mono ?_; rw [HL.out]; rintro e w' ⟨rfl, rfl⟩)
  have e7 : IntKind.u8.wrap (r / 4096) = r / 4096 := IntWalk.u8_in _ (by omega)
  have e1 : IntKind.i64.wrap 2 = 2 := by decide
  have e6 : IntKind.i64.wrap 12 = 12 := by decide
  have e8 : bits .or .u8 (headOf 3) (r / 4096) = 224 + r / 4096 := u8_or224 (y := r / 4096) (by omega) (by omega)
  go_region_law (first | (go_simp; go_at_call 24; refine (head_any 3 _ (by omega) (by omega)).mono ?_; rintro e w' ⟨rfl, rfl⟩) | ((with_reducible refine app_one_step Try.underlying22 info_u8 rfl (by decide) _ base v n xs hown (by unfold maxLen; omega) (by omega) hb _ rfl (by simp [Value.oneCell']) rfl (.tmp 9) (.tmp 19) rfl rfl rfl ?_); intro g0 cap0 w0 hown0 hgr0 hat0 hlt0))
  clear e7 e1 e6 e8
  go_wp2
  refine wp_loop_rounds 3 ?_
  have e1 : bits .or .u8 128 (IntKind.u8.wrap (r / 64) % 64) = 128 + r / 64 % 64 := by
    rw [IntKind.wrap_u8]; exact (u8_or128 (y := _) (by omega) (by omega)).trans (by omega)
  rw [rounds_succ]
  go_wp2_with (at_builtin; ((with_reducible refine app_one Try.underlying22 info_u8 rfl (by decide) _ base _ (n + 1) _ hown0 (by unfold maxLen; omega) (by omega) (by have := hgr0.size; omega) _ rfl (by simp [Value.oneCell']) rfl _ _ rfl rfl rfl ?_); intro g1 cap1 w1 hown1 hgrx1 hatx1 hlt1; have hgr1 := hgr0.andThen hgrx1 (own_or hat0); have hat1 := own_step hat0 hatx1 hgr0.size; clear hgrx1 hatx1))
  rw [rounds_succ]
  go_wp2_with (at_builtin; ((with_reducible refine app_one Try.underlying22 info_u8 rfl (by decide) _ base _ (n + 2) _ hown1 (by unfold maxLen; omega) (by omega) (by have := hgr1.size; omega) _ rfl (by simp [Value.oneCell']) rfl _ _ rfl rfl rfl ?_); intro g2 cap2 w2 hown2 hgrx2 hatx2 hlt2; have hgr2 := hgr1.andThen hgrx2 (own_or hat1); have hat2 := own_step hat1 hatx2 hgr1.size; clear hgrx2 hatx2))
  rw [rounds_succ]
  go_wp2
  go_ret
  exact ⟨_, rfl, by simpa [u8s] using hown2, hgr2, own_last hat2⟩

set_option maxHeartbeats 1000000 in
theorem tail_4 (v : Value) (n : Nat) (xs : List Value) (base : Nat) (r : Int) (w : World) (hb : base ≤ w.heap.size) (hl : len r = 4) (h1 : 65535 < r) (h2 : r ≤ 1114111) (hown : w.ownsRow base 5 1 v n xs) (hn : n ≤ 1000000) :
    Calls Try.prog 21 #[v, .int .i32 r] w (Tailed base v n xs [240 + r / 262144, 128 + r / 4096 % 64, 128 + r / 64 % 64, 128 + r % 64] w) := by
  have HL := Lib.hid hl
  clear hl
  go_enter Try.func21, Try.ntmps21
  go_wp2_with (go_at_call 11; refine (len_any _ _).mono ?_; rw [HL.out]; rintro e w' ⟨rfl, rfl⟩)
  have e7 : IntKind.u8.wrap (r / 262144) = r / 262144 := IntWalk.u8_in _ (by omega)
  have e1 : IntKind.i64.wrap 3 = 3 := by decide
  have e6 : IntKind.i64.wrap 18 = 18 := by decide
  have e8 : bits .or .u8 (headOf 4) (r / 262144) = 240 + r / 262144 := u8_or240 (y := r / 262144) (by omega) (by omega)
  go_region_law (first | (go_simp; go_at_call 24; refine (head_any 4 _ (by omega) (by omega)).mono ?_; rintro e w' ⟨rfl, rfl⟩) | ((with_reducible refine app_one_step Try.underlying22 info_u8 rfl (by decide) _ base v n xs hown (by unfold maxLen; omega) (by omega) hb _ rfl (by simp [Value.oneCell']) rfl (.tmp 9) (.tmp 19) rfl rfl rfl ?_); intro g0 cap0 w0 hown0 hgr0 hat0 hlt0))
  clear e7 e1 e6 e8
  go_wp2
  refine wp_loop_rounds 4 ?_
  have e1 : bits .or .u8 128 (IntKind.u8.wrap (r / 4096) % 64) = 128 + r / 4096 % 64 := by
    rw [IntKind.wrap_u8]; exact (u8_or128 (y := _) (by omega) (by omega)).trans (by omega)
  rw [rounds_succ]
  go_wp2_with (at_builtin; ((with_reducible refine app_one Try.underlying22 info_u8 rfl (by decide) _ base _ (n + 1) _ hown0 (by unfold maxLen; omega) (by omega) (by have := hgr0.size; omega) _ rfl (by simp [Value.oneCell']) rfl _ _ rfl rfl rfl ?_); intro g1 cap1 w1 hown1 hgrx1 hatx1 hlt1; have hgr1 := hgr0.andThen hgrx1 (own_or hat0); have hat1 := own_step hat0 hatx1 hgr0.size; clear hgrx1 hatx1))
  have e2 : bits .or .u8 128 (IntKind.u8.wrap (r / 64) % 64) = 128 + r / 64 % 64 := by
    rw [IntKind.wrap_u8]; exact (u8_or128 (y := _) (by omega) (by omega)).trans (by omega)
  rw [rounds_succ]
  go_wp2_with (at_builtin; ((with_reducible refine app_one Try.underlying22 info_u8 rfl (by decide) _ base _ (n + 2) _ hown1 (by unfold maxLen; omega) (by omega) (by have := hgr1.size; omega) _ rfl (by simp [Value.oneCell']) rfl _ _ rfl rfl rfl ?_); intro g2 cap2 w2 hown2 hgrx2 hatx2 hlt2; have hgr2 := hgr1.andThen hgrx2 (own_or hat1); have hat2 := own_step hat1 hatx2 hgr1.size; clear hgrx2 hatx2))
  rw [rounds_succ]
  go_wp2_with (at_builtin; ((with_reducible refine app_one Try.underlying22 info_u8 rfl (by decide) _ base _ (n + 3) _ hown2 (by unfold maxLen; omega) (by omega) (by have := hgr2.size; omega) _ rfl (by simp [Value.oneCell']) rfl _ _ rfl rfl rfl ?_); intro g3 cap3 w3 hown3 hgrx3 hatx3 hlt3; have hgr3 := hgr2.andThen hgrx3 (own_or hat2); have hat3 := own_step hat2 hatx3 hgr2.size; clear hgrx3 hatx3))
  rw [rounds_succ]
  go_wp2
  go_ret
  exact ⟨_, rfl, by simpa [u8s] using hown3, hgr3, own_last hat3⟩

end Go.Proofs.Ytlfofgefpjihlaa
