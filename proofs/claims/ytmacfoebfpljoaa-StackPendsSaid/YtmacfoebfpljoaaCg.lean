/- shift: row -/
import Derived.Test.YtmacfoebfpljoaaCf
namespace Go.Proofs.Ytmacfoebfpljoaa
open Go.RowKit

theorem rowB_mono {T : Int → Int → Pl × Int} {f f' : Int} {k n : Nat} (h : rowB T f f' n = true) (hk : k ≤ n) : rowB T f f' k = true := by
  induction n with
  | zero => obtain rfl : k = 0 := by omega
            exact h
  | succ n ih =>
    rcases Nat.lt_or_ge n k with h2 | h2
    · obtain rfl : k = n + 1 := by omega
      exact h
    · simp only [rowB, Bool.and_eq_true] at h
      exact ih h.1 h2

set_option maxRecDepth 100000 in
set_option maxHeartbeats 4000000 in
theorem row_any (T : Int → Int → Pl × Int) (bl B bs : Nat) (bad : Bool) (k f t g h i m v : Int) (A A' : Option Addr) (n n' c c' : Nat) (f' : Int) (w : World) (hT : Tells T bl B w) (hBs : B ≤ bs) (hk : Shf w bs bl bad)
    (hf : 0 ≤ f) (hft : f ≤ t) (ht : t ≤ 1073741824) (h1 : -4398046511104 ≤ f') (h2 : f' ≤ 4398046511104) :
    Calls Try.prog 55 #[.pointer (some ⟨bs, 0, none⟩), .agg #[.int .i64 k, .int .i64 f, .int .i64 t, .int .i64 g, .int .i64 h, .int .i64 i, .int .i64 m, .int .i64 v, .slice A n c, .slice A' n' c'], .int .i64 f'] w fun e w' => ∃ rb b2, e = .returned (.bool rb) ∧ w.grownBy w' (some bs) ∧ Shf w' bs bl b2 ∧ (!rb || b2) = (bad || !(rowB T f f' (t - f).toNat)) := by
  have hat := fun W (b : Bool) (p : Int) (hg : w.grownBy W (some bs)) (hk : Shf W bs bl b) => at_any T bl B bs b p 1 W (hT.ext (gr_below hg hT.1 (fun _ e => by injection e with e; omega))) hk
  have HAT := Lib.hid hat
  have hlk := def_lt' hk
  have hne : bs ≠ w.heap.size := Nat.ne_of_lt hlk
  obtain ⟨N, hN⟩ : ∃ N : Nat, t - f = N := ⟨(t - f).toNat, by omega⟩
  have e1 : IntKind.i64.wrap (t - f) = (N : Int) := by rw [hN]; exact IntWalk.i64_in _ (by omega)
  have hNn : (t - f).toNat = N := by omega
  rw [hNn]
  have hN2 : (N : Int) ≤ 1073741824 := by omega
  clear hat hT
  have k0 := Bk.new w 41 #[.int .i64 k, .int .i64 f, .int .i64 t, .int .i64 g, .int .i64 h, .int .i64 i, .int .i64 m, .int .i64 v, .slice A n c, .slice A' n' c']
  have ks := hk.alloc (.cells #[.int .i64 k, .int .i64 f, .int .i64 t, .int .i64 g, .int .i64 h, .int .i64 i, .int .i64 m, .int .i64 v, .slice A n c, .slice A' n' c'] 41)
  have hg0 : w.grownBy (w.alloc (.cells #[.int .i64 k, .int .i64 f, .int .i64 t, .int .i64 g, .int .i64 h, .int .i64 i, .int .i64 m, .int .i64 v, .slice A n c, .slice A' n' c'] 41)) (some bs) := gr_alloc (World.grownBy.refl w _) _
  go_enter Try.func55, Try.ntmps55
  go_wp2
  go_loopw [14] (fun j wr => ∃ q : Nat, q ≤ N ∧ j = .int .i64 q ∧ w.grownBy wr (some bs) ∧ Bk wr w.heap.size 41 #[.int .i64 k, .int .i64 f, .int .i64 t, .int .i64 g, .int .i64 h, .int .i64 i, .int .i64 m, .int .i64 v, .slice A n c, .slice A' n' c'] ∧ Shf wr bs bl (bad || !(rowB T f f' q))) (fun j _ => N - (intOf j).toNat)
  case atStart => exact ⟨0, by omega, rfl, hg0, k0, by simpa [rowB] using ks⟩
  case round =>
    obtain ⟨q, hq, rfl, hgr, kx, kz⟩ := hrel
    clear k0 ks hg0
    by_cases hqn : q < N
    · have e3 : (q : Int) < N := by omega
      have e4 : IntKind.i64.wrap (f + q) = f + q := IntWalk.i64_in _ (by omega)
      have e5 : IntKind.i64.wrap (f' + q) = f' + q := IntWalk.i64_in _ (by omega)
      have hcall := HAT.out wr _ (f + q) hgr kz
      have hrow : rowB T f f' (q + 1) = (rowB T f f' q && (decide ((T (f + q) 1).2 = 0) && !(T (f + q) 1).1.gone && decide ((T (f + q) 1).1.pos = f' + q))) := rfl
      have hmono : rowB T f f' N = true → rowB T f f' (q + 1) = true := fun h => rowB_mono h (by omega)
      obtain ⟨⟨⟨tx, tg, ti, tr, tof⟩, te⟩, hX⟩ : ∃ y, T (f + q) 1 = y := ⟨_, rfl⟩
      rw [hX] at hcall hrow
      simp only [Pl.val] at hcall hrow
      have HC := Lib.hid hcall
      have HW := Lib.hid hrow
      have HM := Lib.hid hmono
      have x1 := kx.cell 1
      dsimp at x1
      clear hcall hrow hmono hX kz
      have hlw := hgr.size
      by_cases hgo : tg = false ∧ tx = f' + q
      · obtain ⟨rfl, rfl⟩ := hgo
        go_wp2_with (go_at_call 50; (refine HC.out.mono ?_); rintro e w1 ⟨rfl, hg1, hk1⟩)
        go_roundw
        case rel =>
          refine ⟨q + 1, by omega, by go_num, gr_alloc (hgr.trans hg1) _, (kx.grown hg1 (fun e => by injection e with e; exact hne e)).alloc _, ?_⟩
          have := hk1.alloc (.cells #[.int .i64 (f' + q), .bool false, .bool ti, .int .i64 tr, .int .i64 tof] 79)
          have e : ((bad || !(rowB T f f' q)) || decide (te ≠ 0)) = (bad || !(rowB T f f' q && (decide (te = 0) && !false && decide True))) := by
            by_cases hte : te = 0 <;> cases bad <;> cases rowB T f f' q <;> simp [hte]
          rw [HW.out, ← e]
          exact this
        case measure => simp [intOf]; omega
      · have hbad : rowB T f f' N = false := by
          cases hr : rowB T f f' N with
          | false => rfl
          | true =>
            have := HW.out.symm.trans (HM.out hr)
            simp only [Bool.and_eq_true, decide_eq_true_eq, Bool.not_eq_true'] at this
            exact absurd ⟨this.2.1.2, this.2.2⟩ hgo
        have HB := Lib.hid hbad
        clear hbad HW HM
        cases tg with
        | true =>
          clear hgo
          go_wp2_with (go_at_call 50; (refine HC.out.mono ?_); rintro e w1 ⟨rfl, hg1, hk1⟩)
          go_ret
          exact ⟨false, _, rfl, gr_alloc (hgr.trans hg1) _, hk1.alloc _, by rw [HB.out]; simp⟩
        | false =>
          have hne2 : ¬ tx = f' + q := fun e => hgo ⟨rfl, e⟩
          have t1 : (tx != f' + q) = true := by simpa using hne2
          have t2 : (tx == f' + q) = false := by simpa using hne2
          clear hgo
          go_wp2_with (go_at_call 50; (refine HC.out.mono ?_); rintro e w1 ⟨rfl, hg1, hk1⟩)
          go_ret
          exact ⟨false, _, rfl, gr_alloc (hgr.trans hg1) _, hk1.alloc _, by rw [HB.out]; simp⟩
    · obtain rfl : N = q := by omega
      go_wp2
      go_ret
      exact ⟨true, _, rfl, hgr, kz, by simp⟩
end Go.Proofs.Ytmacfoebfpljoaa
