/- smap: the law's example, May -/
import Derived.Test.YtkkbmcpimglcpaaF
namespace Go.Proofs.Ytkkbmcpimglcpaa
open Go.RowKit

theorem rd_row {W : World} {b : Nat} {t : TypeId} {l : List Rg} {n : Nat} (h : Bk W b t (rgs l).toArray) (hn : l.length = n) : Rd W W.heap.size 3 (some ⟨b, 0, none⟩) n (rgs l) := by
  refine ⟨by rw [rgs_len, hn], fun _ => ⟨b, 0, rfl, def_lt' h, fun j u hu => ?_⟩⟩
  have := h.cell j
  rw [Nat.zero_add, this]
  simpa using hu

theorem ex_1 : (tellS [⟨5, 2, 3⟩] 6 (-1)).1.pos = 5 := by decide
theorem ex_2 : (tellS [⟨5, 2, 3⟩] 6 1).1.pos = 8 := by decide
theorem ex_3 : (tellS [⟨5, 2, 3⟩] 7 (-1)).1.pos = 8 := by decide

set_option maxHeartbeats 1000000 in
theorem live23_any (w : World) : Calls Try.prog 9 #[] w fun e w' => e = .returned (.bool true) ∧ Below w.heap.size w w' := by
  have hp := fun (p side x : Int) W (hb : Bk W w.heap.size 42 #[.int .i64 5, .int .i64 2, .int .i64 3]) (hx : (tellS [⟨5, 2, 3⟩] p side).1.pos = x) => by
    have := position_any (some ⟨w.heap.size, 0, none⟩) 1 1 [⟨5, 2, 3⟩] p side W (by unfold maxLen; omega) (fun _ => rd_row (l := [⟨5, 2, 3⟩]) hb rfl) rfl
    rw [hx] at this
    exact this
  have hs := fun W (hb : Bk W w.heap.size 42 #[.int .i64 5, .int .i64 2, .int .i64 3]) => shift_any (some ⟨w.heap.size, 0, none⟩) 1 1 [⟨5, 2, 3⟩] W (by unfold maxLen; omega) (fun _ => rd_row (l := [⟨5, 2, 3⟩]) hb rfl) rfl
  have hs1 : shiftM [⟨5, 2, 3⟩] = 1 := by decide
  rw [hs1] at hs
  have HP := Lib.hid hp
  have HS := Lib.hid hs
  clear hp hs hs1
  have k0 := Bk.new w 42 #[.int .i64 5, .int .i64 2, .int .i64 3]
  have b0 : Below w.heap.size w (w.alloc (.cells #[.int .i64 5, .int .i64 2, .int .i64 3] 42)) := (Below.refl _ _).alloc (Nat.le_refl _) _
  go_enter Try.func9, Try.ntmps9
  go_wp2_with (first
    | (go_at_call 15; first
        | ((with_reducible refine (HP.out 6 (-1) 5 _ k0 ex_1).mono ?_); rintro e w1 ⟨rfl, hb1⟩; have k1 := k0.ext hb1; have b1 := b0.trans (hb1.mono b0.size))
        | ((with_reducible refine (HP.out 6 1 8 _ k1 ex_2).mono ?_); rintro e w2 ⟨rfl, hb2⟩; have k2 := k1.ext hb2; have b2 := b1.trans (hb2.mono b1.size))
        | ((with_reducible refine (HP.out 7 (-1) 8 _ k2 ex_3).mono ?_); rintro e w3 ⟨rfl, hb3⟩; have k3 := k2.ext hb3; have b3 := b2.trans (hb3.mono b2.size)))
    | (go_at_call 17; refine (HS.out _ k3).mono ?_; rintro e w4 ⟨rfl, hb4⟩; have b4 := b3.trans (hb4.mono b3.size)))
  go_ret
  exact ⟨rfl, b4⟩

set_option maxHeartbeats 400000 in
theorem may_any (p : Int) (w : World) : Calls Try.prog 12 #[.int .i64 p] w fun e w' => e = .returned (.bool (decide (0 ≤ p ∧ p ≤ 1099511627776))) ∧ w = w' := by
  go_enter Try.func12, Try.ntmps12
  go_wp2
  all_goals go_ret
  all_goals exact ⟨ret_bool (by rw [Bool.eq_iff_iff]; simp; try omega), rfl⟩
end Go.Proofs.Ytkkbmcpimglcpaa
