/- step: slices.Equal of tokens, of sets of marks; Same of tokens -/
import Derived.Test.YtmacfoebfpljoaaStA
namespace Go.Proofs.Ytmacfoebfpljoaa
open Go.RowKit

set_option maxRecDepth 100000 in
set_option maxHeartbeats 2000000 in
theorem eqtok_any (A A' : Option Addr) (n n' c c' : Nat) (l l' : List Tok) (w : World) (hn : n ≤ maxLen) (hrd : n = n' → Rd w w.heap.size 12 A n (toks l)) (hrd' : n = n' → Rd w w.heap.size 12 A' n' (toks l')) (hl : l.length = n) (hl' : l'.length = n') :
    Calls Try.prog 84 #[.slice A n c, .slice A' n' c'] w fun e w' => e = .returned (.bool (decide (l = l'))) ∧ Below w.heap.size w w' := by
  unfold maxLen at hn
  by_cases hne : n = n'
  · subst hne
    have h1 := hrd rfl
    have h2 := hrd' rfl
    have HL := Lib.hid hl
    have HL' := Lib.hid hl'
    clear hrd hrd' hl hl'
    go_enter Try.func84, Try.ntmps84
    go_wp2
    go_loopw [13] (fun i wr => ∃ k : Nat, k ≤ n ∧ i = .int .i64 k ∧ Hid (l.take k = l'.take k) ∧ Below w.heap.size w wr) (fun i _ => n - (intOf i).toNat)
    case atStart => exact ⟨0, by omega, rfl, rfl, Below.refl _ _⟩
    case round =>
      obtain ⟨k, hk, rfl, hI, hbr⟩ := hrel
      by_cases hkn : k < n
      · obtain ⟨r, hx⟩ : ∃ r, l[k]? = some r := ⟨_, List.getElem?_eq_getElem (by have := HL.out; omega)⟩
        obtain ⟨r', hx'⟩ : ∃ r, l'[k]? = some r := ⟨_, List.getElem?_eq_getElem (by have := HL'.out; omega)⟩
        obtain ⟨b, o, rfl, hb, hcc⟩ := (h1.below hbr).el Tok.cells (fun _ => rfl) HL.out hx
        obtain ⟨b', o', rfl, hb', hdd⟩ := (h2.below hbr).el Tok.cells (fun _ => rfl) HL'.out hx'
        have e3 : (k : Int) < n := by omega
        have hst : l.take (k + 1) = l.take k ++ [r] := by rw [List.take_add_one, hx]; rfl
        have hst' : l'.take (k + 1) = l'.take k ++ [r'] := by rw [List.take_add_one, hx']; rfl
        have hc0 := hcc 0 (by omega); have hd0 := hdd 0 (by omega)
        have hc1 := hcc 1 (by omega); have hd1 := hdd 1 (by omega)
        have hc2 := hcc 2 (by omega); have hd2 := hdd 2 (by omega)
        have hc3 := hcc 3 (by omega); have hd3 := hdd 3 (by omega)
        have hc4 := hcc 4 (by omega); have hd4 := hdd 4 (by omega)
        have hc5 := hcc 5 (by omega); have hd5 := hdd 5 (by omega)
        have hc6 := hcc 6 (by omega); have hd6 := hdd 6 (by omega)
        have hc7 := hcc 7 (by omega); have hd7 := hdd 7 (by omega)
        have hc8 := hcc 8 (by omega); have hd8 := hdd 8 (by omega)
        have hc9 := hcc 9 (by omega); have hd9 := hdd 9 (by omega)
        have hc10 := hcc 10 (by omega); have hd10 := hdd 10 (by omega)
        have hc11 := hcc 11 (by omega); have hd11 := hdd 11 (by omega)
        have HS := Lib.hid hst
        have HS' := Lib.hid hst'
        have HX := Lib.hid hx
        have HX' := Lib.hid hx'
        have hbb : tokB r r' = decide (r = r') := rfl
        have HD : Hid (r = r' ∨ ¬ r = r') := Lib.hid (Decidable.em _)
        clear hst hst' hx hx' hcc hdd
        rcases HD.out with heq | heq
        · rw [decide_eq_true heq] at hbb
          have HN : Hid (l.take (k + 1) = l'.take (k + 1)) := Lib.hid (by rw [HS.out, HS'.out, hI.out, heq])
          clear HS HS' hI HX HX' HD heq
          obtain ⟨a0, a1, a2, a3, ⟨a4, a5, a6, a7, a8, a9, a10, a11⟩⟩ := r
          obtain ⟨b0, b1, b2, b3, ⟨b4, b5, b6, b7, b8, b9, b10, b11⟩⟩ := r'
          dsimp [Tok.cells, Mk.cells] at hc0 hd0 hc1 hd1 hc2 hd2 hc3 hd3 hc4 hd4 hc5 hd5 hc6 hd6 hc7 hd7 hc8 hd8 hc9 hd9 hc10 hd10 hc11 hd11
          have hq : ∀ w, (Op.equalIn 10000 91 (.agg #[.int .i64 a0, .int .i64 a1, .int .i64 a2, .int .i32 a3, .int .u16 a4, .int .u16 a5, .int .u16 a6, .int .u16 a7, .int .u16 a8, .int .u16 a9, .int .u16 a10, .int .u16 a11]) (.agg #[.int .i64 b0, .int .i64 b1, .int .i64 b2, .int .i32 b3, .int .u16 b4, .int .u16 b5, .int .u16 b6, .int .u16 b7, .int .u16 b8, .int .u16 b9, .int .u16 b10, .int .u16 b11])).run Try.prog w = .ok true w := fun w => by rw [eq_tok_at, hbb]
          clear hbb
          go_wp2
          go_quiet (fail)
          go_wp2
          go_roundw
          case rel => exact ⟨k + 1, by omega, by go_num, HN, below_drewN hbr _⟩
          case measure => simp [intOf]; omega
        · rw [decide_eq_false heq] at hbb
          have hbad : decide (l = l') = false := by
            refine decide_eq_false fun e => heq ?_
            have h1 := HX.out; have h2 := HX'.out
            rw [e, h2] at h1
            injection h1 with h1
            exact h1.symm
          have HB := Lib.hid hbad
          clear hbad HS HS' HX HX' hI heq HD
          obtain ⟨a0, a1, a2, a3, ⟨a4, a5, a6, a7, a8, a9, a10, a11⟩⟩ := r
          obtain ⟨b0, b1, b2, b3, ⟨b4, b5, b6, b7, b8, b9, b10, b11⟩⟩ := r'
          dsimp [Tok.cells, Mk.cells] at hc0 hd0 hc1 hd1 hc2 hd2 hc3 hd3 hc4 hd4 hc5 hd5 hc6 hd6 hc7 hd7 hc8 hd8 hc9 hd9 hc10 hd10 hc11 hd11
          have hq : ∀ w, (Op.equalIn 10000 91 (.agg #[.int .i64 a0, .int .i64 a1, .int .i64 a2, .int .i32 a3, .int .u16 a4, .int .u16 a5, .int .u16 a6, .int .u16 a7, .int .u16 a8, .int .u16 a9, .int .u16 a10, .int .u16 a11]) (.agg #[.int .i64 b0, .int .i64 b1, .int .i64 b2, .int .i32 b3, .int .u16 b4, .int .u16 b5, .int .u16 b6, .int .u16 b7, .int .u16 b8, .int .u16 b9, .int .u16 b10, .int .u16 b11])).run Try.prog w = .ok false w := fun w => by rw [eq_tok_at, hbb]
          clear hbb
          go_wp2
          go_quiet (fail)
          go_wp2
          go_ret
          exact ⟨ret_bool HB.out.symm, below_drewN hbr _⟩
      · obtain rfl : n = k := by omega
        have hall : decide (l = l') = true := by
          have := hI.out
          rw [List.take_of_length_le (by rw [HL.out]; omega), List.take_of_length_le (by rw [HL'.out]; omega)] at this
          exact decide_eq_true this
        have HB := Lib.hid hall
        clear hall hI
        go_wp2
        go_ret
        exact ⟨ret_bool HB.out.symm, hbr⟩
  · have hbad : decide (l = l') = false := decide_eq_false fun e => hne (by rw [← hl, ← hl', e])
    have HB := Lib.hid hbad
    have e1 : ((n : Int) == (n' : Int)) = false := by simp; omega
    clear hrd hrd' hl hl' hbad
    go_enter Try.func84, Try.ntmps84
    go_wp2
    go_ret
    exact ⟨ret_bool HB.out.symm, Below.refl _ _⟩

set_option maxRecDepth 100000 in
set_option maxHeartbeats 2000000 in
theorem eqmk_any (A A' : Option Addr) (n n' c c' : Nat) (l l' : List Mk) (w : World) (hn : n ≤ maxLen) (hrd : n = n' → Rd w w.heap.size 8 A n (mks l)) (hrd' : n = n' → Rd w w.heap.size 8 A' n' (mks l')) (hl : l.length = n) (hl' : l'.length = n') :
    Calls Try.prog 83 #[.slice A n c, .slice A' n' c'] w fun e w' => e = .returned (.bool (decide (l = l'))) ∧ Below w.heap.size w w' := by
  unfold maxLen at hn
  by_cases hne : n = n'
  · subst hne
    have h1 := hrd rfl
    have h2 := hrd' rfl
    have HL := Lib.hid hl
    have HL' := Lib.hid hl'
    clear hrd hrd' hl hl'
    go_enter Try.func83, Try.ntmps83
    go_wp2
    go_loopw [13] (fun i wr => ∃ k : Nat, k ≤ n ∧ i = .int .i64 k ∧ Hid (l.take k = l'.take k) ∧ Below w.heap.size w wr) (fun i _ => n - (intOf i).toNat)
    case atStart => exact ⟨0, by omega, rfl, rfl, Below.refl _ _⟩
    case round =>
      obtain ⟨k, hk, rfl, hI, hbr⟩ := hrel
      by_cases hkn : k < n
      · obtain ⟨r, hx⟩ : ∃ r, l[k]? = some r := ⟨_, List.getElem?_eq_getElem (by have := HL.out; omega)⟩
        obtain ⟨r', hx'⟩ : ∃ r, l'[k]? = some r := ⟨_, List.getElem?_eq_getElem (by have := HL'.out; omega)⟩
        obtain ⟨b, o, rfl, hb, hcc⟩ := (h1.below hbr).el Mk.cells (fun _ => rfl) HL.out hx
        obtain ⟨b', o', rfl, hb', hdd⟩ := (h2.below hbr).el Mk.cells (fun _ => rfl) HL'.out hx'
        have e3 : (k : Int) < n := by omega
        have hst : l.take (k + 1) = l.take k ++ [r] := by rw [List.take_add_one, hx]; rfl
        have hst' : l'.take (k + 1) = l'.take k ++ [r'] := by rw [List.take_add_one, hx']; rfl
        have hc0 := hcc 0 (by omega); have hd0 := hdd 0 (by omega)
        have hc1 := hcc 1 (by omega); have hd1 := hdd 1 (by omega)
        have hc2 := hcc 2 (by omega); have hd2 := hdd 2 (by omega)
        have hc3 := hcc 3 (by omega); have hd3 := hdd 3 (by omega)
        have hc4 := hcc 4 (by omega); have hd4 := hdd 4 (by omega)
        have hc5 := hcc 5 (by omega); have hd5 := hdd 5 (by omega)
        have hc6 := hcc 6 (by omega); have hd6 := hdd 6 (by omega)
        have hc7 := hcc 7 (by omega); have hd7 := hdd 7 (by omega)
        have HS := Lib.hid hst
        have HS' := Lib.hid hst'
        have HX := Lib.hid hx
        have HX' := Lib.hid hx'
        have hbb : mkB r r' = decide (r = r') := rfl
        have HD : Hid (r = r' ∨ ¬ r = r') := Lib.hid (Decidable.em _)
        clear hst hst' hx hx' hcc hdd
        rcases HD.out with heq | heq
        · rw [decide_eq_true heq] at hbb
          have HN : Hid (l.take (k + 1) = l'.take (k + 1)) := Lib.hid (by rw [HS.out, HS'.out, hI.out, heq])
          clear HS HS' hI HX HX' HD heq
          obtain ⟨a0, a1, a2, a3, a4, a5, a6, a7⟩ := r
          obtain ⟨b0, b1, b2, b3, b4, b5, b6, b7⟩ := r'
          dsimp [Mk.cells] at hc0 hd0 hc1 hd1 hc2 hd2 hc3 hd3 hc4 hd4 hc5 hd5 hc6 hd6 hc7 hd7
          have hq : ∀ w, (Op.equalIn 10000 89 (.agg #[.int .u16 a0, .int .u16 a1, .int .u16 a2, .int .u16 a3, .int .u16 a4, .int .u16 a5, .int .u16 a6, .int .u16 a7]) (.agg #[.int .u16 b0, .int .u16 b1, .int .u16 b2, .int .u16 b3, .int .u16 b4, .int .u16 b5, .int .u16 b6, .int .u16 b7])).run Try.prog w = .ok true w := fun w => by rw [eq_mk_at, hbb]
          clear hbb
          go_wp2
          go_quiet (fail)
          go_wp2
          go_roundw
          case rel => exact ⟨k + 1, by omega, by go_num, HN, below_drewN hbr _⟩
          case measure => simp [intOf]; omega
        · rw [decide_eq_false heq] at hbb
          have hbad : decide (l = l') = false := by
            refine decide_eq_false fun e => heq ?_
            have h1 := HX.out; have h2 := HX'.out
            rw [e, h2] at h1
            injection h1 with h1
            exact h1.symm
          have HB := Lib.hid hbad
          clear hbad HS HS' HX HX' hI heq HD
          obtain ⟨a0, a1, a2, a3, a4, a5, a6, a7⟩ := r
          obtain ⟨b0, b1, b2, b3, b4, b5, b6, b7⟩ := r'
          dsimp [Mk.cells] at hc0 hd0 hc1 hd1 hc2 hd2 hc3 hd3 hc4 hd4 hc5 hd5 hc6 hd6 hc7 hd7
          have hq : ∀ w, (Op.equalIn 10000 89 (.agg #[.int .u16 a0, .int .u16 a1, .int .u16 a2, .int .u16 a3, .int .u16 a4, .int .u16 a5, .int .u16 a6, .int .u16 a7]) (.agg #[.int .u16 b0, .int .u16 b1, .int .u16 b2, .int .u16 b3, .int .u16 b4, .int .u16 b5, .int .u16 b6, .int .u16 b7])).run Try.prog w = .ok false w := fun w => by rw [eq_mk_at, hbb]
          clear hbb
          go_wp2
          go_quiet (fail)
          go_wp2
          go_ret
          exact ⟨ret_bool HB.out.symm, below_drewN hbr _⟩
      · obtain rfl : n = k := by omega
        have hall : decide (l = l') = true := by
          have := hI.out
          rw [List.take_of_length_le (by rw [HL.out]; omega), List.take_of_length_le (by rw [HL'.out]; omega)] at this
          exact decide_eq_true this
        have HB := Lib.hid hall
        clear hall hI
        go_wp2
        go_ret
        exact ⟨ret_bool HB.out.symm, hbr⟩
  · have hbad : decide (l = l') = false := decide_eq_false fun e => hne (by rw [← hl, ← hl', e])
    have HB := Lib.hid hbad
    have e1 : ((n : Int) == (n' : Int)) = false := by simp; omega
    clear hrd hrd' hl hl' hbad
    go_enter Try.func83, Try.ntmps83
    go_wp2
    go_ret
    exact ⟨ret_bool HB.out.symm, Below.refl _ _⟩

set_option maxHeartbeats 400000 in
theorem tsame_any (A A' : Option Addr) (n n' c c' : Nat) (l l' : List Tok) (w : World) (hn : n ≤ maxLen) (hrd : n = n' → Rd w w.heap.size 12 A n (toks l)) (hrd' : n = n' → Rd w w.heap.size 12 A' n' (toks l')) (hl : l.length = n) (hl' : l'.length = n') :
    Calls Try.prog 82 #[.slice A n c, .slice A' n' c'] w fun e w' => e = .returned (.bool (decide (l = l'))) ∧ Below w.heap.size w w' := by
  have h := eqtok_any A A' n n' c c' l l' w hn hrd hrd' hl hl'
  have H := Lib.hid h
  clear h hrd hrd' hl hl'
  go_enter Try.func82, Try.ntmps82
  go_wp2_with (go_at_call 84; refine H.out.mono ?_; rintro e w1 ⟨rfl, hb1⟩)
  go_ret
  exact ⟨rfl, hb1⟩
end Go.Proofs.Ytmacfoebfpljoaa
