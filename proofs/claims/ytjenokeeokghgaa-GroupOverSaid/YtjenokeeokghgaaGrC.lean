/- group: Fresh -/
import Derived.Test.YtjenokeeokghgaaGrB
namespace Go.Proofs.Ytjenokeeokghgaa
open Go.RowKit

theorem u64_sub {a b : Int} (ha : -9223372036854775808 ≤ a ∧ a ≤ 9223372036854775807) (hb : -9223372036854775808 ≤ b ∧ b ≤ 9223372036854775807) (h : b ≤ a) : IntKind.u64.wrap (IntKind.u64.wrap a - IntKind.u64.wrap b) = a - b := by
  have hw : ∀ x, IntKind.u64.wrap x = x % 18446744073709551616 := fun x => by simp [IntKind.wrap, IntKind.signed, IntKind.bits]
  rw [hw, hw, hw]
  omega

set_option maxHeartbeats 400000 in
theorem fc1 (o : Bool) (ct : Int) (S : Value) (b : Nat) (w : World) (hk : Bk w b 31 #[.bool o, .int .i64 ct, S]) :
    Calls Try.prog 24 #[.pointer (some ⟨b, 0, none⟩)] w fun e w' => e = .returned (.bool (!o)) ∧ Below w.heap.size w w' := by
  have d0 := hk.cell 0
  have l0 := def_lt' hk
  dsimp at d0
  go_enter Try.func24, Try.ntmps24
  go_wp2
  go_ret
  exact ⟨rfl, Below.refl _ _⟩
set_option maxHeartbeats 400000 in
theorem fc2 (o : Bool) (ct tm : Int) (S : Value) (b b2 : Nat) (w : World) (hk : Bk w b 31 #[.bool o, .int .i64 ct, S]) (h2 : Bk w b2 2 #[.int .i64 tm]) :
    Calls Try.prog 25 #[.pointer (some ⟨b2, 0, none⟩), .pointer (some ⟨b, 0, none⟩)] w fun e w' => e = .returned (.bool (decide (tm < ct))) ∧ Below w.heap.size w w' := by
  have d1 := hk.cell 1
  have l0 := def_lt' hk
  have d2 := h2.cell 0
  have l2 := def_lt' h2
  dsimp at d1 d2
  go_enter Try.func25, Try.ntmps25
  go_wp2
  go_ret
  exact ⟨rfl, Below.refl _ _⟩
set_option maxHeartbeats 400000 in
theorem fc3 (o : Bool) (ct tm dl : Int) (S : Value) (b b2 b3 : Nat) (w : World) (hk : Bk w b 31 #[.bool o, .int .i64 ct, S]) (h2 : Bk w b2 2 #[.int .i64 tm]) (h3 : Bk w b3 2 #[.int .i64 dl])
    (hct : -9223372036854775808 ≤ ct ∧ ct ≤ 9223372036854775807) (htm : -9223372036854775808 ≤ tm ∧ tm ≤ 9223372036854775807) (hdl : -9223372036854775808 ≤ dl ∧ dl ≤ 9223372036854775807) (hle : ct ≤ tm) :
    Calls Try.prog 26 #[.pointer (some ⟨b2, 0, none⟩), .pointer (some ⟨b, 0, none⟩), .pointer (some ⟨b3, 0, none⟩)] w fun e w' => e = .returned (.bool (decide (max dl 0 < tm - ct))) ∧ Below w.heap.size w w' := by
  have d1 := hk.cell 1
  have l0 := def_lt' hk
  have d2 := h2.cell 0
  have l2 := def_lt' h2
  have d3 := h3.cell 0
  have l3 := def_lt' h3
  dsimp at d1 d2 d3
  have e1 := u64_sub htm hct hle
  go_enter Try.func26, Try.ntmps26
  go_wp2
  all_goals go_ret
  all_goals exact ⟨ret_bool (by rw [Bool.eq_iff_iff]; simp; omega), Below.refl _ _⟩

set_option maxHeartbeats 400000 in
theorem fc4 (k f t g h i m v : Int) (A A' : Option Addr) (n n' c c' : Nat) (sl : List Tok) (st : List Mk) (B : Option Addr) (l cl : Nat) (L : List Sp) (o : Bool) (ct : Int) (b b2 : Nat) (w : World) (hn : n ≤ maxLen) (hn' : n' ≤ maxLen) (hl : l ≤ maxLen) (hrd : Rd w w.heap.size 12 A n (toks sl)) (hrd' : Rd w w.heap.size 8 A' n' (mks st)) (hrs : Rd w w.heap.size 2 B l (sps L))
    (hk : Bk w b 31 #[.bool o, .int .i64 ct, .slice B l cl]) (h2 : Bk w b2 28 #[.int .i64 k, .int .i64 f, .int .i64 t, .int .i64 g, .int .i64 h, .int .i64 i, .int .i64 m, .int .i64 v, .slice A n c, .slice A' n' c']) :
    Calls Try.prog 27 #[.pointer (some ⟨b2, 0, none⟩), .pointer (some ⟨b, 0, none⟩)] w fun e w' => e = .returned (.bool (!touchB k f t g h i m v n n' L)) ∧ Below w.heap.size w w' := by
  have ht := touches_any k f t g h i m v A A' n n' c c' sl st B l cl L w hn hn' hl hrd hrd' hrs
  have HT := Lib.hid ht
  have d2 := hk.cell 2
  have l0 := def_lt' hk
  have l2 := def_lt' h2
  have q0 := h2.cell 0; have q1 := h2.cell 1; have q2 := h2.cell 2; have q3 := h2.cell 3; have q4 := h2.cell 4; have q5 := h2.cell 5; have q6 := h2.cell 6; have q7 := h2.cell 7; have q8 := h2.cell 8; have q9 := h2.cell 9
  dsimp at d2 q0 q1 q2 q3 q4 q5 q6 q7 q8 q9
  clear ht hrd hrd' hrs
  go_enter Try.func27, Try.ntmps27
  go_wp2_with (go_at_call 8; refine HT.out.mono ?_; rintro e w1 ⟨rfl, hb1⟩)
  go_ret
  exact ⟨rfl, hb1⟩

set_option maxHeartbeats 400000 in
theorem f5_1 (b : Nat) (bv : Bool) (w : World) (hc : ∀ W, Below w.heap.size w W → Calls Try.prog 24 #[.pointer (some ⟨b, 0, none⟩)] W (On w W (.bool bv))) :
    Calls Try.prog 29 #[.agg #[.func (.func 24) #[] #[.pointer (some ⟨b, 0, none⟩)]]] w fun e w' => e = .returned (.bool bv) ∧ Below w.heap.size w w' := by
  have HC := Lib.hid hc
  clear hc
  go_enter Try.func29, Try.ntmps29
  go_wp2_with (go_at_call 24; refine (HC.out _ (by repeat (first | with_reducible exact Below.refl _ _ | with_reducible assumption | (with_reducible refine below_drewN ?_ _) | (with_reducible refine Below.drew ?_) | (with_reducible refine Below.alloc ?_ ?_ _; rotate_left; focus (first | with_reducible assumption | omega | (simp; done) | (simp; omega))) | (with_reducible refine Below.setCell ?_ ?_ _; rotate_left; focus (first | with_reducible assumption | omega | (simp; done) | (simp; omega)))))).mono ?_; rintro e w1 ⟨rfl, hb1, _, _⟩)
  go_ret
  exact ⟨rfl, hb1⟩

set_option maxHeartbeats 400000 in
theorem f5_2 (b2 b : Nat) (bv : Bool) (w : World) (hc : ∀ W, Below w.heap.size w W → Calls Try.prog 25 #[.pointer (some ⟨b2, 0, none⟩), .pointer (some ⟨b, 0, none⟩)] W (On w W (.bool bv))) :
    Calls Try.prog 29 #[.agg #[.func (.func 25) #[] #[.pointer (some ⟨b2, 0, none⟩), .pointer (some ⟨b, 0, none⟩)]]] w fun e w' => e = .returned (.bool bv) ∧ Below w.heap.size w w' := by
  have HC := Lib.hid hc
  clear hc
  go_enter Try.func29, Try.ntmps29
  go_wp2_with (go_at_call 25; refine (HC.out _ (by repeat (first | with_reducible exact Below.refl _ _ | with_reducible assumption | (with_reducible refine below_drewN ?_ _) | (with_reducible refine Below.drew ?_) | (with_reducible refine Below.alloc ?_ ?_ _; rotate_left; focus (first | with_reducible assumption | omega | (simp; done) | (simp; omega))) | (with_reducible refine Below.setCell ?_ ?_ _; rotate_left; focus (first | with_reducible assumption | omega | (simp; done) | (simp; omega)))))).mono ?_; rintro e w1 ⟨rfl, hb1, _, _⟩)
  go_ret
  exact ⟨rfl, hb1⟩

set_option maxHeartbeats 400000 in
theorem f5_3 (b2 b b3 : Nat) (bv : Bool) (w : World) (hc : ∀ W, Below w.heap.size w W → Calls Try.prog 26 #[.pointer (some ⟨b2, 0, none⟩), .pointer (some ⟨b, 0, none⟩), .pointer (some ⟨b3, 0, none⟩)] W (On w W (.bool bv))) :
    Calls Try.prog 29 #[.agg #[.func (.func 26) #[] #[.pointer (some ⟨b2, 0, none⟩), .pointer (some ⟨b, 0, none⟩), .pointer (some ⟨b3, 0, none⟩)]]] w fun e w' => e = .returned (.bool bv) ∧ Below w.heap.size w w' := by
  have HC := Lib.hid hc
  clear hc
  go_enter Try.func29, Try.ntmps29
  go_wp2_with (go_at_call 26; refine (HC.out _ (by repeat (first | with_reducible exact Below.refl _ _ | with_reducible assumption | (with_reducible refine below_drewN ?_ _) | (with_reducible refine Below.drew ?_) | (with_reducible refine Below.alloc ?_ ?_ _; rotate_left; focus (first | with_reducible assumption | omega | (simp; done) | (simp; omega))) | (with_reducible refine Below.setCell ?_ ?_ _; rotate_left; focus (first | with_reducible assumption | omega | (simp; done) | (simp; omega)))))).mono ?_; rintro e w1 ⟨rfl, hb1, _, _⟩)
  go_ret
  exact ⟨rfl, hb1⟩

set_option maxHeartbeats 400000 in
theorem f5_4 (b2 b : Nat) (bv : Bool) (w : World) (hc : ∀ W, Below w.heap.size w W → Calls Try.prog 27 #[.pointer (some ⟨b2, 0, none⟩), .pointer (some ⟨b, 0, none⟩)] W (On w W (.bool bv))) :
    Calls Try.prog 29 #[.agg #[.func (.func 27) #[] #[.pointer (some ⟨b2, 0, none⟩), .pointer (some ⟨b, 0, none⟩)]]] w fun e w' => e = .returned (.bool bv) ∧ Below w.heap.size w w' := by
  have HC := Lib.hid hc
  clear hc
  go_enter Try.func29, Try.ntmps29
  go_wp2_with (go_at_call 27; refine (HC.out _ (by repeat (first | with_reducible exact Below.refl _ _ | with_reducible assumption | (with_reducible refine below_drewN ?_ _) | (with_reducible refine Below.drew ?_) | (with_reducible refine Below.alloc ?_ ?_ _; rotate_left; focus (first | with_reducible assumption | omega | (simp; done) | (simp; omega))) | (with_reducible refine Below.setCell ?_ ?_ _; rotate_left; focus (first | with_reducible assumption | omega | (simp; done) | (simp; omega)))))).mono ?_; rintro e w1 ⟨rfl, hb1, _, _⟩)
  go_ret
  exact ⟨rfl, hb1⟩

set_option maxRecDepth 100000 in
set_option maxHeartbeats 2000000 in
/-- of four reasons the first one that is one: number idx -/
theorem rindex_any (F : Nat → Value) (idx : Nat) (hidx : idx ≤ 4) (b : Nat) (w : World) (hb : b < w.heap.size) (hF : ∀ q, q < 4 → w.cell? ⟨b, q, none⟩ = some (F q)) (hf1 : ∀ q, q < 4 → ∃ fid caps, F q = .func (.func fid) #[] caps)
    (hcall : ∀ W q, Below w.heap.size w W → q < 4 → q ≤ idx → Calls Try.prog 29 #[.agg #[F q]] W (On w W (.bool (decide (q = idx))))) :
    Calls Try.prog 39 #[.slice (some ⟨b, 0, none⟩) 4 4, .func (.func 29) #[] #[]] w fun e w' => ∃ r : Int, e = .returned (.int .i64 r) ∧ decide (0 ≤ r) = decide (idx < 4) ∧ Below w.heap.size w w' := by
  have HC := Lib.hid hcall
  have HF := Lib.hid hF
  have HF1 := Lib.hid hf1
  clear hcall hF hf1
  go_enter Try.func39, Try.ntmps39
  go_wp2
  go_loopw [8] (fun j wr => ∃ q : Nat, q ≤ idx ∧ j = .int .i64 q ∧ Below w.heap.size w wr) (fun j _ => 5 - (intOf j).toNat)
  case atStart => exact ⟨0, by omega, rfl, Below.refl _ _⟩
  case round =>
    obtain ⟨q, hq, rfl, hbr⟩ := hrel
    by_cases hq4 : q < 4
    · have hcell := (hbr.cell (p := ⟨b, q, none⟩) hb).trans (HF.out q hq4)
      have hcl := HC.out wr q hbr hq4 hq
      obtain ⟨fid, caps, hFq⟩ := HF1.out q hq4
      rw [hFq] at hcell hcl
      have e3 : (q : Int) < 4 := by omega
      by_cases hqi : q = idx
      · rw [decide_eq_true hqi] at hcl
        have HCL := Lib.hid hcl
        have e9 : decide (idx < 4) = true := decide_eq_true (by omega)
        have HE := Lib.hid e9
        clear hcl e9 hqi hq hFq
        go_wp2_with (go_at_call 29; refine HCL.out.mono ?_; rintro e w1 ⟨rfl, hb1, _, _⟩)
        go_ret
        exact ⟨_, rfl, by rw [HE.out]; simp, hb1⟩
      · rw [decide_eq_false hqi] at hcl
        have HCL := Lib.hid hcl
        clear hcl hFq
        go_wp2_with (go_at_call 29; refine HCL.out.mono ?_; rintro e w1 ⟨rfl, hb1, _, _⟩)
        go_roundw
        case rel => exact ⟨q + 1, by omega, by go_num, hb1⟩
        case measure => simp [intOf]; omega
    · obtain rfl : q = 4 := by omega
      have e9 : decide (idx < 4) = false := decide_eq_false (by omega)
      have HE := Lib.hid e9
      clear e9
      go_wp2
      go_ret
      exact ⟨_, rfl, by rw [HE.out]; simp, hbr⟩
set_option maxHeartbeats 1000000 in
theorem rcontains_any (F : Nat → Value) (idx : Nat) (hidx : idx ≤ 4) (b : Nat) (w : World) (hb : b < w.heap.size) (hF : ∀ q, q < 4 → w.cell? ⟨b, q, none⟩ = some (F q)) (hf1 : ∀ q, q < 4 → ∃ fid caps, F q = .func (.func fid) #[] caps)
    (hcall : ∀ W q, Below w.heap.size w W → q < 4 → q ≤ idx → Calls Try.prog 29 #[.agg #[F q]] W (On w W (.bool (decide (q = idx))))) :
    Calls Try.prog 28 #[.slice (some ⟨b, 0, none⟩) 4 4, .func (.func 29) #[] #[]] w fun e w' => e = .returned (.bool (decide (idx < 4))) ∧ Below w.heap.size w w' := by
  have hi := rindex_any F idx hidx b w hb hF hf1 hcall
  have HI := Lib.hid hi
  clear hi hcall hF hf1
  go_enter Try.func28, Try.ntmps28
  go_wp2_with (go_at_call 39; (refine HI.out.mono ?_); rintro e w1 ⟨r, rfl, hr, hb1⟩)
  go_ret
  exact ⟨ret_bool (by first | exact hr | simp), hb1⟩
end Go.Proofs.Ytjenokeeokghgaa
