/- group: Same of clocks -/
import Derived.Test.YtjenokeeokghgaaGrH
namespace Go.Proofs.Ytjenokeeokghgaa
open Go.RowKit

theorem info_int2 : (Try.prog.info? 3).map (fun i => (i.zero, i.size, i.bytes)) = some (some (.int .i64 0), 1, 8) := by kernel_rfl
theorem eq_sp (a b a' b' : Int) (w : World) : (Op.equalIn 10000 37 (.agg #[.int .i64 a, .int .i64 b]) (.agg #[.int .i64 a', .int .i64 b'])).run Try.prog w = .ok (decide (a = a' ∧ b = b')) w := by
  have u3 := Try.underlying3
  have z3 := Try.sizeOf3
  have a3 := Try.isAgg3
  obtain ⟨i0, hi, _, _, _⟩ := info_parts info_int2
  rw [show (10000 : Nat) = 9999 + 1 from rfl, run_equalIn_array w 9999 _ _ (show Try.prog.underlying 37 = some (.array 2 3) by kernel_rfl) hi]
  have hc : Try.prog.cellsOf 3 = 1 := by kernel_rfl
  rw [hc, show List.range 2 = [0, 1] from rfl]
  simp only [Op.eqItems]
  go_simp
  by_cases h1 : a = a' <;> by_cases h2 : b = b' <;> simp [h1, h2]
@[go_sem] theorem guard_sp : Try.prog.eqGuardType Try.prog.depth 37 = false := by kernel_rfl

set_option maxRecDepth 100000 in
set_option maxHeartbeats 2000000 in
theorem csame_any (o o' : Bool) (ct ct' : Int) (B B' : Option Addr) (cl cl' : Nat) (L L' : List Sp) (w : World) (hl : L.length ≤ 1000000) (hr : Rd w w.heap.size 2 B L.length (sps L)) (hr' : Rd w w.heap.size 2 B' L'.length (sps L')) :
    Calls Try.prog 15 #[.agg #[.bool o, .int .i64 ct, .slice B L.length cl], .agg #[.bool o', .int .i64 ct', .slice B' L'.length cl']] w fun e w' => e = .returned (.bool (decide (o = o' ∧ ct = ct' ∧ L = L'))) ∧ Below w.heap.size w w' := by
  by_cases h1 : o = o'
  rotate_left
  · have he : decide (o = o' ∧ ct = ct' ∧ L = L') = false := decide_eq_false (fun h => h1 h.1)
    have e1 : (o == o') = false := by simpa using h1
    rw [he]
    clear he hr hr'
    go_enter Try.func15, Try.ntmps15
    go_wp2
    all_goals go_ret
    all_goals exact ⟨rfl, by repeat (first | with_reducible exact Below.refl _ _ | with_reducible assumption | (with_reducible refine below_drewN ?_ _) | (with_reducible refine Below.drew ?_) | (with_reducible refine Below.alloc ?_ ?_ _; rotate_left; focus (first | with_reducible assumption | omega | (simp; done) | (simp; omega))) | (with_reducible refine Below.setCell ?_ ?_ _; rotate_left; focus (first | with_reducible assumption | omega | (simp; done) | (simp; omega))))⟩
  subst h1
  by_cases h2 : ct = ct'
  rotate_left
  · have he : decide (o = o ∧ ct = ct' ∧ L = L') = false := decide_eq_false (fun h => h2 h.2.1)
    have e1 : (ct == ct') = false := by simpa using h2
    rw [he]
    clear he hr hr'
    go_enter Try.func15, Try.ntmps15
    go_wp2
    all_goals go_ret
    all_goals exact ⟨rfl, by repeat (first | with_reducible exact Below.refl _ _ | with_reducible assumption | (with_reducible refine below_drewN ?_ _) | (with_reducible refine Below.drew ?_) | (with_reducible refine Below.alloc ?_ ?_ _; rotate_left; focus (first | with_reducible assumption | omega | (simp; done) | (simp; omega))) | (with_reducible refine Below.setCell ?_ ?_ _; rotate_left; focus (first | with_reducible assumption | omega | (simp; done) | (simp; omega))))⟩
  subst h2
  by_cases h3 : L.length = L'.length
  rotate_left
  · have he : decide (o = o ∧ ct = ct ∧ L = L') = false := decide_eq_false (fun h => h3 (by rw [h.2.2]))
    have e1 : (((L.length : Nat) : Int) == (L'.length : Nat)) = false := by simp; omega
    rw [he]
    clear he hr hr'
    go_enter Try.func15, Try.ntmps15
    go_wp2
    all_goals go_ret
    all_goals exact ⟨rfl, by repeat (first | with_reducible exact Below.refl _ _ | with_reducible assumption | (with_reducible refine below_drewN ?_ _) | (with_reducible refine Below.drew ?_) | (with_reducible refine Below.alloc ?_ ?_ _; rotate_left; focus (first | with_reducible assumption | omega | (simp; done) | (simp; omega))) | (with_reducible refine Below.setCell ?_ ?_ _; rotate_left; focus (first | with_reducible assumption | omega | (simp; done) | (simp; omega))))⟩
  have hd : decide (o = o ∧ ct = ct ∧ L = L') = decide (L = L') := decide_eq_decide.2 (by simp)
  rw [hd]
  clear hd
  obtain ⟨n, hn⟩ : ∃ n, L.length = n := ⟨_, rfl⟩
  have hn' : L'.length = n := by omega
  rw [hn] at hr hl ⊢
  rw [hn'] at hr' ⊢
  have HL := Lib.hid hn
  have HL' := Lib.hid hn'
  have hb0 : Below w.heap.size w ((w.alloc (.cells #[.bool o, .int .i64 ct, .slice B n cl] 24)).alloc (.cells #[.bool o, .int .i64 ct, .slice B' n cl'] 24)) := by repeat (first | with_reducible exact Below.refl _ _ | with_reducible assumption | (with_reducible refine below_drewN ?_ _) | (with_reducible refine Below.drew ?_) | (with_reducible refine Below.alloc ?_ ?_ _; rotate_left; focus (first | with_reducible assumption | omega | (simp; done) | (simp; omega))) | (with_reducible refine Below.setCell ?_ ?_ _; rotate_left; focus (first | with_reducible assumption | omega | (simp; done) | (simp; omega))))
  have k1 : Bk ((w.alloc (.cells #[.bool o, .int .i64 ct, .slice B n cl] 24)).alloc (.cells #[.bool o, .int .i64 ct, .slice B' n cl'] 24)) w.heap.size 24 #[.bool o, .int .i64 ct, .slice B n cl] := (Bk.new w 24 _).alloc _
  have k2 : Bk ((w.alloc (.cells #[.bool o, .int .i64 ct, .slice B n cl] 24)).alloc (.cells #[.bool o, .int .i64 ct, .slice B' n cl'] 24)) (w.heap.size + 1) 24 #[.bool o, .int .i64 ct, .slice B' n cl'] := Bk.made 24 _ (by simp)
  clear h3 hn hn'
  go_enter Try.func15, Try.ntmps15
  go_wp2
  generalize (w.alloc (.cells #[.bool o, .int .i64 ct, .slice B n cl] 24)).alloc (.cells #[.bool o, .int .i64 ct, .slice B' n cl'] 24) = w0 at *
  go_loopw [5] (fun i wr => ∃ k : Nat, k ≤ n ∧ i = .int .i64 k ∧ Hid (L.take k = L'.take k) ∧ Below w0.heap.size w0 wr) (fun i _ => n - (intOf i).toNat)
  case atStart => exact ⟨0, by omega, rfl, rfl, Below.refl _ _⟩
  case round =>
    obtain ⟨k, hk, rfl, hI, hbr⟩ := hrel
    have hbw : Below w.heap.size w wr := hb0.trans (hbr.mono hb0.size)
    have j1 := k1.ext hbr
    have j2 := k2.ext hbr
    have l1 := def_lt' j1
    have l2 := def_lt' j2
    have c2 := j1.cell 2
    have d2 := j2.cell 2
    dsimp at c2 d2
    by_cases hkn : k < n
    · obtain ⟨r, hx⟩ : ∃ r, L[k]? = some r := ⟨_, List.getElem?_eq_getElem (by have := HL.out; omega)⟩
      obtain ⟨r', hx'⟩ : ∃ r, L'[k]? = some r := ⟨_, List.getElem?_eq_getElem (by have := HL'.out; omega)⟩
      obtain ⟨b, oo, rfl, hb, hcc⟩ := (hr.below hbw).el Sp.cells (fun _ => rfl) HL.out hx
      obtain ⟨b', oo', rfl, hb', hdd⟩ := (hr'.below hbw).el Sp.cells (fun _ => rfl) HL'.out hx'
      have e3 : (k : Int) < n := by omega
      have hst : L.take (k + 1) = L.take k ++ [r] := by rw [List.take_add_one, hx]; rfl
      have hst' : L'.take (k + 1) = L'.take k ++ [r'] := by rw [List.take_add_one, hx']; rfl
      obtain ⟨xa, xb⟩ := r
      obtain ⟨ya, yb⟩ := r'
      have hc0 := hcc 0 (by omega); have hc1 := hcc 1 (by omega)
      have hd0 := hdd 0 (by omega); have hd1 := hdd 1 (by omega)
      dsimp [Sp.cells] at hc0 hc1 hd0 hd1
      have HX := Lib.hid hx
      have HX' := Lib.hid hx'
      have HS := Lib.hid hst
      have HS' := Lib.hid hst'
      clear hst hst' hx hx' hcc hdd
      by_cases heq : xa = ya ∧ xb = yb
      · have hq : ∀ w, (Op.equalIn 10000 37 (.agg #[.int .i64 xa, .int .i64 xb]) (.agg #[.int .i64 ya, .int .i64 yb])).run Try.prog w = .ok true w := fun w => by rw [eq_sp, decide_eq_true heq]
        have HN : Hid (L.take (k + 1) = L'.take (k + 1)) := Lib.hid (by rw [HS.out, HS'.out, hI.out, heq.1, heq.2])
        clear HS HS' hI HX HX' heq
        go_wp2
        go_quiet (fail)
        go_wp2
        go_roundw
        case rel => exact ⟨k + 1, by omega, by go_num, HN, below_drewN hbr _⟩
        case measure => simp [intOf]; omega
      · have hq : ∀ w, (Op.equalIn 10000 37 (.agg #[.int .i64 xa, .int .i64 xb]) (.agg #[.int .i64 ya, .int .i64 yb])).run Try.prog w = .ok false w := fun w => by rw [eq_sp, decide_eq_false heq]
        have hbad : decide (L = L') = false := by
          refine decide_eq_false fun e => heq ?_
          have h1 := HX.out; have h2 := HX'.out
          rw [e, h2] at h1
          injection h1 with h1
          injection h1 with p1 p2
          exact ⟨p1.symm, p2.symm⟩
        have HB := Lib.hid hbad
        clear hbad HS HS' HX HX' hI heq
        go_wp2
        go_quiet (fail)
        go_wp2
        go_ret
        exact ⟨ret_bool HB.out.symm, below_drewN hbw _⟩
    · obtain rfl : n = k := by omega
      have hall : decide (L = L') = true := by
        have := hI.out
        rw [List.take_of_length_le (by rw [HL.out]; omega), List.take_of_length_le (by rw [HL'.out]; omega)] at this
        exact decide_eq_true this
      have HB := Lib.hid hall
      clear hall hI
      go_wp2
      go_ret
      exact ⟨ret_bool HB.out.symm, hbw⟩
end Go.Proofs.Ytjenokeeokghgaa
