/- merged texts: Hvg StC StD StE StF Hvh StG Hvm -/
import Derived.Test.YtmacfoebfpljoaaGreatMl8
import Derived.Test.YtmacfoebfpljoaaGreatMl12
import Derived.Test.YtmacfoebfpljoaaGreatMl9
import Derived.Test.YtmacfoebfpljoaaGreatMl7
import Derived.Test.YtmacfoebfpljoaaGreatMl1
namespace Go.Proofs.YtmacfoebfpljoaaGreat
open Go.RowKit
set_option linter.unusedVariables false
section
variable (base : Nat) (nv mv : Value) (ns : List Nd) (ms : List Mr) (PA TA EA : Option Addr) (pn pc tn tc en ec : Nat) (w : World)
set_option maxRecDepth 100000 in
set_option maxHeartbeats 8000000 in
theorem wrong13_any (A : Option Addr) (n c : Nat) (l : List Tok) (hD : DeclIn w base nv mv ns ms) (hr : Rd w w.heap.size 12 A n (toks l)) (hn : n ≤ 100000) : Calls Tryz.prog 108 #[.agg #[nv, mv, .slice PA pn pc, .slice TA tn tc, .slice EA en ec], .slice A n c] w (AnyI w) := by
  obtain ⟨NA, nc, rfl, -, -, -, -⟩ := own_form hD.n
  obtain ⟨MA, mc, rfl, -, -, -, -⟩ := own_form hD.m
  have hrt := fun k t a r m0 m1 m2 m3 m4 m5 m6 m7 W (hb : Below w.heap.size w W) => right13_any base _ _ ns ms PA TA EA pn pc tn tc en ec W k t a r m0 m1 m2 m3 m4 m5 m6 m7 (hD.below hb)
  have HRT := Lib.hid hrt
  have H := Lib.hid hr
  clear hrt hr hD
  go_enter Tryz.func108, Tryz.ntmps108
  go_upto_region 1 with fail
  have ks : Bk (w.alloc (.cells #[.slice NA ns.length nc, .slice MA ms.length mc, .slice PA pn pc, .slice TA tn tc, .slice EA en ec] 32)) w.heap.size 32 #[.slice NA ns.length nc, .slice MA ms.length mc, .slice PA pn pc, .slice TA tn tc, .slice EA en ec] := Bk.new w _ _
  have hb0 : Below w.heap.size w (w.alloc (.cells #[.slice NA ns.length nc, .slice MA ms.length mc, .slice PA pn pc, .slice TA tn tc, .slice EA en ec] 32)) := belowA
  generalize w.alloc (.cells #[.slice NA ns.length nc, .slice MA ms.length mc, .slice PA pn pc, .slice TA tn tc, .slice EA en ec] 32) = w0 at *
  go_wp2
  go_loopw [5] (fun j wr => ∃ k : Nat, k ≤ n ∧ j = .int .i64 k ∧ Below w.heap.size w wr ∧ Bk wr w.heap.size 32 #[.slice NA ns.length nc, .slice MA ms.length mc, .slice PA pn pc, .slice TA tn tc, .slice EA en ec]) (fun j _ => n - (intOf j).toNat)
  case atStart => exact ⟨0, by omega, rfl, hb0, ks⟩
  case round =>
    clear hb0 ks
    obtain ⟨k, hk, rfl, hbo, kso⟩ := hrel
    by_cases hlt : k < n
    · have e3 : (k : Int) < n := by omega
      obtain ⟨tb, tq, tk, -, rfl, htb, htc⟩ := tok_at H.out hlt
      obtain ⟨k0, t0, a0, r0, m0, m1, m2, m3, m4, m5, m6, m7⟩ := tk
      have hF : ∀ W, (Below w.heap.size w W ∧ Bk W w.heap.size 32 #[.slice NA ns.length nc, .slice MA ms.length mc, .slice PA pn pc, .slice TA tn tc, .slice EA en ec]) → (W.cell? ⟨w.heap.size, 0, none⟩ = some (.slice NA ns.length nc) ∧ W.cell? ⟨w.heap.size, 1, none⟩ = some (.slice MA ms.length mc) ∧ W.cell? ⟨w.heap.size, 2, none⟩ = some (.slice PA pn pc) ∧ W.cell? ⟨w.heap.size, 3, none⟩ = some (.slice TA tn tc) ∧ W.cell? ⟨w.heap.size, 4, none⟩ = some (.slice EA en ec)) ∧ _ := fun W h => ⟨bk5 h.2, tok12 (fun i hi => (h.1.cell (p := ⟨tb, tq + k * 12 + i, none⟩) htb).trans (htc i hi))⟩
      have HF := Lib.hid hF
      clear hF htc
      go_upto_region 4 with fail
      refine wp_normal ?_
      refine wp_region_held_drew (S := fun W => Below w.heap.size w W ∧ Bk W w.heap.size 32 #[.slice NA ns.length nc, .slice MA ms.length mc, .slice PA pn pc, .slice TA tn tc, .slice EA en ec]) (by kernel_rfl) ⟨hbo.drew, kso.drew⟩ (fun hHeld => ?_)
      (refine tkH 0 ?_; refine tkH 1 ?_; refine tkH 2 ?_; refine tkH 3 ?_; refine tkH 4 ?_)
      refine nxH 5 (fun K hK => ?_)
      go_simp
      go_at_call 158
      refine (HRT.out k0 t0 a0 r0 m0 m1 m2 m3 m4 m5 m6 m7 _ hHeld.1).mono ?_
      rintro e w1 ⟨⟨b1, rfl⟩, hb1⟩
      refine hK.out _ _ ⟨hHeld.1.trans (hb1.mono hHeld.1.size), hHeld.2.ext hb1⟩ (fun hHeld => ?_)
      clear hK K; refine puH ?_
      (refine tkH 6 ?_)
      refine wpAnyH_done (by kernel_rfl) ?_ _
      cases b1 with
      | true =>
        go_wp2
        go_roundw
        case rel => exact ⟨k + 1, by omega, by go_num, hHeld.1, hHeld.2⟩
        case measure => simp [intOf]; omega
      | false =>
        go_wp2
        go_ret
        exact ⟨⟨_, rfl⟩, hHeld.1⟩
    · obtain rfl : k = n := by omega
      go_wp2
      go_ret
      exact ⟨⟨_, rfl⟩, hbo⟩
/-- a row has a tree: then it is whole, and not too long -/
def BuildOut14 (n : Nat) (l : List Tok) (w : World) (e : Ending) (w' : World) : Prop := ∃ er : Int, e = .returned (.int .i64 er) ∧ (er = 0 → n ≤ 20000 ∧ Wh l) ∧ Below w.heap.size w w'
set_option maxRecDepth 100000 in
set_option maxHeartbeats 4000000 in
theorem build14_any (A : Option Addr) (n c : Nat) (l : List Tok) (hD : DeclIn w base nv mv ns ms) (hr : Rd w w.heap.size 12 A n (toks l)) (hn : n ≤ 100000) : Calls Tryz.prog 116 #[.agg #[nv, mv, .slice PA pn pc, .slice TA tn tc, .slice EA en ec], .slice A n c] w (BuildOut14 n l w) := by
  obtain ⟨NA, nc, rfl, -, -, -, -⟩ := own_form hD.n
  obtain ⟨MA, mc, rfl, -, -, -, -⟩ := own_form hD.m
  have hwr := fun W (hb : Below w.heap.size w W) => wrong13_any base _ _ ns ms PA TA EA pn pc tn tc en ec W A n c l (hD.below hb) ((hr.below hb).more hb.size) hn
  have hwh := fun W (hb : Below w.heap.size w W) => whole14_any A n c l W ((hr.below hb).more hb.size) hn
  have HWR := Lib.hid hwr
  have HWH := Lib.hid hwh
  clear hwr hwh hr hD
  go_enter Tryz.func116, Tryz.ntmps116
  go_upto_region 1 with fail
  have ks : Bk (w.alloc (.cells #[.slice NA ns.length nc, .slice MA ms.length mc, .slice PA pn pc, .slice TA tn tc, .slice EA en ec] 32)) w.heap.size 32 #[.slice NA ns.length nc, .slice MA ms.length mc, .slice PA pn pc, .slice TA tn tc, .slice EA en ec] := Bk.new w _ _
  have hb0 : Below w.heap.size w (w.alloc (.cells #[.slice NA ns.length nc, .slice MA ms.length mc, .slice PA pn pc, .slice TA tn tc, .slice EA en ec] 32)) := belowA
  generalize w.alloc (.cells #[.slice NA ns.length nc, .slice MA ms.length mc, .slice PA pn pc, .slice TA tn tc, .slice EA en ec] 32) = w0 at *
  obtain ⟨s0, s1, s2, s3, s4⟩ := bk5 ks
  by_cases hbig : 20000 < n
  · have e3 : (20000 : Int) < n := by omega
    go_wp2
    go_ret
    exact ⟨_, rfl, (fun h => by omega), hb0⟩
  have e3 : ¬ (20000 : Int) < n := by omega
  go_wp2_with (go_at_call 108; fail)
  refine (HWR.out _ hb0).mono ?_
  rintro e w1 ⟨⟨v, rfl⟩, hb1⟩
  have hb01 := hb0.trans (hb1.mono hb0.size)
  by_cases hv : 0 ≤ v
  · go_wp2
    go_ret
    exact ⟨_, rfl, (fun h => by omega), hb01⟩
  go_wp2_with (go_at_call 162; fail)
  refine (HWH.out _ hb01).mono ?_
  rintro e w2 ⟨b, rfl, hw, hb2⟩
  have HW := Lib.hid hw
  clear hw
  cases b with
  | true =>
    go_wp2
    go_ret
    exact ⟨_, rfl, (fun _ => ⟨by omega, HW.out (by simp)⟩), hb01.trans (hb2.mono hb01.size)⟩
  | false =>
    go_wp2
    go_ret
    exact ⟨_, rfl, (fun h => by omega), hb01.trans (hb2.mono hb01.size)⟩
end
section
variable (base : Nat) (nv mv pv tv ev : Value) (ns : List Nd) (ms : List Mr) (ps : List Pe) (bn : Nat) (mg : List Mg) (w : World)
def AnyII (w : World) (e : Ending) (w' : World) : Prop := (∃ x y : Int, e = .returned (.tuple #[.int .i64 x, .int .i64 y])) ∧ Below w.heap.size w w'
set_option maxRecDepth 100000 in
set_option maxHeartbeats 8000000 in
theorem tree17_any (A : Option Addr) (n c : Nat) (l : List Tok) (h : Sc w base nv mv pv tv ev ns ms ps bn mg) (hr : Rd w w.heap.size 12 A n (toks l)) (hn : n ≤ 20000) (hnc : n ≤ c) (hw : Wh l) : Calls Tryz.prog 117 #[.agg #[nv, mv, pv, tv, ev], .slice A n c] w (AnyII w) := by
  obtain ⟨NA, MA, PA, TA, EA, nc, mc, pc, tc, ec, rfl, rfl, rfl, rfl, rfl⟩ := h.form
  have hl := hr.tlen
  have hnd := fun (t : Int) (A' : Option Addr) (n' c' : Nat) (l' : List Tok) W (hb : Below w.heap.size w W) (hr' : Rd W W.heap.size 12 A' n' (toks l')) (hn' : n' ≤ 100000) (hw' : Wh l') => node17_any base _ _ _ _ _ ns ms ps bn mg W t A' n' c' l' (h.below hb) hr' hn' hw'
  have hsh := fun (a : Nat) (ha : a < n) W (hb : Below w.heap.size w W) => shut14_any A n c a l W ((hr.below hb).more hb.size) (by omega) ha
  have HND := Lib.hid hnd
  have HSH := Lib.hid hsh
  have H := Lib.hid hr
  have HW := Lib.hid hw
  have HL := Lib.hid hl
  clear hnd hsh hr h hw hl
  go_enter Tryz.func117, Tryz.ntmps117
  go_upto_region 1 with fail
  have ks := Bk.new w 32 #[.slice NA ns.length nc, .slice MA ms.length mc, .slice PA ps.length pc, .slice TA bn tc, .slice EA mg.length ec]
  have hb0 : Below w.heap.size w (w.alloc (.cells #[.slice NA ns.length nc, .slice MA ms.length mc, .slice PA ps.length pc, .slice TA bn tc, .slice EA mg.length ec] 32)) := belowA
  generalize w.alloc (.cells #[.slice NA ns.length nc, .slice MA ms.length mc, .slice PA ps.length pc, .slice TA bn tc, .slice EA mg.length ec] 32) = w0 at *
  obtain ⟨s0, s1, s2, s3, s4⟩ := bk5 ks
  go_wp2_with (go_at_call 163; fail)
  refine (HND.out 1 A n c l _ hb0 ((H.out.below hb0).more hb0.size) (by omega) HW.out).mono ?_
  rintro e w1 ⟨⟨v, rfl⟩, hb1⟩
  have hb01 := hb0.trans (hb1.mono hb0.size)
  have ks1 := ks.ext hb1
  clear s0 s1 s2 s3 s4 hb0 ks hb1
  by_cases hv : v = 0
  · have e1 : (v != 0) = false := by simp [hv]
    clear hv
    go_wp2
    go_loopw [7] (fun j wr => ∃ k : Nat, k ≤ n ∧ j = .int .i64 k ∧ Below w.heap.size w wr ∧ Bk wr w.heap.size 32 #[.slice NA ns.length nc, .slice MA ms.length mc, .slice PA ps.length pc, .slice TA bn tc, .slice EA mg.length ec]) (fun j _ => n - (intOf j).toNat)
    case atStart => exact ⟨0, by omega, rfl, hb01, ks1⟩
    case round =>
      clear hb01 ks1
      obtain ⟨k, hk, rfl, hbo, kso⟩ := hrel
      by_cases hlt : k < n
      · have e3 : (k : Int) < n := by omega
        have e3' : (0 : Int) ≤ k := by omega
        obtain ⟨tb, tq, tk, htk, rfl, htb, htc⟩ := tok_at H.out hlt
        have hwi := fun (r : Int) (hk1 : tk.k = 1) (hs : ShutIs l k r) => HW.out.within htk hk1 hs
        have HWI := Lib.hid hwi
        have d0 : w.cell? ⟨tb, tq + k * 12, none⟩ = some (.int .i64 tk.k) := htc 0 (by omega)
        have d1 : w.cell? ⟨tb, tq + k * 12 + 1, none⟩ = some (.int .i64 tk.t) := htc 1 (by omega)
        generalize tk.k = k0 at *
        generalize tk.t = t0 at *
        have HD1 := Lib.hid d1
        have c0 := (hbo.cell (p := ⟨tb, tq + k * 12, none⟩) htb).trans d0
        clear hwi htk htc d0 d1
        by_cases hk1 : k0 = 1
        · have e4 : (k0 != 1) = false := by simp [hk1]
          have HK1 := Lib.hid hk1
          clear hk1
          have hF : ∀ W, (Below w.heap.size w W ∧ Bk W w.heap.size 32 #[.slice NA ns.length nc, .slice MA ms.length mc, .slice PA ps.length pc, .slice TA bn tc, .slice EA mg.length ec]) → (W.cell? ⟨w.heap.size, 0, none⟩ = some (.slice NA ns.length nc) ∧ W.cell? ⟨w.heap.size, 1, none⟩ = some (.slice MA ms.length mc) ∧ W.cell? ⟨w.heap.size, 2, none⟩ = some (.slice PA ps.length pc) ∧ W.cell? ⟨w.heap.size, 3, none⟩ = some (.slice TA bn tc) ∧ W.cell? ⟨w.heap.size, 4, none⟩ = some (.slice EA mg.length ec)) ∧ W.cell? ⟨tb, tq + k * 12 + 1, none⟩ = some (.int .i64 t0) := fun W h => ⟨bk5 h.2, (h.1.cell (p := ⟨tb, tq + k * 12 + 1, none⟩) htb).trans HD1.out⟩
          have HF := Lib.hid hF
          have hwr : IntKind.i64.wrap ((k : Int) + 1) = (k : Int) + 1 := by rw [IntKind.wrap_i64]; omega
          clear hF
          go_upto_region 8 with fail
          refine wp_normal ?_
          refine wp_region_held_drew (S := fun W => Below w.heap.size w W ∧ Bk W w.heap.size 32 #[.slice NA ns.length nc, .slice MA ms.length mc, .slice PA ps.length pc, .slice TA bn tc, .slice EA mg.length ec]) (by kernel_rfl) ⟨hbo.drew, kso.drew⟩ (fun hHeld => ?_)
          (refine tkH 0 ?_; refine tkH 1 ?_; refine tkH 2 ?_; refine tkH 3 ?_; refine tkH 4 ?_; refine tkH 5 ?_; refine tkH 6 ?_; refine tkH 7 ?_; refine tkH 8 ?_; refine tkH 9 ?_; refine tkH 10 ?_)
          refine nxH 11 (fun K hK => ?_)
          go_simp
          go_at_call 164
          refine (HSH.out k hlt _ hHeld.1).mono ?_
          rintro e w2 ⟨r, rfl, -, -, hs, hb2⟩
          obtain ⟨q, rfl, hq1, hq2, hwq⟩ := HWI.out _ HK1.out hs
          have hqn : q < n := by rw [HL.out] at hq2; exact hq2
          have q0 : (0 : Int) ≤ q := by omega
          have q1 : (q : Int) < n := by omega
          have q2 : (k : Int) + 1 ≤ q := by omega
          have q3 : (q : Int) ≤ c := by omega
          have HWQ := Lib.hid hwq
          clear hs hq2 hwq
          refine hK.out _ _ ⟨hHeld.1.trans (hb2.mono hHeld.1.size), hHeld.2.ext hb2⟩ (fun hHeld => ?_)
          clear hK K; refine puH ?_
          (refine tkH 12 ?_)
          have hcut : ∀ W, Below w.heap.size w W → Rd W W.heap.size 12 (if c = k + 1 then (some ⟨tb, tq, none⟩ : Option Addr) else some ⟨tb, tq + (k + 1) * 12, none⟩) (q - (k + 1)) (toks ((l.drop (k + 1)).take (q - (k + 1)))) := fun W hb => by
            by_cases hc : c = k + 1
            · have h0 : q - (k + 1) = 0 := by omega
              rw [h0, List.take_zero]
              exact Rd.nil_ _ _ _ _
            · rw [if_neg hc]
              exact (((H.out.below hb).more hb.size).tcut hq1 (Nat.le_of_lt hqn))
          generalize (if c = k + 1 then (some ⟨tb, tq, none⟩ : Option Addr) else some ⟨tb, tq + (k + 1) * 12, none⟩) = AA at *
          have HCUT := Lib.hid hcut
          clear hcut
          refine nxH 13 (fun K hK => ?_)
          go_simp
          go_at_call 163
          refine (HND.out t0 AA (q - (k + 1)) (c - (k + 1)) _ _ hHeld.1 (HCUT.out _ hHeld.1) (by omega) HWQ.out).mono ?_
          rintro e w3 ⟨⟨v3, rfl⟩, hb3⟩
          refine hK.out _ _ ⟨hHeld.1.trans (hb3.mono hHeld.1.size), hHeld.2.ext hb3⟩ (fun hHeld => ?_)
          clear hK K; refine puH ?_
          (refine tkH 14 ?_)
          refine wpAnyH_done (by kernel_rfl) ?_ _
          clear hwr HCUT q0 q1 q2 q3
          by_cases hv3 : v3 = 0
          · have e5 : (v3 != 0) = false := by simp [hv3]
            clear hv3
            go_wp2
            go_roundw
            case rel => exact ⟨k + 1, by omega, by go_num, hHeld.1, hHeld.2⟩
            case measure => simp [intOf]; omega
          · have e5 : (v3 != 0) = true := by simp [hv3]
            clear hv3
            go_wp2
            go_ret2
            exact ⟨⟨_, _, rfl⟩, hHeld.1⟩
        · have e4 : (k0 != 1) = true := by simp [hk1]
          clear hk1
          go_wp2
          go_roundw
          case rel => exact ⟨k + 1, by omega, by go_num, hbo, kso⟩
          case measure => simp [intOf]; omega
      · obtain rfl : k = n := by omega
        go_wp2
        go_ret2
        exact ⟨⟨_, _, rfl⟩, hbo⟩
  · have e1 : (v != 0) = true := by simp [hv]
    clear hv
    go_wp2
    go_ret2
    exact ⟨⟨_, _, rfl⟩, hb01⟩
set_option maxRecDepth 100000 in
set_option maxHeartbeats 4000000 in
theorem doc17_any (A : Option Addr) (n c : Nat) (l : List Tok) (h : Sc w base nv mv pv tv ev ns ms ps bn mg) (hr : Rd w w.heap.size 12 A n (toks l)) (hn : n ≤ 100000) (hnc : n ≤ c) : Calls Tryz.prog 56 #[.agg #[nv, mv, pv, tv, ev], .slice A n c] w (AnyI w) := by
  obtain ⟨NA, MA, PA, TA, EA, nc, mc, pc, tc, ec, rfl, rfl, rfl, rfl, rfl⟩ := h.form
  have hbd := fun W (hb : Below w.heap.size w W) => build14_any base _ _ ns ms PA TA EA ps.length pc bn tc mg.length ec W A n c l (h.d.below hb) ((hr.below hb).more hb.size) hn
  have htr := fun W (hb : Below w.heap.size w W) (hn' : n ≤ 20000) (hw : Wh l) => tree17_any base _ _ _ _ _ ns ms ps bn mg W A n c l (h.below hb) ((hr.below hb).more hb.size) hn' hnc hw
  have HBD := Lib.hid hbd
  have HTR := Lib.hid htr
  clear hbd htr hr h
  go_enter Tryz.func56, Tryz.ntmps56
  go_upto_region 1 with fail
  have ks := Bk.new w 32 #[.slice NA ns.length nc, .slice MA ms.length mc, .slice PA ps.length pc, .slice TA bn tc, .slice EA mg.length ec]
  have hb0 : Below w.heap.size w (w.alloc (.cells #[.slice NA ns.length nc, .slice MA ms.length mc, .slice PA ps.length pc, .slice TA bn tc, .slice EA mg.length ec] 32)) := belowA
  generalize w.alloc (.cells #[.slice NA ns.length nc, .slice MA ms.length mc, .slice PA ps.length pc, .slice TA bn tc, .slice EA mg.length ec] 32) = w0 at *
  obtain ⟨s0, s1, s2, s3, s4⟩ := bk5 ks
  go_wp2_with (go_at_call 116; fail)
  refine (HBD.out _ hb0).mono ?_
  rintro e w1 ⟨er, rfl, hok, hb1⟩
  have hb01 := hb0.trans (hb1.mono hb0.size)
  have ks1 := ks.ext hb1
  have HOK := Lib.hid hok
  clear s0 s1 s2 s3 s4 hok
  obtain ⟨s0, s1, s2, s3, s4⟩ := bk5 ks1
  by_cases her : er = 0
  · have e1 : (er != 0) = false := by simp [her]
    obtain ⟨hn2, hw⟩ := HOK.out her
    have HWH := Lib.hid hw
    clear her hw
    go_wp2_with (go_at_call 117; fail)
    refine (HTR.out _ hb01 hn2 HWH.out).mono ?_
    rintro e w2 ⟨⟨x, y, rfl⟩, hb2⟩
    go_wp2
    go_ret
    exact ⟨⟨_, rfl⟩, hb01.trans (hb2.mono hb01.size)⟩
  · have e1 : (er != 0) = true := by simp [her]
    clear her
    go_wp2
    go_ret
    exact ⟨⟨_, rfl⟩, hb01⟩
end
end Go.Proofs.YtmacfoebfpljoaaGreat
namespace Go.Proofs.YtmacfoebfpljoaaGreat
open Go.RowKit
def eight (k f t g h i m v k2 f2 t2 g2 h2 i2 m2 v2 : Int) : Bool := decide (k = k2 ∧ f = f2 ∧ t = t2 ∧ g = g2 ∧ h = h2 ∧ i = i2 ∧ m = m2 ∧ v = v2)
set_option maxRecDepth 100000 in
set_option maxHeartbeats 4000000 in
theorem ssame_any (k f t g h i m v k2 f2 t2 g2 h2 i2 m2 v2 : Int) (A A' A2 A2' : Option Addr) (n n' n2 n2' c c' c2 c2' : Nat) (tb sb : Bool) (w : World)
    (hT : ∀ W, Below w.heap.size w W → Calls Tryz.prog 53 #[.slice A n c, .slice A2 n2 c2] W (On w W (.bool tb)))
    (hS : ∀ W, Below w.heap.size w W → Calls Tryz.prog 143 #[.slice A' n' c', .slice A2' n2' c2'] W (On w W (.bool sb))) :
    Calls Tryz.prog 93 #[.agg #[.int .i64 k, .int .i64 f, .int .i64 t, .int .i64 g, .int .i64 h, .int .i64 i, .int .i64 m, .int .i64 v, .slice A n c, .slice A' n' c'], .agg #[.int .i64 k2, .int .i64 f2, .int .i64 t2, .int .i64 g2, .int .i64 h2, .int .i64 i2, .int .i64 m2, .int .i64 v2, .slice A2 n2 c2, .slice A2' n2' c2']] w fun e w' => e = .returned (.bool (eight k f t g h i m v k2 f2 t2 g2 h2 i2 m2 v2 && tb && sb)) ∧ Below w.heap.size w w' := by
  have HT := Lib.hid hT
  have HS := Lib.hid hS
  clear hT hS
  by_cases e0 : k = k2
  rotate_left
  · have he : eight k f t g h i m v k2 f2 t2 g2 h2 i2 m2 v2 = false := by
      unfold eight
      exact decide_eq_false (fun hh => e0 hh.1)
    rw [he, Bool.false_and, Bool.false_and]
    clear he HT HS
    go_enter Tryz.func93, Tryz.ntmps93
    go_wp2
    go_ret
    exact ⟨rfl, belowA⟩
  subst e0
  by_cases e1 : f = f2
  rotate_left
  · have he : eight k f t g h i m v k f2 t2 g2 h2 i2 m2 v2 = false := by
      unfold eight
      exact decide_eq_false (fun hh => e1 hh.2.1)
    rw [he, Bool.false_and, Bool.false_and]
    clear he HT HS
    go_enter Tryz.func93, Tryz.ntmps93
    go_wp2
    go_ret
    exact ⟨rfl, belowA⟩
  subst e1
  by_cases e2 : t = t2
  rotate_left
  · have he : eight k f t g h i m v k f t2 g2 h2 i2 m2 v2 = false := by
      unfold eight
      exact decide_eq_false (fun hh => e2 hh.2.2.1)
    rw [he, Bool.false_and, Bool.false_and]
    clear he HT HS
    go_enter Tryz.func93, Tryz.ntmps93
    go_wp2
    go_ret
    exact ⟨rfl, belowA⟩
  subst e2
  by_cases e3 : g = g2
  rotate_left
  · have he : eight k f t g h i m v k f t g2 h2 i2 m2 v2 = false := by
      unfold eight
      exact decide_eq_false (fun hh => e3 hh.2.2.2.1)
    rw [he, Bool.false_and, Bool.false_and]
    clear he HT HS
    go_enter Tryz.func93, Tryz.ntmps93
    go_wp2
    go_ret
    exact ⟨rfl, belowA⟩
  subst e3
  by_cases e4 : h = h2
  rotate_left
  · have he : eight k f t g h i m v k f t g h2 i2 m2 v2 = false := by
      unfold eight
      exact decide_eq_false (fun hh => e4 hh.2.2.2.2.1)
    rw [he, Bool.false_and, Bool.false_and]
    clear he HT HS
    go_enter Tryz.func93, Tryz.ntmps93
    go_wp2
    go_ret
    exact ⟨rfl, belowA⟩
  subst e4
  by_cases e5 : i = i2
  rotate_left
  · have he : eight k f t g h i m v k f t g h i2 m2 v2 = false := by
      unfold eight
      exact decide_eq_false (fun hh => e5 hh.2.2.2.2.2.1)
    rw [he, Bool.false_and, Bool.false_and]
    clear he HT HS
    go_enter Tryz.func93, Tryz.ntmps93
    go_wp2
    go_ret
    exact ⟨rfl, belowA⟩
  subst e5
  by_cases e6 : m = m2
  rotate_left
  · have he : eight k f t g h i m v k f t g h i m2 v2 = false := by
      unfold eight
      exact decide_eq_false (fun hh => e6 hh.2.2.2.2.2.2.1)
    rw [he, Bool.false_and, Bool.false_and]
    clear he HT HS
    go_enter Tryz.func93, Tryz.ntmps93
    go_wp2
    go_ret
    exact ⟨rfl, belowA⟩
  subst e6
  by_cases e7 : v = v2
  rotate_left
  · have he : eight k f t g h i m v k f t g h i m v2 = false := by
      unfold eight
      exact decide_eq_false (fun hh => e7 hh.2.2.2.2.2.2.2)
    rw [he, Bool.false_and, Bool.false_and]
    clear he HT HS
    go_enter Tryz.func93, Tryz.ntmps93
    go_wp2
    go_ret
    exact ⟨rfl, belowA⟩
  subst e7
  · have he : eight k f t g h i m v k f t g h i m v = true := by unfold eight; exact decide_eq_true ⟨rfl, rfl, rfl, rfl, rfl, rfl, rfl, rfl⟩
    rw [he, Bool.true_and]
    clear he
    cases tb with
    | false =>
      rw [Bool.false_and]
      clear HS
      go_enter Tryz.func93, Tryz.ntmps93
      go_wp2_with (go_at_call 53; (refine (HT.out _ belowA).mono ?_); rintro e w1 ⟨rfl, hb1, hz1, _⟩)
      go_ret
      exact ⟨rfl, hb1⟩
    | true =>
      rw [Bool.true_and]
      cases sb
      all_goals
        go_enter Tryz.func93, Tryz.ntmps93
        go_wp2_with (first
          | (go_at_call 53; (refine (HT.out _ belowA).mono ?_); rintro e w1 ⟨rfl, hb1, hz1, hx1⟩; have k2 := Bk.ext (b := w.heap.size) (t := 45) (cs := #[.int .i64 k, .int .i64 f, .int .i64 t, .int .i64 g, .int .i64 h, .int .i64 i, .int .i64 m, .int .i64 v, .slice A n c, .slice A' n' c']) ((Bk.new w _ _).alloc _) hx1; have k3 := Bk.ext (b := w.heap.size + 1) (t := 45) (cs := #[.int .i64 k, .int .i64 f, .int .i64 t, .int .i64 g, .int .i64 h, .int .i64 i, .int .i64 m, .int .i64 v, .slice A2 n2 c2, .slice A2' n2' c2']) (Bk.made _ _ (by simp)) hx1; have d2 := k2.cell 9; have d3 := k3.cell 9; have l2 := def_lt' k2; have l3 := def_lt' k3; dsimp at d2 d3)
          | (go_at_call 143; (refine (HS.out _ hb1).mono ?_); rintro e w2 ⟨rfl, hb2, hz2, _⟩))
        go_ret
        exact ⟨rfl, hb2⟩
theorem eqmk_nil (A' : Option Addr) (n' c' : Nat) (w : World) (hn : n' ≤ maxLen) : Calls Tryz.prog 143 #[.slice A' n' c', .slice none 0 0] w fun e w' => e = .returned (.bool (decide (n' = 0))) ∧ Below w.heap.size w w' := by
  have h := eqmk_any A' none n' 0 c' 0 (List.replicate n' default) [] w hn (fun e => by subst e; exact Rd.nil_ _ _ _ _) (fun _ => Rd.nil_ _ _ _ _) (by simp) rfl
  refine h.mono fun e w' ⟨h1, h2⟩ => ⟨?_, h2⟩
  rw [h1]
  refine ret_bool (decide_eq_decide.2 ?_)
  cases n' <;> simp [List.replicate_succ]
theorem tsame_nil (A : Option Addr) (n c : Nat) (w : World) (hn : n ≤ maxLen) : Calls Tryz.prog 53 #[.slice A n c, .slice none 0 0] w fun e w' => e = .returned (.bool (decide (n = 0))) ∧ Below w.heap.size w w' := by
  have h := tsame_any A none n 0 c 0 (List.replicate n default) [] w hn (fun e => by subst e; exact Rd.nil_ _ _ _ _) (fun _ => Rd.nil_ _ _ _ _) (by simp) rfl
  refine h.mono fun e w' ⟨h1, h2⟩ => ⟨?_, h2⟩
  rw [h1]
  refine ret_bool (decide_eq_decide.2 ?_)
  cases n <;> simp [List.replicate_succ]
theorem tsame_self (A : Option Addr) (n c : Nat) (sl : List Tok) (w : World) (hn : n ≤ maxLen) (h : Rd w w.heap.size 12 A n (toks sl)) : Calls Tryz.prog 53 #[.slice A n c, .slice A n c] w fun e w' => e = .returned (.bool true) ∧ Below w.heap.size w w' := by
  have hh := tsame_any A A n n c c sl sl w hn (fun _ => h) (fun _ => h) h.tlen h.tlen
  exact hh.mono fun e w' ⟨h1, h2⟩ => ⟨by rw [h1]; exact ret_bool (decide_eq_true rfl), h2⟩
theorem eqmk_self (A : Option Addr) (n c : Nat) (st : List Mk) (w : World) (hn : n ≤ maxLen) (h : Rd w w.heap.size 8 A n (mks st)) : Calls Tryz.prog 143 #[.slice A n c, .slice A n c] w fun e w' => e = .returned (.bool true) ∧ Below w.heap.size w w' := by
  have hh := eqmk_any A A n n c c st st w hn (fun _ => h) (fun _ => h) h.mlen h.mlen
  exact hh.mono fun e w' ⟨h1, h2⟩ => ⟨by rw [h1]; exact ret_bool (decide_eq_true rfl), h2⟩
def sh1 (g h i m v : Int) (n n' : Nat) : Bool := decide (g = 0 ∧ h = 0 ∧ i = 0 ∧ m = 0 ∧ v = 0 ∧ n' = 0 ∧ n ≤ 20000)
def sh2 (f t g h i m v : Int) (n n' : Nat) : Bool := decide (f ≤ g ∧ g ≤ h ∧ h ≤ t ∧ 0 ≤ i ∧ i ≤ n ∧ n ≤ 20000 ∧ m = 0 ∧ v = 0 ∧ n' = 0)
def sh3 (g h i : Int) (n n' : Nat) : Bool := decide (g = 0 ∧ h = 0 ∧ i = 0 ∧ n = 0 ∧ n' = 0)
def sh5 (f t g h i m v : Int) (n n' : Nat) : Bool := decide (g = 0 ∧ h = 0 ∧ i = 0 ∧ m = 0 ∧ v = 0 ∧ n = 0 ∧ (n' : Int) = t - f ∧ n' ≤ 20000)
set_option maxRecDepth 100000 in
set_option maxHeartbeats 2000000 in
theorem shape1_any (k f t g h i m v : Int) (A A' : Option Addr) (n n' c c' : Nat) (w : World) (sl : List Tok) (hn : n ≤ maxLen) (hn' : n' ≤ maxLen) (hrd : Rd w w.heap.size 12 A n (toks sl)) :
    Calls Tryz.prog 256 #[.agg #[.int .i64 k, .int .i64 f, .int .i64 t, .int .i64 g, .int .i64 h, .int .i64 i, .int .i64 m, .int .i64 v, .slice A n c, .slice A' n' c']] w fun e w' => e = .returned (.bool (sh1 g h i m v n n')) ∧ Below w.heap.size w w' := by
  have hs := fun W (hb : Below w.heap.size w W) => ssame_any k f t g h i m v k f t 0 0 0 0 0 A A' A none n n' n 0 c c' c 0 true (decide (n' = 0)) W
    (fun W' hb' => calls_on hb' (tsame_self A n c sl W' hn ((hrd.below (hb.trans (hb'.mono hb.size))).more (Nat.le_trans hb.size hb'.size)))) (fun W' hb' => calls_on hb' (eqmk_nil A' n' c' W' hn'))
  obtain ⟨b, hb⟩ : ∃ b, (eight k f t g h i m v k f t 0 0 0 0 0 && true && decide (n' = 0)) = b := ⟨_, rfl⟩
  rw [hb] at hs
  have hres : sh1 g h i m v n n' = (b && decide (n ≤ 20000)) := by
    rw [← hb]
    unfold sh1 eight
    rw [Bool.eq_iff_iff]
    simp
    omega
  rw [hres]
  have HS := Lib.hid hs
  unfold maxLen at hn
  clear hs hb hres hrd
  cases b
  all_goals
    go_enter Tryz.func256, Tryz.ntmps256
    go_wp2_with (go_at_call 93; (refine (HS.out _ belowA).mono ?_); rintro e w1 ⟨rfl, hb1⟩; have hb2 : Below w.heap.size w w1 := Below.trans belowA (hb1.mono (by simp)); have k1 := (Bk.new w 272 #[.int .i64 k, .int .i64 f, .int .i64 t, .int .i64 g, .int .i64 h, .int .i64 i, .int .i64 m, .int .i64 v, .slice A n c, .slice A' n' c']).ext hb1; have d8 := k1.cell 8; dsimp at d8)
    go_ret
    exact ⟨ret_bool (by rw [Bool.eq_iff_iff]; simp <;> omega), hb2⟩
set_option maxRecDepth 100000 in
set_option maxHeartbeats 2000000 in
theorem shape2_any (k f t g h i m v : Int) (A A' : Option Addr) (n n' c c' : Nat) (w : World) (hn : n ≤ maxLen) :
    Calls Tryz.prog 261 #[.agg #[.int .i64 k, .int .i64 f, .int .i64 t, .int .i64 g, .int .i64 h, .int .i64 i, .int .i64 m, .int .i64 v, .slice A n c, .slice A' n' c']] w fun e w' => e = .returned (.bool (sh2 f t g h i m v n n')) ∧ Below w.heap.size w w' := by
  unfold maxLen at hn
  go_enter Tryz.func261, Tryz.ntmps261
  go_wp2
  all_goals go_ret
  all_goals exact ⟨ret_bool (by rw [Bool.eq_iff_iff]; simp [sh2]; try omega), belowA⟩
set_option maxRecDepth 100000 in
set_option maxHeartbeats 2000000 in
theorem shape3_any (k f t g h i m v : Int) (A A' : Option Addr) (n n' c c' : Nat) (w : World) (hn : n ≤ maxLen) (hn' : n' ≤ maxLen) :
    Calls Tryz.prog 266 #[.agg #[.int .i64 k, .int .i64 f, .int .i64 t, .int .i64 g, .int .i64 h, .int .i64 i, .int .i64 m, .int .i64 v, .slice A n c, .slice A' n' c']] w fun e w' => e = .returned (.bool (sh3 g h i n n')) ∧ Below w.heap.size w w' := by
  have hs := fun W (hb : Below w.heap.size w W) => ssame_any k f t g h i m v k f t 0 0 0 m v A A' none none n n' 0 0 c c' 0 0 (decide (n = 0)) (decide (n' = 0)) W
    (fun W' hb' => calls_on hb' (tsame_nil A n c W' hn)) (fun W' hb' => calls_on hb' (eqmk_nil A' n' c' W' hn'))
  have hres : sh3 g h i n n' = (eight k f t g h i m v k f t 0 0 0 m v && decide (n = 0) && decide (n' = 0)) := by
    unfold sh3 eight
    rw [Bool.eq_iff_iff]
    simp
    omega
  rw [← hres] at hs
  have HS := Lib.hid hs
  clear hs hres
  generalize sh3 g h i n n' = b at *
  go_enter Tryz.func266, Tryz.ntmps266
  go_wp2_with (go_at_call 93; (refine (HS.out _ belowA).mono ?_); rintro e w1 ⟨rfl, hb1⟩; have hb2 : Below w.heap.size w w1 := Below.trans belowA (hb1.mono (by simp)))
  go_ret
  exact ⟨rfl, hb2⟩
set_option maxRecDepth 100000 in
set_option maxHeartbeats 2000000 in
theorem shape5_any (k f t g h i m v : Int) (A A' : Option Addr) (n n' c c' : Nat) (w : World) (st : List Mk) (hn : n ≤ maxLen) (hn' : n' ≤ maxLen) (hrd : Rd w w.heap.size 8 A' n' (mks st)) (hf : 0 ≤ f) (ht : t ≤ 1073741824) (hft : f ≤ t) :
    Calls Tryz.prog 271 #[.agg #[.int .i64 k, .int .i64 f, .int .i64 t, .int .i64 g, .int .i64 h, .int .i64 i, .int .i64 m, .int .i64 v, .slice A n c, .slice A' n' c']] w fun e w' => e = .returned (.bool (sh5 f t g h i m v n n')) ∧ Below w.heap.size w w' := by
  have hs := fun W (hb : Below w.heap.size w W) => ssame_any k f t g h i m v k f t 0 0 0 0 0 A A' none A' n n' 0 n' c c' 0 c' (decide (n = 0)) true W
    (fun W' hb' => calls_on hb' (tsame_nil A n c W' hn)) (fun W' hb' => calls_on hb' (eqmk_self A' n' c' st W' hn' ((hrd.below (hb.trans (hb'.mono hb.size))).more (Nat.le_trans hb.size hb'.size))))
  obtain ⟨b, hb⟩ : ∃ b, (eight k f t g h i m v k f t 0 0 0 0 0 && decide (n = 0) && true) = b := ⟨_, rfl⟩
  rw [hb] at hs
  have hres : sh5 f t g h i m v n n' = (b && decide ((n' : Int) = t - f) && decide (n' ≤ 20000)) := by
    rw [← hb]
    unfold sh5 eight
    rw [Bool.eq_iff_iff]
    simp
    omega
  rw [hres]
  have HS := Lib.hid hs
  unfold maxLen at hn'
  have e0 : IntKind.i64.wrap (t - f) = t - f := IntWalk.i64_in _ (by omega)
  clear hs hb hres hrd
  have hc : (((n' : Int) == t - f) = true ∧ decide ((n' : Int) = t - f) = true) ∨ (((n' : Int) == t - f) = false ∧ decide ((n' : Int) = t - f) = false) := by
    by_cases h1 : (n' : Int) = t - f
    · exact .inl ⟨by simpa using h1, decide_eq_true h1⟩
    · exact .inr ⟨by simpa using h1, decide_eq_false h1⟩
  rcases hc with ⟨g1, g3⟩ | ⟨g1, g3⟩
  all_goals
    rw [g3]
    clear g3
    cases b
    all_goals
      go_enter Tryz.func271, Tryz.ntmps271
      go_wp2_with (go_at_call 93; (refine (HS.out _ belowA).mono ?_); rintro e w1 ⟨rfl, hb1⟩; have hb2 : Below w.heap.size w w1 := Below.trans belowA (hb1.mono (by simp)); have k1 := (Bk.new w 275 #[.int .i64 k, .int .i64 f, .int .i64 t, .int .i64 g, .int .i64 h, .int .i64 i, .int .i64 m, .int .i64 v, .slice A n c, .slice A' n' c']).ext hb1; have d1 := k1.cell 1; have d2 := k1.cell 2; have d9 := k1.cell 9; dsimp at d1 d2 d9)
      go_ret
      exact ⟨ret_bool (by rw [Bool.eq_iff_iff]; simp <;> omega), hb2⟩
def boxes (f t : Int) : Bool := decide (0 ≤ f ∧ f ≤ t ∧ t ≤ 1073741824)
set_option maxRecDepth 100000 in
set_option maxHeartbeats 2000000 in
theorem of1 (f t g h i m v : Int) (A A' : Option Addr) (n n' c c' : Nat) (w : World) :
    Calls Tryz.prog 118 #[.agg #[.int .i64 1, .int .i64 f, .int .i64 t, .int .i64 g, .int .i64 h, .int .i64 i, .int .i64 m, .int .i64 v, .slice A n c, .slice A' n' c']] w fun e w' => e = .returned (.iface 272 (.agg #[.int .i64 1, .int .i64 f, .int .i64 t, .int .i64 g, .int .i64 h, .int .i64 i, .int .i64 m, .int .i64 v, .slice A n c, .slice A' n' c'])) ∧ Below w.heap.size w w' := by
  go_enter Tryz.func118, Tryz.ntmps118
  go_wp2
  go_ret
  exact ⟨rfl, belowA⟩
set_option maxRecDepth 100000 in
set_option maxHeartbeats 2000000 in
theorem of2 (f t g h i m v : Int) (A A' : Option Addr) (n n' c c' : Nat) (w : World) :
    Calls Tryz.prog 118 #[.agg #[.int .i64 2, .int .i64 f, .int .i64 t, .int .i64 g, .int .i64 h, .int .i64 i, .int .i64 m, .int .i64 v, .slice A n c, .slice A' n' c']] w fun e w' => e = .returned (.iface 273 (.agg #[.int .i64 2, .int .i64 f, .int .i64 t, .int .i64 g, .int .i64 h, .int .i64 i, .int .i64 m, .int .i64 v, .slice A n c, .slice A' n' c'])) ∧ Below w.heap.size w w' := by
  go_enter Tryz.func118, Tryz.ntmps118
  go_wp2
  go_ret
  exact ⟨rfl, belowA⟩
set_option maxRecDepth 100000 in
set_option maxHeartbeats 2000000 in
theorem of3 (k : Int) (hk : k = 3 ∨ k = 4) (f t g h i m v : Int) (A A' : Option Addr) (n n' c c' : Nat) (w : World) :
    Calls Tryz.prog 118 #[.agg #[.int .i64 k, .int .i64 f, .int .i64 t, .int .i64 g, .int .i64 h, .int .i64 i, .int .i64 m, .int .i64 v, .slice A n c, .slice A' n' c']] w fun e w' => e = .returned (.iface 274 (.agg #[.int .i64 k, .int .i64 f, .int .i64 t, .int .i64 g, .int .i64 h, .int .i64 i, .int .i64 m, .int .i64 v, .slice A n c, .slice A' n' c'])) ∧ Below w.heap.size w w' := by
  rcases hk with rfl | rfl
  all_goals
    go_enter Tryz.func118, Tryz.ntmps118
    go_wp2
    go_ret
    exact ⟨rfl, belowA⟩
set_option maxRecDepth 100000 in
set_option maxHeartbeats 2000000 in
theorem of5 (f t g h i m v : Int) (A A' : Option Addr) (n n' c c' : Nat) (w : World) :
    Calls Tryz.prog 118 #[.agg #[.int .i64 5, .int .i64 f, .int .i64 t, .int .i64 g, .int .i64 h, .int .i64 i, .int .i64 m, .int .i64 v, .slice A n c, .slice A' n' c']] w fun e w' => e = .returned (.iface 275 (.agg #[.int .i64 5, .int .i64 f, .int .i64 t, .int .i64 g, .int .i64 h, .int .i64 i, .int .i64 m, .int .i64 v, .slice A n c, .slice A' n' c'])) ∧ Below w.heap.size w w' := by
  go_enter Tryz.func118, Tryz.ntmps118
  go_wp2
  go_ret
  exact ⟨rfl, belowA⟩
set_option maxRecDepth 100000 in
set_option maxHeartbeats 2000000 in
theorem of0 (k : Int) (hk : k < 1 ∨ 5 < k) (f t g h i m v : Int) (A A' : Option Addr) (n n' c c' : Nat) (w : World) :
    Calls Tryz.prog 118 #[.agg #[.int .i64 k, .int .i64 f, .int .i64 t, .int .i64 g, .int .i64 h, .int .i64 i, .int .i64 m, .int .i64 v, .slice A n c, .slice A' n' c']] w fun e w' => e = .returned .nilIface ∧ Below w.heap.size w w' := by
  have e1 : (k == 1) = false := by simp; omega
  have e2 : (k == 2) = false := by simp; omega
  have e3 : (k == 3) = false := by simp; omega
  have e4 : (k == 4) = false := by simp; omega
  have e5 : (k == 5) = false := by simp; omega
  clear hk
  go_enter Tryz.func118, Tryz.ntmps118
  go_wp2
  go_ret
  exact ⟨rfl, belowA⟩
set_option maxRecDepth 100000 in
set_option maxHeartbeats 2000000 in
theorem shape_1 (f t g h i m v : Int) (A A' : Option Addr) (n n' c c' : Nat) (w : World) (sl : List Tok) (hn : n ≤ maxLen) (hn' : n' ≤ maxLen) (hrd : Rd w w.heap.size 12 A n (toks sl)) :
    Calls Tryz.prog 57 #[.agg #[.int .i64 1, .int .i64 f, .int .i64 t, .int .i64 g, .int .i64 h, .int .i64 i, .int .i64 m, .int .i64 v, .slice A n c, .slice A' n' c']] w fun e w' => e = .returned (.bool (boxes f t && sh1 g h i m v n n')) ∧ Below w.heap.size w w' := by
  have ho := fun W (hb : Below w.heap.size w W) => calls_on hb (of1 f t g h i m v A A' n n' c c' W)
  have hs := fun W (hb : Below w.heap.size w W) => calls_on hb (shape1_any 1 f t g h i m v A A' n n' c c' W sl hn hn' ((hrd.below hb).more hb.size))
  have HO := Lib.hid ho
  have HS := Lib.hid hs
  clear ho hs hrd
  have hm : ∀ w, (method 500 272 (.agg #[.int .i64 1, .int .i64 f, .int .i64 t, .int .i64 g, .int .i64 h, .int .i64 i, .int .i64 m, .int .i64 v, .slice A n c, .slice A' n' c']) "stet/step.shape").run Tryz.prog w = .ok (256, .agg #[.int .i64 1, .int .i64 f, .int .i64 t, .int .i64 g, .int .i64 h, .int .i64 i, .int .i64 m, .int .i64 v, .slice A n c, .slice A' n' c']) w := fun _ => by kernel_rfl
  go_enter Tryz.func57, Tryz.ntmps57
  go_wp2_with (first
    | (go_at_call 118; (refine (HO.out _ belowA).mono ?_); rintro e w1 ⟨rfl, hb1, hz1, hx1⟩; have k1 := (Bk.new w 45 #[.int .i64 1, .int .i64 f, .int .i64 t, .int .i64 g, .int .i64 h, .int .i64 i, .int .i64 m, .int .i64 v, .slice A n c, .slice A' n' c']).ext hx1; have d1 := k1.cell 1; have d2 := k1.cell 2; have l1 := def_lt' k1; dsimp at d1 d2)
    | (go_at_call 256; (refine (HS.out _ hb1).mono ?_); rintro e w2 ⟨rfl, hb2, hz2, hx2⟩))
  all_goals go_ret
  all_goals first
    | exact ⟨ret_bool (by rw [show boxes f t = true from decide_eq_true (by omega), Bool.true_and]), hb2⟩
    | exact ⟨ret_bool (by rw [show boxes f t = false from decide_eq_false (by omega), Bool.false_and]), hb1⟩
set_option maxRecDepth 100000 in
set_option maxHeartbeats 2000000 in
theorem shape_2 (f t g h i m v : Int) (A A' : Option Addr) (n n' c c' : Nat) (w : World) (hn : n ≤ maxLen) :
    Calls Tryz.prog 57 #[.agg #[.int .i64 2, .int .i64 f, .int .i64 t, .int .i64 g, .int .i64 h, .int .i64 i, .int .i64 m, .int .i64 v, .slice A n c, .slice A' n' c']] w fun e w' => e = .returned (.bool (boxes f t && sh2 f t g h i m v n n')) ∧ Below w.heap.size w w' := by
  have ho := fun W (hb : Below w.heap.size w W) => calls_on hb (of2 f t g h i m v A A' n n' c c' W)
  have hs := fun W (hb : Below w.heap.size w W) => calls_on hb (shape2_any 2 f t g h i m v A A' n n' c c' W hn)
  have HO := Lib.hid ho
  have HS := Lib.hid hs
  clear ho hs 
  have hm : ∀ w, (method 500 273 (.agg #[.int .i64 2, .int .i64 f, .int .i64 t, .int .i64 g, .int .i64 h, .int .i64 i, .int .i64 m, .int .i64 v, .slice A n c, .slice A' n' c']) "stet/step.shape").run Tryz.prog w = .ok (261, .agg #[.int .i64 2, .int .i64 f, .int .i64 t, .int .i64 g, .int .i64 h, .int .i64 i, .int .i64 m, .int .i64 v, .slice A n c, .slice A' n' c']) w := fun _ => by kernel_rfl
  go_enter Tryz.func57, Tryz.ntmps57
  go_wp2_with (first
    | (go_at_call 118; (refine (HO.out _ belowA).mono ?_); rintro e w1 ⟨rfl, hb1, hz1, hx1⟩; have k1 := (Bk.new w 45 #[.int .i64 2, .int .i64 f, .int .i64 t, .int .i64 g, .int .i64 h, .int .i64 i, .int .i64 m, .int .i64 v, .slice A n c, .slice A' n' c']).ext hx1; have d1 := k1.cell 1; have d2 := k1.cell 2; have l1 := def_lt' k1; dsimp at d1 d2)
    | (go_at_call 261; (refine (HS.out _ hb1).mono ?_); rintro e w2 ⟨rfl, hb2, hz2, hx2⟩))
  all_goals go_ret
  all_goals first
    | exact ⟨ret_bool (by rw [show boxes f t = true from decide_eq_true (by omega), Bool.true_and]), hb2⟩
    | exact ⟨ret_bool (by rw [show boxes f t = false from decide_eq_false (by omega), Bool.false_and]), hb1⟩
set_option maxRecDepth 100000 in
set_option maxHeartbeats 2000000 in
theorem shape_3 (k : Int) (hk : k = 3 ∨ k = 4) (f t g h i m v : Int) (A A' : Option Addr) (n n' c c' : Nat) (w : World) (hn : n ≤ maxLen) (hn' : n' ≤ maxLen) :
    Calls Tryz.prog 57 #[.agg #[.int .i64 k, .int .i64 f, .int .i64 t, .int .i64 g, .int .i64 h, .int .i64 i, .int .i64 m, .int .i64 v, .slice A n c, .slice A' n' c']] w fun e w' => e = .returned (.bool (boxes f t && sh3 g h i n n')) ∧ Below w.heap.size w w' := by
  have ho := fun W (hb : Below w.heap.size w W) => calls_on hb (of3 k hk f t g h i m v A A' n n' c c' W)
  have hs := fun W (hb : Below w.heap.size w W) => calls_on hb (shape3_any k f t g h i m v A A' n n' c c' W hn hn')
  have HO := Lib.hid ho
  have HS := Lib.hid hs
  clear ho hs 
  have hm : ∀ w, (method 500 274 (.agg #[.int .i64 k, .int .i64 f, .int .i64 t, .int .i64 g, .int .i64 h, .int .i64 i, .int .i64 m, .int .i64 v, .slice A n c, .slice A' n' c']) "stet/step.shape").run Tryz.prog w = .ok (266, .agg #[.int .i64 k, .int .i64 f, .int .i64 t, .int .i64 g, .int .i64 h, .int .i64 i, .int .i64 m, .int .i64 v, .slice A n c, .slice A' n' c']) w := fun _ => by kernel_rfl
  go_enter Tryz.func57, Tryz.ntmps57
  go_wp2_with (first
    | (go_at_call 118; (refine (HO.out _ belowA).mono ?_); rintro e w1 ⟨rfl, hb1, hz1, hx1⟩; have k1 := (Bk.new w 45 #[.int .i64 k, .int .i64 f, .int .i64 t, .int .i64 g, .int .i64 h, .int .i64 i, .int .i64 m, .int .i64 v, .slice A n c, .slice A' n' c']).ext hx1; have d1 := k1.cell 1; have d2 := k1.cell 2; have l1 := def_lt' k1; dsimp at d1 d2)
    | (go_at_call 266; (refine (HS.out _ hb1).mono ?_); rintro e w2 ⟨rfl, hb2, hz2, hx2⟩))
  all_goals go_ret
  all_goals first
    | exact ⟨ret_bool (by rw [show boxes f t = true from decide_eq_true (by omega), Bool.true_and]), hb2⟩
    | exact ⟨ret_bool (by rw [show boxes f t = false from decide_eq_false (by omega), Bool.false_and]), hb1⟩
set_option maxRecDepth 100000 in
set_option maxHeartbeats 2000000 in
theorem shape_5 (f t g h i m v : Int) (A A' : Option Addr) (n n' c c' : Nat) (w : World) (st : List Mk) (hn : n ≤ maxLen) (hn' : n' ≤ maxLen) (hrd : Rd w w.heap.size 8 A' n' (mks st)) :
    Calls Tryz.prog 57 #[.agg #[.int .i64 5, .int .i64 f, .int .i64 t, .int .i64 g, .int .i64 h, .int .i64 i, .int .i64 m, .int .i64 v, .slice A n c, .slice A' n' c']] w fun e w' => e = .returned (.bool (boxes f t && sh5 f t g h i m v n n')) ∧ Below w.heap.size w w' := by
  have ho := fun W (hb : Below w.heap.size w W) => calls_on hb (of5 f t g h i m v A A' n n' c c' W)
  have hs := fun W (hb : Below w.heap.size w W) (h0 : 0 ≤ f) (h1 : f ≤ t) (h2 : t ≤ 1073741824) => calls_on hb (shape5_any 5 f t g h i m v A A' n n' c c' W st hn hn' ((hrd.below hb).more hb.size) h0 h2 h1)
  have HO := Lib.hid ho
  have HS := Lib.hid hs
  clear ho hs hrd
  have hm : ∀ w, (method 500 275 (.agg #[.int .i64 5, .int .i64 f, .int .i64 t, .int .i64 g, .int .i64 h, .int .i64 i, .int .i64 m, .int .i64 v, .slice A n c, .slice A' n' c']) "stet/step.shape").run Tryz.prog w = .ok (271, .agg #[.int .i64 5, .int .i64 f, .int .i64 t, .int .i64 g, .int .i64 h, .int .i64 i, .int .i64 m, .int .i64 v, .slice A n c, .slice A' n' c']) w := fun _ => by kernel_rfl
  go_enter Tryz.func57, Tryz.ntmps57
  go_wp2_with (first
    | (go_at_call 118; (refine (HO.out _ belowA).mono ?_); rintro e w1 ⟨rfl, hb1, hz1, hx1⟩; have k1 := (Bk.new w 45 #[.int .i64 5, .int .i64 f, .int .i64 t, .int .i64 g, .int .i64 h, .int .i64 i, .int .i64 m, .int .i64 v, .slice A n c, .slice A' n' c']).ext hx1; have d1 := k1.cell 1; have d2 := k1.cell 2; have l1 := def_lt' k1; dsimp at d1 d2)
    | (go_at_call 271; (refine (HS.out _ hb1 (by assumption) (by assumption) (by assumption)).mono ?_); rintro e w2 ⟨rfl, hb2, hz2, hx2⟩))
  all_goals go_ret
  all_goals first
    | exact ⟨ret_bool (by rw [show boxes f t = true from decide_eq_true (by omega), Bool.true_and]), hb2⟩
    | exact ⟨ret_bool (by rw [show boxes f t = false from decide_eq_false (by omega), Bool.false_and]), hb1⟩
set_option maxRecDepth 100000 in
set_option maxHeartbeats 2000000 in
theorem shape_0 (k : Int) (hk : k < 1 ∨ 5 < k) (f t g h i m v : Int) (A A' : Option Addr) (n n' c c' : Nat) (w : World) :
    Calls Tryz.prog 57 #[.agg #[.int .i64 k, .int .i64 f, .int .i64 t, .int .i64 g, .int .i64 h, .int .i64 i, .int .i64 m, .int .i64 v, .slice A n c, .slice A' n' c']] w fun e w' => e = .returned (.bool false) ∧ Below w.heap.size w w' := by
  have ho := fun W (hb : Below w.heap.size w W) => calls_on hb (of0 k hk f t g h i m v A A' n n' c c' W)
  have HO := Lib.hid ho
  clear ho hk
  go_enter Tryz.func57, Tryz.ntmps57
  go_wp2_with (go_at_call 118; (refine (HO.out _ belowA).mono ?_); rintro e w1 ⟨rfl, hb1, hz1, hx1⟩)
  go_ret
  exact ⟨rfl, hb1⟩
/-- which steps' shapes are right -/
def shB (k f t g h i m v : Int) (n n' : Nat) : Bool :=
  boxes f t && (if k = 1 then sh1 g h i m v n n' else if k = 2 then sh2 f t g h i m v n n' else if k = 3 ∨ k = 4 then sh3 g h i n n' else if k = 5 then sh5 f t g h i m v n n' else false)
theorem shape_any (k f t g h i m v : Int) (A A' : Option Addr) (n n' c c' : Nat) (w : World) (sl : List Tok) (st : List Mk) (hn : n ≤ maxLen) (hn' : n' ≤ maxLen) (hrd : Rd w w.heap.size 12 A n (toks sl)) (hrd' : Rd w w.heap.size 8 A' n' (mks st)) :
    Calls Tryz.prog 57 #[.agg #[.int .i64 k, .int .i64 f, .int .i64 t, .int .i64 g, .int .i64 h, .int .i64 i, .int .i64 m, .int .i64 v, .slice A n c, .slice A' n' c']] w fun e w' => e = .returned (.bool (shB k f t g h i m v n n')) ∧ Below w.heap.size w w' := by
  unfold shB
  by_cases h1 : k = 1
  · subst h1; exact shape_1 f t g h i m v A A' n n' c c' w sl hn hn' hrd
  rw [if_neg h1]
  by_cases h2 : k = 2
  · subst h2; exact shape_2 f t g h i m v A A' n n' c c' w hn
  rw [if_neg h2]
  by_cases h3 : k = 3 ∨ k = 4
  · rw [if_pos h3]; exact shape_3 k h3 f t g h i m v A A' n n' c c' w hn hn'
  rw [if_neg h3]
  by_cases h5 : k = 5
  · subst h5; exact shape_5 f t g h i m v A A' n n' c c' w st hn hn' hrd'
  rw [if_neg h5, Bool.and_false]
  exact shape_0 k (by omega) f t g h i m v A A' n n' c c' w
set_option maxRecDepth 100000 in
set_option maxHeartbeats 4000000 in
theorem rshape_any (k f t g h i m v : Int) (A A' : Option Addr) (n n' c c' : Nat) (w : World) (hn : n ≤ 20000) (hn' : n' ≤ 20000) :
    Calls Tryz.prog 65 #[.agg #[.int .i64 k, .int .i64 f, .int .i64 t, .int .i64 g, .int .i64 h, .int .i64 i, .int .i64 m, .int .i64 v, .slice A n c, .slice A' n' c']] w fun e w' => e = .returned (.bool (shB k f t g h i m v n n')) ∧ Below w.heap.size w w' := by
  by_cases hbox : 0 ≤ f ∧ f ≤ t ∧ t ≤ 1073741824
  · obtain ⟨h0, h1, h2⟩ := hbox
    have e3 : ¬ (20000 : Int) < n := by omega
    have e4 : ¬ (20000 : Int) < n' := by omega
    have e5 : ¬ f < 0 := by omega
    have e6 : ¬ t < f := by omega
    have e7 : ¬ 1073741824 < t := by omega
    have e8 : IntKind.i64.wrap (t - f) = t - f := IntWalk.i64_in _ (by omega)
    have hbx : boxes f t = true := decide_eq_true ⟨h0, h1, h2⟩
    have HN := Lib.hid hn
    have HN' := Lib.hid hn'
    have H0 := Lib.hid h0
    have H1 := Lib.hid h1
    have H2 := Lib.hid h2
    have HBX := Lib.hid hbx
    clear hn hn' h0 h1 h2 hbx
    go_enter Tryz.func65, Tryz.ntmps65
    go_upto_region 3 with fail
    go_cut [3] (fun b wx => b = .bool (decide (¬ (g = 0 ∧ h = 0 ∧ i = 0))) ∧ wx = w.alloc (.cells #[.int .i64 k, .int .i64 f, .int .i64 t, .int .i64 g, .int .i64 h, .int .i64 i, .int .i64 m, .int .i64 v, .slice A n c, .slice A' n' c'] 45))
    case first =>
      have hc : ((g != 0) = true) ∨ (g = 0 ∧ (h != 0) = true) ∨ (g = 0 ∧ h = 0 ∧ (i != 0) = true) ∨ (g = 0 ∧ h = 0 ∧ i = 0) := by
        simp only [bne_iff_ne, ne_eq]; omega
      rcases hc with g1 | ⟨rfl, g1⟩ | ⟨rfl, rfl, g1⟩ | ⟨rfl, rfl, rfl⟩
      all_goals
        go_wp2
        go_meet
      · exact ⟨congrArg Value.bool (decide_eq_true (by intro h; rw [h.1] at g1; cases g1)).symm, rfl⟩
      · exact ⟨congrArg Value.bool (decide_eq_true (by intro h; rw [h.2.1] at g1; cases g1)).symm, rfl⟩
      · exact ⟨congrArg Value.bool (decide_eq_true (by intro h; rw [h.2.2] at g1; cases g1)).symm, rfl⟩
      · exact ⟨rfl, rfl⟩
    case rest =>
      obtain ⟨rfl, rfl⟩ := hcut
      obtain ⟨gB, hgB⟩ : ∃ b, decide (¬ (g = 0 ∧ h = 0 ∧ i = 0)) = b := ⟨_, rfl⟩
      rw [hgB]
      have HG := Lib.hid hgB
      clear hgB
      go_upto_region 4 with fail
      go_cut [4] (fun b wx => b = .bool (decide (¬ (m = 0 ∧ v = 0))) ∧ wx = w.alloc (.cells #[.int .i64 k, .int .i64 f, .int .i64 t, .int .i64 g, .int .i64 h, .int .i64 i, .int .i64 m, .int .i64 v, .slice A n c, .slice A' n' c'] 45))
      case first =>
        have hc : ((m != 0) = true) ∨ (m = 0 ∧ (v != 0) = true) ∨ (m = 0 ∧ v = 0) := by
          simp only [bne_iff_ne, ne_eq]; omega
        rcases hc with g1 | ⟨rfl, g1⟩ | ⟨rfl, rfl⟩
        all_goals
          go_wp2
          go_meet
        · exact ⟨congrArg Value.bool (decide_eq_true (by intro h; rw [h.1] at g1; cases g1)).symm, rfl⟩
        · exact ⟨congrArg Value.bool (decide_eq_true (by intro h; rw [h.2] at g1; cases g1)).symm, rfl⟩
        · exact ⟨rfl, rfl⟩
      case rest =>
        obtain ⟨rfl, rfl⟩ := hcut
        obtain ⟨mB, hmB⟩ : ∃ b, decide (¬ (m = 0 ∧ v = 0)) = b := ⟨_, rfl⟩
        rw [hmB]
        have HM := Lib.hid hmB
        clear hmB
        have hk : k = 1 ∨ k = 2 ∨ k = 3 ∨ k = 4 ∨ k = 5 ∨ (k < 1 ∨ 5 < k) := by omega
        rcases hk with rfl | rfl | rfl | rfl | rfl | hk
        · cases gB <;> cases mB
          all_goals
            go_wp2
            go_ret
            exact ⟨ret_bool (by have a := HG.out; have b := HM.out; have c := HBX.out; have d := HN.out; have d' := HN'.out; have x := H0.out; have y := H1.out; have z := H2.out; unfold shB; rw [c]; rw [Bool.eq_iff_iff]; simp [sh1] at a b ⊢; omega), belowA⟩
        · cases mB
          all_goals
            go_wp2
            all_goals go_ret
            all_goals exact ⟨ret_bool (by have a := HG.out; have b := HM.out; have c := HBX.out; have d := HN.out; have d' := HN'.out; have x := H0.out; have y := H1.out; have z := H2.out; unfold shB; rw [c]; rw [Bool.eq_iff_iff]; simp [sh2] at a b ⊢; omega), belowA⟩
        · cases gB
          all_goals
            go_wp2
            all_goals go_ret
            all_goals exact ⟨ret_bool (by have a := HG.out; have b := HM.out; have c := HBX.out; have d := HN.out; have d' := HN'.out; have x := H0.out; have y := H1.out; have z := H2.out; unfold shB; rw [c]; rw [Bool.eq_iff_iff]; simp [sh3] at a b ⊢; omega), belowA⟩
        · cases gB
          all_goals
            go_wp2
            all_goals go_ret
            all_goals exact ⟨ret_bool (by have a := HG.out; have b := HM.out; have c := HBX.out; have d := HN.out; have d' := HN'.out; have x := H0.out; have y := H1.out; have z := H2.out; unfold shB; rw [c]; rw [Bool.eq_iff_iff]; simp [sh3] at a b ⊢; omega), belowA⟩
        · cases gB <;> cases mB
          all_goals
            go_wp2
            all_goals go_ret
            all_goals exact ⟨ret_bool (by have a := HG.out; have b := HM.out; have c := HBX.out; have d := HN.out; have d' := HN'.out; have x := H0.out; have y := H1.out; have z := H2.out; unfold shB; rw [c]; rw [Bool.eq_iff_iff]; simp [sh5] at a b ⊢; omega), belowA⟩
        · have e11 : (k == 1) = false := by simp; omega
          have e12 : (k == 2) = false := by simp; omega
          have e13 : (k == 3) = false := by simp; omega
          have e14 : (k == 4) = false := by simp; omega
          have e15 : (k == 5) = false := by simp; omega
          have HK := Lib.hid hk
          clear hk
          go_wp2
          go_ret
          exact ⟨ret_bool (by have hk := HK.out; unfold shB; rw [if_neg (by omega), if_neg (by omega), if_neg (by omega), if_neg (by omega), Bool.and_false]), belowA⟩
  · have hres : shB k f t g h i m v n n' = false := by
      unfold shB boxes
      rw [decide_eq_false hbox, Bool.false_and]
    rw [hres]
    have hc : f < 0 ∨ (¬ f < 0 ∧ t < f) ∨ (¬ f < 0 ∧ ¬ t < f ∧ 1073741824 < t) := by omega
    clear hres hbox
    rcases hc with e1 | ⟨e1, e2⟩ | ⟨e1, e2, e3⟩
    all_goals
      go_enter Tryz.func65, Tryz.ntmps65
      go_wp2
      go_ret
      exact ⟨rfl, belowA⟩
end Go.Proofs.YtmacfoebfpljoaaGreat
namespace Go.Proofs.YtmacfoebfpljoaaGreat
open Go.RowKit
set_option linter.unusedVariables false
set_option maxRecDepth 100000 in
set_option maxHeartbeats 8000000 in
theorem around16_any (A : Option Addr) (n c a : Nat) (l : List Tok) (w : World) (hr : Rd w w.heap.size 12 A n (toks l)) (hn : n ≤ 65536) (ha : a ≤ n) : Calls Tryz.prog 161 #[.slice A n c, .int .i64 a] w (NsOut a w) := by
  have hsh := fun (q : Nat) (hq : q < n) W (hb : Below w.heap.size w W) => shut14_any A n c q l W ((hr.below hb).more hb.size) (by omega) hq
  have HSH := Lib.hid hsh
  have H := Lib.hid hr
  clear hsh hr
  go_enter Tryz.func161, Tryz.ntmps161
  go_wp2
  go_loopw [5, 6] (fun v j wr => ∃ (q : Nat) (cs : List Nat), q ≤ a ∧ j = .int .i64 q ∧ Hid (Ris q cs) ∧ Hid (wr.ownsRow w.heap.size 3 1 v cs.length (nts cs)) ∧ cs.length ≤ q ∧ Below w.heap.size w wr) (fun _ j _ => a - (intOf j).toNat)
  case atStart => exact ⟨0, [], by omega, rfl, Lib.hid (Ris.nil _), Lib.hid (World.ownsRow_nil _ _ _ _), by simp, Below.refl _ _⟩
  case round =>
    obtain ⟨q, cs, hq, rfl, hR, hown, hcl, hbr⟩ := hrel
    have hzr := hbr.size
    obtain ⟨A1, c1, rfl, -, -, -, -⟩ := own_form hown.out
    by_cases hlt : q < a
    · have e3 : (q : Int) < a := by omega
      have e4 : (q : Int) < n := by omega
      have e5 : (0 : Int) ≤ q := by omega
      have hqn : q < n := by omega
      obtain ⟨tb, tq, tk, -, rfl, htb, htc⟩ := tok_at ((H.out.below hbr).more hbr.size) hqn
      have d0 : wr.cell? ⟨tb, tq + q * 12, none⟩ = some (.int .i64 tk.k) := htc 0 (by omega)
      generalize tk.k = k0 at *
      clear htc
      cases e6 : (k0 == 1) with
      | false =>
        go_wp2
        go_roundw
        case rel => exact ⟨q + 1, cs, by omega, by go_num, Lib.hid (hR.out.mono (by omega)), hown, by omega, hbr⟩
        case measure => simp [intOf]; omega
      | true =>
        go_wp2_with (go_at_call 164; fail)
        refine (HSH.out q hqn _ hbr).mono ?_
        rintro e w1 ⟨r, rfl, -, -, -, hb1⟩
        have hb01 := hbr.trans (hb1.mono hzr)
        have hz1 := hb01.size
        have hown1 := own_below hown.out hb1
        by_cases hge : (a : Int) ≤ r
        · go_wp2_with (at_builtin; ((refine app_one Tryz.underlying51 info_in rfl (by decide) w1 w.heap.size _ cs.length _ hown1 (by unfold maxLen; omega) (by omega) hz1 _ rfl (by simp [Value.oneCell']) rfl _ _ rfl rfl rfl ?_); intro g4 cap4 w4 hown4 hgr4 hat4 hlt4))
          have hb4 := below_own hb01 hown1 hgr4 hz1 (Nat.le_refl _)
          go_roundw
          case rel => exact ⟨q + 1, cs ++ [q], by omega, by go_num, Lib.hid ((hR.out.mono (by omega)).snoc (fun y hy => hR.out.2 y hy) (by omega)), Lib.hid (by rw [List.length_append, nts_snoc]; exact hown4), by simp; omega, hb4⟩
          case measure => simp [intOf]; omega
        · go_wp2
          go_roundw
          case rel => exact ⟨q + 1, cs, by omega, by go_num, Lib.hid (hR.out.mono (by omega)), Lib.hid hown1, by omega, hb01⟩
          case measure => simp [intOf]; omega
    · obtain rfl : q = a := by omega
      go_wp2
      exact bodyPost_ret (v := .slice A1 cs.length c1) (by simp [results, Tryz.results161, go_sem]) rfl ⟨_, rfl, ⟨cs, hown.out, hR.out⟩, hbr⟩
set_option maxRecDepth 100000 in
set_option maxHeartbeats 4000000 in
theorem parent25_any (A : Option Addr) (n c a : Nat) (l : List Tok) (w : World) (hr : Rd w w.heap.size 12 A n (toks l)) (hn : n ≤ 65536) (ha : a ≤ n) : Calls Tryz.prog 113 #[.slice A n c, .int .i64 a] w (AnyI w) := by
  have har := around16_any A n c a l w hr hn ha
  have HAR := Lib.hid har
  have H := Lib.hid hr
  clear har hr
  go_enter Tryz.func113, Tryz.ntmps113
  go_wp2_with (go_at_call 161; fail)
  refine HAR.out.mono ?_
  rintro e w1 ⟨v1, rfl, hv1, hb1⟩
  obtain ⟨KA, kc, ks, rfl, hks, hkr, -⟩ := hv1.form
  obtain ⟨kn, hkn⟩ : ∃ kn, kn = ks.length := ⟨_, rfl⟩
  have hkl := hks.len
  rw [← hkn] at hkr hkl ⊢
  clear hv1 HAR hkn
  rcases Nat.eq_zero_or_pos kn with rfl | hpos
  · go_wp2
    go_ret
    exact ⟨⟨_, rfl⟩, hb1⟩
  · obtain ⟨k', rfl⟩ : ∃ k', kn = k' + 1 := ⟨kn - 1, by omega⟩
    obtain ⟨kb, ko, x, rfl, hkb, hx, hxc⟩ := hkr.nt_at (show k' < k' + 1 by omega)
    have hxa := hks.2 x (List.mem_of_getElem? hx)
    obtain ⟨tb, tq, tk, -, rfl, htb, htc⟩ := tok_at ((H.out.below hb1).more hb1.size) (show x < n by omega)
    have d1 : w1.cell? ⟨tb, tq + x * 12 + 1, none⟩ = some (.int .i64 tk.t) := htc 1 (by omega)
    generalize tk.t = t0 at *
    have e1 : ((k' : Int) + 1 == 0) = false := beq_false_of_ne (by omega)
    have e2 : (0 : Int) ≤ k' := by omega
    have e3 : (k' : Int) ≤ 65536 := by omega
    have e4 : (x : Int) < n := by omega
    have e5 : (0 : Int) ≤ x := by omega
    clear htc hx hks hkr
    go_wp2
    go_ret
    exact ⟨⟨_, rfl⟩, hb1⟩
section
variable (base : Nat) (nv mv : Value) (ns : List Nd) (ms : List Mr) (PA TA EA : Option Addr) (pn pc tn tc en ec : Nat) (w : World)
/-- a schema, a step -/
structure XI (w wr : World) (S M : Array Value) : Prop where
  s : Bk wr w.heap.size 32 S
  m : Bk wr (w.heap.size + 1) 45 M
  b : Below w.heap.size w wr
omit w in
theorem XI.below {w wr w' : World} {S M : Array Value} (h : XI w wr S M) (hb : Below wr.heap.size wr w') : XI w w' S M := ⟨h.s.ext hb, h.m.ext hb, h.b.trans (hb.mono h.b.size)⟩
/-- a step that may be has the right shape -/
def RightOut (sh : Bool) (w : World) (e : Ending) (w' : World) : Prop := ∃ b : Bool, e = .returned (.bool b) ∧ (b = true → sh = true) ∧ Below w.heap.size w w'
theorem mk8_at {w : World} {n k : Nat} {A : Option Addr} {l : List Mk} (h : Rd w w.heap.size 8 A n (mks l)) (hk : k < n) : ∃ (b o : Nat) (a0 a1 a2 a3 a4 a5 a6 a7 : Int), A = some ⟨b, o, none⟩ ∧ b < w.heap.size ∧ ∀ i, i < 8 → w.cell? ⟨b, o + k * 8 + i, none⟩ = (Mk.mk a0 a1 a2 a3 a4 a5 a6 a7).cells[i]? := by
  have hl := h.mlen
  have hx : l[k]? = some l[k] := List.getElem?_eq_getElem (by omega)
  obtain ⟨b, o, e, hb, hc⟩ := Rd.el Mk.cells (fun _ => rfl) h hl hx
  exact ⟨b, o, _, _, _, _, _, _, _, _, e, hb, hc⟩
theorem mk8 {w : World} {b o : Nat} {a0 a1 a2 a3 a4 a5 a6 a7 : Int} (hc : ∀ i, i < 8 → w.cell? ⟨b, o + i, none⟩ = (Mk.mk a0 a1 a2 a3 a4 a5 a6 a7).cells[i]?) : w.cell? ⟨b, o, none⟩ = some (.int .u16 a0) ∧ w.cell? ⟨b, o + 1, none⟩ = some (.int .u16 a1) ∧ w.cell? ⟨b, o + 2, none⟩ = some (.int .u16 a2) ∧ w.cell? ⟨b, o + 3, none⟩ = some (.int .u16 a3) ∧ w.cell? ⟨b, o + 4, none⟩ = some (.int .u16 a4) ∧ w.cell? ⟨b, o + 5, none⟩ = some (.int .u16 a5) ∧ w.cell? ⟨b, o + 6, none⟩ = some (.int .u16 a6) ∧ w.cell? ⟨b, o + 7, none⟩ = some (.int .u16 a7) :=
  ⟨hc 0 (by omega), hc 1 (by omega), hc 2 (by omega), hc 3 (by omega), hc 4 (by omega), hc 5 (by omega), hc 6 (by omega), hc 7 (by omega)⟩
set_option maxRecDepth 100000 in
set_option maxHeartbeats 8000000 in
theorem right25_any (k f t g h i m v : Int) (XA YA : Option Addr) (xn yn xc yc : Nat) (sl : List Tok) (st : List Mk) (hD : DeclIn w base nv mv ns ms) (hxn : xn ≤ 20000) (hyn : yn ≤ 20000) (hx : Rd w w.heap.size 12 XA xn (toks sl)) (hy : Rd w w.heap.size 8 YA yn (mks st)) : Calls Tryz.prog 54 #[.agg #[nv, mv, .slice PA pn pc, .slice TA tn tc, .slice EA en ec], .agg #[.int .i64 k, .int .i64 f, .int .i64 t, .int .i64 g, .int .i64 h, .int .i64 i, .int .i64 m, .int .i64 v, .slice XA xn xc, .slice YA yn yc]] w (RightOut (shB k f t g h i m v xn yn) w) := by
  obtain ⟨NA, nc, rfl, -, -, -, -⟩ := own_form hD.n
  obtain ⟨MA, mc, rfl, -, -, -, -⟩ := own_form hD.m
  have hsp := fun W => rshape_any k f t g h i m v XA YA xn yn xc yc W hxn hyn
  have hwr := fun W (hb : Below w.heap.size w W) => wrong13_any base _ _ ns ms PA TA EA pn pc tn tc en ec W XA xn xc sl (hD.below hb) ((hx.below hb).more hb.size) (by omega)
  have hr2 := fun a0 a1 a2 a3 a4 a5 a6 a7 W (hb : Below w.heap.size w W) => right12_any base _ _ ns ms PA TA EA pn pc tn tc en ec W a0 a1 a2 a3 a4 a5 a6 a7 (hD.below hb)
  have hmy := fun W (hb : Below w.heap.size w W) => may12_any base _ _ ns ms PA TA EA pn pc tn tc en ec W m v (hD.below hb)
  have HSP := Lib.hid hsp
  have HWR := Lib.hid hwr
  have HR2 := Lib.hid hr2
  have HMY := Lib.hid hmy
  have HY := Lib.hid hy
  obtain ⟨sh, hsh⟩ : ∃ sh, sh = shB k f t g h i m v xn yn := ⟨_, rfl⟩
  rw [← hsh] at HSP ⊢
  clear hsp hwr hr2 hmy hD hx hy hsh
  go_enter Tryz.func54, Tryz.ntmps54
  go_upto_region 1 with fail
  have hI0 : XI w ((w.alloc (.cells #[.slice NA ns.length nc, .slice MA ms.length mc, .slice PA pn pc, .slice TA tn tc, .slice EA en ec] 32)).alloc (.cells #[.int .i64 k, .int .i64 f, .int .i64 t, .int .i64 g, .int .i64 h, .int .i64 i, .int .i64 m, .int .i64 v, .slice XA xn xc, .slice YA yn yc] 45)) #[.slice NA ns.length nc, .slice MA ms.length mc, .slice PA pn pc, .slice TA tn tc, .slice EA en ec] #[.int .i64 k, .int .i64 f, .int .i64 t, .int .i64 g, .int .i64 h, .int .i64 i, .int .i64 m, .int .i64 v, .slice XA xn xc, .slice YA yn yc] := ⟨(Bk.new w _ _).alloc _, Bk.made _ _ (by simp), belowA⟩
  generalize (w.alloc (.cells #[.slice NA ns.length nc, .slice MA ms.length mc, .slice PA pn pc, .slice TA tn tc, .slice EA en ec] 32)).alloc (.cells #[.int .i64 k, .int .i64 f, .int .i64 t, .int .i64 g, .int .i64 h, .int .i64 i, .int .i64 m, .int .i64 v, .slice XA xn xc, .slice YA yn yc] 45) = w0 at *
  obtain ⟨x0, x1, x2, x3, x4, x5, x6, x7, x8, x9⟩ := bk10 hI0.m
  go_wp2_with (go_at_call 65; fail)
  refine (HSP.out _).mono ?_
  rintro e w1 ⟨rfl, hb1⟩
  have hI1 := Lib.hid (hI0.below hb1)
  clear x0 x1 x2 x3 x4 x5 x6 x7 x8 x9 hI0 hb1
  cases sh with
  | false =>
    go_wp2
    go_ret
    exact ⟨_, rfl, (fun h => by cases h), hI1.out.b⟩
  | true =>
    obtain ⟨x0, x1, x2, x3, x4, x5, x6, x7, x8, x9⟩ := bk10 hI1.out.m
    obtain ⟨s0, s1, s2, s3, s4⟩ := bk5 hI1.out.s
    go_wp2_with (go_at_call 108; fail)
    refine (HWR.out _ hI1.out.b).mono ?_
    rintro e w2 ⟨⟨wv, rfl⟩, hb2⟩
    have hI2 := Lib.hid (hI1.out.below hb2)
    clear x0 x1 x2 x3 x4 x5 x6 x7 x8 x9 s0 s1 s2 s3 s4 hI1 hb2
    by_cases hwv : 0 ≤ wv
    · go_wp2
      go_ret
      exact ⟨_, rfl, (fun h => rfl), hI2.out.b⟩
    go_wp2
    go_loopw [5] (fun j wr => ∃ q : Nat, q ≤ yn ∧ j = .int .i64 q ∧ Hid (XI w wr #[.slice NA ns.length nc, .slice MA ms.length mc, .slice PA pn pc, .slice TA tn tc, .slice EA en ec] #[.int .i64 k, .int .i64 f, .int .i64 t, .int .i64 g, .int .i64 h, .int .i64 i, .int .i64 m, .int .i64 v, .slice XA xn xc, .slice YA yn yc])) (fun j _ => yn - (intOf j).toNat)
    case atStart => exact ⟨0, by omega, rfl, hI2⟩
    case round =>
      clear hI2
      obtain ⟨q, hq, rfl, hI⟩ := hrel
      by_cases hlt : q < yn
      · have e3 : (q : Int) < yn := by omega
        obtain ⟨yb, yo, a0, a1, a2, a3, a4, a5, a6, a7, rfl, hyb, hyc⟩ := mk8_at HY.out hlt
        have hF : ∀ W, XI w W #[.slice NA ns.length nc, .slice MA ms.length mc, .slice PA pn pc, .slice TA tn tc, .slice EA en ec] #[.int .i64 k, .int .i64 f, .int .i64 t, .int .i64 g, .int .i64 h, .int .i64 i, .int .i64 m, .int .i64 v, .slice XA xn xc, .slice (some ⟨yb, yo, none⟩) yn yc] → (W.cell? ⟨w.heap.size, 0, none⟩ = some (.slice NA ns.length nc) ∧ W.cell? ⟨w.heap.size, 1, none⟩ = some (.slice MA ms.length mc) ∧ W.cell? ⟨w.heap.size, 2, none⟩ = some (.slice PA pn pc) ∧ W.cell? ⟨w.heap.size, 3, none⟩ = some (.slice TA tn tc) ∧ W.cell? ⟨w.heap.size, 4, none⟩ = some (.slice EA en ec)) ∧ W.cell? ⟨w.heap.size + 1, 9, none⟩ = some (.slice (some ⟨yb, yo, none⟩) yn yc) ∧ _ := fun W h => ⟨bk5 h.s, h.m.cell 9, mk8 (fun i hi => (h.b.cell (p := ⟨yb, yo + q * 8 + i, none⟩) hyb).trans (hyc i hi))⟩
        have HF := Lib.hid hF
        clear hF hyc
        obtain ⟨x0, x1, x2, x3, x4, x5, x6, x7, x8, x9⟩ := bk10 hI.out.m
        go_upto_region 6 with fail
        clear x0 x1 x2 x3 x4 x5 x6 x7 x8 x9
        refine wp_normal ?_
        refine wp_region_held_drew (S := fun W => XI w W #[.slice NA ns.length nc, .slice MA ms.length mc, .slice PA pn pc, .slice TA tn tc, .slice EA en ec] #[.int .i64 k, .int .i64 f, .int .i64 t, .int .i64 g, .int .i64 h, .int .i64 i, .int .i64 m, .int .i64 v, .slice XA xn xc, .slice (some ⟨yb, yo, none⟩) yn yc]) (by kernel_rfl) (show XI w _ _ _ from ⟨hI.out.s.drew, hI.out.m.drew, hI.out.b.drew⟩) (fun hHeld => ?_)
        (refine tkH 0 ?_; refine tkH 1 ?_; refine tkH 2 ?_; refine tkH 3 ?_; refine tkH 4 ?_; refine tkH 5 ?_)
        refine nxH 6 (fun K hK => ?_)
        go_simp
        go_at_call 109
        refine (HR2.out a0 a1 a2 a3 a4 a5 a6 a7 _ hHeld.b).mono ?_
        rintro e w3 ⟨⟨b3, rfl⟩, hb3⟩
        refine hK.out _ _ (hHeld.below hb3) (fun hHeld => ?_)
        clear hK K; refine puH ?_
        (refine tkH 7 ?_)
        refine wpAnyH_done (by kernel_rfl) ?_ _
        cases b3 with
        | true =>
          go_wp2
          go_roundw
          case rel => exact ⟨q + 1, by omega, by go_num, Lib.hid hHeld⟩
          case measure => simp [intOf]; omega
        | false =>
          go_wp2
          go_ret
          exact ⟨_, rfl, (fun h => rfl), hHeld.b⟩
      · obtain rfl : q = yn := by omega
        obtain ⟨x0, x1, x2, x3, x4, x5, x6, x7, x8, x9⟩ := bk10 hI.out.m
        obtain ⟨s0, s1, s2, s3, s4⟩ := bk5 hI.out.s
        have hk : (k != 3) = false ∨ ((k != 3) = true ∧ (k != 4) = false) ∨ ((k != 3) = true ∧ (k != 4) = true) := by cases (k != 3) <;> cases (k != 4) <;> simp
        rcases hk with e | ⟨e, e'⟩ | ⟨e, e'⟩
        · go_wp2_with (go_at_call 110; fail)
          refine (HMY.out _ hI.out.b).mono ?_
          rintro e w3 ⟨b3, rfl, -, hb3⟩
          go_wp2
          go_ret
          exact ⟨_, rfl, (fun h => rfl), (hI.out.below hb3).b⟩
        · go_wp2_with (go_at_call 110; fail)
          refine (HMY.out _ hI.out.b).mono ?_
          rintro e w3 ⟨b3, rfl, -, hb3⟩
          go_wp2
          go_ret
          exact ⟨_, rfl, (fun h => rfl), (hI.out.below hb3).b⟩
        · go_wp2
          go_ret
          exact ⟨_, rfl, (fun h => rfl), hI.out.b⟩
end
end Go.Proofs.YtmacfoebfpljoaaGreat
namespace Go.Proofs.YtmacfoebfpljoaaGreat
open Go.RowKit
theorem rd_new {W : World} {b : Nat} (t : TypeId) (cs : Array Value) (n s : Nat) (hb : W.heap.size = b) (h : cs.size = n * s) : Rd (W.alloc (.cells cs t)) (W.alloc (.cells cs t)).heap.size s (some ⟨b, 0, none⟩) n cs.toList := by
  subst hb
  refine ⟨by simpa using h, fun _ => ⟨W.heap.size, 0, rfl, by simp, fun j u hu => ?_⟩⟩
  rw [cell_of_row _ _ _ _ _ _ (heap_alloc_new W _)]
  simpa using hu
/-- the map of a step whose shape is right -/
def mapS (k f t g h i : Int) (n : Nat) : List Rg :=
  if k = 1 ∨ (k = 2 ∧ g = h) then [⟨f, t - f, n⟩] else if k = 2 then [⟨f, g - f, i⟩, ⟨h, t - h, n - i⟩] else []
/-- a map comes out -/
abbrev Maps (w : World) (l : List Rg) (e : Ending) (w' : World) : Prop := ∃ A2 c2, e = .returned (.slice A2 l.length c2) ∧ Rd w' w'.heap.size 3 A2 l.length (rgs l) ∧ (A2 = none → l.length = 0) ∧ Below w.heap.size w w'
theorem maps_nil (w w' : World) (hb : Below w.heap.size w w') : Maps w [] (.returned (.slice none 0 0)) w' := ⟨none, 0, rfl, Rd.nil_ _ _ _ _, fun _ => rfl, hb⟩
set_option maxRecDepth 100000 in
set_option maxHeartbeats 1000000 in
theorem ranges_1 (k : Int) (f t g h i m v : Int) (A A' : Option Addr) (n n' c c' : Nat) (w : World) (hb : 0 ≤ f ∧ f ≤ t ∧ t ≤ 1073741824) :
    Calls Tryz.prog 254 #[.agg #[.int .i64 k, .int .i64 f, .int .i64 t, .int .i64 g, .int .i64 h, .int .i64 i, .int .i64 m, .int .i64 v, .slice A n c, .slice A' n' c']] w (Maps w [⟨f, t - f, n⟩]) := by
  have e0 : IntKind.i64.wrap (t - f) = t - f := IntWalk.i64_in _ (by omega)
  clear hb
  go_enter Tryz.func254, Tryz.ntmps254
  go_wp2
  go_ret
  exact ⟨_, _, rfl, rd_new _ #[.int .i64 f, .int .i64 (t - f), .int .i64 (n : Int)] 1 3 (by simp) rfl, by simp, belowA⟩
set_option maxRecDepth 100000 in
set_option maxHeartbeats 1000000 in
theorem ranges_2 (f t g h i m v : Int) (A A' : Option Addr) (n n' c c' : Nat) (w : World) (hb : 0 ≤ f ∧ f ≤ t ∧ t ≤ 1073741824) (hg : f ≤ g ∧ g ≤ h ∧ h ≤ t ∧ 0 ≤ i ∧ i ≤ n) (hn : n ≤ 20000) :
    Calls Tryz.prog 259 #[.agg #[.int .i64 2, .int .i64 f, .int .i64 t, .int .i64 g, .int .i64 h, .int .i64 i, .int .i64 m, .int .i64 v, .slice A n c, .slice A' n' c']] w (Maps w (mapS 2 f t g h i n)) := by
  by_cases hgh : g = h
  · subst hgh
    have hr := fun W (hb' : Below w.heap.size w W) => ranges_1 2 f t g g i m v A A' n n' c c' W hb
    have HR := Lib.hid hr
    have e : mapS 2 f t g g i n = [⟨f, t - f, n⟩] := by unfold mapS; rw [if_pos (.inr ⟨rfl, rfl⟩)]
    rw [e]
    clear hr e hb hg
    go_enter Tryz.func259, Tryz.ntmps259
    go_wp2_with (go_at_call 254; (refine (HR.out _ belowA).mono ?_); rintro e w1 ⟨A2, c2, rfl, h1, h2, h3⟩)
    go_ret
    exact ⟨_, _, rfl, h1, h2, Below.trans belowA (h3.mono (by simp))⟩
  · have e : mapS 2 f t g h i n = [⟨f, g - f, i⟩, ⟨h, t - h, n - i⟩] := by unfold mapS; rw [if_neg (by omega), if_pos rfl]
    rw [e]
    have e1 : (g == h) = false := by simpa using hgh
    have e2 : IntKind.i64.wrap (g - f) = g - f := IntWalk.i64_in _ (by omega)
    have e3 : IntKind.i64.wrap (t - h) = t - h := IntWalk.i64_in _ (by omega)
    have e4 : IntKind.i64.wrap ((n : Int) - i) = n - i := IntWalk.i64_in _ (by omega)
    clear e hb hg hgh
    go_enter Tryz.func259, Tryz.ntmps259
    go_wp2
    go_ret
    exact ⟨_, _, rfl, rd_new _ #[.int .i64 f, .int .i64 (g - f), .int .i64 i, .int .i64 h, .int .i64 (t - h), .int .i64 ((n : Int) - i)] 2 3 (by simp) rfl, by simp, belowA⟩
theorem ranges_3 (k : Int) (f t g h i m v : Int) (A A' : Option Addr) (n n' c c' : Nat) (w : World) :
    Calls Tryz.prog 264 #[.agg #[.int .i64 k, .int .i64 f, .int .i64 t, .int .i64 g, .int .i64 h, .int .i64 i, .int .i64 m, .int .i64 v, .slice A n c, .slice A' n' c']] w (Maps w []) := by
  go_enter Tryz.func264, Tryz.ntmps264
  go_wp2
  go_ret
  exact maps_nil _ _ belowA
theorem ranges_5 (k : Int) (f t g h i m v : Int) (A A' : Option Addr) (n n' c c' : Nat) (w : World) :
    Calls Tryz.prog 269 #[.agg #[.int .i64 k, .int .i64 f, .int .i64 t, .int .i64 g, .int .i64 h, .int .i64 i, .int .i64 m, .int .i64 v, .slice A n c, .slice A' n' c']] w (Maps w []) := by
  go_enter Tryz.func269, Tryz.ntmps269
  go_wp2
  go_ret
  exact maps_nil _ _ belowA
/-- what Map tells -/
def mapB (k f t g h i m v : Int) (n n' : Nat) : List Rg := if shB k f t g h i m v n n' then mapS k f t g h i n else []
set_option maxRecDepth 100000 in
set_option maxHeartbeats 2000000 in
theorem map_any (k f t g h i m v : Int) (A A' : Option Addr) (n n' c c' : Nat) (w : World) (sl : List Tok) (st : List Mk) (hn : n ≤ maxLen) (hn' : n' ≤ maxLen) (hrd : Rd w w.heap.size 12 A n (toks sl)) (hrd' : Rd w w.heap.size 8 A' n' (mks st)) :
    Calls Tryz.prog 60 #[.agg #[.int .i64 k, .int .i64 f, .int .i64 t, .int .i64 g, .int .i64 h, .int .i64 i, .int .i64 m, .int .i64 v, .slice A n c, .slice A' n' c']] w (Maps w (mapB k f t g h i m v n n')) := by
  have hs := fun W (hb : Below w.heap.size w W) => calls_on hb (shape_any k f t g h i m v A A' n n' c c' W sl st hn hn' ((hrd.below hb).more hb.size) ((hrd'.below hb).more hb.size))
  unfold mapB
  cases hsh : shB k f t g h i m v n n' with
  | false =>
    rw [hsh] at hs
    have HS := Lib.hid hs
    clear hs hrd hrd' hsh
    simp only [Bool.false_eq_true, if_false]
    go_enter Tryz.func60, Tryz.ntmps60
    go_wp2_with (go_at_call 57; (refine (HS.out _ belowA).mono ?_); rintro e w1 ⟨rfl, hb1, hz1, hx1⟩)
    go_ret
    exact maps_nil _ _ hb1
  | true =>
    rw [hsh] at hs
    have HS := Lib.hid hs
    simp only [if_true]
    unfold shB at hsh
    rw [Bool.and_eq_true] at hsh
    obtain ⟨hbx, hsh⟩ := hsh
    have hbx : 0 ≤ f ∧ f ≤ t ∧ t ≤ 1073741824 := by simpa [boxes] using hbx
    clear hs hrd hrd'
    by_cases k1 : k = 1
    · subst k1
      have ho := fun W (hb : Below w.heap.size w W) => calls_on hb (of1 f t g h i m v A A' n n' c c' W)
      have hr := fun W => ranges_1 1 f t g h i m v A A' n n' c c' W hbx
      have e : mapS 1 f t g h i n = [⟨f, t - f, n⟩] := by unfold mapS; rw [if_pos (.inl rfl)]
      rw [e]
      have HO := Lib.hid ho
      have HR := Lib.hid hr
      have hm : ∀ w, (method 500 272 (.agg #[.int .i64 1, .int .i64 f, .int .i64 t, .int .i64 g, .int .i64 h, .int .i64 i, .int .i64 m, .int .i64 v, .slice A n c, .slice A' n' c']) "stet/step.ranges").run Tryz.prog w = .ok (254, .agg #[.int .i64 1, .int .i64 f, .int .i64 t, .int .i64 g, .int .i64 h, .int .i64 i, .int .i64 m, .int .i64 v, .slice A n c, .slice A' n' c']) w := fun _ => by kernel_rfl
      clear ho hr e hsh
      go_enter Tryz.func60, Tryz.ntmps60
      go_wp2_with (first
        | (go_at_call 57; (refine (HS.out _ belowA).mono ?_); rintro e w1 ⟨rfl, hb1, hz1, hx1⟩; have kb := (Bk.new w 45 #[.int .i64 1, .int .i64 f, .int .i64 t, .int .i64 g, .int .i64 h, .int .i64 i, .int .i64 m, .int .i64 v, .slice A n c, .slice A' n' c']).ext hx1; have lb := def_lt' kb; have d0 := kb.cell 0; have d1 := kb.cell 1; have d2 := kb.cell 2; have d3 := kb.cell 3; have d4 := kb.cell 4; have d5 := kb.cell 5; have d6 := kb.cell 6; have d7 := kb.cell 7; have d8 := kb.cell 8; have d9 := kb.cell 9; dsimp at d0 d1 d2 d3 d4 d5 d6 d7 d8 d9)
        | (go_at_call 118; (refine (HO.out _ hb1).mono ?_); rintro e w2 ⟨rfl, hb2, hz2, hx2⟩)
        | (go_at_call 254; (refine (HR.out _).mono ?_); rintro e w3 ⟨A2, c2, rfl, h1, h2, h3⟩))
      go_ret
      exact ⟨_, _, rfl, h1, h2, hb2.trans (h3.mono hz2)⟩
    by_cases k2 : k = 2
    · subst k2
      rw [if_neg (by omega), if_pos rfl] at hsh
      have hsh2 : f ≤ g ∧ g ≤ h ∧ h ≤ t ∧ 0 ≤ i ∧ i ≤ n ∧ n ≤ 20000 ∧ m = 0 ∧ v = 0 ∧ n' = 0 := by simpa [sh2] using hsh
      have ho := fun W (hb : Below w.heap.size w W) => calls_on hb (of2 f t g h i m v A A' n n' c c' W)
      have hr := fun W => ranges_2 f t g h i m v A A' n n' c c' W hbx ⟨hsh2.1, hsh2.2.1, hsh2.2.2.1, hsh2.2.2.2.1, hsh2.2.2.2.2.1⟩ hsh2.2.2.2.2.2.1
      have HO := Lib.hid ho
      have HR := Lib.hid hr
      have hm : ∀ w, (method 500 273 (.agg #[.int .i64 2, .int .i64 f, .int .i64 t, .int .i64 g, .int .i64 h, .int .i64 i, .int .i64 m, .int .i64 v, .slice A n c, .slice A' n' c']) "stet/step.ranges").run Tryz.prog w = .ok (259, .agg #[.int .i64 2, .int .i64 f, .int .i64 t, .int .i64 g, .int .i64 h, .int .i64 i, .int .i64 m, .int .i64 v, .slice A n c, .slice A' n' c']) w := fun _ => by kernel_rfl
      clear ho hr hsh hsh2 k1
      go_enter Tryz.func60, Tryz.ntmps60
      go_wp2_with (first
        | (go_at_call 57; (refine (HS.out _ belowA).mono ?_); rintro e w1 ⟨rfl, hb1, hz1, hx1⟩; have kb := (Bk.new w 45 #[.int .i64 2, .int .i64 f, .int .i64 t, .int .i64 g, .int .i64 h, .int .i64 i, .int .i64 m, .int .i64 v, .slice A n c, .slice A' n' c']).ext hx1; have lb := def_lt' kb; have d0 := kb.cell 0; have d1 := kb.cell 1; have d2 := kb.cell 2; have d3 := kb.cell 3; have d4 := kb.cell 4; have d5 := kb.cell 5; have d6 := kb.cell 6; have d7 := kb.cell 7; have d8 := kb.cell 8; have d9 := kb.cell 9; dsimp at d0 d1 d2 d3 d4 d5 d6 d7 d8 d9)
        | (go_at_call 118; (refine (HO.out _ hb1).mono ?_); rintro e w2 ⟨rfl, hb2, hz2, hx2⟩)
        | (go_at_call 259; (refine (HR.out _).mono ?_); rintro e w3 ⟨A2, c2, rfl, h1, h2, h3⟩))
      go_ret
      exact ⟨_, _, rfl, h1, h2, hb2.trans (h3.mono hz2)⟩
    have e : mapS k f t g h i n = [] := by unfold mapS; rw [if_neg (by omega), if_neg k2]
    rw [e]
    rw [if_neg k1, if_neg k2] at hsh
    by_cases k3 : k = 3 ∨ k = 4
    · have ho := fun W (hb : Below w.heap.size w W) => calls_on hb (of3 k k3 f t g h i m v A A' n n' c c' W)
      have hr := fun W => ranges_3 k f t g h i m v A A' n n' c c' W
      have HO := Lib.hid ho
      have HR := Lib.hid hr
      have hm : ∀ w, (method 500 274 (.agg #[.int .i64 k, .int .i64 f, .int .i64 t, .int .i64 g, .int .i64 h, .int .i64 i, .int .i64 m, .int .i64 v, .slice A n c, .slice A' n' c']) "stet/step.ranges").run Tryz.prog w = .ok (264, .agg #[.int .i64 k, .int .i64 f, .int .i64 t, .int .i64 g, .int .i64 h, .int .i64 i, .int .i64 m, .int .i64 v, .slice A n c, .slice A' n' c']) w := fun _ => by kernel_rfl
      clear ho hr hsh k1 k2 k3 e
      go_enter Tryz.func60, Tryz.ntmps60
      go_wp2_with (first
        | (go_at_call 57; (refine (HS.out _ belowA).mono ?_); rintro e w1 ⟨rfl, hb1, hz1, hx1⟩; have kb := (Bk.new w 45 #[.int .i64 k, .int .i64 f, .int .i64 t, .int .i64 g, .int .i64 h, .int .i64 i, .int .i64 m, .int .i64 v, .slice A n c, .slice A' n' c']).ext hx1; have lb := def_lt' kb; have d0 := kb.cell 0; have d1 := kb.cell 1; have d2 := kb.cell 2; have d3 := kb.cell 3; have d4 := kb.cell 4; have d5 := kb.cell 5; have d6 := kb.cell 6; have d7 := kb.cell 7; have d8 := kb.cell 8; have d9 := kb.cell 9; dsimp at d0 d1 d2 d3 d4 d5 d6 d7 d8 d9)
        | (go_at_call 118; (refine (HO.out _ hb1).mono ?_); rintro e w2 ⟨rfl, hb2, hz2, hx2⟩)
        | (go_at_call 264; (refine (HR.out _).mono ?_); rintro e w3 ⟨A2, c2, rfl, h1, h2, h3⟩))
      go_ret
      exact ⟨_, _, rfl, h1, h2, hb2.trans (h3.mono hz2)⟩
    rw [if_neg k3] at hsh
    have k5 : k = 5 := by
      by_cases k5 : k = 5
      · exact k5
      · rw [if_neg k5] at hsh; cases hsh
    subst k5
    have ho := fun W (hb : Below w.heap.size w W) => calls_on hb (of5 f t g h i m v A A' n n' c c' W)
    have hr := fun W => ranges_5 5 f t g h i m v A A' n n' c c' W
    have HO := Lib.hid ho
    have HR := Lib.hid hr
    have hm : ∀ w, (method 500 275 (.agg #[.int .i64 5, .int .i64 f, .int .i64 t, .int .i64 g, .int .i64 h, .int .i64 i, .int .i64 m, .int .i64 v, .slice A n c, .slice A' n' c']) "stet/step.ranges").run Tryz.prog w = .ok (269, .agg #[.int .i64 5, .int .i64 f, .int .i64 t, .int .i64 g, .int .i64 h, .int .i64 i, .int .i64 m, .int .i64 v, .slice A n c, .slice A' n' c']) w := fun _ => by kernel_rfl
    clear ho hr hsh k1 k2 k3 e
    go_enter Tryz.func60, Tryz.ntmps60
    go_wp2_with (first
      | (go_at_call 57; (refine (HS.out _ belowA).mono ?_); rintro e w1 ⟨rfl, hb1, hz1, hx1⟩; have kb := (Bk.new w 45 #[.int .i64 5, .int .i64 f, .int .i64 t, .int .i64 g, .int .i64 h, .int .i64 i, .int .i64 m, .int .i64 v, .slice A n c, .slice A' n' c']).ext hx1; have lb := def_lt' kb; have d0 := kb.cell 0; have d1 := kb.cell 1; have d2 := kb.cell 2; have d3 := kb.cell 3; have d4 := kb.cell 4; have d5 := kb.cell 5; have d6 := kb.cell 6; have d7 := kb.cell 7; have d8 := kb.cell 8; have d9 := kb.cell 9; dsimp at d0 d1 d2 d3 d4 d5 d6 d7 d8 d9)
      | (go_at_call 118; (refine (HO.out _ hb1).mono ?_); rintro e w2 ⟨rfl, hb2, hz2, hx2⟩)
      | (go_at_call 269; (refine (HR.out _).mono ?_); rintro e w3 ⟨A2, c2, rfl, h1, h2, h3⟩))
    go_ret
    exact ⟨_, _, rfl, h1, h2, hb2.trans (h3.mono hz2)⟩
theorem shB_spec {k f t g h i m v : Int} {n n' : Nat} (h0 : shB k f t g h i m v n n' = true) : (0 ≤ f ∧ f ≤ t ∧ t ≤ 1073741824) ∧ (k = 1 ∨ k = 2 ∨ k = 3 ∨ k = 4 ∨ k = 5) ∧ (k = 2 → f ≤ g ∧ g ≤ h ∧ h ≤ t ∧ 0 ≤ i ∧ i ≤ n ∧ n ≤ 20000) ∧ (k = 1 → n ≤ 20000) := by
  unfold shB at h0
  rw [Bool.and_eq_true] at h0
  obtain ⟨hbx, hs⟩ := h0
  refine ⟨by simpa [boxes] using hbx, ?_, ?_, ?_⟩
  · by_cases k1 : k = 1
    · exact .inl k1
    rw [if_neg k1] at hs
    by_cases k2 : k = 2
    · exact .inr (.inl k2)
    rw [if_neg k2] at hs
    by_cases k3 : k = 3 ∨ k = 4
    · omega
    rw [if_neg k3] at hs
    by_cases k5 : k = 5
    · omega
    rw [if_neg k5] at hs
    cases hs
  · intro k2
    rw [if_neg (by omega), if_pos k2] at hs
    have : f ≤ g ∧ g ≤ h ∧ h ≤ t ∧ 0 ≤ i ∧ i ≤ n ∧ n ≤ 20000 ∧ m = 0 ∧ v = 0 ∧ n' = 0 := by simpa [sh2] using hs
    omega
  · intro k1
    rw [if_pos k1] at hs
    have : g = 0 ∧ h = 0 ∧ i = 0 ∧ m = 0 ∧ v = 0 ∧ n' = 0 ∧ n ≤ 20000 := by simpa [sh1] using hs
    omega
theorem shB_spec5 {k f t g h i m v : Int} {n n' : Nat} (h0 : shB k f t g h i m v n n' = true) (hk : k = 5) : (n' : Int) = t - f := by
  subst hk
  unfold shB at h0
  rw [Bool.and_eq_true] at h0
  obtain ⟨-, hs⟩ := h0
  rw [if_neg (by omega), if_neg (by omega), if_neg (by omega), if_pos rfl] at hs
  have : g = 0 ∧ h = 0 ∧ i = 0 ∧ m = 0 ∧ v = 0 ∧ n = 0 ∧ (n' : Int) = t - f ∧ n' ≤ 20000 := by simpa [sh5] using hs
  omega
end Go.Proofs.YtmacfoebfpljoaaGreat
