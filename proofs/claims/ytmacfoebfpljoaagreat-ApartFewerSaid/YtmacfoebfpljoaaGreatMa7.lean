/- merged texts: Hvb Hvc Hvd StB Hwa Hwb Hwc Hwd -/
import Derived.Test.YtmacfoebfpljoaaGreatMa6
import Derived.Test.YtmacfoebfpljoaaGreatMa1
import Derived.Test.YtmacfoebfpljoaaGreatMa3
set_option maxRecDepth 100000
set_option maxHeartbeats 16000000
namespace Go.Proofs.YtmacfoebfpljoaaGreat
open Go.RowKit
set_option linter.unusedVariables false
section
variable (base : Nat) (nv mv : Value) (ns : List Nd) (ms : List Mr) (PA TA EA : Option Addr) (pn pc tn tc en ec : Nat) (w : World)
theorem right12_any (a0 a1 a2 a3 a4 a5 a6 a7 : Int) (hD : DeclIn w base nv mv ns ms) : Calls Tryz.prog 109 #[.agg #[nv, mv, .slice PA pn pc, .slice TA tn tc, .slice EA en ec], .agg #[.int .u16 a0, .int .u16 a1, .int .u16 a2, .int .u16 a3, .int .u16 a4, .int .u16 a5, .int .u16 a6, .int .u16 a7]] w (AnyB w) := by
 obtain ⟨NA, nc, rfl, -, -, -, -⟩ := own_form hD.n
 obtain ⟨MA, mc, rfl, -, -, -, -⟩ := own_form hD.m
 have hmy := fun m v W (hb : Below w.heap.size w W) => may12_any base _ _ ns ms PA TA EA pn pc tn tc en ec W m v (hD.below hb)
 have hbr := fun a b W (hb : Below w.heap.size w W) => bars_any base _ _ ns ms PA TA EA pn pc tn tc en ec W a b (hD.below hb)
 have HMY := Lib.hid hmy
 have HBR := Lib.hid hbr
 clear hmy hbr hD
 go_enter Tryz.func109, Tryz.ntmps109
 go_upto_region 1 with fail
 have ks : Bk ((w.alloc (.cells #[.slice NA ns.length nc, .slice MA ms.length mc, .slice PA pn pc, .slice TA tn tc, .slice EA en ec] 32)).alloc (.cells #[.int .u16 a0, .int .u16 a1, .int .u16 a2, .int .u16 a3, .int .u16 a4, .int .u16 a5, .int .u16 a6, .int .u16 a7] 124)) w.heap.size 32 #[.slice NA ns.length nc, .slice MA ms.length mc, .slice PA pn pc, .slice TA tn tc, .slice EA en ec] := (Bk.new w _ _).alloc _
 have km : Bk ((w.alloc (.cells #[.slice NA ns.length nc, .slice MA ms.length mc, .slice PA pn pc, .slice TA tn tc, .slice EA en ec] 32)).alloc (.cells #[.int .u16 a0, .int .u16 a1, .int .u16 a2, .int .u16 a3, .int .u16 a4, .int .u16 a5, .int .u16 a6, .int .u16 a7] 124)) (w.heap.size + 1) 124 #[.int .u16 a0, .int .u16 a1, .int .u16 a2, .int .u16 a3, .int .u16 a4, .int .u16 a5, .int .u16 a6, .int .u16 a7] := Bk.made _ _ (by simp)
 have hb0 : Below w.heap.size w ((w.alloc (.cells #[.slice NA ns.length nc, .slice MA ms.length mc, .slice PA pn pc, .slice TA tn tc, .slice EA en ec] 32)).alloc (.cells #[.int .u16 a0, .int .u16 a1, .int .u16 a2, .int .u16 a3, .int .u16 a4, .int .u16 a5, .int .u16 a6, .int .u16 a7] 124)) := belowA
 generalize (w.alloc (.cells #[.slice NA ns.length nc, .slice MA ms.length mc, .slice PA pn pc, .slice TA tn tc, .slice EA en ec] 32)).alloc (.cells #[.int .u16 a0, .int .u16 a1, .int .u16 a2, .int .u16 a3, .int .u16 a4, .int .u16 a5, .int .u16 a6, .int .u16 a7] 124) = w0 at *
 go_wp2
 go_loopw [5] (fun j wr => ∃ k : Nat, k ≤ 8 ∧ j = .int .i64 k ∧ Below w.heap.size w wr ∧ Bk wr w.heap.size 32 #[.slice NA ns.length nc, .slice MA ms.length mc, .slice PA pn pc, .slice TA tn tc, .slice EA en ec] ∧ Bk wr (w.heap.size + 1) 124 #[.int .u16 a0, .int .u16 a1, .int .u16 a2, .int .u16 a3, .int .u16 a4, .int .u16 a5, .int .u16 a6, .int .u16 a7]) (fun j _ => 8 - (intOf j).toNat)
 case atStart => exact ⟨0, by omega, rfl, hb0, ks, km⟩
 case round =>
  clear hb0 ks km
  obtain ⟨k, hk, rfl, hbo, kso, kmo⟩ := hrel
  by_cases hlt : k < 8
  ·have e3 : (k : Int) < 8 := by omega
   obtain ⟨s0, s1, s2, s3, s4⟩ := bk5 kso
   obtain ⟨m0, m1, m2, m3, m4, m5, m6, m7⟩ := bk8 kmo
   go_wp2_with (go_at_call 159; fail)
   refine (value12_any a0 a1 a2 a3 a4 a5 a6 a7 k _).mono ?_
   rintro e w1 ⟨v, rfl, -, hb1⟩
   have hbo1 := hbo.trans (hb1.mono hbo.size)
   have ks1 := kso.ext hb1
   have km1 := kmo.ext hb1
   clear s0 s1 s2 s3 s4 m0 m1 m2 m3 m4 m5 m6 m7 kso kmo hbo hb1
   obtain ⟨s0, s1, s2, s3, s4⟩ := bk5 ks1
   obtain ⟨m0, m1, m2, m3, m4, m5, m6, m7⟩ := bk8 km1
   by_cases hv : v < 0
   ·go_wp2
    go_roundw
    case rel => exact ⟨k + 1, by omega, by go_num, hbo1, ks1, km1⟩
    case measure => simp [intOf]; omega
   go_upto_region 5 with fail
   have hF : ∀ W, (Below w.heap.size w W ∧ Bk W w.heap.size 32 #[.slice NA ns.length nc, .slice MA ms.length mc, .slice PA pn pc, .slice TA tn tc, .slice EA en ec] ∧ Bk W (w.heap.size + 1) 124 #[.int .u16 a0, .int .u16 a1, .int .u16 a2, .int .u16 a3, .int .u16 a4, .int .u16 a5, .int .u16 a6, .int .u16 a7]) → (W.cell? ⟨w.heap.size, 0, none⟩ = some (.slice NA ns.length nc) ∧ W.cell? ⟨w.heap.size, 1, none⟩ = some (.slice MA ms.length mc) ∧ W.cell? ⟨w.heap.size, 2, none⟩ = some (.slice PA pn pc) ∧ W.cell? ⟨w.heap.size, 3, none⟩ = some (.slice TA tn tc) ∧ W.cell? ⟨w.heap.size, 4, none⟩ = some (.slice EA en ec)) ∧ (W.cell? ⟨w.heap.size + 1, 0, none⟩ = some (.int .u16 a0) ∧ W.cell? ⟨w.heap.size + 1, 1, none⟩ = some (.int .u16 a1) ∧ W.cell? ⟨w.heap.size + 1, 2, none⟩ = some (.int .u16 a2) ∧ W.cell? ⟨w.heap.size + 1, 3, none⟩ = some (.int .u16 a3) ∧ W.cell? ⟨w.heap.size + 1, 4, none⟩ = some (.int .u16 a4) ∧ W.cell? ⟨w.heap.size + 1, 5, none⟩ = some (.int .u16 a5) ∧ W.cell? ⟨w.heap.size + 1, 6, none⟩ = some (.int .u16 a6) ∧ W.cell? ⟨w.heap.size + 1, 7, none⟩ = some (.int .u16 a7)) := fun W h => ⟨bk5 h.2.1, bk8 h.2.2⟩
   have HF := Lib.hid hF
   clear s0 s1 s2 s3 s4 m0 m1 m2 m3 m4 m5 m6 m7 hF
   refine wp_normal ?_
   refine wp_region_held_drew (S := fun W => Below w.heap.size w W ∧ Bk W w.heap.size 32 #[.slice NA ns.length nc, .slice MA ms.length mc, .slice PA pn pc, .slice TA tn tc, .slice EA en ec] ∧ Bk W (w.heap.size + 1) 124 #[.int .u16 a0, .int .u16 a1, .int .u16 a2, .int .u16 a3, .int .u16 a4, .int .u16 a5, .int .u16 a6, .int .u16 a7]) (by kernel_rfl) ⟨hbo1.drew, ks1.drew, km1.drew⟩ (fun hHeld => ?_)
   (refine tkH 0 ?_; refine tkH 1 ?_; refine tkH 2 ?_; refine tkH 3 ?_)
   refine nxH 4 (fun K hK => ?_)
   go_simp
   go_at_call 159
   rename World => w4
   refine (value12_any a0 a1 a2 a3 a4 a5 a6 a7 k _).mono ?_
   rintro e w5 ⟨v5, rfl, -, hb5⟩
   refine hK.out _ _ ⟨hHeld.1.trans (hb5.mono hHeld.1.size), hHeld.2.1.ext hb5, hHeld.2.2.ext hb5⟩ (fun hHeld => ?_)
   clear hK K; (try simp only [Act.put, List.setIfInBounds_toArray, List.set_cons_zero, List.set_cons_succ])
   refine nxH 5 (fun K hK => ?_)
   go_simp
   go_at_call 110
   refine (HMY.out k v5 _ hHeld.1).mono ?_
   rintro e w6 ⟨b6, rfl, -, hb6⟩
   refine hK.out _ _ ⟨hHeld.1.trans (hb6.mono hHeld.1.size), hHeld.2.1.ext hb6, hHeld.2.2.ext hb6⟩ (fun hHeld => ?_)
   clear hK K; (try simp only [Act.put, List.setIfInBounds_toArray, List.set_cons_zero, List.set_cons_succ])
   (refine tkH 6 ?_)
   refine wpAnyH_done (by kernel_rfl) ?_ _
   clear HF hbo1 ks1 km1
   cases b6 with
   | false =>
     go_wp2
     go_ret
     exact ⟨⟨_, rfl⟩, hHeld.1⟩
   | true =>
     simp only [Bool.not_true]
     go_wp2
     go_loopw [6] (fun j wr => ∃ q : Nat, q ≤ 8 ∧ j = .int .i64 q ∧ Below w.heap.size w wr ∧ Bk wr w.heap.size 32 #[.slice NA ns.length nc, .slice MA ms.length mc, .slice PA pn pc, .slice TA tn tc, .slice EA en ec] ∧ Bk wr (w.heap.size + 1) 124 #[.int .u16 a0, .int .u16 a1, .int .u16 a2, .int .u16 a3, .int .u16 a4, .int .u16 a5, .int .u16 a6, .int .u16 a7]) (fun j _ => 8 - (intOf j).toNat)
     case atStart => exact ⟨0, by omega, rfl, hHeld.1, hHeld.2.1, hHeld.2.2⟩
     case round =>
      clear hHeld
      obtain ⟨q, hq, rfl, hbo, kso, kmo⟩ := hrel
      obtain ⟨s0, s1, s2, s3, s4⟩ := bk5 kso
      obtain ⟨m0, m1, m2, m3, m4, m5, m6, m7⟩ := bk8 kmo
      by_cases hql : q < 8
      ·have e4 : (q : Int) < 8 := by omega
       cases hqk : ((q : Int) != k)
       ·go_wp2
        go_roundw
        case rel => exact ⟨q + 1, by omega, by go_num, hbo, kso, kmo⟩
        case measure => simp [intOf]; omega
       ·go_wp2_with (go_at_call 159; fail)
        refine (value12_any a0 a1 a2 a3 a4 a5 a6 a7 q _).mono ?_
        rintro e w7 ⟨v7, rfl, -, hb7⟩
        have hbo7 := hbo.trans (hb7.mono hbo.size)
        have ks7 := kso.ext hb7
        have km7 := kmo.ext hb7
        clear s0 s1 s2 s3 s4 m0 m1 m2 m3 m4 m5 m6 m7 kso kmo hbo hb7
        obtain ⟨s0, s1, s2, s3, s4⟩ := bk5 ks7
        by_cases hv : 0 ≤ v7
        ·go_wp2_with (go_at_call 160; fail)
         refine (HBR.out k q _ hbo7).mono ?_
         rintro e w8 ⟨⟨b8, rfl⟩, hb8⟩
         cases b8 with
         | true =>
           go_wp2
           go_ret
           exact ⟨⟨_, rfl⟩, hbo7.trans (hb8.mono hbo7.size)⟩
         | false =>
           go_wp2
           go_roundw
           case rel => exact ⟨q + 1, by omega, by go_num, hbo7.trans (hb8.mono hbo7.size), ks7.ext hb8, km7.ext hb8⟩
           case measure => simp [intOf]; omega
        ·go_wp2
         go_roundw
         case rel => exact ⟨q + 1, by omega, by go_num, hbo7, ks7, km7⟩
         case measure => simp [intOf]; omega
      ·obtain rfl : q = 8 := by omega
       go_wp2
       go_roundw
       case rel => exact ⟨k + 1, by omega, by go_num, hbo, kso, kmo⟩
       case measure => simp [intOf]; omega
  ·obtain rfl : k = 8 := by omega
   go_wp2
   go_ret
   exact ⟨⟨_, rfl⟩, hbo⟩
end
/-- a set, and whether it was done -/
def MkOut (w : World) (e : Ending) (w' : World) : Prop := ∃ (b0 b1 b2 b3 b4 b5 b6 b7 : Int) (ok : Bool), e = .returned (.tuple #[.agg #[.int .u16 b0, .int .u16 b1, .int .u16 b2, .int .u16 b3, .int .u16 b4, .int .u16 b5, .int .u16 b6, .int .u16 b7], .bool ok]) ∧ Below w.heap.size w w'
def MkAt (w : World) (b : Nat) : Prop := ∃ b0 b1 b2 b3 b4 b5 b6 b7 : Int, Bk w b 124 #[.int .u16 b0, .int .u16 b1, .int .u16 b2, .int .u16 b3, .int .u16 b4, .int .u16 b5, .int .u16 b6, .int .u16 b7]
theorem MkAt.ext {w w' : World} {b : Nat} (h : MkAt w b) (hb : Below w.heap.size w w') : MkAt w' b := by
 obtain ⟨b0, b1, b2, b3, b4, b5, b6, b7, h⟩ := h
 exact ⟨b0, b1, b2, b3, b4, b5, b6, b7, h.ext hb⟩
theorem MkAt.put {w : World} {b k : Nat} (h : MkAt w b) (hk : k ≤ 7) (x : Int) : MkAt (w.setCell ⟨b, k, none⟩ (.int .u16 x)) b := by
 obtain ⟨b0, b1, b2, b3, b4, b5, b6, b7, h⟩ := h
 rcases (show k = 0 ∨ k = 1 ∨ k = 2 ∨ k = 3 ∨ k = 4 ∨ k = 5 ∨ k = 6 ∨ k = 7 by omega) with rfl | rfl | rfl | rfl | rfl | rfl | rfl | rfl
 ·exact ⟨x, b1, b2, b3, b4, b5, b6, b7, h.set_ 0 _⟩
 ·exact ⟨b0, x, b2, b3, b4, b5, b6, b7, h.set_ 1 _⟩
 ·exact ⟨b0, b1, x, b3, b4, b5, b6, b7, h.set_ 2 _⟩
 ·exact ⟨b0, b1, b2, x, b4, b5, b6, b7, h.set_ 3 _⟩
 ·exact ⟨b0, b1, b2, b3, x, b5, b6, b7, h.set_ 4 _⟩
 ·exact ⟨b0, b1, b2, b3, b4, x, b6, b7, h.set_ 5 _⟩
 ·exact ⟨b0, b1, b2, b3, b4, b5, x, b7, h.set_ 6 _⟩
 ·exact ⟨b0, b1, b2, b3, b4, b5, b6, x, h.set_ 7 _⟩
theorem MkAt.cell {w : World} {b k : Nat} (h : MkAt w b) (hk : k ≤ 7) : ∃ x : Int, w.cell? ⟨b, k, none⟩ = some (.int .u16 x) := by
 obtain ⟨b0, b1, b2, b3, b4, b5, b6, b7, h⟩ := h
 exact mk_at h hk
theorem MkAt.frozen {w : World} {b : Nat} (h : MkAt w b) (k : Nat) : w.frozen? ⟨b, k, none⟩ = false := by
 obtain ⟨b0, b1, b2, b3, b4, b5, b6, b7, h⟩ := h
 exact h.frozen k
theorem MkAt.lt {w : World} {b : Nat} (h : MkAt w b) : b < w.heap.size := by
 obtain ⟨b0, b1, b2, b3, b4, b5, b6, b7, h⟩ := h
 exact def_lt' h
def set8 (w : World) (b : Nat) (x0 x1 x2 x3 x4 x5 x6 x7 : Value) : World := (((((((w.setCell ⟨b, 0, none⟩ x0).setCell ⟨b, 1, none⟩ x1).setCell ⟨b, 2, none⟩ x2).setCell ⟨b, 3, none⟩ x3).setCell ⟨b, 4, none⟩ x4).setCell ⟨b, 5, none⟩ x5).setCell ⟨b, 6, none⟩ x6).setCell ⟨b, 7, none⟩ x7
theorem set8_bk {w : World} {b : Nat} {t : TypeId} {y0 y1 y2 y3 y4 y5 y6 y7 : Value} (k : Bk w b t #[y0, y1, y2, y3, y4, y5, y6, y7]) (x0 x1 x2 x3 x4 x5 x6 x7 : Value) : Bk (set8 w b x0 x1 x2 x3 x4 x5 x6 x7) b t #[x0, x1, x2, x3, x4, x5, x6, x7] := by
 have q0 : Bk _ b t #[x0, y1, y2, y3, y4, y5, y6, y7] := k.set_ 0 x0
 have q1 : Bk _ b t #[x0, x1, y2, y3, y4, y5, y6, y7] := q0.set_ 1 x1
 have q2 : Bk _ b t #[x0, x1, x2, y3, y4, y5, y6, y7] := q1.set_ 2 x2
 have q3 : Bk _ b t #[x0, x1, x2, x3, y4, y5, y6, y7] := q2.set_ 3 x3
 have q4 : Bk _ b t #[x0, x1, x2, x3, x4, y5, y6, y7] := q3.set_ 4 x4
 have q5 : Bk _ b t #[x0, x1, x2, x3, x4, x5, y6, y7] := q4.set_ 5 x5
 have q6 : Bk _ b t #[x0, x1, x2, x3, x4, x5, x6, y7] := q5.set_ 6 x6
 have q7 : Bk _ b t #[x0, x1, x2, x3, x4, x5, x6, x7] := q6.set_ 7 x7
 exact q7
theorem set8_below {w wr : World} {b : Nat} (h : Below w.heap.size w wr) (hb : w.heap.size ≤ b) (x0 x1 x2 x3 x4 x5 x6 x7 : Value) : Below w.heap.size w (set8 wr b x0 x1 x2 x3 x4 x5 x6 x7) :=
 (((((((h.setCell hb _).setCell hb _).setCell hb _).setCell hb _).setCell hb _).setCell hb _).setCell hb _).setCell hb _
theorem remove12_any (a0 a1 a2 a3 a4 a5 a6 a7 mark val : Int) (w : World) : Calls Tryz.prog 115 #[.agg #[.int .u16 a0, .int .u16 a1, .int .u16 a2, .int .u16 a3, .int .u16 a4, .int .u16 a5, .int .u16 a6, .int .u16 a7], .int .i64 mark, .int .i64 val] w (MkOut w) := by
 go_enter Tryz.func115, Tryz.ntmps115
 go_upto_region 1 with fail
 have km : Bk ((w.alloc (.cells #[.int .u16 a0, .int .u16 a1, .int .u16 a2, .int .u16 a3, .int .u16 a4, .int .u16 a5, .int .u16 a6, .int .u16 a7] 124)).alloc (.cells #[.int .u16 0, .int .u16 0, .int .u16 0, .int .u16 0, .int .u16 0, .int .u16 0, .int .u16 0, .int .u16 0] 124)) w.heap.size 124 #[.int .u16 a0, .int .u16 a1, .int .u16 a2, .int .u16 a3, .int .u16 a4, .int .u16 a5, .int .u16 a6, .int .u16 a7] := (Bk.new w _ _).alloc _
 have kr : Bk ((w.alloc (.cells #[.int .u16 a0, .int .u16 a1, .int .u16 a2, .int .u16 a3, .int .u16 a4, .int .u16 a5, .int .u16 a6, .int .u16 a7] 124)).alloc (.cells #[.int .u16 0, .int .u16 0, .int .u16 0, .int .u16 0, .int .u16 0, .int .u16 0, .int .u16 0, .int .u16 0] 124)) (w.heap.size + 1) 124 #[.int .u16 0, .int .u16 0, .int .u16 0, .int .u16 0, .int .u16 0, .int .u16 0, .int .u16 0, .int .u16 0] := Bk.made _ _ (by simp)
 have hb0 : Below w.heap.size w ((w.alloc (.cells #[.int .u16 a0, .int .u16 a1, .int .u16 a2, .int .u16 a3, .int .u16 a4, .int .u16 a5, .int .u16 a6, .int .u16 a7] 124)).alloc (.cells #[.int .u16 0, .int .u16 0, .int .u16 0, .int .u16 0, .int .u16 0, .int .u16 0, .int .u16 0, .int .u16 0] 124)) := belowA
 generalize (w.alloc (.cells #[.int .u16 a0, .int .u16 a1, .int .u16 a2, .int .u16 a3, .int .u16 a4, .int .u16 a5, .int .u16 a6, .int .u16 a7] 124)).alloc (.cells #[.int .u16 0, .int .u16 0, .int .u16 0, .int .u16 0, .int .u16 0, .int .u16 0, .int .u16 0, .int .u16 0] 124) = w0 at *
 have hend : ∀ (W : World) (b0 b1 b2 b3 b4 b5 b6 b7 : Int) (ok : Bool), Below w.heap.size w W → Bk W (w.heap.size + 1) 124 #[.int .u16 0, .int .u16 0, .int .u16 0, .int .u16 0, .int .u16 0, .int .u16 0, .int .u16 0, .int .u16 0] → MkOut w (.returned (.tuple #[.agg #[.int .u16 b0, .int .u16 b1, .int .u16 b2, .int .u16 b3, .int .u16 b4, .int .u16 b5, .int .u16 b6, .int .u16 b7], .bool ok])) (set8 W (w.heap.size + 1) (.int .u16 b0) (.int .u16 b1) (.int .u16 b2) (.int .u16 b3) (.int .u16 b4) (.int .u16 b5) (.int .u16 b6) (.int .u16 b7)) ∧ Bk (set8 W (w.heap.size + 1) (.int .u16 b0) (.int .u16 b1) (.int .u16 b2) (.int .u16 b3) (.int .u16 b4) (.int .u16 b5) (.int .u16 b6) (.int .u16 b7)) (w.heap.size + 1) 124 #[.int .u16 b0, .int .u16 b1, .int .u16 b2, .int .u16 b3, .int .u16 b4, .int .u16 b5, .int .u16 b6, .int .u16 b7] := fun W b0 b1 b2 b3 b4 b5 b6 b7 ok hb k => ⟨⟨b0, b1, b2, b3, b4, b5, b6, b7, ok, rfl, set8_below hb (by omega) _ _ _ _ _ _ _ _⟩, set8_bk k _ _ _ _ _ _ _ _⟩
 have HE := Lib.hid hend
 clear hend
 by_cases hv : val < 0
 ·obtain ⟨m0, m1, m2, m3, m4, m5, m6, m7⟩ := bk8 km
  obtain ⟨r0, r1, r2, r3, r4, r5, r6, r7⟩ := bk8 kr
  have rf := kr.frozen; have rl := def_lt' kr
  go_wp2
  obtain ⟨hL1, hL2⟩ := HE.out w0 a0 a1 a2 a3 a4 a5 a6 a7 false hb0 kr
  unfold set8 at hL1 hL2
  obtain ⟨z0, z1, z2, z3, z4, z5, z6, z7⟩ := bk8 hL2
  exact bodyPost_ret (v := .tuple #[.agg #[.int .u16 a0, .int .u16 a1, .int .u16 a2, .int .u16 a3, .int .u16 a4, .int .u16 a5, .int .u16 a6, .int .u16 a7], .bool false]) (by simp [results, Tryz.results115, go_sem, z0, z1, z2, z3, z4, z5, z6, z7]) rfl hL1
 ·obtain ⟨m0, m1, m2, m3, m4, m5, m6, m7⟩ := bk8 km
  go_wp2_with (go_at_call 159; fail)
  refine (value12_any a0 a1 a2 a3 a4 a5 a6 a7 mark _).mono ?_
  rintro e w1 ⟨v, rfl, hvm, hb1⟩
  have km1 := km.ext hb1
  have kr1 := kr.ext hb1
  have hb01 := hb0.trans (hb1.mono hb0.size)
  have HVM := Lib.hid hvm
  clear m0 m1 m2 m3 m4 m5 m6 m7 km kr hb0 hb1 hvm
  obtain ⟨m0, m1, m2, m3, m4, m5, m6, m7⟩ := bk8 km1
  obtain ⟨r0, r1, r2, r3, r4, r5, r6, r7⟩ := bk8 kr1
  have rf := kr1.frozen; have rl := def_lt' kr1
  by_cases hne : v = val
  ·have e1 : (v != val) = false := by simp [hne]
   have hm : 0 ≤ mark ∧ mark ≤ 7 := by
    have := HVM.out
    omega
   obtain ⟨k, rfl⟩ : ∃ k : Nat, mark = (k : Int) := ⟨mark.toNat, by omega⟩
   obtain ⟨hm1, hm2⟩ := hm
   have hk7 : k ≤ 7 := by omega
   obtain ⟨x, hx⟩ := mk_at km1 hk7
   have mf := km1.frozen; have ml := def_lt' km1
   have hM2 := MkAt.put ⟨_, _, _, _, _, _, _, _, km1⟩ hk7 0
   obtain ⟨b0, b1, b2, b3, b4, b5, b6, b7, kM2⟩ := hM2
   have kR2 := kr1.far (p := ⟨w.heap.size, k, none⟩) (by simp) (.int .u16 0)
   have hb2 := hb01.setCell (p := ⟨w.heap.size, k, none⟩) (Nat.le_refl _) (.int .u16 0)
   clear hne
   go_upto_region 4 with fail
   clear m0 m1 m2 m3 m4 m5 m6 m7 r0 r1 r2 r3 r4 r5 r6 r7 rf rl mf ml hx km1 kr1 hb01
   generalize w1.setCell ⟨w.heap.size, k, none⟩ (.int .u16 0) = w2 at *
   obtain ⟨m0, m1, m2, m3, m4, m5, m6, m7⟩ := bk8 kM2
   obtain ⟨r0, r1, r2, r3, r4, r5, r6, r7⟩ := bk8 kR2
   have rf := kR2.frozen; have rl := def_lt' kR2
   go_wp2
   obtain ⟨hL1, hL2⟩ := HE.out w2 b0 b1 b2 b3 b4 b5 b6 b7 true hb2 kR2
   unfold set8 at hL1 hL2
   obtain ⟨z0, z1, z2, z3, z4, z5, z6, z7⟩ := bk8 hL2
   exact bodyPost_ret (v := .tuple #[.agg #[.int .u16 b0, .int .u16 b1, .int .u16 b2, .int .u16 b3, .int .u16 b4, .int .u16 b5, .int .u16 b6, .int .u16 b7], .bool true]) (by simp [results, Tryz.results115, go_sem, z0, z1, z2, z3, z4, z5, z6, z7]) rfl hL1
  ·have e1 : (v != val) = true := by simp [hne]
   clear hne
   go_wp2
   obtain ⟨hL1, hL2⟩ := HE.out w1 a0 a1 a2 a3 a4 a5 a6 a7 false hb01 kr1
   unfold set8 at hL1 hL2
   obtain ⟨z0, z1, z2, z3, z4, z5, z6, z7⟩ := bk8 hL2
   exact bodyPost_ret (v := .tuple #[.agg #[.int .u16 a0, .int .u16 a1, .int .u16 a2, .int .u16 a3, .int .u16 a4, .int .u16 a5, .int .u16 a6, .int .u16 a7], .bool false]) (by simp [results, Tryz.results115, go_sem, z0, z1, z2, z3, z4, z5, z6, z7]) rfl hL1
section
variable (base : Nat) (nv mv : Value) (ns : List Nd) (ms : List Mr) (PA TA EA : Option Addr) (pn pc tn tc en ec : Nat) (w : World)
theorem within12_any (t a0 a1 a2 a3 a4 a5 a6 a7 : Int) (hD : DeclIn w base nv mv ns ms) : Calls Tryz.prog 204 #[.agg #[nv, mv, .slice PA pn pc, .slice TA tn tc, .slice EA en ec], .int .i64 t, .agg #[.int .u16 a0, .int .u16 a1, .int .u16 a2, .int .u16 a3, .int .u16 a4, .int .u16 a5, .int .u16 a6, .int .u16 a7]] w (AnyB w) := by
 obtain ⟨NA, nc, rfl, -, -, -, -⟩ := own_form hD.n
 obtain ⟨MA, mc, rfl, -, -, -, -⟩ := own_form hD.m
 have hal := fun a W (hb : Below w.heap.size w W) => allows_any base _ _ ns ms PA TA EA pn pc tn tc en ec W t a (hD.below hb)
 have HAL := Lib.hid hal
 clear hal hD
 go_enter Tryz.func204, Tryz.ntmps204
 go_upto_region 1 with fail
 have ks : Bk ((w.alloc (.cells #[.slice NA ns.length nc, .slice MA ms.length mc, .slice PA pn pc, .slice TA tn tc, .slice EA en ec] 32)).alloc (.cells #[.int .u16 a0, .int .u16 a1, .int .u16 a2, .int .u16 a3, .int .u16 a4, .int .u16 a5, .int .u16 a6, .int .u16 a7] 124)) w.heap.size 32 #[.slice NA ns.length nc, .slice MA ms.length mc, .slice PA pn pc, .slice TA tn tc, .slice EA en ec] := (Bk.new w _ _).alloc _
 have km : Bk ((w.alloc (.cells #[.slice NA ns.length nc, .slice MA ms.length mc, .slice PA pn pc, .slice TA tn tc, .slice EA en ec] 32)).alloc (.cells #[.int .u16 a0, .int .u16 a1, .int .u16 a2, .int .u16 a3, .int .u16 a4, .int .u16 a5, .int .u16 a6, .int .u16 a7] 124)) (w.heap.size + 1) 124 #[.int .u16 a0, .int .u16 a1, .int .u16 a2, .int .u16 a3, .int .u16 a4, .int .u16 a5, .int .u16 a6, .int .u16 a7] := Bk.made _ _ (by simp)
 have hb0 : Below w.heap.size w ((w.alloc (.cells #[.slice NA ns.length nc, .slice MA ms.length mc, .slice PA pn pc, .slice TA tn tc, .slice EA en ec] 32)).alloc (.cells #[.int .u16 a0, .int .u16 a1, .int .u16 a2, .int .u16 a3, .int .u16 a4, .int .u16 a5, .int .u16 a6, .int .u16 a7] 124)) := belowA
 generalize (w.alloc (.cells #[.slice NA ns.length nc, .slice MA ms.length mc, .slice PA pn pc, .slice TA tn tc, .slice EA en ec] 32)).alloc (.cells #[.int .u16 a0, .int .u16 a1, .int .u16 a2, .int .u16 a3, .int .u16 a4, .int .u16 a5, .int .u16 a6, .int .u16 a7] 124) = w0 at *
 go_wp2
 go_loopw [7] (fun j wr => ∃ k : Nat, k ≤ 8 ∧ j = .int .i64 k ∧ Below w.heap.size w wr ∧ Bk wr w.heap.size 32 #[.slice NA ns.length nc, .slice MA ms.length mc, .slice PA pn pc, .slice TA tn tc, .slice EA en ec] ∧ Bk wr (w.heap.size + 1) 124 #[.int .u16 a0, .int .u16 a1, .int .u16 a2, .int .u16 a3, .int .u16 a4, .int .u16 a5, .int .u16 a6, .int .u16 a7]) (fun j _ => 8 - (intOf j).toNat)
 case atStart => exact ⟨0, by omega, rfl, hb0, ks, km⟩
 case round =>
  clear hb0 ks km
  obtain ⟨k, hk, rfl, hbo, kso, kmo⟩ := hrel
  by_cases hlt : k < 8
  ·have e3 : (k : Int) < 8 := by omega
   obtain ⟨m0, m1, m2, m3, m4, m5, m6, m7⟩ := bk8 kmo
   go_wp2_with (go_at_call 159; fail)
   refine (value12_any a0 a1 a2 a3 a4 a5 a6 a7 k _).mono ?_
   rintro e w1 ⟨v, rfl, -, hb1⟩
   have hbo1 := hbo.trans (hb1.mono hbo.size)
   have ks1 := kso.ext hb1
   have km1 := kmo.ext hb1
   clear m0 m1 m2 m3 m4 m5 m6 m7 kso kmo hbo hb1
   obtain ⟨s0, s1, s2, s3, s4⟩ := bk5 ks1
   by_cases hv : 0 ≤ v
   ·go_wp2_with (go_at_call 112; fail)
    refine (HAL.out k _ hbo1).mono ?_
    rintro e w2 ⟨⟨b, rfl⟩, hb2⟩
    have hbo2 := hbo1.trans (hb2.mono hbo1.size)
    cases b with
    | true =>
      go_wp2
      go_roundw
      case rel => exact ⟨k + 1, by omega, by go_num, hbo2, ks1.ext hb2, km1.ext hb2⟩
      case measure => simp [intOf]; omega
    | false =>
      go_wp2
      go_ret
      exact ⟨⟨_, rfl⟩, hbo2⟩
   ·go_wp2
    go_roundw
    case rel => exact ⟨k + 1, by omega, by go_num, hbo1, ks1, km1⟩
    case measure => simp [intOf]; omega
  ·obtain rfl : k = 8 := by omega
   go_wp2
   go_ret
   exact ⟨⟨_, rfl⟩, hbo⟩
end
/-- on the way through Add -/
structure AI (w wr : World) (S M : Array Value) : Prop where
 s : Bk wr w.heap.size 32 S
 m : Bk wr (w.heap.size + 1) 124 M
 r : Bk wr (w.heap.size + 2) 124 #[.int .u16 0, .int .u16 0, .int .u16 0, .int .u16 0, .int .u16 0, .int .u16 0, .int .u16 0, .int .u16 0]
 b : Below w.heap.size w wr
theorem AI.below {w wr w' : World} {S M : Array Value} (h : AI w wr S M) (hb : Below wr.heap.size wr w') : AI w w' S M := ⟨h.s.ext hb, h.m.ext hb, h.r.ext hb, h.b.trans (hb.mono h.b.size)⟩
theorem AI.put {w wr : World} {S M : Array Value} {ob k : Nat} {u : Value} (h : AI w wr S M) (ho : w.heap.size + 2 < ob) : AI w (wr.setCell ⟨ob, k, none⟩ u) S M :=
 ⟨h.s.far (p := ⟨ob, k, none⟩) (by simp; omega) _, h.m.far (p := ⟨ob, k, none⟩) (by simp; omega) _, h.r.far (p := ⟨ob, k, none⟩) (by simp; omega) _, h.b.setCell (by simp; omega) _⟩
theorem AI.end_ {w W : World} {S M : Array Value} (h : AI w W S M) (b0 b1 b2 b3 b4 b5 b6 b7 : Int) (ok : Bool) : MkOut w (.returned (.tuple #[.agg #[.int .u16 b0, .int .u16 b1, .int .u16 b2, .int .u16 b3, .int .u16 b4, .int .u16 b5, .int .u16 b6, .int .u16 b7], .bool ok])) (set8 W (w.heap.size + 2) (.int .u16 b0) (.int .u16 b1) (.int .u16 b2) (.int .u16 b3) (.int .u16 b4) (.int .u16 b5) (.int .u16 b6) (.int .u16 b7)) ∧ Bk (set8 W (w.heap.size + 2) (.int .u16 b0) (.int .u16 b1) (.int .u16 b2) (.int .u16 b3) (.int .u16 b4) (.int .u16 b5) (.int .u16 b6) (.int .u16 b7)) (w.heap.size + 2) 124 #[.int .u16 b0, .int .u16 b1, .int .u16 b2, .int .u16 b3, .int .u16 b4, .int .u16 b5, .int .u16 b6, .int .u16 b7] :=
 ⟨⟨b0, b1, b2, b3, b4, b5, b6, b7, ok, rfl, set8_below h.b (by omega) _ _ _ _ _ _ _ _⟩, set8_bk h.r _ _ _ _ _ _ _ _⟩
section
variable (base : Nat) (nv mv : Value) (ns : List Nd) (ms : List Mr) (PA TA EA : Option Addr) (pn pc tn tc en ec : Nat) (w : World)
theorem add12_any (a0 a1 a2 a3 a4 a5 a6 a7 mark val : Int) (hD : DeclIn w base nv mv ns ms) : Calls Tryz.prog 114 #[.agg #[nv, mv, .slice PA pn pc, .slice TA tn tc, .slice EA en ec], .agg #[.int .u16 a0, .int .u16 a1, .int .u16 a2, .int .u16 a3, .int .u16 a4, .int .u16 a5, .int .u16 a6, .int .u16 a7], .int .i64 mark, .int .i64 val] w (MkOut w) := by
 obtain ⟨NA, nc, rfl, -, -, -, -⟩ := own_form hD.n
 obtain ⟨MA, mc, rfl, -, -, -, -⟩ := own_form hD.m
 have hml := hD.ml
 have hmy := fun m v W (hb : Below w.heap.size w W) => may12_any base _ _ ns ms PA TA EA pn pc tn tc en ec W m v (hD.below hb)
 have hbr := fun a b W (hb : Below w.heap.size w W) => bars_any base _ _ ns ms PA TA EA pn pc tn tc en ec W a b (hD.below hb)
 have HMY := Lib.hid hmy
 have HBR := Lib.hid hbr
 clear hmy hbr hD
 go_enter Tryz.func114, Tryz.ntmps114
 go_upto_region 1 with fail
 have hI0 : AI w (((w.alloc (.cells #[.slice NA ns.length nc, .slice MA ms.length mc, .slice PA pn pc, .slice TA tn tc, .slice EA en ec] 32)).alloc (.cells #[.int .u16 a0, .int .u16 a1, .int .u16 a2, .int .u16 a3, .int .u16 a4, .int .u16 a5, .int .u16 a6, .int .u16 a7] 124)).alloc (.cells #[.int .u16 0, .int .u16 0, .int .u16 0, .int .u16 0, .int .u16 0, .int .u16 0, .int .u16 0, .int .u16 0] 124)) #[.slice NA ns.length nc, .slice MA ms.length mc, .slice PA pn pc, .slice TA tn tc, .slice EA en ec] #[.int .u16 a0, .int .u16 a1, .int .u16 a2, .int .u16 a3, .int .u16 a4, .int .u16 a5, .int .u16 a6, .int .u16 a7] := ⟨((Bk.new w _ _).alloc _).alloc _, (Bk.made _ _ (by simp)).alloc _, Bk.made _ _ (by simp), belowA⟩
 generalize ((w.alloc (.cells #[.slice NA ns.length nc, .slice MA ms.length mc, .slice PA pn pc, .slice TA tn tc, .slice EA en ec] 32)).alloc (.cells #[.int .u16 a0, .int .u16 a1, .int .u16 a2, .int .u16 a3, .int .u16 a4, .int .u16 a5, .int .u16 a6, .int .u16 a7] 124)).alloc (.cells #[.int .u16 0, .int .u16 0, .int .u16 0, .int .u16 0, .int .u16 0, .int .u16 0, .int .u16 0, .int .u16 0] 124) = w0 at *
 obtain ⟨s0, s1, s2, s3, s4⟩ := bk5 hI0.s
 go_wp2_with (go_at_call 110; fail)
 refine (HMY.out mark val _ hI0.b).mono ?_
 rintro e w1 ⟨ok, rfl, hok, hb1⟩
 have hI1 := hI0.below hb1
 clear s0 s1 s2 s3 s4 hI0 hb1
 obtain ⟨m0, m1, m2, m3, m4, m5, m6, m7⟩ := bk8 hI1.m
 obtain ⟨r0, r1, r2, r3, r4, r5, r6, r7⟩ := bk8 hI1.r
 have rf := hI1.r.frozen; have rl := def_lt' hI1.r
 cases ok with
 | false =>
   clear hok
   go_wp2
   obtain ⟨hL1, hL2⟩ := hI1.end_ a0 a1 a2 a3 a4 a5 a6 a7 false
   unfold set8 at hL1 hL2
   obtain ⟨z0, z1, z2, z3, z4, z5, z6, z7⟩ := bk8 hL2
   exact bodyPost_ret (v := .tuple #[.agg #[.int .u16 a0, .int .u16 a1, .int .u16 a2, .int .u16 a3, .int .u16 a4, .int .u16 a5, .int .u16 a6, .int .u16 a7], .bool false]) (by simp [results, Tryz.results114, go_sem, z0, z1, z2, z3, z4, z5, z6, z7]) rfl hL1
 | true =>
   obtain ⟨hm0, hm1⟩ := hok rfl
   obtain ⟨k, rfl⟩ : ∃ k : Nat, mark = (k : Int) := ⟨mark.toNat, by omega⟩
   have hk7 : k ≤ 7 := by omega
   have hk8 : (k : Int) ≤ 7 := by omega
   clear hok
   go_upto_region 4 with fail
   have hI2 : AI w (w1.alloc (.cells #[.int .u16 a0, .int .u16 a1, .int .u16 a2, .int .u16 a3, .int .u16 a4, .int .u16 a5, .int .u16 a6, .int .u16 a7] 124)) #[.slice NA ns.length nc, .slice MA ms.length mc, .slice PA pn pc, .slice TA tn tc, .slice EA en ec] #[.int .u16 a0, .int .u16 a1, .int .u16 a2, .int .u16 a3, .int .u16 a4, .int .u16 a5, .int .u16 a6, .int .u16 a7] := hI1.below ((Below.refl _ _).alloc (Nat.le_refl _) _)
   have hO2 : MkAt (w1.alloc (.cells #[.int .u16 a0, .int .u16 a1, .int .u16 a2, .int .u16 a3, .int .u16 a4, .int .u16 a5, .int .u16 a6, .int .u16 a7] 124)) w1.heap.size := ⟨_, _, _, _, _, _, _, _, Bk.new w1 _ _⟩
   obtain ⟨ob, hob⟩ : ∃ ob, ob = w1.heap.size := ⟨_, rfl⟩
   have hol : w.heap.size + 2 < ob := by omega
   rw [← hob] at hO2 ⊢
   generalize w1.alloc (.cells #[.int .u16 a0, .int .u16 a1, .int .u16 a2, .int .u16 a3, .int .u16 a4, .int .u16 a5, .int .u16 a6, .int .u16 a7] 124) = w2 at *
   clear hob m0 m1 m2 m3 m4 m5 m6 m7 r0 r1 r2 r3 r4 r5 r6 r7 rf rl hI1
   go_wp2
   go_loopw [11] (fun j wr => ∃ q : Nat, q ≤ 8 ∧ j = .int .i64 q ∧ Hid (AI w wr #[.slice NA ns.length nc, .slice MA ms.length mc, .slice PA pn pc, .slice TA tn tc, .slice EA en ec] #[.int .u16 a0, .int .u16 a1, .int .u16 a2, .int .u16 a3, .int .u16 a4, .int .u16 a5, .int .u16 a6, .int .u16 a7]) ∧ Hid (MkAt wr ob)) (fun j _ => 8 - (intOf j).toNat)
   case atStart => exact ⟨0, by omega, rfl, Lib.hid hI2, Lib.hid hO2⟩
   case round =>
    clear hI2 hO2
    obtain ⟨q, hq, rfl, hI, hO⟩ := hrel
    by_cases hlt : q < 8
    ·have e3 : (q : Int) < 8 := by omega
     have e3' : (0 : Int) ≤ q := by omega
     have hNext : ∀ W, AI w W #[.slice NA ns.length nc, .slice MA ms.length mc, .slice PA pn pc, .slice TA tn tc, .slice EA en ec] #[.int .u16 a0, .int .u16 a1, .int .u16 a2, .int .u16 a3, .int .u16 a4, .int .u16 a5, .int .u16 a6, .int .u16 a7] → MkAt W ob → True := fun _ _ _ => trivial
     clear hNext
     cases hqk : ((q : Int) == k)
     ·obtain ⟨m0, m1, m2, m3, m4, m5, m6, m7⟩ := bk8 hI.out.m
      go_wp2_with (go_at_call 159; fail)
      refine (value12_any a0 a1 a2 a3 a4 a5 a6 a7 q _).mono ?_
      rintro e w3 ⟨v, rfl, -, hb3⟩
      have hI3 := Lib.hid (hI.out.below hb3)
      have hO3 := Lib.hid (hO.out.ext hb3)
      clear m0 m1 m2 m3 m4 m5 m6 m7 hI hO hb3
      by_cases hv : v < 0
      ·go_wp2
       go_roundw
       case rel => exact ⟨q + 1, by omega, by go_num, hI3, hO3⟩
       case measure => simp [intOf]; omega
      obtain ⟨s0, s1, s2, s3, s4⟩ := bk5 hI3.out.s
      go_wp2_with (go_at_call 160; fail)
      refine (HBR.out q k _ hI3.out.b).mono ?_
      rintro e w4 ⟨⟨b4, rfl⟩, hb4⟩
      have hI4 := Lib.hid (hI3.out.below hb4)
      have hO4 := Lib.hid (hO3.out.ext hb4)
      clear s0 s1 s2 s3 s4 hI3 hO3 hb4
      obtain ⟨s0, s1, s2, s3, s4⟩ := bk5 hI4.out.s
      cases b4 with
      | false =>
        go_wp2_with (go_at_call 160; fail)
        refine (HBR.out k q _ hI4.out.b).mono ?_
        rintro e w5 ⟨⟨b5, rfl⟩, hb5⟩
        have hI5 := Lib.hid (hI4.out.below hb5)
        have hO5 := Lib.hid (hO4.out.ext hb5)
        clear s0 s1 s2 s3 s4 hI4 hO4 hb5
        cases b5 with
        | false =>
          go_wp2
          go_roundw
          case rel => exact ⟨q + 1, by omega, by go_num, hI5, hO5⟩
          case measure => simp [intOf]; omega
        | true =>
          obtain ⟨ox, hox⟩ := hO5.out.cell (show q ≤ 7 by omega)
          have of_ := hO5.out.frozen; have ol := hO5.out.lt
          go_wp2
          go_roundw
          case rel => exact ⟨q + 1, by omega, by go_num, Lib.hid (hI5.out.put hol), Lib.hid (hO5.out.put (by omega) 0)⟩
          case measure => simp [intOf]; omega
      | true =>
        go_wp2_with (go_at_call 160; fail)
        refine (HBR.out k q _ hI4.out.b).mono ?_
        rintro e w4' ⟨⟨b4', rfl⟩, hb4'⟩
        have hI4' := Lib.hid (hI4.out.below hb4')
        have hO4' := Lib.hid (hO4.out.ext hb4')
        clear s0 s1 s2 s3 s4 hI4 hO4 hb4'
        cases b4' with
        | false =>
          obtain ⟨m0, m1, m2, m3, m4, m5, m6, m7⟩ := bk8 hI4'.out.m
          obtain ⟨r0, r1, r2, r3, r4, r5, r6, r7⟩ := bk8 hI4'.out.r
          have rf := hI4'.out.r.frozen; have rl := def_lt' hI4'.out.r
          go_wp2
          obtain ⟨hL1, hL2⟩ := hI4'.out.end_ a0 a1 a2 a3 a4 a5 a6 a7 false
          unfold set8 at hL1 hL2
          obtain ⟨z0, z1, z2, z3, z4, z5, z6, z7⟩ := bk8 hL2
          exact bodyPost_ret (v := .tuple #[.agg #[.int .u16 a0, .int .u16 a1, .int .u16 a2, .int .u16 a3, .int .u16 a4, .int .u16 a5, .int .u16 a6, .int .u16 a7], .bool false]) (by simp [results, Tryz.results114, go_sem, z0, z1, z2, z3, z4, z5, z6, z7]) rfl hL1
        | true =>
          obtain ⟨s0, s1, s2, s3, s4⟩ := bk5 hI4'.out.s
          go_wp2_with (go_at_call 160; fail)
          refine (HBR.out k q _ hI4'.out.b).mono ?_
          rintro e w5 ⟨⟨b5, rfl⟩, hb5⟩
          have hI5 := Lib.hid (hI4'.out.below hb5)
          have hO5 := Lib.hid (hO4'.out.ext hb5)
          clear s0 s1 s2 s3 s4 hI4' hO4' hb5
          cases b5 with
          | false =>
            go_wp2
            go_roundw
            case rel => exact ⟨q + 1, by omega, by go_num, hI5, hO5⟩
            case measure => simp [intOf]; omega
          | true =>
            obtain ⟨ox, hox⟩ := hO5.out.cell (show q ≤ 7 by omega)
            have of_ := hO5.out.frozen; have ol := hO5.out.lt
            go_wp2
            go_roundw
            case rel => exact ⟨q + 1, by omega, by go_num, Lib.hid (hI5.out.put hol), Lib.hid (hO5.out.put (by omega) 0)⟩
            case measure => simp [intOf]; omega
     ·go_wp2
      go_roundw
      case rel => exact ⟨q + 1, by omega, by go_num, hI, hO⟩
      case measure => simp [intOf]; omega
    ·obtain rfl : q = 8 := by omega
     obtain ⟨ox, hox⟩ := hO.out.cell hk7
     have of_ := hO.out.frozen; have ol := hO.out.lt
     go_upto_region 13 with fail
     have hput := fun (x : Int) => And.intro (hI.out.put (k := k) (u := .int .u16 x) hol) (hO.out.put hk7 x)
     have HP := Lib.hid hput
     clear hput hox of_ ol hI hO
     generalize IntKind.u16.wrap (wrap64 (val + 1)) = nx at *
     obtain ⟨hI9, b0, b1, b2, b3, b4, b5, b6, b7, hO9⟩ := HP.out nx
     generalize wr.setCell ⟨ob, k, none⟩ (.int .u16 nx) = w9 at *
     obtain ⟨m0, m1, m2, m3, m4, m5, m6, m7⟩ := bk8 hO9
     obtain ⟨r0, r1, r2, r3, r4, r5, r6, r7⟩ := bk8 hI9.r
     have rf := hI9.r.frozen; have rl := def_lt' hI9.r
     go_wp2
     obtain ⟨hL1, hL2⟩ := hI9.end_ b0 b1 b2 b3 b4 b5 b6 b7 true
     unfold set8 at hL1 hL2
     obtain ⟨z0, z1, z2, z3, z4, z5, z6, z7⟩ := bk8 hL2
     exact bodyPost_ret (v := .tuple #[.agg #[.int .u16 b0, .int .u16 b1, .int .u16 b2, .int .u16 b3, .int .u16 b4, .int .u16 b5, .int .u16 b6, .int .u16 b7], .bool true]) (by simp [results, Tryz.results114, go_sem, z0, z1, z2, z3, z4, z5, z6, z7]) rfl hL1
end
end Go.Proofs.YtmacfoebfpljoaaGreat
namespace Go.Proofs.YtmacfoebfpljoaaGreat
open Go.RowKit
theorem eqtok_any (A A' : Option Addr) (n n' c c' : Nat) (l l' : List Tok) (w : World) (hn : n ≤ maxLen) (hrd : n = n' → Rd w w.heap.size 12 A n (toks l)) (hrd' : n = n' → Rd w w.heap.size 12 A' n' (toks l')) (hl : l.length = n) (hl' : l'.length = n') :
 Calls Tryz.prog 107 #[.slice A n c, .slice A' n' c'] w fun e w' => e = .returned (.bool (decide (l = l'))) ∧ Below w.heap.size w w' := by
 unfold maxLen at hn
 by_cases hne : n = n'
 ·subst hne
  have h1 := hrd rfl
  have h2 := hrd' rfl
  have HL := Lib.hid hl
  have HL' := Lib.hid hl'
  clear hrd hrd' hl hl'
  go_enter Tryz.func107, Tryz.ntmps107
  go_wp2
  go_loopw [13] (fun i wr => ∃ k : Nat, k ≤ n ∧ i = .int .i64 k ∧ Hid (l.take k = l'.take k) ∧ Below w.heap.size w wr) (fun i _ => n - (intOf i).toNat)
  case atStart => exact ⟨0, by omega, rfl, rfl, Below.refl _ _⟩
  case round =>
   obtain ⟨k, hk, rfl, hI, hbr⟩ := hrel
   by_cases hkn : k < n
   ·obtain ⟨r, hx⟩ : ∃ r, l[k]? = some r := ⟨_, List.getElem?_eq_getElem (by have := HL.out; omega)⟩
    obtain ⟨r', hx'⟩ : ∃ r, l'[k]? = some r := ⟨_, List.getElem?_eq_getElem (by have := HL'.out; omega)⟩
    obtain ⟨b, o, rfl, hb, hcc⟩ := (h1.below hbr).el Tok.cells (fun _ => rfl) HL.out hx
    obtain ⟨b', o', rfl, hb', hdd⟩ := (h2.below hbr).el Tok.cells (fun _ => rfl) HL'.out hx'
    have e3 : (k : Int) < n := by omega
    have hst : l.take (k + 1) = l.take k ++ [r] := by rw [List.take_add_one, hx]; rfl
    have hst' : l'.take (k + 1) = l'.take k ++ [r'] := by rw [List.take_add_one, hx']; rfl
    have hc0 := hcc 0 (by omega); have hd0 := hdd 0 (by omega)
    have hc1 := hcc 1 (by omega); have hd1 := hdd 1 (by omega)
    have hc2 := hcc 2 (by omega); have hd2 := hdd 2 (by omega)
    have hc3 := hcc 3 (by omega); have hd3 := hdd 3 (by omega)
    have hc4 := hcc 4 (by omega); have hd4 := hdd 4 (by omega)
    have hc5 := hcc 5 (by omega); have hd5 := hdd 5 (by omega)
    have hc6 := hcc 6 (by omega); have hd6 := hdd 6 (by omega)
    have hc7 := hcc 7 (by omega); have hd7 := hdd 7 (by omega)
    have hc8 := hcc 8 (by omega); have hd8 := hdd 8 (by omega)
    have hc9 := hcc 9 (by omega); have hd9 := hdd 9 (by omega)
    have hc10 := hcc 10 (by omega); have hd10 := hdd 10 (by omega)
    have hc11 := hcc 11 (by omega); have hd11 := hdd 11 (by omega)
    have HS := Lib.hid hst
    have HS' := Lib.hid hst'
    have HX := Lib.hid hx
    have HX' := Lib.hid hx'
    have hbb : tokB r r' = decide (r = r') := rfl
    have HD : Hid (r = r' ∨ ¬ r = r') := Lib.hid (Decidable.em _)
    clear hst hst' hx hx' hcc hdd
    rcases HD.out with heq | heq
    ·rw [decide_eq_true heq] at hbb
     have HN : Hid (l.take (k + 1) = l'.take (k + 1)) := Lib.hid (by rw [HS.out, HS'.out, hI.out, heq])
     clear HS HS' hI HX HX' HD heq
     obtain ⟨a0, a1, a2, a3, ⟨a4, a5, a6, a7, a8, a9, a10, a11⟩⟩ := r
     obtain ⟨b0, b1, b2, b3, ⟨b4, b5, b6, b7, b8, b9, b10, b11⟩⟩ := r'
     dsimp [Tok.cells, Mk.cells] at hc0 hd0 hc1 hd1 hc2 hd2 hc3 hd3 hc4 hd4 hc5 hd5 hc6 hd6 hc7 hd7 hc8 hd8 hc9 hd9 hc10 hd10 hc11 hd11
     have hq : ∀ w, (Op.equalIn 10000 126 (.agg #[.int .i64 a0, .int .i64 a1, .int .i64 a2, .int .i32 a3, .int .u16 a4, .int .u16 a5, .int .u16 a6, .int .u16 a7, .int .u16 a8, .int .u16 a9, .int .u16 a10, .int .u16 a11]) (.agg #[.int .i64 b0, .int .i64 b1, .int .i64 b2, .int .i32 b3, .int .u16 b4, .int .u16 b5, .int .u16 b6, .int .u16 b7, .int .u16 b8, .int .u16 b9, .int .u16 b10, .int .u16 b11])).run Tryz.prog w = .ok true w := fun w => by rw [eq_tok_at, hbb]
     clear hbb
     go_wp2
     go_quiet (fail)
     go_wp2
     go_roundw
     case rel => exact ⟨k + 1, by omega, by go_num, HN, below_drewN hbr _⟩
     case measure => simp [intOf]; omega
    ·rw [decide_eq_false heq] at hbb
     have hbad : decide (l = l') = false := by
      refine decide_eq_false fun e => heq ?_
      have h1 := HX.out; have h2 := HX'.out
      rw [e, h2] at h1
      injection h1 with h1
      exact h1.symm
     have HB := Lib.hid hbad
     clear hbad HS HS' HX HX' hI heq HD
     obtain ⟨a0, a1, a2, a3, ⟨a4, a5, a6, a7, a8, a9, a10, a11⟩⟩ := r
     obtain ⟨b0, b1, b2, b3, ⟨b4, b5, b6, b7, b8, b9, b10, b11⟩⟩ := r'
     dsimp [Tok.cells, Mk.cells] at hc0 hd0 hc1 hd1 hc2 hd2 hc3 hd3 hc4 hd4 hc5 hd5 hc6 hd6 hc7 hd7 hc8 hd8 hc9 hd9 hc10 hd10 hc11 hd11
     have hq : ∀ w, (Op.equalIn 10000 126 (.agg #[.int .i64 a0, .int .i64 a1, .int .i64 a2, .int .i32 a3, .int .u16 a4, .int .u16 a5, .int .u16 a6, .int .u16 a7, .int .u16 a8, .int .u16 a9, .int .u16 a10, .int .u16 a11]) (.agg #[.int .i64 b0, .int .i64 b1, .int .i64 b2, .int .i32 b3, .int .u16 b4, .int .u16 b5, .int .u16 b6, .int .u16 b7, .int .u16 b8, .int .u16 b9, .int .u16 b10, .int .u16 b11])).run Tryz.prog w = .ok false w := fun w => by rw [eq_tok_at, hbb]
     clear hbb
     go_wp2
     go_quiet (fail)
     go_wp2
     go_ret
     exact ⟨ret_bool HB.out.symm, below_drewN hbr _⟩
   ·obtain rfl : n = k := by omega
    have hall : decide (l = l') = true := by
     have := hI.out
     rw [List.take_of_length_le (by rw [HL.out]; omega), List.take_of_length_le (by rw [HL'.out]; omega)] at this
     exact decide_eq_true this
    have HB := Lib.hid hall
    clear hall hI
    go_wp2
    go_ret
    exact ⟨ret_bool HB.out.symm, hbr⟩
 ·have hbad : decide (l = l') = false := decide_eq_false fun e => hne (by rw [← hl, ← hl', e])
  have HB := Lib.hid hbad
  have e1 : ((n : Int) == (n' : Int)) = false := by simp; omega
  clear hrd hrd' hl hl' hbad
  go_enter Tryz.func107, Tryz.ntmps107
  go_wp2
  go_ret
  exact ⟨ret_bool HB.out.symm, Below.refl _ _⟩
theorem eqmk_any (A A' : Option Addr) (n n' c c' : Nat) (l l' : List Mk) (w : World) (hn : n ≤ maxLen) (hrd : n = n' → Rd w w.heap.size 8 A n (mks l)) (hrd' : n = n' → Rd w w.heap.size 8 A' n' (mks l')) (hl : l.length = n) (hl' : l'.length = n') :
 Calls Tryz.prog 143 #[.slice A n c, .slice A' n' c'] w fun e w' => e = .returned (.bool (decide (l = l'))) ∧ Below w.heap.size w w' := by
 unfold maxLen at hn
 by_cases hne : n = n'
 ·subst hne
  have h1 := hrd rfl
  have h2 := hrd' rfl
  have HL := Lib.hid hl
  have HL' := Lib.hid hl'
  clear hrd hrd' hl hl'
  go_enter Tryz.func143, Tryz.ntmps143
  go_wp2
  go_loopw [13] (fun i wr => ∃ k : Nat, k ≤ n ∧ i = .int .i64 k ∧ Hid (l.take k = l'.take k) ∧ Below w.heap.size w wr) (fun i _ => n - (intOf i).toNat)
  case atStart => exact ⟨0, by omega, rfl, rfl, Below.refl _ _⟩
  case round =>
   obtain ⟨k, hk, rfl, hI, hbr⟩ := hrel
   by_cases hkn : k < n
   ·obtain ⟨r, hx⟩ : ∃ r, l[k]? = some r := ⟨_, List.getElem?_eq_getElem (by have := HL.out; omega)⟩
    obtain ⟨r', hx'⟩ : ∃ r, l'[k]? = some r := ⟨_, List.getElem?_eq_getElem (by have := HL'.out; omega)⟩
    obtain ⟨b, o, rfl, hb, hcc⟩ := (h1.below hbr).el Mk.cells (fun _ => rfl) HL.out hx
    obtain ⟨b', o', rfl, hb', hdd⟩ := (h2.below hbr).el Mk.cells (fun _ => rfl) HL'.out hx'
    have e3 : (k : Int) < n := by omega
    have hst : l.take (k + 1) = l.take k ++ [r] := by rw [List.take_add_one, hx]; rfl
    have hst' : l'.take (k + 1) = l'.take k ++ [r'] := by rw [List.take_add_one, hx']; rfl
    have hc0 := hcc 0 (by omega); have hd0 := hdd 0 (by omega)
    have hc1 := hcc 1 (by omega); have hd1 := hdd 1 (by omega)
    have hc2 := hcc 2 (by omega); have hd2 := hdd 2 (by omega)
    have hc3 := hcc 3 (by omega); have hd3 := hdd 3 (by omega)
    have hc4 := hcc 4 (by omega); have hd4 := hdd 4 (by omega)
    have hc5 := hcc 5 (by omega); have hd5 := hdd 5 (by omega)
    have hc6 := hcc 6 (by omega); have hd6 := hdd 6 (by omega)
    have hc7 := hcc 7 (by omega); have hd7 := hdd 7 (by omega)
    have HS := Lib.hid hst
    have HS' := Lib.hid hst'
    have HX := Lib.hid hx
    have HX' := Lib.hid hx'
    have hbb : mkB r r' = decide (r = r') := rfl
    have HD : Hid (r = r' ∨ ¬ r = r') := Lib.hid (Decidable.em _)
    clear hst hst' hx hx' hcc hdd
    rcases HD.out with heq | heq
    ·rw [decide_eq_true heq] at hbb
     have HN : Hid (l.take (k + 1) = l'.take (k + 1)) := Lib.hid (by rw [HS.out, HS'.out, hI.out, heq])
     clear HS HS' hI HX HX' HD heq
     obtain ⟨a0, a1, a2, a3, a4, a5, a6, a7⟩ := r
     obtain ⟨b0, b1, b2, b3, b4, b5, b6, b7⟩ := r'
     dsimp [Mk.cells] at hc0 hd0 hc1 hd1 hc2 hd2 hc3 hd3 hc4 hd4 hc5 hd5 hc6 hd6 hc7 hd7
     have hq : ∀ w, (Op.equalIn 10000 124 (.agg #[.int .u16 a0, .int .u16 a1, .int .u16 a2, .int .u16 a3, .int .u16 a4, .int .u16 a5, .int .u16 a6, .int .u16 a7]) (.agg #[.int .u16 b0, .int .u16 b1, .int .u16 b2, .int .u16 b3, .int .u16 b4, .int .u16 b5, .int .u16 b6, .int .u16 b7])).run Tryz.prog w = .ok true w := fun w => by rw [eq_mk_at, hbb]
     clear hbb
     go_wp2
     go_quiet (fail)
     go_wp2
     go_roundw
     case rel => exact ⟨k + 1, by omega, by go_num, HN, below_drewN hbr _⟩
     case measure => simp [intOf]; omega
    ·rw [decide_eq_false heq] at hbb
     have hbad : decide (l = l') = false := by
      refine decide_eq_false fun e => heq ?_
      have h1 := HX.out; have h2 := HX'.out
      rw [e, h2] at h1
      injection h1 with h1
      exact h1.symm
     have HB := Lib.hid hbad
     clear hbad HS HS' HX HX' hI heq HD
     obtain ⟨a0, a1, a2, a3, a4, a5, a6, a7⟩ := r
     obtain ⟨b0, b1, b2, b3, b4, b5, b6, b7⟩ := r'
     dsimp [Mk.cells] at hc0 hd0 hc1 hd1 hc2 hd2 hc3 hd3 hc4 hd4 hc5 hd5 hc6 hd6 hc7 hd7
     have hq : ∀ w, (Op.equalIn 10000 124 (.agg #[.int .u16 a0, .int .u16 a1, .int .u16 a2, .int .u16 a3, .int .u16 a4, .int .u16 a5, .int .u16 a6, .int .u16 a7]) (.agg #[.int .u16 b0, .int .u16 b1, .int .u16 b2, .int .u16 b3, .int .u16 b4, .int .u16 b5, .int .u16 b6, .int .u16 b7])).run Tryz.prog w = .ok false w := fun w => by rw [eq_mk_at, hbb]
     clear hbb
     go_wp2
     go_quiet (fail)
     go_wp2
     go_ret
     exact ⟨ret_bool HB.out.symm, below_drewN hbr _⟩
   ·obtain rfl : n = k := by omega
    have hall : decide (l = l') = true := by
     have := hI.out
     rw [List.take_of_length_le (by rw [HL.out]; omega), List.take_of_length_le (by rw [HL'.out]; omega)] at this
     exact decide_eq_true this
    have HB := Lib.hid hall
    clear hall hI
    go_wp2
    go_ret
    exact ⟨ret_bool HB.out.symm, hbr⟩
 ·have hbad : decide (l = l') = false := decide_eq_false fun e => hne (by rw [← hl, ← hl', e])
  have HB := Lib.hid hbad
  have e1 : ((n : Int) == (n' : Int)) = false := by simp; omega
  clear hrd hrd' hl hl' hbad
  go_enter Tryz.func143, Tryz.ntmps143
  go_wp2
  go_ret
  exact ⟨ret_bool HB.out.symm, Below.refl _ _⟩
theorem tsame_any (A A' : Option Addr) (n n' c c' : Nat) (l l' : List Tok) (w : World) (hn : n ≤ maxLen) (hrd : n = n' → Rd w w.heap.size 12 A n (toks l)) (hrd' : n = n' → Rd w w.heap.size 12 A' n' (toks l')) (hl : l.length = n) (hl' : l'.length = n') :
 Calls Tryz.prog 53 #[.slice A n c, .slice A' n' c'] w fun e w' => e = .returned (.bool (decide (l = l'))) ∧ Below w.heap.size w w' := by
 have h := eqtok_any A A' n n' c c' l l' w hn hrd hrd' hl hl'
 have H := Lib.hid h
 clear h hrd hrd' hl hl'
 go_enter Tryz.func53, Tryz.ntmps53
 go_wp2_with (go_at_call 107; refine H.out.mono ?_; rintro e w1 ⟨rfl, hb1⟩)
 go_ret
 exact ⟨rfl, hb1⟩
end Go.Proofs.YtmacfoebfpljoaaGreat
namespace Go.Proofs.YtmacfoebfpljoaaGreat
open Go.RowKit
set_option linter.unusedVariables false
/-- what a token does to the depth -/
def dk (k : Int) : Int := if k = 1 then 1 else if k = 2 then -1 else 0
/-- how deep a row is behind i tokens -/
def dep (l : List Tok) (i : Nat) : Int := ((l.take i).map fun t => dk t.k).sum
theorem dep_zero (l : List Tok) : dep l 0 = 0 := by simp [dep]
theorem dep_succ {l : List Tok} {i : Nat} {t : Tok} (h : l[i]? = some t) : dep l (i + 1) = dep l i + dk t.k := by
 unfold dep
 rw [List.take_add_one, h, Option.toList_some, List.map_append, List.sum_append]; simp
theorem dep_nil (l : List Tok) (i : Nat) (h : i ≤ 0) : 0 ≤ dep l i := by
 obtain rfl : i = 0 := by omega
 rw [dep_zero]; exact Int.le_refl _
theorem dk_bd (k : Int) : -1 ≤ dk k ∧ dk k ≤ 1 := by unfold dk; split <;> (try split) <;> omega
/-- a whole row -/
structure Wh (l : List Tok) : Prop where
 nn : ∀ i, i ≤ l.length → 0 ≤ dep l i
 z : dep l l.length = 0
def WhOut (l : List Tok) (w : World) (e : Ending) (w' : World) : Prop := ∃ b : Bool, e = .returned (.bool b) ∧ (b = true → Wh l) ∧ Below w.heap.size w w'
theorem tok_at {w : World} {n k : Nat} {A : Option Addr} {l : List Tok} (h : Rd w w.heap.size 12 A n (toks l)) (hk : k < n) : ∃ (b o : Nat) (t : Tok), l[k]? = some t ∧ A = some ⟨b, o, none⟩ ∧ b < w.heap.size ∧ ∀ i, i < 12 → w.cell? ⟨b, o + k * 12 + i, none⟩ = t.cells[i]? := by
 have hl := h.tlen
 have hkl : k < l.length := by omega
 have hx : l[k]? = some l[k] := List.getElem?_eq_getElem hkl
 obtain ⟨b, o, e, hb, hc⟩ := Rd.el Tok.cells (fun _ => rfl) h hl hx
 exact ⟨b, o, _, hx, e, hb, hc⟩
theorem whole14_any (A : Option Addr) (n c : Nat) (l : List Tok) (w : World) (h : Rd w w.heap.size 12 A n (toks l)) (hn : n ≤ 100000) : Calls Tryz.prog 162 #[.slice A n c] w (WhOut l w) := by
 have hl := Lib.hid h.tlen
 have H := Lib.hid h
 clear h
 go_enter Tryz.func162, Tryz.ntmps162
 go_wp2
 go_loop [3, 4] (fun d j => ∃ (k : Nat) (z : Int), k ≤ n ∧ j = .int .i64 k ∧ d = .int .i64 z ∧ 0 ≤ z ∧ z ≤ 40 ∧ Hid (z = dep l k ∧ ∀ i, i ≤ k → 0 ≤ dep l i)) (fun _ j => n - (intOf j).toNat)
 case atStart => exact ⟨0, 0, by omega, rfl, rfl, by omega, by omega, Lib.hid ⟨(dep_zero l).symm, dep_nil l⟩⟩
 case round =>
  obtain ⟨k, z, hk, rfl, rfl, hz0, hz1, hz⟩ := hrel
  by_cases hlt : k < n
  ·have e3 : (k : Int) < n := by omega
   obtain ⟨b, o, t, ht, rfl, hb, hc⟩ := tok_at H.out hlt
   have c0 : w.cell? ⟨b, o + k * 12, none⟩ = some (.int .i64 t.k) := hc 0 (by omega)
   have hd := dep_succ ht
   obtain ⟨tk, tt, ta, tr, tm⟩ := t
   dsimp only at c0 hd
   have HD := Lib.hid hd
   clear hc hd ht
   have hstep : ∀ z' : Int, z' = z + dk tk → 0 ≤ z' → Hid (z' = dep l (k + 1) ∧ ∀ i, i ≤ k + 1 → 0 ≤ dep l i) := fun z' h1 h2 => Lib.hid (by
    have h3 : z' = dep l (k + 1) := by rw [HD.out, h1, ← hz.out.1]
    refine ⟨h3, fun i hi => ?_⟩
    by_cases hi' : i = k + 1
    ·subst hi'; omega
    ·exact hz.out.2 i (by omega))
   have HS := Lib.hid hstep
   clear hstep
   by_cases h1 : tk = 1
   ·have e1 : (tk == 1) = true := by simp [h1]
    have e2 : (tk == 2) = false := by simp [h1]
    have hdk : dk tk = 1 := by simp [dk, h1]
    have HK := Lib.hid hdk
    clear h1 hdk
    by_cases h40 : z + 1 ≤ 40
    ·go_wp2
     go_round
     case rel => exact ⟨k + 1, z + 1, by omega, by go_num, rfl, by omega, by omega, HS.out _ (by rw [HK.out]) (by omega)⟩
     case measure => simp [intOf]; omega
    ·go_wp2
     go_ret
     exact ⟨false, rfl, (fun h => by cases h), Below.refl _ _⟩
   ·have e1 : (tk == 1) = false := beq_false_of_ne h1
    by_cases h2 : tk = 2
    ·have e2 : (tk == 2) = true := by simp [h2]
     have hdk : dk tk = -1 := by simp [dk, h2]
     have HK := Lib.hid hdk
     clear h1 h2 hdk
     by_cases h40 : 0 ≤ z - 1
     ·go_wp2
      go_round
      case rel => exact ⟨k + 1, z - 1, by omega, by go_num, rfl, by omega, by omega, HS.out _ (by rw [HK.out]; omega) (by omega)⟩
      case measure => simp [intOf]; omega
     ·go_wp2
      go_ret
      exact ⟨false, rfl, (fun h => by cases h), Below.refl _ _⟩
    ·have e2 : (tk == 2) = false := beq_false_of_ne h2
     have hdk : dk tk = 0 := by simp [dk, h1, h2]
     have HK := Lib.hid hdk
     clear h1 h2 hdk
     go_wp2
     go_round
     case rel => exact ⟨k + 1, z, by omega, by go_num, rfl, by omega, by omega, HS.out _ (by rw [HK.out]; omega) (by omega)⟩
     case measure => simp [intOf]; omega
  ·obtain rfl : k = n := by omega
   have hw : (z == 0) = true → Wh l := fun h0 => by
    have h1 : z = 0 := by simpa using h0
    exact ⟨fun i hi => hz.out.2 i (by rw [hl.out] at hi; exact hi), by rw [hl.out, ← hz.out.1, h1]⟩
   have HW := Lib.hid hw
   clear hw
   go_wp2
   go_ret
   exact ⟨_, rfl, HW.out, Below.refl _ _⟩
/-- letters, from one place to another -/
def Lets (l : List Tok) (a : Nat) (r : Nat) : Prop := ∀ j, a ≤ j → j ≤ r → ∃ t, l[j]? = some t ∧ t.k = 4
/-- where the node at a place is shut -/
def ShutIs (l : List Tok) (a : Nat) (r : Int) : Prop :=
 (∃ q : Nat, r = q ∧ a ≤ q ∧ q < l.length ∧ Lets l a q) ∨
 (∃ t, l[a]? = some t ∧ t.k ≠ 4 ∧ ((r = -1 ∧ ∀ j, a < j → j ≤ l.length → dep l a < dep l j) ∨ ∃ q : Nat, r = q ∧ a ≤ q ∧ q < l.length ∧ dep l (q + 1) ≤ dep l a ∧ ∀ j, a < j → j ≤ q → dep l a < dep l j))
def ShutOut (l : List Tok) (a : Nat) (w : World) (e : Ending) (w' : World) : Prop := ∃ r : Int, e = .returned (.int .i64 r) ∧ -1 ≤ r ∧ r < l.length ∧ ShutIs l a r ∧ Below w.heap.size w w'
theorem mkB_cases (a b : Mk) : mkB a b = true ∨ mkB a b = false := by cases mkB a b <;> simp
theorem shut14_any (A : Option Addr) (n c a : Nat) (l : List Tok) (w : World) (h : Rd w w.heap.size 12 A n (toks l)) (hn : n ≤ 100000) (ha : a < n) : Calls Tryz.prog 164 #[.slice A n c, .int .i64 a] w (ShutOut l a w) := by
 have hl := h.tlen
 obtain ⟨b, o, t, ht, rfl, hb, hc⟩ := tok_at h ha
 have c0 : w.cell? ⟨b, o + a * 12, none⟩ = some (.int .i64 t.k) := hc 0 (by omega)
 have H := Lib.hid h
 have a0 : (0 : Int) ≤ a := by omega
 have a1 : (a : Int) < n := by omega
 have HT := Lib.hid ht
 have HL := Lib.hid hl
 clear h hc ht hl
 by_cases h4 : t.k = 4
 ·have e4 : (t.k == 4) = true := by simp [h4]
  have hst : Lets l a a := fun j h1 h2 => by
   obtain rfl : j = a := by omega
   exact ⟨t, HT.out, h4⟩
  have HST := Lib.hid hst
  generalize t.k = tk at *
  clear h4 hst
  go_enter Tryz.func164, Tryz.ntmps164
  go_wp2
  clear c0 a0 a1
  go_loopw [1] (fun j wr => ∃ q : Nat, a ≤ q ∧ q < n ∧ j = .int .i64 q ∧ Hid (Lets l a q) ∧ Below w.heap.size w wr) (fun j _ => n - (intOf j).toNat)
  case atStart => exact ⟨a, by omega, ha, rfl, HST, Below.refl _ _⟩
  case round =>
   obtain ⟨q, hq1, hq2, rfl, hle, hbr⟩ := hrel
   have q0 : (0 : Int) ≤ q := by omega
   have q1 : (q : Int) < n := by omega
   have hEnd : ∀ W, Below w.heap.size w W → ShutOut l a w (.returned (.int .i64 (q : Int))) W := fun W hW => ⟨q, rfl, by omega, by rw [HL.out]; omega, .inl ⟨q, rfl, hq1, by rw [HL.out]; omega, hle.out⟩, hW⟩
   have HE := Lib.hid hEnd
   clear hEnd
   by_cases hlt : q + 1 < n
   ·have e3 : (q : Int) + 1 < n := by omega
    have e3' : ((q + 1 : Nat) : Int) < n := by omega
    obtain ⟨b1, o1, y, hy, hA, -, hcy⟩ := tok_at ((H.out.below hbr).more hbr.size) hlt
    obtain ⟨b2, o2, z, hz, hA', hb2, hcz⟩ := tok_at ((H.out.below hbr).more hbr.size) hq2
    obtain ⟨rfl, rfl⟩ : b = b1 ∧ o = o1 := by simpa using hA
    obtain ⟨rfl, rfl⟩ : b = b2 ∧ o = o2 := by simpa using hA'
    obtain ⟨yk, yt, ya, yr, y0, y1, y2, y3, y4, y5, y6, y7⟩ := y
    obtain ⟨zk, zt, za, zr, z0, z1, z2, z3, z4, z5, z6, z7⟩ := z
    have p0 : wr.cell? ⟨b, o + (q + 1) * 12, none⟩ = some (.int .i64 yk) := hcy 0 (by omega)
    have p4 : wr.cell? ⟨b, o + (q + 1) * 12 + 4, none⟩ = some (.int .u16 y0) := hcy 4 (by omega)
    have p5 : wr.cell? ⟨b, o + (q + 1) * 12 + 5, none⟩ = some (.int .u16 y1) := hcy 5 (by omega)
    have p6 : wr.cell? ⟨b, o + (q + 1) * 12 + 6, none⟩ = some (.int .u16 y2) := hcy 6 (by omega)
    have p7 : wr.cell? ⟨b, o + (q + 1) * 12 + 7, none⟩ = some (.int .u16 y3) := hcy 7 (by omega)
    have p8 : wr.cell? ⟨b, o + (q + 1) * 12 + 8, none⟩ = some (.int .u16 y4) := hcy 8 (by omega)
    have p9 : wr.cell? ⟨b, o + (q + 1) * 12 + 9, none⟩ = some (.int .u16 y5) := hcy 9 (by omega)
    have p10 : wr.cell? ⟨b, o + (q + 1) * 12 + 10, none⟩ = some (.int .u16 y6) := hcy 10 (by omega)
    have p11 : wr.cell? ⟨b, o + (q + 1) * 12 + 11, none⟩ = some (.int .u16 y7) := hcy 11 (by omega)
    have r4 : wr.cell? ⟨b, o + q * 12 + 4, none⟩ = some (.int .u16 z0) := hcz 4 (by omega)
    have r5 : wr.cell? ⟨b, o + q * 12 + 5, none⟩ = some (.int .u16 z1) := hcz 5 (by omega)
    have r6 : wr.cell? ⟨b, o + q * 12 + 6, none⟩ = some (.int .u16 z2) := hcz 6 (by omega)
    have r7 : wr.cell? ⟨b, o + q * 12 + 7, none⟩ = some (.int .u16 z3) := hcz 7 (by omega)
    have r8 : wr.cell? ⟨b, o + q * 12 + 8, none⟩ = some (.int .u16 z4) := hcz 8 (by omega)
    have r9 : wr.cell? ⟨b, o + q * 12 + 9, none⟩ = some (.int .u16 z5) := hcz 9 (by omega)
    have r10 : wr.cell? ⟨b, o + q * 12 + 10, none⟩ = some (.int .u16 z6) := hcz 10 (by omega)
    have r11 : wr.cell? ⟨b, o + q * 12 + 11, none⟩ = some (.int .u16 z7) := hcz 11 (by omega)
    have HY := Lib.hid hy
    clear hA hA' hcy hcz hy hz
    by_cases h4 : yk = 4
    ·have e5 : (yk == 4) = true := by simp [h4]
     have hnx : Lets l a (q + 1) := fun j h1 h2 => by
      by_cases hj : j = q + 1
      ·subst hj; exact ⟨_, HY.out, h4⟩
      ·exact hle.out j h1 (by omega)
     have HNX := Lib.hid hnx
     clear hnx h4
     rcases mkB_cases (Mk.mk y0 y1 y2 y3 y4 y5 y6 y7) (Mk.mk z0 z1 z2 z3 z4 z5 z6 z7) with hm | hm
     ·go_upto_region 2 with fail
      go_quiet (fail)
      rename_i nq
      have hbq := below_drewN hbr nq
      go_wp2
      go_roundw
      case rel => exact ⟨q + 1, by omega, by omega, by go_num, HNX, hbq⟩
      case measure => simp [intOf]; omega
     ·go_upto_region 2 with fail
      go_quiet (fail)
      rename_i nq
      have hbq := below_drewN hbr nq
      go_wp2
      go_ret
      exact HE.out _ hbq
    ·have e5 : (yk == 4) = false := beq_false_of_ne h4
     clear h4
     go_upto_region 2 with fail
     go_quiet (fail)
     rename_i nq
     have hbq := below_drewN hbr nq
     go_wp2
     go_ret
     exact HE.out _ hbq
   ·have e3 : ¬ ((q : Int) + 1 < n) := by omega
    have hd3 : decide ((q : Int) + 1 < n) = false := decide_eq_false e3
    go_upto_region 2 with fail
    go_quiet (fail)
    rename_i nq
    have hbq := below_drewN hbr nq
    go_wp2
    go_ret
    exact HE.out _ hbq
 ·have e4 : (t.k == 4) = false := beq_false_of_ne h4
  have H4 := Lib.hid h4
  clear h4
  go_enter Tryz.func164, Tryz.ntmps164
  go_wp2
  clear c0 a0 a1 e4
  go_loop [5, 6] (fun d j => ∃ (k : Nat) (z : Int), a ≤ k ∧ k ≤ n ∧ j = .int .i64 k ∧ d = .int .i64 z ∧ 0 ≤ z ∧ z + a ≤ k ∧ Hid (z = dep l k - dep l a ∧ ∀ i, a < i → i ≤ k → dep l a < dep l i)) (fun _ j => n - (intOf j).toNat)
  case atStart => exact ⟨a, 0, by omega, by omega, rfl, rfl, by omega, by omega, Lib.hid ⟨by omega, fun i h1 h2 => by omega⟩⟩
  case round =>
   obtain ⟨k, z, hk0, hk, rfl, rfl, hz0, hz1, hz⟩ := hrel
   by_cases hlt : k < n
   ·have e3 : (k : Int) < n := by omega
    have k0 : (0 : Int) ≤ k := by omega
    obtain ⟨b1, o1, y, hy, hA, -, hc⟩ := tok_at H.out hlt
    obtain ⟨rfl, rfl⟩ : b = b1 ∧ o = o1 := by simpa using hA
    have c0 : w.cell? ⟨b, o + k * 12, none⟩ = some (.int .i64 y.k) := hc 0 (by omega)
    have hd := dep_succ hy
    generalize y.k = tk at *
    have HD := Lib.hid hd
    clear hc hd hy hA
    have hstep : ∀ z' : Int, z' = z + dk tk → 0 < z' → Hid (z' = dep l (k + 1) - dep l a ∧ ∀ i, a < i → i ≤ k + 1 → dep l a < dep l i) := fun z' h1 h2 => Lib.hid (by
     have h5 := hz.out.1
     have h3 : z' = dep l (k + 1) - dep l a := by rw [HD.out, h1]; omega
     refine ⟨h3, fun i hi hi2 => ?_⟩
     by_cases hi' : i = k + 1
     ·subst hi'; omega
     ·exact hz.out.2 i hi (by omega))
    have hend : ∀ z' : Int, z' = z + dk tk → z' ≤ 0 → ShutOut l a w (.returned (.int .i64 (k : Int))) w := fun z' h1 h2 => by
     have h5 := hz.out.1
     exact ⟨k, rfl, by omega, by rw [HL.out]; omega, .inr ⟨t, HT.out, H4.out, .inr ⟨k, rfl, hk0, by rw [HL.out]; omega, by rw [HD.out]; omega, hz.out.2⟩⟩, Below.refl _ _⟩
    have HS := Lib.hid hstep
    have HE := Lib.hid hend
    clear hstep hend
    by_cases h1 : tk = 1
    ·have e1 : (tk == 1) = true := by simp [h1]
     have e2 : (tk == 2) = false := by simp [h1]
     have HK := Lib.hid (show dk tk = 1 by simp [dk, h1])
     clear h1
     have h40 : 0 < z + 1 := by omega
     go_wp2
     go_round
     case rel => exact ⟨k + 1, z + 1, by omega, by omega, by go_num, rfl, by omega, by omega, HS.out _ (by rw [HK.out]) (by omega)⟩
     case measure => simp [intOf]; omega
    ·have e1 : (tk == 1) = false := beq_false_of_ne h1
     by_cases h2 : tk = 2
     ·have e2 : (tk == 2) = true := by simp [h2]
      have HK := Lib.hid (show dk tk = -1 by simp [dk, h2])
      clear h1 h2
      by_cases h40 : z - 1 ≤ 0
      ·go_wp2
       go_ret
       exact HE.out (z - 1) (by rw [HK.out]; omega) h40
      ·have h41 : 0 < z - 1 := by omega
       go_wp2
       go_round
       case rel => exact ⟨k + 1, z - 1, by omega, by omega, by go_num, rfl, by omega, by omega, HS.out _ (by rw [HK.out]; omega) (by omega)⟩
       case measure => simp [intOf]; omega
     ·have e2 : (tk == 2) = false := beq_false_of_ne h2
      have HK := Lib.hid (show dk tk = 0 by simp [dk, h1, h2])
      clear h1 h2
      by_cases h40 : z ≤ 0
      ·go_wp2
       go_ret
       exact HE.out z (by rw [HK.out]; omega) h40
      ·have h41 : 0 < z := by omega
       go_wp2
       go_round
       case rel => exact ⟨k + 1, z, by omega, by omega, by go_num, rfl, by omega, by omega, HS.out _ (by rw [HK.out]; omega) (by omega)⟩
       case measure => simp [intOf]; omega
   ·obtain rfl : k = n := by omega
    have hend : ShutOut l a w (.returned (.int .i64 (-1))) w := ⟨-1, rfl, by omega, by omega, .inr ⟨t, HT.out, H4.out, .inl ⟨rfl, by rw [HL.out]; exact hz.out.2⟩⟩, Below.refl _ _⟩
    have HE := Lib.hid hend
    clear hend
    go_wp2
    go_ret
    exact HE.out
theorem toks_drop (l : List Tok) : ∀ k, (toks l).drop (k * 12) = toks (l.drop k) := by
 induction l with
 | nil => intro k; simp [toks]
 | cons t l ih =>
   intro k
   cases k with
   | zero => simp
   | succ k =>
     have h1 : toks (t :: l) = t.cells ++ toks l := by simp [toks]
     rw [h1, List.drop_succ_cons, ← ih k, Nat.add_mul, Nat.one_mul, Nat.add_comm, ← List.drop_drop]
     congr 1
theorem toks_take (l : List Tok) : ∀ k, (toks l).take (k * 12) = toks (l.take k) := by
 induction l with
 | nil => intro k; simp [toks]
 | cons t l ih =>
   intro k
   cases k with
   | zero => simp [toks]
   | succ k =>
     have h1 : toks (t :: l) = t.cells ++ toks l := by simp [toks]
     have h2 : toks (t :: l.take k) = t.cells ++ toks (l.take k) := by simp [toks]
     rw [h1, List.take_succ_cons, h2, ← ih k, Nat.add_mul, Nat.one_mul, Nat.add_comm, List.take_append, List.take_of_length_le (by rw [show t.cells.length = 12 from rfl]; omega)]
     congr 2
     rw [show t.cells.length = 12 from rfl]; omega
theorem Rd.tcut {w : World} {B n b o k m : Nat} {l : List Tok} (h : Rd w B 12 (some ⟨b, o, none⟩) n (toks l)) (hkm : k ≤ m) (hm : m ≤ n) : Rd w B 12 (some ⟨b, o + k * 12, none⟩) (m - k) (toks ((l.drop k).take (m - k))) := by
 have := h.cut hkm hm
 rwa [toks_drop, toks_take] at this
theorem dep_cut (l : List Tok) (k d j : Nat) (hj : j ≤ d) : dep ((l.drop k).take d) j = dep l (k + j) - dep l k := by
 have h1 : ((l.drop k).take d).take j = (l.drop k).take j := by rw [List.take_take, Nat.min_eq_left hj]
 have h2 : l.take (k + j) = l.take k ++ (l.drop k).take j := List.take_add
 unfold dep
 rw [h1, h2, List.map_append, List.sum_append]
 omega
theorem lets_dep {l : List Tok} {a q : Nat} (h : Lets l a q) : ∀ j, a ≤ j → j ≤ q + 1 → dep l j = dep l a := by
 intro j h1 h2
 induction j with
 | zero => obtain rfl : a = 0 := by omega
           rfl
 | succ j ih =>
   by_cases hj : a = j + 1
   ·rw [hj]
   ·obtain ⟨t, ht, h4⟩ := h j (by omega) (by omega)
    rw [dep_succ ht, ih (by omega) (by omega), h4]
    simp [dk]
/-- in a whole row, where nothing is open, a node ends where nothing is open -/
theorem Wh.next {l : List Tok} {a : Nat} {r : Int} (h : Wh l) (ha : a < l.length) (h0 : dep l a = 0) (hs : ShutIs l a r) : ∃ q : Nat, r = q ∧ a ≤ q ∧ q < l.length ∧ dep l (q + 1) = 0 := by
 rcases hs with ⟨q, h1, h2, h3, h4⟩ | ⟨t, h1, h2, ⟨h3, h4⟩ | ⟨q, h3, h4, h5, h6, h7⟩⟩
 ·exact ⟨q, h1, h2, h3, by rw [lets_dep h4 (q + 1) (by omega) (by omega), h0]⟩
 ·have := h4 l.length ha (Nat.le_refl _)
  have := h.z
  omega
 ·have := h.nn (q + 1) (by omega)
  exact ⟨q, h3, h4, h5, by omega⟩
/-- in a whole row, what is within a node is whole -/
theorem Wh.within {l : List Tok} {a : Nat} {r : Int} {t : Tok} (h : Wh l) (ht : l[a]? = some t) (hk : t.k = 1) (hs : ShutIs l a r) : ∃ q : Nat, r = q ∧ a + 1 ≤ q ∧ q < l.length ∧ Wh ((l.drop (a + 1)).take (q - (a + 1))) := by
 have ha := (List.getElem?_eq_some_iff.1 ht).1
 have hd1 : dep l (a + 1) = dep l a + 1 := by rw [dep_succ ht, hk]; rfl
 rcases hs with ⟨q, h1, h2, h3, h4⟩ | ⟨t', h1, h2, ⟨h3, h4⟩ | ⟨q, h3, h4, h5, h6, h7⟩⟩
 ·obtain ⟨t', e, h5⟩ := h4 a (Nat.le_refl _) h2
  rw [ht] at e
  injection e with e
  subst e
  omega
 ·have h5 := h4 l.length ha (Nat.le_refl _)
  have h6 := h.z
  have h7 := h.nn a (by omega)
  omega
 ·have hq : a + 1 ≤ q := by
   rcases Nat.lt_or_ge a q with h | h
   ·omega
   ·obtain rfl : q = a := by omega
    omega
  have hl : ((l.drop (a + 1)).take (q - (a + 1))).length = q - (a + 1) := by simp; omega
  have hge : ∀ j, a + 1 ≤ j → j ≤ q → dep l (a + 1) ≤ dep l j := fun j h1 h2 => by have := h7 j (by omega) h2; omega
  obtain ⟨tq, htq⟩ : ∃ tq, l[q]? = some tq := ⟨_, List.getElem?_eq_getElem h5⟩
  have hd2 := dep_succ htq
  have hbd := dk_bd tq.k
  have h9 := hge q hq (Nat.le_refl _)
  refine ⟨q, h3, hq, h5, fun i hi => ?_, ?_⟩
  ·rw [hl] at hi
   rw [dep_cut _ _ _ _ hi]
   have := hge (a + 1 + i) (by omega) (by omega)
   omega
  ·rw [hl, dep_cut _ _ _ _ (Nat.le_refl _), show a + 1 + (q - (a + 1)) = q by omega]
   omega
/-- where nodes begin, and end -/
def prs (l : List (Nat × Nat)) : List Value := l.flatMap fun p => [.int .i64 (p.1 : Int), .int .i64 (p.2 : Int)]
theorem prs_len (l : List (Nat × Nat)) : (prs l).length = l.length * 2 := by
 induction l with
 | nil => rfl
 | cons r l ih => simp only [prs, List.flatMap_cons, List.length_append] at *; rw [ih]; simp; omega
theorem prs_snoc (l : List (Nat × Nat)) (p : Nat × Nat) : prs (l ++ [p]) = prs l ++ [.int .i64 (p.1 : Int), .int .i64 (p.2 : Int)] := by simp [prs]
theorem info_p2 : (Tryz.prog.info? 65).map (fun i => (i.zero, i.size, i.bytes)) = some (some (.agg #[.int .i64 0, .int .i64 0]), 2, 16) := by kernel_rfl
def KidsOut14 (l : List Tok) (w : World) (e : Ending) (w' : World) : Prop := ∃ (A : Option Addr) (c : Nat) (ps : List (Nat × Nat)), e = .returned (.slice A ps.length c) ∧ w'.ownsRow w.heap.size 65 2 (.slice A ps.length c) ps.length (prs ps) ∧ (∀ p ∈ ps, p.1 < l.length) ∧ ps.length ≤ l.length ∧ Below w.heap.size w w'
theorem kids14_any (A : Option Addr) (n c : Nat) (l : List Tok) (w : World) (h : Rd w w.heap.size 12 A n (toks l)) (hn : n ≤ 100000) (hw : Wh l) : Calls Tryz.prog 203 #[.slice A n c] w (KidsOut14 l w) := by
 have hl := Lib.hid h.tlen
 have hsh := fun (a : Nat) (ha : a < n) W (hb : Below w.heap.size w W) => shut14_any A n c a l W ((h.below hb).more hb.size) hn ha
 have HSH := Lib.hid hsh
 have HW := Lib.hid hw
 clear h hw hsh
 go_enter Tryz.func203, Tryz.ntmps203
 go_wp2
 go_loopw [3, 4] (fun v j wr => ∃ (k : Nat) (ps : List (Nat × Nat)), k ≤ n ∧ j = .int .i64 k ∧ Hid (dep l k = 0) ∧ Hid (wr.ownsRow w.heap.size 65 2 v ps.length (prs ps)) ∧ Hid (∀ p ∈ ps, p.1 < l.length) ∧ ps.length ≤ k ∧ Below w.heap.size w wr) (fun _ j _ => n - (intOf j).toNat)
 case atStart => exact ⟨0, [], by omega, rfl, Lib.hid (dep_zero l), Lib.hid (World.ownsRow_nil _ _ _ _), Lib.hid (fun p h => by cases h), by simp, Below.refl _ _⟩
 case round =>
  obtain ⟨k, ps, hk, rfl, hz, hown, hps, hpl, hbr⟩ := hrel
  have hzr := hbr.size
  obtain ⟨A1, c1, rfl, -, -, -, -⟩ := own_form hown.out
  by_cases hlt : k < n
  ·have e3 : (k : Int) < n := by omega
   go_wp2_with (go_at_call 164; fail)
   refine (HSH.out k hlt _ hbr).mono ?_
   rintro e w1 ⟨r, rfl, hr1, hr2, hs, hb1⟩
   obtain ⟨q, rfl, hq1, hq2, hq3⟩ := HW.out.next (by rw [hl.out]; exact hlt) hz.out hs
   have hqn : q < n := by rw [hl.out] at hq2; exact hq2
   have HQ := Lib.hid hq3
   have hb01 := hbr.trans (hb1.mono hzr)
   have hz1 := hb01.size
   have hown1 := own_below hown.out hb1
   clear hr1 hr2 hs hq2 hq3
   go_wp2_with (at_builtin; ((refine app_one Tryz.underlying63 info_p2 rfl (by decide) w1 w.heap.size _ ps.length _ hown1 (by unfold maxLen; omega) (by omega) hz1 _ rfl (by simp [Value.oneCell']) rfl _ _ rfl rfl rfl ?_); intro g4 cap4 w4 hown4 hgr4 hat4 hlt4))
   have hb4 := below_own hb01 hown1 hgr4 hz1 (Nat.le_refl _)
   have hps2 : ∀ p ∈ ps ++ [((k : Nat), q + 1)], p.1 < l.length := fun p hp => by
    rcases List.mem_append.1 hp with hp | hp
    ·exact hps.out p hp
    ·simp at hp; subst hp; rw [hl.out]; exact hlt
   go_roundw
   case rel => exact ⟨q + 1, ps ++ [(k, q + 1)], by omega, by go_num, HQ, Lib.hid (by rw [List.length_append, prs_snoc]; exact hown4), Lib.hid hps2, by simp; omega, hb4⟩
   case measure => simp [intOf]; omega
  ·obtain rfl : k = n := by omega
   go_wp2
   exact bodyPost_ret (v := .slice A1 ps.length c1) (by simp [results, Tryz.results203, go_sem]) rfl ⟨A1, c1, ps, rfl, hown.out, hps.out, by rw [hl.out]; exact hpl, hbr⟩
abbrev tokA (k t a r m0 m1 m2 m3 m4 m5 m6 m7 : Int) : Array Value := #[.int .i64 k, .int .i64 t, .int .i64 a, .int .i32 r, .int .u16 m0, .int .u16 m1, .int .u16 m2, .int .u16 m3, .int .u16 m4, .int .u16 m5, .int .u16 m6, .int .u16 m7]
theorem tok12 {w : World} {b o : Nat} {k t a r m0 m1 m2 m3 m4 m5 m6 m7 : Int} (hc : ∀ i, i < 12 → w.cell? ⟨b, o + i, none⟩ = (Tok.mk k t a r ⟨m0, m1, m2, m3, m4, m5, m6, m7⟩).cells[i]?) : w.cell? ⟨b, o, none⟩ = some (.int .i64 k) ∧ w.cell? ⟨b, o + 1, none⟩ = some (.int .i64 t) ∧ w.cell? ⟨b, o + 2, none⟩ = some (.int .i64 a) ∧ w.cell? ⟨b, o + 3, none⟩ = some (.int .i32 r) ∧ w.cell? ⟨b, o + 4, none⟩ = some (.int .u16 m0) ∧ w.cell? ⟨b, o + 5, none⟩ = some (.int .u16 m1) ∧ w.cell? ⟨b, o + 6, none⟩ = some (.int .u16 m2) ∧ w.cell? ⟨b, o + 7, none⟩ = some (.int .u16 m3) ∧ w.cell? ⟨b, o + 8, none⟩ = some (.int .u16 m4) ∧ w.cell? ⟨b, o + 9, none⟩ = some (.int .u16 m5) ∧ w.cell? ⟨b, o + 10, none⟩ = some (.int .u16 m6) ∧ w.cell? ⟨b, o + 11, none⟩ = some (.int .u16 m7) :=
 ⟨hc 0 (by omega), hc 1 (by omega), hc 2 (by omega), hc 3 (by omega), hc 4 (by omega), hc 5 (by omega), hc 6 (by omega), hc 7 (by omega), hc 8 (by omega), hc 9 (by omega), hc 10 (by omega), hc 11 (by omega)⟩
theorem bk12 {w : World} {b : Nat} {t : TypeId} {x0 x1 x2 x3 x4 x5 x6 x7 x8 x9 x10 x11 : Value} (k : Bk w b t #[x0, x1, x2, x3, x4, x5, x6, x7, x8, x9, x10, x11]) : w.cell? ⟨b, 0, none⟩ = some x0 ∧ w.cell? ⟨b, 1, none⟩ = some x1 ∧ w.cell? ⟨b, 2, none⟩ = some x2 ∧ w.cell? ⟨b, 3, none⟩ = some x3 ∧ w.cell? ⟨b, 4, none⟩ = some x4 ∧ w.cell? ⟨b, 5, none⟩ = some x5 ∧ w.cell? ⟨b, 6, none⟩ = some x6 ∧ w.cell? ⟨b, 7, none⟩ = some x7 ∧ w.cell? ⟨b, 8, none⟩ = some x8 ∧ w.cell? ⟨b, 9, none⟩ = some x9 ∧ w.cell? ⟨b, 10, none⟩ = some x10 ∧ w.cell? ⟨b, 11, none⟩ = some x11 :=
 ⟨k.cell 0, k.cell 1, k.cell 2, k.cell 3, k.cell 4, k.cell 5, k.cell 6, k.cell 7, k.cell 8, k.cell 9, k.cell 10, k.cell 11⟩
theorem pr_at {w : World} {A : Option Addr} {n k : Nat} {l : List (Nat × Nat)} (h : Rd w w.heap.size 2 A n (prs l)) (hk : k < n) : ∃ (b o : Nat) (p : Nat × Nat), l[k]? = some p ∧ A = some ⟨b, o, none⟩ ∧ b < w.heap.size ∧ w.cell? ⟨b, o + k * 2, none⟩ = some (.int .i64 (p.1 : Int)) ∧ w.cell? ⟨b, o + k * 2 + 1, none⟩ = some (.int .i64 (p.2 : Int)) := by
 have hl : l.length = n := by have := h.1; rw [prs_len] at this; omega
 have hx : l[k]? = some l[k] := List.getElem?_eq_getElem (by omega)
 obtain ⟨b, o, e, hb, hc⟩ := Rd.el (fun p : Nat × Nat => [.int .i64 (p.1 : Int), .int .i64 (p.2 : Int)]) (fun _ => rfl) h hl hx
 exact ⟨b, o, _, hx, e, hb, hc 0 (by omega), hc 1 (by omega)⟩
def KidsOut17 (l : List Tok) (w : World) (e : Ending) (w' : World) : Prop := ∃ (A : Option Addr) (c : Nat) (kl : List Int), e = .returned (.slice A kl.length c) ∧ w'.ownsRow w.heap.size 3 1 (.slice A kl.length c) kl.length (is kl) ∧ kl.length ≤ l.length ∧ Below w.heap.size w w'
theorem is_snoc (l : List Int) (x : Int) : is (l ++ [x]) = is l ++ [.int .i64 x] := by simp [is]
theorem kids17_any (A : Option Addr) (n c : Nat) (l : List Tok) (w : World) (h : Rd w w.heap.size 12 A n (toks l)) (hn : n ≤ 100000) (hw : Wh l) : Calls Tryz.prog 202 #[.slice A n c] w (KidsOut17 l w) := by
 have hl := h.tlen
 have H := Lib.hid h
 have hkd := Lib.hid (kids14_any A n c l w h hn hw)
 clear h hw
 go_enter Tryz.func202, Tryz.ntmps202
 go_wp2_with (go_at_call 203; fail)
 refine hkd.out.mono ?_
 rintro e w1 ⟨KA, kc, ps, rfl, hko, hps, hpl, hb1⟩
 obtain ⟨KA', kc', le, -, -, -, hkr⟩ := own_form hko
 injection le with le1 le2 le3
 rw [← le1] at hkr
 obtain ⟨kn, hkn⟩ : ∃ kn, kn = ps.length := ⟨_, rfl⟩
 rw [← hkn] at hkr hpl ⊢
 have HKR := Lib.hid hkr
 have HPS := Lib.hid hps
 rw [hl] at hpl
 have HL := Lib.hid hl
 clear hko le1 le3 hkr hps hkn hkd hl
 go_wp2
 go_loopw [3, 5] (fun v j wr => ∃ (k : Nat) (kl : List Int), k ≤ kn ∧ j = .int .i64 k ∧ Hid (wr.ownsRow w1.heap.size 3 1 v kl.length (is kl)) ∧ kl.length ≤ k ∧ Below w1.heap.size w1 wr) (fun _ j _ => kn - (intOf j).toNat)
 case atStart => exact ⟨0, [], by omega, rfl, Lib.hid (World.ownsRow_nil _ _ _ _), by simp, Below.refl _ _⟩
 case round =>
  obtain ⟨k, kl, hk, rfl, hown, hkll, hbr⟩ := hrel
  have hzr := hbr.size
  have hz1 := hb1.size
  obtain ⟨A1, c1, rfl, -, -, -, -⟩ := own_form hown.out
  have hbw : Below w.heap.size w wr := hb1.trans (hbr.mono hz1)
  by_cases hlt : k < kn
  ·have e3 : (k : Int) < kn := by omega
   obtain ⟨kb, ko, p, hp, rfl, hkb, hpc, -⟩ := pr_at ((HKR.out.below hbr).more hbr.size) hlt
   have hpn : p.1 < n := by have := HPS.out p (List.mem_of_getElem? hp); rw [HL.out] at this; exact this
   obtain ⟨pq, pe⟩ := p
   dsimp only at hpc hpn
   obtain ⟨tb, tq, tk, htk, rfl, htb, htc⟩ := tok_at ((H.out.below hbw).more hbw.size) hpn
   obtain ⟨k0, t0, a0, r0, m0, m1, m2, m3, m4, m5, m6, m7⟩ := tk
   obtain ⟨q0, q1, q2, q3, q4, q5, q6, q7, q8, q9, q10, q11⟩ := tok12 htc
   have e4 : (pq : Int) < n := by omega
   have e5 : (0 : Int) ≤ pq := by omega
   clear hp htk htc
   go_upto_region 7 with fail
   have kt := Bk.new wr 126 (tokA k0 t0 a0 r0 m0 m1 m2 m3 m4 m5 m6 m7)
   have hba : Below wr.heap.size wr (wr.alloc (.cells (tokA k0 t0 a0 r0 m0 m1 m2 m3 m4 m5 m6 m7) 126)) := belowA
   have hpc2 := (hba.cell (p := ⟨kb, ko + k * 2, none⟩) hkb).trans hpc
   generalize wr.alloc (.cells (tokA k0 t0 a0 r0 m0 m1 m2 m3 m4 m5 m6 m7) 126) = w2 at *
   have hb2 := hbr.trans (hba.mono hzr)
   have hb02 := hbw.trans (hba.mono hbw.size)
   have hz2 := hb2.size
   have hown2 := own_below hown.out hba
   clear q0 q1 q2 q3 q4 q5 q6 q7 q8 q9 q10 q11 hpc
   obtain ⟨q0, q1, q2, q3, q4, q5, q6, q7, q8, q9, q10, q11⟩ := bk12 kt
   have hskip : (k0 == 4) = false ∨ ((k0 == 4) = true ∧ pq = 0) ∨ ((k0 == 4) = true ∧ 0 < pq) := by cases (k0 == 4) <;> simp; omega
   rcases hskip with e6 | ⟨e6, rfl⟩ | ⟨e6, h0⟩
   ·go_wp2_with (at_builtin; ((refine app_one Tryz.underlying51 info_in rfl (by decide) w2 w1.heap.size _ kl.length _ hown2 (by unfold maxLen; omega) (by omega) hz2 _ rfl (by simp [Value.oneCell']) rfl _ _ rfl rfl rfl ?_); intro g4 cap4 w4 hown4 hgr4 hat4 hlt4))
    have hb4 := below_own hb2 hown2 hgr4 hz2 (Nat.le_refl _)
    go_roundw
    case rel => exact ⟨k + 1, kl ++ [t0], by omega, by go_num, Lib.hid (by rw [List.length_append, is_snoc]; exact hown4), by simp; omega, hb4⟩
    case measure => simp [intOf]; omega
   ·go_wp2_with (at_builtin; ((refine app_one Tryz.underlying51 info_in rfl (by decide) w2 w1.heap.size _ kl.length _ hown2 (by unfold maxLen; omega) (by omega) hz2 _ rfl (by simp [Value.oneCell']) rfl _ _ rfl rfl rfl ?_); intro g4 cap4 w4 hown4 hgr4 hat4 hlt4))
    have hb4 := below_own hb2 hown2 hgr4 hz2 (Nat.le_refl _)
    go_roundw
    case rel => exact ⟨k + 1, kl ++ [t0], by omega, by go_num, Lib.hid (by rw [List.length_append, is_snoc]; exact hown4), by simp; omega, hb4⟩
    case measure => simp [intOf]; omega
   ·obtain ⟨p', rfl⟩ : ∃ p', pq = p' + 1 := ⟨pq - 1, by omega⟩
    obtain ⟨tb2, tq2, tk2, -, hA, -, htc2⟩ := tok_at ((H.out.below hb02).more hb02.size) (show p' < n by omega)
    obtain ⟨rfl, rfl⟩ : tb = tb2 ∧ tq = tq2 := by simpa using hA
    have v0 : w2.cell? ⟨tb, tq + p' * 12, none⟩ = some (.int .i64 tk2.k) := htc2 0 (by omega)
    generalize tk2.k = y0 at *
    have e7 : (0 : Int) < ((p' + 1 : Nat) : Int) := by omega
    have e8 : (0 : Int) ≤ (p' : Int) := by omega
    have e9 : (p' : Int) < n := by omega
    have e10 : (p' : Int) ≤ 100000 := by omega
    clear htc2 hA h0
    cases e11 : (y0 == 4) with
    | true =>
      go_wp2
      go_roundw
      case rel => exact ⟨k + 1, kl, by omega, by go_num, Lib.hid hown2, by omega, hb2⟩
      case measure => simp [intOf]; omega
    | false =>
      go_wp2_with (at_builtin; ((refine app_one Tryz.underlying51 info_in rfl (by decide) w2 w1.heap.size _ kl.length _ hown2 (by unfold maxLen; omega) (by omega) hz2 _ rfl (by simp [Value.oneCell']) rfl _ _ rfl rfl rfl ?_); intro g4 cap4 w4 hown4 hgr4 hat4 hlt4))
      have hb4 := below_own hb2 hown2 hgr4 hz2 (Nat.le_refl _)
      go_roundw
      case rel => exact ⟨k + 1, kl ++ [t0], by omega, by go_num, Lib.hid (by rw [List.length_append, is_snoc]; exact hown4), by simp; omega, hb4⟩
      case measure => simp [intOf]; omega
  ·obtain rfl : k = kn := by omega
   go_wp2
   exact bodyPost_ret (v := .slice A1 kl.length c1) (by simp [results, Tryz.results202, go_sem]) rfl ⟨A1, c1, kl, rfl, own_base hown.out hb1.size, by rw [HL.out]; omega, hbw⟩
end Go.Proofs.YtmacfoebfpljoaaGreat
