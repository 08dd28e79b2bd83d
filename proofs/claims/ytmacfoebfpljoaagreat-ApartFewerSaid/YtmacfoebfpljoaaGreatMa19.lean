/- merged texts: Qg Qh Qi Qk Ql Qm Qn Ly I M N Ca -/
import Derived.Test.YtmacfoebfpljoaaGreatMa18
import Derived.LoopNIn
import Derived.Test.YtmacfoebfpljoaaGreatMa1
import Derived.Deep.RegionLaw
import Derived.Laws.StructEq
import Derived.Test.YtmacfoebfpljoaaGreatMa8
import Derived.Test.YtmacfoebfpljoaaGreatMa13
set_option maxRecDepth 100000
set_option maxHeartbeats 16000000
namespace Go.Proofs.YtmacfoebfpljoaaGreat
open Go.RowKit
set_option linter.unusedVariables false
attribute [local go_sem] Oper.semAt_some
/-- isn't a step apart at a place of a reach that begins at r0? -/
def clhB (er : Int → Bool) (es : List Ent) (r0 : Int) (ev : List Int) (at_ : Nat) : Bool := (decide (r0 ≤ (at_ : Int)) && deadB er es at_ ev) || touchedB er es at_ ev
/-- the places of the first so many, from lo on, at which it isn't -/
def hitsL (er : Int → Bool) (es : List Ent) (r0 : Int) (ev : List Int) (lo k : Nat) : List Nat := ((List.range k).map fun i => lo + i).filter (clhB er es r0 ev)
section
variable {er : Int → Bool} {es : List Ent} {r0 : Int} {ev : List Int} {lo k : Nat}
theorem hitsL_succ : hitsL er es r0 ev lo (k + 1) = hitsL er es r0 ev lo k ++ (if clhB er es r0 ev (lo + k) then [lo + k] else []) := by
 unfold hitsL
 rw [List.range_succ, List.map_append, List.filter_append]
 congr 1
 simp only [List.map_cons, List.map_nil, List.filter_cons, List.filter_nil]
theorem hitsL_yes (h : clhB er es r0 ev (lo + k) = true) : hitsL er es r0 ev lo (k + 1) = hitsL er es r0 ev lo k ++ [lo + k] := by rw [hitsL_succ, h]; rfl
theorem hitsL_no (h : clhB er es r0 ev (lo + k) = false) : hitsL er es r0 ev lo (k + 1) = hitsL er es r0 ev lo k := by rw [hitsL_succ, h]; simp
theorem hitsL_pre {n : Nat} (h : k ≤ n) : hitsL er es r0 ev lo k <+: hitsL er es r0 ev lo n := by
 obtain ⟨d, rfl⟩ : ∃ d, n = k + d := ⟨n - k, by omega⟩
 unfold hitsL
 rw [List.range_add, List.map_append, List.filter_append]
 exact List.prefix_append _ _
end
abbrev encA (x : Nat) : Array Value := #[.int .i64 (x : Int)]
/-- what a ledger, or none, answers: how many are there, which is dead, which is touched -/
structure LgIs (po : Option Addr) (er : Int → Bool) (es : List Ent) (w : World) : Prop where
 lab : ∀ W, Below w.heap.size w W → Calls Tryz.prog 125 #[.pointer po] W fun e w' => ∃ A c, e = .returned (.slice A (cntP er es) c) ∧ Below W.heap.size W w'
 ded : ∀ W, Below w.heap.size w W → ∀ (at_ : Nat) (EA : Option Addr) (en ec : Nat) (ev : List Int), at_ ≤ 1000000 → Rd W W.heap.size 1 EA en (its ev) → en ≤ maxLen → Calls Tryz.prog 127 #[.pointer po, .int .i64 (at_ : Int), .slice EA en ec] W fun e w' => e = .returned (.bool (deadB er es at_ ev)) ∧ Below W.heap.size W w'
 tch : ∀ W, Below w.heap.size w W → ∀ (at_ : Nat) (EA : Option Addr) (en ec : Nat) (ev : List Int), at_ ≤ 1000000 → Rd W W.heap.size 1 EA en (its ev) → en ≤ maxLen → Calls Tryz.prog 128 #[.pointer po, .int .i64 (at_ : Int), .slice EA en ec] W fun e w' => e = .returned (.bool (touchedB er es at_ ev)) ∧ Below W.heap.size W w'
theorem LgIs.below {po : Option Addr} {er : Int → Bool} {es : List Ent} {w w' : World} (h : LgIs po er es w) (hb : Below w.heap.size w w') : LgIs po er es w' :=
 ⟨fun W hW => h.lab W (hb.trans (hW.mono hb.size)), fun W hW => h.ded W (hb.trans (hW.mono hb.size)), fun W hW => h.tch W (hb.trans (hW.mono hb.size))⟩
theorem lgIs_ld (base g mb n : Nat) (A : Option Addr) (c : Nat) (nx : Int) (l : List EH) (er : Int → Bool) (w : World) (h : LdIn w base g mb n (.slice A l.length c) nx l er) (hlen : l.length ≤ 100000) : LgIs (some ⟨g, 0, none⟩) er (l.map EH.e) w :=
 ⟨fun W hb => (labels_any base g mb n A c nx l er W (h.below hb) hlen).mono (by
  rintro e w' ⟨v, rfl, ho, hb2⟩
  obtain ⟨A1, c1, rfl, -, -, -, -⟩ := own_form ho
  exact ⟨A1, c1, rfl, hb2⟩),
  fun W hb at_ EA en ec ev hat hev hen => dead_any base g mb n A c nx l er at_ EA en ec ev W (h.below hb) hlen hat hev hen,
  fun W hb at_ EA en ec ev hat hev hen => touched_any base g mb n A c nx l er at_ EA en ec ev W (h.below hb) hlen hat hev hen⟩
/-- the boxes of clashes -/
def ClK (rb cb gb eb : Nat) (r0 r1 most : Int) (po : Option Addr) (EA : Option Addr) (en ec : Nat) (W : World) : Prop := Bk W rb 65 #[.int .i64 r0, .int .i64 r1] ∧ Bk W cb 3 #[.int .i64 most] ∧ Bk W gb 38 #[.pointer po] ∧ Bk W eb 51 #[.slice EA en ec]
theorem ClK.below {rb cb gb eb en ec : Nat} {po : Option Addr} {r0 r1 most : Int} {EA : Option Addr} {W W' : World} (h : ClK rb cb gb eb r0 r1 most po EA en ec W) (hb : Below W.heap.size W W') : ClK rb cb gb eb r0 r1 most po EA en ec W' := ⟨h.1.ext hb, h.2.1.ext hb, h.2.2.1.ext hb, h.2.2.2.ext hb⟩
theorem clashes_any (po : Option Addr) (es : List Ent) (er : Int → Bool) (r0 r1 : Int) (EA : Option Addr) (en ec : Nat) (w : World) (h : LgIs po er es w) :
 Calls Tryz.prog 72 #[.pointer po, .agg #[.int .i64 r0, .int .i64 r1], .slice EA en ec] w fun e w' => ∃ rb cb gb eb : Nat, e = .returned (.func (.func 126) #[] #[.pointer (some ⟨rb, 0, none⟩), .pointer (some ⟨cb, 0, none⟩), .pointer (some ⟨gb, 0, none⟩), .pointer (some ⟨eb, 0, none⟩)]) ∧ ClK rb cb gb eb r0 r1 (cntP er es) po EA en ec w' ∧ Below w.heap.size w w' ∧ w.heap.size ≤ rb ∧ w.heap.size ≤ cb ∧ w.heap.size ≤ gb ∧ w.heap.size ≤ eb := by
 have hlb := h.lab
 have HLB := Lib.hid hlb
 have k0 : Bk (((w.alloc (.cells #[.pointer po] 38)).alloc (.cells #[.int .i64 r0, .int .i64 r1] 65)).alloc (.cells #[.slice EA en ec] 51)) w.heap.size 38 #[.pointer po] := ((Bk.new w _ _).alloc _).alloc _
 have k1 : Bk (((w.alloc (.cells #[.pointer po] 38)).alloc (.cells #[.int .i64 r0, .int .i64 r1] 65)).alloc (.cells #[.slice EA en ec] 51)) (w.heap.size + 1) 65 #[.int .i64 r0, .int .i64 r1] := (Bk.made _ _ (by simp)).alloc _
 have k2 : Bk (((w.alloc (.cells #[.pointer po] 38)).alloc (.cells #[.int .i64 r0, .int .i64 r1] 65)).alloc (.cells #[.slice EA en ec] 51)) (w.heap.size + 2) 51 #[.slice EA en ec] := Bk.made _ _ (by simp)
 have hb0 : Below w.heap.size w (((w.alloc (.cells #[.pointer po] 38)).alloc (.cells #[.int .i64 r0, .int .i64 r1] 65)).alloc (.cells #[.slice EA en ec] 51)) := belowA
 obtain ⟨N, hN⟩ : ∃ N, N = cntP er es := ⟨_, rfl⟩
 have HN := Lib.hid hN
 clear h hlb
 go_enter Tryz.func72, Tryz.ntmps72
 go_upto_region 1 with fail
 generalize ((w.alloc (.cells #[.pointer po] 38)).alloc (.cells #[.int .i64 r0, .int .i64 r1] 65)).alloc (.cells #[.slice EA en ec] 51) = w0 at *
 have d0 := k0.cell 0
 dsimp at d0
 clear hN
 go_wp2_with (go_at_call 125; fail)
 refine (HLB.out w0 hb0).mono ?_
 rintro e w1 ⟨A1, c1, rfl, hb1⟩
 rw [← HN.out]
 have hb01 : Below w.heap.size w w1 := hb0.trans (hb1.mono hb0.size)
 have hbm : Below w1.heap.size w1 (w1.alloc (.cells #[.int .i64 (N : Int)] 3)) := belowA
 have hK : ClK (w.heap.size + 1) w1.heap.size w.heap.size (w.heap.size + 2) r0 r1 N po EA en ec (w1.alloc (.cells #[.int .i64 (N : Int)] 3)) := ⟨(k1.ext hb1).ext hbm, Bk.new w1 _ _, (k0.ext hb1).ext hbm, (k2.ext hb1).ext hbm⟩
 have HK := Lib.hid hK
 clear hK k0 k1 k2 d0
 go_wp2
 go_ret
 exact ⟨_, _, _, _, rfl, (by rw [← HN.out]; exact HK.out), hb01.trans (hbm.mono hb01.size), by omega, hb01.size, Nat.le_refl _, by omega⟩
/-- w: where the ledger lies; w1: the boxes are made -/
theorem clashes_gives (rb cb gb eb : Nat) (po : Option Addr) (es : List Ent) (er : Int → Bool) (r0 r1 : Int) (most : Nat) (EA : Option Addr) (en ec : Nat) (ev : List Int) (w w1 : World) (h : LgIs po er es w) (hev : Rd w w.heap.size 1 EA en (its ev)) (hen : en ≤ maxLen)
 (h0 : 0 ≤ r0 ∧ r0 ≤ 1073741824) (h1 : 0 ≤ r1 ∧ r1 ≤ 1073741824) (hm : most ≤ 100000) (hK0 : ClK rb cb gb eb r0 r1 most po EA en ec w1) (hw1 : Below w.heap.size w w1) :
 GivesS Tryz.prog 126 #[.pointer (some ⟨rb, 0, none⟩), .pointer (some ⟨cb, 0, none⟩), .pointer (some ⟨gb, 0, none⟩), .pointer (some ⟨eb, 0, none⟩)] encA w.heap.size (hitsL er es r0 ev (r0 - 1).toNat (min r1 most + 1 - (r0 - 1).toNat).toNat) w1 (ClK rb cb gb eb r0 r1 most po EA en ec) := by
 intro lp J Jx W hW hK hKx hJ hJx hY hs0
 replace hW := hw1.trans (hW.mono hw1.size)
 have hk0 := hK _ _ hs0
 obtain ⟨lo, hlo⟩ : ∃ lo, lo = (r0 - 1).toNat := ⟨_, rfl⟩
 obtain ⟨K, hKK⟩ : ∃ K, K = (min r1 most + 1 - (lo : Int)).toNat := ⟨_, rfl⟩
 rw [← hlo, ← hKK] at hY ⊢
 have hdd := fun W' (hb : Below w.heap.size w W') (at_ : Nat) (hat : at_ ≤ 1000000) => h.ded W' hb at_ EA en ec ev hat ((hev.below hb).more hb.size) hen
 have htc := fun W' (hb : Below w.heap.size w W') (at_ : Nat) (hat : at_ ≤ 1000000) => h.tch W' hb at_ EA en ec ev hat ((hev.below hb).more hb.size) hen
 have HDD := Lib.hid hdd
 have HTC := Lib.hid htc
 have HJ := Lib.hid hJ
 have HK := Lib.hid hK
 have HY := Lib.hid hY
 have HLO := Lib.hid hlo
 have HKK := Lib.hid hKK
 have hlo1 : (lo : Int) = max (r0 - 1) 0 := by omega
 have hlob : lo ≤ 1073741824 := by omega
 obtain ⟨q1, q2, q3, q4⟩ := hk0
 have d0 := q1.cell 0; have d1 := q1.cell 1; have d2 := q2.cell 0; have d3 := q3.cell 0; have d4 := q4.cell 0
 dsimp at d0 d1 d2 d3 d4
 have e0 : IntKind.i64.wrap (r0 - 1) = r0 - 1 := IntWalk.i64_in _ (by omega)
 clear hdd htc hJ hJx hK hKx hY h hev hK0 hw1 q1 q2 q3 q4 hlo hKK
 refine callsIn_of_wp Tryz.func126 rfl trivial ?_ rfl
 simp only [Tryz.ntmps126, List.size_toArray, List.length_cons, List.length_nil, Nat.reduceAdd, Nat.reduceSub, Array.replicate_succ, Array.replicate_zero, List.push_toArray, List.append_toArray, List.nil_append, List.cons_append]
 have hrr : r0 - 1 < 0 ∨ ¬ r0 - 1 < 0 := by omega
 have hmm : (most : Int) < r1 ∨ r1 ≤ (most : Int) := by omega
 rcases hrr with hr | hr
 all_goals rcases hmm with hmn | hmn
 all_goals
  gi_wp2
  have HR := Lib.hid hr
  have HMN := Lib.hid hmn
  clear hr d0 d1 d2 d3 d4
  gi_loopw [6, 7] (fun a6 a7 wr => ∃ k at_ : Nat, k ≤ K ∧ Hid (at_ = lo + k) ∧ a6 = .int .i64 (at_ : Int) ∧ J (hitsL er es r0 ev lo k) wr ∧ Hid (Below w.heap.size w wr)) (fun a6 _ _ => K + lo - (intOf a6).toNat)
  case atStart => exact ⟨0, lo, by omega, Lib.hid (by omega), by congr 1; have := HLO.out; have := HR.out; omega, hs0, Lib.hid hW⟩
  case round =>
   obtain ⟨k, at_, hk, hat, rfl, hJs, hbr⟩ := hrel
   obtain ⟨q1, q2, q3, q4⟩ := HK.out _ _ hJs
   have d0 := q1.cell 0; have d1 := q1.cell 1; have d2 := q2.cell 0; have d3 := q3.cell 0; have d4 := q4.cell 0
   dsimp at d0 d1 d2 d3 d4
   by_cases hkK : k < K
   ·have e3 : (at_ : Int) ≤ r1 := by have := HKK.out; have := hat.out; omega
    have e4 : (at_ : Int) ≤ most := by have := HKK.out; have := hat.out; omega
    have hb := hbr.out
    have hatb : at_ ≤ 1000000 := by omega
    have hdd := HDD.out wr hb at_ hatb
    obtain ⟨dv, hdv⟩ : ∃ dv, dv = deadB er es at_ ev := ⟨_, rfl⟩
    obtain ⟨tv, htv⟩ : ∃ tv, tv = touchedB er es at_ ev := ⟨_, rfl⟩
    rw [← hdv] at hdd
    have htt := fun W' (hb : Below w.heap.size w W') => HTC.out W' hb at_ hatb
    rw [← htv] at htt
    have HDC := Lib.hid hdd
    have HTT := Lib.hid htt
    have HDV := Lib.hid (And.intro hdv htv)
    clear hdd htt hdv htv
    by_cases hra : r0 ≤ (at_ : Int)
    ·cases dv with
     | true =>
       gi_wp2_with (first
        | (refine ⟨trivial, ?_⟩; gi_at_call 127; refine (callsIn_wide.2 HDC.out).mono ?_; rintro e w5 ⟨rfl, hb5⟩; have z0 := (q1.ext hb5).cell 0; have z1 := (q1.ext hb5).cell 1; have z3 := (q3.ext hb5).cell 0; have z4 := (q4.ext hb5).cell 0; dsimp at z0 z1 z3 z4)
        | (refine ⟨trivial, ?_⟩))
       have hhit : clhB er es r0 ev (lo + k) = true := by
        rw [← hat.out]
        unfold clhB
        rw [← HDV.out.1, ← HDV.out.2]
        simp
        try omega
       have hpre : hitsL er es r0 ev lo k ++ [at_] <+: hitsL er es r0 ev lo K := by
        rw [hat.out, ← hitsL_yes hhit]
        exact hitsL_pre (by omega)
       have hly : hitsL er es r0 ev lo (k + 1) = hitsL er es r0 ev lo k ++ [at_] := by rw [hat.out, hitsL_yes hhit]
       obtain ⟨fn, tmps, assign, body, hy, hR⟩ := HY.out _ at_ wr w5 hJs hpre hb5
       dsimp only [encA] at hy
       have HRR := Lib.hid hR
       have HPRE := Lib.hid hpre
       have HLY := Lib.hid hly
       clear hR hpre hly hhit
       rw [hy]
       simp only [Oper.uponIn]
       refine ⟨(fun h => by simp [Fence.wide] at h), RoundIn.mono HRR.out ?_⟩
       rintro e W3 (⟨rfl, hJ3, hb3, hm3⟩ | ⟨rfl, hJx3, hb3⟩)
       ·rw [← HLY.out] at hJ3
        have hb7 : Below w.heap.size w W3 := (hb.trans ((hb5 : Below wr.heap.size wr w5).mono hb.size)).trans hb3
        clear hm3 hy
        gi_wp2
        go_roundw
        case rel => exact ⟨k + 1, at_ + 1, by omega, Lib.hid (by have := hat.out; omega), by go_num, hJ3, Lib.hid hb7⟩
        case measure => have := hat.out; simp [intOf]; omega
       ·clear hy
        gi_wp2
        refine bodyPost_ret (results_none rfl _ _ _) rfl ?_
        exact ⟨⟨_, rfl⟩, .inr ⟨_, HPRE.out, hJx3⟩⟩
     | false =>
       cases tv with
       | true =>
         gi_wp2_with (first
          | (refine ⟨trivial, ?_⟩; gi_at_call 127; refine (callsIn_wide.2 HDC.out).mono ?_; rintro e w5 ⟨rfl, hb5⟩; have z0 := (q1.ext hb5).cell 0; have z1 := (q1.ext hb5).cell 1; have z3 := (q3.ext hb5).cell 0; have z4 := (q4.ext hb5).cell 0; dsimp at z0 z1 z3 z4)
          | (refine ⟨trivial, ?_⟩; gi_at_call 128; refine (callsIn_wide.2 (HTT.out _ (hb.trans (hb5.mono hb.size)))).mono ?_; rintro e w6 ⟨rfl, hb6⟩)
          | (refine ⟨trivial, ?_⟩))
         have hhit : clhB er es r0 ev (lo + k) = true := by
          rw [← hat.out]
          unfold clhB
          rw [← HDV.out.1, ← HDV.out.2]
          simp
          try omega
         have hpre : hitsL er es r0 ev lo k ++ [at_] <+: hitsL er es r0 ev lo K := by
          rw [hat.out, ← hitsL_yes hhit]
          exact hitsL_pre (by omega)
         have hly : hitsL er es r0 ev lo (k + 1) = hitsL er es r0 ev lo k ++ [at_] := by rw [hat.out, hitsL_yes hhit]
         obtain ⟨fn, tmps, assign, body, hy, hR⟩ := HY.out _ at_ wr w6 hJs hpre (hb5.trans (hb6.mono hb5.size))
         dsimp only [encA] at hy
         have HRR := Lib.hid hR
         have HPRE := Lib.hid hpre
         have HLY := Lib.hid hly
         clear hR hpre hly hhit
         rw [hy]
         simp only [Oper.uponIn]
         refine ⟨(fun h => by simp [Fence.wide] at h), RoundIn.mono HRR.out ?_⟩
         rintro e W3 (⟨rfl, hJ3, hb3, hm3⟩ | ⟨rfl, hJx3, hb3⟩)
         ·rw [← HLY.out] at hJ3
          have hb7 : Below w.heap.size w W3 := (hb.trans (((hb5.trans (hb6.mono hb5.size)) : Below wr.heap.size wr w6).mono hb.size)).trans hb3
          clear hm3 hy
          gi_wp2
          go_roundw
          case rel => exact ⟨k + 1, at_ + 1, by omega, Lib.hid (by have := hat.out; omega), by go_num, hJ3, Lib.hid hb7⟩
          case measure => have := hat.out; simp [intOf]; omega
         ·clear hy
          gi_wp2
          refine bodyPost_ret (results_none rfl _ _ _) rfl ?_
          exact ⟨⟨_, rfl⟩, .inr ⟨_, HPRE.out, hJx3⟩⟩
       | false =>
         gi_wp2_with (first
          | (refine ⟨trivial, ?_⟩; gi_at_call 127; refine (callsIn_wide.2 HDC.out).mono ?_; rintro e w5 ⟨rfl, hb5⟩; have z0 := (q1.ext hb5).cell 0; have z1 := (q1.ext hb5).cell 1; have z3 := (q3.ext hb5).cell 0; have z4 := (q4.ext hb5).cell 0; dsimp at z0 z1 z3 z4)
          | (refine ⟨trivial, ?_⟩; gi_at_call 128; refine (callsIn_wide.2 (HTT.out _ (hb.trans (hb5.mono hb.size)))).mono ?_; rintro e w6 ⟨rfl, hb6⟩)
          | (refine ⟨trivial, ?_⟩))
         have hhit : clhB er es r0 ev (lo + k) = false := by
          rw [← hat.out]
          unfold clhB
          rw [← HDV.out.1, ← HDV.out.2]
          simp
          try omega
         have hJ6 := HJ.out _ _ _ hJs (hb5.trans (hb6.mono hb5.size))
         rw [← hitsL_no hhit] at hJ6
         have hb7 : Below w.heap.size w w6 := hb.trans (((hb5.trans (hb6.mono hb5.size)) : Below wr.heap.size wr w6).mono hb.size)
         clear hhit
         gi_wp2
         refine ⟨(fun _ h => by cases h), ?_⟩
         gi_wp2
         go_roundw
         case rel => exact ⟨k + 1, at_ + 1, by omega, Lib.hid (by have := hat.out; omega), by go_num, hJ6, Lib.hid hb7⟩
         case measure => have := hat.out; simp [intOf]; omega
    ·cases tv with
     | true =>
       gi_wp2_with (first
        | (refine ⟨trivial, ?_⟩; gi_at_call 128; refine (callsIn_wide.2 (HTT.out _ hb)).mono ?_; rintro e w6 ⟨rfl, hb6⟩)
        | (refine ⟨trivial, ?_⟩))
       have hhit : clhB er es r0 ev (lo + k) = true := by
        rw [← hat.out]
        unfold clhB
        rw [← HDV.out.1, ← HDV.out.2]
        simp
        try omega
       have hpre : hitsL er es r0 ev lo k ++ [at_] <+: hitsL er es r0 ev lo K := by
        rw [hat.out, ← hitsL_yes hhit]
        exact hitsL_pre (by omega)
       have hly : hitsL er es r0 ev lo (k + 1) = hitsL er es r0 ev lo k ++ [at_] := by rw [hat.out, hitsL_yes hhit]
       obtain ⟨fn, tmps, assign, body, hy, hR⟩ := HY.out _ at_ wr w6 hJs hpre hb6
       dsimp only [encA] at hy
       have HRR := Lib.hid hR
       have HPRE := Lib.hid hpre
       have HLY := Lib.hid hly
       clear hR hpre hly hhit
       rw [hy]
       simp only [Oper.uponIn]
       refine ⟨(fun h => by simp [Fence.wide] at h), RoundIn.mono HRR.out ?_⟩
       rintro e W3 (⟨rfl, hJ3, hb3, hm3⟩ | ⟨rfl, hJx3, hb3⟩)
       ·rw [← HLY.out] at hJ3
        have hb7 : Below w.heap.size w W3 := (hb.trans ((hb6 : Below wr.heap.size wr w6).mono hb.size)).trans hb3
        clear hm3 hy
        gi_wp2
        go_roundw
        case rel => exact ⟨k + 1, at_ + 1, by omega, Lib.hid (by have := hat.out; omega), by go_num, hJ3, Lib.hid hb7⟩
        case measure => have := hat.out; simp [intOf]; omega
       ·clear hy
        gi_wp2
        refine bodyPost_ret (results_none rfl _ _ _) rfl ?_
        exact ⟨⟨_, rfl⟩, .inr ⟨_, HPRE.out, hJx3⟩⟩
     | false =>
       gi_wp2_with (first
        | (refine ⟨trivial, ?_⟩; gi_at_call 128; refine (callsIn_wide.2 (HTT.out _ hb)).mono ?_; rintro e w6 ⟨rfl, hb6⟩)
        | (refine ⟨trivial, ?_⟩))
       have hhit : clhB er es r0 ev (lo + k) = false := by
        rw [← hat.out]
        unfold clhB
        rw [← HDV.out.1, ← HDV.out.2]
        simp
        try omega
       have hJ6 := HJ.out _ _ _ hJs hb6
       rw [← hitsL_no hhit] at hJ6
       have hb7 : Below w.heap.size w w6 := hb.trans ((hb6 : Below wr.heap.size wr w6).mono hb.size)
       clear hhit
       gi_wp2
       refine ⟨(fun _ h => by cases h), ?_⟩
       gi_wp2
       go_roundw
       case rel => exact ⟨k + 1, at_ + 1, by omega, Lib.hid (by have := hat.out; omega), by go_num, hJ6, Lib.hid hb7⟩
       case measure => have := hat.out; simp [intOf]; omega
   ·obtain rfl : K = k := by omega
    have e3 : min r1 (most : Int) < (at_ : Int) := by have := HKK.out; have := hat.out; omega
    have e4 : (most : Int) < r1 → (most : Int) < (at_ : Int) := fun _ => by omega
    have e5 : r1 ≤ (most : Int) → r1 < (at_ : Int) := fun _ => by omega
    first
     | (have e6 := e4 hmn; clear e3 e4 e5; gi_wp2; go_end0; exact ⟨⟨_, rfl⟩, .inl hJs⟩)
     | (have e6 := e5 hmn; clear e3 e4 e5; gi_wp2; go_end0; exact ⟨⟨_, rfl⟩, .inl hJs⟩)
attribute [local go_sem] Oper.semAt_some
/-- what one reach does to the least place found so far -/
def stepC (s : Nat × Bool) : List Nat → Nat × Bool
 | [] => s
 | at_ :: _ => if !s.2 || decide (at_ < s.1) then (at_, true) else s
def hitsR (er : Int → Bool) (es : List Ent) (ev : List Int) (r : Int × Int) : List Nat := hitsL er es r.1 ev (r.1 - 1).toNat (min r.2 (cntP er es) + 1 - (r.1 - 1).toNat).toNat
def clashB (er : Int → Bool) (es : List Ent) (ev : List Int) (rs : List (Int × Int)) : Nat × Bool := rs.foldl (fun s r => stepC s (hitsR er es ev r)) (0, false)
theorem stepC_pre {s : Nat × Bool} {at_ : Nat} {hs : List Nat} (h : [at_] <+: hs) : stepC s hs = stepC s [at_] := by
 obtain ⟨t, rfl⟩ := h
 rfl
def CshOut (er : Int → Bool) (es : List Ent) (ev : List Int) (rs : List (Int × Int)) (w : World) (e : Ending) (w' : World) : Prop := ∃ s, s = clashB er es ev rs ∧ e = .returned (.tuple #[.int .i64 (s.1 : Int), .bool s.2]) ∧ Below w.heap.size w w'
/-- the boxes of Clash -/
def CxI (w : World) (base : Nat) (b : Nat) (s : Nat × Bool) (W : World) : Prop := Bk W (b + 1) 3 #[.int .i64 (s.1 : Int)] ∧ Bk W (b + 2) 4 #[.bool s.2] ∧ Below base w W
section
variable {P : Program} {F : Fence} {n : Nat} {id : Nat} {Q : Exit → Act → World → Prop} {a : Act} {w : World} {c : Code}
theorem range_exit {R : Nat → World → Prop} (hc : c.wpIn F n P (fun e a' w' => (e = .normal ∨ e = .exit id) ∧ ∃ D, a' = { a with defers := { target := .collected D, args := #[] } :: a.defers } ∧ R D w') a w)
 (hq : ∀ D w', R D w' → Q .normal { a with defers := { target := .collected D, args := #[] } :: a.defers } w') : c.wpIn F n P (Exit.inBlock id Q) a w := by
 refine wpIn_mono hc ?_
 rintro e a' w' ⟨rfl | rfl, D, rfl, h⟩
 ·exact hq D w' h
 ·simp only [Exit.inBlock, if_true]
  exact hq D w' h
theorem ips_get {l : List (Int × Int)} {k : Nat} {r : Int × Int} (hk : l[k]? = some r) : (ips l)[k * 2]? = some (.int .i64 r.1) ∧ (ips l)[k * 2 + 1]? = some (.int .i64 r.2) := by
 induction l generalizing k with
 | nil => simp at hk
 | cons x l ih =>
   cases k with
   | zero =>
     obtain rfl : x = r := by simpa using hk
     exact ⟨rfl, rfl⟩
   | succ k =>
     obtain ⟨h1, h2⟩ := ih (k := k) (by simpa using hk)
     have e1 : (k + 1) * 2 = k * 2 + 2 := by omega
     rw [e1]
     exact ⟨h1, h2⟩
theorem Rd.ip {w : World} {B b o n : Nat} {l : List (Int × Int)} {k : Nat} {r : Int × Int} (h : Rd w B 2 (some ⟨b, o, none⟩) n (ips l)) (hk : l[k]? = some r) : w.cell? ⟨b, o + k * 2, none⟩ = some (.int .i64 r.1) ∧ w.cell? ⟨b, o + k * 2 + 1, none⟩ = some (.int .i64 r.2) ∧ b < B := by
 have hl : n = l.length := by have := h.1; rw [ips_len] at this; omega
 have hkl := (List.getElem?_eq_some_iff.1 hk).1
 obtain ⟨b', o', e, hb, hc⟩ := h.2 (by omega)
 injection e with e; injection e with e1 e2
 subst e1; subst e2
 exact ⟨hc _ _ (ips_get hk).1, by rw [Nat.add_assoc]; exact hc _ _ (ips_get hk).2, hb⟩
end
theorem clash_any (po : Option Addr) (es : List Ent) (er : Int → Bool) (k f t gg h i m v : Int) (XA YA : Option Addr) (xn yn xc yc : Nat) (sl : List Tok) (st : List Mk) (EA : Option Addr) (en ec : Nat) (ev : List Int) (w : World) (hl : LgIs po er es w) (hcn : cntP er es ≤ 100000)
 (hx : Rd w w.heap.size 12 XA xn (toks sl)) (hxn : xn ≤ maxLen) (hy : Rd w w.heap.size 8 YA yn (mks st)) (hyn : yn ≤ maxLen) (hev : Rd w w.heap.size 1 EA en (its ev)) (hen : en ≤ maxLen) :
 CallsIn Fence.wide 10 Tryz.prog 22 #[.pointer po, .agg #[.int .i64 k, .int .i64 f, .int .i64 t, .int .i64 gg, .int .i64 h, .int .i64 i, .int .i64 m, .int .i64 v, .slice XA xn xc, .slice YA yn yc], .slice EA en ec] w
  (CshOut er es ev (reachL k f t gg h i m v xn yn) w) := by
 have hrc := fun W (hb : Below w.heap.size w W) => reach_any k f t gg h i m v XA YA xn yn xc yc sl st W ((hx.below hb).more hb.size) hxn ((hy.below hb).more hb.size) hyn
 have hca := fun W (hb : Below w.heap.size w W) (r0 r1 : Int) => clashes_any po es er r0 r1 EA en ec W (hl.below hb)
 have hcg := fun W (hb : Below w.heap.size w W) W1 (hb1 : Below W.heap.size W W1) rb cb gb eb r0 r1 (h0 : 0 ≤ r0 ∧ r0 ≤ 1073741824) (h1 : 0 ≤ r1 ∧ r1 ≤ 1073741824) (hK0 : ClK rb cb gb eb r0 r1 (cntP er es) po EA en ec W1) => clashes_gives rb cb gb eb po es er r0 r1 (cntP er es) EA en ec ev W W1 (hl.below hb) ((hev.below hb).more hb.size) hen h0 h1 hcn hK0 hb1
 obtain ⟨L, hL⟩ : ∃ L, L = reachL k f t gg h i m v xn yn := ⟨_, rfl⟩
 have hLl : L.length ≤ 2 := by rw [hL]; exact reachL_len
 have hLb : ∀ r ∈ L, 0 ≤ r.1 ∧ r.1 ≤ 1073741824 ∧ 0 ≤ r.2 ∧ r.2 ≤ 1073741824 := by rw [hL]; exact reachL_bd
 rw [← hL] at hrc ⊢
 have HRC := Lib.hid hrc
 have HCA := Lib.hid hca
 have HCG := Lib.hid hcg
 have HLB := Lib.hid hLb
 clear hrc hca hcg hl hx hy hev hL hLb
 refine callsIn_of_wp_marks (n := 10) Tryz.func22 rfl trivial ?_ rfl
 simp only [Tryz.ntmps22, List.size_toArray, List.length_cons, List.length_nil, Nat.reduceAdd, Nat.reduceSub, Array.replicate_succ, Array.replicate_zero, List.push_toArray, List.append_toArray, List.nil_append, List.cons_append]
 obtain ⟨w3, hw3⟩ : ∃ w3, w3 = ((w.alloc (.cells #[.int .i64 k, .int .i64 f, .int .i64 t, .int .i64 gg, .int .i64 h, .int .i64 i, .int .i64 m, .int .i64 v, .slice XA xn xc, .slice YA yn yc] 45)).alloc (.cells #[.int .i64 0] 3)).alloc (.cells #[.bool false] 4) := ⟨_, rfl⟩
 have hb0 : Below w.heap.size w w3 := by rw [hw3]; exact belowA
 have k1 : Bk w3 (w.heap.size + 1) 3 #[.int .i64 0] := by rw [hw3]; exact (Bk.made _ _ (by simp)).alloc _
 have k2 : Bk w3 (w.heap.size + 2) 4 #[.bool false] := by rw [hw3]; exact Bk.made _ _ (by simp)
 have hrc := HRC.out w3 hb0
 rw [hw3] at hrc
 have HRW := Lib.hid hrc
 have HW3 := Lib.hid hw3
 clear hrc hw3 HRC
 gi_wp2_with (first
  | (refine ⟨trivial, ?_⟩; gi_at_call 25; refine (callsIn_wide.2 HRW.out).mono ?_; rintro e w1 ⟨v1, rfl, ho1, hb1⟩; obtain ⟨A1, c1, rfl, -, -, -, hr1⟩ := own_form ho1; have HO1 := Lib.hid ho1; clear ho1)
  | (refine ⟨trivial, ?_⟩))
 rw [← HW3.out] at hb1
 have hb01 := hb0.trans (hb1.mono hb0.size)
 have kk1 := k1.ext hb1
 have kk2 := k2.ext hb1
 clear k1 k2 hb1 hb0 HRW HW3 w3
 rcases L with _ | ⟨r1, _ | ⟨r2, _ | ⟨r3, L⟩⟩⟩
 ·have d1 := kk1.cell 0; have d2 := kk2.cell 0
  dsimp at d1 d2
  have HB := Lib.hid hb01
  clear hb01 kk1 kk2
  simp only [List.length_nil]
  refine wpIn_loop_rounds 3 ?_
  rw [roundsIn_succ]
  gi_wp2
  refine wpIn_wide.2 (wp_normal ?_)
  go_region
  have hfin : CshOut er es ev [] w (.returned (.tuple #[.int .i64 (0 : Nat), .bool false])) w1.drew := ⟨_, rfl, rfl, HB.out.drew⟩
  have HFIN := Lib.hid hfin
  clear hfin
  gi_wp2
  exact ⟨.tuple #[.int .i64 (0 : Nat), .bool false], (results_tmp2 (t := 6) (u := 7) Tryz.results22 _ _ _).trans (by rfl), HFIN.out⟩
 ·obtain ⟨b1, o1, rfl, -, -⟩ := hr1.2 (by simp)
  obtain ⟨z0, z1, hbb⟩ := hr1.ip (k := 0) (r := r1) rfl
  simp only [Nat.zero_mul, Nat.add_zero] at z0 z1
  obtain ⟨g0, g1, g2, g3⟩ := HLB.out r1 (by simp)
  simp only [List.length_cons, List.length_nil, Nat.zero_add]
  clear hr1
  refine wpIn_loop_rounds 3 ?_
  rw [roundsIn_succ]
  have hba : Below w1.heap.size w1 (w1.alloc (.cells #[.int .i64 r1.1, .int .i64 r1.2] 65)) := belowA
  have hbca := hb01.trans (hba.mono hb01.size)
  have hcl := HCA.out _ hbca r1.1 r1.2
  have HCL := Lib.hid hcl
  have kk1 := kk1.ext hba
  have kk2 := kk2.ext hba
  have hq2 := def_lt' kk2
  clear hcl
  gi_wp2_with (first
   | (refine ⟨trivial, ?_⟩; gi_at_call 72; refine (callsIn_wide.2 HCL.out).mono ?_; rintro e w2 ⟨rb, cb, gb, eb, rfl, hk2, hb2, n1, n2, n3, n4⟩)
   | (refine ⟨trivial, ?_⟩))
  refine range_exit (id := 2) (R := fun D W' => CxI w w.heap.size w.heap.size (stepC (0, false) (hitsR er es ev r1)) W' ∧ W'.heap[D]? = some (.deferred (some [])) ∧ w2.heap.size ≤ D) ?_ ?_
  ·have hgv := HCG.out w (Below.refl _ _) w2 (hbca.trans (hb2.mono hbca.size)) rb cb gb eb r1.1 r1.2 ⟨g0, g1⟩ ⟨g2, g3⟩ hk2
   have hbw2 := hbca.trans (hb2.mono hbca.size)
   have kk1 := kk1.ext hb2
   have kk2 := kk2.ext hb2
   have hz2 := hb2.size
   have hza := hba.size
   have hz1 := hb01.size
   have hzb := def_lt' kk2
   refine range_mine_s (gf := 126) (lb := #[.pointer (some ⟨rb, 0, none⟩), .pointer (some ⟨cb, 0, none⟩), .pointer (some ⟨gb, 0, none⟩), .pointer (some ⟨eb, 0, none⟩)]) rfl (enters_of Tryz.func126 (by kernel_rfl) rfl) hgv (Below.refl _ _) hbw2.size (fun _ => rfl)
    (fun pre W => pre = [] ∧ CxI w w.heap.size w.heap.size (0, false) W ∧ ClK rb cb gb eb r1.1 r1.2 (cntP er es) po EA en ec W) (fun c pre W => c = .exit 2 ∧ (∃ at_, pre = [at_]) ∧ CxI w w.heap.size w.heap.size (stepC (0, false) pre) W ∧ ClK rb cb gb eb r1.1 r1.2 (cntP er es) po EA en ec W) ?hI ?hIx ?h0 (fun s W h => h.2.2) (fun _ _ _ h => h.2.2.2) ?hround ?hdone ?hstop
   case hI =>
    rintro s A' B row ⟨h1, ⟨h2, h3, h4⟩, h5, h6, h7, h8⟩ hg hr
    exact ⟨h1, ⟨blk_kept h2 hg hr, blk_kept h3 hg hr, below_kept h4 (Nat.le_refl _) hbw2.size hg hr⟩, blk_kept h5 hg hr, blk_kept h6 hg hr, blk_kept h7 hg hr, blk_kept h8 hg hr⟩
   case hIx =>
    rintro c s A' B row ⟨h0, h1, ⟨h2, h3, h4⟩, h5, h6, h7, h8⟩ hg hr
    exact ⟨h0, h1, ⟨blk_kept h2 hg hr, blk_kept h3 hg hr, below_kept h4 (Nat.le_refl _) hbw2.size hg hr⟩, blk_kept h5 hg hr, blk_kept h6 hg hr, blk_kept h7 hg hr, blk_kept h8 hg hr⟩
   case h0 => exact ⟨rfl, ⟨kk1, kk2, hbw2⟩, hk2⟩
   case hround =>
    rintro lp pre at_ W1 KK hkk
    have HKK := Lib.hid hkk
    clear hkk hgv hk2
    gi_wp2
    refine HKK.out _ ?_
    clear HKK
    rintro W0 W2 ⟨rfl, ⟨h1, h2, h3⟩, h4, h5, h6, h7⟩ hext hpre hM
    have kr1 := h1.ext hext
    have kr2 := h2.ext hext
    have hbb := h3.trans (hext.mono h3.size)
    have x1 := kr1.cell 0; have x2 := kr2.cell 0
    dsimp at x1 x2
    have y1 := kr1.frozen; have y2 := def_lt' kr1
    have y3 := kr2.frozen; have y4 := def_lt' kr2
    have m1 : w.heap.size + 2 < rb := Nat.lt_of_lt_of_le hq2 n1
    have m2 : w.heap.size + 2 < cb := Nat.lt_of_lt_of_le hq2 n2
    have m3 : w.heap.size + 2 < gb := Nat.lt_of_lt_of_le hq2 n3
    have m4 : w.heap.size + 2 < eb := Nat.lt_of_lt_of_le hq2 n4
    have hf : ∀ (b' : Nat) (t : TypeId) (cs : Array Value) (W : World) (v1 v2 : Value), Bk W b' t cs → w.heap.size + 2 < b' → Bk ((W.setCell ⟨w.heap.size + 1, 0, none⟩ v1).setCell ⟨w.heap.size + 1 + 1, 0, none⟩ v2) b' t cs := fun b' t cs W v1 v2 h hb => (h.far (p := ⟨w.heap.size + 1, 0, none⟩) (by simp; omega) v1).far (p := ⟨w.heap.size + 1 + 1, 0, none⟩) (by simp; omega) v2
    have HF := Lib.hid hf
    have h4' := h4.ext hext; have h5' := h5.ext hext; have h6' := h6.ext hext; have h7' := h7.ext hext
    clear hf
    gi_wp2
    refine ⟨((KeepsOthers.setCell _ _ _).trans (KeepsOthers.setCell _ _ _)).from _, ((Below.refl _ _).setCell (by first | omega | (simp; done) | (simp; omega)) _).setCell (by first | omega | (simp; done) | (simp; omega)) _, rfl, ⟨_, rfl⟩, ⟨?_, ?_, (hbb.setCell (by first | omega | (simp; done) | (simp; omega)) _).setCell (by first | omega | (simp; done) | (simp; omega)) _⟩, HF.out _ _ _ _ _ _ h4' m1, HF.out _ _ _ _ _ _ h5' m2, HF.out _ _ _ _ _ _ h6' m3, HF.out _ _ _ _ _ _ h7' m4⟩
    ·exact (kr1.set_ 0 _).far (p := ⟨w.heap.size + 1 + 1, 0, none⟩) (by simp) _
    ·exact (kr2.far (p := ⟨w.heap.size + 1, 0, none⟩) (by simp) _).set_ 0 _
   case hdone =>
    rintro D W hD ⟨hh, hc, -⟩ hKd
    refine ⟨.inl rfl, D, rfl, ?_, hKd, hD⟩
    unfold hitsR
    rw [hh]
    exact hc
   case hstop =>
    rintro D cd pre W hD hpre ⟨rfl, ⟨at_, rfl⟩, hc, -⟩ hKd
    refine wpIn_exit ⟨.inr rfl, D, rfl, ?_, hKd, hD⟩
    have := stepC_pre (s := (0, false)) hpre
    unfold hitsR
    rw [this]
    exact hc
  ·rintro D W ⟨⟨h1, h2, h3⟩, hD, hDw⟩
   have hDW : w.heap.size ≤ D := by have := hb2.size; have := hbca.size; omega
   have HDW := Lib.hid hDW
   clear hDw hDW hk2
   have d1 := h1.cell 0; have d2 := h2.cell 0
   dsimp at d1 d2
   have hres : stepC (0, false) (hitsR er es ev r1) = clashB er es ev [r1] := rfl
   rw [hres] at d1 d2
   have HD := Lib.hid hD
   have HB := Lib.hid h3
   obtain ⟨s, hs⟩ : ∃ s, s = clashB er es ev [r1] := ⟨_, rfl⟩
   rw [← hs] at d1 d2
   have HS := Lib.hid hs
   clear hres h1 h2 h3 hD hs
   gi_wp2
   rw [roundsIn_succ]
   gi_wp2
   refine wpIn_wide.2 (wp_normal ?_)
   go_region
   have hfin : CshOut er es ev [r1] w (.returned (.tuple #[.int .i64 (s.1 : Int), .bool s.2])) (W.drew.putObj D (.deferred none)) := ⟨s, HS.out, rfl, HB.out.drew.trans (below_putObj HDW.out)⟩
   have HFIN := Lib.hid hfin
   clear hfin
   gi_wp2
   refine ⟨by simp, .inl ⟨_, _, rfl, run_takeDeferred (b := D) HD.out, .tuple #[.int .i64 (s.1 : Int), .bool s.2], (results_tmp2 (t := 6) (u := 7) Tryz.results22 _ _ _).trans (by rfl), HFIN.out⟩⟩
 ·rcases HO1.out.2 with ⟨hz, -⟩ | ⟨g3, cap, cur, hv, hgb, hh, -⟩
  ·exact absurd hz (by intro h; cases h)
  have hA : A1 = some ⟨g3, 0, none⟩ := by injection hv
  subst hA
  have kk3 : Bk w1 g3 65 cur := hh
  have m5 : w.heap.size + 2 < g3 := by simp only [World.size_alloc] at hgb; omega
  have M5 := Lib.hid m5
  obtain ⟨z0, z1, hbb⟩ := hr1.ip (k := 0) (r := r1) rfl
  obtain ⟨z2, z3, -⟩ := hr1.ip (k := 1) (r := r2) rfl
  have Z2 := Lib.hid ((kk3.cell 2).symm.trans z2)
  have Z3 := Lib.hid ((kk3.cell 3).symm.trans z3)
  simp only [Nat.zero_mul, Nat.add_zero] at z0 z1
  obtain ⟨g0, g1, g2, g3'⟩ := HLB.out r1 (by simp)
  have HG2 := Lib.hid (HLB.out r2 (by simp))
  simp only [List.length_cons, List.length_nil, Nat.zero_add, Nat.reduceAdd]
  clear hr1 z2 z3 hv hgb hh m5 HO1
  refine wpIn_loop_rounds 3 ?_
  rw [roundsIn_succ]
  have hba : Below w1.heap.size w1 (w1.alloc (.cells #[.int .i64 r1.1, .int .i64 r1.2] 65)) := belowA
  have hbca := hb01.trans (hba.mono hb01.size)
  have hcl := HCA.out _ hbca r1.1 r1.2
  have HCL := Lib.hid hcl
  have kk1 := kk1.ext hba
  have kk2 := kk2.ext hba
  have kk3 := kk3.ext hba
  have hq2 := def_lt' kk2
  clear hcl
  gi_wp2_with (first
   | (refine ⟨trivial, ?_⟩; gi_at_call 72; refine (callsIn_wide.2 HCL.out).mono ?_; rintro e w2 ⟨rb, cb, gb, eb, rfl, hk2, hb2, n1, n2, n3, n4⟩)
   | (refine ⟨trivial, ?_⟩))
  refine range_exit (id := 2) (R := fun D W' => CxI w w.heap.size w.heap.size (stepC (0, false) (hitsR er es ev r1)) W' ∧ Bk W' g3 65 cur ∧ W'.heap[D]? = some (.deferred (some [])) ∧ w2.heap.size ≤ D) ?_ ?_
  ·have hgv := HCG.out w (Below.refl _ _) w2 (hbca.trans (hb2.mono hbca.size)) rb cb gb eb r1.1 r1.2 ⟨g0, g1⟩ ⟨g2, g3'⟩ hk2
   have hbw2 := hbca.trans (hb2.mono hbca.size)
   have kk1 := kk1.ext hb2
   have kk2 := kk2.ext hb2
   have kk3 := kk3.ext hb2
   have hz2 := hb2.size
   have hza := hba.size
   have hz1 := hb01.size
   have hzb := def_lt' kk2
   refine range_mine_s (gf := 126) (lb := #[.pointer (some ⟨rb, 0, none⟩), .pointer (some ⟨cb, 0, none⟩), .pointer (some ⟨gb, 0, none⟩), .pointer (some ⟨eb, 0, none⟩)]) rfl (enters_of Tryz.func126 (by kernel_rfl) rfl) hgv (Below.refl _ _) hbw2.size (fun _ => rfl)
    (fun pre W => pre = [] ∧ CxI w w.heap.size w.heap.size (0, false) W ∧ ClK rb cb gb eb r1.1 r1.2 (cntP er es) po EA en ec W ∧ Bk W g3 65 cur) (fun c pre W => c = .exit 2 ∧ (∃ at_, pre = [at_]) ∧ CxI w w.heap.size w.heap.size (stepC (0, false) pre) W ∧ ClK rb cb gb eb r1.1 r1.2 (cntP er es) po EA en ec W ∧ Bk W g3 65 cur) ?hI ?hIx ?h0 (fun s W h => h.2.2.1) (fun _ _ _ h => h.2.2.2.1) ?hround ?hdone ?hstop
   case hI =>
    rintro s A' B row ⟨h1, ⟨h2, h3, h4⟩, ⟨h5, h6, h7, h8⟩, h9⟩ hg hr
    exact ⟨h1, ⟨blk_kept h2 hg hr, blk_kept h3 hg hr, below_kept h4 (Nat.le_refl _) hbw2.size hg hr⟩, ⟨blk_kept h5 hg hr, blk_kept h6 hg hr, blk_kept h7 hg hr, blk_kept h8 hg hr⟩, blk_kept h9 hg hr⟩
   case hIx =>
    rintro c s A' B row ⟨h0, h1, ⟨h2, h3, h4⟩, ⟨h5, h6, h7, h8⟩, h9⟩ hg hr
    exact ⟨h0, h1, ⟨blk_kept h2 hg hr, blk_kept h3 hg hr, below_kept h4 (Nat.le_refl _) hbw2.size hg hr⟩, ⟨blk_kept h5 hg hr, blk_kept h6 hg hr, blk_kept h7 hg hr, blk_kept h8 hg hr⟩, blk_kept h9 hg hr⟩
   case h0 => exact ⟨rfl, ⟨kk1, kk2, hbw2⟩, hk2, kk3⟩
   case hround =>
    rintro lp pre at_ W1 KK hkk
    have HKK := Lib.hid hkk
    clear hkk hgv hk2
    gi_wp2
    refine HKK.out _ ?_
    clear HKK
    rintro W0 W2 ⟨rfl, ⟨h1, h2, h3⟩, ⟨h4, h5, h6, h7⟩, h8⟩ hext hpre hM
    have kr1 := h1.ext hext
    have kr2 := h2.ext hext
    have hbb := h3.trans (hext.mono h3.size)
    have x1 := kr1.cell 0; have x2 := kr2.cell 0
    dsimp at x1 x2
    have y1 := kr1.frozen; have y2 := def_lt' kr1
    have y3 := kr2.frozen; have y4 := def_lt' kr2
    have m1 : w.heap.size + 2 < rb := Nat.lt_of_lt_of_le hq2 n1
    have m2 : w.heap.size + 2 < cb := Nat.lt_of_lt_of_le hq2 n2
    have m3 : w.heap.size + 2 < gb := Nat.lt_of_lt_of_le hq2 n3
    have m4 : w.heap.size + 2 < eb := Nat.lt_of_lt_of_le hq2 n4
    have hf : ∀ (b' : Nat) (t : TypeId) (cs : Array Value) (W : World) (v1 v2 : Value), Bk W b' t cs → w.heap.size + 2 < b' → Bk ((W.setCell ⟨w.heap.size + 1, 0, none⟩ v1).setCell ⟨w.heap.size + 1 + 1, 0, none⟩ v2) b' t cs := fun b' t cs W v1 v2 h hb => (h.far (p := ⟨w.heap.size + 1, 0, none⟩) (by simp; omega) v1).far (p := ⟨w.heap.size + 1 + 1, 0, none⟩) (by simp; omega) v2
    have HF := Lib.hid hf
    have h4' := h4.ext hext; have h5' := h5.ext hext; have h6' := h6.ext hext; have h7' := h7.ext hext; have h8' := h8.ext hext
    clear hf
    gi_wp2
    refine ⟨((KeepsOthers.setCell _ _ _).trans (KeepsOthers.setCell _ _ _)).from _, ((Below.refl _ _).setCell (by first | omega | (simp; done) | (simp; omega)) _).setCell (by first | omega | (simp; done) | (simp; omega)) _, rfl, ⟨_, rfl⟩, ⟨?_, ?_, (hbb.setCell (by first | omega | (simp; done) | (simp; omega)) _).setCell (by first | omega | (simp; done) | (simp; omega)) _⟩, ⟨HF.out _ _ _ _ _ _ h4' m1, HF.out _ _ _ _ _ _ h5' m2, HF.out _ _ _ _ _ _ h6' m3, HF.out _ _ _ _ _ _ h7' m4⟩, HF.out _ _ _ _ _ _ h8' M5.out⟩
    ·exact (kr1.set_ 0 _).far (p := ⟨w.heap.size + 1 + 1, 0, none⟩) (by simp) _
    ·exact (kr2.far (p := ⟨w.heap.size + 1, 0, none⟩) (by simp) _).set_ 0 _
   case hdone =>
    rintro D W hD ⟨hh, hc, -, hrow⟩ hKd
    refine ⟨.inl rfl, D, rfl, ?_, hrow, hKd, hD⟩
    unfold hitsR
    rw [hh]
    exact hc
   case hstop =>
    rintro D cd pre W hD hpre ⟨rfl, ⟨at_, rfl⟩, hc, -, hrow⟩ hKd
    refine wpIn_exit ⟨.inr rfl, D, rfl, ?_, hrow, hKd, hD⟩
    have := stepC_pre (s := (0, false)) hpre
    unfold hitsR
    rw [this]
    exact hc
  ·rintro D W ⟨⟨h1, h2, h3⟩, hrow, hD, hDw⟩
   have hD12 : w.heap.size + 2 < D := by have := hb2.size; omega
   have hDl := def_lt' hD
   obtain ⟨z2, z3⟩ : W.cell? ⟨g3, 2, none⟩ = some (.int .i64 r2.1) ∧ W.cell? ⟨g3, 3, none⟩ = some (.int .i64 r2.2) := ⟨(hrow.cell 2).trans (by have := Z2.out; simpa using this), (hrow.cell 3).trans (by have := Z3.out; simpa using this)⟩
   obtain ⟨s1, hs1⟩ : ∃ s1, s1 = stepC (0, false) (hitsR er es ev r1) := ⟨_, rfl⟩
   rw [← hs1] at h1 h2
   have HS1 := Lib.hid hs1
   obtain ⟨bst, fnd⟩ := s1
   have kk1 := h1; have kk2 := h2; have kk3 := hD; have hb01 := h3
   have hgb := def_lt' hrow
   obtain ⟨g0, g1, g2, g3'⟩ := HG2.out
   clear hs1 h1 h2 h3 hrow hk2 HCL hD hDw hb2 hba hbca hq2 n1 n2 n3 n4 z0 z1
   gi_wp2
   rw [roundsIn_succ]
   have hba : Below W.heap.size W (W.alloc (.cells #[.int .i64 r2.1, .int .i64 r2.2] 65)) := belowA
   have hbca := hb01.trans (hba.mono hb01.size)
   have hcl := HCA.out _ hbca r2.1 r2.2
   have HCL := Lib.hid hcl
   have kk1 := kk1.ext hba
   have kk2 := kk2.ext hba
   have kk3 := (hba.block _ (def_lt' kk3)).trans kk3
   have hq2 := def_lt' kk2
   clear hcl
   gi_wp2_with (first
    | (refine ⟨trivial, ?_⟩; gi_at_call 72; refine (callsIn_wide.2 HCL.out).mono ?_; rintro e w2 ⟨rb, cb, gb, eb, rfl, hk2, hb2, n1, n2, n3, n4⟩)
    | (refine ⟨trivial, ?_⟩))
   refine range_exit (id := 2) (R := fun D2 W' => CxI w w.heap.size w.heap.size (stepC (bst, fnd) (hitsR er es ev r2)) W' ∧ W'.heap[D]? = some (.deferred (some [])) ∧ W'.heap[D2]? = some (.deferred (some [])) ∧ w2.heap.size ≤ D2) ?_ ?_
   ·have hgv := HCG.out w (Below.refl _ _) w2 (hbca.trans (hb2.mono hbca.size)) rb cb gb eb r2.1 r2.2 ⟨g0, g1⟩ ⟨g2, g3'⟩ hk2
    have hbw2 := hbca.trans (hb2.mono hbca.size)
    have kk1 := kk1.ext hb2
    have kk2 := kk2.ext hb2
    have kk3 := (hb2.block _ (def_lt' kk3)).trans kk3
    have hz2 := hb2.size
    have hza := hba.size
    have hz1 := hb01.size
    have hzb := def_lt' kk2
    refine range_mine_s (gf := 126) (lb := #[.pointer (some ⟨rb, 0, none⟩), .pointer (some ⟨cb, 0, none⟩), .pointer (some ⟨gb, 0, none⟩), .pointer (some ⟨eb, 0, none⟩)]) rfl (enters_of Tryz.func126 (by kernel_rfl) rfl) hgv (Below.refl _ _) hbw2.size (fun _ => rfl)
     (fun pre W => pre = [] ∧ CxI w w.heap.size w.heap.size (bst, fnd) W ∧ ClK rb cb gb eb r2.1 r2.2 (cntP er es) po EA en ec W ∧ W.heap[D]? = some (.deferred (some []))) (fun c pre W => c = .exit 2 ∧ (∃ at_, pre = [at_]) ∧ CxI w w.heap.size w.heap.size (stepC (bst, fnd) pre) W ∧ ClK rb cb gb eb r2.1 r2.2 (cntP er es) po EA en ec W ∧ W.heap[D]? = some (.deferred (some []))) ?hI ?hIx ?h0 (fun s W h => h.2.2.1) (fun _ _ _ h => h.2.2.2.1) ?hround ?hdone ?hstop
    case hI =>
     rintro s A' B row ⟨h1, ⟨h2, h3, h4⟩, ⟨h5, h6, h7, h8⟩, h9⟩ hg hr
     exact ⟨h1, ⟨blk_kept h2 hg hr, blk_kept h3 hg hr, below_kept h4 (Nat.le_refl _) hbw2.size hg hr⟩, ⟨blk_kept h5 hg hr, blk_kept h6 hg hr, blk_kept h7 hg hr, blk_kept h8 hg hr⟩, (hg.block D (def_lt' h9) (fun e => by have := (hr D e.symm).1; omega)).trans h9⟩
    case hIx =>
     rintro c s A' B row ⟨h0, h1, ⟨h2, h3, h4⟩, ⟨h5, h6, h7, h8⟩, h9⟩ hg hr
     exact ⟨h0, h1, ⟨blk_kept h2 hg hr, blk_kept h3 hg hr, below_kept h4 (Nat.le_refl _) hbw2.size hg hr⟩, ⟨blk_kept h5 hg hr, blk_kept h6 hg hr, blk_kept h7 hg hr, blk_kept h8 hg hr⟩, (hg.block D (def_lt' h9) (fun e => by have := (hr D e.symm).1; omega)).trans h9⟩
    case h0 => exact ⟨rfl, ⟨kk1, kk2, hbw2⟩, hk2, kk3⟩
    case hround =>
     rintro lp pre at_ W1 KK hkk
     have HKK := Lib.hid hkk
     clear hkk hgv hk2
     gi_wp2
     refine HKK.out _ ?_
     clear HKK
     rintro W0 W2 ⟨rfl, ⟨h1, h2, h3⟩, ⟨h4, h5, h6, h7⟩, h8⟩ hext hpre hM
     have kr1 := h1.ext hext
     have kr2 := h2.ext hext
     have hbb := h3.trans (hext.mono h3.size)
     have x1 := kr1.cell 0; have x2 := kr2.cell 0
     dsimp at x1 x2
     have y1 := kr1.frozen; have y2 := def_lt' kr1
     have y3 := kr2.frozen; have y4 := def_lt' kr2
     have m1 : w.heap.size + 2 < rb := Nat.lt_of_lt_of_le hq2 n1
     have m2 : w.heap.size + 2 < cb := Nat.lt_of_lt_of_le hq2 n2
     have m3 : w.heap.size + 2 < gb := Nat.lt_of_lt_of_le hq2 n3
     have m4 : w.heap.size + 2 < eb := Nat.lt_of_lt_of_le hq2 n4
     have hf : ∀ (b' : Nat) (t : TypeId) (cs : Array Value) (W : World) (v1 v2 : Value), Bk W b' t cs → w.heap.size + 2 < b' → Bk ((W.setCell ⟨w.heap.size + 1, 0, none⟩ v1).setCell ⟨w.heap.size + 1 + 1, 0, none⟩ v2) b' t cs := fun b' t cs W v1 v2 h hb => (h.far (p := ⟨w.heap.size + 1, 0, none⟩) (by simp; omega) v1).far (p := ⟨w.heap.size + 1 + 1, 0, none⟩) (by simp; omega) v2
     have HF := Lib.hid hf
     have h4' := h4.ext hext; have h5' := h5.ext hext; have h6' := h6.ext hext; have h7' := h7.ext hext; have h8' := (hext.block _ (def_lt' h8)).trans h8
     clear hf
     cases fnd with
     | false =>
       gi_wp2
       refine ⟨((KeepsOthers.setCell _ _ _).trans (KeepsOthers.setCell _ _ _)).from _, ((Below.refl _ _).setCell (by first | omega | (simp; done) | (simp; omega)) _).setCell (by first | omega | (simp; done) | (simp; omega)) _, rfl, ⟨_, rfl⟩, ⟨?_, ?_, (hbb.setCell (by first | omega | (simp; done) | (simp; omega)) _).setCell (by first | omega | (simp; done) | (simp; omega)) _⟩, ⟨HF.out _ _ _ _ _ _ h4' m1, HF.out _ _ _ _ _ _ h5' m2, HF.out _ _ _ _ _ _ h6' m3, HF.out _ _ _ _ _ _ h7' m4⟩, (Below.heap_setCell _ _ _ _ (by simp; omega)).trans ((Below.heap_setCell _ _ _ _ (by simp; omega)).trans h8')⟩
       ·exact (kr1.set_ 0 _).far (p := ⟨w.heap.size + 1 + 1, 0, none⟩) (by simp) _
       ·exact (kr2.far (p := ⟨w.heap.size + 1, 0, none⟩) (by simp) _).set_ 0 _
     | true =>
       by_cases hlt : at_ < bst
       ·have e3 : (at_ : Int) < bst := by omega
        have hst : stepC (bst, true) [at_] = (at_, true) := by simp [stepC, hlt]
        have HST := Lib.hid hst
        clear hst hlt
        gi_wp2
        refine ⟨((KeepsOthers.setCell _ _ _).trans (KeepsOthers.setCell _ _ _)).from _, ((Below.refl _ _).setCell (by first | omega | (simp; done) | (simp; omega)) _).setCell (by first | omega | (simp; done) | (simp; omega)) _, rfl, ⟨_, rfl⟩, ?_, ⟨HF.out _ _ _ _ _ _ h4' m1, HF.out _ _ _ _ _ _ h5' m2, HF.out _ _ _ _ _ _ h6' m3, HF.out _ _ _ _ _ _ h7' m4⟩, (Below.heap_setCell _ _ _ _ (by simp; omega)).trans ((Below.heap_setCell _ _ _ _ (by simp; omega)).trans h8')⟩
        show CxI w w.heap.size w.heap.size (stepC (bst, true) [at_]) _
        rw [HST.out]
        refine ⟨?_, ?_, (hbb.setCell (by first | omega | (simp; done) | (simp; omega)) _).setCell (by first | omega | (simp; done) | (simp; omega)) _⟩
        ·exact (kr1.set_ 0 _).far (p := ⟨w.heap.size + 1 + 1, 0, none⟩) (by simp) _
        ·exact (kr2.far (p := ⟨w.heap.size + 1, 0, none⟩) (by simp) _).set_ 0 _
       ·have e3 : ¬ (at_ : Int) < bst := by omega
        have e4 : (bst : Int) ≤ at_ := by omega
        have hst : stepC (bst, true) [at_] = (bst, true) := by simp [stepC, hlt]
        have HST := Lib.hid hst
        clear hst hlt
        gi_wp2
        refine ⟨(KeepsOthers.refl _).from _, Below.refl _ _, rfl, ⟨_, rfl⟩, ?_, ⟨h4', h5', h6', h7'⟩, h8'⟩
        show CxI w w.heap.size w.heap.size (stepC (bst, true) [at_]) _
        rw [HST.out]
        exact ⟨kr1, kr2, hbb⟩
    case hdone =>
     rintro D2 W hD2 ⟨hh, hc, -, hrow⟩ hKd
     refine ⟨.inl rfl, D2, rfl, ?_, hrow, hKd, hD2⟩
     unfold hitsR
     rw [hh]
     exact hc
    case hstop =>
     rintro D2 cd pre W hD2 hpre ⟨rfl, ⟨at_, rfl⟩, hc, -, hrow⟩ hKd
     refine wpIn_exit ⟨.inr rfl, D2, rfl, ?_, hrow, hKd, hD2⟩
     have := stepC_pre (s := (bst, fnd)) hpre
     unfold hitsR
     rw [this]
     exact hc
   ·rintro D2 W2 ⟨⟨h1, h2, h3⟩, hD, hD2, hDw⟩
    have hDW : w.heap.size ≤ D2 := by have := hb2.size; have := hbca.size; omega
    have hne : D ≠ D2 := by have := hb2.size; have := hba.size; omega
    have hD1 : ((W2.drew.putObj D2 (.deferred none))).heap[D]? = some (.deferred (some [])) := (World.putObj_heap_other hne).trans hD
    have hDW1 : w.heap.size ≤ D := by omega
    have d1 := h1.cell 0; have d2 := h2.cell 0
    dsimp at d1 d2
    have hres : stepC (bst, fnd) (hitsR er es ev r2) = clashB er es ev [r1, r2] := by rw [HS1.out]; rfl
    rw [hres] at d1 d2
    have HD2 := Lib.hid hD2
    have HD1 := Lib.hid hD1
    have HB := Lib.hid h3
    obtain ⟨s, hs⟩ : ∃ s, s = clashB er es ev [r1, r2] := ⟨_, rfl⟩
    rw [← hs] at d1 d2
    have HS := Lib.hid hs
    have HDA := Lib.hid hDW
    have HDB := Lib.hid hDW1
    clear hres h1 h2 h3 hD hs hD2 hD1 hDW hDW1 hDw hne hk2
    gi_wp2
    rw [roundsIn_succ]
    gi_wp2
    refine wpIn_wide.2 (wp_normal ?_)
    go_region
    have hfin : CshOut er es ev [r1, r2] w (.returned (.tuple #[.int .i64 (s.1 : Int), .bool s.2])) ((W2.drew.putObj D2 (.deferred none)).putObj D (.deferred none)) := ⟨s, HS.out, rfl, (HB.out.drew.trans (below_putObj HDA.out)).trans (below_putObj HDB.out)⟩
    have HFIN := Lib.hid hfin
    clear hfin
    gi_wp2
    refine ⟨by simp, .inl ⟨_, _, rfl, run_takeDeferred (b := D2) HD2.out, by simp, .inl ⟨_, _, rfl, run_takeDeferred (b := D) HD1.out, .tuple #[.int .i64 (s.1 : Int), .bool s.2], (results_tmp2 (t := 6) (u := 7) Tryz.results22 _ _ _).trans (by rfl), HFIN.out⟩⟩⟩
 ·exact absurd hLl (by simp)
attribute [local go_sem] Oper.semAt_some
theorem apart_any (po : Option Addr) (es : List Ent) (er : Int → Bool) (k f t gg h i m v : Int) (XA YA : Option Addr) (xn yn xc yc : Nat) (sl : List Tok) (st : List Mk) (EA : Option Addr) (en ec : Nat) (ev : List Int) (w : World) (hl : LgIs po er es w) (hcn : cntP er es ≤ 100000)
 (hx : Rd w w.heap.size 12 XA xn (toks sl)) (hxn : xn ≤ maxLen) (hy : Rd w w.heap.size 8 YA yn (mks st)) (hyn : yn ≤ maxLen) (hev : Rd w w.heap.size 1 EA en (its ev)) (hen : en ≤ maxLen) :
 Calls Tryz.prog 24 #[.pointer po, .agg #[.int .i64 k, .int .i64 f, .int .i64 t, .int .i64 gg, .int .i64 h, .int .i64 i, .int .i64 m, .int .i64 v, .slice XA xn xc, .slice YA yn yc], .slice EA en ec] w
  fun e w' => e = .returned (.bool !(clashB er es ev (reachL k f t gg h i m v xn yn)).2) ∧ Below w.heap.size w w' := by
 have hcl := fun W (hb : Below w.heap.size w W) => callsIn_wide.1 (clash_any po es er k f t gg h i m v XA YA xn yn xc yc sl st EA en ec ev W (hl.below hb) hcn ((hx.below hb).more hb.size) hxn ((hy.below hb).more hb.size) hyn ((hev.below hb).more hb.size) hen)
 have HCL := Lib.hid hcl
 obtain ⟨L, hL⟩ : ∃ L, L = reachL k f t gg h i m v xn yn := ⟨_, rfl⟩
 have HL := Lib.hid hL
 have hb0 : Below w.heap.size w (w.alloc (.cells #[.int .i64 k, .int .i64 f, .int .i64 t, .int .i64 gg, .int .i64 h, .int .i64 i, .int .i64 m, .int .i64 v, .slice XA xn xc, .slice YA yn yc] 45)) := belowA
 have HB0 := Lib.hid hb0
 clear hcl hl hx hy hev hL hb0
 go_enter Tryz.func24, Tryz.ntmps24
 go_wp2_with (go_at_call 22; refine (HCL.out _ HB0.out).mono ?_; rintro e w1 ⟨s, hs, rfl, hb1⟩; have HS := Lib.hid hs; have HB1 := Lib.hid hb1; clear hs hb1; simp only [])
 go_ret
 exact ⟨by rw [← HS.out]; rfl, HB0.out.trans (HB1.out.mono HB0.out.size)⟩
end Go.Proofs.YtmacfoebfpljoaaGreat
namespace Go.Proofs.YtmacfoebfpljoaaGreat
set_option linter.unusedVariables false
section
variable {er : Int → Bool} {es : List Ent} {ev ev' : List Int}
theorem hasI_mem {v : Int} : hasI ev v = true ↔ v ∈ ev := by
 unfold hasI
 rw [List.any_eq_true]
 exact ⟨fun ⟨x, hx, h⟩ => by have := of_decide_eq_true h; rw [this]; exact hx, fun h => ⟨v, h, by simp⟩⟩
theorem hasI_mono (h : ∀ x ∈ ev, x ∈ ev') {v : Int} (hv : hasI ev v = true) : hasI ev' v = true := hasI_mem.2 (h _ (hasI_mem.1 hv))
theorem oneB_mono (h : ∀ x ∈ ev, x ∈ ev') {l : List Int} (hv : oneB l ev = true) : oneB l ev' = true := by
 unfold oneB at hv ⊢
 rw [List.any_eq_true] at hv ⊢
 obtain ⟨x, hx, hh⟩ := hv
 exact ⟨x, hx, hasI_mono h hh⟩
theorem tchE_mono (h : ∀ x ∈ ev, x ∈ ev') {e : Ent} (hv : tchE e ev = true) : tchE e ev' = true := by
 unfold tchE at hv ⊢
 simp only [Bool.or_eq_true, Bool.and_eq_true] at hv ⊢
 rcases hv with (⟨h1, h2⟩ | h2) | h2
 ·exact .inl (.inl ⟨h1, hasI_mono h h2⟩)
 ·exact .inl (.inr (oneB_mono h h2))
 ·exact .inr (oneB_mono h h2)
theorem dedE_mono (h : ∀ x ∈ ev, x ∈ ev') {e : Ent} (hv : dedE e ev = true) : dedE e ev' = true := by
 unfold dedE at hv ⊢
 simp only [Bool.or_eq_true, Bool.and_eq_true] at hv ⊢
 rcases hv with ⟨h1, h2⟩ | h2
 ·exact .inl ⟨h1, hasI_mono h h2⟩
 ·exact .inr (oneB_mono h h2)
theorem touchedB_mono (h : ∀ x ∈ ev, x ∈ ev') {k : Nat} (hv : touchedB er es k ev = true) : touchedB er es k ev' = true := by
 unfold touchedB at hv ⊢
 cases hh : (es.filter (thereB er))[k]? with
 | none => rw [hh] at hv; exact hv
 | some e => rw [hh] at hv; exact tchE_mono h hv
theorem deadB_mono (h : ∀ x ∈ ev, x ∈ ev') {k : Nat} (hv : deadB er es k ev = true) : deadB er es k ev' = true := by
 unfold deadB at hv ⊢
 cases hh : (plN er es)[k]? with
 | none => rw [hh] at hv; exact hv
 | some T =>
   rw [hh] at hv
   simp only [List.any_eq_true] at hv ⊢
   obtain ⟨e, he, h2⟩ := hv
   exact ⟨e, he, dedE_mono h h2⟩
theorem clhB_mono (h : ∀ x ∈ ev, x ∈ ev') {r0 : Int} {k : Nat} (hv : clhB er es r0 ev k = true) : clhB er es r0 ev' k = true := by
 unfold clhB at hv ⊢
 simp only [Bool.or_eq_true, Bool.and_eq_true] at hv ⊢
 rcases hv with ⟨h1, h2⟩ | h2
 ·exact .inl ⟨h1, deadB_mono h h2⟩
 ·exact .inr (touchedB_mono h h2)
theorem hitsL_mono (h : ∀ x ∈ ev, x ∈ ev') {r0 : Int} {lo k : Nat} {x : Nat} (hv : x ∈ hitsL er es r0 ev lo k) : x ∈ hitsL er es r0 ev' lo k := by
 unfold hitsL at hv ⊢
 rw [List.mem_filter] at hv ⊢
 exact ⟨hv.1, clhB_mono h hv.2⟩
theorem stepC_found {s : Nat × Bool} {l : List Nat} : (stepC s l).2 = (s.2 || !l.isEmpty) := by
 cases l with
 | nil => simp [stepC]
 | cons a l =>
   obtain ⟨b, f⟩ := s
   cases f <;> simp [stepC]
   split <;> rfl
theorem clash_fold {rs : List (Int × Int)} (s : Nat × Bool) : (rs.foldl (fun s r => stepC s (hitsR er es ev r)) s).2 = (s.2 || rs.any fun r => !(hitsR er es ev r).isEmpty) := by
 induction rs generalizing s with
 | nil => simp
 | cons r rs ih => rw [List.foldl_cons, ih, stepC_found, List.any_cons, Bool.or_assoc]
theorem clash_found {rs : List (Int × Int)} : (clashB er es ev rs).2 = rs.any fun r => !(hitsR er es ev r).isEmpty := by
 unfold clashB
 rw [clash_fold]
 simp
/-- fewer events, no more found -/
theorem clash_mono (h : ∀ x ∈ ev, x ∈ ev') {rs : List (Int × Int)} (hv : (clashB er es ev rs).2 = true) : (clashB er es ev' rs).2 = true := by
 rw [clash_found, List.any_eq_true] at hv ⊢
 obtain ⟨r, hr, hh⟩ := hv
 refine ⟨r, hr, ?_⟩
 cases hc : hitsR er es ev r with
 | nil => rw [hc] at hh; simp at hh
 | cons x t =>
   have hm : x ∈ hitsR er es ev' r := hitsL_mono h (by unfold hitsR at hc; rw [hc]; exact List.mem_cons_self)
   cases hc' : hitsR er es ev' r with
   | nil => rw [hc'] at hm; cases hm
   | cons y u => rfl
theorem clhB_nil {r0 : Int} {k : Nat} : clhB er es r0 [] k = false := by
 have ht : touchedB er es k [] = false := by
  unfold touchedB
  split
  ·simp [tchE, hasI, oneB]
  ·rfl
 have hd : deadB er es k [] = false := by
  unfold deadB
  split
  ·rw [List.any_eq_false]
   intro e _
   simp [dedE, hasI, oneB]
  ·rfl
 unfold clhB
 rw [ht, hd]
 simp
/-- no events, nothing found -/
theorem clash_nil {rs : List (Int × Int)} : (clashB er es [] rs).2 = false := by
 rw [clash_found, List.any_eq_false]
 intro r _
 have : hitsR er es [] r = [] := by
  unfold hitsR hitsL
  rw [List.filter_eq_nil_iff]
  intro x _
  rw [clhB_nil]
  simp
 rw [this]
 simp
end
end Go.Proofs.YtmacfoebfpljoaaGreat
namespace Go.Proofs.YtmacfoebfpljoaaGreat
open Go.RowKit
set_option linter.unusedVariables false
attribute [local go_sem] Oper.semAt_some
abbrev zeroToks4 : Array Value := zeroTok ++ zeroTok ++ zeroTok ++ zeroTok
theorem text4_any (r s u v : Int) (b : Nat) (w : World) (k : Bk w b 21 #[.int .i32 r, .int .i32 s, .int .i32 u, .int .i32 v]) : Calls Tryz.prog 52 #[.slice (some ⟨b, 0, none⟩) 4 4] w (TextOut 4 [r, s, u, v] w) :=
 text_gen 4 [r, s, u, v] b zeroToks4 w rfl (by omega) (def_lt' k) (fun q x hx => by
  rw [k.cell]
  have : q < 4 := (List.getElem?_eq_some_iff.1 hx).1
  obtain rfl | rfl | rfl | rfl : q = 0 ∨ q = 1 ∨ q = 2 ∨ q = 3 := by omega
  all_goals (injection hx with hx; subst hx; rfl)) (fun _ => by kernel_rfl) rfl
/-- a ledger behind k steps of whatever events, none of which is erased -/
structure LdN (k : Nat) (base g mb n : Nat) (sv : Value) (nx : Int) (l : List EH) (D : List Tok) (W : World) : Prop where
 in_ : LdIn W base g mb n sv nx l (fun _ => false)
 view : Go.Proofs.YtmacfoebfpljoaaGreat.view (fun _ => false) (l.map EH.e) = D
 lim : Lim k (l.map EH.e)
 len : l.length ≤ 1000 + 1000 * k
 nx0 : 0 ≤ nx
 nx1 : nx ≤ 1000 + 1000 * k
theorem LdN.below {k base g mb n : Nat} {sv : Value} {nx : Int} {l : List EH} {D : List Tok} {W W' : World} (h : LdN k base g mb n sv nx l D W) (hb : Below W.heap.size W W') : LdN k base g mb n sv nx l D W' :=
 ⟨h.in_.below hb, h.view, h.lim, h.len, h.nx0, h.nx1⟩
def LdNStep (k base g mb n : Nat) (sv : Value) (l : List EH) (nx : Int) (kd f t gp hp i : Nat) (sl : List Tok) (ev : Int) (D' : List Tok) (W : World) (e : Ending) (W' : World) : Prop :=
 e = .returned (.int .i64 0) ∧ ∃ sv' nx' l', LdN (k + 1) base g mb n sv' nx' l' D' W' ∧ Owns g mb sv l sv' l' W W' ∧ l'.map EH.e = stepE (fun _ => false) kd f t gp hp i sl ev nx D' (l.map EH.e)
theorem ldn_step (j base g mb n : Nat) (sv : Value) (nx : Int) (el : List EH) (k f t gp hp i m v : Int) (XA YA PA : Option Addr) (xn xc yn yc pn pc : Nat) (ev : Int) (sl D : List Tok) (st : List Mk) (mk : Nat → Mk) (w : World)
 (h : LdN j base g mb n sv nx el D w) (hev : Bd ev) (hb : base ≤ w.heap.size) (hj : j ≤ 30) (hsh : shB k f t gp hp i m v xn yn = true) (ht : t ≤ D.length)
 (hx : Rd w w.heap.size 12 XA xn (toks sl)) (hxc : xn ≤ xc) (hxn : xn ≤ 1000) (hxA : 0 < xn → ∀ a, XA = some a → ¬ LdIn.Mine g mb sv el a.block) (hy : Rd w w.heap.size 8 YA yn (mks st)) (hyn : yn ≤ 20000)
 (ha : Rd w w.heap.size 12 PA pn (toks (doesL k.toNat f.toNat t.toNat gp.toNat hp.toNat i.toNat sl mk D))) (haA : 0 < pn → ∀ a, PA = some a → ¬ LdIn.Mine g mb sv el a.block) :
 Calls Tryz.prog 13 #[.pointer (some ⟨g, 0, none⟩), .agg #[.int .i64 k, .int .i64 f, .int .i64 t, .int .i64 gp, .int .i64 hp, .int .i64 i, .int .i64 m, .int .i64 v, .slice XA xn xc, .slice YA yn yc], .int .i64 ev, .slice PA pn pc] w
  (LdNStep j base g mb n sv el nx k.toNat f.toNat t.toNat gp.toNat hp.toNat i.toNat sl ev (doesL k.toNat f.toNat t.toNat gp.toNat hp.toNat i.toNat sl mk D) w) := by
 have hv := h.view
 have hcn : cntP (fun _ => false) (el.map EH.e) = D.length := by rw [← cntP_view, hv]
 obtain ⟨⟨b0, b1, b2⟩, hk, h2, h1⟩ := shB_spec hsh
 have hxl := hx.tlen
 have hal := ha.tlen
 have hjl := h.len
 have h0 := h.nx0
 have hn1 := h.nx1
 refine (ldo_any base g mb n sv nx ev el (fun _ => false) k f t gp hp i m v XA YA PA xn xc yn yc pn pc sl _ st w h.in_ hb (by omega) ⟨h.nx0, by omega⟩ hsh (by rw [hcn]; exact ht) hx hxc (by omega) hxA hy hyn ha (by rw [hcn, ← hal]; exact doesL_shift hsh sl D mk hxl ht) haA hev (fun x hx => by
  have := h.lim x.e (List.mem_map.2 ⟨x, hx, rfl⟩)
  omega)).mono ?_
 rintro e w' ⟨rfl, sv', l', hL, hm, hs, hmi⟩
 have hk2 : (k.toNat = 2 → f.toNat ≤ gp.toNat ∧ gp.toNat ≤ hp.toNat ∧ hp.toNat ≤ t.toNat) := fun e => by have := h2 (by omega); omega
 have hlen' : l'.length ≤ 1000 + 1000 * (j + 1) := by
  have h3 := congrArg List.length hm
  rw [List.length_map] at h3
  have h4 := stepE_len (er := fun _ => false) (kd := k.toNat) (f := f.toNat) (t := t.toNat) (g := gp.toNat) (h := hp.toNat) (i := i.toNat) (sl := sl) (ev := ev) (nx := nx) (after := doesL k.toNat f.toNat t.toNat gp.toNat hp.toNat i.toNat sl mk D) (es := el.map EH.e) (by omega) (by omega) (by rw [hcn]; omega) hk2
  rw [List.length_map] at h4
  omega
 refine ⟨rfl, sv', _, l', ⟨hL, ?_, ?_, hlen', by omega, by omega⟩, ⟨hs, hmi⟩, hm⟩
 ·rw [hm, step_seen mk rfl (by omega) (by omega) (by rw [hv]; omega) hk2 (fun h3 p hf hp => doesL_m h3 (by omega) p hf hp), hv]
 ·rw [hm]
  exact h.lim.step
theorem ldn_new (tA : Option Addr) (tn tc : Nat) (sl : List Tok) (w : World) (hr : Rd w w.heap.size 12 tA tn (toks sl)) (hn : tn ≤ 1000) :
 Calls Tryz.prog 11 #[.slice tA tn tc] w fun e w' => ∃ g mb sv nx l, e = .returned (.pointer (some ⟨g, 0, none⟩)) ∧ LdN 0 w.heap.size g mb 0 sv nx l sl w' ∧ Below w.heap.size w w' ∧ nx = sl.length ∧ l.map EH.e = freE (-1) true 0 sl := by
 have hl := hr.tlen
 refine (lnew_any tA tn tc sl w hr (by omega)).mono ?_
 rintro e w' ⟨g, mb, sv, rfl, hL, hb⟩
 refine ⟨g, mb, sv, _, _, rfl, ⟨hL, ?_, ?_, by rw [frs_len]; omega, by omega, by omega⟩, hb, rfl, frs_e _ _ _ _⟩
 ·rw [frs_e]
  exact Back.start _ _ _ |>.seen 0 sl rfl _ (fun v h1 h2 => by omega)
 ·rw [frs_e]
  exact Lim.start _ _ _ _
attribute [local go_sem] Oper.semAt_some
abbrev es43 : List Ent := stepE (fun _ => false) 1 1 1 0 0 0 [chr 120] 1 3 [chr 97, chr 120, chr 98, chr 99] (freE (-1) true 0 [chr 97, chr 98, chr 99])
theorem far43 : (clashB (fun _ => false) es43 [1] (reachL 1 3 3 0 0 0 0 0 0 0)).2 = false := by rfl
theorem near43 : (clashB (fun _ => false) es43 [1] (reachL 1 2 2 0 0 0 0 0 0 0)).2 = true := by rfl
theorem live43_any (w : World) : Calls Tryz.prog 19 #[] w fun e w' => e = .returned (.bool true) ∧ Below w.heap.size w w' := by
 go_enter Tryz.func19, Tryz.ntmps19
 go_wp2_with (go_at_call 52; fail)
 refine (text3_any 97 98 99 w.heap.size _ (Bk.new w _ _)).mono ?_
 rintro e w1 ⟨v1, rfl, ho1, hb1⟩
 obtain ⟨A1, c1, rfl, hc1, t1⟩ := Tks.of_own ho1
 have hb01 : Below w.heap.size w w1 := Below.trans belowA (hb1.mono (by simp))
 clear ho1 hb1
 go_wp2_with (go_at_call 11; fail)
 refine (ldn_new A1 3 c1 [chr 97, chr 98, chr 99] w1 t1.r (by omega)).mono ?_
 rintro e w2 ⟨g, mb, sv, nx, l, rfl, h2, hb2, hnx, hes⟩
 have hz12 := hb2.size
 have hb02 : Below w.heap.size w w2 := hb01.trans (hb2.mono hb01.size)
 clear hb2 t1
 go_wp2_with (go_at_call 52; fail)
 refine (text1_any 120 w2.heap.size _ (Bk.new w2 _ _)).mono ?_
 rintro e w3 ⟨v3, rfl, ho3, hb3⟩
 obtain ⟨A3, c3, rfl, hc3, t3⟩ := Tks.of_own ho3
 have hb23 : Below w2.heap.size w2 w3 := Below.trans belowA (hb3.mono (by simp))
 have h3 := h2.below hb23
 have hz13 := hb23.size
 have hb03 : Below w.heap.size w w3 := hb02.trans (hb23.mono hb02.size)
 clear ho3 hb3 hb23 h2
 go_wp2_with (go_at_call 52; fail)
 refine (text4_any 97 120 98 99 w3.heap.size _ (Bk.new w3 _ _)).mono ?_
 rintro e w4 ⟨v4, rfl, ho4, hb4⟩
 obtain ⟨A4, c4, rfl, hc4, t4⟩ := Tks.of_own ho4
 have hb34 : Below w3.heap.size w3 w4 := Below.trans belowA (hb4.mono (by simp))
 have h4 := h3.below hb34
 have t34 := t3.below hb34
 have hz14 := hb34.size
 have hb04 : Below w.heap.size w w4 := hb03.trans (hb34.mono hb03.size)
 clear ho4 hb4 hb34 h3 t3
 have hd := ldn_step 0 w1.heap.size g mb 0 sv nx l 1 1 1 0 0 0 0 0 A3 none A4 1 c3 0 0 4 c4 1 [chr 120] [chr 97, chr 98, chr 99] [] (fun _ => default) w4 h4 ⟨by omega, by omega⟩ (by omega) (by omega) (by decide) (by decide) t34.r hc3 (by omega) (fun _ => t34.not h4.in_) (Rd.nil_ _ _ _ _) (by omega) t4.r (fun _ => t4.not h4.in_)
 have HD := Lib.hid hd
 clear hd
 go_wp2_with (go_at_call 13; fail)
 refine HD.out.mono ?_
 rintro e w5 ⟨rfl, sv5, nx5, l5, h5, ho5, hm5⟩
 have hz15 := ho5.1.size
 have hb45 : Below w1.heap.size w4 w5 := ho5.below h4.in_ (by omega)
 have hb05 : Below w.heap.size w w5 := hb04.trans (hb45.mono hb01.size)
 have he5 : l5.map EH.e = es43 := by rw [hm5, hes, hnx]; rfl
 clear ho5 hb45 h4 t34 t4 HD hm5 hes
 go_wp2_with (go_at_call 24; fail)
 obtain ⟨A5, cc5, rfl, -, -⟩ := h5.in_.form
 have hba : Below w5.heap.size w5 (w5.alloc (.cells #[.int .i64 1] 3)) := belowA
 have ka := Bk.new w5 3 #[.int .i64 1]
 have hev : Rd (w5.alloc (.cells #[.int .i64 1] 3)) (w5.alloc (.cells #[.int .i64 1] 3)).heap.size 1 (some ⟨w5.heap.size, 0, none⟩) 1 (its [1]) := ⟨rfl, fun _ => ⟨_, 0, rfl, by simp, fun i v hv => by
  rw [Nat.zero_add, ka.cell]
  obtain rfl : i = 0 := by have := (List.getElem?_eq_some_iff.1 hv).1; simp [its] at this; omega
  exact hv⟩⟩
 refine (apart_any (some ⟨g, 0, none⟩) (l5.map EH.e) (fun _ => false) 1 3 3 0 0 0 0 0 none none 0 0 0 0 [] [] (some ⟨w5.heap.size, 0, none⟩) 1 1 [1] _ (lgIs_ld _ _ _ _ _ _ _ _ _ _ (h5.in_.below hba) (by have := h5.len; omega)) (by rw [he5]; decide) (Rd.nil_ _ _ _ _) (by unfold maxLen; omega) (Rd.nil_ _ _ _ _) (by unfold maxLen; omega) hev (by unfold maxLen; omega)).mono ?_
 rintro e w6 ⟨rfl, hb6⟩
 rw [he5, far43]
 have h6 := (h5.below hba).below hb6
 have hb06 : Below w.heap.size w w6 := hb05.trans ((hba.trans (hb6.mono hba.size)).mono hb05.size)
 clear h5 hba ka hev hb6
 go_wp2_with (go_at_call 24; fail)
 have hba : Below w6.heap.size w6 (w6.alloc (.cells #[.int .i64 1] 3)) := belowA
 have ka := Bk.new w6 3 #[.int .i64 1]
 have hev : Rd (w6.alloc (.cells #[.int .i64 1] 3)) (w6.alloc (.cells #[.int .i64 1] 3)).heap.size 1 (some ⟨w6.heap.size, 0, none⟩) 1 (its [1]) := ⟨rfl, fun _ => ⟨_, 0, rfl, by simp, fun i v hv => by
  rw [Nat.zero_add, ka.cell]
  obtain rfl : i = 0 := by have := (List.getElem?_eq_some_iff.1 hv).1; simp [its] at this; omega
  exact hv⟩⟩
 refine (apart_any (some ⟨g, 0, none⟩) (l5.map EH.e) (fun _ => false) 1 2 2 0 0 0 0 0 none none 0 0 0 0 [] [] (some ⟨w6.heap.size, 0, none⟩) 1 1 [1] _ (lgIs_ld _ _ _ _ _ _ _ _ _ _ (h6.in_.below hba) (by have := h6.len; omega)) (by rw [he5]; decide) (Rd.nil_ _ _ _ _) (by unfold maxLen; omega) (Rd.nil_ _ _ _ _) (by unfold maxLen; omega) hev (by unfold maxLen; omega)).mono ?_
 rintro e w7 ⟨rfl, hb7⟩
 rw [he5, near43]
 have hb07 : Below w.heap.size w w7 := hb06.trans ((hba.trans (hb7.mono hba.size)).mono hb06.size)
 clear hba ka hev hb7 h6
 go_wp2
 go_ret
 exact ⟨rfl, hb07⟩
section
variable {W W' : World} {base g mb n : Nat} {sv sv' : Value} {nx : Int} {el el' : List EH} {er : Int → Bool} {Y : Nat → Prop}
theorem LdIn.sti (h : LdIn W base g mb n sv nx el er) (hs : Sti Y W W') (hy : ∀ k, LdIn.Mine g mb sv el k → ¬ Y k) : LdIn W' base g mb n sv nx el er :=
 ⟨hs.bk h.k (hy g (.inl rfl)), h.le, h.lm, hs.own h.row (fun k hk => hy k (.inr (.inr (.inl hk)))), h.er.keep (hs.block mb h.er.lt (hy mb (.inr (.inl rfl)))), fun x hx => (h.each x hx).sti hs (fun k hk => hy k (.inr (.inr (.inr ⟨x, hx, hk⟩)))), h.apt⟩
theorem LdB.sti {j : Nat} {docs : List (List Tok)} (h : LdB j base g mb n sv nx el docs W) (hs : Sti Y W W') (hy : ∀ k, LdIn.Mine g mb sv el k → ¬ Y k) : LdB j base g mb n sv nx el docs W' :=
 ⟨h.in_.sti hs hy, h.back, h.lim, h.len, h.nx0, h.nx1⟩
end
/-- a document's tokens, as they lie -/
def DocAt (g mb : Nat) (sv : Value) (el : List EH) (dv : Value) (W : World) (u : Value) (D : List Tok) : Prop :=
 ∃ A n c, u = .slice A n c ∧ Rd W W.heap.size 12 A n (toks D) ∧ n ≤ c ∧ (A = none → n = 0) ∧ (0 < n → ∀ a, A = some a → ¬ LdIn.Mine g mb sv el a.block ∧ dv.ownBlock ≠ some a.block)
section
variable {W W' : World} {g mb : Nat} {sv sv' dv dv' u : Value} {el el' : List EH} {D : List Tok}
theorem DocAt.lt {A : Option Addr} {n : Nat} (h : Rd W W.heap.size 12 A n (toks D)) (hn : 0 < n) : ∀ a, A = some a → a.block < W.heap.size := by
 intro a e
 obtain ⟨b, o, rfl, hb, -⟩ := h.2 hn
 injection e with e
 subst e
 exact hb
theorem DocAt.below (h : DocAt g mb sv el dv W u D) (hb : Below W.heap.size W W') : DocAt g mb sv el dv W' u D := by
 obtain ⟨A, n, c, h1, h2, h3⟩ := h
 exact ⟨A, n, c, h1, (h2.below hb).more hb.size, h3⟩
theorem DocAt.owns (h : DocAt g mb sv el dv W u D) (ho : Owns g mb sv el sv' el' W W') : DocAt g mb sv' el' dv W' u D := by
 obtain ⟨A, n, c, h1, h2, h3, h4, h5⟩ := h
 refine ⟨A, n, c, h1, h2.stiW ho.1 (fun hn a e => (h5 hn a e).1), h3, h4, fun hn a e => ⟨fun hm => ?_, (h5 hn a e).2⟩⟩
 rcases ho.2 _ hm with hm | hm
 ·exact (h5 hn a e).1 hm
 ·have := DocAt.lt h2 hn a e
  omega
theorem DocAt.row (h : DocAt g mb sv el dv W u D) (hg : W.grownBy W' dv.ownBlock) (hd : ∀ k, dv'.ownBlock = some k → dv.ownBlock = some k ∨ W.heap.size ≤ k) : DocAt g mb sv el dv' W' u D := by
 obtain ⟨A, n, c, h1, h2, h3, h4, h5⟩ := h
 refine ⟨A, n, c, h1, h2.stiW (Sti.of_gr (Y := fun i => dv.ownBlock = some i) hg (fun i e => e)) (fun hn a e => (h5 hn a e).2), h3, h4, fun hn a e => ⟨(h5 hn a e).1, fun hk => ?_⟩⟩
 rcases hd _ hk with hk | hk
 ·exact (h5 hn a e).2 hk
 ·have := DocAt.lt h2 hn a e
  omega
end
/-- between two rounds -/
structure BkI (w1 : World) (g mb j : Nat) (sv : Value) (nx : Int) (el : List EH) (docs : List (List Tok)) (dv : Value) (vs : List Value) (W : World) : Prop where
 ld : LdB j w1.heap.size g mb 0 sv nx el docs W
 row : W.ownsRow w1.heap.size 22 1 dv (j + 1) vs
 each : ∀ (i : Nat) (D : List Tok) (u : Value), docs[i]? = some D → vs[i]? = some u → DocAt g mb sv el dv W u D
 b : Below w1.heap.size w1 W
 sz : ∀ D ∈ docs, D.length ≤ 200
section
variable {w1 W W' : World} {g mb j : Nat} {sv sv' dv : Value} {nx nx' : Int} {el el' : List EH} {docs : List (List Tok)} {vs : List Value}
theorem BkI.below (h : BkI w1 g mb j sv nx el docs dv vs W) (hb : Below W.heap.size W W') : BkI w1 g mb j sv nx el docs dv vs W' :=
 ⟨h.ld.below hb, own_below h.row hb, fun i D u h1 h2 => (h.each i D u h1 h2).below hb, h.b.trans (hb.mono h.b.size), h.sz⟩
/-- the documents' row is none of the ledger's -/
theorem row_not {base n k : Nat} {er : Int → Bool} (hL : LdIn W base g mb n sv nx el er) {b1 : Nat} (hr : W.ownsRow b1 22 1 dv k vs) : ∀ q, dv.ownBlock = some q → ¬ LdIn.Mine g mb sv el q := fun q hq => by
 obtain ⟨-, -, cs, hb⟩ := own_far hr hq
 exact hL.not_mine hb (by decide) (by decide) (by decide) (by decide)
theorem BkI.len (h : BkI w1 g mb j sv nx el docs dv vs W) : vs.length = j + 1 := by simpa using h.row.1
theorem BkI.docs_len (h : BkI w1 g mb j sv nx el docs dv vs W) : docs.length = j + 1 := h.ld.back.len
/-- a step is done, and the document behind it is kept -/
theorem BkI.step {W4 W5 W6 W7 : World} {D' : List Tok} {A : Option Addr} {n c g5 cap5 : Nat} {e : Ending} (h : BkI w1 g mb j sv nx el docs dv vs W) (hb4 : Below W.heap.size W W4) (hr : Rd W4 W4.heap.size 12 A n (toks D')) (hnc : n ≤ c) (hA : A = none → n = 0) (hnew : ∀ a, A = some a → W.heap.size ≤ a.block) (hn : n ≤ 200)
 (hd : LdStep j w1.heap.size g mb 0 sv el docs D' W4 e W5) (hb5 : Below W5.heap.size W5 W6) (hgr : W6.grownBy W7 dv.ownBlock) (hrow : W7.ownsRow w1.heap.size 22 1 (.slice (some ⟨g5, 0, none⟩) (j + 1 + 1) cap5) (j + 1 + 1) (vs ++ [.slice A n c])) (hat : dv.ownBlock = some g5 ∨ W6.heap.size ≤ g5) :
 ∃ sv' nx' el', BkI w1 g mb (j + 1) sv' nx' el' (docs ++ [D']) (.slice (some ⟨g5, 0, none⟩) (j + 1 + 1) cap5) (vs ++ [.slice A n c]) W7 := by
 obtain ⟨-, sv', nx', el', hL, ho⟩ := hd
 have h4 := h.below hb4
 have hdv := row_not h4.ld.in_ h4.row
 have hrow5 := ho.1.own h4.row hdv
 have hdvl := own_lt h.row
 have hz4 := hb4.size
 have hz45 := ho.1.size
 have hz56 := hb5.size
 have hL6 := hL.below hb5
 have hdv6 : ∀ q, dv.ownBlock = some q → ¬ LdIn.Mine g mb sv' el' q := row_not hL6.in_ (own_below hrow5 hb5)
 have hnewdv : ∀ k, (Value.slice (some ⟨g5, 0, none⟩) (j + 1 + 1) cap5).ownBlock = some k → dv.ownBlock = some k ∨ W6.heap.size ≤ k := fun k hk => by
  have hk : some g5 = some k := hk
  injection hk with hk
  subst hk
  exact hat
 have hmine : ∀ k, LdIn.Mine g mb sv' el' k → LdIn.Mine g mb sv el k ∨ W4.heap.size ≤ k := ho.2
 have hlast : DocAt g mb sv' el' (.slice (some ⟨g5, 0, none⟩) (j + 1 + 1) cap5) W7 (.slice A n c) D' := by
  have q1 : DocAt g mb sv el dv W4 (.slice A n c) D' := ⟨A, n, c, rfl, hr, hnc, hA, fun hn a e => ⟨fun hm => by
   have := h.ld.in_.mine_lt hm
   have := hnew a e
   omega, fun hk => by
   have := hdvl _ hk
   have := hnew a e
   omega⟩⟩
  exact ((q1.owns ho).below hb5).row hgr hnewdv
 have hb17 : Below w1.heap.size w1 W7 := by
  have q1 : Below w1.heap.size W4 W5 := ho.below h4.ld.in_ h4.b.size
  have q2 : Below w1.heap.size w1 W5 := h4.b.trans q1
  have q3 : Below w1.heap.size w1 W6 := q2.trans (hb5.mono q2.size)
  exact below_own q3 (own_below hrow5 hb5) hgr q3.size (Nat.le_refl _)
 refine ⟨sv', nx', el', ⟨hL6.sti (Sti.of_gr (Y := fun i => dv.ownBlock = some i) hgr (fun i e => e)) (fun k hm hk => hdv6 k hk hm), hrow, ?_, hb17, ?_⟩⟩
 ·intro i D u h1 h2
  by_cases hi : i < docs.length
  ·rw [List.getElem?_append_left hi] at h1
   rw [List.getElem?_append_left (by rw [h.len, ← h.docs_len]; exact hi)] at h2
   exact (((h4.each i D u h1 h2).owns ho).below hb5).row hgr hnewdv
  ·have hi1 := (List.getElem?_eq_some_iff.1 h1).1
   simp at hi1
   obtain rfl : i = docs.length := by omega
   rw [List.getElem?_append_right (Nat.le_refl _), Nat.sub_self] at h1
   rw [List.getElem?_append_right (by rw [h.len, ← h.docs_len]; exact Nat.le_refl _), show docs.length - vs.length = 0 by rw [h.len, h.docs_len]; omega] at h2
   injection h1 with h1
   injection h2 with h2
   subst h1
   subst h2
   exact hlast
 ·intro D hD
  rcases List.mem_append.1 hD with hD | hD
  ·exact h.sz D hD
  ·rw [List.mem_singleton.1 hD, hr.tlen]
   exact hn
end
end Go.Proofs.YtmacfoebfpljoaaGreat
namespace Go.Proofs.YtmacfoebfpljoaaGreat
open Go.RowKit
@[go_sem] theorem eq_range (a b c a' b' c' : Int) (w : World) : (Op.equalIn 10000 155 (.agg #[.int .i64 a, .int .i64 b, .int .i64 c]) (.agg #[.int .i64 a', .int .i64 b', .int .i64 c'])).run Tryz.prog w = .ok (a == a' && b == b' && c == c') w := by
  have u3 := Tryz.underlying3
  have a3 := Tryz.isAgg3
  have z3 := Tryz.sizeOf3
  have hS : Tryz.prog.underlying 155 = some (.struct (Tryz.prog.fieldsOf 155)) := by kernel_rfl
  have hp : Tryz.prog.stoodInHeld 155 = false := by kernel_rfl
  rw [show (10000 : Nat) = 9999 + 1 from rfl, run_equalIn_agg w 9999 155 _ _ hS hp]
  simp only [Program.fieldsOf, Tryz.underlying155]
  go_simp
  by_cases h1 : a = a' <;> by_cases h2 : b = b' <;> by_cases h3 : c = c' <;> simp [h1, h2, h3]
attribute [local go_sem] Oper.semAt_some
attribute [local go_sem] Oper.semAt_some
/-- what a step says -/
structure StC where
 (k f t g h i m v : Int)
 sl : List Tok
 st : List Mk
deriving DecidableEq, Inhabited
def StC.sh (x : StC) : Bool := shB x.k x.f x.t x.g x.h x.i x.m x.v x.sl.length x.st.length
def StC.map (x : StC) : List Rg := mapB x.k x.f x.t x.g x.h x.i x.m x.v x.sl.length x.st.length
/-- a map back, a map over, and whether it was kept -/
structure Lk where
 (back over : List Rg)
 kept : Bool
deriving DecidableEq, Inhabited
/-- a pin -/
structure Pn where
 (k a b : Int)
deriving DecidableEq, Inhabited
/-- what a group says -/
structure GrC where
 steps : List StC
 (pin back : Pn)
 lost : Int
deriving DecidableEq, Inhabited
section
variable {m : List Rg}
end
end Go.Proofs.YtmacfoebfpljoaaGreat
