/- stack: StackPends -/
import Derived.Test.YtmacfoebfpljoaaSi
namespace Go.Proofs.Ytmacfoebfpljoaa
open Go.RowKit

def Gf (f : Int) : GrC := ⟨[exS (3 + f) (4 + f)], ⟨0, 0, 0⟩, ⟨0, 0, 0⟩, 0⟩
def r1 : List Rg := [⟨0, 0, 1⟩]
theorem r1_right : rightM r1 = true := by decide
theorem ex_spl {f : Int} (h0 : 0 ≤ f) (h1 : f ≤ 100000) : Spl (exS (3 + f) (4 + f)) := by
  refine ⟨rfl, ?_, by show 4 + f ≤ 1000000; omega⟩
  show shB 1 (3 + f) (4 + f) 0 0 0 0 0 0 0 = true
  unfold shB
  rw [Bool.and_eq_true]
  refine ⟨decide_eq_true (by omega), ?_⟩
  rw [if_pos rfl]
  decide
theorem over_Gf {f : Int} (h0 : 0 ≤ f) (h1 : f ≤ 100000) : overC r1 [Gf f] = [Gf (f + 1)] := by
  have hs := spl_run (d := 1) (m := r1) (by omega) [exS (3 + f) (4 + f)] [] 1099511000000 (by
    intro x hx
    simp only [List.mem_singleton] at hx
    subst hx
    exact ex_spl h0 h1) (moved_nil (by omega) (by omega)) (by simp) (by omega)
  unfold overC
  rw [if_pos r1_right]
  simp only [overG, Gf, hs.1, List.map_cons, List.map_nil]
  have e : StC.by_ 1 (exS (3 + f) (4 + f)) = exS (3 + (f + 1)) (4 + (f + 1)) := by
    simp only [StC.by_, exS, StC.mk.injEq, true_and, and_true]
    omega
  rw [e]
  rfl
theorem fold_Gf (k : Nat) : ∀ (f : Int), 0 ≤ f → f + k ≤ 100000 → foldC (List.replicate k r1) [Gf f] = [Gf (f + k)] := by
  induction k with
  | zero => intro f _ _; simp [foldC]
  | succ k ih =>
    intro f h0 h1
    have e : foldC (List.replicate (k + 1) r1) [Gf f] = foldC (List.replicate k r1) (overC r1 [Gf f]) := rfl
    rw [e, over_Gf h0 (by omega), ih (f + 1) (by omega) (by omega)]
    congr 2
    omega
/-- how many maps are pending behind c notes -/
def pend (c : Nat) : Nat := if c = 0 then 0 else (c - 1) % 500 + 1
theorem pend_succ (c : Nat) : pend (c + 1) = c % 500 + 1 := by unfold pend; rw [if_neg (by omega)]; rfl
theorem pend_le (c : Nat) : pend c ≤ c ∧ pend c ≤ 500 := by unfold pend; split <;> omega
theorem pend_full {c : Nat} (h : pend c = 500) : pend (c + 1) = 1 := by
  rw [pend_succ]
  unfold pend at h
  split at h <;> omega
theorem pend_more {c : Nat} (h : pend c ≠ 500) : pend (c + 1) = pend c + 1 := by
  rw [pend_succ]
  unfold pend at *
  split <;> split at h <;> omega

set_option maxRecDepth 100000 in
set_option maxHeartbeats 8000000 in
theorem pends_any (k : Int) (w : World) (hk : 0 ≤ k ∧ k ≤ 65535) : Calls Try.prog 5 #[.int .u16 k] w fun e w' => e = .returned (.bool true) ∧ Below w.heap.size w w' := by
  have hlv := fun W (hb : Below w.heap.size w W) => calls_on hb (live37_any W)
  have HLV := Lib.hid hlv
  clear hlv
  go_enter Try.func5, Try.ntmps5
  go_wp2_with (go_at_call 13; (refine (new_any 3 _ (by omega) (by omega)).mono ?_); rintro e w1 ⟨rfl, s1, hb1⟩)
  have kb := Bk.new w1 41 #[.int .i64 1, .int .i64 3, .int .i64 4, .int .i64 0, .int .i64 0, .int .i64 0, .int .i64 0, .int .i64 0, .slice none 0 0, .slice none 0 0]
  have hbA : Below w1.heap.size w1 (w1.alloc (.cells #[.int .i64 1, .int .i64 3, .int .i64 4, .int .i64 0, .int .i64 0, .int .i64 0, .int .i64 0, .int .i64 0, .slice none 0 0, .slice none 0 0] 41)) := by repeat (first | with_reducible exact Below.refl _ _ | with_reducible assumption | (with_reducible refine below_drewN ?_ _) | (with_reducible refine Below.drew ?_) | (with_reducible refine Below.alloc ?_ ?_ _; rotate_left; focus (first | with_reducible assumption | omega | (simp; done) | (simp; omega))) | (with_reducible refine Below.setCell ?_ ?_ _; rotate_left; focus (first | with_reducible assumption | omega | (simp; done) | (simp; omega))))
  generalize w1.alloc (.cells #[.int .i64 1, .int .i64 3, .int .i64 4, .int .i64 0, .int .i64 0, .int .i64 0, .int .i64 0, .int .i64 0, .slice none 0 0, .slice none 0 0] 41) = wA at *
  have sA := s1.below hbA
  have hw1 : w.heap.size < w1.heap.size := def_lt' s1.k
  have hp1 := push_any w.heap.size w.heap.size _ _ 3 [] [] ⟨some ⟨w1.heap.size, 0, none⟩, 1, 1, [⟨none, 0, 0, none, 0, 0, exS 3 4⟩], ⟨0, 0, 0⟩, ⟨0, 0, 0⟩, 0⟩ wA sA (fun w' hst => by
    have kb' : Bk w' w1.heap.size 41 _ := (hst.block _ (def_lt' kb) (by
      rintro (h | h | h)
      · omega
      · simp [Value.ownBlock] at h
      · simp [Value.ownBlock] at h)).trans kb
    refine ⟨⟨Rd.of_bk kb' rfl rfl (def_lt' kb'), ?_⟩, by show (1 : Nat) ≤ 1000000; omega, fun h => by cases h⟩
    intro s hs
    simp only [List.mem_singleton] at hs
    subst hs
    exact stc_in _ _ _ rfl rfl) (by show (1 : Nat) ≤ 1000; omega) (by show -9223372036854775808 ≤ (0 : Int) ∧ (0 : Int) ≤ 9223372036854775807; omega) (by simp)
  rw [List.map_nil, List.map_nil, foldV_nil, trim_one, List.nil_append, List.drop_zero] at hp1
  refine hp1.mono ?_
  rintro e w2 ⟨rfl, lv2, mv2, L2, Ms2, s2, V2, M2, t2⟩
  have hb2 : Below w.heap.size w w2 := (hb1.trans (hbA.mono hb1.size)).trans (t2.below sA)
  have hV2 : L2.map GrH.val = [Gf 0] := V2
  obtain ⟨n, hn, hn2⟩ : ∃ n : Nat, (n : Int) = k % 1500 ∧ n < 1500 := ⟨(k % 1500).toNat, by omega, by omega⟩
  have ek : IntKind.i64.wrap k = k := IntWalk.i64_in _ (by omega)
  clear hp1 kb hbA sA t2 s1 V2
  have HS2 := Lib.hid s2
  clear s2
  go_wp2
  rw [← hn]
  obtain rfl : Ms2 = [] := by simpa using M2
  have HV2 := Lib.hid hV2
  clear hn ek M2 hV2
  go_loopw [6] (fun j wr => ∃ (c : Nat) (lv mv : Value) (L : List GrH) (Ms : List MpH), c ≤ n ∧ j = .int .i64 ((c + 1 : Nat) : Int) ∧ Below w.heap.size w wr ∧ Hid (StkAt wr w.heap.size w.heap.size lv mv 3 L Ms) ∧ Hid (L.map GrH.val = [Gf ((c - pend c : Nat) : Int)]) ∧ Hid (Ms.map MpH.l = List.replicate (pend c) r1)) (fun j _ => n + 1 - (intOf j).toNat)
  case atStart => exact ⟨0, lv2, mv2, L2, [], by omega, rfl, hb2, HS2, Lib.hid (by rw [HV2.out]; rfl), Lib.hid (by simp [pend])⟩
  case round =>
    obtain ⟨c, lv, mv, L, Ms, hc, rfl, hbr, hs, hV, hM⟩ := hrel
    by_cases hcn : c < n
    · have e1 : ((c + 1 : Nat) : Int) ≤ n := by omega
      have kr := Bk.new wr 45 #[.int .i64 0, .int .i64 0, .int .i64 1]
      have hbA : Below wr.heap.size wr (wr.alloc (.cells #[.int .i64 0, .int .i64 0, .int .i64 1] 45)) := by repeat (first | with_reducible exact Below.refl _ _ | with_reducible assumption | (with_reducible refine below_drewN ?_ _) | (with_reducible refine Below.drew ?_) | (with_reducible refine Below.alloc ?_ ?_ _; rotate_left; focus (first | with_reducible assumption | omega | (simp; done) | (simp; omega))) | (with_reducible refine Below.setCell ?_ ?_ _; rotate_left; focus (first | with_reducible assumption | omega | (simp; done) | (simp; omega))))
      have sA := hs.out.below hbA
      have hMl : Ms.length = pend c := by have := congrArg List.length hM.out; simpa using this
      have hnote : Calls Try.prog 15 #[.pointer (some ⟨w.heap.size, 0, none⟩), .slice (some ⟨wr.heap.size, 0, none⟩) 1 1] (wr.alloc (.cells #[.int .i64 0, .int .i64 0, .int .i64 1] 45)) fun e w' => e = .returned (.int .i64 0) ∧ ∃ lv' mv' L' Ms', StkAt w' w.heap.size w.heap.size lv' mv' 3 L' Ms' ∧ L'.map GrH.val = [Gf ((c + 1 - pend (c + 1) : Nat) : Int)] ∧ Ms'.map MpH.l = List.replicate (pend (c + 1)) r1 ∧ Below w.heap.size w w' := by
        have hll := own_lt hs.out.l
        have hml := own_lt hs.out.m
        have hkl := def_lt' hs.out.k
        refine (note_any w.heap.size w.heap.size lv mv 3 L Ms (some ⟨wr.heap.size, 0, none⟩) 1 1 r1 _ sA (fun w' hst => by
          have kb' : Bk w' wr.heap.size 45 _ := (hst.block _ (def_lt' kr) (by
            rintro (h | h | h)
            · omega
            · have := hll _ h; omega
            · have := hml _ h; omega)).trans kr
          exact Rd.of_bk kb' rfl rfl (def_lt' kb')) (fun h => by cases h) r1_right).mono ?_
        rintro e w' ⟨rfl, lv', mv', L', Ms', s', V', M', t'⟩
        have hbe : Below w.heap.size w w' := (hbr.trans (hbA.mono hbr.size)).trans (t'.below sA)
        have hp := pend_le c
        refine ⟨rfl, lv', mv', L', Ms', s', ?_, ?_, hbe⟩
        · rw [V', hMl, hV.out, hM.out]
          by_cases hf : pend c = 500
          · rw [if_pos hf, pend_full hf]
            unfold foldV
            rw [if_neg (by rw [hf]; simp)]
            rw [List.reverse_singleton, fold_Gf _ _ (by omega) (by omega), List.reverse_singleton]
            congr 2
            omega
          · rw [if_neg hf, pend_more hf]
            congr 2
            omega
        · rw [M', hMl, hM.out]
          by_cases hf : pend c = 500
          · rw [if_pos hf, pend_full hf]; rfl
          · rw [if_neg hf, pend_more hf, List.replicate_succ']
      have HNOTE := Lib.hid hnote
      obtain ⟨i, hi⟩ : ∃ i : Nat, i = c + 1 := ⟨_, rfl⟩
      rw [← hi] at e1 ⊢
      have e2 : IntKind.i64.wrap ((i : Int) - 1) = (c : Int) := by rw [IntWalk.i64_in _ (by omega)]; omega
      have hps := pend_succ c
      have HI := Lib.hid hi
      clear hnote hi sA kr hbA hs hV hM
      go_wp2_with (go_at_call 15; fail)
      refine HNOTE.out.mono ?_
      rintro e w3 ⟨rfl, lv', mv', L', Ms', s', V', M', hb3⟩
      have hmp := maps_any w.heap.size w.heap.size lv' mv' 3 L' Ms' w3 s'
      have hMl' : Ms'.length = c % 500 + 1 := by have := congrArg List.length M'; rw [List.length_map, List.length_replicate, hps] at this; exact this
      rw [hMl'] at hmp
      have HMP := Lib.hid hmp
      have HS3 := Lib.hid s'
      have HV3 := Lib.hid V'
      have HM3 := Lib.hid M'
      clear hmp s' V' M' hMl' hps hMl
      go_wp2_with (go_at_call 16; (refine HMP.out.mono ?_); rintro e w4 ⟨rfl, rfl⟩)
      go_roundw
      case rel => exact ⟨c + 1, lv', mv', L', Ms', by omega, by rw [HI.out]; congr 1, hb3, HS3, HV3, HM3⟩
      case measure => have := HI.out; simp [intOf]; omega
    · obtain rfl : n = c := by omega
      have e1 : ¬ ((n + 1 : Nat) : Int) ≤ n := by omega
      have hp := pend_le n
      have hgr := groups_any w.heap.size w.heap.size lv mv 3 L Ms wr hs.out
      rw [hV.out, hM.out, List.reverse_singleton, fold_Gf _ _ (by omega) (by omega), show ((n - pend n : Nat) : Int) + (pend n : Int) = n by omega] at hgr
      have HGR := Lib.hid hgr
      obtain ⟨i, hi⟩ : ∃ i : Nat, i = n + 1 := ⟨_, rfl⟩
      rw [← hi] at e1 ⊢
      have e5 : IntKind.i64.wrap (3 + (n : Int)) = 3 + n := IntWalk.i64_in _ (by omega)
      have e6 : IntKind.i64.wrap (4 + (n : Int)) = 4 + n := IntWalk.i64_in _ (by omega)
      clear hgr hi hp hs hV hM
      go_wp2_with (go_at_call 17; fail)
      refine HGR.out.mono ?_
      intro e w4 ho4
      obtain ⟨A4, n4, c4, L4, rfl, hl4, -, hin4, -, hV4, hb4⟩ := grs_out ho4
      obtain ⟨g4, rfl, hg4⟩ := map_one hV4
      obtain rfl : n4 = 1 := hl4.symm
      obtain ⟨gin, b, o, rfl, hb, hcc⟩ := hin4.at_ (k := 0) (g := g4) rfl
      have hgs : g4.L.map StH.x = [exS (3 + n) (4 + n)] := congrArg GrC.steps hg4
      obtain ⟨s4, hs4, hx4⟩ := map_one hgs
      have hgn : g4.n = 1 := by rw [← gin.sts.len, hs4]; rfl
      obtain ⟨sin, bs, os, hA, hbs, hcs⟩ := gin.sts.at_ (k := 0) (s := s4) (by rw [hs4]; rfl)
      have d0 := hcc 0 (by omega)
      simp only [GrH.cells, hA, hgn] at d0
      have x1 := hcs 1 (by omega); have x2 := hcs 2 (by omega)
      simp only [StH.cells, hx4, exS] at x1 x2
      dsimp at d0 x1 x2
      have hb5 := hbr.trans (hb4.mono hbr.size)
      clear hcc hcs hin4 gin sin ho4 HGR hA
      go_wp2_with (go_at_call 18; (refine (HLV.out _ hb5).mono ?_); rintro e w5 ⟨rfl, hb6, _, _⟩)
      go_ret
      exact ⟨rfl, hb6⟩
end Go.Proofs.Ytmacfoebfpljoaa
