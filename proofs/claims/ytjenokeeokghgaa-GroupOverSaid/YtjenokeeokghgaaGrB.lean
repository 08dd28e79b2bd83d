/- group: the document's Touches -/
import Derived.Test.YtjenokeeokghgaaGrA
namespace Go.Proofs.Ytjenokeeokghgaa
open Go.RowKit

/-- the ranges that the document looks at -/
def refM (k f t g h i : Int) (n : Nat) : List Rg := if 2 < k then [⟨f, t - f, 0⟩] else mapS k f t g h i n
theorem refM_fits {k f t g h i m v : Int} {n n' : Nat} (hsh : shB k f t g h i m v n n' = true) : (refM k f t g h i n).length ≤ 2 ∧ (∀ r ∈ refM k f t g h i n, 0 ≤ r.at_ ∧ 0 ≤ r.old ∧ r.at_ + r.old ≤ 1073741824) ∧ ∀ p : Sp → Bool, (refM k f t g h i n).any (fun r => p (spOf r)) = (reachS k f t g h i m v n n').any p := by
  have hb := shB_spec hsh
  have hmb : mapB k f t g h i m v n n' = mapS k f t g h i n := by unfold mapB; rw [if_pos hsh]
  by_cases hk : 2 < k
  · have hms : mapS k f t g h i n = [] := by unfold mapS; rw [if_neg (by omega), if_neg (by omega)]
    have e : refM k f t g h i n = [⟨f, t - f, 0⟩] := by unfold refM; rw [if_pos hk]
    rw [e]
    refine ⟨by simp, fun r hr => ?_, fun p => ?_⟩
    · simp at hr; subst hr; simp only; omega
    · unfold reachS
      rw [hmb, hms, if_pos rfl]
      have : spOf ⟨f, t - f, 0⟩ = ⟨f, t⟩ := by unfold spOf; congr 1; simp only; omega
      simp [this]
  · have e : refM k f t g h i n = mapS k f t g h i n := by unfold refM; rw [if_neg hk]
    have hne : mapS k f t g h i n ≠ [] := by
      unfold mapS
      split
      · simp
      · rw [if_pos (by omega)]; simp
    rw [e]
    refine ⟨?_, fun r hr => ?_, fun p => ?_⟩
    · unfold mapS
      split
      · simp
      · split <;> simp
    · exact mapB_fits (k := k) (m := m) (v := v) (n' := n') (by rw [hmb]; exact hr)
    · unfold reachS
      rw [hmb, if_neg hne, List.any_map]
      rfl

set_option maxRecDepth 100000 in
set_option maxHeartbeats 4000000 in
theorem rtouches_any (k f t g h i m v : Int) (A A' : Option Addr) (n n' c c' : Nat) (B : Option Addr) (l cl : Nat) (L : List Sp) (w : World) (hn : n ≤ 20000) (hn' : n' ≤ 20000) (hl : l ≤ 1000) (hrs : Rd w w.heap.size 2 B l (sps L)) :
    Calls Try.prog 9 #[.agg #[.int .i64 k, .int .i64 f, .int .i64 t, .int .i64 g, .int .i64 h, .int .i64 i, .int .i64 m, .int .i64 v, .slice A n c, .slice A' n' c'], .slice B l cl] w fun e w' => e = .returned (.bool (touchB k f t g h i m v n n' L)) ∧ Below w.heap.size w w' := by
  have hs := fun W (hb : Below w.heap.size w W) => calls_on hb (rshape_any k f t g h i m v A A' n n' c c' W hn hn')
  unfold touchB
  have hL := hrs.slen
  cases hsh : shB k f t g h i m v n n' with
  | false =>
    rw [hsh] at hs
    have HS := Lib.hid hs
    clear hs hsh hrs hL hl hn hn'
    rw [Bool.false_and]
    go_enter Try.func9, Try.ntmps9
    go_wp2_with (go_at_call 14; (refine (HS.out _ (by repeat (first | with_reducible exact Below.refl _ _ | with_reducible assumption | (with_reducible refine below_drewN ?_ _) | (with_reducible refine Below.drew ?_) | (with_reducible refine Below.alloc ?_ ?_ _; rotate_left; focus (first | with_reducible assumption | omega | (simp; done) | (simp; omega))) | (with_reducible refine Below.setCell ?_ ?_ _; rotate_left; focus (first | with_reducible assumption | omega | (simp; done) | (simp; omega)))))).mono ?_); rintro e w1 ⟨rfl, hb1, hz1, hx1⟩)
    go_ret
    exact ⟨rfl, hb1⟩
  | true =>
    rw [hsh] at hs
    have HS := Lib.hid hs
    have hmp := fun W => rmap_any k f t g h i m v A A' n n' c c' W hsh
    have HMP := Lib.hid hmp
    obtain ⟨hq1, hq2, hq3⟩ := refM_fits hsh
    obtain ⟨⟨b0, b1, b2⟩, _⟩ := shB_spec hsh
    have e0 : IntKind.i64.wrap (t - f) = t - f := IntWalk.i64_in _ (by omega)
    rw [Bool.true_and, ← hq3]
    have HQ := Lib.hid hq2
    have HL := Lib.hid hL
    clear hs hsh hmp hq2 hq3 hn hn' b0 b1 b2 hL
    have hkk : (2 < k ∧ refM k f t g h i n = [⟨f, t - f, 0⟩]) ∨ (¬ 2 < k ∧ refM k f t g h i n = mapS k f t g h i n) := by
      by_cases hk : 2 < k
      · exact .inl ⟨hk, by unfold refM; rw [if_pos hk]⟩
      · exact .inr ⟨hk, by unfold refM; rw [if_neg hk]⟩
    have HKK := Lib.hid hkk
    clear hkk
    go_enter Try.func9, Try.ntmps9
    go_upto_if 15 with (first
      | (go_at_call 14; (refine (HS.out _ (by repeat (first | with_reducible exact Below.refl _ _ | with_reducible assumption | (with_reducible refine below_drewN ?_ _) | (with_reducible refine Below.drew ?_) | (with_reducible refine Below.alloc ?_ ?_ _; rotate_left; focus (first | with_reducible assumption | omega | (simp; done) | (simp; omega))) | (with_reducible refine Below.setCell ?_ ?_ _; rotate_left; focus (first | with_reducible assumption | omega | (simp; done) | (simp; omega)))))).mono ?_); rintro e w1 ⟨rfl, hb1, hz1, hx1⟩; have kb := (Bk.new w 28 #[.int .i64 k, .int .i64 f, .int .i64 t, .int .i64 g, .int .i64 h, .int .i64 i, .int .i64 m, .int .i64 v, .slice A n c, .slice A' n' c']).ext hx1; have lb := def_lt' kb; have d0 := kb.cell 0; have d1 := kb.cell 1; have d2 := kb.cell 2; have d3 := kb.cell 3; have d4 := kb.cell 4; have d5 := kb.cell 5; have d6 := kb.cell 6; have d7 := kb.cell 7; have d8 := kb.cell 8; have d9 := kb.cell 9; dsimp at d0 d1 d2 d3 d4 d5 d6 d7 d8 d9)
      | (go_at_call 23; (refine (HMP.out _).mono ?_); rintro e w2 ⟨A2, cc2, rfl, h1, h2, h3⟩; have kc := kb.ext h3; have lc := def_lt' kc; have c0 := kc.cell 0; have c1 := kc.cell 1; have c2 := kc.cell 2; dsimp at c0 c1 c2))
    have hb2 : Below w.heap.size w w2 := hb1.trans (h3.mono hz1)
    have hz2 := hb2.size
    go_cut [5] (fun x wx => ∃ A3 c3, x = .slice A3 (refM k f t g h i n).length c3 ∧ Rd wx wx.heap.size 3 A3 (refM k f t g h i n).length (rgs (refM k f t g h i n)) ∧ Below w.heap.size w wx)
    case first =>
      rcases HKK.out with ⟨g1, g2⟩ | ⟨g1, g2⟩
      · go_wp2
        go_meet
        refine ⟨some ⟨w2.heap.size, 0, none⟩, 1, ?_, ?_, hb2.alloc hz2 _⟩
        · rw [g2]; rfl
        · rw [g2]
          exact rd_new _ #[.int .i64 f, .int .i64 (t - f), .int .i64 0] 1 3 rfl rfl
      · go_wp2
        go_meet
        refine ⟨A2, cc2, ?_, ?_, hb2⟩
        · rw [g2]
        · rw [g2]; exact h1
    case rest =>
      obtain ⟨A3, c3, rfl, hr3, hb3⟩ := hcut
      generalize hM : refM k f t g h i n = M at *
      have HMM := Lib.hid hM
      clear hM
      have hz3 := hb3.size
      clear h1 h2 h3 kc kb lc c0 c1 d0 d1 d2 d3 d4 d5 d6 d7 d8 d9 hx1 hb2 hz2
      have hML := hr3.rlen
      go_wp2
      go_loopw [6] (fun j wr => ∃ q : Nat, q ≤ M.length ∧ j = .int .i64 q ∧ Hid ((M.take q).any (fun r => L.any (meets (spOf r))) = false) ∧ Below wc.heap.size wc wr) (fun j _ => M.length - (intOf j).toNat)
      case atStart => exact ⟨0, by omega, rfl, Lib.hid (by simp), Below.refl _ _⟩
      case round =>
        obtain ⟨q, hq, rfl, hI, hbr⟩ := hrel
        by_cases hqn : q < M.length
        · obtain ⟨b, o, rfl, hbB, _⟩ := hr3.2 (by omega)
          obtain ⟨r, hx⟩ : ∃ r, M[q]? = some r := ⟨_, List.getElem?_eq_getElem hqn⟩
          obtain ⟨f1, f2, f3⟩ := HQ.out r (List.mem_of_getElem? hx)
          have hrc := fun wx (hb : Below wc.heap.size wc wx) => (hr3.below hb).rg hx
          have HRC := Lib.hid hrc
          have hat := any_take (p := fun r => L.any (meets (spOf r))) hx
          have e3 : (q : Int) < M.length := by omega
          have e4 : IntKind.i64.wrap (r.at_ + r.old) = r.at_ + r.old := IntWalk.i64_in _ (by omega)
          have HX := Lib.hid hx
          have HAT := Lib.hid hat
          clear hx hat hrc
          go_wp2
          go_loopw [7] (fun j wy => ∃ p : Nat, p ≤ l ∧ j = .int .i64 p ∧ Hid ((L.take p).any (meets (spOf r)) = false) ∧ Below wc.heap.size wc wy) (fun j _ => l - (intOf j).toNat)
          case atStart => exact ⟨0, by omega, rfl, Lib.hid (by simp), hbr⟩
          case round =>
            obtain ⟨p, hp, rfl, hJ, hbw⟩ := hrel
            by_cases hpl : p < l
            · obtain ⟨s, hx⟩ : ∃ s, L[p]? = some s := ⟨_, List.getElem?_eq_getElem (by have := HL.out; omega)⟩
              obtain ⟨b', o', rfl, hbb, hcc⟩ := (hrs.below (hb3.trans (hbw.mono hz3))).el Sp.cells (fun _ => rfl) HL.out hx
              obtain ⟨c0, c1, _, _⟩ := HRC.out wr hbw
              have hat := any_take (p := meets (spOf r)) hx
              obtain ⟨sa, sb⟩ := s
              have d0 := hcc 0 (by omega)
              have d1 := hcc 1 (by omega)
              dsimp [Sp.cells] at d0 d1
              have e5 : (p : Int) < l := by omega
              have HX2 := Lib.hid hx
              have HAT2 := Lib.hid hat
              clear hx hat hcc
              by_cases g1 : r.at_ ≤ sb ∧ sa ≤ r.at_ + r.old
              · have hm : meets (spOf r) ⟨sa, sb⟩ = true := by unfold meets spOf; exact decide_eq_true g1
                have HN : Hid (M.any (fun r => L.any (meets (spOf r))) = true) := Lib.hid (any_at (p := fun r => L.any (meets (spOf r))) HX.out (any_at HX2.out hm))
                obtain ⟨g1, g2⟩ := g1
                clear hm HAT HAT2 HX HX2 hI hJ
                go_wp2
                go_quiet (fail)
                go_wp2
                go_ret
                exact ⟨ret_bool (by rw [HMM.out]; exact HN.out.symm), below_drewN (hb3.trans (hbw.mono hz3)) _⟩
              · have hm : meets (spOf r) ⟨sa, sb⟩ = false := by unfold meets spOf; exact decide_eq_false g1
                have HN : Hid ((L.take (p + 1)).any (meets (spOf r)) = false) := Lib.hid (by rw [HAT2.out, hJ.out, hm]; rfl)
                have g2 : (¬ r.at_ ≤ sb) ∨ (r.at_ ≤ sb ∧ ¬ sa ≤ r.at_ + r.old) := by omega
                clear hm HAT2 HX2 hJ g1
                have g3 : decide (r.at_ ≤ sb) = false ∨ (r.at_ ≤ sb ∧ decide (sa ≤ r.at_ + r.old) = false) := g2.imp (fun h => decide_eq_false h) (fun h => ⟨h.1, decide_eq_false h.2⟩)
                clear g2
                rcases g3 with g2 | ⟨g1, g2⟩
                all_goals
                  go_wp2
                  go_quiet (fail)
                  go_wp2
                  go_roundw
                  case rel => exact ⟨p + 1, by omega, by go_num, HN, below_drewN hbw _⟩
                  case measure => simp [intOf]; omega
            · obtain rfl : l = p := by omega
              have hall := hJ.out
              rw [List.take_of_length_le (by rw [HL.out]; omega)] at hall
              have HN : Hid ((M.take (q + 1)).any (fun r => L.any (meets (spOf r))) = false) := Lib.hid (by rw [HAT.out, hI.out, hall]; rfl)
              clear hall hJ hI HAT
              go_wp2
              go_roundw
              case rel => exact ⟨q + 1, by omega, by go_num, HN, hbw⟩
              case measure => simp [intOf]; omega
        · obtain rfl : M.length = q := by omega
          have hall := hI.out
          rw [List.take_length] at hall
          have HN := Lib.hid hall
          clear hall hI
          go_wp2
          go_ret
          exact ⟨ret_bool (by rw [HMM.out]; exact HN.out.symm), hb3.trans (hbr.mono hz3)⟩
end Go.Proofs.Ytjenokeeokghgaa
