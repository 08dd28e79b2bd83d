/- route: the document's From and Invert -/
import Derived.Test.YtkkbmcpimglcpaaRtFa
import Derived.Test.YtkkbmcpimglcpaaRtFf
namespace Go.Proofs.Ytkkbmcpimglcpaa
open Go.RowKit

theorem RefIs.from_ {W : World} {B : Nat} {Am Ao Ao' A2 : Option Addr} {n i : Nat} {ms : List (List Rg)} {ofs ofs' : List Int} (h : RefIs W B Am Ao n ms ofs) (hA : Am = none → n = 0) (hi : i ≤ n) (h2 : A2 = Am.map (fun x => x.add i) ∨ n = i) (ho : ofs'.length = n - i) (hr : Rd W B 1 Ao' (n - i) (ofs'.map (Value.int .i64))) :
    RefIs W B A2 Ao' (n - i) (ms.drop i) ofs' := by
  obtain ⟨h1, ⟨vs, h3, h4⟩, h5, h6⟩ := h
  refine ⟨by simp [h1], ⟨vs.drop i, ?_, fun k m hk => ?_⟩, ho, hr⟩
  · by_cases e : n = i
    · subst e
      rw [Nat.sub_self, List.drop_eq_nil_of_le (by have := h3.1; omega)]
      exact Rd.nil_ _ _ _ _
    · have := (sub_rd h3 hA hi).1
      rw [if_neg e] at this
      rw [h2.resolve_right e]
      exact this
  · rw [List.getElem?_drop] at hk
    obtain ⟨A, c, e1, e2⟩ := h4 _ _ hk
    exact ⟨A, c, by rw [List.getElem?_drop]; exact e1, e2⟩
theorem ofs_succ (f : IMap) (k : Nat) : ofsOf f (k + 1) = ofsOf f k ++ [(f (k : Int)).getD (-1)] := by
  rw [ofsOf, List.range_succ, List.map_append, List.map_cons, List.map_nil]; rfl
theorem from_val (f : IMap) (i k : Nat) : ((f ((i + k : Nat) : Int)).getD (-1) ≥ (i : Int) ∧ (fromM f i k).getD (-1) = (f ((i + k : Nat) : Int)).getD (-1) - i) ∨ (¬ (f ((i + k : Nat) : Int)).getD (-1) ≥ (i : Int) ∧ (fromM f i k).getD (-1) = -1) := by
  unfold fromM fromG
  rw [if_pos (by omega), show (k : Int) + i = ((i + k : Nat) : Int) by omega]
  cases hf : f ((i + k : Nat) : Int) with
  | none => right; simp; omega
  | some v =>
    by_cases hv : (i : Int) ≤ v
    · left; simp [hv]
    · right; simp [hv]

set_option maxRecDepth 100000 in
set_option maxHeartbeats 4000000 in
theorem rfrom_any (W : World) (ms : List (List Rg)) (f : IMap) (Am Ao : Option Addr) (cm co : Nat) (at_ : Int) (i : Nat) (hx : RefIs W W.heap.size Am Ao ms.length ms (ofsOf f ms.length)) (hAm : Am = none → ms.length = 0) (hcm : ms.length ≤ cm) (hms : ms.length ≤ 60) (hi : (i : Int) = min (max at_ 0) ms.length) (hmok : MirOk f ms.length) :
    Calls Try.prog 38 #[.agg #[.slice Am ms.length cm, .slice Ao ms.length co], .int .i64 at_] W fun e W' => ∃ Am' cm' Ao' co', e = .returned (.agg #[.slice Am' (ms.drop i).length cm', .slice Ao' (ms.drop i).length co']) ∧ RefIs W' W'.heap.size Am' Ao' (ms.drop i).length (ms.drop i) (ofsOf (fromM f i) (ms.drop i).length) ∧ Below W.heap.size W W' := by
  have hin : i ≤ ms.length := by omega
  have hcase : (at_ < 0 ∧ (0 : Int) ≤ ms.length ∧ 0 = i) ∨ (¬ at_ < 0 ∧ at_ ≤ ms.length ∧ at_ = i) ∨ (¬ at_ < 0 ∧ ¬ at_ ≤ ms.length ∧ ms.length = i) := by omega
  have hie : (i : Int) ≤ ms.length := by omega
  have hic : (i : Int) ≤ cm := by omega
  clear hi
  have HX := Lib.hid hx
  clear hx
  go_enter Try.func38, Try.ntmps38
  go_upto_region 1 with fail
  go_cut [1] (fun v wx => v = .int .i64 i ∧ Below W.heap.size W wx ∧ Bk wx W.heap.size 66 #[.slice Am ms.length cm, .slice Ao ms.length co] ∧ Bk wx (W.heap.size + 1) 66 #[.slice none 0 0, .slice none 0 0] ∧ wx.heap.size = W.heap.size + 2)
  case first =>
    rcases hcase with ⟨g1, g2, g3⟩ | ⟨g1, g2, g3⟩ | ⟨g1, g2, g3⟩
    all_goals
      subst g3
      go_wp2
      go_meet
      exact ⟨by first | rfl | simp, by repeat (first | with_reducible exact Below.refl _ _ | with_reducible assumption | (with_reducible refine below_drewN ?_ _) | (with_reducible refine Below.drew ?_) | (with_reducible refine Below.alloc ?_ ?_ _; rotate_left; focus (first | with_reducible assumption | omega | (simp; done) | (simp; omega))) | (with_reducible refine Below.setCell ?_ ?_ _; rotate_left; focus (first | with_reducible assumption | omega | (simp; done) | (simp; omega)))), (Bk.new W 66 #[.slice Am ms.length cm, .slice Ao ms.length co]).alloc _, Bk.made _ _ (by simp), by simp⟩
  case rest =>
    obtain ⟨rfl, hbc, kx, ko, hsz⟩ := hcut
    clear hcase
    have c0 := kx.cell 0; have c1 := kx.cell 1
    dsimp at c0 c1
    go_upto_region 2 with fail
    go_cut [5] (fun v wx => v = .pointer (some ⟨W.heap.size + 2, 0, none⟩) ∧ ∃ A2 c2, (A2 = Am.map (fun x => x.add i) ∨ ms.length = i) ∧ Bk wx (W.heap.size + 2) 66 #[.slice A2 (ms.length - i) c2, .slice none 0 0] ∧ Below wc.heap.size wc wx ∧ W.heap.size + 3 ≤ wx.heap.size)
    case first =>
      by_cases hci : cm = i
      · subst hci
        go_wp2
        go_meet
        exact ⟨by first | rfl | rw [hsz], Am, 0, .inr (by omega), (by rw [Nat.sub_eq_zero_of_le hcm]; exact Bk.made _ _ hsz), (Below.refl _ _).alloc (Nat.le_refl _) _, by simp; omega⟩
      · go_wp2
        go_meet
        exact ⟨by first | rfl | rw [hsz], _, _, .inl rfl, Bk.made _ _ hsz, (Below.refl _ _).alloc (Nat.le_refl _) _, by simp; omega⟩
    case rest =>
      obtain ⟨rfl, A2, c2, hA2, kn, hbd, hz3⟩ := hcut
      have kx := kx.ext hbd
      have ko := ko.ext hbd
      have hbc := hbc.trans (hbd.mono hbc.size)
      have hbase := hbc.size
      clear c0 c1
      go_wp2
      go_loopw [6] (fun j wr => ∃ (k : Nat) (v : Value), k ≤ ms.length - i ∧ j = .int .i64 ((i + k : Nat) : Int) ∧ Below W.heap.size W wr ∧ Bk wr W.heap.size 66 #[.slice Am ms.length cm, .slice Ao ms.length co] ∧ Bk wr (W.heap.size + 1) 66 #[.slice none 0 0, .slice none 0 0] ∧ Bk wr (W.heap.size + 2) 66 #[.slice A2 (ms.length - i) c2, v] ∧
        wr.ownsRow W.heap.size 3 1 v k ((ofsOf (fromM f i) k).map (Value.int .i64))) (fun j _ => ms.length - (intOf j).toNat)
      case atStart => exact ⟨0, _, by omega, by simp, hbc, kx, ko, kn, World.ownsRow_nil _ _ _ _⟩
      case round =>
        obtain ⟨k, v, hk, rfl, hbr, qx, qo, qn, hown⟩ := hrel
        clear kx ko kn hbd hbc hz3
        have c1 := qx.cell 1
        dsimp at c1
        have hlx := def_lt' qx
        have hlo := def_lt' qo
        have hln := def_lt' qn
        obtain ⟨A3, c3, rfl, _, _, _, _⟩ := own_form hown
        have n1 := qn.cell 1
        have nf := qn.frozen
        dsimp at n1
        have hbz := hbr.size
        by_cases hkn : i + k < ms.length
        · obtain ⟨b', o', rfl, hb', hc'⟩ := HX.out.of_ (ofsOf_get f hkn)
          have hcw := (hbr.cell (p := ⟨b', o' + (i + k), none⟩) hb').trans hc'
          have e1 : ((i + k : Nat) : Int) < ms.length := by omega
          have hval := from_val f i k
          have hsu := ofs_succ (fromM f i) k
          have HS := Lib.hid hsu
          have hbd : -1 ≤ (f ((i + k : Nat) : Int)).getD (-1) ∧ (f ((i + k : Nat) : Int)).getD (-1) < ms.length := by
            cases hf : f ((i + k : Nat) : Int) with
            | none => simp; omega
            | some v => have := hmok _ _ hf; simp; omega
          clear hc' hsu hmok
          generalize (f ((i + k : Nat) : Int)).getD (-1) = o at *
          have e3 : IntKind.i64.wrap (o - i) = o - i := IntWalk.i64_in _ (by omega)
          rcases hval with ⟨g1, g2⟩ | ⟨g1, g2⟩
          all_goals
            rw [g2] at HS
            clear g2
            go_wp2_with (at_builtin; ((with_reducible refine app_one Try.underlying64 info_int rfl (by decide) wr W.heap.size _ k _ hown (by unfold maxLen; omega) (by omega) hbz _ rfl (by simp [Value.oneCell']) rfl _ _ rfl rfl rfl ?_); intro g4 cap4 w4 hown4 hgr4 hat4 hlt4; have q4 := qn.grown hgr4 (own_ne hown qn (by decide)); have f4 := q4.frozen; have l4 := def_lt' q4; have m4 := q4.cell 1; dsimp at m4))
            have p4 := qx.grown hgr4 (own_ne hown qx (by decide))
            have r4 := qo.grown hgr4 (own_ne hown qo (by decide))
            have hb4 := below_own hbr hown hgr4 hbz (Nat.le_refl _)
            go_roundw
            case rel =>
              refine ⟨k + 1, _, by omega, by go_num, hb4.setCell (by simp) _, p4.far (by simp) _, r4.far (by simp) _, q4.set_ 1 _, ?_⟩
              rw [HS.out, List.map_append]
              exact ownsRow_setCell_other hown4 (own_ne hown4 q4 (by decide)) _
            case measure => simp [intOf]; omega
        · obtain rfl : k = ms.length - i := by omega
          have e1 : ¬ ((i + (ms.length - i) : Nat) : Int) < ms.length := by omega
          have n0 := qn.cell 0
          dsimp at n0
          have o0 := qo.cell 0; have o1 := qo.cell 1; have of_ := qo.frozen
          dsimp at o0 o1
          go_wp2
          have y : Bk ((wr.setCell ⟨W.heap.size + 1, 0, none⟩ (.slice A2 (ms.length - i) c2)).setCell ⟨W.heap.size + 1, 1, none⟩ (.slice A3 (ms.length - i) c3)) (W.heap.size + 1) 66 #[.slice A2 (ms.length - i) c2, .slice A3 (ms.length - i) c3] := (qo.set_ 0 _).set_ 1 _
          have d0 := y.cell 0; have d1 := y.cell 1
          dsimp at d0 d1
          have hw1 := ownsRow_setCell_other hown (own_ne hown qo (by decide)) (a := ⟨W.heap.size + 1, 0, none⟩) (.slice A2 (ms.length - i) c2)
          have hw2 := ownsRow_setCell_other hw1 (own_ne hw1 (qo.set_ 0 _) (by decide)) (a := ⟨W.heap.size + 1, 1, none⟩) (.slice A3 (ms.length - i) c3)
          have hbe : Below W.heap.size W ((wr.setCell ⟨W.heap.size + 1, 0, none⟩ (.slice A2 (ms.length - i) c2)).setCell ⟨W.heap.size + 1, 1, none⟩ (.slice A3 (ms.length - i) c3)) := (hbr.setCell (by simp) _).setCell (by simp) _
          refine bodyPost_ret (v := .agg #[.slice A2 (ms.length - i) c2, .slice A3 (ms.length - i) c3]) (by simp [results, Try.results38, go_sem, d0, d1]) rfl ?_
          refine ⟨A2, c2, A3, ⟨c3, rfl⟩, ?_, hbe⟩
          exact RefIs.from_ ((HX.out.below hbe).more hbe.size) hAm hin hA2 (ofsOf_len _ _) (Rd.of_own hw2)
end Go.Proofs.Ytkkbmcpimglcpaa

namespace Go.Proofs.Ytkkbmcpimglcpaa
open Go.RowKit

theorem inv_val (f : IMap) (n k : Nat) (hk : k < n) (h0 : ∀ v, f ((n - 1 - k : Nat) : Int) = some v → 0 ≤ v) : ((f ((n - 1 - k : Nat) : Int)).getD (-1) ≥ 0 ∧ (invF f n k).getD (-1) = (n : Int) - 1 - (f ((n - 1 - k : Nat) : Int)).getD (-1)) ∨ (¬ (f ((n - 1 - k : Nat) : Int)).getD (-1) ≥ 0 ∧ (invF f n k).getD (-1) = -1) := by
  unfold invF
  rw [show (n : Int) - 1 - k = ((n - 1 - k : Nat) : Int) by omega]
  cases hf : f ((n - 1 - k : Nat) : Int) with
  | none => right; simp
  | some v => left; have := h0 v hf; simp [this]
theorem Each.snoc {W : World} {base : Nat} {vs : List Value} {ms : List (List Rg)} (h : Each W base vs ms) (hl : vs.length = ms.length) {A : Option Addr} {n c : Nat} {m : List Rg} (ho : W.ownsRow base 42 3 (.slice A n c) n (rgs m)) : Each W base (vs ++ [.slice A n c]) (ms ++ [m]) := by
  intro i m' hi
  rcases Nat.lt_or_ge i ms.length with h1 | h1
  · rw [List.getElem?_append_left h1] at hi
    obtain ⟨A, n', c, e1, e2⟩ := h i m' hi
    exact ⟨A, n', c, by rw [List.getElem?_append_left (by omega)]; exact e1, e2⟩
  · rw [List.getElem?_append_right h1] at hi
    cases hd : i - ms.length with
    | succ d => rw [hd] at hi; simp at hi
    | zero =>
      rw [hd] at hi
      simp at hi
      subst hi
      exact ⟨A, n, c, by rw [List.getElem?_append_right (by omega), hl, hd]; rfl, ho⟩
theorem RefIs.of_each {W : World} {base : Nat} {vs : List Value} {ms : List (List Rg)} {Am Ao : Option Addr} {cm co : Nat} {ofs : List Int} (h : Each W base vs ms) (hm : W.ownsRow base 22 1 (.slice Am ms.length cm) ms.length vs) (ho : W.ownsRow base 3 1 (.slice Ao ms.length co) ms.length (ofs.map (Value.int .i64))) (hl : ofs.length = ms.length) : RefIs W W.heap.size Am Ao ms.length ms ofs := by
  refine ⟨rfl, ⟨vs, Rd.of_own hm, fun i m hi => ?_⟩, hl, Rd.of_own ho⟩
  obtain ⟨A, n, c, e1, e2⟩ := h i m hi
  have hr := Rd.of_own e2
  rw [hr.rlen]
  exact ⟨A, c, e1, hr⟩

theorem own_grown2 {W W' : World} {base e size n base2 e2 size2 n2 : Nat} {v v2 : Value} {xs ys : List Value} (h : W.ownsRow base e size v n xs) (h2 : W.ownsRow base2 e2 size2 v2 n2 ys) (hne : e ≠ e2) (hg : W.grownBy W' v2.ownBlock) : W'.ownsRow base e size v n xs := by
  refine own_keep h (fun j hj => hg.block j (own_lt h j hj) (fun e3 => ?_))
  obtain ⟨cur, hc⟩ := own_type h j hj
  exact own_ne h2 hc (Ne.symm hne) e3.symm
theorem Each.grown2 {W W' : World} {base base2 e2 size2 n2 : Nat} {v2 : Value} {vs ys : List Value} {ms : List (List Rg)} (h : Each W base vs ms) (h2 : W.ownsRow base2 e2 size2 v2 n2 ys) (hne : 42 ≠ e2) (hg : W.grownBy W' v2.ownBlock) : Each W' base vs ms :=
  h.keep (fun j _ hj => hg.block j (def_lt' hj) (fun e3 => own_ne h2 hj (Ne.symm hne) e3.symm))

set_option maxRecDepth 100000 in
set_option maxHeartbeats 4000000 in
theorem rinvert_any (W : World) (ms : List (List Rg)) (f : IMap) (Am Ao : Option Addr) (cm co : Nat) (hx : RefIs W W.heap.size Am Ao ms.length ms (ofsOf f ms.length)) (hml : ∀ m ∈ ms, rightM m = true) (hms : ms.length ≤ 60) (hmok : MirOk f ms.length) :
    Calls Try.prog 37 #[.agg #[.slice Am ms.length cm, .slice Ao ms.length co]] W fun e W' => Below W.heap.size W W' ∧
      ((allI ms = true ∧ ∃ Am' cm' Ao' co', e = .returned (.tuple #[.agg #[.slice Am' (invMs ms).length cm', .slice Ao' (invMs ms).length co'], .bool true]) ∧ RefIs W' W'.heap.size Am' Ao' (invMs ms).length (invMs ms) (ofsOf (invF f ms.length) (invMs ms).length)) ∨
       (allI ms = false ∧ e = .returned (.tuple #[.agg #[.slice none 0 0, .slice none 0 0], .bool false]))) := by
  have HX := Lib.hid hx
  have HML := Lib.hid hml
  clear hx hml
  have e0 : IntKind.i64.wrap ((ms.length : Int) - 1) = (ms.length : Int) - 1 := IntWalk.i64_in _ (by omega)
  go_enter Try.func37, Try.ntmps37
  go_wp2
  go_loopw [6] (fun j wr => ∃ (k : Nat) (v o : Value) (vs : List Value), k ≤ ms.length ∧ j = .int .i64 ((ms.length : Int) - 1 - k) ∧ Below W.heap.size W wr ∧ Bk wr W.heap.size 66 #[.slice Am ms.length cm, .slice Ao ms.length co] ∧ Bk wr (W.heap.size + 1) 66 #[.slice none 0 0, .slice none 0 0] ∧ Bk wr (W.heap.size + 1 + 1) 66 #[v, o] ∧
    wr.ownsRow W.heap.size 22 1 v k vs ∧ Each wr W.heap.size vs (invK ms k) ∧ wr.ownsRow W.heap.size 3 1 o k ((ofsOf (invF f ms.length) k).map (Value.int .i64)) ∧ ∀ m ∈ ms.drop (ms.length - k), rightM (invM m) = true) (fun j _ => (intOf j + 1).toNat)
  case atStart =>
    refine ⟨0, _, _, [], by omega, by simp, by repeat (first | with_reducible exact Below.refl _ _ | with_reducible assumption | (with_reducible refine below_drewN ?_ _) | (with_reducible refine Below.drew ?_) | (with_reducible refine Below.alloc ?_ ?_ _; rotate_left; focus (first | with_reducible assumption | omega | (simp; done) | (simp; omega))) | (with_reducible refine Below.setCell ?_ ?_ _; rotate_left; focus (first | with_reducible assumption | omega | (simp; done) | (simp; omega)))), ((Bk.new W 66 _).alloc _).alloc _, (Bk.made 66 _ (by simp)).alloc _, Bk.made 66 #[.slice none 0 0, .slice none 0 0] (by simp), World.ownsRow_nil _ _ _ _, ?_, World.ownsRow_nil _ _ _ _, by simp⟩
    intro i m hi
    rw [invK_zero] at hi
    simp at hi
  case round =>
    obtain ⟨k, v, o, vs, hk, rfl, hbr, qx, qr, qn, hm, hE, ho, hall⟩ := hrel
    obtain ⟨A3, c3, rfl, _, _, _, _⟩ := own_form hm
    obtain ⟨A4, c4, rfl, _, _, _, _⟩ := own_form ho
    have z0 := qx.cell 0; have z1 := qx.cell 1
    have n0 := qn.cell 0; have n1 := qn.cell 1; have nf := qn.frozen
    have o0 := qr.cell 0; have o1 := qr.cell 1; have orf := qr.frozen
    have lx := def_lt' qx; have lr := def_lt' qr; have ln := def_lt' qn
    dsimp at z0 z1 n0 n1 o0 o1
    by_cases hkn : k < ms.length
    · obtain ⟨ι, hι⟩ : ∃ ι : Nat, ι = ms.length - 1 - k := ⟨_, rfl⟩
      have hιe : (ms.length : Int) - 1 - k = (ι : Int) := by omega
      obtain ⟨m, hmm⟩ : ∃ m, ms[ms.length - 1 - k]? = some m := ⟨_, List.getElem?_eq_getElem (by omega)⟩
      have hval := inv_val f ms.length k hkn (fun v hv => (hmok _ _ hv).2.2.1)
      have hiks := invK_succ hkn hmm
      have hdrb := drop_back hkn hmm
      have hikl := invK_length ms hk
      have hsu := ofs_succ (invF f ms.length) k
      have hobd : -1 ≤ (f ((ms.length - 1 - k : Nat) : Int)).getD (-1) ∧ (f ((ms.length - 1 - k : Nat) : Int)).getD (-1) < ms.length := by
        cases hf : f ((ms.length - 1 - k : Nat) : Int) with
        | none => simp; omega
        | some v => have := hmok _ _ hf; simp; omega
      rw [← hι] at hmm hval hobd
      obtain ⟨b, ob, A, c, rfl, hb, hc, hrd⟩ := HX.out.at_ hmm
      obtain ⟨b', o', rfl, hb', hc'⟩ := HX.out.of_ (ofsOf_get f (i := ι) (by omega))
      have hrm := HML.out m (List.mem_of_getElem? hmm)
      have hmlen := right_len hrm
      have HM : Has A m.length c m W := ⟨by unfold maxLen; omega, hrd⟩
      have hcm := (hbr.cell (p := ⟨b, ob + ι, none⟩) hb).trans hc
      have hco := fun w' (hb2 : Below W.heap.size W w') => (hb2.cell (p := ⟨b', o' + ι, none⟩) hb').trans hc'
      have hmem := List.mem_of_getElem? hmm
      generalize (f (ι : Int)).getD (-1) = oo at *
      have HCO := Lib.hid hco
      have HIK := Lib.hid hiks
      have HDB := Lib.hid hdrb
      have HSU := Lib.hid hsu
      have HAL := Lib.hid hall
      have HI := Lib.hid hιe
      clear hco hiks hdrb hsu hall hc hc' hrd hmm hι
      rw [hιe]
      have e1 : (ι : Int) < ms.length := by omega
      have e4 : IntKind.i64.wrap ((ι : Int) - 1) = (ι : Int) - 1 := IntWalk.i64_in _ (by omega)
      have e5 : IntKind.i64.wrap ((ms.length : Int) - 1 - oo) = (ms.length : Int) - 1 - oo := IntWalk.i64_in _ (by omega)
      clear hιe
      have hbz := hbr.size
      have hri := rinv_any A m.length c m wr (HM.at_ hbr) hrm
      have HRI := Lib.hid hri
      clear hri
      have hrt : ∀ w3 A5 c5, Has A5 m.length c5 (invM m) w3 → Calls Try.prog 11 #[.slice A5 m.length c5] w3 (On w3 w3 (.bool (rightM (invM m)))) := fun w3 A5 c5 h => h.rright (Below.refl _ _)
      cases hrr : rightM (invM m) with
      | false =>
        rw [hrr] at hrt
        have HRT := Lib.hid hrt
        clear hrt
        go_wp2_with (first
          | (go_at_call 22; refine HRI.out.mono ?_; rintro e w3 ⟨v3, rfl, ho3, hb3⟩; obtain ⟨A5, c5, rfl, y1, y2, y3, y4⟩ := own_form ho3; have has3 : Has A5 m.length c5 (invM m) w3 := ⟨Nat.le_trans y1 y2, y4⟩)
          | (go_at_call 11; refine (HRT.out _ _ _ has3).mono ?_; rintro e w4 ⟨rfl, hb4, hz4, hx4⟩; have hw4 : Below wr.heap.size wr w4 := hb3.trans (hx4.mono hb3.size); have q4 := qr.ext hw4; have f4 := q4.frozen; have l4 := def_lt' q4; have o40 := q4.cell 0; have o41 := q4.cell 1; dsimp at o40 o41))
        have y : Bk ((w4.setCell ⟨W.heap.size + 1, 0, none⟩ (.slice none 0 0)).setCell ⟨W.heap.size + 1, 1, none⟩ (.slice none 0 0)) (W.heap.size + 1) 66 #[.slice none 0 0, .slice none 0 0] := (q4.set_ 0 _).set_ 1 _
        have d0 := y.cell 0; have d1 := y.cell 1
        dsimp at d0 d1
        have hbe : Below W.heap.size W ((w4.setCell ⟨W.heap.size + 1, 0, none⟩ (.slice none 0 0)).setCell ⟨W.heap.size + 1, 1, none⟩ (.slice none 0 0)) := ((hbr.trans (hw4.mono hbz)).setCell (by simp) _).setCell (by simp) _
        have hai : allI ms = false := by
          unfold allI
          rw [List.all_eq_false]
          exact ⟨m, hmem, by rw [hrr]; simp⟩
        refine bodyPost_ret (v := .tuple #[.agg #[.slice none 0 0, .slice none 0 0], .bool false]) (by simp [results, Try.results37, go_sem, d0, d1]) rfl ⟨hbe, .inr ⟨hai, rfl⟩⟩
      | true =>
        rw [hrr] at hrt
        have HRT := Lib.hid hrt
        clear hrt
        rcases hval with ⟨g1, g2⟩ | ⟨g1, g2⟩
        all_goals
          rw [g2] at HSU
          clear g2
          go_wp2_with (first
            | (go_at_call 22; refine HRI.out.mono ?_; rintro e w3 ⟨v3, rfl, ho3, hb3⟩; obtain ⟨A5, c5, rfl, y1, y2, y3, y4⟩ := own_form ho3; have has3 : Has A5 m.length c5 (invM m) w3 := ⟨Nat.le_trans y1 y2, y4⟩)
            | (go_at_call 11; refine (HRT.out _ _ _ has3).mono ?_; rintro e w4 ⟨rfl, hb4, hz4, hx4⟩; have hw4 : Below wr.heap.size wr w4 := hb3.trans (hx4.mono hb3.size); have hW4 : Below W.heap.size W w4 := hbr.trans (hw4.mono hbz); have hz4' := hW4.size; have q4 := qx.ext hw4; have l4 := def_lt' q4; have x40 := q4.cell 0; have x41 := q4.cell 1; have r4 := qn.ext hw4; have rl4 := def_lt' r4; have r40 := r4.cell 0; have r41 := r4.cell 1; have s4 := qr.ext hw4; have hm4 := own_below hm hw4; have ho4 := own_below ho hw4; have hE4 := (hE.keep (fun j cs hj => hw4.block j (def_lt' hj))).snoc (by have := hm.1; rw [hikl]; simpa using this) (own_base (own_below ho3 hx4) hbz); have hco := HCO.out _ hW4; dsimp at x40 x41 r40 r41)
            | (at_builtin; ((with_reducible refine app_one Try.underlying48 info_rgs rfl (by decide) w4 W.heap.size _ k _ hm4 (by unfold maxLen; omega) (by omega) hz4' _ rfl (by simp [Value.oneCell']) rfl _ _ rfl rfl rfl ?_); intro g5 cap5 w5 hown5 hgr5 hat5 hlt5; have r5 := r4.grown hgr5 (own_ne hm4 r4 (by decide)); have rf5 := r5.frozen; have rl5 := def_lt' r5; have r50 := r5.cell 0; have r51 := r5.cell 1; dsimp at r50 r51; have ho5 := ownsRow_setCell_other (own_grown2 ho4 hm4 (by decide) hgr5) (a := ⟨W.heap.size + 1 + 1, 0, none⟩) (own_ne (own_grown2 ho4 hm4 (by decide) hgr5) r5 (by decide)) (.slice (some ⟨g5, 0, none⟩) (k + 1) cap5); have hz5 : W.heap.size ≤ w5.heap.size := Nat.le_trans hz4' hgr5.size; have r5s : Bk (w5.setCell ⟨W.heap.size + 1 + 1, 0, none⟩ (.slice (some ⟨g5, 0, none⟩) (k + 1) cap5)) (W.heap.size + 1 + 1) 66 #[.slice (some ⟨g5, 0, none⟩) (k + 1) cap5, .slice A4 k c4] := r5.set_ 0 _))
            | (at_builtin; ((refine app_one Try.underlying64 info_int rfl (by decide) _ W.heap.size _ k _ ho5 (by unfold maxLen; omega) (by omega) (by simpa using hz5) _ rfl (by simp [Value.oneCell']) rfl _ _ rfl rfl (by show Value.slice (some ⟨w5.heap.size, 0, none⟩) 1 1 = _; simp) ?_); intro g6 cap6 w6 hown6 hgr6 hat6 hlt6; have r6 := r5s.grown hgr6 (own_ne ho5 r5s (by decide)); have rf6 := r6.frozen; have rl6 := def_lt' r6; have r61 := r6.cell 1; dsimp at r61)))
          have hne0 : ∀ {t : TypeId} {cs : Array Value} {b : Nat}, Bk w5 b t cs → t ≠ 66 → Bk (w5.setCell ⟨W.heap.size + 1 + 1, 0, none⟩ (.slice (some ⟨g5, 0, none⟩) (k + 1) cap5)) b t cs := fun hb ht => hb.far (bk_ne hb r5 ht) _
          have hb5 : Below W.heap.size W w5 := below_own hW4 hm4 hgr5 hz4' (Nat.le_refl _)
          have hb5s := hb5.setCell (p := ⟨W.heap.size + 1 + 1, 0, none⟩) (by simp; omega) (.slice (some ⟨g5, 0, none⟩) (k + 1) cap5)
          have hb6 : Below W.heap.size W w6 := below_own hb5s ho5 hgr6 (by simp; omega) (Nat.le_refl _)
          have x5 := (q4.grown hgr5 (own_ne hm4 q4 (by decide))).far (p := ⟨W.heap.size + 1 + 1, 0, none⟩) (by simp; omega) (.slice (some ⟨g5, 0, none⟩) (k + 1) cap5)
          have x6 := x5.grown hgr6 (own_ne ho5 x5 (by decide))
          have y5 := (s4.grown hgr5 (own_ne hm4 s4 (by decide))).far (p := ⟨W.heap.size + 1 + 1, 0, none⟩) (by simp) (.slice (some ⟨g5, 0, none⟩) (k + 1) cap5)
          have y6 := y5.grown hgr6 (own_ne ho5 y5 (by decide))
          have m5 := ownsRow_setCell_other hown5 (own_ne hown5 r5 (by decide)) (a := ⟨W.heap.size + 1 + 1, 0, none⟩) (.slice (some ⟨g5, 0, none⟩) (k + 1) cap5)
          have m6 := own_grown2 m5 ho5 (by decide) hgr6
          have m7 := ownsRow_setCell_other m6 (own_ne m6 r6 (by decide)) (a := ⟨W.heap.size + 1 + 1, 1, none⟩) (.slice (some ⟨g6, 0, none⟩) (k + 1) cap6)
          have o7 := ownsRow_setCell_other hown6 (own_ne hown6 r6 (by decide)) (a := ⟨W.heap.size + 1 + 1, 1, none⟩) (.slice (some ⟨g6, 0, none⟩) (k + 1) cap6)
          have E5 := hE4.grown2 hm4 (by decide) hgr5
          have E5s : Each (w5.setCell ⟨W.heap.size + 1 + 1, 0, none⟩ (.slice (some ⟨g5, 0, none⟩) (k + 1) cap5)) W.heap.size _ _ := E5.keep (fun j _ hj => Below.heap_setCell _ _ _ _ (bk_ne hj r5 (by decide)))
          have E6 := E5s.grown2 ho5 (by decide) hgr6
          have E7 : Each (w6.setCell ⟨W.heap.size + 1 + 1, 1, none⟩ (.slice (some ⟨g6, 0, none⟩) (k + 1) cap6)) W.heap.size _ _ := E6.keep (fun j _ hj => Below.heap_setCell _ _ _ _ (bk_ne hj r6 (by decide)))
          clear hne0
          go_roundw
          case rel =>
            refine ⟨k + 1, _, _, _, by omega, by (have := HI.out; go_num), hb6.setCell (by simp; omega) _, x6.far (by simp; omega) _, y6.far (by simp) _, r6.set_ 1 _, m7, ?_, ?_, ?_⟩
            · rw [HIK.out]; exact E7
            · rw [HSU.out, List.map_append]; exact o7
            · rw [HDB.out]
              intro m' hm'
              rcases List.mem_cons.1 hm' with rfl | h
              · exact hrr
              · exact HAL.out m' h
          case measure => have := HI.out; simp [intOf]
    · obtain rfl : k = ms.length := by omega
      have hai : allI ms = true := by
        unfold allI
        rw [List.all_eq_true]
        intro m hm
        exact hall m (by simpa using hm)
      rw [invK_all] at hE
      have hil : (invMs ms).length = ms.length := by unfold invMs; simp
      rw [show ((ms.length : Int) - 1 - ms.length) = -1 by omega]
      clear hall
      go_wp2
      have y : Bk ((wr.setCell ⟨W.heap.size + 1, 0, none⟩ (.slice A3 ms.length c3)).setCell ⟨W.heap.size + 1, 1, none⟩ (.slice A4 ms.length c4)) (W.heap.size + 1) 66 #[.slice A3 ms.length c3, .slice A4 ms.length c4] := (qr.set_ 0 _).set_ 1 _
      have d0 := y.cell 0; have d1 := y.cell 1
      dsimp at d0 d1
      have hbe : Below W.heap.size W ((wr.setCell ⟨W.heap.size + 1, 0, none⟩ (.slice A3 ms.length c3)).setCell ⟨W.heap.size + 1, 1, none⟩ (.slice A4 ms.length c4)) := (hbr.setCell (by simp) _).setCell (by simp) _
      have m1 := ownsRow_setCell_other hm (own_ne hm qr (by decide)) (a := ⟨W.heap.size + 1, 0, none⟩) (.slice A3 ms.length c3)
      have m2 := ownsRow_setCell_other m1 (own_ne m1 (qr.set_ 0 _) (by decide)) (a := ⟨W.heap.size + 1, 1, none⟩) (.slice A4 ms.length c4)
      have o1' := ownsRow_setCell_other ho (own_ne ho qr (by decide)) (a := ⟨W.heap.size + 1, 0, none⟩) (.slice A3 ms.length c3)
      have o2 := ownsRow_setCell_other o1' (own_ne o1' (qr.set_ 0 _) (by decide)) (a := ⟨W.heap.size + 1, 1, none⟩) (.slice A4 ms.length c4)
      have E2 : Each ((wr.setCell ⟨W.heap.size + 1, 0, none⟩ (.slice A3 ms.length c3)).setCell ⟨W.heap.size + 1, 1, none⟩ (.slice A4 ms.length c4)) W.heap.size vs (invMs ms) := hE.keep (fun j _ hj => (Below.heap_setCell _ _ _ _ (bk_ne hj qr (by decide))).trans (Below.heap_setCell _ _ _ _ (bk_ne hj qr (by decide))))
      refine bodyPost_ret (v := .tuple #[.agg #[.slice A3 ms.length c3, .slice A4 ms.length c4], .bool true]) (by simp [results, Try.results37, go_sem, d0, d1]) rfl ⟨hbe, .inl ⟨hai, ?_⟩⟩
      rw [← hil] at m2 o2 E2 ⊢
      exact ⟨A3, c3, A4, c4, rfl, RefIs.of_each E2 m2 o2 (ofsOf_len _ _)⟩
end Go.Proofs.Ytkkbmcpimglcpaa
