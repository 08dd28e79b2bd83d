/- merged texts: Hxa Hy Hz Inv Ch Hab Hac Hc Hn -/
import Derived.Test.YtmacfoebfpljoaaGreatMa3
import Derived.Test.YtmacfoebfpljoaaGreatMa1
import Derived.Test.YtmacfoebfpljoaaGreatMa2
set_option maxRecDepth 100000
set_option maxHeartbeats 16000000
namespace Go.Proofs.YtmacfoebfpljoaaGreat
open Go.RowKit
set_option linter.unusedVariables false
/-- in the midst of the pieces -/
structure Join (w w2 wi : World) (base k : Nat) (v : Value) (lp : List Pt) (x : Int) (f t : Nat) (cv : Value) (cs : List Nat) (A1 : Option Addr) (k1 c1 : Nat) (ex : List Pt) (kv : Value) (q a : Nat) (ks : List Nat) : Prop where
 parts : Parts wi base (.slice A1 k1 c1) k1 (lp ++ ex)
 hex : ∀ p ∈ ex, ∀ g, p.v.ownBlock = some g → w.heap.size ≤ g
 gr : w.grownBy wi v.ownBlock
 v1 : ∀ g, (Value.slice A1 k1 c1).ownBlock = some g → v.ownBlock = some g ∨ w.heap.size ≤ g
 pb : ∀ g, (Value.slice A1 k1 c1).ownBlock = some g → g ≠ w2.heap.size
 kn : Bk wi w2.heap.size 192 #[.int .i64 x, .int .i64 0, .int .i64 0, .string { data := #[] }, kv]
 kids : wi.ownsRow w2.heap.size 3 1 kv q (nts ks)
 kl : ∀ y ∈ ks, y < k1
 cuts : wi.ownsRow w.heap.size 3 1 cv cs.length (nts cs)
 cl : ∀ g, cv.ownBlock = some g → g < w2.heap.size
 ap : ∀ p ∈ lp ++ ex, ∀ g, kv.ownBlock = some g → p.v.ownBlock ≠ some g
 at_ : cs[q]? = some a
 b1 : k + q ≤ k1
 b2 : k1 + 2 * (t - a) + q ≤ k + 2 * (t - f)
 fa : f ≤ a
 sw : kw (lp ++ ex) ks + 4 * q ≤ 8 * (a - f)
 z : w2.heap.size < wi.heap.size
 zw : w.heap.size ≤ w2.heap.size
theorem Join.next {w w2 wi w5 w6 : World} {base k : Nat} {v : Value} {lp : List Pt} {x : Int} {f t : Nat} {cv : Value} {cs : List Nat} {A1 : Option Addr} {k1 c1 : Nat} {ex : List Pt} {kv : Value} {q a : Nat} {ks : List Nat} {A5 : Option Addr} {k5 c5 d b g6 cap6 : Nat} {ex5 : List Pt}
 (J : Join w w2 wi base k v lp x f t cv cs A1 k1 c1 ex kv q a ks)
 (hp5 : Parts w5 base (.slice A5 k5 c5) k5 (lp ++ ex ++ ex5)) (hk5 : k1 < k5) (hd5 : k5 + 1 ≤ k1 + d) (hw5 : wt (lp ++ ex ++ ex5) (k5 - 1) + 5 ≤ 4 * d) (hex5 : ∀ p ∈ ex5, ∀ g, p.v.ownBlock = some g → wi.heap.size ≤ g) (hg5 : wi.grownBy w5 (Value.slice A1 k1 c1).ownBlock) (hv5 : ∀ g, (Value.slice A5 k5 c5).ownBlock = some g → (Value.slice A1 k1 c1).ownBlock = some g ∨ wi.heap.size ≤ g)
 (hcs : cs[q + 1]? = some b) (hab : a < b) (hbt : b ≤ t) (hd : d ≤ 2 * (b - a))
 (hgr : w5.grownBy w6 kv.ownBlock) (hat : kv.ownBlock = some g6 ∨ w5.heap.size < g6) (ho : w6.ownsRow w2.heap.size 3 1 (.slice (some ⟨g6, 0, none⟩) (q + 1) cap6) (q + 1) (nts (ks ++ [k5 - 1]))) :
 Join w w2 (w6.setCell ⟨w2.heap.size, 4, none⟩ (.slice (some ⟨g6, 0, none⟩) (q + 1) cap6)) base k v lp x f t cv cs A5 k5 c5 (ex ++ ex5) (.slice (some ⟨g6, 0, none⟩) (q + 1) cap6) (q + 1) b (ks ++ [k5 - 1]) := by
 have hz5 := hg5.size
 have hz6 := hgr.size
 have hzw := J.gr.size
 have hz := J.z
 have hzw2 := J.zw
 have hkl := own_lt J.kids
 have hkg := own_ge J.kids
 have hkn5 := J.kn.grown hg5 (fun e => J.pb _ e rfl)
 have hkd5 := hown_grow J.kids hg5 (hown_type J.kids J.parts.row (by decide))
 have hcu5 := hown_grow J.cuts hg5 (hown_type J.cuts J.parts.row (by decide))
 have ap5 : ∀ p ∈ lp ++ ex ++ ex5, ∀ g, kv.ownBlock = some g → p.v.ownBlock ≠ some g := by
  intro p hp g hg e
  rcases List.mem_append.1 hp with hp | hp
  ·exact J.ap p hp g hg e
  ·have := hex5 p hp g e
   have := hkl g hg
   omega
 have hp6 := hp5.grow hgr (hown_type hp5.row hkd5 (by decide)) (fun i p hp g hg => ap5 p (List.mem_of_getElem? hp) g hg)
 have hkn6 := hkn5.grown hgr (own_ne hkd5 hkn5 (by decide))
 have hcu6 := hown_grow hcu5 hgr (fun g hg e => by have := J.cl g e; have := hkg g hg; omega)
 have hb6 : w6.grownBy (w6.setCell ⟨w2.heap.size, 4, none⟩ (.slice (some ⟨g6, 0, none⟩) (q + 1) cap6)) (some w2.heap.size) := gr_set (p := ⟨w2.heap.size, 4, none⟩) (World.grownBy.refl _ _) (.inl rfl) _
 have pb5 : ∀ g, (Value.slice A5 k5 c5).ownBlock = some g → g ≠ w2.heap.size := by
  intro g hg
  rcases hv5 g hg with h | h
  ·exact J.pb g h
  ·omega
 have hlt6 := own_lt ho
 refine ⟨by rw [← List.append_assoc]; exact hp6.grow hb6 (fun g hg e => pb5 g e (Option.some.inj hg).symm) (fun i p hp g hg e => own_ne (hp6.own i p hp) hkn6 (by decide) (by rw [e, ← hg])), ?_, ?_, ?_, pb5, hkn6.set_ 4 _, ownsRow_setCell_other ho (own_ne ho hkn6 (by decide)) _, ?_, ownsRow_setCell_other hcu6 (own_ne hcu6 hkn6 (by decide)) _, J.cl, ?_, hcs, by have := J.b1; omega, by have := J.b2; omega, by have := J.fa; omega, ?_, by simp; omega, hzw2⟩
 ·intro p hp g hg
  rcases List.mem_append.1 hp with hp | hp
  ·exact J.hex p hp g hg
  ·have := hex5 p hp g hg
   omega
 ·refine ((J.gr.andThen hg5 (fun j h => (J.v1 j h).symm)).andThen hgr (fun j h => .inl ?_)).andThen hb6 (fun j h => .inl ?_)
  ·have := hkg j h; omega
  ·have := Option.some.inj h; omega
 ·intro g hg
  rcases hv5 g hg with h | h
  ·exact J.v1 g h
  ·exact .inr (by omega)
 ·intro y hy
  rcases List.mem_append.1 hy with hy | hy
  ·have := J.kl y hy; omega
  ·simp at hy; omega
 ·intro p hp g hg e
  rw [← List.append_assoc] at hp
  have eg : g6 = g := by simpa [Value.ownBlock] using hg
  subst eg
  rcases hat with h | h
  ·exact ap5 p hp _ h e
  ·obtain ⟨i, hi⟩ := List.getElem?_of_mem hp
   have := own_lt (hp5.own i p hi) _ e
   omega
 ·have h1 := J.sw
  have h2 := J.parts.len
  have h3 := J.fa
  rw [← List.append_assoc, kw_snoc, kw_append (fun x hx => by have := J.kl x hx; omega)]
  omega
theorem nts_get {cs : List Nat} {j a : Nat} (h : cs[j]? = some a) : (nts cs)[j]? = some (.int .i64 (a : Int)) := by
 unfold nts
 rw [List.getElem?_map, h]
 rfl
theorem nts_cell {w : World} {base n c : Nat} {A : Option Addr} {cs : List Nat} (h : w.ownsRow base 3 1 (.slice A n c) n (nts cs)) (hn : 0 < n) : ∃ b o, A = some ⟨b, o, none⟩ ∧ ∀ (j a : Nat), cs[j]? = some a → w.cell? ⟨b, o + j, none⟩ = some (.int .i64 (a : Int)) := by
 obtain ⟨A', c', e, -, -, -, r⟩ := own_form h
 injection e with e1 e2 e3
 subst e1
 obtain ⟨b, o, e, -, hc⟩ := r.2 hn
 exact ⟨b, o, e, fun j a hj => hc j _ (nts_get hj)⟩
theorem Join.zero {w wr w2 : World} {base k c1 : Nat} {V : Option Addr} {lp : List Pt} {x : Int} {f t : Nat} {cv : Value} {cs : List Nat} (hbr : Below w.heap.size w wr) (hb2 : Below w.heap.size w w2) (hzr : wr.heap.size ≤ w2.heap.size) (hp : Parts w base (.slice V k c1) k lp) (hco : w2.ownsRow wr.heap.size 3 1 cv cs.length (nts cs)) (h0 : cs[0]? = some f) : Join w w2 (w2.alloc (.cells #[.int .i64 x, .int .i64 0, .int .i64 0, .string { data := #[] }, .slice none 0 0] 192)) base k (.slice V k c1) lp x f t cv cs V k c1 [] (.slice none 0 0) 0 f [] := by
 have hz := hb2.size
 have hza : Below w2.heap.size w2 (w2.alloc (.cells #[.int .i64 x, .int .i64 0, .int .i64 0, .string { data := #[] }, .slice none 0 0] 192)) := (Below.refl _ _).alloc (Nat.le_refl _) _
 have hbw := hb2.trans (hza.mono hz)
 refine ⟨by rw [List.append_nil]; exact hp.below hbw, fun p hp => by (cases hp), below_gr hbw, fun g h => .inl h, fun g h => by have := own_lt hp.row g h; omega, Bk.new _ _ _, World.ownsRow_nil _ _ _ _, fun y hy => by (cases hy), own_base (own_below hco hza) hbr.size, fun g h => own_lt hco g h, fun p _ g h => by (simp [Value.ownBlock] at h), h0, by omega, by omega, Nat.le_refl _, by simp [kw], by simp, hz⟩
theorem build_step (n c : Nat) (A : Option Addr) (l : List Sg) (hB : Beside (kinds l)) (f t : Nat) (ih : ∀ f' t', t' - f' < t - f → BuildAny n c A l f' t') : BuildAny n c A l f t := by
 intro base k cp V lp w hbw hsg hS hp hk
 have hkl := Lib.hid (kinds_len hsg)
 have hn := hsg.2.1
 have htn : t ≤ n := by have := hS.le; have := hkl.out; omega
 have hft := hS.lt
 have H := Lib.hid hsg
 have HB := Lib.hid hB
 have HS := Lib.hid hS
 have HP := Lib.hid hp
 have IH := Lib.hid ih
 clear hsg hB hS hp ih
 go_enter Tryz.func101, Tryz.ntmps101
 go_upto_region 2 with fail
 go_loopw [0, 9] (fun v y wr => v = .slice V k cp ∧ ∃ x : Int, y = .int .i64 x ∧ (x = 3 ∨ (x = 2 ∧ NoBar (kinds l) f t) ∨ (x = 1 ∧ NoBar (kinds l) f t ∧ NoItem (kinds l) f t)) ∧ Below w.heap.size w wr) (fun _ y _ => (intOf y).toNat)
 case atStart => exact ⟨rfl, 3, rfl, .inl rfl, Below.refl _ _⟩
 case round =>
  obtain ⟨rfl, x, rfl, hx, hbr⟩ := hrel
  have hz := hbr.size
  have hsr := (H.out.below (hbr.mono hbw)).more (show base ≤ wr.heap.size by omega)
  have HR := Lib.hid hsr
  clear hsr
  by_cases hx1 : x = 1
  ·subst hx1
   have hno : NoBar (kinds l) f t ∧ NoItem (kinds l) f t := by
    rcases hx with h | ⟨h, -⟩ | ⟨-, h⟩
    ·omega
    ·omega
    ·exact h
   have HNO := Lib.hid hno
   clear hno hx
   have hpr := HP.out.below hbr
   have HPR := Lib.hid hpr
   clear hpr
   obtain ⟨g, bb, o, hgl, hok, rfl, hb, hkq, hkk, d0⟩ := kinds_get (H.out.below (hbr.mono hbw)) (q := t - 1) (by omega)
   by_cases h5 : g.k = 5
   ·rw [h5] at d0
    have e5 : ((5 : Int) == 5) = true := rfl
    have hih := IH.out f (t - 1) (by omega) base k cp V lp wr (by omega) (H.out.below (hbr.mono hbw)) (HS.out.count HB.out (by rw [hkq, h5])) HPR.out (by omega)
    obtain ⟨s, rfl⟩ : ∃ s, t = s + 1 := ⟨t - 1, by omega⟩
    rw [Nat.add_sub_cancel] at hih d0
    have HIH := Lib.hid hih
    clear hih hkq hkk
    go_wp2_with (go_at_call 101; fail)
    refine HIH.out.mono ?_
    rintro e w1 ⟨A1, k1, c1, ex, rfl, hp1, hk1, hk2, hw1, hex, hg1, hv1⟩
    have hb1 : Below base wr w1 := hbelow_gr hg1 (own_ge HPR.out.row) (by omega)
    have hz1 := hb1.size
    have hs1 := (H.out.below (hbr.mono hbw)).below hb1
    obtain ⟨-, bb', o', hA, -, hcc⟩ := hs1.at_ (k := s) (by simpa using hgl)
    obtain ⟨rfl, rfl⟩ : bb = bb' ∧ o = o' := by simpa using hA
    have q2 : w1.cell? ⟨bb, o + s * 5 + 2, none⟩ = some (.int .i64 g.lo) := hcc 2 (by omega)
    have q3 : w1.cell? ⟨bb, o + s * 5 + 3, none⟩ = some (.int .i64 g.hi) := hcc 3 (by omega)
    have HP1 := Lib.hid hp1
    clear hcc hA hs1 hp1
    obtain ⟨r, rfl⟩ : ∃ r, k1 = r + 1 := ⟨k1 - 1, by omega⟩
    have w1s : IntKind.i64.wrap (s : Int) = s := IntWalk.i64_in _ (by omega)
    have w1r : IntKind.i64.wrap (r : Int) = r := IntWalk.i64_in _ (by omega)
    have l1s : (0 : Int) ≤ s := by omega
    have l2s : (s : Int) < n := by omega
    go_upto_region 18 with fail
    have hBk : Below w1.heap.size w1 (w1.alloc (.cells #[.int .i64 (r : Int)] 3)) := belowA
    have hPk := Lib.hid (HP1.out.below hBk)
    have hkid := Lib.hid (own_sole w1 w1.heap.size 3 #[.int .i64 (r : Int)] (Nat.le_refl _))
    have HBK := Lib.hid hBk
    have hbz1 : base ≤ (w1.alloc (.cells #[.int .i64 (r : Int)] 3)).heap.size := by simp; omega
    have q2' : (w1.alloc (.cells #[.int .i64 (r : Int)] 3)).cell? ⟨bb, o + s * 5 + 2, none⟩ = some (.int .i64 g.lo) := (hBk.cell (p := ⟨bb, o + s * 5 + 2, none⟩) (show bb < w1.heap.size by omega)).trans q2
    have q3' : (w1.alloc (.cells #[.int .i64 (r : Int)] 3)).cell? ⟨bb, o + s * 5 + 3, none⟩ = some (.int .i64 g.hi) := (hBk.cell (p := ⟨bb, o + s * 5 + 3, none⟩) (show bb < w1.heap.size by omega)).trans q3
    clear hBk
    go_region_law ((with_reducible refine app_one_step Tryz.underlying108 info_pt rfl (by decide) (w1.alloc (.cells #[.int .i64 (r : Int)] 3)) base (.slice A1 (r + 1) c1) (r + 1) (pts (lp ++ ex)) hPk.out.row (by unfold maxLen; omega) (by omega) hbz1 _ rfl (by simp [Value.oneCell']) rfl (.tmp 84) (.tmp 102) rfl rfl (by first | rfl | (simp [go_sem]; done) | (go_simp; done)) ?_); intro g4 cap4 w4 hown4 hgr4 hat4 hlt4)
    all_goals
     clear q2 q3 q2' q3' d0 w1s w1r l1s l2s hbz1
     have hpo : (⟨4, g.lo, g.hi, { data := #[] }, some ⟨w1.heap.size, 0, none⟩, 1, 1, [r], 8 * (s + 1 - f) - 5⟩ : Pt).Ok (r + 1) := by
      obtain ⟨-, -, -, o1, o2, o3, o4, -⟩ := hok
      exact ⟨by simp, ⟨o1, o2⟩, ⟨o3, o4⟩, by simp [ByteArray.size], fun _ => rfl, fun h => by simp at h, by simp, fun x hx => by simp at hx; omega⟩
     have hkw : kw (lp ++ ex) [r] + 3 ≤ 8 * (s + 1 - f) - 5 := by
      have e1 : kw (lp ++ ex) [r] = wt (lp ++ ex) r + 1 := by simp [kw]
      rw [Nat.add_sub_cancel] at hw1
      omega
     have hR := BuildOut.push (k := k) (d := 2 * (s + 1 - f)) (p := ⟨4, g.lo, g.hi, { data := #[] }, some ⟨w1.heap.size, 0, none⟩, 1, 1, [r], 8 * (s + 1 - f) - 5⟩) hbw ((below_gr (row := (Value.slice V k cp).ownBlock) hbr).andThen hg1 (fun j h => .inr h)) (fun g h => by rcases hv1 g h with h | h; (· exact .inl h); (· exact .inr (by omega))) HP1.out (fun p hp g h => by have := hex p hp g h; omega) HBK.out (own_base hkid.out (by omega)) hpo hgr4 hat4 hown4 (by omega) (by omega) hkw (by show 8 * (s + 1 - f) - 5 + 5 ≤ _; omega)
     have HRR := Lib.hid hR
     clear hR
     go_wp2
     exact bodyPost_ret (v := .slice (some ⟨g4, 0, none⟩) (r + 1 + 1) cap4) (by simp [results, Tryz.results101, go_sem]) rfl HRR.out
   ·have e5 : (g.k == 5) = false := beq_false_of_ne h5
    obtain ⟨g, bb, o, hgl, hok, hA, -, hkf, hkk, f0⟩ := kinds_get (H.out.below (hbr.mono hbw)) (q := f) (by omega)
    injection hA with hA
    injection hA with e1 e2
    subst e1 e2
    have hnx := single HB.out (fun i x hx => by
     have hi := (List.getElem?_eq_some_iff.1 hx).1
     obtain ⟨g', _, _, _, _, _, _, hk', hk2, _⟩ := kinds_get H.out (q := i) (by have := hkl.out; omega)
     rw [hk'] at hx
     have := Option.some.inj hx
     omega) HS.out HNO.out.1 HNO.out.2 (by rw [hkq]; intro e; exact h5 (Option.some.inj e))
    by_cases h2 : g.k = 2
    ·rw [h2] at hkf f0
     have e2 : ((2 : Int) == 2) = true := rfl
     have hwi := (HS.out.within HB.out hkf hnx).1
     have hwl := hwi.lt
     have hih := IH.out (f + 1) (t - 1) (by omega) base k cp V lp wr (by omega) (H.out.below (hbr.mono hbw)) hwi HPR.out (by omega)
     obtain ⟨s, rfl⟩ : ∃ s, t = s + 1 := ⟨t - 1, by omega⟩
     rw [Nat.add_sub_cancel] at hih d0
     have HIH := Lib.hid hih
     clear hih hkq hwi hnx
     go_wp2_with (go_at_call 101; fail)
     refine HIH.out.mono ?_
     intro e w1 hbo
     have hR := BuildOut.from_ hbr (d' := 2 * (s + 1 - f)) (by omega) hbo
     have HRR := Lib.hid hR
     obtain ⟨A1, k1, c1, ex, rfl, -⟩ := hbo
     clear hR
     go_wp2
     exact bodyPost_ret (v := .slice A1 k1 c1) (by simp [results, Tryz.results101, go_sem]) rfl HRR.out
    ·have e2 : (g.k == 2) = false := beq_false_of_ne h2
     obtain ⟨-, bb', o', hA, -, hcc⟩ := (H.out.below (hbr.mono hbw)).at_ hgl
     obtain ⟨rfl, rfl⟩ : bb = bb' ∧ o = o' := by simpa using hA
     have q4 : wr.cell? ⟨bb, o + f * 5 + 4, none⟩ = some (.string g.name) := hcc 4 (by omega)
     have hpo : (⟨1, 0, 0, g.name, none, 0, 0, [], 3⟩ : Pt).Ok k := by
      obtain ⟨-, -, o0, -⟩ := hok
      exact ⟨by simp, by simp, by simp, o0, fun h => by simp at h, fun h => by simp at h, by simp, fun x hx => by simp at hx⟩
     clear hcc hA hkq hkf hnx
     go_wp2_with (at_builtin; ((refine app_one Tryz.underlying108 info_pt rfl (by decide) wr base _ k _ HPR.out.row (by unfold maxLen; omega) (by omega) (by omega) _ rfl (by simp [Value.oneCell']) rfl _ _ rfl rfl rfl ?_); intro g4 cap4 w4 hown4 hgr4 hat4 hlt4))
     have hR := BuildOut.push (k := k) (d := 2 * (t - f)) (lp := lp) (ex := []) (p := ⟨1, 0, 0, g.name, none, 0, 0, [], 3⟩) hbw (below_gr (row := (Value.slice V k cp).ownBlock) hbr) (fun g h => .inl h) (by rw [List.append_nil]; exact HPR.out) (fun p hp => by cases hp) (Below.refl _ _) (World.ownsRow_nil _ _ _ _) hpo hgr4 hat4 (by rw [List.append_nil]; exact hown4) (by omega) (by omega) (by simp [kw]) (by show 3 + 5 ≤ _; omega)
     have HRR := Lib.hid hR
     clear hR
     go_wp2
     exact bodyPost_ret (v := .slice (some ⟨g4, 0, none⟩) (k + 1) cap4) (by simp [results, Tryz.results101, go_sem]) rfl HRR.out
  ·have hx' : (x = 3 ∨ (x = 2 ∧ NoBar (kinds l) f t)) := by
    rcases hx with h | h | ⟨h, -⟩
    ·exact .inl h
    ·exact .inr h
    ·exact absurd h hx1
   have hcut : Calls Tryz.prog 150 #[.slice A n c, .int .i64 f, .int .i64 t, .int .i64 x] wr (CutsOut wr (PP (kinds l) f t x)) := by
    rcases hx' with rfl | ⟨rfl, hnb⟩
    ·exact (cuts3_any A n c f t l wr HR.out HB.out HS.out).mono fun e w' ⟨A', c', cs, e1, e2, e3, e4⟩ => ⟨A', c', cs, e1, e2, PP.of3 e3, e4⟩
    ·exact (cuts2_any A n c f t l wr HR.out hnb HS.out).mono fun e w' ⟨A', c', cs, e1, e2, e3, e4⟩ => ⟨A', c', cs, e1, e2, PP.of2 e3, e4⟩
   have HCUT := Lib.hid hcut
   have HX := Lib.hid hx'
   have hx2 : 2 ≤ x ∧ x ≤ 3 := by rcases hx' with h | ⟨h, -⟩ <;> omega
   have ge2 : x ≥ 2 := hx2.1
   clear hx hx' hcut hx1
   go_wp2_with (go_at_call 150; fail)
   refine HCUT.out.mono ?_
   rintro e w2 ⟨Ac, cc, cs, rfl, hco, hPP, hb2⟩
   have hz2 := hb2.size
   have hbw2 := hbr.trans (hb2.mono hz)
   have hlen := hPP.len
   have hlens := hPP.lens
   have HPP := Lib.hid hPP
   have HCO := Lib.hid hco
   clear hPP hco
   by_cases h2 : cs.length = 2
   ·have e2 : ((cs.length : Int) == 2) = true := by rw [beq_iff_eq]; omega
    have htwo := HPP.out.two h2
    have hnx : (x - 1 = 3 ∨ (x - 1 = 2 ∧ NoBar (kinds l) f t) ∨ (x - 1 = 1 ∧ NoBar (kinds l) f t ∧ NoItem (kinds l) f t)) := by
     rcases HX.out with rfl | ⟨rfl, hnb⟩
     ·exact .inr (.inl ⟨rfl, htwo.1 rfl⟩)
     ·exact .inr (.inr ⟨rfl, hnb, htwo.2 rfl⟩)
    have HNX := Lib.hid hnx
    clear hnx htwo h2
    go_wp2
    go_roundw
    case rel => exact ⟨rfl, x - 1, rfl, HNX.out, hbw2⟩
    case measure => simp [intOf]; omega
   ·have e2 : ((cs.length : Int) == 2) = false := beq_false_of_ne (by omega)
    go_upto_region 7 with fail
    have hj0 := Lib.hid (Join.zero (x := x) (f := f) (t := t) hbr hbw2 hz2 HP.out HCO.out HPP.out.hd)
    generalize w2.alloc (.cells #[.int .i64 x, .int .i64 0, .int .i64 0, .string { data := #[] }, .slice none 0 0] 192) = w3 at *
    go_wp2
    go_loopw [0, 12] (fun v j wi => ∃ (q a : Nat) (A1 : Option Addr) (k1 c1 : Nat) (ex : List Pt) (kv : Value) (ks : List Nat), v = .slice A1 k1 c1 ∧ j = .int .i64 q ∧ q + 1 ≤ cs.length ∧ Hid (Join w w2 wi base k (.slice V k cp) lp x f t (.slice Ac cs.length cc) cs A1 k1 c1 ex kv q a ks)) (fun _ j _ => cs.length - (intOf j).toNat)
    case atStart => exact ⟨0, f, V, k, cp, [], _, [], rfl, rfl, by omega, hj0⟩
    case round =>
     obtain ⟨q, a, A1, k1, c1, ex, kv, ks, rfl, rfl, hq, J⟩ := hrel
     obtain ⟨AK, cK, rfl, -, -, -, -⟩ := own_form J.out.kids
     obtain ⟨cb, co, rfl, hcc⟩ := nts_cell J.out.cuts (by omega)
     have hca := hcc q a J.out.at_
     have kc0 := J.out.kn.cell 0; have kc1 := J.out.kn.cell 1; have kc2 := J.out.kn.cell 2; have kc3 := J.out.kn.cell 3; have kc4 := J.out.kn.cell 4
     dsimp at kc0 kc1 kc2 kc3 kc4
     have hb1 := J.out.b1
     have hb2' := J.out.b2
     have hjz := J.out.z
     have hbz : base ≤ w2.heap.size := by have := J.out.zw; omega
     by_cases hlt : q + 1 < cs.length
     ·have e3 : (q : Int) + 1 < cs.length := by omega
      obtain ⟨b, hb⟩ : ∃ b, cs[q + 1]? = some b := ⟨_, List.getElem?_eq_getElem hlt⟩
      have hcb := hcc (q + 1) b hb
      obtain ⟨p1, p2, p3, p4, p5, p6⟩ := HPP.out.pr q a b J.out.at_ hb
      have hIH : ∀ b' : Nat, Seg (kinds l) a b' → b' ≤ b → Calls Tryz.prog 101 #[.slice A1 k1 c1, .slice A n c, .int .i64 a, .int .i64 b'] wr (BuildOut wr base (.slice A1 k1 c1) k1 (lp ++ ex) (2 * (b' - a))) := fun b' hsg hb' => IH.out a b' (by have := p6 (by omega); omega) base k1 c1 A1 (lp ++ ex) wr (by omega) (H.out.below (hbelow_gr J.out.gr (own_ge HP.out.row) hbw)) hsg J.out.parts (by omega)
      have hcase : (∃ b', b = b' + 1 ∧ (x == 3) = true ∧ (q : Int) + 2 < cs.length ∧ Seg (kinds l) a b') ∨ ((x == 3) = true ∧ ¬ (q : Int) + 2 < cs.length ∧ Seg (kinds l) a b) ∨ ((x == 3) = false ∧ Seg (kinds l) a b) := by
       by_cases h3 : x = 3
       ·by_cases h4 : q + 2 < cs.length
        ·exact .inl ⟨b - 1, by omega, by rw [beq_iff_eq]; exact h3, by omega, p4 h3 h4⟩
        ·exact .inr (.inl ⟨by rw [beq_iff_eq]; exact h3, by omega, p5 (fun h => h4 h.2)⟩)
       ·exact .inr (.inr ⟨beq_false_of_ne h3, p5 (fun h => h3 h.1)⟩)
      have p23 : a < b ∧ b ≤ t := ⟨p2, p3⟩
      have HPN := Lib.hid (And.intro hb p23)
      have HIN := Lib.hid hIH
      clear p4 p5 p6 hIH hcc
      rcases hcase with ⟨b', rfl, x3, q2, hsg⟩ | ⟨x3, q2, hsg⟩ | ⟨x3, hsg⟩
      ·have HI := Lib.hid (HIN.out b' hsg (by omega))
       clear hsg HIN hb
       go_wp2_with (go_at_call 101; fail)
       refine HI.out.mono ?_
       rintro e w5 ⟨A5, k5, c5, ex5, rfl, hp5, hk5, hd5, hw5, hex5, hg5, hv5⟩
       obtain ⟨r, rfl⟩ : ∃ r, k5 = r + 1 := ⟨k5 - 1, by omega⟩
       have kn5 := J.out.kn.grown hg5 (fun e => J.out.pb _ e rfl)
       have f5 := kn5.frozen; have l5 := def_lt' kn5; have m5 := kn5.cell 4
       dsimp at m5
       have hkd5 := hown_grow J.out.kids hg5 (hown_type J.out.kids J.out.parts.row (by decide))
       have hz5 := hg5.size
       have HP5 := Lib.hid hp5
       have HX5 := Lib.hid (And.intro hex5 hv5)
       clear hp5 hex5 hv5 hca hcb kc0 kc1 kc2 kc3 kc4
       go_wp2_with (at_builtin; ((refine app_one Tryz.underlying51 info_in rfl (by decide) w5 w2.heap.size _ q _ hkd5 (by unfold maxLen; omega) (by omega) (by omega) _ rfl (by simp [Value.oneCell']) rfl _ _ rfl rfl rfl ?_); intro g6 cap6 w6 hown6 hgr6 hat6 hlt6; have kn6 := kn5.grown hgr6 (own_ne hkd5 kn5 (by decide)); have f6 := kn6.frozen; have l6 := def_lt' kn6; have m6 := kn6.cell 4; dsimp at m6))
       go_roundw
       case rel => exact ⟨q + 1, _, A5, r + 1, c5, ex ++ ex5, _, ks ++ [r], rfl, by go_num, by omega, Lib.hid (J.out.next HP5.out hk5 hd5 hw5 HX5.out.1 hg5 HX5.out.2 HPN.out.1 HPN.out.2.1 HPN.out.2.2 (by omega) hgr6 hat6 (by rw [nts_snoc]; exact hown6))⟩
       case measure => simp [intOf]; omega
      all_goals
       have HI := Lib.hid (HIN.out b hsg (by omega))
       clear hsg HIN hb
       go_wp2_with (go_at_call 101; fail)
       refine HI.out.mono ?_
       rintro e w5 ⟨A5, k5, c5, ex5, rfl, hp5, hk5, hd5, hw5, hex5, hg5, hv5⟩
       obtain ⟨r, rfl⟩ : ∃ r, k5 = r + 1 := ⟨k5 - 1, by omega⟩
       have kn5 := J.out.kn.grown hg5 (fun e => J.out.pb _ e rfl)
       have f5 := kn5.frozen; have l5 := def_lt' kn5; have m5 := kn5.cell 4
       dsimp at m5
       have hkd5 := hown_grow J.out.kids hg5 (hown_type J.out.kids J.out.parts.row (by decide))
       have hz5 := hg5.size
       have HP5 := Lib.hid hp5
       have HX5 := Lib.hid (And.intro hex5 hv5)
       clear hp5 hex5 hv5 hca hcb kc0 kc1 kc2 kc3 kc4
       go_wp2_with (at_builtin; ((refine app_one Tryz.underlying51 info_in rfl (by decide) w5 w2.heap.size _ q _ hkd5 (by unfold maxLen; omega) (by omega) (by omega) _ rfl (by simp [Value.oneCell']) rfl _ _ rfl rfl rfl ?_); intro g6 cap6 w6 hown6 hgr6 hat6 hlt6; have kn6 := kn5.grown hgr6 (own_ne hkd5 kn5 (by decide)); have f6 := kn6.frozen; have l6 := def_lt' kn6; have m6 := kn6.cell 4; dsimp at m6))
       go_roundw
       case rel => exact ⟨q + 1, _, A5, r + 1, c5, ex ++ ex5, _, ks ++ [r], rfl, by go_num, by omega, Lib.hid (J.out.next HP5.out hk5 hd5 hw5 HX5.out.1 hg5 HX5.out.2 HPN.out.1 HPN.out.2.1 HPN.out.2.2 (by omega) hgr6 hat6 (by rw [nts_snoc]; exact hown6))⟩
       case measure => simp [intOf]; omega
     ·obtain rfl : q = cs.length - 1 := by omega
      have e3 : ¬ ((cs.length - 1 : Nat) : Int) + 1 < cs.length := by omega
      have hat : a = t := by
       have h1 := J.out.at_
       rw [HPP.out.lst] at h1
       exact (Option.some.inj h1).symm
      subst hat
      have hpo : (⟨x, 0, 0, { data := #[] }, AK, cs.length - 1, cK, ks, 8 * (a - f) - 5⟩ : Pt).Ok k1 := ⟨by show 1 ≤ x ∧ x ≤ 4; omega, by simp, by simp, by simp [ByteArray.size], fun h => by (have h' : x = 4 := h); omega, fun _ => by show 2 ≤ cs.length - 1; omega, by show cs.length - 1 ≤ 1000; omega, J.out.kl⟩
      clear hca hcc
      go_wp2_with (at_builtin; ((refine app_one Tryz.underlying108 info_pt rfl (by decide) wr base _ k1 _ J.out.parts.row (by unfold maxLen; omega) (by omega) (by omega) _ rfl (by simp [Value.oneCell']) rfl _ _ rfl rfl rfl ?_); intro g4 cap4 w4 hown4 hgr4 hat4 hlt4))
      have hR := BuildOut.push (k := k) (d := 2 * (a - f)) (lp := lp) (ex := ex) (p := ⟨x, 0, 0, { data := #[] }, AK, cs.length - 1, cK, ks, 8 * (a - f) - 5⟩) hbw J.out.gr J.out.v1 J.out.parts J.out.hex (Below.refl _ _) (own_base J.out.kids J.out.zw) hpo hgr4 hat4 hown4 (by omega) (by omega) (by have h1 := J.out.sw; show kw (lp ++ ex) ks + 3 ≤ 8 * (a - f) - 5; omega) (by show 8 * (a - f) - 5 + 5 ≤ _; omega)
      have HRR := Lib.hid hR
      clear hR
      go_wp2
      exact bodyPost_ret (v := .slice (some ⟨g4, 0, none⟩) (k1 + 1) cap4) (by simp [results, Tryz.results101, go_sem]) rfl HRR.out
theorem build_all (n c : Nat) (A : Option Addr) (l : List Sg) (hB : Beside (kinds l)) (m : Nat) : ∀ f t, t - f < m → BuildAny n c A l f t := by
 induction m with
 | zero => intro f t h; omega
 | succ m ih => intro f t h; exact build_step n c A l hB f t (fun f' t' h' => ih f' t' (by omega))
/-- parts in a row of their own -/
def PartsOut (w : World) (v : Value) (w' : World) : Prop := ∃ n l, Parts w' w.heap.size v n l ∧ n ≤ 400 ∧ wt l (n - 1) ≤ 1600
def ParseOut (w : World) (e : Ending) (w' : World) : Prop := ∃ (v : Value) (at_ er : Int), e = .returned (.tuple #[v, .int .i64 at_, .int .i64 er]) ∧ PartsOut w v w' ∧ Below w.heap.size w w'
theorem PartsOut.nil_ (w w' : World) : PartsOut w (.slice none 0 0) w' := ⟨0, [], Parts.nil _ _, by omega, by simp [wt]⟩
theorem parse6_any (s : ByteArray) (w : World) (hs : s.size ≤ 10000000) : Calls Tryz.prog 49 #[.string s] w (ParseOut w) := by
 have hlx := Lib.hid (lex_any s w hs)
 go_enter Tryz.func49, Tryz.ntmps49
 go_wp2_with (go_at_call 99; fail)
 refine hlx.out.mono ?_
 rintro e w1 ⟨v, at_, er, rfl, hsg, hb1⟩
 obtain ⟨A, n, c, l, rfl, hnc, hin⟩ := hsg.in_
 have hz1 := hb1.size
 have H := Lib.hid hin
 have hn := hin.2.1
 clear hsg hin
 by_cases her : er = 0
 ·have e0 : (er != 0) = false := by simp [her]
  have hck := Lib.hid (check_any A n c l w1 H.out)
  go_wp2_with (go_at_call 100; fail)
  refine hck.out.mono ?_
  rintro e w2 ⟨⟨i, b, rfl, hi1, hi2⟩, hb2⟩
  have hb02 := hb1.trans (hb2.mono hz1)
  have hz2 := hb2.size
  have HC := Lib.hid hi2
  clear hi2
  by_cases hi : i ≥ 0
  ·obtain ⟨q, rfl⟩ : ∃ q : Nat, i = (q : Int) := ⟨i.toNat, by omega⟩
   have hlt : q < n := by omega
   obtain ⟨g, hg⟩ : ∃ g, l[q]? = some g := ⟨_, List.getElem?_eq_getElem (by have := H.out.len; omega)⟩
   obtain ⟨hok, bb, o, rfl, hb, hcc⟩ := (H.out.below hb2).at_ hg
   have d1 : w2.cell? ⟨bb, o + q * 5 + 1, none⟩ = some (.int .i64 g.at_) := hcc 1 (by omega)
   clear hcc
   have wq : IntKind.i64.wrap (q : Int) = q := IntWalk.i64_in _ (by omega)
   have l0 : (0 : Int) ≤ q := by omega
   have l1 : (q : Int) < n := by omega
   go_wp2
   all_goals go_region
   all_goals go_wp2
   all_goals exact bodyPost_ret (v := .tuple #[.slice none 0 0, .int .i64 g.at_, .int .i64 2]) (by simp [results, Tryz.results49, go_sem]) rfl ⟨_, _, _, rfl, PartsOut.nil_ _ _, belowA⟩
  ·cases b with
   | true =>
     go_wp2
     exact bodyPost_ret (v := .tuple #[.slice none 0 0, .int .i64 s.size, .int .i64 5]) (by simp [results, Tryz.results49, go_sem]) rfl ⟨_, _, _, rfl, PartsOut.nil_ _ _, belowA⟩
   | false =>
     by_cases h0 : n = 0
     ·have e1 : ((n : Int) == 0) = true := by rw [beq_iff_eq]; omega
      clear h0
      go_wp2
      exact bodyPost_ret (v := .tuple #[.slice none 0 0, .int .i64 0, .int .i64 0]) (by simp [results, Tryz.results49, go_sem]) rfl ⟨_, _, _, rfl, PartsOut.nil_ _ _, belowA⟩
     ·have e1 : ((n : Int) == 0) = false := beq_false_of_ne (by omega)
      have hBS : Beside (kinds l) ∧ Seg (kinds l) 0 n := by
       rcases HC.out (by omega) rfl with h | h
       ·exact absurd h h0
       ·exact h
      have hbd := build_all n c A l hBS.1 (n + 1) 0 n (by omega) w2.heap.size 0 0 none [] w2 (Nat.le_refl _) (H.out.ext hb2) hBS.2 (Parts.nil _ _) (by omega)
      have HBD := Lib.hid hbd
      clear hbd hBS
      go_wp2_with (go_at_call 101; fail)
      refine HBD.out.mono ?_
      rintro e w3 ⟨A3, k3, c3, ex, rfl, hp3, hk1, hk2, hw3, -, hg3, -⟩
      have hb3 : Below w2.heap.size w2 w3 := hbelow_gr hg3 (fun g h => by simp [Value.ownBlock] at h) (Nat.le_refl _)
      have hb03 := hb02.trans (hb3.mono hb02.size)
      have hP : PartsOut w (.slice A3 k3 c3) w3 := ⟨k3, _, ⟨own_base hp3.row (by omega), fun i p h => own_base (hp3.own i p h) (by omega), hp3.ok, hp3.s⟩, by omega, by omega⟩
      have HP := Lib.hid hP
      clear hP hp3
      go_wp2
      exact bodyPost_ret (v := .tuple #[.slice A3 k3 c3, .int .i64 0, .int .i64 0]) (by simp [results, Tryz.results49, go_sem]) rfl ⟨_, _, _, rfl, HP.out, hb03⟩
 ·have e0 : (er != 0) = true := by simp [her]
  go_wp2
  exact bodyPost_ret (v := .tuple #[.slice none 0 0, .int .i64 at_, .int .i64 er]) (by simp [results, Tryz.results49, go_sem]) rfl ⟨_, _, _, rfl, PartsOut.nil_ _ _, hb1⟩
end Go.Proofs.YtmacfoebfpljoaaGreat
namespace Go.Proofs.YtmacfoebfpljoaaGreat
open Go.RowKit
section
variable {P : Program} {ops : Array Oper} {Q : Exit → Act → World → Prop}
end
section
variable {P : Program}
/-- append of a slice that reads as a list onto an owned row: at a step of a region that draws -/
theorem app_rd_step {ops : Array Oper} {o : Oper} {a : Act} {K : Act → World → Prop} {Q : Exit → Act → World → Prop} {E : Prop} {t e : TypeId} {z : Value} {size bytes : Nat}
 (ht : P.underlying t = some (.slice e)) (hinfo : (P.info? e).map (fun i => (i.zero, i.size, i.bytes)) = some (some z, size, bytes)) (hzs : z.cells.size = size) (hsz : 0 < size)
 {w : World} (base : Nat) (v : Value) (n : Nat) (xs : List Value) (hown : w.ownsRow base e size v n xs)
 (B : Nat) (A : Option Addr) (m c : Nat) (news : List Value) (hr : Rd w B size A m news) (hA : A = none → m = 0) (h1 : ∀ u ∈ news, u.oneCell' = true)
 (hn : n + m ≤ maxLen) (hby : (n + m) * bytes ≤ 140737488355328) (hb : base ≤ w.heap.size)
 (hgd : o.guard = none) (s x : Operand) (ho : o.op = .call { callee := .builtin .append, args := #[s, x], argTypes := #[t, t] })
 (hs : a.eval s = v) (hx : a.eval x = .slice A m c)
 (h : ∀ v' w', w'.ownsRow base e size v' (n + m) (xs ++ news) → w.grownBy w' v.ownBlock → (v'.ownBlock = v.ownBlock ∨ v'.ownBlock = some w.heap.size) → K (a.put o.dst v') w') :
 if Region.wanted o (yielded ops a.tmps) = true then Oper.wp P o a w K Q else E := by
 have hw : Region.wanted o (yielded ops a.tmps) = true := by simp [Region.wanted, hgd]
 rw [if_pos hw]
 obtain ⟨i0, hi, hz0, hz1, hz2⟩ := info_parts hinfo
 rcases A with _ | ad
 ·obtain rfl := hA rfl
  have hnews : news = [] := List.eq_nil_of_length_eq_zero (by simpa using hr.1)
  subst hnews
  unfold Oper.wp execOp
  simp only [ho, resolve, invoke, builtin, Sem.run_bind, Sem.run_pure, Result.andThen_ok, List.map_toArray, List.map_cons, List.map_nil, hs, hx, run_append_of_nil w base t o.type e i0 size ht hi v n xs hown c]
  exact h v w (by simpa using hown) (World.grownBy.refl w _) (.inl rfl)
 ·have hnews : ∀ j u, news[j]? = some u → w.cell? (ad.add j) = some u := by
   intro j u hu
   rcases Nat.eq_zero_or_pos m with h0 | h0
   ·subst h0
    have hnews : news = [] := List.eq_nil_of_length_eq_zero (by simpa using hr.1)
    subst hnews
    simp at hu
   ·obtain ⟨b, o', e', _, hc⟩ := hr.2 h0
    injection e' with e'
    subst e'
    rw [add_flat]
    exact hc j u hu
  obtain ⟨v', w', hrun, h2, h3, _, h5⟩ := run_append_own_at (P := P) w base t o.type e i0 z size bytes ht hi hz0 hz1 hz2 hzs hsz v n xs hown ad m c news hr.1 hnews h1 hn hby hb
  unfold Oper.wp execOp
  simp only [ho, resolve, invoke, builtin, Sem.run_bind, Sem.run_pure, Result.andThen_ok, List.map_toArray, List.map_cons, List.map_nil, hs, hx, hrun]
  exact h v' w' h2 h3 h5
end
/-- the four steps: an empty row (s), all elements onto it (t), one element laid by itself (u), it onto the row (v) -/
structure Chain (B : Nat) (e : TypeId) (n : Nat) (xs : List Value) (x : Value) (l0 l3 l5 l6 : Bool) (s t u v : Value) (w : World) : Prop where
 h0 : l0 = true → l3 = false → w.ownsRow B e 1 s 0 []
 h3 : l3 = true → l6 = false → w.ownsRow B e 1 t n xs
 h5 : l5 = true → l6 = false → ∃ b, u = .slice (some ⟨b, 0, none⟩) 1 1 ∧ Bk w b e #[x] ∧ (l0 = true → l3 = false → s.ownBlock ≠ some b) ∧ (l3 = true → t.ownBlock ≠ some b)
 h6 : l6 = true → w.ownsRow B e 1 v (n + 1) (xs ++ [x])
section
variable {B : Nat} {e : TypeId} {n : Nat} {xs : List Value} {x : Value} {l0 l3 l5 l6 : Bool} {s t u v : Value} {w w' : World}
theorem Chain.start (B : Nat) (e : TypeId) (n : Nat) (xs : List Value) (x s t u v : Value) (w : World) : Chain B e n xs x false false false false s t u v w := ⟨by simp, by simp, by simp, by simp⟩
/-- whatever keeps the blocks of this type -/
theorem Chain.keep (h : Chain B e n xs x l0 l3 l5 l6 s t u v w) (hk : ∀ j cs, Bk w j e cs → w'.heap[j]? = w.heap[j]?) : Chain B e n xs x l0 l3 l5 l6 s t u v w' := by
 have ok : ∀ {v : Value} {n : Nat} {xs : List Value}, w.ownsRow B e 1 v n xs → w'.ownsRow B e 1 v n xs := fun h => by
  obtain ⟨h1, h2⟩ := h
  refine ⟨h1, ?_⟩
  rcases h2 with h2 | ⟨g, cap, cur, rfl, hg, hh, r⟩
  ·exact .inl h2
  ·exact .inr ⟨g, cap, cur, rfl, hg, (hk g cur hh).trans hh, r⟩
 refine ⟨fun a b => ok (h.h0 a b), fun a b => ok (h.h3 a b), fun a b => ?_, fun a => ok (h.h6 a)⟩
 obtain ⟨b, h1, h2, h3⟩ := h.h5 a b
 exact ⟨b, h1, (hk b _ h2).trans h2, h3⟩
theorem Chain.alloc (h : Chain B e n xs x l0 l3 l5 l6 s t u v w) (o : Obj) : Chain B e n xs x l0 l3 l5 l6 s t u v (w.alloc o) := h.keep fun j _ hj => Below.heap_alloc w o j (def_lt' hj)
theorem Chain.set_ (h : Chain B e n xs x l0 l3 l5 l6 s t u v w) {p : Addr} {t' : TypeId} {ds : Array Value} (hp : Bk w p.block t' ds) (hne : e ≠ t') (c : Value) : Chain B e n xs x l0 l3 l5 l6 s t u v (w.setCell p c) := by
 refine h.keep fun j cs hj => Below.heap_setCell w p c j ?_
 rintro rfl
 have h1 : w.heap[p.block]? = some (.cells cs e (0, 0)) := hj
 have h2 : w.heap[p.block]? = some (.cells ds t' (0, 0)) := hp
 rw [h1] at h2
 injection h2 with h2
 injection h2 with _ h2
 exact hne h2
/-- another row, of another type, is appended to -/
theorem Chain.grown (h : Chain B e n xs x l0 l3 l5 l6 s t u v w) {e' : TypeId} {size k : Nat} {r : Value} {ys : List Value} (hr : w.ownsRow B e' size r k ys) (hg : w.grownBy w' r.ownBlock) (hne : e' ≠ e) : Chain B e n xs x l0 l3 l5 l6 s t u v w' :=
 h.keep fun j _ hj => hg.block j (def_lt' hj) (fun e1 => own_ne hr hj hne e1.symm)
end
end Go.Proofs.YtmacfoebfpljoaaGreat
namespace Go.Proofs.YtmacfoebfpljoaaGreat
open Go.RowKit
set_option linter.unusedVariables false
theorem Parts.at_ {w : World} {base n c i : Nat} {A : Option Addr} {l : List Pt} {p : Pt} (h : Parts w base (.slice A n c) n l) (hi : l[i]? = some p) : ∃ b o, A = some ⟨b, o, none⟩ ∧ b < w.heap.size ∧ ∀ j, j < 5 → w.cell? ⟨b, o + i * 5 + j, none⟩ = p.cells[j]? := by
 obtain ⟨A', c', e, -, -, -, r⟩ := own_form h.row
 injection e with e1 e2 e3
 subst e1
 exact Rd.el Pt.cells (fun _ => rfl) r h.len hi
theorem Parts.base_ {w : World} {base base' k : Nat} {v : Value} {l : List Pt} (h : Parts w base v k l) (hb : base' ≤ base) : Parts w base' v k l :=
 ⟨own_base h.row hb, fun i p hp => own_base (h.own i p hp) hb, h.ok, h.s⟩
theorem kw_take {l : List Pt} {ks : List Nat} {q x : Nat} (h : ks[q]? = some x) : kw l (ks.take (q + 1)) = kw l (ks.take q) + (wt l x + 1) := by
 rw [List.take_add_one, h, Option.toList_some, kw_snoc]
theorem own_drew {w : World} {base : Nat} {e : TypeId} {size : Nat} {v : Value} {n : Nat} {xs : List Value} (h : w.ownsRow base e size v n xs) : w.drew.ownsRow base e size v n xs := h
theorem kw_cat (l : List Pt) (a b : List Nat) : kw l (a ++ b) = kw l a + kw l b := by simp [kw]
theorem kw_take_le {l : List Pt} {ks : List Nat} (q : Nat) : kw l (ks.take q) ≤ kw l ks := by
 have e := kw_cat l (ks.take q) (ks.drop q)
 rw [List.take_append_drop] at e
 omega
theorem block_lt_of {w : World} {a : Addr} {v : Value} (h : w.cell? a = some v) : a.block < w.heap.size := by
 unfold World.cell? at h
 rcases Nat.lt_or_ge a.block w.heap.size with hlt | hge
 ·exact hlt
 ·rw [Array.getElem?_eq_none hge] at h; simp at h
def SigsOut (m : Nat) (w : World) (e : Ending) (w' : World) : Prop := ∃ (v : Value) (n : Nat) (l : List Sg), e = .returned v ∧ w'.ownsRow w.heap.size 189 5 v n (sgs l) ∧ n ≤ m ∧ (∀ g ∈ l, g.Fine) ∧ Below w.heap.size w w'
def SignsAny (n c : Nat) (A : Option Addr) (l : List Pt) (i : Nat) : Prop := ∀ (base : Nat) (b : Bool) (w : World), Parts w base (.slice A n c) n l → i < n → n ≤ 1000 → wt l i ≤ 1700 → Calls Tryz.prog 219 #[.slice A n c, .int .i64 i, .bool b] w (SigsOut (wt l i) w)
theorem sg_ok (k a lo hi : Int) (nm : ByteArray) (h1 : 1 ≤ k) (h2 : k ≤ 5) (h3 : nm.size ≤ 12) (h4 : 0 ≤ lo) (h5 : lo ≤ 20) (h6 : -1 ≤ hi) (h7 : hi ≤ 20) : (⟨k, a, lo, hi, nm⟩ : Sg).Fine := ⟨h1, h2, h3, h4, h5, h6, h7⟩
theorem ok_snoc {l : List Sg} {g : Sg} (h : ∀ x ∈ l, x.Fine) (hg : g.Fine) : ∀ x ∈ l ++ [g], x.Fine := by
 intro x hx
 rcases List.mem_append.1 hx with hx | hx
 ·exact h x hx
 ·simp at hx; subst hx; exact hg
theorem sgs_one_cell (l : List Sg) : ∀ u ∈ sgs l, u.oneCell' = true := by
 intro u hu
 unfold sgs at hu
 obtain ⟨g, -, h⟩ := List.mem_flatMap.1 hu
 simp only [Sg.cells, List.mem_cons, List.not_mem_nil, or_false] at h
 rcases h with rfl | rfl | rfl | rfl | rfl <;> rfl
theorem signs_step (n c : Nat) (A : Option Addr) (l : List Pt) (i : Nat) (ih : ∀ i', i' < i → SignsAny n c A l i') : SignsAny n c A l i := by
 intro base b w hp hi hn hw
 obtain ⟨p, hpi⟩ : ∃ p, l[i]? = some p := ⟨_, List.getElem?_eq_getElem (by rw [hp.len]; exact hi)⟩
 have hok := hp.ok i p hpi
 have hks := hp.s i p hpi
 have hwt : wt l i = p.s := by unfold wt; rw [hpi]
 have hkown := hp.own i p hpi
 have hkl : p.ks.length = p.m := by have := hkown.1; simpa [nts] using this
 obtain ⟨ab, ao, rfl, hab, hcc⟩ := hp.at_ hpi
 have c0 : w.cell? ⟨ab, ao + i * 5, none⟩ = some (.int .i64 p.k) := hcc 0 (by omega)
 have c1 : w.cell? ⟨ab, ao + i * 5 + 1, none⟩ = some (.int .i64 p.lo) := hcc 1 (by omega)
 have c2 : w.cell? ⟨ab, ao + i * 5 + 2, none⟩ = some (.int .i64 p.hi) := hcc 2 (by omega)
 have c3 : w.cell? ⟨ab, ao + i * 5 + 3, none⟩ = some (.string p.nm) := hcc 3 (by omega)
 have c4 : w.cell? ⟨ab, ao + i * 5 + 4, none⟩ = some (.slice p.A p.m p.c) := hcc 4 (by omega)
 rw [hwt] at hw ⊢
 obtain ⟨pk, plo, phi, pnm, pA, pm, pc, pks, ps⟩ := p
 obtain ⟨⟨k1, k2⟩, ⟨lo1, lo2⟩, ⟨hi1, hi2⟩, nm1, -, -, m1, kid1⟩ := hok
 dsimp only at *
 have HP := Lib.hid hp
 have HKO := Lib.hid hkown
 have HKL := Lib.hid hkl
 have HKS := Lib.hid hks
 have HKID := Lib.hid kid1
 have IH := Lib.hid ih
 have i0 : (0 : Int) ≤ i := by omega
 have i1 : (i : Int) < n := by omega
 clear hp hkown hkl hks kid1 ih hcc hpi hwt
 go_enter Tryz.func219, Tryz.ntmps219
 go_upto_region 3 with fail
 have kp := Bk.new w 192 #[.int .i64 pk, .int .i64 plo, .int .i64 phi, .string pnm, .slice pA pm pc]
 have hb0 : Below w.heap.size w (w.alloc (.cells #[.int .i64 pk, .int .i64 plo, .int .i64 phi, .string pnm, .slice pA pm pc] 192)) := belowA
 generalize w.alloc (.cells #[.int .i64 pk, .int .i64 plo, .int .i64 phi, .string pnm, .slice pA pm pc] 192) = w0 at *
 clear c0 c1 c2 c3 c4
 go_upto_if 15 with fail
 go_cut [7] (fun v wx => ∃ (z : Nat) (ls : List Sg), z ≤ 1 ∧ Hid ((∀ g ∈ ls, g.Fine) ∧ wx.ownsRow w.heap.size 189 5 v z (sgs ls)) ∧ Below w.heap.size w wx ∧ Bk wx w.heap.size 192 #[.int .i64 pk, .int .i64 plo, .int .i64 phi, .string pnm, .slice pA pm pc])
 case first =>
  have hz0 := hb0.size
  have hl0 := def_lt' kp
  cases b with
  | false =>
    go_wp2
    go_meet
    exact ⟨0, [], by omega, Lib.hid ⟨(fun g h => by cases h), World.ownsRow_nil _ _ _ _⟩, hb0, kp⟩
  | true =>
    have hown0 : w0.ownsRow w.heap.size 189 5 (.slice none 0 0) 0 (sgs []) := World.ownsRow_nil _ _ _ _
    go_wp2_with (at_builtin; ((refine app_one Tryz.underlying184 info_sg rfl (by decide) w0 w.heap.size _ 0 _ hown0 (by unfold maxLen; omega) (by omega) (by omega) _ rfl (by simp [Value.oneCell']) rfl _ _ rfl rfl rfl ?_); intro g4 cap4 w4 hown4 hgr4 hat4 hlt4))
    go_meet
    exact ⟨1, [⟨2, 0, 0, 0, { data := #[] }⟩], by omega, Lib.hid ⟨ok_snoc (l := []) (fun g h => by cases h) (sg_ok 2 0 0 0 ({ data := #[] }) (by omega) (by omega) (by rw [sz0]; omega) (by omega) (by omega) (by omega) (by omega)), hown4⟩, below_own hb0 hown0 hgr4 hz0 (Nat.le_refl _), kp.grown hgr4 (fun e => by simp [Value.ownBlock] at e)⟩
 case rest =>
 obtain ⟨z, ls, hz1, hO, hb1, kp1⟩ := hcut
 clear hb0 kp
 obtain ⟨A1, c1, rfl, -, -, -, -⟩ := own_form hO.out.2
 have q0 := kp1.cell 0; have q1 := kp1.cell 1; have q2 := kp1.cell 2; have q3 := kp1.cell 3; have q4 := kp1.cell 4
 dsimp at q0 q1 q2 q3 q4
 go_upto_if 22 with fail
 go_cut [7] (fun v wx => ∃ (z : Nat) (ls : List Sg), z ≤ 2 ∧ (pk ≠ 1 → z ≤ 1) ∧ Hid ((∀ g ∈ ls, g.Fine) ∧ wx.ownsRow w.heap.size 189 5 v z (sgs ls)) ∧ Below w.heap.size w wx ∧ Bk wx w.heap.size 192 #[.int .i64 pk, .int .i64 plo, .int .i64 phi, .string pnm, .slice pA pm pc])
 case first =>
  have hzz := hb1.size
  by_cases hk1 : pk = 1
  ·have e1 : (pk == 1) = true := by simp [hk1]
   have HK1 := Lib.hid hk1
   clear hk1
   go_wp2_with (at_builtin; ((refine app_one Tryz.underlying184 info_sg rfl (by decide) _ w.heap.size _ z _ hO.out.2 (by unfold maxLen; omega) (by omega) (by omega) _ rfl (by simp [Value.oneCell']) rfl _ _ rfl rfl rfl ?_); intro g4 cap4 w4 hown4 hgr4 hat4 hlt4))
   go_meet
   exact ⟨z + 1, ls ++ [⟨1, 0, 0, 0, pnm⟩], by omega, fun h => absurd HK1.out h, Lib.hid ⟨ok_snoc hO.out.1 (sg_ok 1 0 0 0 pnm (by omega) (by omega) nm1 (by omega) (by omega) (by omega) (by omega)), by rw [sgs_append]; exact hown4⟩, below_own hb1 hO.out.2 hgr4 hzz (Nat.le_refl _), kp1.grown hgr4 (own_ne hO.out.2 kp1 (by decide))⟩
  ·have e1 : (pk == 1) = false := beq_false_of_ne hk1
   go_wp2
   go_meet
   exact ⟨z, ls, by omega, fun _ => hz1, hO, hb1, kp1⟩
 case rest =>
 obtain ⟨z2, ls2, hz2, hz3, hO2, hb2, kp2⟩ := hcut
 clear hb1 kp1 hO q0 q1 q2 q3 q4
 go_wp2
 go_loopw [7, 9] (fun v j wr => ∃ (q z : Nat) (ls : List Sg), q ≤ pm ∧ j = .int .i64 q ∧ z ≤ 2 + kw l (pks.take q) ∧ (pk ≠ 1 → z ≤ 1 + kw l (pks.take q)) ∧ Hid ((∀ g ∈ ls, g.Fine) ∧ wr.ownsRow w.heap.size 189 5 v z (sgs ls)) ∧ Below w.heap.size w wr ∧ Bk wr w.heap.size 192 #[.int .i64 pk, .int .i64 plo, .int .i64 phi, .string pnm, .slice pA pm pc]) (fun _ j _ => pm - (intOf j).toNat)
 case atStart => exact ⟨0, z2, ls2, by omega, rfl, by omega, fun h => by have := hz3 h; omega, hO2, hb2, kp2⟩
 case round =>
  clear hO2 hb2 kp2 hz2 hz3
  obtain ⟨q, z, ls, hq, rfl, hz, hz', hO, hbr, kpr⟩ := hrel
  have hzz := hbr.size
  have hkwl := kw_take_le (l := l) (ks := pks) q
  have hksb := HKS.out
  obtain ⟨A1, c1, rfl, -, -, -, -⟩ := own_form hO.out.2
  have q0 := kpr.cell 0; have q1 := kpr.cell 1; have q2 := kpr.cell 2; have q3 := kpr.cell 3; have q4 := kpr.cell 4
  dsimp at q0 q1 q2 q3 q4
  by_cases hlt : q < pm
  ·have e3 : (q : Int) < pm := by omega
   obtain ⟨x, hx⟩ : ∃ x, pks[q]? = some x := ⟨_, List.getElem?_eq_getElem (by rw [HKL.out]; exact hlt)⟩
   have hxi := HKID.out x (List.mem_of_getElem? hx)
   have hkx := kw_take (l := l) hx
   have hkwl2 := kw_take_le (l := l) (ks := pks) (q + 1)
   obtain ⟨kb, ko, rfl, hkc⟩ := nts_cell (own_below HKO.out hbr) (show 0 < pm by omega)
   have hk0 := hkc q x hx
   obtain ⟨r, hr⟩ : ∃ r, l[x]? = some r := ⟨_, List.getElem?_eq_getElem (by rw [HP.out.len]; omega)⟩
   have hrk := (HP.out.ok x r hr).k
   obtain ⟨rb, ro, hA, -, hrc⟩ := (HP.out.below hbr).at_ hr
   obtain ⟨rfl, rfl⟩ : ab = rb ∧ ao = ro := by simpa using hA
   have hr0 : wr.cell? ⟨ab, ao + x * 5, none⟩ = some (.int .i64 r.k) := hrc 0 (by omega)
   have x0 : (0 : Int) ≤ x := by omega
   have x1 : (x : Int) < n := by omega
   have xq0 : (0 : Int) ≤ q := by omega
   have hkb := block_lt_of hk0
   have hkf : ∀ W, Below w.heap.size w W → W.cell? ⟨kb, ko + q, none⟩ = some (.int .i64 (x : Int)) := fun W hW => by
    obtain ⟨kb', ko', e, hkc'⟩ := nts_cell (own_below HKO.out hW) (show 0 < pm by omega)
    obtain ⟨rfl, rfl⟩ : kb = kb' ∧ ko = ko' := by simpa using e
    exact hkc' q x hx
   have hWX := Lib.hid (show wt l x + 1 ≤ kw l pks by omega)
   have hih := fun bb W (hW : Below w.heap.size w W) => IH.out x hxi base bb W (HP.out.below hW) (by omega) hn (by omega)
   have HIH := Lib.hid hih
   have HKX := Lib.hid hkx
   have HWL := Lib.hid hkwl2
   generalize r.k = kk at *
   clear hx hkc hr hrc hA hih hkx hkwl2
   go_upto_region 11 with fail
   go_cut [51] (fun v wx => ∃ bb : Bool, v = .bool bb ∧ wx = wr)
   case first =>
    by_cases hp3 : pk = 3
    ·have e4 : (pk == 3) = true := by simp [hp3]
     clear hp3
     go_wp2
     go_meet
     exact ⟨_, rfl, rfl⟩
    ·have e4 : (pk == 3) = false := beq_false_of_ne hp3
     go_wp2
     go_meet
     exact ⟨_, rfl, rfl⟩
   case rest =>
   obtain ⟨bb, rfl, rfl⟩ := hcut
   go_upto_if 51 with fail
   go_cut [7] (fun v wx => ∃ (z5 : Nat) (ls5 : List Sg), z5 ≤ z + 1 ∧ Hid ((∀ g ∈ ls5, g.Fine) ∧ wx.ownsRow w.heap.size 189 5 v z5 (sgs ls5)) ∧ Below w.heap.size w wx ∧ Bk wx w.heap.size 192 #[.int .i64 pk, .int .i64 plo, .int .i64 phi, .string pnm, .slice (some ⟨kb, ko, none⟩) pm pc])
   case first =>
    cases bb with
    | true =>
      go_wp2_with (at_builtin; ((refine app_one Tryz.underlying184 info_sg rfl (by decide) _ w.heap.size _ z _ hO.out.2 (by unfold maxLen; omega) (by omega) (by omega) _ rfl (by simp [Value.oneCell']) rfl _ _ rfl rfl rfl ?_); intro g4 cap4 w4 hown4 hgr4 hat4 hlt4))
      go_meet
      exact ⟨z + 1, ls ++ [⟨4, 0, 0, 0, { data := #[] }⟩], by omega, Lib.hid ⟨ok_snoc hO.out.1 (sg_ok 4 0 0 0 ({ data := #[] }) (by omega) (by omega) (by rw [sz0]; omega) (by omega) (by omega) (by omega) (by omega)), by rw [sgs_append]; exact hown4⟩, below_own hbr hO.out.2 hgr4 hzz (Nat.le_refl _), kpr.grown hgr4 (own_ne hO.out.2 kpr (by decide))⟩
    | false =>
      go_wp2
      go_meet
      exact ⟨z, ls, by omega, hO, hbr, kpr⟩
   case rest =>
   obtain ⟨z5, ls5, hz5, hO5, hb5, kp5⟩ := hcut
   obtain ⟨A5, c5, rfl, -, -, -, -⟩ := own_form hO5.out.2
   have hzz5 := hb5.size
   have hF : ∀ W, (Below w.heap.size w W ∧ Bk W w.heap.size 192 #[.int .i64 pk, .int .i64 plo, .int .i64 phi, .string pnm, .slice (some ⟨kb, ko, none⟩) pm pc]) → W.cell? ⟨w.heap.size, 0, none⟩ = some (.int .i64 pk) ∧ W.cell? ⟨w.heap.size, 4, none⟩ = some (.slice (some ⟨kb, ko, none⟩) pm pc) ∧ W.cell? ⟨kb, ko + q, none⟩ = some (.int .i64 (x : Int)) := fun W h => ⟨h.2.cell 0, h.2.cell 4, hkf W h.1⟩
   have HF := Lib.hid hF
   clear hF hkf q0 q1 q2 q3 q4 hk0 hr0 hO kpr hbr
   have hcase : ((kk == 3) = true) ∨ ((kk == 3) = false ∧ (kk == 2) = true ∧ (pk != 3) = true) ∨ ((kk == 3) = false ∧ (kk == 2) = true ∧ (pk != 3) = false ∧ (kk == 4) = false) ∨ ((kk == 3) = false ∧ (kk == 2) = false ∧ (kk == 4) = true) ∨ ((kk == 3) = false ∧ (kk == 2) = false ∧ (kk == 4) = false) := by
    simp only [beq_iff_eq, beq_eq_false_iff_ne, bne_iff_ne, bne_eq_false_iff_eq]
    omega
   go_upto_region 13 with fail
   rcases hcase with f1 | ⟨f1, f2, f3⟩ | ⟨f1, f2, f3, f4⟩ | ⟨f1, f2, f4⟩ | ⟨f1, f2, f4⟩
   all_goals
    refine wp_normal ?_
    refine wp_region_held_drew (S := fun W => Below w.heap.size w W ∧ Bk W w.heap.size 192 #[.int .i64 pk, .int .i64 plo, .int .i64 phi, .string pnm, .slice (some ⟨kb, ko, none⟩) pm pc]) (by kernel_rfl) ⟨hb5.drew, kp5.drew⟩ (fun hHeld => ?_)
    (refine tkH 0 ?_; refine tkH 1 ?_; refine tkH 2 ?_; refine tkH 3 ?_; refine tkH 4 ?_; refine tkH 5 ?_; refine tkH 6 ?_; refine tkH 7 ?_; refine tkH 8 ?_; refine tkH 9 ?_)
    (first | refine tkH 10 ?_ | refine tnH 10 ?_); (first | refine tkH 11 ?_ | refine tnH 11 ?_); (first | refine tkH 12 ?_ | refine tnH 12 ?_); (first | refine tkH 13 ?_ | refine tnH 13 ?_); (first | refine tkH 14 ?_ | refine tnH 14 ?_); (first | refine tkH 15 ?_ | refine tnH 15 ?_); (first | refine tkH 16 ?_ | refine tnH 16 ?_); (first | refine tkH 17 ?_ | refine tnH 17 ?_); (first | refine tkH 18 ?_ | refine tnH 18 ?_); (first | refine tkH 19 ?_ | refine tnH 19 ?_); (first | refine tkH 20 ?_ | refine tnH 20 ?_); (first | refine tkH 21 ?_ | refine tnH 21 ?_); (first | refine tkH 22 ?_ | refine tnH 22 ?_); (first | refine tkH 23 ?_ | refine tnH 23 ?_); (first | refine tkH 24 ?_ | refine tnH 24 ?_); (first | refine tkH 25 ?_ | refine tnH 25 ?_); (first | refine tkH 26 ?_ | refine tnH 26 ?_)
    refine nxH 27 (fun K hK => ?_)
    go_simp
    go_at_call 219
    refine (HIH.out _ _ hHeld.1).mono ?_
    rintro e w6 ⟨v6, z6, l6, rfl, ho6, hz6, hok6, hb6⟩
    obtain ⟨A6, c6, rfl, -, -, hA6, hr6⟩ := own_form ho6
    have hb06 : Below w.heap.size w w6 := hHeld.1.trans (hb6.mono hHeld.1.size)
    have kp6 := hHeld.2.ext hb6
    have hown6 : w6.ownsRow w.heap.size 189 5 (.slice A5 z5 c5) z5 (sgs ls5) := own_below (own_drew hO5.out.2) hb6
    have hwx := hWX.out
    have hzz6 := hb06.size
    refine hK.out _ _ ⟨hb06, kp6⟩ (fun hHeld => ?_)
    clear hK K; (try simp only [Act.put, List.setIfInBounds_toArray, List.set_cons_zero, List.set_cons_succ])
    refine nxH 28 (fun K hK => ?_)
    refine app_rd_step Tryz.underlying184 info_sg rfl (by decide) w.heap.size _ z5 (sgs ls5) hown6 w6.heap.size A6 z6 c6 (sgs l6) hr6 (fun h => (hA6 h).1) (sgs_one_cell _) (by unfold maxLen; omega) (by omega) hzz6 rfl _ _ rfl rfl rfl ?_
    intro v7 w7 hown7 hgr7 hat7
    have hb7 := below_own hb06 hown6 hgr7 hzz6 (Nat.le_refl _)
    have kp7 := kp6.grown hgr7 (own_ne hown6 kp6 (by decide))
    refine hK.out _ _ ⟨hb7, kp7⟩ (fun hHeld => ?_)
    clear hK K; (try simp only [Act.put, List.setIfInBounds_toArray, List.set_cons_zero, List.set_cons_succ])
    (refine tkH 29 ?_)
    refine wpAnyH_done (by kernel_rfl) ?_ _
    go_wp2
    go_roundw
    case rel => exact ⟨q + 1, z5 + z6, ls5 ++ l6, by omega, by go_num, by rw [HKX.out]; omega, fun h => by (rw [HKX.out]; have := hz' h; omega), Lib.hid ⟨fun g hg => by rcases List.mem_append.1 hg with hg | hg; (· exact hO5.out.1 g hg); (· exact hok6 g hg), by rw [sgs_append]; exact hown7⟩, hb7, kp7⟩
    case measure => simp [intOf]; omega
  ·obtain rfl : pm = q := by omega
   have hend : z ≤ 2 + kw l pks ∧ (pk ≠ 1 → z ≤ 1 + kw l pks) := by
    rw [List.take_of_length_le (by rw [HKL.out]; exact Nat.le_refl _)] at hz hz'
    exact ⟨hz, hz'⟩
   obtain ⟨hE1, hE2⟩ := hend
   clear hz hz' hkwl
   go_upto_if 87 with fail
   go_cut [7] (fun v wx => ∃ (z5 : Nat) (ls5 : List Sg), z5 ≤ 2 + kw l pks ∧ Hid ((∀ g ∈ ls5, g.Fine) ∧ wx.ownsRow w.heap.size 189 5 v z5 (sgs ls5)) ∧ Below w.heap.size w wx ∧ Bk wx w.heap.size 192 #[.int .i64 pk, .int .i64 plo, .int .i64 phi, .string pnm, .slice pA pm pc])
   case first =>
    by_cases hp4 : pk = 4
    ·have e4 : (pk == 4) = true := by simp [hp4]
     have HG := Lib.hid (hE2 (by omega))
     have hE := HG.out
     clear hp4
     go_wp2_with (at_builtin; ((refine app_one Tryz.underlying184 info_sg rfl (by decide) wr w.heap.size _ z _ hO.out.2 (by unfold maxLen; omega) (by omega) (by omega) _ rfl (by simp [Value.oneCell']) rfl _ _ rfl rfl rfl ?_); intro g4 cap4 w4 hown4 hgr4 hat4 hlt4))
     go_meet
     exact ⟨z + 1, ls ++ [⟨5, 0, plo, phi, { data := #[] }⟩], by omega, Lib.hid ⟨ok_snoc hO.out.1 (sg_ok 5 0 plo phi ({ data := #[] }) (by omega) (by omega) (by rw [sz0]; omega) (by omega) (by omega) (by omega) (by omega)), by rw [sgs_append]; exact hown4⟩, below_own hbr hO.out.2 hgr4 hzz (Nat.le_refl _), kpr.grown hgr4 (own_ne hO.out.2 kpr (by decide))⟩
    ·have e4 : (pk == 4) = false := beq_false_of_ne hp4
     go_wp2
     go_meet
     exact ⟨z, ls, hE1, hO, hbr, kpr⟩
   case rest =>
   obtain ⟨z5, ls5, hz5, hO5, hb5, kp5⟩ := hcut
   obtain ⟨A5, c5, rfl, -, -, -, -⟩ := own_form hO5.out.2
   have hzz5 := hb5.size
   cases b with
   | false =>
     go_wp2
     exact bodyPost_ret (v := .slice A5 z5 c5) (by simp [results, Tryz.results219, go_sem]) rfl ⟨_, z5, ls5, rfl, hO5.out.2, by omega, hO5.out.1, hb5⟩
   | true =>
     go_wp2_with (at_builtin; ((refine app_one Tryz.underlying184 info_sg rfl (by decide) _ w.heap.size _ z5 _ hO5.out.2 (by unfold maxLen; omega) (by omega) (by omega) _ rfl (by simp [Value.oneCell']) rfl _ _ rfl rfl rfl ?_); intro g4 cap4 w4 hown4 hgr4 hat4 hlt4))
     exact bodyPost_ret (v := .slice (some ⟨g4, 0, none⟩) (z5 + 1) cap4) (by simp [results, Tryz.results219, go_sem]) rfl ⟨_, z5 + 1, ls5 ++ [⟨3, 0, 0, 0, { data := #[] }⟩], rfl, by rw [sgs_append]; exact hown4, by omega, ok_snoc hO5.out.1 (sg_ok 3 0 0 0 ({ data := #[] }) (by omega) (by omega) (by rw [sz0]; omega) (by omega) (by omega) (by omega) (by omega)), below_own hb5 hO5.out.2 hgr4 hzz5 (Nat.le_refl _)⟩
theorem signs_all (n c : Nat) (A : Option Addr) (l : List Pt) (m : Nat) : ∀ i, i < m → SignsAny n c A l i := by
 induction m with
 | zero => intro i h; omega
 | succ m ih => intro i h; exact signs_step n c A l i (fun i' h' => ih i' (by omega))
theorem show6_any (n c base : Nat) (A : Option Addr) (l : List Pt) (w : World) (hp : Parts w base (.slice A n c) n l) (h0 : 0 < n) (hn : n ≤ 1000) (hw : wt l (n - 1) ≤ 1600) : Calls Tryz.prog 189 #[.slice A n c] w (StrOut 102400 w) := by
 obtain ⟨r, rfl⟩ : ∃ r, n = r + 1 := ⟨n - 1, by omega⟩
 rw [Nat.add_sub_cancel] at hw
 have hs := Lib.hid (signs_all (r + 1) c A l (r + 1) r (by omega) base false w hp (by omega) hn (by omega))
 clear hp
 go_enter Tryz.func189, Tryz.ntmps189
 go_wp2_with (go_at_call 219; fail)
 refine hs.out.mono ?_
 rintro e w1 ⟨v, z, ls, rfl, ho, hz, hok, hb1⟩
 obtain ⟨A1, c1, rfl, -, -, -, r1⟩ := own_form ho
 have hs5 := Lib.hid (show5_any A1 z c1 ls w1 r1 hok (by omega))
 clear r1 ho hok
 go_wp2_with (go_at_call 218; fail)
 refine hs5.out.mono ?_
 rintro e w2 ⟨s, rfl, hs, hb2⟩
 go_wp2
 go_ret
 exact ⟨s, rfl, by omega, hb1.trans (hb2.mono hb1.size)⟩
def ListOut (m : Nat) (w : World) (e : Ending) (w' : World) : Prop := ∃ (a : Bool) (v : Value) (b : Bool), e = .returned (.tuple #[.bool a, v, .bool b]) ∧ Texts w m v w' ∧ Below w.heap.size w w'
theorem list10_any (s : ByteArray) (w : World) (hs : s.size ≤ 1000000) : Calls Tryz.prog 187 #[.string s] w (ListOut (s.size + 1) w) := by
 by_cases hst : (s.toList == [42]) = true
 ·go_enter Tryz.func187, Tryz.ntmps187
  go_wp2
  exact bodyPost_ret (v := .tuple #[.bool true, .slice none 0 0, .bool true]) (by simp [results, Tryz.results187, go_sem]) rfl ⟨_, _, _, rfl, Texts.nil_ _ _ _, belowA⟩
 replace hst : (s.toList == [42]) = false := by simpa using hst
 go_enter Tryz.func187, Tryz.ntmps187
 go_wp2
 go_loopw [5, 6, 7] (fun v f j wr => ∃ (k m n : Nat) (l : List ByteArray), k ≤ s.size + 1 ∧ m ≤ k ∧ f = .int .i64 m ∧ j = .int .i64 k ∧ Hid (szs l ≤ m) ∧ Hid (wr.ownsRow w.heap.size 9 1 v n (strs l)) ∧ Below w.heap.size w wr) (fun _ _ j _ => s.size + 1 - (intOf j).toNat)
 case atStart => exact ⟨0, 0, 0, [], by omega, by omega, rfl, rfl, Lib.hid (by simp [szs]), Lib.hid (World.ownsRow_nil _ _ _ _), Below.refl _ _⟩
 case round =>
  obtain ⟨k, m, n, l, hk, hm, rfl, rfl, hI, hown, hbr⟩ := hrel
  have hn : n ≤ 1000001 := by have h1 := hown.out.1; have h2 := szs_len l; have h3 := hI.out; simp only [strs, List.length_map] at h1; omega
  have hz := hbr.size
  obtain ⟨A, c, rfl, -, -, -, r⟩ := own_form hown.out
  by_cases hkn : k ≤ s.size
  ·have e3 : (k : Int) ≤ s.size := by omega
   have hcl : (s.extract m k).size = k - m := by rw [ByteArray.size_extract]; omega
   have HCL := Lib.hid hcl
   have HR := Lib.hid r
   clear hcl r
   have hB : (∃ h : k < s.size, ((s[k].toNat : Int) != 44) = true) ∨ ((∃ h : k < s.size, ((s[k].toNat : Int) != 44) = false) ∨ k = s.size) := by
    by_cases h : k < s.size
    ·cases h2 : ((s[k].toNat : Int) != 44) with
     | true => exact .inl ⟨h, h2⟩
     | false => exact .inr (.inl ⟨h, h2⟩)
    ·exact .inr (.inr (by omega))
   rcases hB with ⟨hlt, hc⟩ | hB
   ·have e4 : (k : Int) < s.size := by omega
    go_wp2
    go_roundw
    case rel => exact ⟨k + 1, m, n, l, by omega, by omega, rfl, by go_num, hI, hown, hbr⟩
    case measure => simp [intOf]; omega
   rcases hB with ⟨hlt, hc⟩ | hk2
   case' inl => have e4 : (k : Int) < s.size := by omega
   case' inr =>
    have e4 : ¬ (k : Int) < s.size := by omega
    clear hk2
   all_goals
    go_wp2_with (go_at_call 145; fail)
    refine (name_any _ _ (by have := HCL.out; unfold maxLen; omega)).mono ?_
    rintro e w1 ⟨⟨nb, rfl⟩, hb1⟩
    have hb01 := hbr.trans (hb1.mono hz)
    have hown1 := own_below hown.out hb1
    cases nb
    case' false =>
     go_wp2
     exact bodyPost_ret (v := .tuple #[.bool false, .slice none 0 0, .bool false]) (by simp [results, Tryz.results187, go_sem]) rfl ⟨_, _, _, rfl, Texts.nil_ _ _ _, hb01⟩
    have hha := has10_any A n c l (s.extract m k) w1 ((HR.out.below hb1).more hb1.size) (by unfold maxLen; omega)
    have HHA := Lib.hid hha
    clear hha
    go_wp2_with (go_at_call 151; fail)
    refine HHA.out.mono ?_
    rintro e w2 ⟨⟨hb, rfl⟩, hb2⟩
    have hb02 := hb01.trans (hb2.mono hb01.size)
    have hown2 := own_below hown1 hb2
    have hz2 := hb02.size
    cases hb
    case' true =>
     go_wp2
     exact bodyPost_ret (v := .tuple #[.bool false, .slice none 0 0, .bool false]) (by simp [results, Tryz.results187, go_sem]) rfl ⟨_, _, _, rfl, Texts.nil_ _ _ _, hb02⟩
    go_wp2_with (at_builtin; ((refine app_one Tryz.underlying111 info_str rfl (by decide) w2 w.heap.size _ n _ hown2 (by unfold maxLen; omega) (by omega) hz2 _ rfl (by simp [Value.oneCell']) rfl _ _ rfl rfl rfl ?_); intro g4 cap4 w4 hown4 hgr4 hat4 hlt4))
    have hb4 := below_own hb02 hown2 hgr4 hz2 (Nat.le_refl _)
    go_roundw
    case rel => exact ⟨k + 1, k + 1, n + 1, l ++ [s.extract m k], by omega, by omega, by go_num, by go_num, Lib.hid (by rw [szs_append, szs_one, HCL.out]; have := hI.out; omega), Lib.hid (by simpa [strs] using hown4), hb4⟩
    case measure => simp [intOf]; omega
  ·have e3 : ¬ (k : Int) ≤ s.size := by omega
   go_wp2
   exact bodyPost_ret (v := .tuple #[.bool false, .slice A n c, .bool true]) (by simp [results, Tryz.results187, go_sem]) rfl ⟨_, _, _, rfl, ⟨n, l, hown.out, by have := hI.out; omega⟩, hbr⟩
/-- what a line says of a node -/
structure Nd where
 nm : ByteArray
 gv : Value
 gs : List ByteArray
 (il pk lf : Bool)
 at_ : Int
 all : Bool
 mv : Value
 ms : List ByteArray
 ex : ByteArray
def Nd.arr (p : Nd) : Array Value := #[.string p.nm, p.gv, .bool p.il, .bool p.pk, .bool p.lf, .int .i64 p.at_, .bool p.all, p.mv, .string p.ex]
def Nd.zero : Nd := ⟨{ data := #[] }, .slice none 0 0, [], false, false, false, 0, false, .slice none 0 0, [], { data := #[] }⟩
structure Nd.In (p : Nd) (w : World) (base : Nat) : Prop where
 g : w.ownsRow base 9 1 p.gv p.gs.length (strs p.gs)
 gl : p.gs.length ≤ 70000
 m : w.ownsRow base 9 1 p.mv p.ms.length (strs p.ms)
 ml : p.ms.length ≤ 70000
 ex : p.ex.size ≤ 102400
theorem Nd.In.below {p : Nd} {w w' : World} {base : Nat} (h : p.In w base) (hb : Below w.heap.size w w') : p.In w' base := ⟨own_below h.g hb, h.gl, own_below h.m hb, h.ml, h.ex⟩
theorem Nd.In.base_ {p : Nd} {w : World} {base base' : Nat} (h : p.In w base) (hb : base' ≤ base) : p.In w base' := ⟨own_base h.g hb, h.gl, own_base h.m hb, h.ml, h.ex⟩
theorem Nd.zero_in (w : World) (base : Nat) : Nd.zero.In w base := ⟨World.ownsRow_nil _ _ _ _, by simp [Nd.zero], World.ownsRow_nil _ _ _ _, by simp [Nd.zero], by simp [Nd.zero, ByteArray.size]⟩
theorem bk9 {w : World} {b : Nat} {t : TypeId} {x0 x1 x2 x3 x4 x5 x6 x7 x8 : Value} (k : Bk w b t #[x0, x1, x2, x3, x4, x5, x6, x7, x8]) : w.cell? ⟨b, 0, none⟩ = some x0 ∧ w.cell? ⟨b, 1, none⟩ = some x1 ∧ w.cell? ⟨b, 2, none⟩ = some x2 ∧ w.cell? ⟨b, 3, none⟩ = some x3 ∧ w.cell? ⟨b, 4, none⟩ = some x4 ∧ w.cell? ⟨b, 5, none⟩ = some x5 ∧ w.cell? ⟨b, 6, none⟩ = some x6 ∧ w.cell? ⟨b, 7, none⟩ = some x7 ∧ w.cell? ⟨b, 8, none⟩ = some x8 :=
 ⟨k.cell 0, k.cell 1, k.cell 2, k.cell 3, k.cell 4, k.cell 5, k.cell 6, k.cell 7, k.cell 8⟩
def set9 (w : World) (b : Nat) (x0 x1 x2 x3 x4 x5 x6 x7 x8 : Value) : World := (((((((((w.setCell ⟨b, 0, none⟩ x0).setCell ⟨b, 1, none⟩ x1).setCell ⟨b, 2, none⟩ x2).setCell ⟨b, 3, none⟩ x3).setCell ⟨b, 4, none⟩ x4).setCell ⟨b, 5, none⟩ x5).setCell ⟨b, 6, none⟩ x6).setCell ⟨b, 7, none⟩ x7).setCell ⟨b, 8, none⟩ x8)
theorem set9_bk {w : World} {b : Nat} {t : TypeId} {y0 y1 y2 y3 y4 y5 y6 y7 y8 : Value} (k : Bk w b t #[y0, y1, y2, y3, y4, y5, y6, y7, y8]) (x0 x1 x2 x3 x4 x5 x6 x7 x8 : Value) : Bk (set9 w b x0 x1 x2 x3 x4 x5 x6 x7 x8) b t #[x0, x1, x2, x3, x4, x5, x6, x7, x8] := by
 have q0 : Bk _ b t #[x0, y1, y2, y3, y4, y5, y6, y7, y8] := k.set_ 0 x0
 have q1 : Bk _ b t #[x0, x1, y2, y3, y4, y5, y6, y7, y8] := q0.set_ 1 x1
 have q2 : Bk _ b t #[x0, x1, x2, y3, y4, y5, y6, y7, y8] := q1.set_ 2 x2
 have q3 : Bk _ b t #[x0, x1, x2, x3, y4, y5, y6, y7, y8] := q2.set_ 3 x3
 have q4 : Bk _ b t #[x0, x1, x2, x3, x4, y5, y6, y7, y8] := q3.set_ 4 x4
 have q5 : Bk _ b t #[x0, x1, x2, x3, x4, x5, y6, y7, y8] := q4.set_ 5 x5
 have q6 : Bk _ b t #[x0, x1, x2, x3, x4, x5, x6, y7, y8] := q5.set_ 6 x6
 have q7 : Bk _ b t #[x0, x1, x2, x3, x4, x5, x6, x7, y8] := q6.set_ 7 x7
 have q8 : Bk _ b t #[x0, x1, x2, x3, x4, x5, x6, x7, x8] := q7.set_ 8 x8
 exact q8
theorem set9_below {w : World} {base b : Nat} (hb : base ≤ b) (x0 x1 x2 x3 x4 x5 x6 x7 x8 : Value) : Below base w (set9 w b x0 x1 x2 x3 x4 x5 x6 x7 x8) := by
 unfold set9
 iterate 9 with_reducible refine Below.setCell ?_ hb _
 exact Below.refl _ _
theorem set9_own {w : World} {b : Nat} {t : TypeId} {cs : Array Value} (k : Bk w b t cs) {base : Nat} {e : TypeId} {size : Nat} {v : Value} {n : Nat} {xs : List Value} (h : w.ownsRow base e size v n xs) (hne : e ≠ t) (x0 x1 x2 x3 x4 x5 x6 x7 x8 : Value) : (set9 w b x0 x1 x2 x3 x4 x5 x6 x7 x8).ownsRow base e size v n xs := by
 have hb := own_ne h k hne
 exact (ownsRow_setCell_other (ownsRow_setCell_other (ownsRow_setCell_other (ownsRow_setCell_other (ownsRow_setCell_other (ownsRow_setCell_other (ownsRow_setCell_other (ownsRow_setCell_other (ownsRow_setCell_other h hb x0) hb x1) hb x2) hb x3) hb x4) hb x5) hb x6) hb x7) hb x8)
theorem words4 (t : List UInt8) : ((t == [105, 110, 108, 105, 110, 101]) = true ∧ (t == [112, 105, 99, 107]) = false ∧ (t == [97, 116, 116, 114]) = false ∧ (t == [109, 97, 114, 107, 115]) = false) ∨ ((t == [105, 110, 108, 105, 110, 101]) = false ∧ (t == [112, 105, 99, 107]) = true ∧ (t == [97, 116, 116, 114]) = false ∧ (t == [109, 97, 114, 107, 115]) = false) ∨ ((t == [105, 110, 108, 105, 110, 101]) = false ∧ (t == [112, 105, 99, 107]) = false ∧ (t == [97, 116, 116, 114]) = true ∧ (t == [109, 97, 114, 107, 115]) = false) ∨ ((t == [105, 110, 108, 105, 110, 101]) = false ∧ (t == [112, 105, 99, 107]) = false ∧ (t == [97, 116, 116, 114]) = false ∧ (t == [109, 97, 114, 107, 115]) = true) ∨ ((t == [105, 110, 108, 105, 110, 101]) = false ∧ (t == [112, 105, 99, 107]) = false ∧ (t == [97, 116, 116, 114]) = false ∧ (t == [109, 97, 114, 107, 115]) = false) := by
 by_cases h1 : t = [105, 110, 108, 105, 110, 101]
 ·subst h1; exact .inl (by decide)
 by_cases h2 : t = [112, 105, 99, 107]
 ·subst h2; exact .inr (.inl (by decide))
 by_cases h3 : t = [97, 116, 116, 114]
 ·subst h3; exact .inr (.inr (.inl (by decide)))
 by_cases h4 : t = [109, 97, 114, 107, 115]
 ·subst h4; exact .inr (.inr (.inr (.inl (by decide))))
 ·exact .inr (.inr (.inr (.inr ⟨beq_false_of_ne h1, beq_false_of_ne h2, beq_false_of_ne h3, beq_false_of_ne h4⟩)))
theorem strs_at {w : World} {B n k : Nat} {A : Option Addr} {l : List ByteArray} (h : Rd w B 1 A n (strs l)) (hk : k < n) : ∃ b o x, A = some ⟨b, o, none⟩ ∧ b < B ∧ l[k]? = some x ∧ w.cell? ⟨b, o + k, none⟩ = some (.string x) := by
 obtain ⟨b, o, u, e, hb, hu, hc⟩ := h.at1 hk
 unfold strs at hu
 rw [List.getElem?_map] at hu
 obtain ⟨x, hx, rfl⟩ := Option.map_eq_some_iff.1 hu
 exact ⟨b, o, x, e, hb, hx, hc⟩
theorem strs_len {w : World} {B n : Nat} {A : Option Addr} {l : List ByteArray} (h : Rd w B 1 A n (strs l)) : l.length = n := by
 have := h.1
 simpa [strs] using this
theorem Texts.own {w w' : World} {b : Nat} {v : Value} (h : Texts w b v w') : ∃ l, w'.ownsRow w.heap.size 9 1 v l.length (strs l) ∧ szs l ≤ b := by
 obtain ⟨n, l, h1, h2⟩ := h
 have e : n = l.length := by have := h1.1; simpa [strs] using this.symm
 subst e
 exact ⟨l, h1, h2⟩
theorem szs_drop_le (l : List ByteArray) (k : Nat) : szs (l.drop k) ≤ szs l := by
 have h := szs_append (l.take k) (l.drop k)
 rw [List.take_append_drop] at h
 omega
theorem strs_drop (l : List ByteArray) (k : Nat) : strs (l.drop k) = (strs l).drop k := by simp [strs, List.map_drop]
/-- the rest of a list of texts -/
theorem rd_rest {w : World} {B b o n k : Nat} {l : List ByteArray} (h : Rd w B 1 (some ⟨b, o, none⟩) n (strs l)) (hk : k ≤ n) : Rd w B 1 (some ⟨b, o + k, none⟩) (n - k) (strs (l.drop k)) := by
 have h1 := Rd.cut h hk (Nat.le_refl n)
 simp only [Nat.mul_one] at h1
 rw [List.take_of_length_le (by rw [List.length_drop, h.1]; omega), ← strs_drop] at h1
 exact h1
/-- in the midst of a line -/
structure NodeI (w wr : World) (k : Nat) (met : Value) (ml : List ByteArray) (p : Nd) : Prop where
 own : wr.ownsRow w.heap.size 9 1 met ml.length (strs ml)
 mlen : ml.length + 2 ≤ k
 r : Bk wr w.heap.size 113 Nd.zero.arr
 n : Bk wr (w.heap.size + 1) 113 p.arr
 i : p.In wr w.heap.size
 g : p.gs.length + 2 ≤ k
 b : Below w.heap.size w wr
 dj : ∀ j, met.ownBlock = some j → p.gv.ownBlock ≠ some j ∧ p.mv.ownBlock ≠ some j
 dg : ∀ j, p.gv.ownBlock = some j → p.mv.ownBlock ≠ some j
theorem NodeI.below {w wr wx : World} {k : Nat} {met : Value} {ml : List ByteArray} {p : Nd} (h : NodeI w wr k met ml p) (hb : Below wr.heap.size wr wx) : NodeI w wx k met ml p :=
 ⟨own_below h.own hb, h.mlen, h.r.ext hb, h.n.ext hb, h.i.below hb, h.g, h.b.trans (hb.mono h.b.size), h.dj, h.dg⟩
/-- one of its fields is set -/
theorem NodeI.set {w wr : World} {k : Nat} {met : Value} {ml : List ByteArray} {p p' : Nd} (h : NodeI w wr k met ml p) (j : Nat) (u : Value) (hp : Bk (wr.setCell ⟨w.heap.size + 1, j, none⟩ u) (w.heap.size + 1) 113 p'.arr) (e1 : p'.gv = p.gv) (e2 : p'.mv = p.mv) (e3 : p'.gs = p.gs) (e4 : p'.ms = p.ms) (e5 : p'.ex.size ≤ 102400) : NodeI w (wr.setCell ⟨w.heap.size + 1, j, none⟩ u) k met ml p' :=
 ⟨ownsRow_setCell_other h.own (own_ne h.own h.n (by decide)) _, h.mlen, h.r.far (by simp) _, hp, ⟨by rw [e1, e3]; exact ownsRow_setCell_other h.i.g (own_ne h.i.g h.n (by decide)) _, by rw [e3]; exact h.i.gl, by rw [e2, e4]; exact ownsRow_setCell_other h.i.m (own_ne h.i.m h.n (by decide)) _, by rw [e4]; exact h.i.ml, e5⟩, by rw [e3]; exact h.g, h.b.setCell (by simp) _, by rw [e1, e2]; exact h.dj, by rw [e1, e2]; exact h.dg⟩
/-- a text behind those that were met -/
theorem NodeI.push {w wr w' : World} {k g4 cap4 : Nat} {met : Value} {ml : List ByteArray} {p : Nd} {x : ByteArray} (h : NodeI w wr k met ml p) (hg : wr.grownBy w' met.ownBlock) (ho : w'.ownsRow w.heap.size 9 1 (.slice (some ⟨g4, 0, none⟩) (ml.length + 1) cap4) (ml.length + 1) (strs ml ++ [.string x])) (hat : met.ownBlock = some g4 ∨ wr.heap.size < g4) : NodeI w w' (k + 1) (.slice (some ⟨g4, 0, none⟩) (ml.length + 1) cap4) (ml ++ [x]) p := by
 refine ⟨by simpa [strs] using ho, by simp; have := h.mlen; omega, h.r.grown hg (own_ne h.own h.r (by decide)), h.n.grown hg (own_ne h.own h.n (by decide)), ⟨hown_grow h.i.g hg (fun j hj => (h.dj j hj).1), h.i.gl, hown_grow h.i.m hg (fun j hj => (h.dj j hj).2), h.i.ml, h.i.ex⟩, by have := h.g; omega, below_own h.b h.own hg h.b.size (Nat.le_refl _), fun j hj => ?_, h.dg⟩
 have e : g4 = j := by simpa [Value.ownBlock] using hj
 subst e
 rcases hat with h1 | h1
 ·exact h.dj _ h1
 ·exact ⟨fun e => by have := own_lt h.i.g _ e; omega, fun e => by have := own_lt h.i.m _ e; omega⟩
/-- a further group -/
theorem NodeI.grp {w wr w' : World} {k g4 cap4 : Nat} {met : Value} {ml : List ByteArray} {p : Nd} {x : ByteArray} (h : NodeI w wr k met ml p) (hk : p.gs.length + 3 ≤ k) (hk2 : k ≤ 70000) (hg : wr.grownBy w' p.gv.ownBlock) (ho : w'.ownsRow w.heap.size 9 1 (.slice (some ⟨g4, 0, none⟩) (p.gs.length + 1) cap4) (p.gs.length + 1) (strs p.gs ++ [.string x])) (hat : p.gv.ownBlock = some g4 ∨ wr.heap.size < g4) : NodeI w (w'.setCell ⟨w.heap.size + 1, 1, none⟩ (.slice (some ⟨g4, 0, none⟩) (p.gs.length + 1) cap4)) k met ml { p with gv := .slice (some ⟨g4, 0, none⟩) (p.gs.length + 1) cap4, gs := p.gs ++ [x] } := by
 have hn := h.n.grown hg (own_ne h.i.g h.n (by decide))
 have hm : w'.ownsRow w.heap.size 9 1 met ml.length (strs ml) := hown_grow h.own hg (fun j hj e => (h.dj j e).1 hj)
 have hmv : w'.ownsRow w.heap.size 9 1 p.mv p.ms.length (strs p.ms) := hown_grow h.i.m hg (fun j hj e => h.dg j hj e)
 refine ⟨ownsRow_setCell_other hm (own_ne hm hn (by decide)) _, h.mlen, (h.r.grown hg (own_ne h.i.g h.r (by decide))).far (by simp) _, hn.set_ 1 _, ⟨?_, by simp; omega, ownsRow_setCell_other hmv (own_ne hmv hn (by decide)) _, h.i.ml, h.i.ex⟩, by simp; omega, (below_own h.b h.i.g hg h.b.size (Nat.le_refl _)).setCell (by simp) _, fun j hj => ⟨fun e => ?_, (h.dj j hj).2⟩, fun j hj e => ?_⟩
 ·have := ownsRow_setCell_other ho (own_ne ho hn (by decide)) (a := ⟨w.heap.size + 1, 1, none⟩) (.slice (some ⟨g4, 0, none⟩) (p.gs.length + 1) cap4)
  simpa [strs] using this
 ·have e1 : g4 = j := by simpa [Value.ownBlock] using e
  subst e1
  rcases hat with h1 | h1
  ·exact (h.dj _ hj).1 h1
  ·have := own_lt h.own _ hj; omega
 ·have e1 : g4 = j := by simpa [Value.ownBlock] using hj
  subst e1
  rcases hat with h1 | h1
  ·exact h.dg _ h1 e
  ·have := own_lt h.i.m _ e; omega
/-- its marks -/
theorem NodeI.mks {w wr w' : World} {k : Nat} {met v : Value} {ml l : List ByteArray} {p : Nd} (h : NodeI w wr k met ml p) (hb : Below wr.heap.size wr w') (ho : w'.ownsRow wr.heap.size 9 1 v l.length (strs l)) (hl : l.length ≤ 70000) (a : Bool) : NodeI w ((w'.setCell ⟨w.heap.size + 1, 6, none⟩ (.bool a)).setCell ⟨w.heap.size + 1, 7, none⟩ v) k met ml { p with all := a, mv := v, ms := l } := by
 have h' := h.below hb
 have h6 := h'.set (p' := { p with all := a }) 6 (.bool a) (h'.n.set_ 6 _) rfl rfl rfl rfl h.i.ex
 have hz := hb.size
 have hv := own_base ho h.b.size
 have hv6 := ownsRow_setCell_other hv (own_ne hv h'.n (by decide)) (a := ⟨w.heap.size + 1, 6, none⟩) (.bool a)
 refine ⟨ownsRow_setCell_other h6.own (own_ne h6.own h6.n (by decide)) _, h.mlen, h6.r.far (by simp) _, h6.n.set_ 7 _, ⟨ownsRow_setCell_other h6.i.g (own_ne h6.i.g h6.n (by decide)) _, h.i.gl, ownsRow_setCell_other hv6 (own_ne hv6 h6.n (by decide)) _, hl, h.i.ex⟩, h.g, h6.b.setCell (by simp) _, fun j hj => ⟨(h.dj j hj).1, fun e => ?_⟩, fun j hj e => ?_⟩
 ·have h1 := own_ge ho j e
  have h2 := own_lt h.own j hj
  omega
 ·have h1 := own_ge ho j e
  have h2 := own_lt h.i.g j hj
  omega
def NodeOut (w : World) (e : Ending) (w' : World) : Prop := ∃ (p : Nd) (ok : Bool), e = .returned (.tuple #[.agg p.arr, .bool ok]) ∧ p.In w' w.heap.size ∧ Below w.heap.size w w'
end Go.Proofs.YtmacfoebfpljoaaGreat
