/- merged texts: Sq Sr Ss St Su Sv Sw Sx Sy Sz -/
import Derived.Test.YtmacfoebfpljoaaGreatMp20
import Derived.Test.YtmacfoebfpljoaaGreatMp4
namespace Go.Proofs.YtmacfoebfpljoaaGreat
open Go.RowKit
set_option linter.unusedVariables false
theorem foldV_rev (Ms : List (List Rg)) (V : List GrC) : foldV Ms V.reverse = (foldC Ms V).reverse := by
  unfold foldV
  split
  · rename_i h
    subst h
    simp [foldC]
  · rw [List.reverse_reverse]
theorem extV_rev (xs : List StC) (V : List GrC) : extV xs V.reverse = (V.modify 0 (extC xs)).reverse := by
  unfold extV
  rw [List.reverse_reverse]
theorem push_rev (g : GrC) (V : List GrC) : V.reverse ++ [g] = (g :: V).reverse := by simp
theorem trim_rev (D : Nat) (hD : 1 ≤ D) (U : List GrC) (h : totC U ≤ 2000) : trimV D U.reverse = U.length - D ∧ U.reverse.drop (trimV D U.reverse) = (U.take (U.length - (U.length - D))).reverse := by
  have h1 : trimV D U.reverse = U.length - D := by
    rw [trimV_is D hD _ (by rw [totC_rev]; exact h), List.length_reverse]
  refine ⟨h1, ?_⟩
  rw [h1, List.drop_reverse]
/-- blocks that the program's stack writes -/
def Yof (bs : Nat) (lv mv : Value) : Nat → Prop := fun i => i = bs ∨ lv.ownBlock = some i ∨ mv.ownBlock = some i
theorem StkAt.yof {w : World} {base bs : Nat} {lv mv : Value} {depth : Int} {L : List GrH} {Ms : List MpH} (h : StkAt w base bs lv mv depth L Ms) : ∀ i, Yof bs lv mv i → base ≤ i ∧ i < w.heap.size := by
  intro i hi
  rcases hi with rfl | hi | hi
  · exact ⟨h.le, def_lt' h.k⟩
  · exact ⟨own_ge h.l i hi, own_lt h.l i hi⟩
  · exact ⟨own_ge h.m i hi, own_lt h.m i hi⟩
/-- both stacks, and what they have in common: F is the groups as they are folded; the document's lies off the blocks Z, too; Y is what the program's writes -/
structure Duo (w0 w : World) (D : Nat) (bs : Nat) (A : Option Addr) (n c : Nat) (A' : Option Addr) (n' S k : Nat) (F : List GrC) (Z Y : Nat → Prop) : Prop where
  le : n ≤ c
  below : Below w0.heap.size w0 w
  z : ∀ i, Z i → w0.heap.size ≤ i ∧ i < w.heap.size
  all : ∃ base lv mv L Ms V, Y = Yof bs lv mv ∧ F = foldC (Ms.map MpH.l) V ∧ w0.heap.size ≤ base ∧ StkAt w base bs lv mv D L Ms ∧ RStk w (fun i => Yof bs lv mv i ∨ Z i) A n A' n' V (Ms.map MpH.l) ∧ L.map GrH.val = V.reverse ∧ totC V ≤ S ∧ Ms.length ≤ k ∧ V.length ≤ D
/-- the program's step carries the document's stack -/
theorem duo_own {w w' : World} {bs : Nat} {lv mv lv' mv' : Value} {A A' : Option Addr} {n n' : Nat} {V : List GrC} {Ms : List (List Rg)} (h : RStk w (Yof bs lv mv) A n A' n' V Ms) (hs : StkTo bs lv mv lv' mv' w w') : RStk w' (Yof bs lv' mv') A n A' n' V Ms := by
  have h1 : RStk w (fun i => Yof bs lv mv i ∨ Yof bs lv' mv' i) A n A' n' V Ms := h.wide (fun i hi => by
    rcases hi with hi | rfl | hi | hi
    · exact .inl hi
    · exact .inl (.inl rfl)
    · rcases hs.2.1 i hi with h2 | h2
      · exact .inl (.inr (.inl h2))
      · exact .inr h2
    · rcases hs.2.2 i hi with h2 | h2
      · exact .inl (.inr (.inr h2))
      · exact .inr h2)
  have h2 : Stir (fun i => Yof bs lv mv i ∨ Yof bs lv' mv' i) w w' := ⟨hs.1.os, hs.1.tape, hs.1.output, hs.1.size, fun i hi hx => hs.1.block i hi (fun e => hx (.inl e))⟩
  exact (h1.stir h2).wide (fun i hi => .inl (.inr hi))
/-- what the program's step writes later is what it wrote before, or new -/
theorem sub_of {w w1 w2 : World} {bs : Nat} {lv mv lv1 mv1 : Value} (h : StkTo bs lv mv lv1 mv1 w1 w2) (hz : w.heap.size ≤ w1.heap.size) : ∀ i, Yof bs lv1 mv1 i → Yof bs lv mv i ∨ w.heap.size ≤ i := by
  intro i hi
  rcases hi with rfl | hi | hi
  · exact .inl (.inl rfl)
  · rcases h.2.1 i hi with h2 | h2
    · exact .inl (.inr (.inl h2))
    · exact .inr (Nat.le_trans hz h2)
  · rcases h.2.2 i hi with h2 | h2
    · exact .inl (.inr (.inr h2))
    · exact .inr (Nat.le_trans hz h2)
abbrev deedA (d : DeedH) : Array Value := #[.int .i64 d.k, .slice d.g.A d.g.n d.g.c, .int .i64 d.g.pin.k, .int .i64 d.g.pin.a, .int .i64 d.g.pin.b, .int .i64 d.g.back.k, .int .i64 d.g.back.a, .int .i64 d.g.back.b, .int .i64 d.g.lost, .slice d.A d.n d.c]
/-- likewise, where some blocks besides are left out -/
theorem duo_ownX {w w' : World} {bs : Nat} {lv mv lv' mv' : Value} {A A' : Option Addr} {n n' : Nat} {V : List GrC} {Ms : List (List Rg)} (X : Nat → Prop) (h : RStk w (fun i => Yof bs lv mv i ∨ X i) A n A' n' V Ms) (hs : StkTo bs lv mv lv' mv' w w') : RStk w' (fun i => Yof bs lv' mv' i ∨ X i) A n A' n' V Ms := by
  have h1 : RStk w (fun i => (Yof bs lv mv i ∨ Yof bs lv' mv' i) ∨ X i) A n A' n' V Ms := h.wide (fun i hi => by
    rcases hi with (hi | rfl | hi | hi) | hi
    · exact .inl (.inl hi)
    · exact .inl (.inl (.inl rfl))
    · rcases hs.2.1 i hi with h2 | h2
      · exact .inl (.inl (.inr (.inl h2)))
      · exact .inr h2
    · rcases hs.2.2 i hi with h2 | h2
      · exact .inl (.inl (.inr (.inr h2)))
      · exact .inr h2
    · exact .inl (.inr hi))
  have h2 : Stir (fun i => (Yof bs lv mv i ∨ Yof bs lv' mv' i) ∨ X i) w w' := ⟨hs.1.os, hs.1.tape, hs.1.output, hs.1.size, fun i hi hx => hs.1.block i hi (fun e => hx (.inl (.inl e)))⟩
  exact (h1.stir h2).wide (fun i hi => by
    rcases hi with hi | hi
    · exact .inl (.inl (.inr hi))
    · exact .inl (.inr hi))
theorem StkAt.grown {w w' : World} {base bs : Nat} {lv mv : Value} {depth : Int} {L : List GrH} {Ms : List MpH} (h : StkAt w base bs lv mv depth L Ms) {b : Nat} {cs : Array Value} (hk : Bk w b 88 cs) (hg : w.grownBy w' (some b)) (hne : b ≠ bs) : StkAt w' base bs lv mv depth L Ms :=
  ⟨h.k.grown hg (fun e => hne (by injection e)), h.le, own_grow h.l hg (fun x e => by injection e with e; subst e; exact own_ne h.l hk (by decide)), fun g hgm => (h.g g hgm).grown hk hg (by decide) (by decide) (by decide), own_grow h.m hg (fun x e => by injection e with e; subst e; exact own_ne h.m hk (by decide)), fun m hm => ⟨own_grow (h.ms m hm).1 hg (fun x e => by injection e with e; subst e; exact own_ne (h.ms m hm).1 hk (by decide)), (h.ms m hm).2⟩, h.nL, h.nM, h.bd⟩
/-- a deed is done -/
def DoesOut (w0 w : World) (D S k : Nat) (F : List GrC) (Z Y : Nat → Prop) (e : Ending) (w' : World) : Prop := ∃ bs A n c A' n' c' Y', e = .returned (.tuple #[.pointer (some ⟨bs, 0, none⟩), .agg #[.int .i64 D, .slice A n c, .slice A' n' c'], .bool true]) ∧ Duo w0 w' D bs A n c A' n' S k F Z Y' ∧ Stir Y w w' ∧ ∀ i, Y' i → Y i ∨ w.heap.size ≤ i
set_option maxRecDepth 100000 in
set_option maxHeartbeats 8000000 in
theorem does_fold (w0 w : World) (D : Nat) (bs : Nat) (A : Option Addr) (n c : Nat) (A' : Option Addr) (n' c' S k : Nat) (d : DeedH) (F : List GrC) (Z Y : Nat → Prop) (h : Duo w0 w D bs A n c A' n' S k F Z Y) (hD : 1 ≤ D ∧ D ≤ 200) (hS : S ≤ 500) (hdk : d.k = 3) :
    Calls Tryz.prog 40 #[.pointer (some ⟨bs, 0, none⟩), .agg #[.int .i64 D, .slice A n c, .slice A' n' c'], .agg (deedA d)] w (DoesOut w0 w D S k F Z Y) := by
  obtain ⟨hnc, hb0, hZ, base, lv, mv, L, Ms, V, rfl, rfl, hbase, hs, hr, hLV, htot, hk, hVD⟩ := h
  have hb1 : Below w.heap.size w (((w.alloc (.cells #[.int .i64 D, .slice A n c, .slice A' n' c'] 88)).alloc (.cells (deedA d) 96)).alloc (.cells #[.int .i64 0, .slice none 0 0, .slice none 0 0] 88)) := belowA
  have k1 : Bk (((w.alloc (.cells #[.int .i64 D, .slice A n c, .slice A' n' c'] 88)).alloc (.cells (deedA d) 96)).alloc (.cells #[.int .i64 0, .slice none 0 0, .slice none 0 0] 88)) w.heap.size 88 #[.int .i64 D, .slice A n c, .slice A' n' c'] := ((Bk.new w _ _).alloc _).alloc _
  have k2 : Bk (((w.alloc (.cells #[.int .i64 D, .slice A n c, .slice A' n' c'] 88)).alloc (.cells (deedA d) 96)).alloc (.cells #[.int .i64 0, .slice none 0 0, .slice none 0 0] 88)) (w.heap.size + 1) 96 (deedA d) := Bk.alloc (Bk.made _ _ (by simp)) _
  have k3 : Bk (((w.alloc (.cells #[.int .i64 D, .slice A n c, .slice A' n' c'] 88)).alloc (.cells (deedA d) 96)).alloc (.cells #[.int .i64 0, .slice none 0 0, .slice none 0 0] 88)) (w.heap.size + 1 + 1) 88 #[.int .i64 0, .slice none 0 0, .slice none 0 0] := Bk.made _ _ (by simp)
  have hs1 := hs.below hb1
  have hr1 := (hr.wide (Y' := fun i => Yof bs lv mv i ∨ (Z i ∨ i = w.heap.size + 1 + 1)) (fun i hi => by rcases hi with hi | hi | hi; (· exact .inl (.inl hi)); (· exact .inl (.inr hi)); (· exact .inr (by omega)))).ext hb1
  have hyl := fun i hi => (hs.yof i hi).2
  have hfo := fold_any base bs lv mv D L Ms _ hs1
  have HFO := Lib.hid hfo
  have HR1 := Lib.hid hr1
  have HS := Lib.hid hs
  have HYL := Lib.hid hyl
  have HLV := Lib.hid hLV
  have c0 := (k2.cell 0).trans (show (deedA d)[0]? = some (Value.int .i64 3) by show some (Value.int .i64 d.k) = _; rw [hdk])
  clear hs hr hs1 hr1 hyl hfo hLV
  go_enter Tryz.func40, Tryz.ntmps40
  go_wp2_with (go_at_call 28; fail)
  generalize hwE : ((w.alloc (.cells #[.int .i64 D, .slice A n c, .slice A' n' c'] 88)).alloc (.cells (deedA d) 96)).alloc (.cells #[.int .i64 0, .slice none 0 0, .slice none 0 0] 88) = w1 at *
  clear hwE c0
  have hz1 := hb1.size
  have hl3 := def_lt' k3
  refine HFO.out.mono ?_
  rintro e w2 ⟨⟨v, rfl⟩, lv1, mv1, L1, Ms1, hs2, hV1, hM1, hto⟩
  obtain rfl : Ms1 = [] := by simpa using hM1
  have hz2 := hto.1.size
  have hnY : ∀ i, w.heap.size ≤ i → ¬ Yof bs lv mv i := fun i hi hy => by have := HYL.out i hy; omega
  have m1 : Bk w2 w.heap.size 88 #[.int .i64 D, .slice A n c, .slice A' n' c'] := (hto.1.block _ (def_lt' k1) (hnY _ (by omega))).trans k1
  have m3 : Bk w2 (w.heap.size + 1 + 1) 88 #[.int .i64 0, .slice none 0 0, .slice none 0 0] := (hto.1.block _ hl3 (hnY _ (by omega))).trans k3
  have hb2 : Below w0.heap.size w0 w2 := (hb0.trans (hb1.mono hb0.size)).trans ((hto.below (HS.out.below hb1)).mono hbase)
  have hr2 := duo_ownX _ HR1.out hto
  have hY2 : ∀ i, Yof bs lv1 mv1 i ∨ (Z i ∨ i = w.heap.size + 1 + 1) → i < w2.heap.size := fun i hi => by rcases hi with hi | hi | hi; (· exact (hs2.yof i hi).2); (· have := (hZ i hi).2; omega); (· omega)
  have hrf := rfold_any D A n c A' n' c' V (Ms.map MpH.l) w2 (fun i => Yof bs lv1 mv1 i ∨ (Z i ∨ i = w.heap.size + 1 + 1)) hY2 hnc hr2
  have HRF := Lib.hid hrf
  have HS2 := Lib.hid hs2
  have HV1 := Lib.hid hV1
  have x0 := m1.cell 0; have x1 := m1.cell 1; have x2 := m1.cell 2
  dsimp at x0 x1 x2
  have hst2 : Stir (Yof bs lv mv) w w2 := (Stir.of_below hb1).trans hto.1
  have hsub := sub_of hto hz1
  have HST := Lib.hid hst2
  have HSUB := Lib.hid hsub
  clear hrf hr2 hs2 hto HFO HR1 hV1 k1 k2 k3 hM1 hnY hst2 hsub
  go_wp2_with (go_at_call 45; fail)
  refine HRF.out.mono ?_
  rintro e w3 ⟨v3, rfl, A3, n3, c3, A4, n4, c4, rfl, hc3, hr3, hb3⟩
  have y3 := m3.ext hb3
  have q0 := y3.cell 0; have q1 := y3.cell 1; have q2 := y3.cell 2; have qf := y3.frozen; have ql := def_lt' y3
  dsimp at q0 q1 q2
  clear x0 x1 x2
  have z3 : Bk (((w3.setCell ⟨w.heap.size + 1 + 1, 0, none⟩ (.int .i64 D)).setCell ⟨w.heap.size + 1 + 1, 1, none⟩ (.slice A3 n3 c3)).setCell ⟨w.heap.size + 1 + 1, 2, none⟩ (.slice A4 n4 c4)) (w.heap.size + 1 + 1) 88 #[.int .i64 D, .slice A3 n3 c3, .slice A4 n4 c4] := ((y3.set_ 0 _).set_ 1 _).set_ 2 _
  have g3 : w3.grownBy (((w3.setCell ⟨w.heap.size + 1 + 1, 0, none⟩ (.int .i64 D)).setCell ⟨w.heap.size + 1 + 1, 1, none⟩ (.slice A3 n3 c3)).setCell ⟨w.heap.size + 1 + 1, 2, none⟩ (.slice A4 n4 c4)) (some (w.heap.size + 1 + 1)) := gr_set (p := ⟨w.heap.size + 1 + 1, 2, none⟩) (gr_set (p := ⟨w.heap.size + 1 + 1, 1, none⟩) (gr_set (p := ⟨w.heap.size + 1 + 1, 0, none⟩) (World.grownBy.refl _ _) (.inl rfl) _) (.inl rfl) _) (.inl rfl) _
  have hbsl := def_lt' HS.out.k
  have hs4 := (HS2.out.below hb3).grown y3 g3 (by omega)
  have hr4 := (hr3.stir (Stir.of_gr g3 (fun i e => by injection e with e; exact .inr (.inr e.symm)))).wide (Y' := fun i => Yof bs lv1 mv1 i ∨ Z i) (fun i hi => by rcases hi with hi | hi; (· exact .inl (.inl hi)); (· exact .inl (.inr (.inl hi))))
  have hb3' := hb2.trans (hb3.mono hb2.size)
  have hb4 : Below w0.heap.size w0 (((w3.setCell ⟨w.heap.size + 1 + 1, 0, none⟩ (.int .i64 D)).setCell ⟨w.heap.size + 1 + 1, 1, none⟩ (.slice A3 n3 c3)).setCell ⟨w.heap.size + 1 + 1, 2, none⟩ (.slice A4 n4 c4)) := hb3'.grown g3 hb3'.size (fun k e => by injection e with e; subst e; have := hb0.size; omega)
  have hst4 := (HST.out.trans (Stir.of_below hb3)).fresh (Stir.of_gr (X := fun i => i = w.heap.size + 1 + 1) g3 (fun i e => by injection e with e; exact e.symm)) (fun i e => .inr (by have : i = w.heap.size + 1 + 1 := e; omega))
  have hz4 := hst4.size
  have HST4 := Lib.hid hst4
  clear hst4
  go_wp2
  generalize ((w3.setCell ⟨w.heap.size + 1 + 1, 0, none⟩ (.int .i64 D)).setCell ⟨w.heap.size + 1 + 1, 1, none⟩ (.slice A3 n3 c3)).setCell ⟨w.heap.size + 1 + 1, 2, none⟩ (.slice A4 n4 c4) = w4 at *
  clear q0 q1 q2
  have q0 := z3.cell 0; have q1 := z3.cell 1; have q2 := z3.cell 2
  dsimp at q0 q1 q2
  exact bodyPost_ret (v := .tuple #[.pointer (some ⟨bs, 0, none⟩), .agg #[.int .i64 D, .slice A3 n3 c3, .slice A4 n4 c4], .bool true]) (by simp [results, Tryz.results40, go_sem, q0, q1, q2]) rfl ⟨bs, A3, n3, c3, A4, n4, c4, Yof bs lv1 mv1, rfl, ⟨hc3, hb4, fun i hi => ⟨(hZ i hi).1, Nat.lt_of_lt_of_le (hZ i hi).2 hz4⟩, base, lv1, mv1, L1, [], foldC (Ms.map MpH.l) V, rfl, rfl, hbase, hs4, hr4, by rw [HV1.out, HLV.out, foldV_rev], Nat.le_trans (totC_fold _ _) htot, Nat.zero_le _, by rw [foldC_len]; exact hVD⟩, HST4.out, HSUB.out⟩
theorem own_stirX {w w' : World} {X : Nat → Prop} {base size n : Nat} {e : TypeId} {v : Value} {xs : List Value} (h : w.ownsRow base e size v n xs) (hs : Stir X w w') (hX : ∀ i, X i → i < base) : w'.ownsRow base e size v n xs := by
  refine ⟨h.1, ?_⟩
  rcases h.2 with h0 | ⟨g, cap, cur, h1, h2, h3, h4⟩
  · exact .inl h0
  · refine .inr ⟨g, cap, cur, h1, h2, ?_, h4⟩
    have hlt : g < w.heap.size := by
      rcases Nat.lt_or_ge g w.heap.size with h | h
      · exact h
      · rw [Array.getElem?_eq_none h] at h3; cases h3
    rw [hs.block g hlt (fun hx => by have := hX g hx; omega)]
    exact h3
theorem GrH.Own.stirX {w w' : World} {X : Nat → Prop} {base : Nat} {g : GrH} (h : g.Own w base) (hs : Stir X w w') (hX : ∀ i, X i → i < base) : g.Own w' base :=
  ⟨own_stirX h.o hs hX, fun s hss => ⟨own_stirX (h.l s hss).1 hs hX, own_stirX (h.l s hss).2 hs hX, (h.l s hss).3, (h.l s hss).4⟩, h.n⟩
theorem StkAt.stirX {w w' : World} {X : Nat → Prop} {base bs : Nat} {lv mv : Value} {depth : Int} {L : List GrH} {Ms : List MpH} (h : StkAt w base bs lv mv depth L Ms) (hs : Stir X w w') (hX : ∀ i, X i → i < base) : StkAt w' base bs lv mv depth L Ms :=
  ⟨(hs.block bs (def_lt' h.k) (fun hx => by have := hX bs hx; have := h.le; omega)).trans h.k, h.le, own_stirX h.l hs hX, fun g hg => (h.g g hg).stirX hs hX, own_stirX h.m hs hX, fun m hm => ⟨own_stirX (h.ms m hm).1 hs hX, (h.ms m hm).2⟩, h.nL, h.nM, h.bd⟩
set_option maxRecDepth 100000 in
set_option maxHeartbeats 8000000 in
theorem does_copy (w0 w : World) (D : Nat) (bs : Nat) (A : Option Addr) (n c : Nat) (A' : Option Addr) (n' c' S k : Nat) (d : DeedH) (F : List GrC) (Z Y : Nat → Prop) (h : Duo w0 w D bs A n c A' n' S k F Z Y) (hD : 1 ≤ D ∧ D ≤ 200) (hS : S ≤ 500) (hdk : d.k ≠ 0 ∧ d.k ≠ 1 ∧ d.k ≠ 2 ∧ d.k ≠ 3 ∧ d.k ≠ 4) :
    Calls Tryz.prog 40 #[.pointer (some ⟨bs, 0, none⟩), .agg #[.int .i64 D, .slice A n c, .slice A' n' c'], .agg (deedA d)] w (DoesOut w0 w D S k F Z Y) := by
  obtain ⟨hnc, hb0, hZ, base, lv, mv, L, Ms, V, rfl, rfl, hbase, hs, hr, hLV, htot, hk, hVD⟩ := h
  have hb1 : Below w.heap.size w (((w.alloc (.cells #[.int .i64 D, .slice A n c, .slice A' n' c'] 88)).alloc (.cells (deedA d) 96)).alloc (.cells #[.int .i64 0, .slice none 0 0, .slice none 0 0] 88)) := belowA
  have k1 : Bk (((w.alloc (.cells #[.int .i64 D, .slice A n c, .slice A' n' c'] 88)).alloc (.cells (deedA d) 96)).alloc (.cells #[.int .i64 0, .slice none 0 0, .slice none 0 0] 88)) w.heap.size 88 #[.int .i64 D, .slice A n c, .slice A' n' c'] := ((Bk.new w _ _).alloc _).alloc _
  have k2 : Bk (((w.alloc (.cells #[.int .i64 D, .slice A n c, .slice A' n' c'] 88)).alloc (.cells (deedA d) 96)).alloc (.cells #[.int .i64 0, .slice none 0 0, .slice none 0 0] 88)) (w.heap.size + 1) 96 (deedA d) := Bk.alloc (Bk.made _ _ (by simp)) _
  have k3 : Bk (((w.alloc (.cells #[.int .i64 D, .slice A n c, .slice A' n' c'] 88)).alloc (.cells (deedA d) 96)).alloc (.cells #[.int .i64 0, .slice none 0 0, .slice none 0 0] 88)) (w.heap.size + 1 + 1) 88 #[.int .i64 0, .slice none 0 0, .slice none 0 0] := Bk.made _ _ (by simp)
  have hs1 := hs.below hb1
  have hr1 := (hr.wide (Y' := fun i => Yof bs lv mv i ∨ (Z i ∨ i = w.heap.size + 1 + 1)) (fun i hi => by rcases hi with hi | hi | hi; (· exact .inl (.inl hi)); (· exact .inl (.inr hi)); (· exact .inr (by omega)))).ext hb1
  have hyl := fun i hi => (hs.yof i hi).2
  have hfo := scopy_any base bs lv mv D L Ms _ hs1
  have HFO := Lib.hid hfo
  have HR1 := Lib.hid hr1
  have HS := Lib.hid hs
  have HYL := Lib.hid hyl
  have HLV := Lib.hid hLV
  have c0 := (k2.cell 0).trans (show (deedA d)[0]? = some (Value.int .i64 d.k) from rfl)
  obtain ⟨e0, e1, e2, e3, e4⟩ := hdk
  have f0 : (d.k == 0) = false := beq_false_of_ne e0
  have f1 : (d.k == 1) = false := beq_false_of_ne e1
  have f2 : (d.k == 2) = false := beq_false_of_ne e2
  have f3 : (d.k == 3) = false := beq_false_of_ne e3
  have f4 : (d.k == 4) = false := beq_false_of_ne e4
  clear hs hr hs1 hr1 hyl hfo hLV
  go_enter Tryz.func40, Tryz.ntmps40
  go_wp2_with (go_at_call 36; fail)
  generalize hwE : ((w.alloc (.cells #[.int .i64 D, .slice A n c, .slice A' n' c'] 88)).alloc (.cells (deedA d) 96)).alloc (.cells #[.int .i64 0, .slice none 0 0, .slice none 0 0] 88) = w1 at *
  clear hwE c0
  have hz1 := hb1.size
  refine HFO.out.mono ?_
  rintro e w2 ⟨bs2, lv2, mv2, L2, Ms2, rfl, hs2, hV2, hM2, hb2⟩
  have hsold := (HS.out.below hb1).below hb2
  have hpu := push_any base bs lv mv D L Ms ⟨none, 0, 0, [], ⟨0, 0, 0⟩, ⟨0, 0, 0⟩, 7⟩ w2 hsold (fun w' _ => ⟨StsIn.nil_ _ _ _, by show (0 : Nat) ≤ 1000000; omega, fun _ => rfl⟩) (by show (0 : Nat) ≤ 1000; omega) (by show -9223372036854775808 ≤ (7 : Int) ∧ (7 : Int) ≤ 9223372036854775807; omega) (by have h1 := congrArg List.length HLV.out; simp only [List.length_map, List.length_reverse] at h1; omega)
  have HPU := Lib.hid hpu
  clear hpu hsold
  go_wp2_with (go_at_call 30; fail)
  refine HPU.out.mono ?_
  rintro e w3 ⟨rfl, lv3, mv3, L3, Ms3, hs3, hV3, hM3, t3⟩
  have hfo3 := fold_any base bs lv3 mv3 D L3 Ms3 w3 hs3
  have HFO3 := Lib.hid hfo3
  have hl3 : Hid (StkTo bs lv mv lv3 mv3 w2 w3) := Lib.hid t3
  clear hfo3 t3 HPU
  go_wp2_with (go_at_call 28; fail)
  refine HFO3.out.mono ?_
  rintro e w4 ⟨⟨v, rfl⟩, lv4, mv4, L4, Ms4, hs4, hV4, hM4, t4⟩
  have hto : StkTo bs lv mv lv4 mv4 w2 w4 := hl3.out.trans t4
  have hbase2 : ∀ i, Yof bs lv mv i → i < w1.heap.size := fun i hi => Nat.lt_of_lt_of_le (HYL.out i hi) hz1
  have hnew := hs2.stirX hto.1 hbase2
  have hz2 := hb2.size
  have hz4 := hto.1.size
  have hl3' := def_lt' k3
  have hnY : ∀ i, w.heap.size ≤ i → ¬ Yof bs lv mv i := fun i hi hy => by have := HYL.out i hy; omega
  have m1 : Bk w4 w.heap.size 88 #[.int .i64 D, .slice A n c, .slice A' n' c'] := (hto.1.block _ (by omega) (hnY _ (by omega))).trans (k1.ext hb2)
  have m3 : Bk w4 (w.heap.size + 1 + 1) 88 #[.int .i64 0, .slice none 0 0, .slice none 0 0] := (hto.1.block _ (by omega) (hnY _ (by omega))).trans (k3.ext hb2)
  have hF : ∀ W, (Bk W w.heap.size 88 #[.int .i64 D, .slice A n c, .slice A' n' c'] ∧ Bk W (w.heap.size + 1 + 1) 88 #[.int .i64 0, .slice none 0 0, .slice none 0 0]) → W.cell? ⟨w.heap.size, 0, none⟩ = some (.int .i64 D) ∧ W.cell? ⟨w.heap.size, 1, none⟩ = some (.slice A n c) ∧ W.cell? ⟨w.heap.size, 2, none⟩ = some (.slice A' n' c') := fun W h => ⟨h.1.cell 0, h.1.cell 1, h.1.cell 2⟩
  have HF := Lib.hid hF
  have x0 := m1.cell 0; have x1 := m1.cell 1; have x2 := m1.cell 2
  have y0 := m3.cell 0; have y1 := m3.cell 1; have y2 := m3.cell 2; have yf := m3.frozen; have yl := def_lt' m3
  dsimp at x0 x1 x2 y0 y1 y2
  have HNEW := Lib.hid hnew
  have HYN := Lib.hid (show ∀ i, Yof bs2 lv2 mv2 i → w1.heap.size ≤ i from fun i hi => (hs2.yof i hi).1)
  have HBB := Lib.hid (show Below w0.heap.size w0 w4 from ((hb0.trans (hb1.mono hb0.size)).trans (hb2.mono (Nat.le_trans hb0.size hz1))).trans ((hto.below ((HS.out.below hb1).below hb2)).mono hbase))
  have HTO := Lib.hid hto
  clear hnew hto hs2 hs3 hs4 hbase2 hnY k1 k2 k3 HFO HFO3 hl3 t4 hF
  go_upto_region 25 with fail
  go_region
  have g5 : w4.grownBy (((w4.setCell ⟨w.heap.size + 1 + 1, 0, none⟩ (.int .i64 D)).setCell ⟨w.heap.size + 1 + 1, 1, none⟩ (.slice A n c)).setCell ⟨w.heap.size + 1 + 1, 2, none⟩ (.slice A' n' c')) (some (w.heap.size + 1 + 1)) := gr_set (p := ⟨w.heap.size + 1 + 1, 2, none⟩) (gr_set (p := ⟨w.heap.size + 1 + 1, 1, none⟩) (gr_set (p := ⟨w.heap.size + 1 + 1, 0, none⟩) (World.grownBy.refl _ _) (.inl rfl) _) (.inl rfl) _) (.inl rfl) _
  have z5 : Bk (((w4.setCell ⟨w.heap.size + 1 + 1, 0, none⟩ (.int .i64 D)).setCell ⟨w.heap.size + 1 + 1, 1, none⟩ (.slice A n c)).setCell ⟨w.heap.size + 1 + 1, 2, none⟩ (.slice A' n' c')).drew (w.heap.size + 1 + 1) 88 #[.int .i64 D, .slice A n c, .slice A' n' c'] := (((m3.set_ 0 _).set_ 1 _).set_ 2 _).drew
  have hbsn : w.heap.size + 1 + 1 ≠ bs2 := by have := HYN.out bs2 (.inl rfl); omega
  have hs5 := (HNEW.out.grown m3 g5 hbsn).below ((Below.refl _ _).drew)
  have hr5 := ((((HR1.out.wide (Y' := fun i => (Yof bs lv mv i ∨ (Z i ∨ i = w.heap.size + 1 + 1)) ∨ Yof bs2 lv2 mv2 i) (fun i hi => by rcases hi with hi | hi; (· exact .inl hi); (· exact .inr (HYN.out i hi)))).ext hb2).stir (w' := w4) ⟨HTO.out.1.os, HTO.out.1.tape, HTO.out.1.output, HTO.out.1.size, fun i hi hx => HTO.out.1.block i hi (fun e => hx (.inl (.inl e)))⟩).stir (Stir.of_gr g5 (fun i e => by injection e with e; exact .inl (.inr (.inr e.symm))))).ext ((Below.refl _ _).drew)
  have hr6 := hr5.wide (Y' := fun i => Yof bs2 lv2 mv2 i ∨ Z i) (fun i hi => by rcases hi with hi | hi; (· exact .inl (.inr hi)); (· exact .inl (.inl (.inr (.inl hi)))))
  have hb5 := (HBB.out.grown g5 HBB.out.size (fun k e => by injection e with e; subst e; have := hb0.size; omega)).drew
  have hst5 : Stir (Yof bs lv mv) w _ := ((((Stir.of_below (hb1.trans (hb2.mono hz1))).trans HTO.out.1).fresh (Stir.of_gr (X := fun i => i = w.heap.size + 1 + 1) g5 (fun i e => by injection e with e; exact e.symm)) (fun i e => .inr (by have : i = w.heap.size + 1 + 1 := e; omega)))).trans (Stir.of_below ((Below.refl _ _).drew))
  have HST5 := Lib.hid hst5
  have hz5 := hst5.size
  clear hr5 x0 x1 x2 y0 y1 y2 hst5
  generalize (((w4.setCell ⟨w.heap.size + 1 + 1, 0, none⟩ (.int .i64 D)).setCell ⟨w.heap.size + 1 + 1, 1, none⟩ (.slice A n c)).setCell ⟨w.heap.size + 1 + 1, 2, none⟩ (.slice A' n' c')).drew = w5 at *
  have q0 := z5.cell 0; have q1 := z5.cell 1; have q2 := z5.cell 2
  dsimp at q0 q1 q2
  go_wp2
  exact bodyPost_ret (v := .tuple #[.pointer (some ⟨bs2, 0, none⟩), .agg #[.int .i64 D, .slice A n c, .slice A' n' c'], .bool true]) (by simp [results, Tryz.results40, go_sem, q0, q1, q2]) rfl ⟨bs2, A, n, c, A', n', c', Yof bs2 lv2 mv2, rfl, ⟨hnc, hb5, fun i hi => ⟨(hZ i hi).1, Nat.lt_of_lt_of_le (hZ i hi).2 hz5⟩, w1.heap.size, lv2, mv2, L2, Ms2, V, rfl, by rw [hM2], Nat.le_trans hb0.size hz1, hs5, by rw [hM2]; exact hr6, by rw [hV2, HLV.out], htot, by have h1 := congrArg List.length hM2; simp only [List.length_map] at h1; omega, hVD⟩, HST5.out, fun i hi => .inr (Nat.le_trans hz1 (HYN.out i hi))⟩
theorem rd_av {w : World} {B size n : Nat} {A : Option Addr} {xs : List Value} {Y : Nat → Prop} (h : Rd w B size A n xs) (hY : ∀ i, Y i → B ≤ i) : Av Y A n := by
  intro hn a ha hy
  obtain ⟨b, o, e, hb, _⟩ := h.2 hn
  rw [ha] at e
  injection e with e
  subst e
  have h2 := hY _ hy
  simp only at h2
  omega
theorem deed_in {w0 w : World} {d : DeedH} (h : d.Raw w0 w0.heap.size) (h1 : d.g.n ≤ 20) (h2 : SmallS d.g.L) (hb : Below w0.heap.size w0 w) : d.g.In w w.heap.size :=
  ⟨((h.g.sts.in_ (fun s hs => by have := h2 s hs; omega)).below hb).more hb.size, by omega, h.g.A⟩
theorem deed_x {w0 w : World} {d : DeedH} {Y : Nat → Prop} (h : d.Raw w0 w0.heap.size) (h1 : d.g.n ≤ 20) (h2 : SmallS d.g.L) (hb : Below w0.heap.size w0 w) (hY : ∀ i, Y i → w0.heap.size ≤ i) : GrX w Y d.g :=
  ⟨deed_in h h1 h2 hb, by omega, fun s hs => ⟨by have := h2 s hs; omega, by have := h2 s hs; omega, rd_av (h.g.sts.2 s hs).rd hY, rd_av (h.g.sts.2 s hs).rd' hY⟩, rd_av h.g.sts.1 hY, h.g.lost⟩
set_option maxRecDepth 100000 in
set_option maxHeartbeats 1000000 in
theorem note_no (bs : Nat) (Am : Option Addr) (nm cm : Nat) (m : List Rg) (w : World) (hm : Rd w w.heap.size 3 Am nm (rgs m)) (hn : nm ≤ 1000) (hr : rightM m = false) :
    Calls Tryz.prog 31 #[.pointer (some ⟨bs, 0, none⟩), .slice Am nm cm] w fun e w' => e = .returned (.int .i64 1) ∧ Below w.heap.size w w' := by
  have hri := right_any Am nm cm m w (by unfold maxLen; omega) (fun _ => hm) hm.rlen
  rw [hr] at hri
  have HRI := Lib.hid hri
  clear hri hm hr
  go_enter Tryz.func31, Tryz.ntmps31
  go_wp2_with (go_at_call 80; fail)
  refine HRI.out.mono ?_
  rintro e w1 ⟨rfl, hb1⟩
  go_wp2
  go_ret
  exact ⟨rfl, hb1⟩
set_option maxRecDepth 100000 in
set_option maxHeartbeats 8000000 in
theorem does_note_no (w0 w : World) (D : Nat) (bs : Nat) (A : Option Addr) (n c : Nat) (A' : Option Addr) (n' c' S k : Nat) (d : DeedH) (F : List GrC) (Z Y : Nat → Prop) (h : Duo w0 w D bs A n c A' n' S k F Z Y) (hD : 1 ≤ D ∧ D ≤ 200) (hS : S ≤ 500) (hdk : d.k = 2) (hd : d.Raw w0 w0.heap.size) (hdn : d.n ≤ 20) (hdr : rightM d.m = false) :
    Calls Tryz.prog 40 #[.pointer (some ⟨bs, 0, none⟩), .agg #[.int .i64 D, .slice A n c, .slice A' n' c'], .agg (deedA d)] w (DoesOut w0 w D S k F Z Y) := by
  obtain ⟨hnc, hb0, hZ, base, lv, mv, L, Ms, V, rfl, rfl, hbase, hs, hr, hLV, htot, hk, hVD⟩ := h
  have hb1 : Below w.heap.size w (((w.alloc (.cells #[.int .i64 D, .slice A n c, .slice A' n' c'] 88)).alloc (.cells (deedA d) 96)).alloc (.cells #[.int .i64 0, .slice none 0 0, .slice none 0 0] 88)) := belowA
  have k1 : Bk (((w.alloc (.cells #[.int .i64 D, .slice A n c, .slice A' n' c'] 88)).alloc (.cells (deedA d) 96)).alloc (.cells #[.int .i64 0, .slice none 0 0, .slice none 0 0] 88)) w.heap.size 88 #[.int .i64 D, .slice A n c, .slice A' n' c'] := ((Bk.new w _ _).alloc _).alloc _
  have k2 : Bk (((w.alloc (.cells #[.int .i64 D, .slice A n c, .slice A' n' c'] 88)).alloc (.cells (deedA d) 96)).alloc (.cells #[.int .i64 0, .slice none 0 0, .slice none 0 0] 88)) (w.heap.size + 1) 96 (deedA d) := Bk.alloc (Bk.made _ _ (by simp)) _
  have k3 : Bk (((w.alloc (.cells #[.int .i64 D, .slice A n c, .slice A' n' c'] 88)).alloc (.cells (deedA d) 96)).alloc (.cells #[.int .i64 0, .slice none 0 0, .slice none 0 0] 88)) (w.heap.size + 1 + 1) 88 #[.int .i64 0, .slice none 0 0, .slice none 0 0] := Bk.made _ _ (by simp)
  have hs1 := hs.below hb1
  have hr1 := (hr.wide (Y' := fun i => Yof bs lv mv i ∨ (Z i ∨ i = w.heap.size + 1 + 1)) (fun i hi => by rcases hi with hi | hi | hi; (· exact .inl (.inl hi)); (· exact .inl (.inr hi)); (· exact .inr (by omega)))).ext hb1
  have hyl := fun i hi => (hs.yof i hi).2
  have hrm := (hd.m.below hb0).more (hb0.size)
  have hno := fun W (hb : Below w.heap.size w W) => note_no bs d.A d.n d.c d.m W ((hrm.below hb).more hb.size) (by omega) hdr
  have HNO := Lib.hid hno
  have hri := fun W (hb : Below w.heap.size w W) => rright_any d.A d.n d.c d.m W (by unfold maxLen; omega) (fun _ => (hrm.below hb).more hb.size) hrm.rlen
  rw [hdr] at hri
  have HRI := Lib.hid hri
  have HR1 := Lib.hid hr1
  have HS := Lib.hid hs
  have HYL := Lib.hid hyl
  have HLV := Lib.hid hLV
  have c0 := (k2.cell 0).trans (show (deedA d)[0]? = some (Value.int .i64 2) by show some (Value.int .i64 d.k) = _; rw [hdk])
  have c9 := (k2.cell 9).trans (show (deedA d)[9]? = some (Value.slice d.A d.n d.c) from rfl)
  clear hs hr hs1 hr1 hyl hLV hno hri hrm
  go_enter Tryz.func40, Tryz.ntmps40
  go_wp2_with (go_at_call 31; fail)
  generalize hwE : ((w.alloc (.cells #[.int .i64 D, .slice A n c, .slice A' n' c'] 88)).alloc (.cells (deedA d) 96)).alloc (.cells #[.int .i64 0, .slice none 0 0, .slice none 0 0] 88) = w1 at *
  clear hwE c0 c9
  have hz1 := hb1.size
  refine (HNO.out w1 hb1).mono ?_
  rintro e w2 ⟨rfl, hb2⟩
  have c92 := ((k2.ext hb2).cell 9).trans (show (deedA d)[9]? = some (Value.slice d.A d.n d.c) from rfl)
  have hb12 : Below w.heap.size w w2 := hb1.trans (hb2.mono hz1)
  go_wp2_with (go_at_call 86; fail)
  refine (HRI.out w2 hb12).mono ?_
  rintro e w4 ⟨rfl, hb4⟩
  have hb14 : Below w1.heap.size w1 w4 := hb2.trans (hb4.mono hb2.size)
  have m1 := k1.ext hb14
  have m3 := k3.ext hb14
  have x0 := m1.cell 0; have x1 := m1.cell 1; have x2 := m1.cell 2
  have y0 := m3.cell 0; have y1 := m3.cell 1; have y2 := m3.cell 2; have yf := m3.frozen; have yl := def_lt' m3
  dsimp at x0 x1 x2 y0 y1 y2
  clear k1 k2 k3 c92
  go_upto_region 14 with fail
  go_region
  have g5 : w4.grownBy (((w4.setCell ⟨w.heap.size + 1 + 1, 0, none⟩ (.int .i64 D)).setCell ⟨w.heap.size + 1 + 1, 1, none⟩ (.slice A n c)).setCell ⟨w.heap.size + 1 + 1, 2, none⟩ (.slice A' n' c')) (some (w.heap.size + 1 + 1)) := gr_set (p := ⟨w.heap.size + 1 + 1, 2, none⟩) (gr_set (p := ⟨w.heap.size + 1 + 1, 1, none⟩) (gr_set (p := ⟨w.heap.size + 1 + 1, 0, none⟩) (World.grownBy.refl _ _) (.inl rfl) _) (.inl rfl) _) (.inl rfl) _
  have z5 : Bk (((w4.setCell ⟨w.heap.size + 1 + 1, 0, none⟩ (.int .i64 D)).setCell ⟨w.heap.size + 1 + 1, 1, none⟩ (.slice A n c)).setCell ⟨w.heap.size + 1 + 1, 2, none⟩ (.slice A' n' c')).drew (w.heap.size + 1 + 1) 88 #[.int .i64 D, .slice A n c, .slice A' n' c'] := (((m3.set_ 0 _).set_ 1 _).set_ 2 _).drew
  have hbsl := def_lt' HS.out.k
  have hs5 := ((((HS.out.below hb1).below hb14).grown m3 g5 (by omega))).below ((Below.refl _ _).drew)
  have hr5 := ((HR1.out.ext hb14).stir (Stir.of_gr g5 (fun i e => by injection e with e; exact .inr (.inr e.symm)))).ext ((Below.refl _ _).drew)
  have hr6 := hr5.wide (Y' := fun i => Yof bs lv mv i ∨ Z i) (fun i hi => by rcases hi with hi | hi; (· exact .inl (.inl hi)); (· exact .inl (.inr (.inl hi))))
  have hb04 : Below w0.heap.size w0 w4 := (hb0.trans (hb1.mono hb0.size)).trans (hb14.mono (Nat.le_trans hb0.size hz1))
  have hb5 := (hb04.grown g5 hb04.size (fun k e => by injection e with e; subst e; have := hb0.size; omega)).drew
  have hst5 : Stir (Yof bs lv mv) w _ := ((Stir.of_below (hb1.trans (hb14.mono hz1))).fresh (Stir.of_gr (X := fun i => i = w.heap.size + 1 + 1) g5 (fun i e => by injection e with e; exact e.symm)) (fun i e => .inr (by have : i = w.heap.size + 1 + 1 := e; omega))).trans (Stir.of_below ((Below.refl _ _).drew))
  have HST5 := Lib.hid hst5
  have hz5 := hst5.size
  clear hr5 x0 x1 x2 y0 y1 y2 hst5
  generalize (((w4.setCell ⟨w.heap.size + 1 + 1, 0, none⟩ (.int .i64 D)).setCell ⟨w.heap.size + 1 + 1, 1, none⟩ (.slice A n c)).setCell ⟨w.heap.size + 1 + 1, 2, none⟩ (.slice A' n' c')).drew = w5 at *
  have q0 := z5.cell 0; have q1 := z5.cell 1; have q2 := z5.cell 2
  dsimp at q0 q1 q2
  go_wp2
  exact bodyPost_ret (v := .tuple #[.pointer (some ⟨bs, 0, none⟩), .agg #[.int .i64 D, .slice A n c, .slice A' n' c'], .bool true]) (by simp [results, Tryz.results40, go_sem, q0, q1, q2]) rfl ⟨bs, A, n, c, A', n', c', Yof bs lv mv, rfl, ⟨hnc, hb5, fun i hi => ⟨(hZ i hi).1, Nat.lt_of_lt_of_le (hZ i hi).2 hz5⟩, base, lv, mv, _, Ms, V, rfl, rfl, hbase, hs5, hr6, HLV.out, htot, hk, hVD⟩, HST5.out, fun i hi => .inl hi⟩
set_option maxRecDepth 100000 in
set_option maxHeartbeats 8000000 in
theorem does_note_yes (w0 w : World) (D : Nat) (bs : Nat) (A : Option Addr) (n c : Nat) (A' : Option Addr) (n' c' S k : Nat) (d : DeedH) (F : List GrC) (Z Y : Nat → Prop) (h : Duo w0 w D bs A n c A' n' S k F Z Y) (hD : 1 ≤ D ∧ D ≤ 200) (hS : S ≤ 500) (hk16 : k ≤ 16) (hdk : d.k = 2) (hd : d.Raw w0 w0.heap.size) (hdn : d.n ≤ 20) (hdr : rightM d.m = true) :
    Calls Tryz.prog 40 #[.pointer (some ⟨bs, 0, none⟩), .agg #[.int .i64 D, .slice A n c, .slice A' n' c'], .agg (deedA d)] w (DoesOut w0 w D S (k + 1) (overC d.m F) Z Y) := by
  obtain ⟨hnc, hb0, hZ, base, lv, mv, L, Ms, V, rfl, rfl, hbase, hs, hr, hLV, htot, hk, hVD⟩ := h
  have hb1 : Below w.heap.size w (((w.alloc (.cells #[.int .i64 D, .slice A n c, .slice A' n' c'] 88)).alloc (.cells (deedA d) 96)).alloc (.cells #[.int .i64 0, .slice none 0 0, .slice none 0 0] 88)) := belowA
  have k1 : Bk (((w.alloc (.cells #[.int .i64 D, .slice A n c, .slice A' n' c'] 88)).alloc (.cells (deedA d) 96)).alloc (.cells #[.int .i64 0, .slice none 0 0, .slice none 0 0] 88)) w.heap.size 88 #[.int .i64 D, .slice A n c, .slice A' n' c'] := ((Bk.new w _ _).alloc _).alloc _
  have k2 : Bk (((w.alloc (.cells #[.int .i64 D, .slice A n c, .slice A' n' c'] 88)).alloc (.cells (deedA d) 96)).alloc (.cells #[.int .i64 0, .slice none 0 0, .slice none 0 0] 88)) (w.heap.size + 1) 96 (deedA d) := Bk.alloc (Bk.made _ _ (by simp)) _
  have k3 : Bk (((w.alloc (.cells #[.int .i64 D, .slice A n c, .slice A' n' c'] 88)).alloc (.cells (deedA d) 96)).alloc (.cells #[.int .i64 0, .slice none 0 0, .slice none 0 0] 88)) (w.heap.size + 1 + 1) 88 #[.int .i64 0, .slice none 0 0, .slice none 0 0] := Bk.made _ _ (by simp)
  have hs1 := hs.below hb1
  have hr1 := (hr.wide (Y' := fun i => Yof bs lv mv i ∨ (Z i ∨ i = w.heap.size + 1 + 1)) (fun i hi => by rcases hi with hi | hi | hi; (· exact .inl (.inl hi)); (· exact .inl (.inr hi)); (· exact .inr (by omega)))).ext hb1
  have hyl := fun i hi => (hs.yof i hi).2
  have hrm := (hd.m.below hb0).more (hb0.size)
  have hav : Av (Yof bs lv mv) d.A d.n := rd_av hd.m (fun i hi => Nat.le_trans hbase (hs.yof i hi).1)
  have hri := fun W (hb : Below w.heap.size w W) => rright_any d.A d.n d.c d.m W (by unfold maxLen; omega) (fun _ => (hrm.below hb).more hb.size) hrm.rlen
  rw [hdr] at hri
  have HRI := Lib.hid hri
  have HR1 := Lib.hid hr1
  have HS := Lib.hid hs
  have HYL := Lib.hid hyl
  have HLV := Lib.hid hLV
  have c0 := (k2.cell 0).trans (show (deedA d)[0]? = some (Value.int .i64 2) by show some (Value.int .i64 d.k) = _; rw [hdk])
  have c9 := (k2.cell 9).trans (show (deedA d)[9]? = some (Value.slice d.A d.n d.c) from rfl)
  clear hs hr hs1 hr1 hyl hLV hri
  go_enter Tryz.func40, Tryz.ntmps40
  go_wp2_with (go_at_call 31; fail)
  generalize hwE : ((w.alloc (.cells #[.int .i64 D, .slice A n c, .slice A' n' c'] 88)).alloc (.cells (deedA d) 96)).alloc (.cells #[.int .i64 0, .slice none 0 0, .slice none 0 0] 88) = w1 at *
  clear hwE c0 c9
  have hz1 := hb1.size
  have hpn := note_any base bs lv mv D L Ms d.A d.n d.c d.m w1 (HS.out.below hb1) (fun w' hst => ((hrm.below hb1).more hz1).stir hst hav) hd.A hdr
  rw [if_neg (by omega), if_neg (by omega)] at hpn
  have HPN := Lib.hid hpn
  clear hpn
  refine HPN.out.mono ?_
  rintro e w2 ⟨rfl, lv1, mv1, L1, Ms1, hs2, hV1, hM1, hto⟩
  have hz2 := hto.1.size
  have hl1 := def_lt' k1
  have hl2 := def_lt' k2
  have hl3 := def_lt' k3
  have hnY : ∀ i, w.heap.size ≤ i → ¬ Yof bs lv mv i := fun i hi hy => by have := HYL.out i hy; omega
  have m1 : Bk w2 w.heap.size 88 #[.int .i64 D, .slice A n c, .slice A' n' c'] := (hto.1.block _ hl1 (hnY _ (by omega))).trans k1
  have m2 : Bk w2 (w.heap.size + 1) 96 (deedA d) := (hto.1.block _ hl2 (hnY _ (by omega))).trans k2
  have m3 : Bk w2 (w.heap.size + 1 + 1) 88 #[.int .i64 0, .slice none 0 0, .slice none 0 0] := (hto.1.block _ hl3 (hnY _ (by omega))).trans k3
  have hrm2 := ((hrm.below hb1).more hz1).stir hto.1 hav
  have hb02 : Below w0.heap.size w0 w2 := (hb0.trans (hb1.mono hb0.size)).trans ((hto.below (HS.out.below hb1)).mono hbase)
  have hr2 := duo_ownX _ HR1.out hto
  have hri2 := rright_any d.A d.n d.c d.m w2 (by unfold maxLen; omega) (fun _ => hrm2) hrm2.rlen
  rw [hdr] at hri2
  have HRI2 := Lib.hid hri2
  have c92 := (m2.cell 9).trans (show (deedA d)[9]? = some (Value.slice d.A d.n d.c) from rfl)
  have HS2 := Lib.hid hs2
  have HR2 := Lib.hid hr2
  have HM1 := Lib.hid hM1
  have HV1 := Lib.hid hV1
  have HRM2 := Lib.hid hrm2
  have hyn := fun i hi => (hs2.yof i hi)
  have HYN := Lib.hid hyn
  have hst2 : Stir (Yof bs lv mv) w w2 := (Stir.of_below hb1).trans hto.1
  have hsub := sub_of hto hz1
  have HST := Lib.hid hst2
  have HSUB := Lib.hid hsub
  clear hst2 hsub
  clear hri2 hs2 hr2 hM1 hV1 hrm2 hyn hto hnY HPN HRI HR1 k1 k2 k3 hrm hav
  go_wp2_with (go_at_call 86; fail)
  refine HRI2.out.mono ?_
  rintro e w4 ⟨rfl, hb4⟩
  have m14 := m1.ext hb4
  have m24 := m2.ext hb4
  have x0 := m14.cell 0; have x1 := m14.cell 1; have x2 := m14.cell 2
  have c94 := (m24.cell 9).trans (show (deedA d)[9]? = some (Value.slice d.A d.n d.c) from rfl)
  dsimp at x0 x1 x2
  have hml : d.m.length = d.n := HRM2.out.rlen
  have hn' : n' ≤ 499 := by
    have h1 := HR2.out.m.len
    simp only [List.length_map] at h1
    omega
  have hrn := rnote_any D A n c A' n' c' V (Ms.map MpH.l) d.A d.c d.m w4 (fun i => Yof bs lv1 mv1 i ∨ (Z i ∨ i = w.heap.size + 1 + 1)) (fun i hi => by
    have := hb4.size
    rcases hi with hi | hi | hi
    · have := (HYN.out i hi).2; omega
    · have := (hZ i hi).2; omega
    · have := def_lt' m3; omega) (HR2.out.ext hb4) (by rw [hml]; exact (HRM2.out.below hb4).more hb4.size) (by
    rw [hml]
    exact rd_av hd.m (fun i hi => by
      rcases hi with hi | hi | hi
      · exact Nat.le_trans hbase (HYN.out i hi).1
      · exact (hZ i hi).1
      · have := hb0.size; omega)) (by omega) hn'
  rw [hml] at hrn
  have HRN := Lib.hid hrn
  have HML := Lib.hid hml
  clear hrn hml c92
  go_wp2_with (go_at_call 87; fail)
  refine HRN.out.mono ?_
  rintro e w5 ⟨A3, c3, rfl, hr5, hb5⟩
  have hb25 : Below w2.heap.size w2 w5 := hb4.trans (hb5.mono hb4.size)
  have y3 := m3.ext hb25
  have q0 := y3.cell 0; have q1 := y3.cell 1; have q2 := y3.cell 2; have qf := y3.frozen; have ql := def_lt' y3
  dsimp at q0 q1 q2
  clear x0 x1 x2 c94
  have g6 : w5.grownBy (((w5.setCell ⟨w.heap.size + 1 + 1, 0, none⟩ (.int .i64 D)).setCell ⟨w.heap.size + 1 + 1, 1, none⟩ (.slice A n c)).setCell ⟨w.heap.size + 1 + 1, 2, none⟩ (.slice A3 (n' + 1) c3)) (some (w.heap.size + 1 + 1)) := gr_set (p := ⟨w.heap.size + 1 + 1, 2, none⟩) (gr_set (p := ⟨w.heap.size + 1 + 1, 1, none⟩) (gr_set (p := ⟨w.heap.size + 1 + 1, 0, none⟩) (World.grownBy.refl _ _) (.inl rfl) _) (.inl rfl) _) (.inl rfl) _
  have z6 : Bk (((w5.setCell ⟨w.heap.size + 1 + 1, 0, none⟩ (.int .i64 D)).setCell ⟨w.heap.size + 1 + 1, 1, none⟩ (.slice A n c)).setCell ⟨w.heap.size + 1 + 1, 2, none⟩ (.slice A3 (n' + 1) c3)) (w.heap.size + 1 + 1) 88 #[.int .i64 D, .slice A n c, .slice A3 (n' + 1) c3] := ((y3.set_ 0 _).set_ 1 _).set_ 2 _
  have hbsl := def_lt' HS.out.k
  have hs6 := (HS2.out.below hb25).grown y3 g6 (by omega)
  have hr6 := (hr5.stir (Stir.of_gr g6 (fun i e => by injection e with e; exact .inr (.inr e.symm)))).wide (Y' := fun i => Yof bs lv1 mv1 i ∨ Z i) (fun i hi => by rcases hi with hi | hi; (· exact .inl (.inl hi)); (· exact .inl (.inr (.inl hi))))
  have hb05 := hb02.trans (hb25.mono hb02.size)
  have hb6 : Below w0.heap.size w0 (((w5.setCell ⟨w.heap.size + 1 + 1, 0, none⟩ (.int .i64 D)).setCell ⟨w.heap.size + 1 + 1, 1, none⟩ (.slice A n c)).setCell ⟨w.heap.size + 1 + 1, 2, none⟩ (.slice A3 (n' + 1) c3)) := hb05.grown g6 hb05.size (fun k e => by injection e with e; subst e; have := hb0.size; omega)
  have hst6 := (HST.out.trans (Stir.of_below hb25)).fresh (Stir.of_gr (X := fun i => i = w.heap.size + 1 + 1) g6 (fun i e => by injection e with e; exact e.symm)) (fun i e => .inr (by have : i = w.heap.size + 1 + 1 := e; omega))
  have hz6 := hst6.size
  have HST6 := Lib.hid hst6
  clear hst6
  go_wp2
  generalize ((w5.setCell ⟨w.heap.size + 1 + 1, 0, none⟩ (.int .i64 D)).setCell ⟨w.heap.size + 1 + 1, 1, none⟩ (.slice A n c)).setCell ⟨w.heap.size + 1 + 1, 2, none⟩ (.slice A3 (n' + 1) c3) = w6 at *
  clear q0 q1 q2
  have q0 := z6.cell 0; have q1 := z6.cell 1; have q2 := z6.cell 2
  dsimp at q0 q1 q2
  exact bodyPost_ret (v := .tuple #[.pointer (some ⟨bs, 0, none⟩), .agg #[.int .i64 D, .slice A n c, .slice A3 (n' + 1) c3], .bool true]) (by simp [results, Tryz.results40, go_sem, q0, q1, q2]) rfl ⟨bs, A, n, c, A3, n' + 1, c3, Yof bs lv1 mv1, rfl, ⟨hnc, hb6, fun i hi => ⟨(hZ i hi).1, Nat.lt_of_lt_of_le (hZ i hi).2 hz6⟩, base, lv1, mv1, L1, Ms1, V, rfl, by rw [HM1.out, foldC_snoc], hbase, hs6, by rw [HM1.out]; exact hr6, by rw [HV1.out, HLV.out], htot, by have h1 := congrArg List.length HM1.out; simp only [List.length_map, List.length_append, List.length_cons, List.length_nil] at h1; omega, hVD⟩, HST6.out, HSUB.out⟩
set_option maxRecDepth 100000 in
set_option maxHeartbeats 8000000 in
theorem does_set (w0 w : World) (D : Nat) (bs : Nat) (A : Option Addr) (n c : Nat) (A' : Option Addr) (n' c' S k : Nat) (d : DeedH) (F : List GrC) (Z Y : Nat → Prop) (h : Duo w0 w D bs A n c A' n' S k F Z Y) (hD : 1 ≤ D ∧ D ≤ 200) (hS : S ≤ 500) (hdk : d.k = 4) (hd : d.Raw w0 w0.heap.size) (hd1 : d.g.n ≤ 20) (hd2 : SmallS d.g.L) :
    Calls Tryz.prog 40 #[.pointer (some ⟨bs, 0, none⟩), .agg #[.int .i64 D, .slice A n c, .slice A' n' c'], .agg (deedA d)] w (DoesOut w0 w D (S + d.g.n) k [d.g.val] Z Y) := by
  obtain ⟨hnc, hb0, hZ, base, lv, mv, L, Ms, V, rfl, rfl, hbase, hs, hr, hLV, htot, hk, hVD⟩ := h
  have hb1 : Below w.heap.size w (((w.alloc (.cells #[.int .i64 D, .slice A n c, .slice A' n' c'] 88)).alloc (.cells (deedA d) 96)).alloc (.cells #[.int .i64 0, .slice none 0 0, .slice none 0 0] 88)) := belowA
  have k1 : Bk (((w.alloc (.cells #[.int .i64 D, .slice A n c, .slice A' n' c'] 88)).alloc (.cells (deedA d) 96)).alloc (.cells #[.int .i64 0, .slice none 0 0, .slice none 0 0] 88)) w.heap.size 88 #[.int .i64 D, .slice A n c, .slice A' n' c'] := ((Bk.new w _ _).alloc _).alloc _
  have k2 : Bk (((w.alloc (.cells #[.int .i64 D, .slice A n c, .slice A' n' c'] 88)).alloc (.cells (deedA d) 96)).alloc (.cells #[.int .i64 0, .slice none 0 0, .slice none 0 0] 88)) (w.heap.size + 1) 96 (deedA d) := Bk.alloc (Bk.made _ _ (by simp)) _
  have k3 : Bk (((w.alloc (.cells #[.int .i64 D, .slice A n c, .slice A' n' c'] 88)).alloc (.cells (deedA d) 96)).alloc (.cells #[.int .i64 0, .slice none 0 0, .slice none 0 0] 88)) (w.heap.size + 1 + 1) 88 #[.int .i64 0, .slice none 0 0, .slice none 0 0] := Bk.made _ _ (by simp)
  have hs1 := hs.below hb1
  have hr1 := (hr.wide (Y' := fun i => Yof bs lv mv i ∨ (Z i ∨ i = w.heap.size + 1 + 1)) (fun i hi => by rcases hi with hi | hi | hi; (· exact .inl (.inl hi)); (· exact .inl (.inr hi)); (· exact .inr (by omega)))).ext hb1
  have hyl := fun i hi => (hs.yof i hi).2
  have HR1 := Lib.hid hr1
  have HS := Lib.hid hs
  have HYL := Lib.hid hyl
  have HLV := Lib.hid hLV
  have c0 := (k2.cell 0).trans (show (deedA d)[0]? = some (Value.int .i64 4) by show some (Value.int .i64 d.k) = _; rw [hdk])
  have d1 := (k2.cell 1).trans (show (deedA d)[1]? = _ from rfl)
  have d2 := (k2.cell 2).trans (show (deedA d)[2]? = _ from rfl)
  have d3 := (k2.cell 3).trans (show (deedA d)[3]? = _ from rfl)
  have d4 := (k2.cell 4).trans (show (deedA d)[4]? = _ from rfl)
  have d5 := (k2.cell 5).trans (show (deedA d)[5]? = _ from rfl)
  have d6 := (k2.cell 6).trans (show (deedA d)[6]? = _ from rfl)
  have d7 := (k2.cell 7).trans (show (deedA d)[7]? = _ from rfl)
  have d8 := (k2.cell 8).trans (show (deedA d)[8]? = _ from rfl)
  clear hs hr hs1 hr1 hyl hLV
  have HZE : Hid ((((w.alloc (.cells #[.int .i64 D, .slice A n c, .slice A' n' c'] 88)).alloc (.cells (deedA d) 96)).alloc (.cells #[.int .i64 0, .slice none 0 0, .slice none 0 0] 88)).heap.size = w.heap.size + 1 + 1 + 1) := Lib.hid (by simp)
  go_enter Tryz.func40, Tryz.ntmps40
  go_wp2_with (go_at_call 84; fail)
  generalize hwE : ((w.alloc (.cells #[.int .i64 D, .slice A n c, .slice A' n' c'] 88)).alloc (.cells (deedA d) 96)).alloc (.cells #[.int .i64 0, .slice none 0 0, .slice none 0 0] 88) = w1 at *
  clear hwE c0 d1 d2 d3 d4 d5 d6 d7 d8
  have hz1 := hb1.size
  rw [← HZE.out]
  have hbg : Below w1.heap.size w1 (w1.alloc (.cells #[.slice d.g.A d.g.n d.g.c, .int .i64 d.g.pin.k, .int .i64 d.g.pin.a, .int .i64 d.g.pin.b, .int .i64 d.g.back.k, .int .i64 d.g.back.a, .int .i64 d.g.back.b, .int .i64 d.g.lost] 93)) := belowA
  have kg : Bk (w1.alloc (.cells #[.slice d.g.A d.g.n d.g.c, .int .i64 d.g.pin.k, .int .i64 d.g.pin.a, .int .i64 d.g.pin.b, .int .i64 d.g.back.k, .int .i64 d.g.back.a, .int .i64 d.g.back.b, .int .i64 d.g.lost] 93)) w1.heap.size 93 d.g.cells.toArray := Bk.new w1 _ _
  generalize w1.alloc (.cells #[.slice d.g.A d.g.n d.g.c, .int .i64 d.g.pin.k, .int .i64 d.g.pin.a, .int .i64 d.g.pin.b, .int .i64 d.g.back.k, .int .i64 d.g.back.a, .int .i64 d.g.back.b, .int .i64 d.g.lost] 93) = wg at *
  have hzg := hbg.size
  have hb1g : Below w.heap.size w wg := hb1.trans (hbg.mono hz1)
  have hb0g : Below w0.heap.size w0 wg := hb0.trans (hb1g.mono hb0.size)
  have hgr : GrsRaw wg wg.heap.size (some ⟨w1.heap.size, 0, none⟩) 1 [d.g] := ⟨Rd.of_bk kg (by simp [grs]) rfl (def_lt' kg), fun x hx => by simp at hx; subst hx; exact (hd.g.below hb0g).more hb0g.size⟩
  have hsm : Small [d.g] := fun x hx => by simp at hx; subst hx; exact ⟨hd1, hd2⟩
  refine (theirs_any (some ⟨w1.heap.size, 0, none⟩) 1 1 [d.g] wg hgr (by omega)).mono ?_
  rintro e w2 ⟨v2, rfl, o2, hb2⟩
  obtain ⟨A2, c2, rfl, hin2⟩ := grs_in hgr hsm o2 hb2 hb2.size
  have hb12 : Below w1.heap.size w1 w2 := hbg.trans (hb2.mono hzg)
  have hset := set_any base bs lv mv D L Ms A2 1 c2 [d.g] w2 ((HS.out.below hb1).below hb12) hin2 (by omega) (fun x hx => by
    simp at hx
    subst hx
    have h1 : d.g.L.length = d.g.n := by have := hin2.2 d.g (by simp); exact this.sts.len
    exact ⟨by simp [GrH.val]; omega, hd.g.lost⟩)
  have HSET := Lib.hid hset
  clear hset hin2 hgr hsm o2
  go_wp2_with (go_at_call 29; fail)
  refine HSET.out.mono ?_
  rintro e w3 ⟨⟨v, rfl⟩, lv3, mv3, L3, Ms3, hs3, hV3, hM3, hto⟩
  obtain rfl : Ms3 = [] := by simpa using hM3
  have hz3 := hto.1.size
  have hz2 := hb12.size
  have hl3 := def_lt' k3
  have hnY : ∀ i, w.heap.size ≤ i → ¬ Yof bs lv mv i := fun i hi hy => by have := HYL.out i hy; omega
  have m1 : Bk w3 w.heap.size 88 #[.int .i64 D, .slice A n c, .slice A' n' c'] := (hto.1.block _ (by omega) (hnY _ (by omega))).trans (k1.ext hb12)
  have m2 : Bk w3 (w.heap.size + 1) 96 (deedA d) := (hto.1.block _ (by omega) (hnY _ (by omega))).trans (k2.ext hb12)
  have m3 : Bk w3 (w.heap.size + 1 + 1) 88 #[.int .i64 0, .slice none 0 0, .slice none 0 0] := (hto.1.block _ (by omega) (hnY _ (by omega))).trans (k3.ext hb12)
  have hb03 : Below w0.heap.size w0 w3 := (hb0.trans (hb1.mono hb0.size)).trans ((hb12.mono (Nat.le_trans hb0.size hz1)).trans ((hto.below ((HS.out.below hb1).below hb12)).mono hbase))
  have x0 := m1.cell 0; have x1 := m1.cell 1; have x2 := m1.cell 2
  have y0 := m3.cell 0; have y1 := m3.cell 1; have y2 := m3.cell 2; have yf := m3.frozen; have yl := def_lt' m3
  have d1 := (m2.cell 1).trans (show (deedA d)[1]? = _ from rfl)
  have d2 := (m2.cell 2).trans (show (deedA d)[2]? = _ from rfl)
  have d3 := (m2.cell 3).trans (show (deedA d)[3]? = _ from rfl)
  have d4 := (m2.cell 4).trans (show (deedA d)[4]? = _ from rfl)
  have d5 := (m2.cell 5).trans (show (deedA d)[5]? = _ from rfl)
  have d6 := (m2.cell 6).trans (show (deedA d)[6]? = _ from rfl)
  have d7 := (m2.cell 7).trans (show (deedA d)[7]? = _ from rfl)
  have d8 := (m2.cell 8).trans (show (deedA d)[8]? = _ from rfl)
  dsimp at x0 x1 x2 y0 y1 y2
  have HS3 := Lib.hid hs3
  have HV3 := Lib.hid hV3
  have hst3 : Stir (Yof bs lv mv) w w3 := (Stir.of_below (hb1.trans (hb12.mono hz1))).trans hto.1
  have hsub := sub_of hto (Nat.le_trans hz1 hz2)
  have HST := Lib.hid hst3
  have HSUB := Lib.hid hsub
  have HYN := Lib.hid (fun i hi => hs3.yof i hi)
  clear hs3 hV3 hto hM3 hnY k1 k2 k3 kg HR1 HSET hst3 hsub
  have hF : ∀ W, (Bk W w.heap.size 88 #[.int .i64 D, .slice A n c, .slice A' n' c'] ∧ Bk W (w.heap.size + 1) 96 (deedA d)) → W.cell? ⟨w.heap.size, 0, none⟩ = some (.int .i64 D) ∧ W.cell? ⟨w.heap.size + 1, 1, none⟩ = some (.slice d.g.A d.g.n d.g.c) ∧ W.cell? ⟨w.heap.size + 1, 2, none⟩ = some (.int .i64 d.g.pin.k) ∧ W.cell? ⟨w.heap.size + 1, 3, none⟩ = some (.int .i64 d.g.pin.a) ∧ W.cell? ⟨w.heap.size + 1, 4, none⟩ = some (.int .i64 d.g.pin.b) ∧ W.cell? ⟨w.heap.size + 1, 5, none⟩ = some (.int .i64 d.g.back.k) ∧ W.cell? ⟨w.heap.size + 1, 6, none⟩ = some (.int .i64 d.g.back.a) ∧ W.cell? ⟨w.heap.size + 1, 7, none⟩ = some (.int .i64 d.g.back.b) ∧ W.cell? ⟨w.heap.size + 1, 8, none⟩ = some (.int .i64 d.g.lost) := fun W h => ⟨h.1.cell 0, h.2.cell 1, h.2.cell 2, h.2.cell 3, h.2.cell 4, h.2.cell 5, h.2.cell 6, h.2.cell 7, h.2.cell 8⟩
  have HF := Lib.hid hF
  clear hF d1 d2 d3 d4 d5 d6 d7 d8 x0 x1 x2 y0 y1 y2
  go_upto_region 21 with fail
  refine wp_normal ?_
  refine wp_region_held_drew (S := fun W => Bk W w.heap.size 88 #[.int .i64 D, .slice A n c, .slice A' n' c'] ∧ Bk W (w.heap.size + 1) 96 (deedA d)) (by kernel_rfl) ⟨m1.drew, m2.drew⟩ (fun hHeld => ?_)
  (refine tkH 0 ?_; refine tkH 1 ?_; refine tkH 2 ?_; refine tkH 3 ?_; refine tkH 4 ?_; refine tkH 7 ?_)
  have hbg : Below w3.heap.size w3 (w3.alloc (.cells #[.slice d.g.A d.g.n d.g.c, .int .i64 d.g.pin.k, .int .i64 d.g.pin.a, .int .i64 d.g.pin.b, .int .i64 d.g.back.k, .int .i64 d.g.back.a, .int .i64 d.g.back.b, .int .i64 d.g.lost] 93)).drew := belowA
  have kg : Bk (w3.alloc (.cells #[.slice d.g.A d.g.n d.g.c, .int .i64 d.g.pin.k, .int .i64 d.g.pin.a, .int .i64 d.g.pin.b, .int .i64 d.g.back.k, .int .i64 d.g.back.a, .int .i64 d.g.back.b, .int .i64 d.g.lost] 93)).drew w3.heap.size 93 d.g.cells.toArray := Bk.drew (Bk.new w3 _ _)
  refine nxH 5 (fun K hK => ?_)
  go_simp
  refine hK.out _ _ ⟨m1.drew.alloc _, m2.drew.alloc _⟩ (fun hHeld => ?_)
  clear hK K; refine puH ?_
  generalize (w3.alloc (.cells #[.slice d.g.A d.g.n d.g.c, .int .i64 d.g.pin.k, .int .i64 d.g.pin.a, .int .i64 d.g.pin.b, .int .i64 d.g.back.k, .int .i64 d.g.back.a, .int .i64 d.g.back.b, .int .i64 d.g.lost] 93)).drew = w4 at *
  (refine tkH 6 ?_)
  have m14 := m1.ext hbg
  have m24 := m2.ext hbg
  have m34 := m3.ext hbg
  have x0 := m34.cell 0; have x1 := m34.cell 1; have x2 := m34.cell 2; have xf := m34.frozen; have xl := def_lt' m34
  dsimp at x0 x1 x2
  have g7 : w4.grownBy (((w4.setCell ⟨w.heap.size + 1 + 1, 0, none⟩ (.int .i64 D)).setCell ⟨w.heap.size + 1 + 1, 1, none⟩ (.slice (some ⟨w3.heap.size, 0, none⟩) 1 1)).setCell ⟨w.heap.size + 1 + 1, 2, none⟩ (.slice none 0 0)) (some (w.heap.size + 1 + 1)) := gr_set (p := ⟨w.heap.size + 1 + 1, 2, none⟩) (gr_set (p := ⟨w.heap.size + 1 + 1, 1, none⟩) (gr_set (p := ⟨w.heap.size + 1 + 1, 0, none⟩) (World.grownBy.refl _ _) (.inl rfl) _) (.inl rfl) _) (.inl rfl) _
  refine nxH 8 (fun K hK => ?_)
  go_simp
  refine hK.out _ _ ⟨m14.grown g7 (by simp; omega), m24.grown g7 (by simp)⟩ (fun hHeld => ?_)
  clear hK K; refine puH ?_
  (refine tkH 9 ?_)
  refine wpAnyH_done (by kernel_rfl) ?_ _
  have z7 : Bk (((w4.setCell ⟨w.heap.size + 1 + 1, 0, none⟩ (.int .i64 D)).setCell ⟨w.heap.size + 1 + 1, 1, none⟩ (.slice (some ⟨w3.heap.size, 0, none⟩) 1 1)).setCell ⟨w.heap.size + 1 + 1, 2, none⟩ (.slice none 0 0)) (w.heap.size + 1 + 1) 88 #[.int .i64 D, .slice (some ⟨w3.heap.size, 0, none⟩) 1 1, .slice none 0 0] := ((m34.set_ 0 _).set_ 1 _).set_ 2 _
  have hbsl := def_lt' HS.out.k
  have hs7 := (HS3.out.below hbg).grown m34 g7 (by omega)
  have hYl : ∀ i, (Yof bs lv3 mv3 i ∨ (Z i ∨ i = w.heap.size + 1 + 1)) → w0.heap.size ≤ i ∧ i < w3.heap.size := fun i hi => by
    have := hb0.size
    rcases hi with hi | hi | hi
    · exact ⟨Nat.le_trans hbase (HYN.out i hi).1, (HYN.out i hi).2⟩
    · have := hZ i hi; omega
    · have := def_lt' m3; omega
  have hb04 : Below w0.heap.size w0 w4 := hb03.trans (hbg.mono hb03.size)
  have hgX := deed_x (Y := fun i => Yof bs lv3 mv3 i ∨ (Z i ∨ i = w.heap.size + 1 + 1)) hd hd1 hd2 hb04 (fun i hi => (hYl i hi).1)
  have hgs := GrsX.cons (L := []) (A2 := some ⟨w3.heap.size, 0, none⟩) (n2 := 1) hgX (by simp) (Rd.of_bk kg (by simp [grs]) rfl (def_lt' kg)) (fun h => by cases h) (fun _ a ha hy => by injection ha with ha; subst ha; have := (hYl _ hy).2; simp at this)
  have hgl : d.g.L.length = d.g.n := hd.g.sts.len
  have hr4 : RStk w4 (fun i => Yof bs lv3 mv3 i ∨ (Z i ∨ i = w.heap.size + 1 + 1)) (some ⟨w3.heap.size, 0, none⟩) 1 none 0 [d.g.val] [] := ⟨⟨[d.g], hgs, rfl⟩, MapsX.nil_ _ _, by omega, by omega, by rw [totC_cons]; simp [GrH.val, totC]; omega, fun x hx => by simp at hx; subst hx; exact ⟨by simp [GrH.val]; omega, hd.g.lost⟩, by simp⟩
  have hr7 := (hr4.stir (Stir.of_gr g7 (fun i e => by injection e with e; exact .inr (.inr e.symm)))).wide (Y' := fun i => Yof bs lv3 mv3 i ∨ Z i) (fun i hi => by rcases hi with hi | hi; (· exact .inl (.inl hi)); (· exact .inl (.inr (.inl hi))))
  have hb7 := hb04.grown g7 hb04.size (fun k e => by injection e with e; subst e; have := hb0.size; omega)
  have hst7 := (HST.out.trans (Stir.of_below hbg)).fresh (Stir.of_gr (X := fun i => i = w.heap.size + 1 + 1) g7 (fun i e => by injection e with e; exact e.symm)) (fun i e => .inr (by have : i = w.heap.size + 1 + 1 := e; omega))
  have hz7 := hst7.size
  have HST7 := Lib.hid hst7
  have htt : totC [d.g.val] ≤ S + d.g.n := by rw [totC_cons]; simp [GrH.val, totC]; omega
  have HTT := Lib.hid htt
  have HR7 := Lib.hid hr7
  clear htt hr7 hst7 hr4 hgs hgX hYl hgl x0 x1 x2
  generalize ((w4.setCell ⟨w.heap.size + 1 + 1, 0, none⟩ (.int .i64 D)).setCell ⟨w.heap.size + 1 + 1, 1, none⟩ (.slice (some ⟨w3.heap.size, 0, none⟩) 1 1)).setCell ⟨w.heap.size + 1 + 1, 2, none⟩ (.slice none 0 0) = w7 at *
  have q0 := z7.cell 0; have q1 := z7.cell 1; have q2 := z7.cell 2
  dsimp at q0 q1 q2
  go_wp2
  exact bodyPost_ret (v := .tuple #[.pointer (some ⟨bs, 0, none⟩), .agg #[.int .i64 D, .slice (some ⟨w3.heap.size, 0, none⟩) 1 1, .slice none 0 0], .bool true]) (by simp [results, Tryz.results40, go_sem, q0, q1, q2]) rfl ⟨bs, some ⟨w3.heap.size, 0, none⟩, 1, 1, none, 0, 0, Yof bs lv3 mv3, rfl, ⟨Nat.le_refl _, hb7, fun i hi => ⟨(hZ i hi).1, Nat.lt_of_lt_of_le (hZ i hi).2 hz7⟩, base, lv3, mv3, L3, [], [d.g.val], rfl, rfl, hbase, hs7, HR7.out, HV3.out, HTT.out, Nat.zero_le _, by simp; omega⟩, HST7.out, HSUB.out⟩
set_option maxRecDepth 100000 in
set_option maxHeartbeats 8000000 in
theorem does_push (w0 w : World) (D : Nat) (bs : Nat) (A : Option Addr) (n c : Nat) (A' : Option Addr) (n' c' S k : Nat) (d : DeedH) (F : List GrC) (Z Y : Nat → Prop) (h : Duo w0 w D bs A n c A' n' S k F Z Y) (hD : 1 ≤ D ∧ D ≤ 200) (hS : S ≤ 500) (hdk : d.k = 0) (hd : d.Raw w0 w0.heap.size) (hd1 : d.g.n ≤ 20) (hd2 : SmallS d.g.L) :
    Calls Tryz.prog 40 #[.pointer (some ⟨bs, 0, none⟩), .agg #[.int .i64 D, .slice A n c, .slice A' n' c'], .agg (deedA d)] w (DoesOut w0 w D (S + d.g.n) k ((d.g.val :: F).take (F.length + 1 - (F.length + 1 - D))) Z Y) := by
  obtain ⟨hnc, hb0, hZ, base, lv, mv, L, Ms, V, rfl, rfl, hbase, hs, hr, hLV, htot, hk, hVD⟩ := h
  have hb1 : Below w.heap.size w (((w.alloc (.cells #[.int .i64 D, .slice A n c, .slice A' n' c'] 88)).alloc (.cells (deedA d) 96)).alloc (.cells #[.int .i64 0, .slice none 0 0, .slice none 0 0] 88)) := belowA
  have k1 : Bk (((w.alloc (.cells #[.int .i64 D, .slice A n c, .slice A' n' c'] 88)).alloc (.cells (deedA d) 96)).alloc (.cells #[.int .i64 0, .slice none 0 0, .slice none 0 0] 88)) w.heap.size 88 #[.int .i64 D, .slice A n c, .slice A' n' c'] := ((Bk.new w _ _).alloc _).alloc _
  have k2 : Bk (((w.alloc (.cells #[.int .i64 D, .slice A n c, .slice A' n' c'] 88)).alloc (.cells (deedA d) 96)).alloc (.cells #[.int .i64 0, .slice none 0 0, .slice none 0 0] 88)) (w.heap.size + 1) 96 (deedA d) := Bk.alloc (Bk.made _ _ (by simp)) _
  have k3 : Bk (((w.alloc (.cells #[.int .i64 D, .slice A n c, .slice A' n' c'] 88)).alloc (.cells (deedA d) 96)).alloc (.cells #[.int .i64 0, .slice none 0 0, .slice none 0 0] 88)) (w.heap.size + 1 + 1) 88 #[.int .i64 0, .slice none 0 0, .slice none 0 0] := Bk.made _ _ (by simp)
  have hs1 := hs.below hb1
  have hr1 := (hr.wide (Y' := fun i => Yof bs lv mv i ∨ (Z i ∨ i = w.heap.size + 1 + 1)) (fun i hi => by rcases hi with hi | hi | hi; (· exact .inl (.inl hi)); (· exact .inl (.inr hi)); (· exact .inr (by omega)))).ext hb1
  have hyl := fun i hi => (hs.yof i hi).2
  have hyb := fun i hi => (hs.yof i hi).1
  have hb01 := hb0.trans (hb1.mono hb0.size)
  have hgX := deed_x (Y := fun i => Yof bs lv mv i ∨ (Z i ∨ i = w.heap.size + 1 + 1)) hd hd1 hd2 hb01 (fun i hi => by
    rcases hi with hi | hi | hi
    · exact Nat.le_trans hbase (hyb i hi)
    · exact (hZ i hi).1
    · have := hb0.size; omega)
  have hgl : d.g.L.length = d.g.n := hd.g.sts.len
  have hVn : V.length = n := hr.len
  have hn200 : n ≤ 200 := by omega
  have hpu := rpush_any D hD.1 (by omega) A n c A' n' c' V (Ms.map MpH.l) d.g _ (fun i => Yof bs lv mv i ∨ (Z i ∨ i = w.heap.size + 1 + 1)) (fun i hi => by
    have := def_lt' k3
    have := hb1.size
    rcases hi with hi | hi | hi
    · have := hyl i hi; omega
    · have := (hZ i hi).2; omega
    · omega) hnc hr1 hgX (by omega) (by omega)
  have HPU := Lib.hid hpu
  have HS := Lib.hid hs
  have HYL := Lib.hid hyl
  have HLV := Lib.hid hLV
  have HGX := Lib.hid hgX
  have HVN := Lib.hid hVn
  have HGL := Lib.hid hgl
  have c0 := (k2.cell 0).trans (show (deedA d)[0]? = some (Value.int .i64 0) by show some (Value.int .i64 d.k) = _; rw [hdk])
  have x0 := k1.cell 0; have x1 := k1.cell 1; have x2 := k1.cell 2
  have d1 := (k2.cell 1).trans (show (deedA d)[1]? = _ from rfl)
  have d2 := (k2.cell 2).trans (show (deedA d)[2]? = _ from rfl)
  have d3 := (k2.cell 3).trans (show (deedA d)[3]? = _ from rfl)
  have d4 := (k2.cell 4).trans (show (deedA d)[4]? = _ from rfl)
  have d5 := (k2.cell 5).trans (show (deedA d)[5]? = _ from rfl)
  have d6 := (k2.cell 6).trans (show (deedA d)[6]? = _ from rfl)
  have d7 := (k2.cell 7).trans (show (deedA d)[7]? = _ from rfl)
  have d8 := (k2.cell 8).trans (show (deedA d)[8]? = _ from rfl)
  dsimp at x0 x1 x2
  clear hs hr hs1 hr1 hyl hyb hLV hpu hgX hVn hgl
  go_enter Tryz.func40, Tryz.ntmps40
  go_wp2_with (go_at_call 83; fail)
  generalize hwE : ((w.alloc (.cells #[.int .i64 D, .slice A n c, .slice A' n' c'] 88)).alloc (.cells (deedA d) 96)).alloc (.cells #[.int .i64 0, .slice none 0 0, .slice none 0 0] 88) = w1 at *
  clear hwE c0 d1 d2 d3 d4 d5 d6 d7 d8 x0 x1 x2
  have hz1 := hb1.size
  refine HPU.out.mono ?_
  rintro e w2 ⟨A2, c2, A3, n3, c3, rfl, hc2, hr2, hb2⟩
  go_upto_region 4 with fail
  have kB := Bk.new w2 88 #[.int .i64 D, .slice A2 (n + 1 - (n + 1 - D)) c2, .slice A3 n3 c3]
  have hb3 : Below w2.heap.size w2 (w2.alloc (.cells #[.int .i64 D, .slice A2 (n + 1 - (n + 1 - D)) c2, .slice A3 n3 c3] 88)) := belowA
  have hB : w2.heap.size < (w2.alloc (.cells #[.int .i64 D, .slice A2 (n + 1 - (n + 1 - D)) c2, .slice A3 n3 c3] 88)).heap.size := def_lt' kB
  generalize w2.alloc (.cells #[.int .i64 D, .slice A2 (n + 1 - (n + 1 - D)) c2, .slice A3 n3 c3] 88) = w3 at *
  have hz2 := hb2.size
  have hz3 := hb3.size
  have hb13 : Below w1.heap.size w1 w3 := hb2.trans (hb3.mono hz2)
  have m2 := k2.ext hb13
  have m3 := k3.ext hb13
  have hl2 := def_lt' k2
  have hl3 := def_lt' k3
  have hnY : ∀ i, w.heap.size ≤ i → ¬ Yof bs lv mv i := fun i hi hy => by have := HYL.out i hy; omega
  have HNY := Lib.hid hnY
  have HR2 := Lib.hid hr2
  have hF : ∀ W, (Bk W w2.heap.size 88 #[.int .i64 D, .slice A2 (n + 1 - (n + 1 - D)) c2, .slice A3 n3 c3] ∧ Bk W (w.heap.size + 1) 96 (deedA d)) → W.cell? ⟨w2.heap.size, 0, none⟩ = some (.int .i64 D) ∧ W.cell? ⟨w2.heap.size, 1, none⟩ = some (.slice A2 (n + 1 - (n + 1 - D)) c2) ∧ W.cell? ⟨w2.heap.size, 2, none⟩ = some (.slice A3 n3 c3) ∧ W.cell? ⟨w.heap.size + 1, 1, none⟩ = some (.slice d.g.A d.g.n d.g.c) ∧ W.cell? ⟨w.heap.size + 1, 2, none⟩ = some (.int .i64 d.g.pin.k) ∧ W.cell? ⟨w.heap.size + 1, 3, none⟩ = some (.int .i64 d.g.pin.a) ∧ W.cell? ⟨w.heap.size + 1, 4, none⟩ = some (.int .i64 d.g.pin.b) ∧ W.cell? ⟨w.heap.size + 1, 5, none⟩ = some (.int .i64 d.g.back.k) ∧ W.cell? ⟨w.heap.size + 1, 6, none⟩ = some (.int .i64 d.g.back.a) ∧ W.cell? ⟨w.heap.size + 1, 7, none⟩ = some (.int .i64 d.g.back.b) ∧ W.cell? ⟨w.heap.size + 1, 8, none⟩ = some (.int .i64 d.g.lost) := fun W h => ⟨h.1.cell 0, h.1.cell 1, h.1.cell 2, h.2.cell 1, h.2.cell 2, h.2.cell 3, h.2.cell 4, h.2.cell 5, h.2.cell 6, h.2.cell 7, h.2.cell 8⟩
  have HF := Lib.hid hF
  clear hF hnY hr2 HPU
  refine wp_normal ?_
  refine wp_region_held_drew (S := fun W => Bk W w2.heap.size 88 #[.int .i64 D, .slice A2 (n + 1 - (n + 1 - D)) c2, .slice A3 n3 c3] ∧ Bk W (w.heap.size + 1) 96 (deedA d)) (by kernel_rfl) ⟨kB.drew, m2.drew⟩ (fun hHeld => ?_)
  (refine tkH 0 ?_; refine tkH 1 ?_; refine tkH 2 ?_; refine tkH 3 ?_; refine tkH 4 ?_; refine tkH 10 ?_)
  have hbg : Below w3.heap.size w3 (w3.alloc (.cells #[.slice d.g.A d.g.n d.g.c, .int .i64 d.g.pin.k, .int .i64 d.g.pin.a, .int .i64 d.g.pin.b, .int .i64 d.g.back.k, .int .i64 d.g.back.a, .int .i64 d.g.back.b, .int .i64 d.g.lost] 93)).drew := belowA
  have kg : Bk (w3.alloc (.cells #[.slice d.g.A d.g.n d.g.c, .int .i64 d.g.pin.k, .int .i64 d.g.pin.a, .int .i64 d.g.pin.b, .int .i64 d.g.back.k, .int .i64 d.g.back.a, .int .i64 d.g.back.b, .int .i64 d.g.lost] 93)).drew w3.heap.size 93 d.g.cells.toArray := Bk.drew (Bk.new w3 _ _)
  refine nxH 5 (fun K hK => ?_)
  go_simp
  refine hK.out _ _ ⟨kB.drew.alloc _, m2.drew.alloc _⟩ (fun hHeld => ?_)
  clear hK K; refine puH ?_
  refine nxH 6 (fun K hK => ?_)
  go_simp
  go_at_call 84
  generalize (w3.alloc (.cells #[.slice d.g.A d.g.n d.g.c, .int .i64 d.g.pin.k, .int .i64 d.g.pin.a, .int .i64 d.g.pin.b, .int .i64 d.g.back.k, .int .i64 d.g.back.a, .int .i64 d.g.back.b, .int .i64 d.g.lost] 93)).drew = w4 at *
  have hz4 := hbg.size
  have hb14 : Below w1.heap.size w1 w4 := hb13.trans (hbg.mono (Nat.le_trans hz2 hz3))
  have hb04 : Below w0.heap.size w0 w4 := hb01.trans (hb14.mono hb01.size)
  have hgr : GrsRaw w4 w4.heap.size (some ⟨w3.heap.size, 0, none⟩) 1 [d.g] := ⟨Rd.of_bk kg (by simp [grs]) rfl (def_lt' kg), fun x hx => by simp at hx; subst hx; exact (hd.g.below hb04).more hb04.size⟩
  have hsm : Small [d.g] := fun x hx => by simp at hx; subst hx; exact ⟨hd1, hd2⟩
  refine (theirs_any (some ⟨w3.heap.size, 0, none⟩) 1 1 [d.g] w4 hgr (by omega)).mono ?_
  rintro e w5 ⟨v5, rfl, o5, hb5⟩
  obtain ⟨A5, c5, rfl, hin5⟩ := grs_in hgr hsm o5 hb5 hb5.size
  obtain ⟨-, b, o, rfl, hb, hcc⟩ := hin5.at_ (k := 0) (g := d.g) rfl
  have f0 := hcc 0 (by omega); have f1 := hcc 1 (by omega); have f2 := hcc 2 (by omega); have f3 := hcc 3 (by omega); have f4 := hcc 4 (by omega); have f5 := hcc 5 (by omega); have f6 := hcc 6 (by omega); have f7 := hcc 7 (by omega)
  simp only [GrH.cells, Nat.zero_mul, Nat.add_zero] at f0 f1 f2 f3 f4 f5 f6 f7
  dsimp at f0 f1 f2 f3 f4 f5 f6 f7
  have hb35 : Below w3.heap.size w3 w5 := hbg.trans (hb5.mono hz4)
  refine hK.out _ _ ⟨kB.ext hb35, m2.ext hb35⟩ (fun hHeld => ?_)
  clear hK K; refine puH ?_
  (refine tkH 7 ?_)
  refine nxH 8 (fun K hK => ?_)
  go_simp
  refine hK.out _ _ ⟨kB.ext hb35, m2.ext hb35⟩ (fun hHeld => ?_)
  clear hK K; refine puH ?_
  have hz5 := hb35.size
  have hb25 : Below w.heap.size w w5 := hb1.trans ((hb13.trans (hb35.mono (Nat.le_trans hz2 hz3))).mono hz1)
  have hs5 := HS.out.below hb25
  have hg5 := (HGX.out.ext (hb13.trans (hb35.mono (Nat.le_trans hz2 hz3)))).wide (Y' := Yof bs lv mv) (fun i hi => .inl (.inl hi))
  have hU : totC (d.g.val :: foldC (Ms.map MpH.l) V) ≤ S + d.g.n := by
    have h1 := totC_fold (Ms.map MpH.l) V
    rw [totC_cons]
    simp only [GrH.val, List.length_map]
    have h2 := HGL.out
    omega
  have hUl : (d.g.val :: foldC (Ms.map MpH.l) V).length = n + 1 := by rw [List.length_cons, foldC_len, HVN.out]
  have htr := trim_rev D hD.1 _ (Nat.le_trans hU (by omega))
  have hLl : L.length ≤ 299 := by have h1 := congrArg List.length HLV.out; simp only [List.length_map, List.length_reverse] at h1; have := HVN.out; omega
  have hpu := push_any base bs lv mv D L Ms d.g w5 hs5 (fun w' hst => (hg5.stir hst).in_) (by omega) hd.g.lost hLl
  rw [HLV.out, foldV_rev, push_rev, htr.2, htr.1, hUl] at hpu
  have HPU := Lib.hid hpu
  have HU := Lib.hid hU
  have HUL := Lib.hid hUl
  clear hpu hU hUl htr hg5 f0 f1 f2 f3 f4 f5 f6 f7 hcc hgr hsm o5 hin5
  refine nxH 9 (fun K hK => ?_)
  go_simp
  go_at_call 30
  refine HPU.out.mono ?_
  rintro e w6 ⟨rfl, lv1, mv1, L1, Ms1, hs6, hV6, hM6, hto⟩
  obtain rfl : Ms1 = [] := by simpa using hM6
  have hz6 := hto.1.size
  have kB6 : Bk w6 w2.heap.size 88 #[.int .i64 D, .slice A2 (n + 1 - (n + 1 - D)) c2, .slice A3 n3 c3] := (hto.1.block _ (by omega) (HNY.out _ (by omega))).trans (kB.ext hb35)
  have m26 : Bk w6 (w.heap.size + 1) 96 (deedA d) := (hto.1.block _ (by omega) (HNY.out _ (by omega))).trans (m2.ext hb35)
  have m36 : Bk w6 (w.heap.size + 1 + 1) 88 #[.int .i64 0, .slice none 0 0, .slice none 0 0] := (hto.1.block _ (by omega) (HNY.out _ (by omega))).trans (m3.ext hb35)
  refine hK.out _ _ ⟨kB6, m26⟩ (fun hHeld => ?_)
  clear hK K; refine puH ?_
  (refine tkH 11 ?_; refine tkH 12 ?_)
  have x0 := m36.cell 0; have x1 := m36.cell 1; have x2 := m36.cell 2; have xf := m36.frozen; have xl := def_lt' m36
  dsimp at x0 x1 x2
  have g7 : w6.grownBy (((w6.setCell ⟨w.heap.size + 1 + 1, 0, none⟩ (.int .i64 D)).setCell ⟨w.heap.size + 1 + 1, 1, none⟩ (.slice A2 (n + 1 - (n + 1 - D)) c2)).setCell ⟨w.heap.size + 1 + 1, 2, none⟩ (.slice A3 n3 c3)) (some (w.heap.size + 1 + 1)) := gr_set (p := ⟨w.heap.size + 1 + 1, 2, none⟩) (gr_set (p := ⟨w.heap.size + 1 + 1, 1, none⟩) (gr_set (p := ⟨w.heap.size + 1 + 1, 0, none⟩) (World.grownBy.refl _ _) (.inl rfl) _) (.inl rfl) _) (.inl rfl) _
  refine nxH 13 (fun K hK => ?_)
  go_simp
  refine hK.out _ _ ⟨kB6.grown g7 (by simp; omega), m26.grown g7 (by simp)⟩ (fun hHeld => ?_)
  clear hK K; refine puH ?_
  (refine tkH 14 ?_)
  refine wpAnyH_done (by kernel_rfl) ?_ _
  have z7 : Bk (((w6.setCell ⟨w.heap.size + 1 + 1, 0, none⟩ (.int .i64 D)).setCell ⟨w.heap.size + 1 + 1, 1, none⟩ (.slice A2 (n + 1 - (n + 1 - D)) c2)).setCell ⟨w.heap.size + 1 + 1, 2, none⟩ (.slice A3 n3 c3)) (w.heap.size + 1 + 1) 88 #[.int .i64 D, .slice A2 (n + 1 - (n + 1 - D)) c2, .slice A3 n3 c3] := ((m36.set_ 0 _).set_ 1 _).set_ 2 _
  have hbsl := def_lt' HS.out.k
  have hs7 := hs6.grown m36 g7 (by omega)
  have hr7 := ((duo_ownX _ (HR2.out.ext (hb3.trans (hb35.mono hz3))) hto).stir (Stir.of_gr g7 (fun i e => by injection e with e; exact .inr (.inr e.symm)))).wide (Y' := fun i => Yof bs lv1 mv1 i ∨ Z i) (fun i hi => by rcases hi with hi | hi; (· exact .inl (.inl hi)); (· exact .inl (.inr (.inl hi))))
  have hb05 : Below w0.heap.size w0 w5 := hb0.trans (hb25.mono hb0.size)
  have hb06 : Below w0.heap.size w0 w6 := hb05.trans ((hto.below hs5).mono hbase)
  have hb7 := hb06.grown g7 hb06.size (fun k e => by injection e with e; subst e; have := hb0.size; omega)
  have hst7 := ((Stir.of_below (X := Yof bs lv mv) hb25).trans hto.1).fresh (Stir.of_gr (X := fun i => i = w.heap.size + 1 + 1) g7 (fun i e => by injection e with e; exact e.symm)) (fun i e => .inr (by have : i = w.heap.size + 1 + 1 := e; omega))
  have hz7 := hst7.size
  have hsub := sub_of hto (Nat.le_trans hb25.size (Nat.le_refl _))
  have HST7 := Lib.hid hst7
  have HSUB := Lib.hid hsub
  have hFl : (foldC (Ms.map MpH.l) V).length = n := by rw [foldC_len]; exact HVN.out
  have htt : totC ((d.g.val :: foldC (Ms.map MpH.l) V).take (n + 1 - (n + 1 - D))) ≤ S + d.g.n := Nat.le_trans (totC_take _ _) HU.out
  have hn3 : n3 = 0 := by have h1 := hr7.m.len; exact h1.symm
  have HTT := Lib.hid htt
  have HFL := Lib.hid hFl
  have HR7 := Lib.hid hr7
  have HV6 := Lib.hid hV6
  clear hFl htt hr7 hst7 hsub hV6 hto x0 x1 x2
  generalize ((w6.setCell ⟨w.heap.size + 1 + 1, 0, none⟩ (.int .i64 D)).setCell ⟨w.heap.size + 1 + 1, 1, none⟩ (.slice A2 (n + 1 - (n + 1 - D)) c2)).setCell ⟨w.heap.size + 1 + 1, 2, none⟩ (.slice A3 n3 c3) = w7 at *
  have q0 := z7.cell 0; have q1 := z7.cell 1; have q2 := z7.cell 2
  dsimp at q0 q1 q2
  go_wp2
  exact bodyPost_ret (v := .tuple #[.pointer (some ⟨bs, 0, none⟩), .agg #[.int .i64 D, .slice A2 (n + 1 - (n + 1 - D)) c2, .slice A3 n3 c3], .bool true]) (by simp [results, Tryz.results40, go_sem, q0, q1, q2]) rfl ⟨bs, A2, (n + 1 - (n + 1 - D)), c2, A3, n3, c3, Yof bs lv1 mv1, rfl, ⟨hc2, hb7, fun i hi => ⟨(hZ i hi).1, Nat.lt_of_lt_of_le (hZ i hi).2 hz7⟩, base, lv1, mv1, L1, [], _, rfl, by rw [HFL.out]; rfl, hbase, hs7, HR7.out, HV6.out, HTT.out, Nat.zero_le _, by rw [List.length_take, HUL.out]; omega⟩, HST7.out, HSUB.out⟩
end Go.Proofs.YtmacfoebfpljoaaGreat
