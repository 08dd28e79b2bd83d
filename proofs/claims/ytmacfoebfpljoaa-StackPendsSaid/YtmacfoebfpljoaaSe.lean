/- stack: a stack in memory; folded, Fold -/
import Derived.Test.YtmacfoebfpljoaaSc
import Derived.Test.YtmacfoebfpljoaaCcp
namespace Go.Proofs.Ytmacfoebfpljoaa
open Go.RowKit

/-- all but the blocks X is as it was -/
structure Stir (X : Nat → Prop) (w w' : World) : Prop where
  os : w'.os = w.os
  tape : w'.tape = w.tape
  output : w'.output = w.output
  size : w.heap.size ≤ w'.heap.size
  block : ∀ i, i < w.heap.size → ¬ X i → w'.heap[i]? = w.heap[i]?
section
variable {X Y : Nat → Prop} {w w' w'' : World} {B : Nat}
theorem Stir.of_below (h : Below w.heap.size w w') : Stir X w w' := ⟨h.os, h.tape, h.output, h.size, fun i hi _ => h.block i hi⟩
theorem Stir.of_gr {row : Option Nat} (h : w.grownBy w' row) (hX : ∀ i, row = some i → X i) : Stir X w w' := ⟨h.os, h.tape, h.output, h.size, fun i hi hx => h.block i hi (fun e => hx (hX i e.symm))⟩
theorem Stir.trans (h : Stir X w w') (k : Stir X w' w'') : Stir X w w'' := ⟨k.os.trans h.os, k.tape.trans h.tape, k.output.trans h.output, Nat.le_trans h.size k.size, fun i hi hx => (k.block i (Nat.lt_of_lt_of_le hi h.size) hx).trans (h.block i hi hx)⟩
theorem Stir.fresh (h : Stir X w w') (k : Stir Y w' w'') (hY : ∀ i, Y i → X i ∨ w.heap.size ≤ i) : Stir X w w'' := ⟨k.os.trans h.os, k.tape.trans h.tape, k.output.trans h.output, Nat.le_trans h.size k.size, fun i hi hx => (k.block i (Nat.lt_of_lt_of_le hi h.size) (fun hy => by rcases hY i hy with h1 | h1; (· exact hx h1); (· omega))).trans (h.block i hi hx)⟩
theorem Stir.below (h : Stir X w w') (hX : ∀ i, X i → B ≤ i) (hB : B ≤ w.heap.size) : Below B w w' := ⟨h.os, h.tape, h.output, h.size, fun i hi => h.block i (by omega) (fun hx => by have := hX i hx; omega)⟩
end

/-- a map that a stack keeps -/
structure MpH where
  A : Option Addr
  n : Nat
  c : Nat
  l : List Rg
deriving Inhabited
def MpH.val (m : MpH) : Value := .slice m.A m.n m.c
def foldC (ms : List (List Rg)) (V : List GrC) : List GrC := ms.foldl (fun l m => overC m l) V
theorem foldC_snoc (ms : List (List Rg)) (m : List Rg) (V : List GrC) : foldC (ms ++ [m]) V = overC m (foldC ms V) := by simp [foldC]
theorem foldC_len (ms : List (List Rg)) (V : List GrC) : (foldC ms V).length = V.length := by
  unfold foldC
  induction ms generalizing V with
  | nil => rfl
  | cons m ms ih => simp only [List.foldl_cons]; rw [ih, overC_len]
/-- few steps, and a count that is a number -/
def BdC (V : List GrC) : Prop := ∀ g ∈ V, g.steps.length ≤ 1000 ∧ -9223372036854775808 ≤ g.lost ∧ g.lost ≤ 9223372036854775807
theorem wrap_bd (x : Int) : -9223372036854775808 ≤ IntKind.i64.wrap x ∧ IntKind.i64.wrap x ≤ 9223372036854775807 := by
  simp only [IntKind.wrap_i64]
  omega
theorem BdC.over {V : List GrC} (h : BdC V) (m : List Rg) : BdC (overC m V) := by
  intro a ha
  obtain ⟨i, hi, rfl⟩ := List.getElem_of_mem ha
  have hl := overC_len m V
  have hg : V[i]? = some V[i] := List.getElem?_eq_getElem (by omega)
  have hb := h V[i] (List.getElem_mem (by omega))
  have hc := cut_at (m := m) hb.2 hg (List.getElem?_eq_getElem hi)
  refine ⟨Nat.le_trans hc.1 hb.1, ?_⟩
  rw [hc.2]
  exact wrap_bd _
theorem BdC.fold {V : List GrC} (h : BdC V) (ms : List (List Rg)) : BdC (foldC ms V) := by
  unfold foldC
  induction ms generalizing V with
  | nil => exact h
  | cons m ms ih => exact ih (h.over m)
theorem BdC.rev {V : List GrC} (h : BdC V) : BdC V.reverse := fun g hg => h g (by simpa using hg)
/-- the bounds of groups as they lie -/
theorem BdC.n {w : World} {base : Nat} {L : List GrH} (h : BdC (L.map GrH.val)) (ho : ∀ g ∈ L, g.Own w base) : ∀ g ∈ L, g.n ≤ 1000 := fun g hg => by
  have h1 := (h g.val (List.mem_map.2 ⟨g, hg, rfl⟩)).1
  have h2 := (ho g hg).in_.sts.len
  simp only [GrH.val, List.length_map] at h1
  omega
theorem BdC.lb {L : List GrH} (h : BdC (L.map GrH.val)) : ∀ g ∈ L, -9223372036854775808 ≤ g.lost ∧ g.lost ≤ 9223372036854775807 := fun g hg => (h g.val (List.mem_map.2 ⟨g, hg, rfl⟩)).2

/-- a stack -/
structure StkAt (w : World) (base bs : Nat) (lv mv : Value) (depth : Int) (L : List GrH) (Ms : List MpH) : Prop where
  k : Bk w bs 75 #[.int .i64 depth, lv, mv]
  le : base ≤ bs
  l : w.ownsRow base 36 8 lv L.length (grs L)
  g : ∀ g ∈ L, g.Own w base
  m : w.ownsRow base 23 1 mv Ms.length (Ms.map MpH.val)
  ms : ∀ m ∈ Ms, w.ownsRow base 45 3 (.slice m.A m.n m.c) m.n (rgs m.l) ∧ m.n ≤ 1000
  nL : L.length ≤ 300
  nM : Ms.length ≤ 500
  bd : BdC (L.map GrH.val)
theorem StkAt.below {w w' : World} {base bs : Nat} {lv mv : Value} {depth : Int} {L : List GrH} {Ms : List MpH} (h : StkAt w base bs lv mv depth L Ms) (hb : Below w.heap.size w w') : StkAt w' base bs lv mv depth L Ms :=
  ⟨h.k.ext hb, h.le, own_below h.l hb, fun g hg => (h.g g hg).below hb, own_below h.m hb, fun m hm => ⟨own_below (h.ms m hm).1 hb, (h.ms m hm).2⟩, h.nL, h.nM, h.bd⟩
theorem mp_at {w : World} {B n : Nat} {A : Option Addr} {Ms : List MpH} (h : Rd w B 1 A n (Ms.map MpH.val)) {q : Nat} {m : MpH} (hq : Ms[q]? = some m) : ∃ b o, A = some ⟨b, o, none⟩ ∧ b < B ∧ w.cell? ⟨b, o + q, none⟩ = some (.slice m.A m.n m.c) := by
  have hl : Ms.length = n := by simpa using h.1
  have hlt : q < n := by rw [← hl]; exact (List.getElem?_eq_some_iff.1 hq).1
  obtain ⟨b, o, u, e, hb, hu, hc⟩ := h.at1 hlt
  rw [List.getElem?_map, hq] at hu
  injection hu with hu
  subst hu
  exact ⟨b, o, e, hb, hc⟩

set_option maxRecDepth 100000 in
set_option maxHeartbeats 4000000 in
theorem folded_any (base bs : Nat) (lv mv : Value) (depth : Int) (L : List GrH) (Ms : List MpH) (w : World) (h : StkAt w base bs lv mv depth L Ms) :
    Calls Try.prog 31 #[.pointer (some ⟨bs, 0, none⟩)] w (GrsOut (foldC (Ms.map MpH.l) (L.map GrH.val).reverse) w) := by
  obtain ⟨A1, c1, rfl, -, -, -, r1⟩ := own_form h.l
  obtain ⟨A2, c2, rfl, -, -, -, r2⟩ := own_form h.m
  have htu := turned_any A1 L.length c1 L w r1 (by have := h.nL; omega)
  have HTU := Lib.hid htu
  have HG := Lib.hid h.g
  have HMS := Lib.hid h.ms
  have HR2 := Lib.hid r2
  have HBD := Lib.hid h.bd
  have hnL := h.nL
  have hnM := h.nM
  have c0 := h.k.cell 1; have c2' := h.k.cell 2
  have HK := Lib.hid h.k
  dsimp at c0 c2'
  clear h htu r1 r2
  go_enter Try.func31, Try.ntmps31
  go_wp2_with (go_at_call 43; fail)
  refine HTU.out.mono ?_
  rintro e w1 ⟨v1, rfl, ho1, hb1⟩
  obtain ⟨A3, c3, rfl, -, -, -, r3⟩ := own_form ho1
  have hin3 : GrsIn w1 w1.heap.size A3 L.length L.reverse := ⟨r3, fun g hg => ((HG.out g (by simpa using hg)).below hb1).in_⟩
  have hcp := copy_any A3 L.length c3 L.reverse w1 hin3 (by omega) (fun g hg => HBD.out.n HG.out g (by simpa using hg))
  have HCP := Lib.hid hcp
  clear hcp hin3 r3 ho1
  go_wp2_with (go_at_call 21; fail)
  refine HCP.out.mono ?_
  intro e w2 ho2
  obtain ⟨A4, n4, c4, L4, rfl, hl4, o4, -, hO4, hV4, hb2⟩ := grs_out ho2
  have hn4 : n4 = L.length := by
    have := congrArg List.length hV4
    simp only [List.length_map, List.length_reverse] at this
    omega
  have hb12 : Below w.heap.size w w2 := hb1.trans (hb2.mono hb1.size)
  have k2 := HK.out.ext hb12
  have d2 := k2.cell 2
  dsimp at d2
  clear ho2 HCP HTU c0 c2'
  have HO4 := Lib.hid hO4
  have HV4 := Lib.hid hV4
  clear hO4 hV4
  go_wp2
  go_loopw [3, 17] (fun v j wr => ∃ (q : Nat) (A : Option Addr) (c : Nat) (Lc : List GrH), v = .slice A L.length c ∧ q ≤ Ms.length ∧ j = .int .i64 q ∧ Below w.heap.size w wr ∧ wr.ownsRow w.heap.size 36 8 (.slice A L.length c) L.length (grs Lc) ∧ Hid (∀ g ∈ Lc, g.Own wr w.heap.size) ∧ Hid (Lc.map GrH.val = foldC ((Ms.map MpH.l).take q) (L.map GrH.val).reverse)) (fun _ j _ => Ms.length - (intOf j).toNat)
  case atStart =>
    subst hn4
    exact ⟨0, A4, c4, L4, rfl, by omega, rfl, hb12, own_base o4 hb1.size, Lib.hid (fun g hg => (HO4.out g hg).base_ hb1.size), Lib.hid (by rw [HV4.out]; simp [foldC])⟩
  case round =>
    obtain ⟨q, A, c, Lc, rfl, hq, rfl, hbr, hown, hO, hV⟩ := hrel
    by_cases hqn : q < Ms.length
    · obtain ⟨m, hm⟩ : ∃ m, Ms[q]? = some m := ⟨_, List.getElem?_eq_getElem hqn⟩
      obtain ⟨b, o, rfl, hbb, hc⟩ := mp_at (HR2.out.below hbr) hm
      have hmo := HMS.out m (List.mem_of_getElem? hm)
      have hml : (Ms.map MpH.l).take (q + 1) = (Ms.map MpH.l).take q ++ [m.l] := by rw [List.take_add_one, List.getElem?_map, hm]; rfl
      have HML := Lib.hid hml
      have hbdc : BdC (Lc.map GrH.val) := by rw [hV.out]; exact HBD.out.rev.fold _
      have hov := over_any A L.length c Lc m.A m.n m.c m.l wr ⟨Rd.of_own hown, fun g hg => (hO.out g hg).in_⟩ (by omega) (hbdc.n hO.out) hbdc.lb ⟨(Rd.of_own hmo.1).below hbr |>.more hbr.size, hmo.2⟩
      have HOV := Lib.hid hov
      have e3 : (q : Int) < Ms.length := by omega
      clear hm hmo hml hbdc hov
      go_wp2_with (go_at_call 8; fail)
      refine HOV.out.mono ?_
      intro e w5 ho5
      obtain ⟨A5, n5, c5, L5, rfl, hl5, o5, -, hO5, hV5, hb5⟩ := grs_out ho5
      have hn5 : n5 = L.length := by
        have := congrArg List.length hV5
        rw [overC_len, List.length_map, List.length_map] at this
        have h2 := congrArg List.length hV.out
        rw [foldC_len, List.length_reverse, List.length_map, List.length_map] at h2
        omega
      subst hn5
      have hz := hbr.size
      clear ho5 HOV
      go_wp2
      go_roundw
      case rel => exact ⟨q + 1, A5, c5, L5, rfl, by omega, by go_num, hbr.trans (hb5.mono hz), own_base o5 hz, Lib.hid (fun g hg => (hO5 g hg).base_ hz), Lib.hid (by rw [hV5, hV.out, HML.out, foldC_snoc])⟩
      case measure => simp [intOf]; omega
    · obtain rfl : Ms.length = q := by omega
      go_wp2
      go_ret
      have hV' := hV.out
      rw [List.take_of_length_le (by simp)] at hV'
      have hll : Lc.length = L.length := by
        have h2 := congrArg List.length hV'
        rw [foldC_len, List.length_reverse, List.length_map, List.length_map] at h2
        exact h2
      exact ⟨_, Lc, rfl, by rw [hll]; exact hown, hO.out, hV', hbr⟩
end Go.Proofs.Ytmacfoebfpljoaa

/- stack: Fold; Steps; clones -/
namespace Go.Proofs.Ytmacfoebfpljoaa
open Go.RowKit

/-- what a stack's function leaves as it was, and whose its new rows are -/
def StkTo (bs : Nat) (lv mv lv' mv' : Value) (w w' : World) : Prop :=
  Stir (fun i => i = bs ∨ lv.ownBlock = some i ∨ mv.ownBlock = some i) w w' ∧ (∀ i, lv'.ownBlock = some i → lv.ownBlock = some i ∨ w.heap.size ≤ i) ∧ (∀ i, mv'.ownBlock = some i → mv.ownBlock = some i ∨ w.heap.size ≤ i)
section
variable {bs : Nat} {lv mv lv' mv' lv'' mv'' : Value} {w w' w'' : World}
theorem StkTo.of_below (h : Below w.heap.size w w') : StkTo bs lv mv lv mv w w' := ⟨Stir.of_below h, fun _ h => .inl h, fun _ h => .inl h⟩
theorem StkTo.trans (h : StkTo bs lv mv lv' mv' w w') (k : StkTo bs lv' mv' lv'' mv'' w' w'') : StkTo bs lv mv lv'' mv'' w w'' := by
  have hs := h.1.size
  refine ⟨h.1.fresh k.1 (fun i hi => ?_), fun i hi => ?_, fun i hi => ?_⟩
  · rcases hi with hi | hi | hi
    · exact .inl (.inl hi)
    · rcases h.2.1 i hi with h1 | h1
      · exact .inl (.inr (.inl h1))
      · exact .inr h1
    · rcases h.2.2 i hi with h1 | h1
      · exact .inl (.inr (.inr h1))
      · exact .inr h1
  · rcases k.2.1 i hi with h1 | h1
    · exact h.2.1 i h1
    · exact .inr (Nat.le_trans hs h1)
  · rcases k.2.2 i hi with h1 | h1
    · exact h.2.2 i h1
    · exact .inr (Nat.le_trans hs h1)
theorem StkTo.below {base : Nat} {depth : Int} {L : List GrH} {Ms : List MpH} (h : StkTo bs lv mv lv' mv' w w') (hs : StkAt w base bs lv mv depth L Ms) : Below base w w' := by
  refine h.1.below (fun i hi => ?_) (Nat.le_of_lt (Nat.lt_of_le_of_lt hs.le (def_lt' hs.k)))
  rcases hi with rfl | hi | hi
  · exact hs.le
  · exact own_ge hs.l i hi
  · exact own_ge hs.m i hi
end
/-- a stack behind a function: nothing else comes out -/
def StkOut (base bs : Nat) (lv mv : Value) (depth : Int) (V : List GrC) (Ms : List (List Rg)) (w w' : World) : Prop := ∃ lv' mv' L' Ms', StkAt w' base bs lv' mv' depth L' Ms' ∧ L'.map GrH.val = V ∧ Ms'.map MpH.l = Ms ∧ StkTo bs lv mv lv' mv' w w'
/-- what folding makes of groups, the oldest one first -/
def foldV (ms : List (List Rg)) (V : List GrC) : List GrC := if ms = [] then V else (foldC ms V.reverse).reverse
theorem foldV_len (ms : List (List Rg)) (V : List GrC) : (foldV ms V).length = V.length := by
  unfold foldV
  split
  · rfl
  · simp [foldC_len]
theorem BdC.foldV {V : List GrC} (h : BdC V) (ms : List (List Rg)) : BdC (foldV ms V) := by
  unfold Go.Proofs.Ytmacfoebfpljoaa.foldV
  split
  · exact h
  · exact (h.rev.fold ms).rev

set_option maxRecDepth 100000 in
set_option maxHeartbeats 4000000 in
theorem fold_any (base bs : Nat) (lv mv : Value) (depth : Int) (L : List GrH) (Ms : List MpH) (w : World) (h : StkAt w base bs lv mv depth L Ms) :
    Calls Try.prog 28 #[.pointer (some ⟨bs, 0, none⟩)] w fun e w' => (∃ v, e = .returned v) ∧ StkOut base bs lv mv depth (foldV (Ms.map MpH.l) (L.map GrH.val)) [] w w' := by
  obtain ⟨A2, c2, rfl, -, -, -, r2⟩ := own_form h.m
  have c0 := h.k.cell 2
  dsimp at c0
  have HS := Lib.hid h
  have hlt := def_lt' h.k
  rcases Nat.eq_zero_or_pos Ms.length with h0 | h0
  · obtain rfl : Ms = [] := List.eq_nil_of_length_eq_zero h0
    have c0' : w.cell? ⟨bs, 2, none⟩ = some (.slice A2 0 c2) := c0
    clear h r2 c0 h0
    go_enter Try.func28, Try.ntmps28
    go_wp2
    refine bodyPost_ret (results_none rfl _ _ _) rfl ⟨⟨_, rfl⟩, _, _, L, [], HS.out, rfl, rfl, StkTo.of_below (Below.refl _ _)⟩
  · have hfo := folded_any base bs lv _ depth L Ms w h
    have HFO := Lib.hid hfo
    have e1 : ((Ms.length : Int) == 0) = false := beq_false_of_ne (by omega)
    have hfv : foldV (Ms.map MpH.l) (L.map GrH.val) = (foldC (Ms.map MpH.l) (L.map GrH.val).reverse).reverse := by
      unfold foldV
      rw [if_neg (fun e => by rw [List.map_eq_nil_iff] at e; subst e; simp at h0)]
    have HFV := Lib.hid hfv
    have hbz : base ≤ w.heap.size := Nat.le_of_lt (Nat.lt_of_le_of_lt h.le hlt)
    clear h r2 hfo hfv
    go_enter Try.func28, Try.ntmps28
    go_wp2_with (go_at_call 31; fail)
    refine HFO.out.mono ?_
    intro e w1 ho1
    obtain ⟨A1, n1, c1, L1, rfl, hl1, o1, hin1, hO1, hV1, hb1⟩ := grs_out ho1
    have hn1 : n1 = L.length := by
      have := congrArg List.length hV1
      rw [foldC_len, List.length_reverse, List.length_map, List.length_map] at this
      omega
    subst hn1
    have htu := turned_any A1 L.length c1 L1 w1 hin1.1 (by have := HS.out.nL; omega)
    have HTU := Lib.hid htu
    clear ho1 hin1 htu
    go_wp2_with (go_at_call 43; fail)
    refine HTU.out.mono ?_
    rintro e w2 ⟨v2, rfl, o2, hb2⟩
    obtain ⟨A3, c3, rfl, -, -, -, -⟩ := own_form o2
    have hb12 : Below w.heap.size w w2 := hb1.trans (hb2.mono hb1.size)
    have k2 := HS.out.k.ext hb12
    have d0 := k2.cell 0; have d1 := k2.cell 1; have d2 := k2.cell 2; have f2 := k2.frozen; have l2 := def_lt' k2
    dsimp at d0 d1 d2
    go_wp2
    have gr2 : w2.grownBy ((w2.setCell ⟨bs, 1, none⟩ (.slice A3 L.length c3)).setCell ⟨bs, 2, none⟩ (.slice none 0 0)) (some bs) := gr_set (p := ⟨bs, 2, none⟩) (gr_set (p := ⟨bs, 1, none⟩) (World.grownBy.refl _ _) (.inl rfl) _) (.inl rfl) _
    have kf : Bk ((w2.setCell ⟨bs, 1, none⟩ (.slice A3 L.length c3)).setCell ⟨bs, 2, none⟩ (.slice none 0 0)) bs 75 #[.int .i64 depth, .slice A3 L.length c3, .slice none 0 0] := (k2.set_ 1 _).set_ 2 _
    have hz1 := hb1.size
    have hz2 := hb2.size
    go_end0
    refine ⟨⟨_, rfl⟩, .slice A3 L.length c3, .slice none 0 0, L1.reverse, [], ⟨kf, HS.out.le, ?_, ?_, World.ownsRow_nil _ _ _ _, fun m hm => (by cases hm), ?_, (by simp), ?_⟩, ?_, rfl, ?_, ?_, ?_⟩
    · have h1 := own_base o2 (Nat.le_trans hbz hz1)
      have h2 := own_grow h1 gr2 (fun g e => by injection e with e; subst e; exact own_ne h1 k2 (by decide))
      rw [List.length_reverse, hl1]
      exact h2
    · intro g hg
      exact (((hO1 g (by simpa using hg)).base_ hbz).below hb2).grown k2 gr2 (by decide) (by decide) (by decide)
    · have := HS.out.nL
      simp only [List.length_reverse]
      omega
    · rw [List.map_reverse, hV1, ← HFV.out]
      exact HS.out.bd.foldV _
    · rw [List.map_reverse, hV1, HFV.out]
    · exact (Stir.of_below hb12).fresh (Stir.of_gr gr2 (X := fun i => i = bs) (fun i e => by injection e with e; exact e.symm)) (fun i hi => .inl (.inl hi))
    · intro i hi
      have := own_ge o2 i hi
      exact .inr (by omega)
    · intro i hi
      cases hi

/-- how many steps groups have -/
def totC (V : List GrC) : Nat := (V.map fun g => g.steps.length).sum

set_option maxRecDepth 100000 in
set_option maxHeartbeats 4000000 in
theorem steps_any (A : Option Addr) (n c : Nat) (L : List GrH) (w : World) (h : GrsIn w w.heap.size A n L) (hn : n ≤ 1000) (hs : ∀ g ∈ L, g.n ≤ 1000) :
    Calls Try.prog 44 #[.slice A n c] w fun e w' => e = .returned (.int .i64 (totC (L.map GrH.val) : Nat)) ∧ Below w.heap.size w w' := by
  have hlen := h.len
  have H := Lib.hid h
  have HS := Lib.hid hs
  have HLEN := Lib.hid hlen
  clear h hs hlen
  go_enter Try.func44, Try.ntmps44
  go_wp2
  go_loopw [3, 8] (fun t j wr => ∃ q s : Nat, q ≤ n ∧ s ≤ 1000 * q ∧ j = .int .i64 q ∧ t = .int .i64 s ∧ Hid (s = totC ((L.take q).map GrH.val)) ∧ Below w.heap.size w wr) (fun _ j _ => n - (intOf j).toNat)
  case atStart => exact ⟨0, 0, by omega, by omega, rfl, rfl, Lib.hid (by simp [totC]), Below.refl _ _⟩
  case round =>
    obtain ⟨q, s, hq, hs, rfl, rfl, hst, hbr⟩ := hrel
    by_cases hqn : q < n
    · obtain ⟨g, hx⟩ : ∃ g, L[q]? = some g := ⟨_, List.getElem?_eq_getElem (by have := HLEN.out; omega)⟩
      obtain ⟨gin, b, o, rfl, hb, hcc⟩ := (H.out.below hbr).at_ hx
      have hgn := HS.out g (List.mem_of_getElem? hx)
      have hgl : g.L.length = g.n := gin.sts.len
      have hsn : totC ((L.take (q + 1)).map GrH.val) = totC ((L.take q).map GrH.val) + g.n := by
        rw [List.take_add_one, hx]
        simp [totC, GrH.val, hgl]
      have HSN := Lib.hid hsn
      have d0 := hcc 0 (by omega); have d1 := hcc 1 (by omega); have d2 := hcc 2 (by omega); have d3 := hcc 3 (by omega); have d4 := hcc 4 (by omega); have d5 := hcc 5 (by omega); have d6 := hcc 6 (by omega); have d7 := hcc 7 (by omega)
      dsimp [GrH.cells] at d0 d1 d2 d3 d4 d5 d6 d7
      have e3 : (q : Int) < n := by omega
      have e4 : IntKind.i64.wrap ((s : Int) + g.n) = ((s + g.n : Nat) : Int) := by rw [IntWalk.i64_in _ (by omega)]; omega
      have hbz := hbr.size
      clear hx hcc gin hsn hgl
      go_wp2
      go_roundw
      case rel => exact ⟨q + 1, s + g.n, by omega, by omega, by go_num, by go_num, Lib.hid (by rw [HSN.out, hst.out]), by repeat (first | with_reducible exact Below.refl _ _ | with_reducible assumption | (with_reducible refine below_drewN ?_ _) | (with_reducible refine Below.drew ?_) | (with_reducible refine Below.alloc ?_ ?_ _; rotate_left; focus (first | with_reducible assumption | omega | (simp; done) | (simp; omega))) | (with_reducible refine Below.setCell ?_ ?_ _; rotate_left; focus (first | with_reducible assumption | omega | (simp; done) | (simp; omega))))⟩
      case measure => simp [intOf]; omega
    · obtain rfl : n = q := by omega
      have hs' : Hid (s = totC (L.map GrH.val)) := Lib.hid (by have := hst.out; rwa [List.take_of_length_le (by rw [HLEN.out]; omega)] at this)
      go_wp2
      go_ret
      exact ⟨by rw [hs'.out]; rfl, hbr⟩
end Go.Proofs.Ytmacfoebfpljoaa
