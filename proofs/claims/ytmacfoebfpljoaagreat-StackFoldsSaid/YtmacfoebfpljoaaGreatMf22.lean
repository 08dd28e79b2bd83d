/- merged texts: Fb Fc -/
import Derived.Test.YtmacfoebfpljoaaGreatMf21
import Derived.Test.YtmacfoebfpljoaaGreatMf4
namespace Go.Proofs.YtmacfoebfpljoaaGreat
open Go.RowKit
set_option linter.unusedVariables false
/-- a stack that another's doings don't reach -/
theorem StkAt.aside {w w' : World} {base base' bs bt : Nat} {lv mv lt mt : Value} {dep dep' : Int} {L Lt : List GrH} {Ms Mt : List MpH} (ht : StkAt w base bt lt mt dep Lt Mt) (hs : StkAt w base' bs lv mv dep' L Ms) (hst : Stir (Yof bs lv mv) w w') (hd : ∀ i, Yof bs lv mv i → ¬ Yof bt lt mt i) : StkAt w' base bt lt mt dep Lt Mt := by
  have key : ∀ {base2 size n : Nat} {e : TypeId} {v : Value} {xs : List Value}, w.ownsRow base2 e size v n xs → e ≠ 157 → e ≠ 76 → e ≠ 94 → w'.ownsRow base2 e size v n xs := by
    intro base2 size n e v xs ho h1 h2 h3
    refine own_stir ho hst (fun i hi hv => ?_)
    rcases hi with rfl | hi | hi
    · exact own_ne ho hs.k h1 hv
    · exact own_type ho hs.l h2 i hi hv
    · exact own_type ho hs.m h3 i hi hv
  refine ⟨(hst.block bt (def_lt' ht.k) (fun h => hd _ h (.inl rfl))).trans ht.k, ht.le, own_stir ht.l hst (fun i hi hv => hd i hi (.inr (.inl hv))), fun g hg => ?_, own_stir ht.m hst (fun i hi hv => hd i hi (.inr (.inr hv))), fun m hm => ⟨key (ht.ms m hm).1 (by decide) (by decide) (by decide), (ht.ms m hm).2⟩, ht.nL, ht.nM, ht.bd⟩
  have h := ht.g g hg
  exact ⟨key h.o (by decide) (by decide) (by decide), fun s hss => ⟨key (h.l s hss).1 (by decide) (by decide) (by decide), key (h.l s hss).2 (by decide) (by decide) (by decide), (h.l s hss).3, (h.l s hss).4⟩, h.n⟩
def Zp (Bx By : Nat) (Y : Nat → Prop) (i : Nat) : Prop := i = Bx ∨ i = By ∨ Y i
section
variable {w0 w w' : World} {D : Nat} {bs bt : Nat} {A : Option Addr} {n c : Nat} {A' : Option Addr} {n' S k : Nat} {F : List GrC} {B : Option Addr} {m d : Nat} {B' : Option Addr} {m' S' k' : Nat} {F' : List GrC} {Bx By : Nat} {Z Y Ys Ys2 Yt : Nat → Prop}
theorem Duo.yl (h : Duo w0 w D bs A n c A' n' S k F Z Y) : ∀ i, Y i → w0.heap.size ≤ i ∧ i < w.heap.size := by
  obtain ⟨-, -, -, base, lv, mv, L, Ms, V, rfl, -, hb, hs, -⟩ := h
  intro i hi
  exact ⟨Nat.le_trans hb (hs.yof i hi).1, (hs.yof i hi).2⟩
theorem Duo.aside (ht : Duo w0 w D bt B m d B' m' S' k' F' (Zp Bx By Ys) Yt) (hs : Duo w0 w D bs A n c A' n' S k F Z Ys) (hst : Stir Ys w w') (hd : ∀ i, Ys i → ¬ Yt i) (hsub : ∀ i, Ys2 i → Ys i ∨ w.heap.size ≤ i) (hl : ∀ i, Ys2 i → w0.heap.size ≤ i ∧ i < w'.heap.size) : Duo w0 w' D bt B m d B' m' S' k' F' (Zp Bx By Ys2) Yt := by
  have hyl := hs.yl
  obtain ⟨-, -, -, base2, lv, mv, L2, Ms2, V2, rfl, -, -, hs2, -⟩ := hs
  obtain ⟨a, b, z, base, lt, mt, L, Ms, V, rfl, e2, e3, e4, e5, e6⟩ := ht
  refine ⟨a, b.trans (hst.below (fun i hi => (hyl i hi).1) b.size), fun i hi => ?_, base, lt, mt, L, Ms, V, rfl, e2, e3, e4.aside hs2 hst hd, ?_, e6⟩
  · have hz := hst.size
    rcases hi with rfl | rfl | hi
    · have := z _ (.inl rfl); omega
    · have := z _ (.inr (.inl rfl)); omega
    · exact hl i hi
  · have h1 : RStk w (fun i => (Yof bt lt mt i ∨ Zp Bx By (Yof bs lv mv) i) ∨ w.heap.size ≤ i) B m B' m' V (Ms.map MpH.l) := e5.wide (fun i hi => hi)
    have h2 := h1.stir (w' := w') ⟨hst.os, hst.tape, hst.output, hst.size, fun i hi hx => hst.block i hi (fun e => hx (.inl (.inr (.inr (.inr e)))))⟩
    exact h2.wide (fun i hi => by
      rcases hi with hi | hi | hi | hi
      · exact .inl (.inl (.inl hi))
      · exact .inl (.inl (.inr (.inl hi)))
      · exact .inl (.inl (.inr (.inr (.inl hi))))
      · rcases hsub i hi with h | h
        · exact .inl (.inl (.inr (.inr (.inr h))))
        · exact .inl (.inr h))
end
/-- two stacks, each beside the document's, in blocks Bx and By -/
def Pair (w0 w : World) (D Bx By bs : Nat) (A : Option Addr) (n c : Nat) (A' : Option Addr) (n' S k : Nat) (F : List GrC) (bt : Nat) (B : Option Addr) (m d : Nat) (B' : Option Addr) (m' S' k' : Nat) (F' : List GrC) : Prop :=
  ∃ Ys Yt, Duo w0 w D bs A n c A' n' S k F (Zp Bx By Yt) Ys ∧ Duo w0 w D bt B m d B' m' S' k' F' (Zp Bx By Ys) Yt ∧ ∀ i, Ys i → ¬ Yt i
section
variable {w0 w w' : World} {D : Nat} {bs bt : Nat} {A : Option Addr} {n c : Nat} {A' : Option Addr} {n' S k : Nat} {F : List GrC} {B : Option Addr} {m d : Nat} {B' : Option Addr} {m' S' k' : Nat} {F' : List GrC} {Bx By : Nat}
theorem Pair.symm (h : Pair w0 w D Bx By bs A n c A' n' S k F bt B m d B' m' S' k' F') : Pair w0 w D Bx By bt B m d B' m' S' k' F' bs A n c A' n' S k F := by
  obtain ⟨Ys, Yt, h1, h2, h3⟩ := h
  exact ⟨Yt, Ys, h2, h1, fun i hi hj => h3 i hj hi⟩
theorem Pair.ext (h : Pair w0 w D Bx By bs A n c A' n' S k F bt B m d B' m' S' k' F') (hb : Below w.heap.size w w') : Pair w0 w' D Bx By bs A n c A' n' S k F bt B m d B' m' S' k' F' := by
  obtain ⟨Ys, Yt, h1, h2, h3⟩ := h
  exact ⟨Ys, Yt, h1.ext hb, h2.ext hb, h3⟩
theorem Pair.wrote (h : Pair w0 w D Bx By bs A n c A' n' S k F bt B m d B' m' S' k' F') {b : Nat} {cs : Array Value} (hk : Bk w b 88 cs) (hg : w.grownBy w' (some b)) (hz : b = Bx ∨ b = By) : Pair w0 w' D Bx By bs A n c A' n' S k F bt B m d B' m' S' k' F' := by
  obtain ⟨Ys, Yt, h1, h2, h3⟩ := h
  have hz' : ∀ Y, Zp Bx By Y b := fun Y => by rcases hz with h | h; (· exact .inl h); (· exact .inr (.inl h))
  exact ⟨Ys, Yt, h1.wrote hk hg (hz' _), h2.wrote hk hg (hz' _), h3⟩
theorem Pair.below (h : Pair w0 w D Bx By bs A n c A' n' S k F bt B m d B' m' S' k' F') : Below w0.heap.size w0 w := by
  obtain ⟨Ys, Yt, h1, -⟩ := h
  exact h1.below
/-- blocks of the document's stacks stay -/
def Kept (w w' : World) : Prop := ∀ (b : Nat) (cs : Array Value), Bk w b 88 cs → Bk w' b 88 cs
end
theorem pair_does (w0 w : World) (D Bx By bs : Nat) (A : Option Addr) (n c : Nat) (A' : Option Addr) (n' c' S k : Nat) (F : List GrC) (bt : Nat) (B : Option Addr) (m d : Nat) (B' : Option Addr) (m' S' k' : Nat) (F' : List GrC) (x : DeedH) (h : Pair w0 w D Bx By bs A n c A' n' S k F bt B m d B' m' S' k' F') (hD : 1 ≤ D ∧ D ≤ 200) (hS : S ≤ 500) (hk16 : k ≤ 16) (hd : x.Raw w0 w0.heap.size) (hd1 : x.g.n ≤ 20) (hd2 : SmallS x.g.L) (hdn : x.n ≤ 20) :
    Calls Tryz.prog 40 #[.pointer (some ⟨bs, 0, none⟩), .agg #[.int .i64 D, .slice A n c, .slice A' n' c'], .agg (deedA x)] w fun e w' => ∃ bs A n c A' n' c', e = .returned (.tuple #[.pointer (some ⟨bs, 0, none⟩), .agg #[.int .i64 D, .slice A n c, .slice A' n' c'], .bool true]) ∧ Pair w0 w' D Bx By bs A n c A' n' (S + x.g.n) (k + 1) (deedF D x F) bt B m d B' m' S' k' F' ∧ Kept w w' := by
  obtain ⟨Ys, Yt, h1, h2, h3⟩ := h
  refine (does_any w0 w D bs A n c A' n' c' S k x F _ Ys h1 hD hS hk16 hd hd1 hd2 hdn).mono ?_
  rintro e w' ⟨bs2, A2, n2, c2, A3, n3, c3, Ys2, he, hduo, hst, hsub⟩
  refine ⟨bs2, A2, n2, c2, A3, n3, c3, he, ⟨Ys2, Yt, hduo, h2.aside h1 hst h3 hsub hduo.yl, fun i hi hj => ?_⟩, fun b cs hk => h1.keep hst hk⟩
  rcases hsub i hi with h | h
  · exact h3 i h hj
  · have := (h2.yl i hj).2; omega
/-- the program's stack is folded, the document's one not yet -/
def Half (w0 w : World) (D bs : Nat) (A : Option Addr) (n c : Nat) (A' : Option Addr) (n' S k : Nat) (F : List GrC) (Z Y : Nat → Prop) : Prop :=
  n ≤ c ∧ Below w0.heap.size w0 w ∧ (∀ i, Z i → w0.heap.size ≤ i ∧ i < w.heap.size) ∧ ∃ base lv mv L V Mr, Y = Yof bs lv mv ∧ F = foldC Mr V ∧ w0.heap.size ≤ base ∧ StkAt w base bs lv mv D L [] ∧ RStk w (fun i => Yof bs lv mv i ∨ Z i) A n A' n' V Mr ∧ L.map GrH.val = F.reverse ∧ totC V ≤ S ∧ V.length ≤ D
theorem duo_pfold (w0 w : World) (D bs : Nat) (A : Option Addr) (n c : Nat) (A' : Option Addr) (n' S k : Nat) (F : List GrC) (Z Y : Nat → Prop) (h : Duo w0 w D bs A n c A' n' S k F Z Y) :
    Calls Tryz.prog 28 #[.pointer (some ⟨bs, 0, none⟩)] w fun e w' => (∃ v, e = .returned v) ∧ ∃ Y', Half w0 w' D bs A n c A' n' S k F Z Y' ∧ Stir Y w w' ∧ ∀ i, Y' i → Y i ∨ w.heap.size ≤ i := by
  obtain ⟨hnc, hb0, hZ, base, lv, mv, L, Ms, V, rfl, rfl, hbase, hs, hr, hLV, htot, hk, hVD⟩ := h
  refine (fold_any base bs lv mv D L Ms w hs).mono ?_
  rintro e w2 ⟨hv, lv1, mv1, L1, Ms1, hs2, hV1, hM1, hto⟩
  obtain rfl : Ms1 = [] := by simpa using hM1
  refine ⟨hv, Yof bs lv1 mv1, ⟨hnc, hb0.trans ((hto.below hs).mono hbase), fun i hi => ⟨(hZ i hi).1, Nat.lt_of_lt_of_le (hZ i hi).2 hto.1.size⟩, base, lv1, mv1, L1, V, Ms.map MpH.l, rfl, rfl, hbase, hs2, duo_ownX Z hr hto, by rw [hV1, hLV, foldV_rev], htot, hVD⟩, hto.1, sub_of hto (Nat.le_refl _)⟩
theorem duo_dfold (w0 w : World) (D bs : Nat) (A : Option Addr) (n c : Nat) (A' : Option Addr) (n' c' S k : Nat) (F : List GrC) (Z Y : Nat → Prop) (h : Half w0 w D bs A n c A' n' S k F Z Y) :
    Calls Tryz.prog 45 #[.agg #[.int .i64 D, .slice A n c, .slice A' n' c']] w fun e w' => ∃ A n c A' n' c', e = .returned (.agg #[.int .i64 D, .slice A n c, .slice A' n' c']) ∧ Duo w0 w' D bs A n c A' n' S k F Z Y ∧ Below w.heap.size w w' := by
  obtain ⟨hnc, hb0, hZ, base, lv, mv, L, V, Mr, rfl, rfl, hbase, hs, hr, hLV, htot, hVD⟩ := h
  refine (rfold_any D A n c A' n' c' V Mr w (fun i => Yof bs lv mv i ∨ Z i) (fun i hi => by
    rcases hi with hi | hi
    · exact (hs.yof i hi).2
    · exact (hZ i hi).2) hnc hr).mono ?_
  rintro e w3 ⟨v3, rfl, A3, n3, c3, A4, n4, c4, rfl, hc3, hr3, hb3⟩
  exact ⟨A3, n3, c3, A4, n4, c4, rfl, ⟨hc3, hb0.trans (hb3.mono hb0.size), fun i hi => ⟨(hZ i hi).1, Nat.lt_of_lt_of_le (hZ i hi).2 hb3.size⟩, base, lv, mv, L, [], foldC Mr V, rfl, rfl, hbase, hs.below hb3, hr3, hLV, Nat.le_trans (totC_fold _ _) htot, Nat.zero_le _, by rw [foldC_len]; exact hVD⟩, hb3⟩
/-- the first stack is folded, its document's one not yet -/
def PairH (w0 w : World) (D Bx By bs : Nat) (A : Option Addr) (n c : Nat) (A' : Option Addr) (n' S k : Nat) (F : List GrC) (bt : Nat) (B : Option Addr) (m d : Nat) (B' : Option Addr) (m' S' k' : Nat) (F' : List GrC) : Prop :=
  ∃ Ys Yt, Half w0 w D bs A n c A' n' S k F (Zp Bx By Yt) Ys ∧ Duo w0 w D bt B m d B' m' S' k' F' (Zp Bx By Ys) Yt ∧ ∀ i, Ys i → ¬ Yt i
theorem pair_pfold (w0 w : World) (D Bx By bs : Nat) (A : Option Addr) (n c : Nat) (A' : Option Addr) (n' S k : Nat) (F : List GrC) (bt : Nat) (B : Option Addr) (m d : Nat) (B' : Option Addr) (m' S' k' : Nat) (F' : List GrC) (h : Pair w0 w D Bx By bs A n c A' n' S k F bt B m d B' m' S' k' F') :
    Calls Tryz.prog 28 #[.pointer (some ⟨bs, 0, none⟩)] w fun e w' => (∃ v, e = .returned v) ∧ PairH w0 w' D Bx By bs A n c A' n' S k F bt B m d B' m' S' k' F' ∧ Kept w w' := by
  obtain ⟨Ys, Yt, h1, h2, h3⟩ := h
  refine (duo_pfold w0 w D bs A n c A' n' S k F _ Ys h1).mono ?_
  rintro e w' ⟨hv, Ys2, hh, hst, hsub⟩
  refine ⟨hv, ⟨Ys2, Yt, hh, h2.aside h1 hst h3 hsub ?_, fun i hi hj => ?_⟩, fun b cs hk => h1.keep hst hk⟩
  · obtain ⟨-, -, -, base, lv, mv, L, V, Mr, rfl, -, hb, hs, -⟩ := hh
    exact fun i hi => ⟨Nat.le_trans hb (hs.yof i hi).1, (hs.yof i hi).2⟩
  · rcases hsub i hi with h | h
    · exact h3 i h hj
    · have := (h2.yl i hj).2; omega
theorem pair_dfold (w0 w : World) (D Bx By bs : Nat) (A : Option Addr) (n c : Nat) (A' : Option Addr) (n' c' S k : Nat) (F : List GrC) (bt : Nat) (B : Option Addr) (m d : Nat) (B' : Option Addr) (m' S' k' : Nat) (F' : List GrC) (h : PairH w0 w D Bx By bs A n c A' n' S k F bt B m d B' m' S' k' F') :
    Calls Tryz.prog 45 #[.agg #[.int .i64 D, .slice A n c, .slice A' n' c']] w fun e w' => ∃ A n c A' n' c', e = .returned (.agg #[.int .i64 D, .slice A n c, .slice A' n' c']) ∧ Pair w0 w' D Bx By bs A n c A' n' S k F bt B m d B' m' S' k' F' ∧ Below w.heap.size w w' := by
  obtain ⟨Ys, Yt, h1, h2, h3⟩ := h
  refine (duo_dfold w0 w D bs A n c A' n' c' S k F _ Ys h1).mono ?_
  rintro e w3 ⟨A3, n3, c3, A4, n4, c4, rfl, hd, hb⟩
  exact ⟨A3, n3, c3, A4, n4, c4, rfl, ⟨Ys, Yt, hd, h2.ext hb, h3⟩, hb⟩
set_option maxRecDepth 100000 in
set_option maxHeartbeats 8000000 in
theorem folds_any (dep : Int) (A : Option Addr) (n c : Nat) (L : List DeedH) (Aw : Option Addr) (nw cw : Nat) (bw : List Bool) (w : World) (h : DeedsRaw w w.heap.size A n L) (hn : n ≤ maxLen) (hw : Rd w w.heap.size 1 Aw nw (bw.map Value.bool)) (hnw : nw ≤ maxLen) :
    Calls Tryz.prog 7 #[.int .i64 dep, .slice A n c, .slice Aw nw cw] w fun e w' => e = .returned (.bool true) ∧ Below w.heap.size w w' := by
  have H := Lib.hid h
  have HW := Lib.hid hw
  have hlen := h.len
  have HLEN := Lib.hid hlen
  unfold maxLen at hn hnw
  have hB : Below w.heap.size w w := Below.refl _ _
  have hlv := fun W (hb : Below w.heap.size w W) => calls_on hb (live37_any W)
  have HLV := Lib.hid hlv
  clear h hlen hlv hw
  by_cases hbad : dep < 1 ∨ 200 < dep
  · go_enter Tryz.func7, Tryz.ntmps7
    go_upto_region 2 with ((with_reducible go_at_call 37); (refine (new_no dep _ hbad).mono ?_); rintro e w1 ⟨rfl, hb1⟩; replace hB := hB.trans (hb1.mono hB.size); clear hb1)
    go_wp2_with (first
      | ((with_reducible go_at_call 37); (refine (new_no dep _ hbad).mono ?_); rintro e w2 ⟨rfl, hb1⟩; replace hB := hB.trans (hb1.mono hB.size); clear hb1)
      | ((with_reducible go_at_call 38); (refine (HLV.out _ hB).mono ?_); rintro e w11 ⟨rfl, hb1, -, -⟩))
    go_ret
    exact ⟨rfl, hb1⟩
  obtain ⟨D, rfl⟩ : ∃ D : Nat, dep = (D : Int) := ⟨dep.toNat, by omega⟩
  have hD1 : 1 ≤ D := by omega
  have hD2 : D ≤ 200 := by omega
  clear hbad
  go_enter Tryz.func7, Tryz.ntmps7
  go_upto_region 2 with ((with_reducible go_at_call 37); (refine (new_any D _ (by omega) (by omega)).mono ?_); rintro e w1 ⟨rfl, hs1, hb1⟩)
  have hz1 := def_lt' hs1.k
  have HS1 := Lib.hid hs1
  clear hs1
  go_upto_region 3 with ((with_reducible go_at_call 37); (refine (new_any D _ (by omega) (by omega)).mono ?_); rintro e w2 ⟨rfl, hs2, hb2⟩)
  have hz2 := def_lt' hs2.k
  have HS2 := Lib.hid hs2
  have hB2 : Below w.heap.size w w2 := hb1.trans (hb2.mono hb1.size)
  have hraw := (H.out.below hB2).more hB2.size
  have hfew := few37_any A n c L w2 hraw (by unfold maxLen; omega)
  have HFEW := Lib.hid hfew
  have hwz1 := hb1.size
  clear hfew hraw hs2 hB
  go_wp2_with (go_at_call 39; fail)
  refine HFEW.out.mono ?_
  rintro e wf ⟨vb, rfl, hvb, hbf⟩
  have hBf : Below w.heap.size w wf := hB2.trans (hbf.mono hB2.size)
  cases vb with
  | false =>
    go_wp2_with ((with_reducible go_at_call 38); (refine (HLV.out _ hBf).mono ?_); rintro e w11 ⟨rfl, hb1, -, -⟩)
    go_ret
    exact ⟨rfl, hb1⟩
  | true =>
  obtain ⟨hn16, hsm, htot⟩ := hvb rfl
  have HSM := Lib.hid hsm
  have HTOT := Lib.hid htot
  clear hvb hsm htot
  have kx := Bk.new wf 88 #[.int .i64 D, .slice none 0 0, .slice none 0 0]
  have cx0 := kx.cell 0; have cx1 := kx.cell 1; have cx2 := kx.cell 2
  dsimp at cx0 cx1 cx2
  go_upto_region 7 with fail
  have hbA : Below wf.heap.size wf ((wf.alloc (.cells #[.int .i64 D, .slice none 0 0, .slice none 0 0] 88)).alloc (.cells #[.int .i64 D, .slice none 0 0, .slice none 0 0] 88)) := belowA
  have ky : Bk ((wf.alloc (.cells #[.int .i64 D, .slice none 0 0, .slice none 0 0] 88)).alloc (.cells #[.int .i64 D, .slice none 0 0, .slice none 0 0] 88)) (wf.heap.size + 1) 88 #[.int .i64 D, .slice none 0 0, .slice none 0 0] := Bk.made _ _ (by simp)
  replace kx := kx.alloc (.cells #[.int .i64 D, .slice none 0 0, .slice none 0 0] 88)
  clear cx0 cx1 cx2
  generalize (wf.alloc (.cells #[.int .i64 D, .slice none 0 0, .slice none 0 0] 88)).alloc (.cells #[.int .i64 D, .slice none 0 0, .slice none 0 0] 88) = wg at *
  have hyl := def_lt' ky
  obtain ⟨Bx, hBE⟩ : ∃ B, B = wf.heap.size := ⟨_, rfl⟩
  have hwB : w.heap.size ≤ Bx := by rw [hBE]; exact hBf.size
  rw [← hBE] at kx ky hyl ⊢
  have hBg : Below w.heap.size w wg := hBf.trans (hbA.mono hBf.size)
  have hzf := hbf.size
  have hnil : ∀ b i, Yof b (.slice none 0 0) (.slice none 0 0) i → i = b := by
    rintro b i (h | h | h)
    · exact h
    · simp [Value.ownBlock] at h
    · simp [Value.ownBlock] at h
  have hpair : Pair w wg D Bx (Bx + 1) w.heap.size none 0 0 none 0 0 0 [] w1.heap.size none 0 0 none 0 0 0 [] := by
    refine ⟨Yof w.heap.size (.slice none 0 0) (.slice none 0 0), Yof w1.heap.size (.slice none 0 0) (.slice none 0 0), ⟨Nat.le_refl _, hBg, fun i hi => ?_, w.heap.size, _, _, [], [], [], rfl, rfl, Nat.le_refl _, (((HS1.out.below hb2).below hbf).below hbA), RStk.nil_ _ _, rfl, by simp [totC], by simp, by simp⟩, ⟨Nat.le_refl _, hBg, fun i hi => ?_, w1.heap.size, _, _, [], [], [], rfl, rfl, hwz1, ((HS2.out.below hbf).below hbA), RStk.nil_ _ _, rfl, by simp [totC], by simp, by simp⟩, fun i hi hj => ?_⟩
    · rcases hi with hi | hi | hi
      · omega
      · omega
      · have := hnil _ _ hi; omega
    · rcases hi with hi | hi | hi
      · omega
      · omega
      · have := hnil _ _ hi; omega
    · have h1 := hnil _ _ hi; have h2 := hnil _ _ hj; omega
  have HPAIR := Lib.hid hpair
  clear hpair hnil hbA hBf hbf hBE hB2 HS1 HS2 hb1 hb2
  go_wp2
  go_loopw [7, 9, 13] (fun s t j wr => ∃ (q bs : Nat) (A2 : Option Addr) (n2 c2 : Nat) (A3 : Option Addr) (n3 c3 : Nat) (bt : Nat) (A4 : Option Addr) (n4 c4 : Nat) (A5 : Option Addr) (n5 c5 : Nat), q ≤ n ∧ s = .pointer (some ⟨bs, 0, none⟩) ∧ t = .pointer (some ⟨bt, 0, none⟩) ∧ j = .int .i64 q ∧ Below w.heap.size w wr ∧ Bk wr Bx 88 #[.int .i64 D, .slice A2 n2 c2, .slice A3 n3 c3] ∧ Bk wr (Bx + 1) 88 #[.int .i64 D, .slice A4 n4 c4, .slice A5 n5 c5] ∧ Hid (∃ F, Pair w wr D Bx (Bx + 1) bs A2 n2 c2 A3 n3 (totD (L.take q)) q F bt A4 n4 c4 A5 n5 (totD (L.take q)) q F)) (fun _ _ j _ => n - (intOf j).toNat)
  case atStart => exact ⟨0, w.heap.size, none, 0, 0, none, 0, 0, w1.heap.size, none, 0, 0, none, 0, 0, by omega, rfl, rfl, rfl, hBg, kx, ky, Lib.hid ⟨_, HPAIR.out⟩⟩
  case round =>
    clear kx ky
    obtain ⟨q, bs, A2, n2, c2, A3, n3, c3, bt, A4, n4, c4, A5, n5, c5, hq, rfl, rfl, rfl, hbr, kx, ky, hI⟩ := hrel
    by_cases hqn : q < n
    · obtain ⟨d, hx⟩ : ∃ d, L[q]? = some d := ⟨_, List.getElem?_eq_getElem (by have := HLEN.out; omega)⟩
      obtain ⟨din, b, o, rfl, hb, hcc⟩ := DeedsRaw.at_ H.out hx
      have htd := totD_snoc hx
      have htl : totD (L.take q) ≤ 24 := by
        have h1 := HTOT.out
        unfold totD at *
        rw [← List.take_append_drop q L] at h1
        simp only [List.map_append, List.sum_append] at h1
        omega
      obtain ⟨hg1, hg2, hg3⟩ := HSM.out d (List.mem_of_getElem? hx)
      obtain ⟨F, hpr⟩ := hI.out
      have HCC := Lib.hid hcc
      have HDIN := Lib.hid din
      have HTD := Lib.hid htd
      have HG2 := Lib.hid hg2
      have hdo := fun W (hbW : Below wr.heap.size wr W) => pair_does w W D Bx (Bx + 1) bs A2 n2 c2 A3 n3 c3 _ q F bt A4 n4 c4 A5 n5 _ q F d (hpr.ext hbW) ⟨by omega, by omega⟩ (by omega) (by omega) din hg1 hg2 hg3
      rw [← htd] at hdo
      have HDO := Lib.hid hdo
      have e3 : (q : Int) < n := by omega
      clear hcc hx htd hpr hdo hI din hg2
      have hF : ∀ W, (Bk W Bx 88 #[.int .i64 D, .slice A2 n2 c2, .slice A3 n3 c3] ∧ Below w.heap.size w W) → W.cell? ⟨Bx, 0, none⟩ = some (.int .i64 D) ∧ W.cell? ⟨Bx, 1, none⟩ = some (.slice A2 n2 c2) ∧ W.cell? ⟨Bx, 2, none⟩ = some (.slice A3 n3 c3) ∧ W.cell? ⟨b, o + q * 10, none⟩ = some (.int .i64 d.k) ∧ W.cell? ⟨b, o + q * 10 + 1, none⟩ = some (.slice d.g.A d.g.n d.g.c) ∧ W.cell? ⟨b, o + q * 10 + 2, none⟩ = some (.int .i64 d.g.pin.k) ∧ W.cell? ⟨b, o + q * 10 + 3, none⟩ = some (.int .i64 d.g.pin.a) ∧ W.cell? ⟨b, o + q * 10 + 4, none⟩ = some (.int .i64 d.g.pin.b) ∧ W.cell? ⟨b, o + q * 10 + 5, none⟩ = some (.int .i64 d.g.back.k) ∧ W.cell? ⟨b, o + q * 10 + 6, none⟩ = some (.int .i64 d.g.back.a) ∧ W.cell? ⟨b, o + q * 10 + 7, none⟩ = some (.int .i64 d.g.back.b) ∧ W.cell? ⟨b, o + q * 10 + 8, none⟩ = some (.int .i64 d.g.lost) ∧ W.cell? ⟨b, o + q * 10 + 9, none⟩ = some (.slice d.A d.n d.c) := fun W h => ⟨h.1.cell 0, h.1.cell 1, h.1.cell 2, (h.2.cell hb).trans (HCC.out 0 (by omega)), (h.2.cell hb).trans (HCC.out 1 (by omega)), (h.2.cell hb).trans (HCC.out 2 (by omega)), (h.2.cell hb).trans (HCC.out 3 (by omega)), (h.2.cell hb).trans (HCC.out 4 (by omega)), (h.2.cell hb).trans (HCC.out 5 (by omega)), (h.2.cell hb).trans (HCC.out 6 (by omega)), (h.2.cell hb).trans (HCC.out 7 (by omega)), (h.2.cell hb).trans (HCC.out 8 (by omega)), (h.2.cell hb).trans (HCC.out 9 (by omega))⟩
      have HF := Lib.hid hF
      clear hF
      go_upto_region 11 with fail
      refine wp_normal ?_
      refine region_L (S := fun W => Bk W Bx 88 #[.int .i64 D, .slice A2 n2 c2, .slice A3 n3 c3] ∧ Below w.heap.size w W) [8, 9, 10, 11, 12, 13] (by kernel_rfl) ⟨kx.drew, hbr.drew⟩ (fun hHeld => ?_)
      (refine tkD 0 ?_; refine tkD 1 ?_; refine tkD 2 ?_; refine tkD 3 ?_; refine tkD 4 ?_; refine tkD 5 ?_)
      refine nxL 6 (fun K hK => ?_)
      go_simp
      go_at_call 40
      refine (HDO.out wr.drew ((Below.refl _ _).drew)).mono ?_
      rintro e w3 ⟨bs, A2, n2, c2, A3, n3, c3, rfl, hp2, hkp⟩
      have k2 := hkp _ _ kx.drew
      have k2' := hkp _ _ ky.drew
      have hb2 := hp2.below
      refine hK.out _ _ ⟨k2, hb2⟩ (fun hHeld => ?_)
      clear hK K; refine puL ?_
      (refine tkD 7 ?_)
      (refine tkP 8 ?_; refine tkP 9 ?_; refine tkP 10 ?_; refine tkP 11 ?_)
      have x0 := k2.cell 0; have x1 := k2.cell 1; have x2 := k2.cell 2; have xf := k2.frozen; have xl := def_lt' k2
      dsimp at x0 x1 x2
      have g3 : w3.grownBy (((w3.setCell ⟨Bx, 0, none⟩ (.int .i64 D)).setCell ⟨Bx, 1, none⟩ (.slice A2 n2 c2)).setCell ⟨Bx, 2, none⟩ (.slice A3 n3 c3)) (some Bx) := gr_set (p := ⟨Bx, 2, none⟩) (gr_set (p := ⟨Bx, 1, none⟩) (gr_set (p := ⟨Bx, 0, none⟩) (World.grownBy.refl _ _) (.inl rfl) _) (.inl rfl) _) (.inl rfl) _
      have k3 : Bk (((w3.setCell ⟨Bx, 0, none⟩ (.int .i64 D)).setCell ⟨Bx, 1, none⟩ (.slice A2 n2 c2)).setCell ⟨Bx, 2, none⟩ (.slice A3 n3 c3)) Bx 88 #[.int .i64 D, .slice A2 n2 c2, .slice A3 n3 c3] := ((k2.set_ 0 _).set_ 1 _).set_ 2 _
      have ky4 := k2'.grown g3 (by simp <;> omega)
      have hp3 := hp2.wrote k2 g3 (.inl rfl)
      have HP3 := Lib.hid hp3
      clear hp2 hp3
      refine ltL 12 (fun K hK => ?_)
      go_simp
      refine hK.out _ _ ?_
      clear hK K; refine puL ?_
      (refine tkP 13 ?_)
      refine anyL_done (by kernel_rfl) ?_
      generalize ((w3.setCell ⟨Bx, 0, none⟩ (.int .i64 D)).setCell ⟨Bx, 1, none⟩ (.slice A2 n2 c2)).setCell ⟨Bx, 2, none⟩ (.slice A3 n3 c3) = w4 at *
      have kx4 := k3
      clear HF HDO x0 x1 x2 xf xl g3 k2 k2' hkp k3
      have hb4 := HP3.out.below
      have hdo := fun W (hbW : Below w4.heap.size w4 W) => pair_does w W D Bx (Bx + 1) bt A4 n4 c4 A5 n5 c5 _ q F bs A2 n2 c2 A3 n3 _ (q + 1) (deedF D d F) d (HP3.out.symm.ext hbW) ⟨by omega, by omega⟩ (by omega) (by omega) HDIN.out hg1 HG2.out hg3
      rw [← HTD.out] at hdo
      have HDO := Lib.hid hdo
      clear hdo HP3
      have hF : ∀ W, (Bk W (Bx + 1) 88 #[.int .i64 D, .slice A4 n4 c4, .slice A5 n5 c5] ∧ Below w.heap.size w W) → W.cell? ⟨(Bx + 1), 0, none⟩ = some (.int .i64 D) ∧ W.cell? ⟨(Bx + 1), 1, none⟩ = some (.slice A4 n4 c4) ∧ W.cell? ⟨(Bx + 1), 2, none⟩ = some (.slice A5 n5 c5) ∧ W.cell? ⟨b, o + q * 10, none⟩ = some (.int .i64 d.k) ∧ W.cell? ⟨b, o + q * 10 + 1, none⟩ = some (.slice d.g.A d.g.n d.g.c) ∧ W.cell? ⟨b, o + q * 10 + 2, none⟩ = some (.int .i64 d.g.pin.k) ∧ W.cell? ⟨b, o + q * 10 + 3, none⟩ = some (.int .i64 d.g.pin.a) ∧ W.cell? ⟨b, o + q * 10 + 4, none⟩ = some (.int .i64 d.g.pin.b) ∧ W.cell? ⟨b, o + q * 10 + 5, none⟩ = some (.int .i64 d.g.back.k) ∧ W.cell? ⟨b, o + q * 10 + 6, none⟩ = some (.int .i64 d.g.back.a) ∧ W.cell? ⟨b, o + q * 10 + 7, none⟩ = some (.int .i64 d.g.back.b) ∧ W.cell? ⟨b, o + q * 10 + 8, none⟩ = some (.int .i64 d.g.lost) ∧ W.cell? ⟨b, o + q * 10 + 9, none⟩ = some (.slice d.A d.n d.c) := fun W h => ⟨h.1.cell 0, h.1.cell 1, h.1.cell 2, (h.2.cell hb).trans (HCC.out 0 (by omega)), (h.2.cell hb).trans (HCC.out 1 (by omega)), (h.2.cell hb).trans (HCC.out 2 (by omega)), (h.2.cell hb).trans (HCC.out 3 (by omega)), (h.2.cell hb).trans (HCC.out 4 (by omega)), (h.2.cell hb).trans (HCC.out 5 (by omega)), (h.2.cell hb).trans (HCC.out 6 (by omega)), (h.2.cell hb).trans (HCC.out 7 (by omega)), (h.2.cell hb).trans (HCC.out 8 (by omega)), (h.2.cell hb).trans (HCC.out 9 (by omega))⟩
      have HF := Lib.hid hF
      clear hF
      go_upto_region 12 with fail
      refine wp_normal ?_
      refine region_L (S := fun W => Bk W (Bx + 1) 88 #[.int .i64 D, .slice A4 n4 c4, .slice A5 n5 c5] ∧ Below w.heap.size w W) [8, 9, 10, 11, 12, 13] (by kernel_rfl) ⟨ky4.drew, hb4.drew⟩ (fun hHeld => ?_)
      (refine tkD 0 ?_; refine tkD 1 ?_; refine tkD 2 ?_; refine tkD 3 ?_; refine tkD 4 ?_; refine tkD 5 ?_)
      refine nxL 6 (fun K hK => ?_)
      go_simp
      go_at_call 40
      refine (HDO.out w4.drew ((Below.refl _ _).drew)).mono ?_
      rintro e w5 ⟨bt, A4, n4, c4, A5, n5, c5, rfl, hp2, hkp⟩
      have k2 := hkp _ _ ky4.drew
      have k2' := hkp _ _ kx4.drew
      have hb2 := hp2.below
      refine hK.out _ _ ⟨k2, hb2⟩ (fun hHeld => ?_)
      clear hK K; refine puL ?_
      (refine tkD 7 ?_)
      (refine tkP 8 ?_; refine tkP 9 ?_; refine tkP 10 ?_; refine tkP 11 ?_)
      have x0 := k2.cell 0; have x1 := k2.cell 1; have x2 := k2.cell 2; have xf := k2.frozen; have xl := def_lt' k2
      dsimp at x0 x1 x2
      have g3 : w5.grownBy (((w5.setCell ⟨(Bx + 1), 0, none⟩ (.int .i64 D)).setCell ⟨(Bx + 1), 1, none⟩ (.slice A4 n4 c4)).setCell ⟨(Bx + 1), 2, none⟩ (.slice A5 n5 c5)) (some (Bx + 1)) := gr_set (p := ⟨(Bx + 1), 2, none⟩) (gr_set (p := ⟨(Bx + 1), 1, none⟩) (gr_set (p := ⟨(Bx + 1), 0, none⟩) (World.grownBy.refl _ _) (.inl rfl) _) (.inl rfl) _) (.inl rfl) _
      have k3 : Bk (((w5.setCell ⟨(Bx + 1), 0, none⟩ (.int .i64 D)).setCell ⟨(Bx + 1), 1, none⟩ (.slice A4 n4 c4)).setCell ⟨(Bx + 1), 2, none⟩ (.slice A5 n5 c5)) (Bx + 1) 88 #[.int .i64 D, .slice A4 n4 c4, .slice A5 n5 c5] := ((k2.set_ 0 _).set_ 1 _).set_ 2 _
      have kx6 := k2'.grown g3 (by simp <;> omega)
      have hp3 := hp2.wrote k2 g3 (.inr rfl)
      have HP3 := Lib.hid hp3
      clear hp2 hp3
      refine ltL 12 (fun K hK => ?_)
      go_simp
      refine hK.out _ _ ?_
      clear hK K; refine puL ?_
      (refine tkP 13 ?_)
      refine anyL_done (by kernel_rfl) ?_
      generalize ((w5.setCell ⟨(Bx + 1), 0, none⟩ (.int .i64 D)).setCell ⟨(Bx + 1), 1, none⟩ (.slice A4 n4 c4)).setCell ⟨(Bx + 1), 2, none⟩ (.slice A5 n5 c5) = w6 at *
      have ky6 := k3
      clear HF HDO x0 x1 x2 xf xl g3 k2 k2' hkp k3
      have hb6 := HP3.out.below
      have hv : q < nw → ∃ bb ob v, Aw = some ⟨bb, ob, none⟩ ∧ bb < w.heap.size ∧ w.cell? ⟨bb, ob + q, none⟩ = some (.bool v) := fun hqw => by
        obtain ⟨bb, ob, u, hA, hbb, hu, hcell⟩ := HW.out.at1 hqw
        rw [List.getElem?_map] at hu
        obtain ⟨v, -, hv⟩ := Option.map_eq_some_iff.1 hu
        subst hv
        exact ⟨bb, ob, v, hA, hbb, hcell⟩
      have HV := Lib.hid hv
      clear hv
      by_cases hqw : q < nw
      case' pos =>
        obtain ⟨bb, ob, v, rfl, hbb, hcv⟩ := HV.out hqw
        have hcv6 := (hb6.cell (p := ⟨bb, ob + q, none⟩) hbb).trans hcv
        have e4 : (q : Int) < nw := by omega
        clear hcv
        cases v
        case' true =>
          have hpf := pair_pfold w w6 D Bx (Bx + 1) bt A4 n4 c4 A5 n5 _ (q + 1) (deedF D d F) bs A2 n2 c2 A3 n3 _ (q + 1) (deedF D d F) HP3.out
          have HPF := Lib.hid hpf
          clear hpf
          go_wp2_with (go_at_call 28; fail)
          refine HPF.out.mono ?_
          rintro e w7 ⟨⟨v, rfl⟩, hh, hkp⟩
          have ky7 := hkp _ _ ky6
          have kx7 := hkp _ _ kx6
          have hdf := pair_dfold w w7 D Bx (Bx + 1) bt A4 n4 c4 A5 n5 c5 _ (q + 1) (deedF D d F) bs A2 n2 c2 A3 n3 _ (q + 1) (deedF D d F) hh
          have HDF := Lib.hid hdf
          have x0 := ky7.cell 0; have x1 := ky7.cell 1; have x2 := ky7.cell 2
          dsimp at x0 x1 x2
          clear hdf hh hkp HPF hcv6
          go_wp2_with (go_at_call 45; fail)
          refine HDF.out.mono ?_
          clear x0 x1 x2
          rintro e w8 ⟨A4, n4, c4, A5, n5, c5, rfl, hp8, hb8⟩
          have ky8 := ky7.ext hb8
          have kx8 := kx7.ext hb8
          have x0 := ky8.cell 0; have x1 := ky8.cell 1; have x2 := ky8.cell 2; have xf := ky8.frozen; have xl := def_lt' ky8
          dsimp at x0 x1 x2
          have g3 : w8.grownBy (((w8.setCell ⟨Bx + 1, 0, none⟩ (.int .i64 D)).setCell ⟨Bx + 1, 1, none⟩ (.slice A4 n4 c4)).setCell ⟨Bx + 1, 2, none⟩ (.slice A5 n5 c5)) (some (Bx + 1)) := gr_set (p := ⟨Bx + 1, 2, none⟩) (gr_set (p := ⟨Bx + 1, 1, none⟩) (gr_set (p := ⟨Bx + 1, 0, none⟩) (World.grownBy.refl _ _) (.inl rfl) _) (.inl rfl) _) (.inl rfl) _
          clear HP3 ky6 kx6 hb6
          have ky6 : Bk (((w8.setCell ⟨Bx + 1, 0, none⟩ (.int .i64 D)).setCell ⟨Bx + 1, 1, none⟩ (.slice A4 n4 c4)).setCell ⟨Bx + 1, 2, none⟩ (.slice A5 n5 c5)) (Bx + 1) 88 #[.int .i64 D, .slice A4 n4 c4, .slice A5 n5 c5] := ((ky8.set_ 0 _).set_ 1 _).set_ 2 _
          have kx6 := kx8.grown g3 (by simp)
          have hp9 := hp8.wrote ky8 g3 (.inr rfl)
          have HP3 := Lib.hid hp9
          clear hp8 hp9 g3 HDF
          go_upto_region 16 with fail
          clear x0 x1 x2
          generalize ((w8.setCell ⟨Bx + 1, 0, none⟩ (.int .i64 D)).setCell ⟨Bx + 1, 1, none⟩ (.slice A4 n4 c4)).setCell ⟨Bx + 1, 2, none⟩ (.slice A5 n5 c5) = w6 at *
          have hb6 := HP3.out.below
        case' false => go_upto_region 16 with fail
      case' neg =>
        have e4 : ¬ (q : Int) < nw := by omega
        go_upto_region 16 with fail
      all_goals
        obtain ⟨Yt, Ys, hdt, hds, -⟩ := HP3.out
        obtain ⟨-, -, -, base, lv, mv, Lg, Ms, V, -, hFs, -, hs, hr, hLV, -, -, hVD⟩ := hds
        obtain ⟨-, -, -, base', lt, mt, Lt, Mt, Vt, -, hFt, -, hst, hrt, hLVt, -, -, -⟩ := hdt
        have hLn : Lg.length ≤ D := by have h1 := congrArg List.length hLV; simp only [List.length_map, List.length_reverse] at h1; omega
        have hc1 := len_any base bs lv mv D Lg Ms w6 hs
        have hc5 := groups_any base bs lv mv D Lg Ms w6 hs
        rw [hLV, List.reverse_reverse, ← hFs] at hc5
        have hc6 := fun W (hbW : Below w6.heap.size w6 W) => groups_any base' bt lt mt D Lt Mt W (hst.below hbW)
        rw [hLVt, List.reverse_reverse, ← hFt] at hc6
        have hbd : BdC (deedF D d F) := by rw [hFs]; exact hr.bd.fold _
        have hfl : (deedF D d F).length ≤ D := by rw [hFs, foldC_len]; exact hVD
        have e7 : ¬ (D : Int) < Lg.length := by omega
        have HC1 := Lib.hid hc1; have HC5 := Lib.hid hc5; have HC6 := Lib.hid hc6
        have HBD := Lib.hid hbd
        have HFL := Lib.hid hfl
        have hz6 := hb6.size
        clear hc1 hc5 hc6 hbd hfl hLV hLVt hFs hFt hs hst hr hrt hVD
        go_wp2_with (go_at_call 33; fail)
        refine HC1.out.mono ?_
        rintro e y1 ⟨rfl, rfl⟩
        go_wp2_with (go_at_call 32; fail)
        refine HC5.out.mono ?_
        intro e y2 ho2
        obtain ⟨A6, n6, c6, L6, rfl, hl6, -, hin6, hO6, hV6, hb7⟩ := grs_out ho2
        have HO2 := Lib.hid (show (∀ g ∈ L6, g.Own y2 w6.heap.size) ∧ L6.map GrH.val = deedF D d F ∧ GrsIn y2 y2.heap.size A6 n6 L6 from ⟨hO6, hV6, hin6⟩)
        clear ho2 hin6 hO6 hV6
        go_wp2_with (go_at_call 32; fail)
        refine (HC6.out _ hb7).mono ?_
        intro e y3 ho3
        obtain ⟨A7, n7, c7, L7, rfl, hl7, -, hin7, hO7, hV7, hb8⟩ := grs_out ho3
        obtain ⟨hO6, hV6, hin6⟩ := HO2.out
        obtain rfl : n7 = n6 := by have h1 := congrArg List.length hV6; have h2 := congrArg List.length hV7; rw [List.length_map] at h1 h2; omega
        have hn7 : n7 ≤ 1000 := by have h1 := congrArg List.length hV7; rw [List.length_map] at h1; have := HFL.out; omega
        have hsa := csame_any A6 A7 n7 c6 c7 L6 L7 y3 (hin6.ext hb8) hin7 (by rw [hV6, hV7]) hn7 (by
          have hB6 : BdC (L6.map GrH.val) := by rw [hV6]; exact HBD.out
          exact hB6.n hO6)
        have HSA := Lib.hid hsa
        clear hsa hO6 hV6 hin6 hO7 hV7 hin7 ho3
        go_wp2_with (go_at_call 46; fail)
        refine HSA.out.mono ?_
        rintro e y4 ⟨rfl, hb9⟩
        have hbe : Below w6.heap.size w6 y4 := (hb7.trans (hb8.mono hb7.size)).trans (hb9.mono (Nat.le_trans hb7.size hb8.size))
        have hbE := hb6.trans (hbe.mono hz6)
        have kxE := kx6.ext hbe
        have kyE := ky6.ext hbe
        have HPE := Lib.hid (HP3.out.symm.ext hbe)
        go_wp2
        go_roundw
        case rel => exact ⟨q + 1, bs, A2, n2, c2, A3, n3, c3, bt, A4, n4, c4, A5, n5, c5, by omega, rfl, rfl, by go_num, hbE, kxE, kyE, Lib.hid ⟨_, HPE.out⟩⟩
        case measure => simp [intOf]; omega
    · obtain rfl : n = q := by omega
      go_wp2_with ((with_reducible go_at_call 38); (refine (HLV.out _ hbr).mono ?_); rintro e w11 ⟨rfl, hb1, -, -⟩)
      go_ret
      exact ⟨rfl, hb1⟩
end Go.Proofs.YtmacfoebfpljoaaGreat
