/- merged texts: Lx Qa Qb Qc Qd Qe Qf -/
import Derived.Test.YtmacfoebfpljoaaGreatMa17
import Derived.Test.YtmacfoebfpljoaaGreatMa8
set_option maxRecDepth 100000
set_option maxHeartbeats 16000000
namespace Go.Proofs.YtmacfoebfpljoaaGreat
open Go.RowKit
set_option linter.unusedVariables false
/-- a slice of tokens in a block of tokens -/
structure Tks (W : World) (A : Option Addr) (n : Nat) (D : List Tok) : Prop where
 r : Rd W W.heap.size 12 A n (toks D)
 b : ∀ a, A = some a → ∃ cs, Bk W a.block 126 cs
theorem Tks.below {W W' : World} {A : Option Addr} {n : Nat} {D : List Tok} (h : Tks W A n D) (hb : Below W.heap.size W W') : Tks W' A n D :=
 ⟨(h.r.below hb).more hb.size, fun a e => by
   obtain ⟨cs, k⟩ := h.b a e
   exact ⟨cs, k.ext hb⟩⟩
theorem Tks.of_own {W : World} {base n : Nat} {v : Value} {D : List Tok} (h : W.ownsRow base 126 12 v n (toks D)) : ∃ A c, v = .slice A n c ∧ n ≤ c ∧ Tks W A n D := by
 rcases h.2 with ⟨rfl, h0⟩ | ⟨g, cap, cur, rfl, -, hh, hc, -⟩
 ·subst h0
  have : D = [] := List.eq_nil_of_length_eq_zero (by have := h.1; rw [toks_len] at this; omega)
  subst this
  exact ⟨none, 0, rfl, Nat.le_refl _, Rd.nil_ _ _ _ _, fun a e => by cases e⟩
 ·exact ⟨_, cap, rfl, hc, Rd.of_own h, fun a e => by injection e with e; subst e; exact ⟨cur, hh⟩⟩
theorem Tks.not {W : World} {base g mb n m : Nat} {sv : Value} {nx : Int} {l : List EH} {er : Int → Bool} {A : Option Addr} {D : List Tok} (h : Tks W A m D) (hL : LdIn W base g mb n sv nx l er) : ∀ a, A = some a → ¬ LdIn.Mine g mb sv l a.block := fun a e => by
 obtain ⟨cs, k⟩ := h.b a e
 exact hL.not_mine k (by decide) (by decide) (by decide) (by decide)
theorem Owns.below {W W' : World} {base g mb n : Nat} {sv sv' : Value} {nx : Int} {l l' : List EH} {er : Int → Bool} (h : Owns g mb sv l sv' l' W W') (hL : LdIn W base g mb n sv nx l er) (hb : base ≤ W.heap.size) : Below base W W' := h.1.below (fun k hk => hL.ge hk) hb
/-- is an event one of some? -/
def hasI (l : List Int) (v : Int) : Bool := l.any fun x => decide (v = x)
/-- is some of some events one of others? -/
def oneB (l ev : List Int) : Bool := l.any (hasI ev)
theorem index_any (A : Option Addr) (n c : Nat) (L : List Int) (v : Int) (w : World) (hn : n ≤ maxLen) (hrd : Rd w w.heap.size 1 A n (its L)) :
 Calls Tryz.prog 207 #[.slice A n c, .int .i64 v] w fun e w' => ∃ r : Int, e = .returned (.int .i64 r) ∧ decide (0 ≤ r) = hasI L v ∧ Below w.heap.size w w' := by
 have hl : L.length = n := by simpa [its] using hrd.1
 unfold maxLen at hn
 have HL := Lib.hid hl
 clear hl
 go_enter Tryz.func207, Tryz.ntmps207
 go_wp2
 go_loopw [8] (fun j wr => ∃ k : Nat, k ≤ n ∧ j = .int .i64 k ∧ Hid (hasI (L.take k) v = false) ∧ Below w.heap.size w wr) (fun j _ => n - (intOf j).toNat)
 case atStart => exact ⟨0, by omega, rfl, Lib.hid (by simp [hasI]), Below.refl _ _⟩
 case round =>
  obtain ⟨k, hk, rfl, hI, hbr⟩ := hrel
  by_cases hkn : k < n
  ·obtain ⟨s, hx⟩ : ∃ s, L[k]? = some s := ⟨_, List.getElem?_eq_getElem (by have := HL.out; omega)⟩
   obtain ⟨bb, o, rfl, hbb, d0⟩ := int_at (hrd.below hbr) hx
   have e3 : (k : Int) < n := by omega
   have hat : hasI (L.take (k + 1)) v = (hasI (L.take k) v || decide (v = s)) := lany_take hx
   by_cases hm : v = s
   ·have HN : Hid (hasI L v = true) := Lib.hid (lany_at (p := fun x => decide (v = x)) hx (by simpa using hm))
    have e4 : (v == s) = true := by simpa using hm
    clear hat hx hI hm
    go_wp2
    go_ret
    exact ⟨_, rfl, by rw [HN.out]; simp, hbr⟩
   ·have HN : Hid (hasI (L.take (k + 1)) v = false) := Lib.hid (by rw [hat, hI.out]; simpa using hm)
    have e4 : (v == s) = false := by simpa using hm
    clear hat hx hI hm
    go_wp2
    go_roundw
    case rel => exact ⟨k + 1, by omega, by go_num, HN, hbr⟩
    case measure => simp [intOf]; omega
  ·obtain rfl : n = k := by omega
   have hall := hI.out
   rw [List.take_of_length_le (by rw [HL.out]; omega)] at hall
   have HN := Lib.hid hall
   clear hall hI
   go_wp2
   go_ret
   exact ⟨_, rfl, by rw [HN.out]; simp, hbr⟩
theorem contains_any (A : Option Addr) (n c : Nat) (L : List Int) (v : Int) (w : World) (hn : n ≤ maxLen) (hrd : Rd w w.heap.size 1 A n (its L)) :
 Calls Tryz.prog 170 #[.slice A n c, .int .i64 v] w fun e w' => e = .returned (.bool (hasI L v)) ∧ Below w.heap.size w w' := by
 have hi := index_any A n c L v w hn hrd
 have HI := Lib.hid hi
 clear hi
 go_enter Tryz.func170, Tryz.ntmps170
 go_wp2_with (go_at_call 207; (refine HI.out.mono ?_); rintro e w1 ⟨r, rfl, hr, hb1⟩)
 go_ret
 exact ⟨ret_bool (by first | exact hr | simp), hb1⟩
theorem oh_index (A : Option Addr) (n c : Nat) (L : List Int) (p : Int → Bool) (cp : Value) (w : World) (hn : n ≤ maxLen) (hrd : Rd w w.heap.size 1 A n (its L))
 (hcl : ∀ W, Below w.heap.size w W → ∀ v ∈ L, Calls Tryz.prog 208 #[.int .i64 v, cp] W (On w W (.bool (p v)))) :
 Calls Tryz.prog 205 #[.slice A n c, .func (.func 208) #[] #[cp]] w fun e w' => ∃ r : Int, e = .returned (.int .i64 r) ∧ decide (0 ≤ r) = L.any p ∧ Below w.heap.size w w' := by
 have hl : L.length = n := by simpa [its] using hrd.1
 unfold maxLen at hn
 have HTC := Lib.hid hcl
 have HL := Lib.hid hl
 clear hcl hl
 go_enter Tryz.func205, Tryz.ntmps205
 go_wp2
 go_loopw [8] (fun j wr => ∃ k : Nat, k ≤ n ∧ j = .int .i64 k ∧ Hid ((L.take k).any p = false) ∧ Below w.heap.size w wr) (fun j _ => n - (intOf j).toNat)
 case atStart => exact ⟨0, by omega, rfl, Lib.hid (by simp), Below.refl _ _⟩
 case round =>
  obtain ⟨k, hk, rfl, hI, hbr⟩ := hrel
  by_cases hkn : k < n
  ·obtain ⟨s, hx⟩ : ∃ s, L[k]? = some s := ⟨_, List.getElem?_eq_getElem (by have := HL.out; omega)⟩
   obtain ⟨bb, o, rfl, hbb, d0⟩ := int_at (hrd.below hbr) hx
   have e3 : (k : Int) < n := by omega
   have hat := lany_take (p := p) hx
   have hcall := HTC.out wr hbr s (List.mem_of_getElem? hx)
   have HX := Lib.hid hx
   have HAT := Lib.hid hat
   clear hat hx
   cases hm : p s with
   | true =>
     rw [hm] at hcall
     have HC := Lib.hid hcall
     have HN : Hid (L.any p = true) := Lib.hid (lany_at HX.out hm)
     clear hcall hm HAT HX hI
     go_wp2_with (go_at_call 208; (refine HC.out.mono ?_); rintro e w1 ⟨rfl, hb1, hz1, _⟩)
     go_ret
     exact ⟨_, rfl, by rw [HN.out]; simp, hb1⟩
   | false =>
     rw [hm] at hcall
     have HC := Lib.hid hcall
     have HN : Hid ((L.take (k + 1)).any p = false) := Lib.hid (by rw [HAT.out, hI.out, hm]; rfl)
     clear hcall hm HAT HX hI
     go_wp2_with (go_at_call 208; (refine HC.out.mono ?_); rintro e w1 ⟨rfl, hb1, hz1, _⟩)
     go_roundw
     case rel => exact ⟨k + 1, by omega, by go_num, HN, hb1⟩
     case measure => simp [intOf]; omega
  ·obtain rfl : n = k := by omega
   have hall := hI.out
   rw [List.take_of_length_le (by rw [HL.out]; omega)] at hall
   have HN := Lib.hid hall
   clear hall hI
   go_wp2
   go_ret
   exact ⟨_, rfl, by rw [HN.out]; simp, hbr⟩
theorem oh_contains (A : Option Addr) (n c : Nat) (L : List Int) (p : Int → Bool) (cp : Value) (w : World) (hn : n ≤ maxLen) (hrd : Rd w w.heap.size 1 A n (its L))
 (hcl : ∀ W, Below w.heap.size w W → ∀ v ∈ L, Calls Tryz.prog 208 #[.int .i64 v, cp] W (On w W (.bool (p v)))) :
 Calls Tryz.prog 166 #[.slice A n c, .func (.func 208) #[] #[cp]] w fun e w' => e = .returned (.bool (L.any p)) ∧ Below w.heap.size w w' := by
 have hi := oh_index A n c L p cp w hn hrd hcl
 have HI := Lib.hid hi
 clear hi hcl
 go_enter Tryz.func166, Tryz.ntmps166
 go_wp2_with (go_at_call 205; (refine HI.out.mono ?_); rintro e w1 ⟨r, rfl, hr, hb1⟩)
 go_ret
 exact ⟨ret_bool (by first | exact hr | simp), hb1⟩
/-- some events, in a box -/
structure EvAt (W : World) (bx : Nat) (EA : Option Addr) (en ec : Nat) (ev : List Int) : Prop where
 k : Bk W bx 51 #[.slice EA en ec]
 r : Rd W W.heap.size 1 EA en (its ev)
theorem EvAt.below {W W' : World} {bx : Nat} {EA : Option Addr} {en ec : Nat} {ev : List Int} (h : EvAt W bx EA en ec ev) (hb : Below W.heap.size W W') : EvAt W' bx EA en ec ev := ⟨h.k.ext hb, (h.r.below hb).more hb.size⟩
theorem one1_any (bx : Nat) (EA : Option Addr) (en ec : Nat) (ev : List Int) (v : Int) (w : World) (h : EvAt w bx EA en ec ev) (hn : en ≤ maxLen) :
 Calls Tryz.prog 208 #[.int .i64 v, .pointer (some ⟨bx, 0, none⟩)] w fun e w' => e = .returned (.bool (hasI ev v)) ∧ Below w.heap.size w w' := by
 have hc := contains_any EA en ec ev v w hn h.r
 have HC := Lib.hid hc
 have d0 := h.k.cell 0
 have l0 := def_lt' h.k
 dsimp at d0
 clear hc h
 go_enter Tryz.func208, Tryz.ntmps208
 go_wp2_with (go_at_call 170; (refine HC.out.mono ?_); rintro e w1 ⟨rfl, hb1⟩)
 go_ret
 exact ⟨rfl, hb1⟩
theorem lone_any (A EA : Option Addr) (n c en ec : Nat) (L ev : List Int) (w : World) (hn : n ≤ maxLen) (hen : en ≤ maxLen) (hr : Rd w w.heap.size 1 A n (its L)) (he : Rd w w.heap.size 1 EA en (its ev)) :
 Calls Tryz.prog 171 #[.slice A n c, .slice EA en ec] w fun e w' => e = .returned (.bool (oneB L ev)) ∧ Below w.heap.size w w' := by
 have hb : Below w.heap.size w (w.alloc (.cells #[.slice EA en ec] 51)) := belowA
 have hE : EvAt (w.alloc (.cells #[.slice EA en ec] 51)) w.heap.size EA en ec ev := ⟨Bk.new w _ _, (he.below hb).more hb.size⟩
 have hc := oh_contains A n c L (hasI ev) (.pointer (some ⟨w.heap.size, 0, none⟩)) (w.alloc (.cells #[.slice EA en ec] 51)) hn ((hr.below hb).more hb.size) (fun W hbW v hv => calls_on hbW (one1_any w.heap.size EA en ec ev v W (hE.below hbW) hen))
 have HC := Lib.hid hc
 clear hc hE
 go_enter Tryz.func171, Tryz.ntmps171
 go_wp2_with (go_at_call 166; (refine HC.out.mono ?_); rintro e w1 ⟨rfl, hb1⟩)
 go_ret
 exact ⟨rfl, hb.trans (hb1.mono (by simp))⟩
attribute [local go_sem] Oper.semAt_some
def labsP (p : List (Nat × EH)) : List Int := p.map fun x => x.2.e.lab
def LabOut (er : Int → Bool) (l : List EH) (w : World) (e : Ending) (w' : World) : Prop := ∃ v, e = .returned v ∧ w'.ownsRow w.heap.size 3 1 v (cntP er (l.map EH.e)) (its (labsP (pres er l l.length))) ∧ Below w.heap.size w w'
theorem pres_cnt (er : Int → Bool) (l : List EH) : (pres er l l.length).length = cntP er (l.map EH.e) := by
 have h := plc_len (er := er) l
 unfold plc at h
 simpa using h
def LbI (w : World) (bx g : Nat) (pre : List (Nat × EH)) (W : World) : Prop := ∃ v, Bk W w.heap.size 51 #[v] ∧ W.ownsRow w.heap.size 3 1 v pre.length (its (labsP pre)) ∧ Below w.heap.size w W ∧ Bk W bx 38 #[.pointer (some ⟨g, 0, none⟩)]
theorem labels_any (base g mb n : Nat) (A : Option Addr) (c : Nat) (nx : Int) (l : List EH) (er : Int → Bool) (w : World) (h : LdIn w base g mb n (.slice A l.length c) nx l er) (hlen : l.length ≤ 100000) :
 Calls Tryz.prog 125 #[.pointer (some ⟨g, 0, none⟩)] w (LabOut er l w) := by
 obtain ⟨b, hb⟩ : ∃ b, ∀ k, A = some ⟨k, 0, none⟩ → k = b := by
  cases A with
  | none => exact ⟨0, fun k e => by cases e⟩
  | some a => exact ⟨a.block, fun k e => by injection e with e; rw [e]⟩
 have ko := Bk.new w 51 #[.slice none 0 0]
 have hb1 : Below w.heap.size w (w.alloc (.cells #[.slice none 0 0] 51)) := belowA
 have hz1 : (w.alloc (.cells #[.slice none 0 0] 51)).heap.size = w.heap.size + 1 := by simp
 have hlg := def_lt' h.k
 have HH := Lib.hid h
 have HB := Lib.hid hb
 clear h hb
 refine callsIn_wide.1 (callsIn_of_wp_marks (n := 10) Tryz.func125 rfl trivial ?_ rfl)
 simp only [Tryz.ntmps125, List.size_toArray, List.length_cons, List.length_nil, Nat.reduceAdd, Nat.reduceSub, Array.replicate_succ, Array.replicate_zero, List.push_toArray, List.append_toArray, List.nil_append, List.cons_append]
 gi_wp2_with (refine ⟨trivial, ?_⟩; gi_at_call 63; refine (callsIn_wide.2 (lall_any _ _)).mono ?_; rintro e w2 ⟨rfl, rfl⟩)
 generalize w.alloc (.cells #[.slice none 0 0] 51) = w1 at *
 have kb := Bk.new w1 38 #[.pointer (some ⟨g, 0, none⟩)]
 have hb2 : Below w.heap.size w (w1.alloc (.cells #[.pointer (some ⟨g, 0, none⟩)] 38)) := hb1.alloc (by omega) _
 have hz2 : (w1.alloc (.cells #[.pointer (some ⟨g, 0, none⟩)] 38)).heap.size = w.heap.size + 2 := by simp [hz1]
 have ko2 := ko.alloc (.cells #[.pointer (some ⟨g, 0, none⟩)] 38)
 generalize w1.alloc (.cells #[.pointer (some ⟨g, 0, none⟩)] 38) = w2 at *
 rw [hz1] at kb
 have hgv := lall_gives (w.heap.size + 1) base g mb n b A c nx l er w w2 HH.out HB.out hb2 (by omega)
 have hpl := pres_len er l l.length
 refine range_mine_s (gf := 122) (lb := #[.pointer (some ⟨w.heap.size + 1, 0, none⟩)]) rfl (enters_of Tryz.func122 (by kernel_rfl) rfl) hgv (Below.refl _ _) hb2.size (fun _ => rfl)
  (LbI w (w.heap.size + 1) g) (fun _ _ _ => False) ?hI ?hIx ?h0 (fun s W h => h.choose_spec.2.2.2) (fun _ _ _ h => h.elim) ?hround ?hdone ?hstop
 case hI =>
  rintro s A' B row ⟨v, h1, h2, h3, h4⟩ hg hr
  exact ⟨v, blk_kept h1 hg hr, own_kept h2 hg hr, below_kept h3 (Nat.le_refl _) hb2.size hg hr, blk_kept h4 hg hr⟩
 case hIx => exact fun _ _ _ _ _ h _ _ => h
 case h0 => exact ⟨_, ko2, World.ownsRow_nil _ _ _ _, hb2, kb⟩
 case hround =>
  rintro lp pre ⟨i, x⟩ W1 KK hkk
  have HKK := Lib.hid hkk
  clear hkk hgv kb ko2 hb2 hz2
  gi_wp2
  refine HKK.out _ ?_
  clear HKK
  rintro W0 W2 ⟨v, h1, h2, h3, h4⟩ hext hpre hM
  have hlen2 := hpre.length_le
  simp only [List.length_append, List.length_cons, List.length_nil] at hlen2
  obtain ⟨hxi, -⟩ := pres_mem (hpre.subset (List.mem_append_right _ (List.mem_singleton.2 rfl)))
  obtain ⟨b', hAb, hE⟩ := HH.out.at_ hxi
  obtain rfl := HB.out b' hAb
  subst hAb
  have k2 := h1.ext hext
  have kb2 := h4.ext hext
  have hown2 := own_below h2 hext
  have hb22 := h3.trans (hext.mono h3.size)
  have hz22 := hb22.size
  have hob := own_lt h2
  have hgs := def_lt' h1
  have hE2 := hE.below hb22
  have hsn : its (labsP (pre ++ [(i, x)])) = its (labsP pre) ++ [.int .i64 x.e.lab] := by simp [labsP, its]
  have hF : ∀ W, (Below W2.heap.size W2 W) → (W.cell? ⟨w.heap.size, 0, none⟩ = some v ∧ W.cell? ⟨b', i * 18 + 12, none⟩ = some (.int .i64 x.e.lab)) := fun W hb => ⟨(k2.ext hb).cell 0, (hE2.below hb).cells.2.2.2.2.2⟩
  have HF := Lib.hid hF
  have HSN := Lib.hid hsn
  clear hF hsn hE2 hE hxi hpre
  gi_wp2
  refine region_round_L [6, 7] (by rintro ⟨_, _, h⟩; exact h) (by kernel_rfl) (by kernel_rfl) (S := fun w' => Below W2.heap.size W2 w') (Below.drew (Below.refl _ _)) (fun hHeld => ?_)
  generalize W2.drew = WD at *
  (refine tkD 0 ?_; refine tkD 1 ?_; refine tkD 2 ?_; refine tkD 3 ?_; refine tkD 4 ?_)
  refine nxL 5 (fun K hK => ?_)
  go_simp
  have hkA := Bk.new WD 3 #[.int .i64 x.e.lab]
  have hbA : Below WD.heap.size WD (WD.alloc (.cells #[.int .i64 x.e.lab] 3)) := belowA
  refine hK.out _ _ (hHeld.trans (hbA.mono hHeld.size)) (fun hHeld => ?_)
  clear hK K; refine puL ?_
  generalize WD.alloc (.cells #[.int .i64 x.e.lab] 3) = wA at *
  have hownA := own_below hown2 hHeld
  have kA := k2.ext hHeld
  have kbA := kb2.ext hHeld
  have hzA : w.heap.size ≤ wA.heap.size := Nat.le_trans hz22 hHeld.size
  refine ltL 6 (fun K hK => ?_)
  refine app_at_step Tryz.underlying51 info_int' rfl (by decide) w.heap.size v pre.length _ hownA (by unfold maxLen; omega) (by omega) hzA WD.heap.size #[.int .i64 x.e.lab] hkA rfl (by simp [Value.oneCell']) rfl (.tmp 12) (.tmp 17) rfl rfl rfl ?_
  intro g5 cap5 w6 hown6 hgr6 hat6 hlt6
  have hgb : Below w.heap.size wA w6 := below_own (Below.refl _ _) hownA hgr6 hzA (Nat.le_refl _)
  have k6 := kA.grown hgr6 (own_ne hownA kA (by decide))
  have kb6 := kbA.grown hgr6 (own_ne hownA kbA (by decide))
  have x1 := k6.frozen; have x3 := def_lt' k6; have x0 := k6.cell 0
  dsimp at x0
  refine hK.out _ _ ?_
  clear hK K; refine puL ?_
  refine ltL 7 (fun K hK => ?_)
  go_simp
  refine hK.out _ _ ?_
  refine anyL_done (by kernel_rfl) ?_
  have hgr : W2.grownBy w6 v.ownBlock := (gr_of_below (hHeld)).trans hgr6
  have hb26 : Below w.heap.size W2 w6 := (hHeld.mono hz22).trans hgb
  refine ⟨((KeepsOthers.of_grownBy hgr (own_cells hown2)).trans (KeepsOthers.setCell _ _ _)).from _, hb26.setCell (Nat.le_refl _) _, (mid_grown hgr hob).set_ hgs _, _, k6.set_ 0 _, ?_, (hb22.trans hb26).setCell (Nat.le_refl _) _, kb6.far (p := ⟨w.heap.size, 0, none⟩) (by simp) _⟩
  rw [HSN.out, List.length_append]
  exact ownsRow_setCell_other (a := ⟨w.heap.size, 0, none⟩) hown6 (own_ne (b := w.heap.size) (t := 51) hown6 k6 (by decide)) _
 case hdone =>
  rintro D Wd hD ⟨v, h1, h2, h3, h4⟩ hKd
  have q1 := h1.cell 0
  dsimp at q1
  have hfin : LabOut er l w (.returned v) (Wd.putObj D (.deferred none)) := by
   rw [pres_cnt] at h2
   exact ⟨_, rfl, own_put h2 hKd rfl _, h3.trans (below_putObj (by omega))⟩
  have HFIN := Lib.hid hfin
  have HD := Lib.hid hKd
  clear hfin hKd h2
  gi_wp2
  refine ⟨by simp, .inl ⟨_, _, rfl, run_takeDeferred HD.out, v, by simp [results, Tryz.results125, go_sem], HFIN.out⟩⟩
 case hstop =>
  rintro D cd pre Wd hD hpre h hK
  exact h.elim
attribute [local go_sem] Oper.semAt_some
/-- was an entry made, taken away, or gone over, by one of some events? -/
def tchE (e : Ent) (ev : List Int) : Bool := (!e.first && hasI ev e.made) || oneB e.tk ev || oneB e.ov ev
def touchedB (er : Int → Bool) (es : List Ent) (at_ : Nat) (ev : List Int) : Bool := match (es.filter (thereB er))[at_]? with | some e => tchE e ev | none => false
theorem pres_filter (er : Int → Bool) (l : List EH) : (pres er l l.length).map (fun x => x.2.e) = (l.map EH.e).filter (thereB er) := by
 induction l with
 | nil => rfl
 | cons x l ih =>
   rw [List.length_cons, pres_cons, List.map_append, List.map_map, List.map_cons, List.filter_cons]
   have e : (fun x : Nat × EH => x.2.e) ∘ (fun y : Nat × EH => (y.1 + 1, y.2)) = fun x => x.2.e := rfl
   rw [e, ih]
   cases thereB er x.e <;> simp
theorem pres_at {er : Int → Bool} {l : List EH} {pre : List (Nat × EH)} {i : Nat} {x : EH} (h : pre ++ [(i, x)] <+: pres er l l.length) : ((l.map EH.e).filter (thereB er))[pre.length]? = some x.e := by
 obtain ⟨t, ht⟩ := h
 rw [← pres_filter, ← ht]
 simp
/-- what Touched's boxes hold between two rounds -/
def TcI (w : World) (g at_ : Nat) (EA : Option Addr) (en ec : Nat) (pre : List (Nat × EH)) (W : World) : Prop :=
 (∃ rb : Bool, Bk W (w.heap.size + 2) 4 #[.bool rb]) ∧ Bk W w.heap.size 3 #[.int .i64 (at_ : Int)] ∧ Bk W (w.heap.size + 1) 51 #[.slice EA en ec] ∧ Bk W (w.heap.size + 3) 3 #[.int .i64 (pre.length : Int)] ∧ pre.length ≤ at_ ∧ Below w.heap.size w W ∧ Bk W (w.heap.size + 4) 38 #[.pointer (some ⟨g, 0, none⟩)]
def TcX (er : Int → Bool) (l : List EH) (at_ : Nat) (ev : List Int) (w : World) (g : Nat) (c : Code) (pre : List (Nat × EH)) (W : World) : Prop :=
 c = .ret ∧ Below w.heap.size w W ∧ Bk W (w.heap.size + 2) 4 #[.bool (touchedB er (l.map EH.e) at_ ev)] ∧ Bk W (w.heap.size + 4) 38 #[.pointer (some ⟨g, 0, none⟩)]
theorem touched_any (base g mb n : Nat) (A : Option Addr) (c : Nat) (nx : Int) (l : List EH) (er : Int → Bool) (at_ : Nat) (EA : Option Addr) (en ec : Nat) (ev : List Int) (w : World) (h : LdIn w base g mb n (.slice A l.length c) nx l er) (hlen : l.length ≤ 100000) (hat : at_ ≤ 1000000) (hev : Rd w w.heap.size 1 EA en (its ev)) (hen : en ≤ maxLen) :
 Calls Tryz.prog 128 #[.pointer (some ⟨g, 0, none⟩), .int .i64 (at_ : Int), .slice EA en ec] w fun e w' => e = .returned (.bool (touchedB er (l.map EH.e) at_ ev)) ∧ Below w.heap.size w w' := by
 obtain ⟨b, hb⟩ : ∃ b, ∀ k, A = some ⟨k, 0, none⟩ → k = b := by
  cases A with
  | none => exact ⟨0, fun k e => by cases e⟩
  | some a => exact ⟨a.block, fun k e => by injection e with e; rw [e]⟩
 have hlg := def_lt' h.k
 have HH := Lib.hid h
 have HB := Lib.hid hb
 have HEV := Lib.hid hev
 have k0 : Bk ((((w.alloc (.cells #[.int .i64 (at_ : Int)] 3)).alloc (.cells #[.slice EA en ec] 51)).alloc (.cells #[.bool false] 4)).alloc (.cells #[.int .i64 0] 3)) w.heap.size 3 #[.int .i64 (at_ : Int)] := (((Bk.new w _ _).alloc _).alloc _).alloc _
 have k1 : Bk ((((w.alloc (.cells #[.int .i64 (at_ : Int)] 3)).alloc (.cells #[.slice EA en ec] 51)).alloc (.cells #[.bool false] 4)).alloc (.cells #[.int .i64 0] 3)) (w.heap.size + 1) 51 #[.slice EA en ec] := ((Bk.made _ _ (by simp)).alloc _).alloc _
 have k2 : Bk ((((w.alloc (.cells #[.int .i64 (at_ : Int)] 3)).alloc (.cells #[.slice EA en ec] 51)).alloc (.cells #[.bool false] 4)).alloc (.cells #[.int .i64 0] 3)) (w.heap.size + 2) 4 #[.bool false] := (Bk.made _ _ (by simp)).alloc _
 have k3 : Bk ((((w.alloc (.cells #[.int .i64 (at_ : Int)] 3)).alloc (.cells #[.slice EA en ec] 51)).alloc (.cells #[.bool false] 4)).alloc (.cells #[.int .i64 0] 3)) (w.heap.size + 3) 3 #[.int .i64 0] := Bk.made _ _ (by simp)
 have hb1 : Below w.heap.size w ((((w.alloc (.cells #[.int .i64 (at_ : Int)] 3)).alloc (.cells #[.slice EA en ec] 51)).alloc (.cells #[.bool false] 4)).alloc (.cells #[.int .i64 0] 3)) := belowA
 have hz1 : ((((w.alloc (.cells #[.int .i64 (at_ : Int)] 3)).alloc (.cells #[.slice EA en ec] 51)).alloc (.cells #[.bool false] 4)).alloc (.cells #[.int .i64 0] 3)).heap.size = w.heap.size + 4 := by simp
 clear h hb hev
 refine callsIn_wide.1 (callsIn_of_wp_marks (n := 10) Tryz.func128 rfl trivial ?_ rfl)
 simp only [Tryz.ntmps128, List.size_toArray, List.length_cons, List.length_nil, Nat.reduceAdd, Nat.reduceSub, Array.replicate_succ, Array.replicate_zero, List.push_toArray, List.append_toArray, List.nil_append, List.cons_append]
 gi_wp2_with (refine ⟨trivial, ?_⟩; gi_at_call 63; refine (callsIn_wide.2 (lall_any _ _)).mono ?_; rintro e w2 ⟨rfl, rfl⟩)
 generalize ((((w.alloc (.cells #[.int .i64 (at_ : Int)] 3)).alloc (.cells #[.slice EA en ec] 51)).alloc (.cells #[.bool false] 4)).alloc (.cells #[.int .i64 0] 3)) = w1 at *
 have kb := Bk.new w1 38 #[.pointer (some ⟨g, 0, none⟩)]
 have hb12 : Below w1.heap.size w1 (w1.alloc (.cells #[.pointer (some ⟨g, 0, none⟩)] 38)) := belowA
 have hb2 : Below w.heap.size w (w1.alloc (.cells #[.pointer (some ⟨g, 0, none⟩)] 38)) := hb1.trans (hb12.mono hb1.size)
 have hz2 : (w1.alloc (.cells #[.pointer (some ⟨g, 0, none⟩)] 38)).heap.size = w.heap.size + 5 := by simp [hz1]
 replace k0 := k0.ext hb12
 replace k1 := k1.ext hb12
 replace k2 := k2.ext hb12
 replace k3 := k3.ext hb12
 generalize w1.alloc (.cells #[.pointer (some ⟨g, 0, none⟩)] 38) = w2 at *
 rw [hz1] at kb
 have hgv := lall_gives (w.heap.size + 4) base g mb n b A c nx l er w w2 HH.out HB.out hb2 (by omega)
 have hpl := pres_len er l l.length
 clear hb12
 refine range_mine_s (gf := 122) (lb := #[.pointer (some ⟨w.heap.size + 4, 0, none⟩)]) rfl (enters_of Tryz.func122 (by kernel_rfl) rfl) hgv (Below.refl _ _) hb2.size (fun _ => rfl)
  (TcI w g at_ EA en ec) (TcX er l at_ ev w g) ?hI ?hIx ?h0 (fun s W h => h.2.2.2.2.2.2) (fun _ _ _ h => h.2.2.2) ?hround ?hdone ?hstop
 case hI =>
  rintro s A' B row ⟨⟨rb, h1⟩, h2, h3, h4, h5, h6, h7⟩ hg hr
  exact ⟨⟨rb, blk_kept h1 hg hr⟩, blk_kept h2 hg hr, blk_kept h3 hg hr, blk_kept h4 hg hr, h5, below_kept h6 (Nat.le_refl _) hb2.size hg hr, blk_kept h7 hg hr⟩
 case hIx =>
  rintro c s A' B row ⟨h1, h2, h3, h4⟩ hg hr
  exact ⟨h1, below_kept h2 (Nat.le_refl _) hb2.size hg hr, blk_kept h3 hg hr, blk_kept h4 hg hr⟩
 case h0 => exact ⟨⟨_, k2⟩, k0, k1, k3, Nat.zero_le _, hb2, kb⟩
 case hround =>
  rintro lp pre ⟨i, x⟩ W1 KK hkk
  have HKK := Lib.hid hkk
  clear hkk hgv kb hb2 hz2 k0 k1 k2 k3
  gi_wp2
  refine HKK.out _ ?_
  clear HKK
  rintro W0 W2 ⟨⟨rb, h1⟩, h2, h3, h4, h5, h6, h7⟩ hext hpre hM
  have hlen2 := hpre.length_le
  simp only [List.length_append, List.length_cons, List.length_nil] at hlen2
  obtain ⟨hxi, -⟩ := pres_mem (hpre.subset (List.mem_append_right _ (List.mem_singleton.2 rfl)))
  obtain ⟨b', hAb, hE⟩ := HH.out.at_ hxi
  obtain rfl := HB.out b' hAb
  subst hAb
  have hpat := pres_at hpre
  have kr2 := h1.ext hext
  have kt2 := h2.ext hext
  have ke2 := h3.ext hext
  have kn2 := h4.ext hext
  have kb2 := h7.ext hext
  have hb22 := h6.trans (hext.mono h6.size)
  have hE2 := hE.below hb22
  obtain ⟨P, hP⟩ : ∃ P, P = pre.length := ⟨_, rfl⟩
  have HP := Lib.hid hP
  have HPAT := Lib.hid hpat
  rw [← hP] at kn2 h5 HPAT hlen2
  have q0 := kt2.cell 0; have q1 := kn2.cell 0
  dsimp at q0 q1
  have hgs := def_lt' h1
  have hgn := def_lt' h4
  clear hpat hP hxi hpre hE h2 h3 h7 h6
  by_cases hPa : P < at_
  ·have e3 : ((P : Int) == (at_ : Int)) = false := by simp; omega
   have y1 := kn2.frozen; have y2 := def_lt' kn2
   gi_wp2
   refine ⟨(KeepsOthers.setCell _ _ _).from _, (Below.refl _ _).setCell (by first | omega | (simp; done) | (simp; omega)) _, (Mid.refl _ _ _).set_ hgn _, ⟨rb, kr2.far (p := ⟨w.heap.size + 3, 0, none⟩) (by simp) _⟩, kt2.far (p := ⟨w.heap.size + 3, 0, none⟩) (by simp) _, ke2.far (p := ⟨w.heap.size + 3, 0, none⟩) (by simp) _, ?_, ?_, hb22.setCell (by first | omega | (simp; done) | (simp; omega)) _, kb2.far (p := ⟨w.heap.size + 3, 0, none⟩) (by simp) _⟩
   ·have h9 : ((pre ++ [(i, x)]).length : Int) = (P : Int) + 1 := by have := HP.out; simp; omega
    rw [h9]
    exact kn2.set_ 0 _
   ·have := HP.out; simp; omega
  ·obtain rfl : P = at_ := by omega
   have e3 : ((P : Int) == (P : Int)) = true := by simp
   have htv : touchedB er (l.map EH.e) P ev = tchE x.e ev := by
    unfold touchedB
    rw [HPAT.out]
   obtain ⟨At, ct, hvt, -, hctm, -, hrt⟩ := own_form hE2.i.t
   obtain ⟨Ao, co, hvo, -, hcom, -, hro⟩ := own_form hE2.i.o
   have hvtl : x.e.tk.length ≤ maxLen := by
    obtain ⟨A', c', e', h1', h2', -⟩ := own_form hE2.i.t
    exact Nat.le_trans h1' h2'
   have hvol : x.e.ov.length ≤ maxLen := by
    obtain ⟨A', c', e', h1', h2', -⟩ := own_form hE2.i.o
    exact Nat.le_trans h1' h2'
   have hcn := fun W (hb : Below W2.heap.size W2 W) => contains_any EA en ec ev x.e.made W hen (((HEV.out.below hb22).more hb22.size |>.below hb).more hb.size)
   have hct := fun W (hb : Below W2.heap.size W2 W) => lone_any At EA x.e.tk.length ct en ec x.e.tk ev W hvtl hen ((hrt.below hb).more hb.size) (((HEV.out.below hb22).more hb22.size |>.below hb).more hb.size)
   have hco := fun W (hb : Below W2.heap.size W2 W) => lone_any Ao EA x.e.ov.length co en ec x.e.ov ev W hvol hen ((hro.below hb).more hb.size) (((HEV.out.below hb22).more hb22.size |>.below hb).more hb.size)
   have hF : ∀ W, (Below W2.heap.size W2 W) → (W.cell? ⟨w.heap.size + 1, 0, none⟩ = some (.slice EA en ec) ∧ W.cell? ⟨b', i * 18 + 13, none⟩ = some (.int .i64 x.e.made) ∧ W.cell? ⟨b', i * 18 + 14, none⟩ = some (.bool x.e.first) ∧ W.cell? ⟨b', i * 18 + 15, none⟩ = some (.slice At x.e.tk.length ct) ∧ W.cell? ⟨b', i * 18 + 16, none⟩ = some (.slice Ao x.e.ov.length co)) := fun W hb => by
    obtain ⟨c1, c2, c3, c4, -⟩ := (hE2.below hb).cells
    rw [hvt] at c3
    rw [hvo] at c4
    exact ⟨(ke2.ext hb).cell 0, c1, c2, c3, c4⟩
   have hend : ∀ (W' : World) (V : Bool), Below W2.heap.size W2 W' → V = tchE x.e ev → postS w2.heap.size w.heap.size (TcI w g P EA en ec) (TcX er l P ev w g) (pre ++ [(i, x)]) W0 W2 .ret ⟨#[], []⟩ (W'.setCell ⟨w.heap.size + 2, 0, none⟩ (.bool V)) := fun W' V hb hV => by
    have hb2 : Below w.heap.size W2 W' := hb.mono hb22.size
    refine ⟨((KeepsOthers.of_grownBy (gr_of_below (row := none) hb) (by rintro j o h; cases h)).trans (KeepsOthers.setCell _ _ _)).from _, hb2.setCell (by first | omega | (simp; done) | (simp; omega)) _, rfl, (hb22.trans hb2).setCell (by first | omega | (simp; done) | (simp; omega)) _, ?_, (kb2.ext hb).far (p := ⟨w.heap.size + 2, 0, none⟩) (by simp) _⟩
    rw [htv, ← hV]
    exact (kr2.ext hb).set_ 0 _
   have HEND := Lib.hid hend
   clear hend htv hrt hro hvt hvo hctm hcom
   gi_wp2
   cases hfi : x.e.first with
   | true =>
     rw [hfi] at hF
     have HF := Lib.hid hF
     clear hF hcn
     cases htk : oneB x.e.tk ev with
     | true =>
       rw [htk] at hct
       have htc : tchE x.e ev = true := by unfold tchE; rw [hfi, htk]; simp
       have HTC := Lib.hid htc
       have HCT := Lib.hid hct
       clear hct hco htc hfi htk
       refine region_round_L [29] (by rintro ⟨_, _, h⟩; exact h) (by kernel_rfl) (by kernel_rfl) (S := fun w' => Below W2.heap.size W2 w') (Below.drew (Below.refl _ _)) (fun hHeld => ?_)
       generalize W2.drew = WD at *
       (refine tkD 0 ?_; refine tkD 1 ?_; refine tkD 2 ?_; refine tkD 3 ?_; refine tkD 4 ?_; refine tkD 5 ?_; refine tnD 6 ?_; refine tnD 7 ?_; refine tnD 8 ?_; refine tnD 9 ?_; refine tnD 10 ?_; refine tnD 11 ?_)
       (refine tkD 12 ?_; refine tkD 13 ?_; refine tkD 14 ?_; refine tkD 15 ?_; refine tkD 16 ?_; refine tkD 17 ?_; refine tkD 18 ?_)
       refine nxL 19 (fun K hK => ?_)
       go_simp
       refine (HCT.out _ hHeld).mono ?_
       rintro e w6 ⟨rfl, hb6⟩
       have hb62 := hHeld.trans (hb6.mono hHeld.size)
       clear hHeld hb6
       refine hK.out _ _ hb62 (fun hHeld => ?_)
       clear hK K; refine puL ?_
       clear hb62
       (refine tkD 20 ?_; refine tkD 21 ?_; refine tnD 22 ?_; refine tnD 23 ?_; refine tnD 24 ?_; refine tnD 25 ?_; refine tnD 26 ?_; refine tnD 27 ?_; refine tkD 28 ?_)
       have y1 := (kr2.ext hHeld).frozen; have y2 := def_lt' (kr2.ext hHeld); have y0 := (kr2.ext hHeld).cell 0
       dsimp at y0
       refine ltL 29 (fun K hK => ?_)
       go_simp
       refine hK.out _ _ ?_
       refine anyL_done (by kernel_rfl) ?_
       have hend := HEND.out _ true hHeld HTC.out.symm
       have HEND2 := Lib.hid hend
       clear hend
       gi_wp2
       exact HEND2.out
     | false =>
       rw [htk] at hct
       have htc : tchE x.e ev = oneB x.e.ov ev := by unfold tchE; rw [hfi, htk]; simp
       have HTC := Lib.hid htc
       have HCT := Lib.hid hct
       have HCO := Lib.hid hco
       clear hct hco htc hfi htk
       refine region_round_L [29] (by rintro ⟨_, _, h⟩; exact h) (by kernel_rfl) (by kernel_rfl) (S := fun w' => Below W2.heap.size W2 w') (Below.drew (Below.refl _ _)) (fun hHeld => ?_)
       generalize W2.drew = WD at *
       (refine tkD 0 ?_; refine tkD 1 ?_; refine tkD 2 ?_; refine tkD 3 ?_; refine tkD 4 ?_; refine tkD 5 ?_; refine tnD 6 ?_; refine tnD 7 ?_; refine tnD 8 ?_; refine tnD 9 ?_; refine tnD 10 ?_; refine tnD 11 ?_)
       (refine tkD 12 ?_; refine tkD 13 ?_; refine tkD 14 ?_; refine tkD 15 ?_; refine tkD 16 ?_; refine tkD 17 ?_; refine tkD 18 ?_)
       refine nxL 19 (fun K hK => ?_)
       go_simp
       refine (HCT.out _ hHeld).mono ?_
       rintro e w6 ⟨rfl, hb6⟩
       have hb62 := hHeld.trans (hb6.mono hHeld.size)
       clear hHeld hb6
       refine hK.out _ _ hb62 (fun hHeld => ?_)
       clear hK K; refine puL ?_
       clear hb62
       (refine tkD 20 ?_; refine tkD 21 ?_; refine tkD 22 ?_; refine tkD 23 ?_; refine tkD 24 ?_; refine tkD 25 ?_; refine tkD 26 ?_)
       refine nxL 27 (fun K hK => ?_)
       go_simp
       refine (HCO.out _ hHeld).mono ?_
       rintro e w7 ⟨rfl, hb7⟩
       have hb72 := hHeld.trans (hb7.mono hHeld.size)
       clear hHeld hb7
       refine hK.out _ _ hb72 (fun hHeld => ?_)
       clear hK K; refine puL ?_
       clear hb72
       (refine tkD 28 ?_)
       have y1 := (kr2.ext hHeld).frozen; have y2 := def_lt' (kr2.ext hHeld); have y0 := (kr2.ext hHeld).cell 0
       dsimp at y0
       refine ltL 29 (fun K hK => ?_)
       go_simp
       refine hK.out _ _ ?_
       refine anyL_done (by kernel_rfl) ?_
       have hend := HEND.out _ (oneB x.e.ov ev) hHeld HTC.out.symm
       have HEND2 := Lib.hid hend
       clear hend
       gi_wp2
       exact HEND2.out
   | false =>
     rw [hfi] at hF
     have HF := Lib.hid hF
     clear hF
     cases hmk : hasI ev x.e.made with
     | true =>
       rw [hmk] at hcn
       have htc : tchE x.e ev = true := by unfold tchE; rw [hfi, hmk]; simp
       have HTC := Lib.hid htc
       have HCN := Lib.hid hcn
       clear hcn hct hco htc hfi hmk
       refine region_round_L [29] (by rintro ⟨_, _, h⟩; exact h) (by kernel_rfl) (by kernel_rfl) (S := fun w' => Below W2.heap.size W2 w') (Below.drew (Below.refl _ _)) (fun hHeld => ?_)
       generalize W2.drew = WD at *
       (refine tkD 0 ?_; refine tkD 1 ?_; refine tkD 2 ?_; refine tkD 3 ?_; refine tkD 4 ?_; refine tkD 5 ?_; refine tkD 6 ?_; refine tkD 7 ?_; refine tkD 8 ?_; refine tkD 9 ?_; refine tkD 10 ?_)
       refine nxL 11 (fun K hK => ?_)
       go_simp
       refine (HCN.out _ hHeld).mono ?_
       rintro e w5 ⟨rfl, hb5⟩
       have hb52 := hHeld.trans (hb5.mono hHeld.size)
       clear hHeld hb5
       refine hK.out _ _ hb52 (fun hHeld => ?_)
       clear hK K; refine puL ?_
       clear hb52
       (refine tkD 12 ?_; refine tkD 13 ?_; refine tnD 14 ?_; refine tnD 15 ?_; refine tnD 16 ?_; refine tnD 17 ?_; refine tnD 18 ?_; refine tnD 19 ?_; refine tkD 20 ?_; refine tkD 21 ?_; refine tnD 22 ?_; refine tnD 23 ?_; refine tnD 24 ?_; refine tnD 25 ?_; refine tnD 26 ?_; refine tnD 27 ?_; refine tkD 28 ?_)
       have y1 := (kr2.ext hHeld).frozen; have y2 := def_lt' (kr2.ext hHeld); have y0 := (kr2.ext hHeld).cell 0
       dsimp at y0
       refine ltL 29 (fun K hK => ?_)
       go_simp
       refine hK.out _ _ ?_
       refine anyL_done (by kernel_rfl) ?_
       have hend := HEND.out _ true hHeld HTC.out.symm
       have HEND2 := Lib.hid hend
       clear hend
       gi_wp2
       exact HEND2.out
     | false =>
       rw [hmk] at hcn
       have HCN := Lib.hid hcn
       clear hcn
       cases htk : oneB x.e.tk ev with
       | true =>
         rw [htk] at hct
         have htc : tchE x.e ev = true := by unfold tchE; rw [hfi, hmk, htk]; simp
         have HTC := Lib.hid htc
         have HCT := Lib.hid hct
         clear hct hco htc hfi hmk htk
         refine region_round_L [29] (by rintro ⟨_, _, h⟩; exact h) (by kernel_rfl) (by kernel_rfl) (S := fun w' => Below W2.heap.size W2 w') (Below.drew (Below.refl _ _)) (fun hHeld => ?_)
         generalize W2.drew = WD at *
         (refine tkD 0 ?_; refine tkD 1 ?_; refine tkD 2 ?_; refine tkD 3 ?_; refine tkD 4 ?_; refine tkD 5 ?_; refine tkD 6 ?_; refine tkD 7 ?_; refine tkD 8 ?_; refine tkD 9 ?_; refine tkD 10 ?_)
         refine nxL 11 (fun K hK => ?_)
         go_simp
         refine (HCN.out _ hHeld).mono ?_
         rintro e w5 ⟨rfl, hb5⟩
         have hb52 := hHeld.trans (hb5.mono hHeld.size)
         clear hHeld hb5
         refine hK.out _ _ hb52 (fun hHeld => ?_)
         clear hK K; refine puL ?_
         clear hb52
         (refine tkD 12 ?_; refine tkD 13 ?_; refine tkD 14 ?_; refine tkD 15 ?_; refine tkD 16 ?_; refine tkD 17 ?_; refine tkD 18 ?_)
         refine nxL 19 (fun K hK => ?_)
         go_simp
         refine (HCT.out _ hHeld).mono ?_
         rintro e w6 ⟨rfl, hb6⟩
         have hb62 := hHeld.trans (hb6.mono hHeld.size)
         clear hHeld hb6
         refine hK.out _ _ hb62 (fun hHeld => ?_)
         clear hK K; refine puL ?_
         clear hb62
         (refine tkD 20 ?_; refine tkD 21 ?_; refine tnD 22 ?_; refine tnD 23 ?_; refine tnD 24 ?_; refine tnD 25 ?_; refine tnD 26 ?_; refine tnD 27 ?_; refine tkD 28 ?_)
         have y1 := (kr2.ext hHeld).frozen; have y2 := def_lt' (kr2.ext hHeld); have y0 := (kr2.ext hHeld).cell 0
         dsimp at y0
         refine ltL 29 (fun K hK => ?_)
         go_simp
         refine hK.out _ _ ?_
         refine anyL_done (by kernel_rfl) ?_
         have hend := HEND.out _ true hHeld HTC.out.symm
         have HEND2 := Lib.hid hend
         clear hend
         gi_wp2
         exact HEND2.out
       | false =>
         rw [htk] at hct
         have htc : tchE x.e ev = oneB x.e.ov ev := by unfold tchE; rw [hfi, hmk, htk]; simp
         have HTC := Lib.hid htc
         have HCT := Lib.hid hct
         have HCO := Lib.hid hco
         clear hct hco htc hfi hmk htk
         refine region_round_L [29] (by rintro ⟨_, _, h⟩; exact h) (by kernel_rfl) (by kernel_rfl) (S := fun w' => Below W2.heap.size W2 w') (Below.drew (Below.refl _ _)) (fun hHeld => ?_)
         generalize W2.drew = WD at *
         (refine tkD 0 ?_; refine tkD 1 ?_; refine tkD 2 ?_; refine tkD 3 ?_; refine tkD 4 ?_; refine tkD 5 ?_; refine tkD 6 ?_; refine tkD 7 ?_; refine tkD 8 ?_; refine tkD 9 ?_; refine tkD 10 ?_)
         refine nxL 11 (fun K hK => ?_)
         go_simp
         refine (HCN.out _ hHeld).mono ?_
         rintro e w5 ⟨rfl, hb5⟩
         have hb52 := hHeld.trans (hb5.mono hHeld.size)
         clear hHeld hb5
         refine hK.out _ _ hb52 (fun hHeld => ?_)
         clear hK K; refine puL ?_
         clear hb52
         (refine tkD 12 ?_; refine tkD 13 ?_; refine tkD 14 ?_; refine tkD 15 ?_; refine tkD 16 ?_; refine tkD 17 ?_; refine tkD 18 ?_)
         refine nxL 19 (fun K hK => ?_)
         go_simp
         refine (HCT.out _ hHeld).mono ?_
         rintro e w6 ⟨rfl, hb6⟩
         have hb62 := hHeld.trans (hb6.mono hHeld.size)
         clear hHeld hb6
         refine hK.out _ _ hb62 (fun hHeld => ?_)
         clear hK K; refine puL ?_
         clear hb62
         (refine tkD 20 ?_; refine tkD 21 ?_; refine tkD 22 ?_; refine tkD 23 ?_; refine tkD 24 ?_; refine tkD 25 ?_; refine tkD 26 ?_)
         refine nxL 27 (fun K hK => ?_)
         go_simp
         refine (HCO.out _ hHeld).mono ?_
         rintro e w7 ⟨rfl, hb7⟩
         have hb72 := hHeld.trans (hb7.mono hHeld.size)
         clear hHeld hb7
         refine hK.out _ _ hb72 (fun hHeld => ?_)
         clear hK K; refine puL ?_
         clear hb72
         (refine tkD 28 ?_)
         have y1 := (kr2.ext hHeld).frozen; have y2 := def_lt' (kr2.ext hHeld); have y0 := (kr2.ext hHeld).cell 0
         dsimp at y0
         refine ltL 29 (fun K hK => ?_)
         go_simp
         refine hK.out _ _ ?_
         refine anyL_done (by kernel_rfl) ?_
         have hend := HEND.out _ (oneB x.e.ov ev) hHeld HTC.out.symm
         have HEND2 := Lib.hid hend
         clear hend
         gi_wp2
         exact HEND2.out
 case hdone =>
  rintro D Wd hD ⟨⟨rb, h1⟩, h2, h3, h4, h5, h6, h7⟩ hKd
  have htv : touchedB er (l.map EH.e) at_ ev = false := by
   unfold touchedB
   rw [List.getElem?_eq_none (by rw [← pres_filter, List.length_map]; exact h5)]
  have y1 := h1.frozen; have y2 := def_lt' h1; have y0 := h1.cell 0
  dsimp at y0
  have HD := Lib.hid hKd
  have hDD : w.heap.size + 5 ≤ D := by omega
  have HTV := Lib.hid htv
  have HH6 := Lib.hid h6
  have HK1 := Lib.hid h1
  clear hKd htv h6 h2 h3 h4 h5 h7 hgv k0 k1 k2 k3 kb
  gi_wp2
  have HD2 := dfar HD.out (p := ⟨w.heap.size + 2, 0, none⟩) (by simp; omega) (.bool false)
  have r6 : Bk _ (w.heap.size + 2) 4 #[.bool false] := Bk.put (D := D) (HK1.out.set_ 0 (.bool false)) (by omega) (.deferred none)
  have d0 := r6.cell 0
  dsimp at d0
  refine ⟨by simp, .inl ⟨_, _, rfl, run_takeDeferred HD2, .bool (touchedB er (l.map EH.e) at_ ev), ?_, rfl, ?_⟩⟩
  ·rw [HTV.out]
   simp [results, Tryz.results128, go_sem, d0]
  ·exact (HH6.out.setCell (by first | omega | (simp; done) | (simp; omega)) _).trans (below_putObj (by omega))
 case hstop =>
  rintro D cd pre Wd hD hpre ⟨rfl, h1, h2, h3⟩ hK
  have HD := Lib.hid hK
  have hDD : w.heap.size + 5 ≤ D := by omega
  clear hK hgv k0 k1 k2 k3 kb
  gi_wp2
  have r6 := Bk.put h2 (D := D) (by omega) (.deferred none)
  have d0 := r6.cell 0
  dsimp at d0
  refine ⟨by simp, .inl ⟨_, _, rfl, run_takeDeferred HD.out, .bool (touchedB er (l.map EH.e) at_ ev), ?_, rfl, ?_⟩⟩
  ·simp [results, Tryz.results128, go_sem, d0]
  ·exact h1.trans (below_putObj (by omega))
/-- was an entry made, or taken away, by one of some events? -/
def dedE (e : Ent) (ev : List Int) : Bool := (!e.first && hasI ev e.made) || oneB e.tk ev
theorem ent_size : (Tryz.prog.info? 129).map (·.size) = some 18 := by kernel_rfl
section
variable {ops : Array Oper} {rest : List Oper} {o : Oper} {a : Act} {Q : Exit → Act → World → Prop}
theorem ld_ent (w : World) (hg : o.guard = none) (p : Operand) (ho : o.op = .load 129 p) (b oo : Nat) (hx : a.eval p = .pointer (some ⟨b, oo, none⟩)) (x : EH) (hc : w.rangeAt b oo x.cells)
 (h : wpList Tryz.prog ops Q rest (a.put o.dst (.agg x.cells.toArray)) w) : wpList Tryz.prog ops Q (o :: rest) a w := wpList_load_mid hg 129 p ho b oo hx x.cells _ hc Tryz.underlying129 rfl ent_size h
end
theorem ded1_any (bx base : Nat) (EA : Option Addr) (en ec : Nat) (ev : List Int) (x : EH) (w : World) (h : EvAt w bx EA en ec ev) (hn : en ≤ maxLen) (hx : x.In w base) :
 Calls Tryz.prog 169 #[.agg x.cells.toArray, .pointer (some ⟨bx, 0, none⟩)] w fun e w' => e = .returned (.bool (dedE x.e ev)) ∧ Below w.heap.size w w' := by
 obtain ⟨⟨⟨tk, tt, ta, tr, ⟨m0, m1, m2, m3, m4, m5, m6, m7⟩⟩, lab, made, fi, tkl, ov, gv⟩, vt, vo, vg⟩ := x
 obtain ⟨At, ct, hvt, -, hctm, -, hrt⟩ := own_form hx.t
 dsimp only at hvt hrt hctm
 subst hvt
 have htl : tkl.length ≤ maxLen := by
  obtain ⟨A', c', e', h1', h2', -⟩ := own_form hx.t
  exact Nat.le_trans h1' h2'
 have hb : Below w.heap.size w (w.alloc (.cells #[.int .i64 tk, .int .i64 tt, .int .i64 ta, .int .i32 tr, .int .u16 m0, .int .u16 m1, .int .u16 m2, .int .u16 m3, .int .u16 m4, .int .u16 m5, .int .u16 m6, .int .u16 m7, .int .i64 lab, .int .i64 made, .bool fi, .slice At tkl.length ct, vo, vg] 129)) := belowA
 have hk := Bk.new w 129 #[.int .i64 tk, .int .i64 tt, .int .i64 ta, .int .i32 tr, .int .u16 m0, .int .u16 m1, .int .u16 m2, .int .u16 m3, .int .u16 m4, .int .u16 m5, .int .u16 m6, .int .u16 m7, .int .i64 lab, .int .i64 made, .bool fi, .slice At tkl.length ct, vo, vg]
 have hcn := fun W (hb : Below w.heap.size w W) => contains_any EA en ec ev made W hn ((h.r.below hb).more hb.size)
 have hct := fun W (hb : Below w.heap.size w W) => lone_any At EA tkl.length ct en ec tkl ev W htl hn ((hrt.below hb).more hb.size) ((h.r.below hb).more hb.size)
 have ke := h.k
 have l0 := def_lt' ke
 have e0 := ke.cell 0
 dsimp at e0
 have hd : dedE ⟨⟨tk, tt, ta, tr, ⟨m0, m1, m2, m3, m4, m5, m6, m7⟩⟩, lab, made, fi, tkl, ov, gv⟩ ev = ((!fi && hasI ev made) || oneB tkl ev) := rfl
 show Calls Tryz.prog 169 #[.agg #[.int .i64 tk, .int .i64 tt, .int .i64 ta, .int .i32 tr, .int .u16 m0, .int .u16 m1, .int .u16 m2, .int .u16 m3, .int .u16 m4, .int .u16 m5, .int .u16 m6, .int .u16 m7, .int .i64 lab, .int .i64 made, .bool fi, .slice At tkl.length ct, vo, vg], .pointer (some ⟨bx, 0, none⟩)] w _
 rw [hd]
 have HCT := Lib.hid hct
 have HCN := Lib.hid hcn
 have HK := Lib.hid hk
 have KE := Lib.hid ke
 clear hcn hct h hx hrt hd hk ke
 cases fi with
 | true =>
   go_enter Tryz.func169, Tryz.ntmps169
   go_wp2_with (go_at_call 171; fail)
   refine (HCT.out _ hb).mono ?_
   rintro e w1 ⟨rfl, hb1⟩
   go_wp2
   go_ret
   exact ⟨by simp, hb.trans (hb1.mono hb.size)⟩
 | false =>
   cases hm : hasI ev made with
   | true =>
     rw [hm] at HCN
     clear hm
     go_enter Tryz.func169, Tryz.ntmps169
     go_wp2_with (go_at_call 170; fail)
     refine (HCN.out _ hb).mono ?_
     rintro e w1 ⟨rfl, hb1⟩
     go_wp2
     go_ret
     exact ⟨by simp, hb.trans (hb1.mono hb.size)⟩
   | false =>
     rw [hm] at HCN
     clear hm
     go_enter Tryz.func169, Tryz.ntmps169
     go_wp2_with (go_at_call 170; fail)
     refine (HCN.out _ hb).mono ?_
     rintro e w1 ⟨rfl, hb1⟩
     have k1 := HK.out.ext hb1
     have hb01 := hb.trans (hb1.mono hb.size)
     have q4 := k1.cell 15
     have q5 := (KE.out.ext hb01).cell 0
     dsimp at q4 q5
     clear e0
     go_wp2_with (go_at_call 171; fail)
     refine (HCT.out _ hb01).mono ?_
     rintro e w2 ⟨rfl, hb2⟩
     go_wp2
     go_ret
     exact ⟨by simp, hb01.trans (hb2.mono hb01.size)⟩
theorem dh_index (A : Option Addr) (n c : Nat) (L : List EH) (p : EH → Bool) (cp : Value) (w : World) (hn : n ≤ maxLen) (hrd : Rd w w.heap.size 18 A n (ehs L)) (hl : L.length = n)
 (hcl : ∀ W, Below w.heap.size w W → ∀ x ∈ L, Calls Tryz.prog 169 #[.agg x.cells.toArray, cp] W (On w W (.bool (p x)))) :
 Calls Tryz.prog 206 #[.slice A n c, .func (.func 169) #[] #[cp]] w fun e w' => ∃ r : Int, e = .returned (.int .i64 r) ∧ decide (0 ≤ r) = L.any p ∧ Below w.heap.size w w' := by
 unfold maxLen at hn
 have HTC := Lib.hid hcl
 have HL := Lib.hid hl
 have HRD := Lib.hid hrd
 clear hcl hl hrd
 go_enter Tryz.func206, Tryz.ntmps206
 go_wp2
 go_loopw [8] (fun j wr => ∃ k : Nat, k ≤ n ∧ j = .int .i64 k ∧ Hid ((L.take k).any p = false) ∧ Below w.heap.size w wr) (fun j _ => n - (intOf j).toNat)
 case atStart => exact ⟨0, by omega, rfl, Lib.hid (by simp), Below.refl _ _⟩
 case round =>
  obtain ⟨k, hk, rfl, hI, hbr⟩ := hrel
  by_cases hkn : k < n
  ·obtain ⟨s, hx⟩ : ∃ s, L[k]? = some s := ⟨_, List.getElem?_eq_getElem (by have := HL.out; omega)⟩
   obtain ⟨bb, o, rfl, hbb, hcc⟩ := (HRD.out.below hbr).el EH.cells EH.cells_len HL.out hx
   have hrg : wr.rangeAt bb (o + k * 18) s.cells := fun j v hv => by
    have hj : j < 18 := (List.getElem?_eq_some_iff.1 hv).1
    rw [hcc j hj]
    exact hv
   have e3 : (k : Int) < n := by omega
   have hat : (L.take (k + 1)).any p = ((L.take k).any p || p s) := by rw [List.take_add_one, hx]; simp
   have hcall := HTC.out wr hbr s (List.mem_of_getElem? hx)
   have HX := Lib.hid hx
   have HAT := Lib.hid hat
   clear hat hx hcc
   cases hm : p s with
   | true =>
     rw [hm] at hcall
     have HC := Lib.hid hcall
     have HN : Hid (L.any p = true) := Lib.hid (List.any_eq_true.2 ⟨s, List.mem_of_getElem? HX.out, hm⟩)
     clear hcall hm HAT HX hI
     go_wp2_with (first
      | (go_at_call 169; (refine HC.out.mono ?_); rintro e w1 ⟨rfl, hb1, hz1, _⟩)
      | ((with_reducible refine ld_ent wr ?hg (.tmp 14) ?ho bb (o + k * 18) ?hx s hrg ?_); (case hg => rfl); (case ho => rfl); (case hx => rfl)))
     go_ret
     exact ⟨_, rfl, by rw [HN.out]; simp, hb1⟩
   | false =>
     rw [hm] at hcall
     have HC := Lib.hid hcall
     have HN : Hid ((L.take (k + 1)).any p = false) := Lib.hid (by rw [HAT.out, hI.out, hm]; rfl)
     clear hcall hm HAT HX hI
     go_wp2_with (first
      | (go_at_call 169; (refine HC.out.mono ?_); rintro e w1 ⟨rfl, hb1, hz1, _⟩)
      | ((with_reducible refine ld_ent wr ?hg (.tmp 14) ?ho bb (o + k * 18) ?hx s hrg ?_); (case hg => rfl); (case ho => rfl); (case hx => rfl)))
     go_roundw
     case rel => exact ⟨k + 1, by omega, by go_num, HN, hb1⟩
     case measure => simp [intOf]; omega
  ·obtain rfl : n = k := by omega
   have hall := hI.out
   rw [List.take_of_length_le (by rw [HL.out]; omega)] at hall
   have HN := Lib.hid hall
   clear hall hI
   go_wp2
   go_ret
   exact ⟨_, rfl, by rw [HN.out]; simp, hbr⟩
theorem dh_contains (A : Option Addr) (n c : Nat) (L : List EH) (p : EH → Bool) (cp : Value) (w : World) (hn : n ≤ maxLen) (hrd : Rd w w.heap.size 18 A n (ehs L)) (hl : L.length = n)
 (hcl : ∀ W, Below w.heap.size w W → ∀ x ∈ L, Calls Tryz.prog 169 #[.agg x.cells.toArray, cp] W (On w W (.bool (p x)))) :
 Calls Tryz.prog 168 #[.slice A n c, .func (.func 169) #[] #[cp]] w fun e w' => e = .returned (.bool (L.any p)) ∧ Below w.heap.size w w' := by
 have hi := dh_index A n c L p cp w hn hrd hl hcl
 have HI := Lib.hid hi
 clear hi hcl
 go_enter Tryz.func168, Tryz.ntmps168
 go_wp2_with (go_at_call 206; (refine HI.out.mono ?_); rintro e w1 ⟨r, rfl, hr, hb1⟩)
 go_ret
 exact ⟨ret_bool (by first | exact hr | simp), hb1⟩
theorem plN_strict {er : Int → Bool} (l : List Ent) : ∀ (j k a b : Nat), (plN er l)[j]? = some a → (plN er l)[k]? = some b → j < k → a < b := by
 induction l with
 | nil =>
   intro j k a b ha hb h
   have h1 := (List.getElem?_eq_some_iff.1 ha).1
   have h2 := (List.getElem?_eq_some_iff.1 hb).1
   simp [plN] at h1 h2
   omega
 | cons e l ih =>
   intro j k a b ha hb h
   simp only [plN] at ha hb
   cases ht : thereB er e with
   | true =>
     rw [ht, if_pos rfl] at ha hb
     cases k with
     | zero => omega
     | succ k =>
       simp only [List.getElem?_cons_succ, List.getElem?_map, Option.map_eq_some_iff] at hb
       obtain ⟨b', hb', rfl⟩ := hb
       cases j with
       | zero => simp at ha; omega
       | succ j =>
         simp only [List.getElem?_cons_succ, List.getElem?_map, Option.map_eq_some_iff] at ha
         obtain ⟨a', ha', rfl⟩ := ha
         have := ih j k a' b' ha' hb' (by omega)
         omega
   | false =>
     rw [ht] at ha hb
     simp only [List.getElem?_map, Option.map_eq_some_iff, Bool.false_eq_true, if_false] at ha hb
     obtain ⟨a', ha', rfl⟩ := ha
     obtain ⟨b', hb', rfl⟩ := hb
     have := ih j k a' b' ha' hb' h
     omega
/-- behind which place the entries ahead of a place begin -/
def fromN (er : Int → Bool) (es : List Ent) (at_ : Nat) : Nat := if at_ = 0 then 0 else (plN er es).getD (at_ - 1) 0 + 1
def deadB (er : Int → Bool) (es : List Ent) (at_ : Nat) (ev : List Int) : Bool := match (plN er es)[at_]? with | some T => ((es.take T).drop (fromN er es at_)).any fun e => dedE e ev | none => false
theorem fromN_le {er : Int → Bool} {es : List Ent} {at_ T : Nat} (h : (plN er es)[at_]? = some T) : fromN er es at_ ≤ T := by
 unfold fromN
 split
 ·omega
 ·obtain ⟨a, ha⟩ : ∃ a, (plN er es)[at_ - 1]? = some a := ⟨_, List.getElem?_eq_getElem (by have := (List.getElem?_eq_some_iff.1 h).1; omega)⟩
  rw [List.getD_eq_getElem?_getD, ha]
  have := plN_strict _ _ _ _ _ ha h (by omega)
  simp
  omega
theorem dead_any (base g mb n : Nat) (A : Option Addr) (c : Nat) (nx : Int) (l : List EH) (er : Int → Bool) (at_ : Nat) (EA : Option Addr) (en ec : Nat) (ev : List Int) (w : World) (h : LdIn w base g mb n (.slice A l.length c) nx l er) (hlen : l.length ≤ 100000) (hat : at_ ≤ 1000000) (hev : Rd w w.heap.size 1 EA en (its ev)) (hen : en ≤ maxLen) :
 Calls Tryz.prog 127 #[.pointer (some ⟨g, 0, none⟩), .int .i64 (at_ : Int), .slice EA en ec] w fun e w' => e = .returned (.bool (deadB er (l.map EH.e) at_ ev)) ∧ Below w.heap.size w w' := by
 have HH := Lib.hid h
 have hlg := def_lt' h.k
 have hpl := fun W (hb : Below w.heap.size w W) => places_any base g mb n A c nx l er W (h.below hb) hlen
 have HPL := Lib.hid hpl
 have hcl := cntP_le (er := er) (l.map EH.e)
 rw [List.length_map] at hcl
 have hb0 : Below w.heap.size w (w.alloc (.cells #[.slice EA en ec] 51)) := belowA
 have hE0 : EvAt (w.alloc (.cells #[.slice EA en ec] 51)) w.heap.size EA en ec ev := ⟨Bk.new w _ _, (hev.below hb0).more hb0.size⟩
 have HE0 := Lib.hid hE0
 clear h hpl hev hE0
 go_enter Tryz.func127, Tryz.ntmps127
 go_wp2_with (go_at_call 58; fail)
 generalize w.alloc (.cells #[.slice EA en ec] 51) = w0 at *
 refine (HPL.out w0 hb0).mono ?_
 rintro e w1 ⟨pv, rfl, hrow, hb1⟩
 have hpn := plc_len (er := er) l
 obtain ⟨pb, pc, rfl, hpb, hpbl⟩ := hrow.form (by omega)
 have hrp := Rd.of_own hrow
 have hb01 : Below w.heap.size w w1 := hb0.trans (hb1.mono hb0.size)
 have hE1 := HE0.out.below hb1
 obtain ⟨N, hN⟩ : ∃ N, N = (plc er l).length := ⟨_, rfl⟩
 have HRP := Lib.hid hrp
 have HN := Lib.hid hN
 have HE1 := Lib.hid hE1
 rw [← hN] at hpn HRP ⊢
 have hN2 : N ≤ 100001 := by omega
 have HPN := Lib.hid hpn
 clear hrow hrp hN HPL hE1 hpn
 by_cases hatN : at_ < N
 ·obtain ⟨T, hT⟩ : ∃ T, (plN er (l.map EH.e))[at_]? = some T := ⟨_, List.getElem?_eq_getElem (by rw [plN_len]; have := HPN.out; omega)⟩
  have hTl : T ≤ l.length := by have := plN_le _ T (List.mem_of_getElem? hT); simpa using this
  have hTi : (plc er l)[at_]? = some (T : Int) := by rw [plc_eq, List.getElem?_map, hT]; rfl
  obtain ⟨pb', po', e', -, hct⟩ := int_at HRP.out hTi
  injection e' with e'
  injection e' with e1 e2
  subst e1; subst e2
  rw [Nat.zero_add] at hct
  have e3 : (at_ : Int) < N := by omega
  have hfl := fromN_le hT
  have hdd : deadB er (l.map EH.e) at_ ev = ((l.take T).drop (fromN er (l.map EH.e) at_)).any fun x => dedE x.e ev := by
   unfold deadB
   rw [hT]
   simp only [← List.map_take, ← List.map_drop, List.any_map]
   rfl
  obtain ⟨F, hF⟩ : ∃ F, F = fromN er (l.map EH.e) at_ := ⟨_, rfl⟩
  rw [← hF] at hdd hfl
  have HDD := Lib.hid hdd
  have HFF := Lib.hid hF
  clear hF
  obtain ⟨A', c', e', hnc, -, hAn, hrl⟩ := own_form HH.out.row
  injection e' with e1 e2 e3'
  subst e1; subst e3'
  have hrest : ∀ W (SA : Option Addr) (sc : Nat), Below w1.heap.size w1 W → Rd W W.heap.size 18 SA (T - F) (ehs ((l.take T).drop F)) → Calls Tryz.prog 168 #[.slice SA (T - F) sc, .func (.func 169) #[] #[.pointer (some ⟨w.heap.size, 0, none⟩)]] W fun e w' => e = .returned (.bool (deadB er (l.map EH.e) at_ ev)) ∧ Below W.heap.size W w' := fun W SA sc hb hcc => by
   have hbW := hb01.trans (hb.mono hb01.size)
   have := dh_contains SA (T - F) sc ((l.take T).drop F) (fun x => dedE x.e ev) (.pointer (some ⟨w.heap.size, 0, none⟩)) W (by unfold maxLen; omega) hcc (by simp; omega) (fun W' hb' x hx => calls_on hb' (ded1_any w.heap.size base EA en ec ev x W' ((HE1.out.below hb).below hb') hen (((HH.out.each x (List.mem_of_mem_take (List.mem_of_mem_drop hx))).below hbW).below hb')))
   rw [HDD.out]
   exact this
  have hrd1 : ∀ W, Below w1.heap.size w1 W → Rd W W.heap.size 18 A l.length (ehs l) := fun W hb => by
   have hbW := hb01.trans (hb.mono hb01.size)
   exact (hrl.below hbW).more hbW.size
  have HRD := Lib.hid hrd1
  have HREST := Lib.hid hrest
  have hF3 : ∀ W, Below w1.heap.size w1 W → (W.cell? ⟨g, 0, none⟩ = some (.slice A l.length c) ∧ W.cell? ⟨pb, at_, none⟩ = some (.int .i64 (T : Int))) := fun W hb => ⟨((HH.out.k.ext hb01).ext hb).cell 0, (hb.cell (p := ⟨pb, at_, none⟩) hpbl).trans hct⟩
  have HF := Lib.hid hF3
  have e5 : (T : Int) ≤ c := by omega
  have e6 : (F : Int) ≤ T := by omega
  have e7 : ¬ (at_ : Int) < 0 := by omega
  clear hrest hF3 hT hTi hct hdd hrl hAn hrd1
  by_cases h0 : 0 < at_
  ·obtain ⟨a, ha⟩ : ∃ a, (plN er (l.map EH.e))[at_ - 1]? = some a := ⟨_, List.getElem?_eq_getElem (by rw [plN_len]; have := HPN.out; omega)⟩
   have hai : (plc er l)[at_ - 1]? = some (a : Int) := by rw [plc_eq, List.getElem?_map, ha]; rfl
   obtain ⟨pb', po', e', -, hca⟩ := int_at HRP.out hai
   injection e' with e'
   injection e' with e1 e2
   subst e1; subst e2
   have hFa : F = a + 1 := by
    rw [HFF.out]
    unfold fromN
    rw [if_neg (by omega), List.getD_eq_getElem?_getD, ha]
    rfl
   subst hFa
   have hca : w1.cell? ⟨pb, at_ - 1, none⟩ = some (.int .i64 (a : Int)) := by rwa [Nat.zero_add] at hca
   obtain ⟨k, rfl⟩ : ∃ k, at_ = k + 1 := ⟨at_ - 1, by omega⟩
   rw [show k + 1 - 1 = k by omega] at hca
   have e8 : (0 : Int) < ((k + 1 : Nat) : Int) := by omega
   have e9 : IntKind.i64.wrap (((k + 1 : Nat) : Int) - 1) = (k : Int) := by rw [IntWalk.i64_in _ (by omega)]; omega
   have e10 : (k : Int) < N := by omega
   have e11 : ((k : Int) + 1).toNat = k + 1 := by omega
   have e12 : (k : Int) + 1 < N := by omega
   have e13 : ((a : Int) + 1).toNat = a + 1 := by omega
   have e14 : (a : Int) + 1 ≤ T := by omega
   clear hai ha h0
   go_upto_region 9 with fail
   refine wp_normal ?_
   refine wp_region_held_drew (S := fun W => Below w1.heap.size w1 W) (by kernel_rfl) (Below.drew (Below.refl _ _)) (fun hHeld => ?_)
   generalize w1.drew = wD at *
   (refine tkH 0 ?_; refine tkH 1 ?_; refine tkH 2 ?_; refine tkH 3 ?_; refine tkH 4 ?_; refine tkH 5 ?_; refine tkH 6 ?_; refine tkH 7 ?_; refine tkH 8 ?_; refine tkH 9 ?_; refine tkH 10 ?_)
   refine nxH 11 (fun K hK => ?_)
   go_simp
   refine (HREST.out wD _ _ hHeld (rd_fcut EH.cells_len (HRD.out wD hHeld) rfl hfl hTl hnc)).mono ?_
   rintro e w2 ⟨rfl, hb2⟩
   have hHeld2 := hHeld.trans (hb2.mono hHeld.size)
   refine hK.out _ _ hHeld2 (fun hHeld' => ?_)
   clear hK K; refine puH ?_
   (refine tkH 12 ?_)
   refine wpAnyH_done (by kernel_rfl) ?_ _
   go_wp2
   all_goals
    go_ret
    exact ⟨rfl, hb01.trans (hHeld2.mono hb01.size)⟩
  ·obtain rfl : at_ = 0 := by omega
   have hF0 : F = 0 := by
    rw [HFF.out]
    rfl
   subst hF0
   rw [Nat.sub_zero] at HREST
   have e8 : (0 : Int) < N := by omega
   have e9 : (T : Int) ≤ c := by omega
   clear e3 e6 e7 h0 hfl
   go_upto_region 9 with fail
   refine wp_normal ?_
   refine wp_region_held_drew (S := fun W => Below w1.heap.size w1 W) (by kernel_rfl) (Below.drew (Below.refl _ _)) (fun hHeld => ?_)
   generalize w1.drew = wD at *
   (refine tkH 0 ?_; refine tkH 1 ?_; refine tkH 2 ?_; refine tkH 3 ?_; refine tkH 4 ?_; refine tkH 5 ?_; refine tkH 6 ?_; refine tkH 7 ?_; refine tkH 8 ?_; refine tkH 9 ?_; refine tkH 10 ?_)
   refine nxH 11 (fun K hK => ?_)
   go_simp
   refine (HREST.out wD A c hHeld (by have := rd_ftake EH.cells_len (HRD.out wD hHeld) rfl hTl; rw [List.drop_zero]; exact this)).mono ?_
   rintro e w2 ⟨rfl, hb2⟩
   have hHeld2 := hHeld.trans (hb2.mono hHeld.size)
   refine hK.out _ _ hHeld2 (fun hHeld' => ?_)
   clear hK K; refine puH ?_
   (refine tkH 12 ?_)
   refine wpAnyH_done (by kernel_rfl) ?_ _
   go_wp2
   all_goals
    go_ret
    exact ⟨rfl, hb01.trans (hHeld2.mono hb01.size)⟩
 ·have hdd : deadB er (l.map EH.e) at_ ev = false := by
   unfold deadB
   rw [List.getElem?_eq_none (by rw [plN_len]; have := HPN.out; omega)]
  have HDD := Lib.hid hdd
  have e3 : (N : Int) ≤ at_ := by omega
  have e7 : ¬ (at_ : Int) < 0 := by omega
  clear hdd
  go_wp2
  go_ret
  exact ⟨by rw [HDD.out]; rfl, hb01⟩
/-- pairs of numbers -/
def ips (l : List (Int × Int)) : List Value := l.flatMap fun p => [.int .i64 p.1, .int .i64 p.2]
theorem ips_len (l : List (Int × Int)) : (ips l).length = l.length * 2 := flat_len (s := 2) _ (fun _ => rfl) l
theorem ips_append (a b : List (Int × Int)) : ips (a ++ b) = ips a ++ ips b := by simp [ips]
/-- where a step reaches -/
def reachL (k f t g h i m v : Int) (n n' : Nat) : List (Int × Int) :=
 if shB k f t g h i m v n n' then (if (mapB k f t g h i m v n n').length = 0 then [(f, t)] else (mapB k f t g h i m v n n').map fun r => (r.at_, r.at_ + r.old)) else []
theorem mapB_bd {k f t g h i m v : Int} {n n' : Nat} : ∀ r ∈ mapB k f t g h i m v n n', 0 ≤ r.at_ ∧ 0 ≤ r.old ∧ r.at_ + r.old ≤ 1073741824 := by
 intro r hr
 unfold mapB at hr
 split at hr
 ·rename_i h0
  obtain ⟨⟨b0, b1, b2⟩, hk, h2, h1⟩ := shB_spec h0
  unfold mapS at hr
  split at hr
  ·rw [List.mem_singleton.1 hr]
   dsimp only
   omega
  ·split at hr
   ·rename_i h3 h4
    obtain ⟨g1, g2, g3, g4, g5, g6⟩ := h2 h4
    rcases List.mem_cons.1 hr with rfl | hr
    ·dsimp only; omega
    ·rw [List.mem_singleton.1 hr]; dsimp only; omega
   ·cases hr
 ·cases hr
theorem reachL_bd {k f t g h i m v : Int} {n n' : Nat} : ∀ r ∈ reachL k f t g h i m v n n', 0 ≤ r.1 ∧ r.1 ≤ 1073741824 ∧ 0 ≤ r.2 ∧ r.2 ≤ 1073741824 := by
 intro r hr
 unfold reachL at hr
 split at hr
 ·rename_i h0
  obtain ⟨⟨b0, b1, b2⟩, -⟩ := shB_spec h0
  split at hr
  ·rw [List.mem_singleton.1 hr]
   dsimp only
   omega
  ·obtain ⟨x, hx, rfl⟩ := List.mem_map.1 hr
   have := mapB_bd x hx
   dsimp only
   omega
 ·cases hr
theorem reachL_len {k f t g h i m v : Int} {n n' : Nat} : (reachL k f t g h i m v n n').length ≤ 2 := by
 unfold reachL
 split
 ·split
  ·simp
  ·rw [List.length_map]; exact mapB_len _ _ _ _ _ _ _ _ _ _
 ·simp
theorem info_pair : (Tryz.prog.info? 65).map (fun i => (i.zero, i.size, i.bytes)) = some (some (.agg #[.int .i64 0, .int .i64 0]), 2, 16) := by kernel_rfl
def RcOut (L : List (Int × Int)) (w : World) (e : Ending) (w' : World) : Prop := ∃ v, e = .returned v ∧ w'.ownsRow w.heap.size 65 2 v L.length (ips L) ∧ Below w.heap.size w w'
theorem reach_any (k f t g h i m v : Int) (XA YA : Option Addr) (xn yn xc yc : Nat) (sl : List Tok) (st : List Mk) (w : World) (hx : Rd w w.heap.size 12 XA xn (toks sl)) (hxn : xn ≤ maxLen) (hy : Rd w w.heap.size 8 YA yn (mks st)) (hyn : yn ≤ maxLen) :
 Calls Tryz.prog 25 #[.agg #[.int .i64 k, .int .i64 f, .int .i64 t, .int .i64 g, .int .i64 h, .int .i64 i, .int .i64 m, .int .i64 v, .slice XA xn xc, .slice YA yn yc]] w (RcOut (reachL k f t g h i m v xn yn) w) := by
 have hsha := fun W (hb : Below w.heap.size w W) => shape_any k f t g h i m v XA YA xn yn xc yc W sl st hxn hyn ((hx.below hb).more hb.size) ((hy.below hb).more hb.size)
 have hmap := fun W (hb : Below w.heap.size w W) => map_any k f t g h i m v XA YA xn yn xc yc W sl st hxn hyn ((hx.below hb).more hb.size) ((hy.below hb).more hb.size)
 have HMP := Lib.hid hmap
 have hrl : reachL k f t g h i m v xn yn = if shB k f t g h i m v xn yn then (if (mapB k f t g h i m v xn yn).length = 0 then [(f, t)] else (mapB k f t g h i m v xn yn).map fun r => (r.at_, r.at_ + r.old)) else [] := rfl
 have hbd := mapB_bd (k := k) (f := f) (t := t) (g := g) (h := h) (i := i) (m := m) (v := v) (n := xn) (n' := yn)
 have hll := mapB_len k f t g h i m v xn yn
 clear hmap hx hy
 cases hs : shB k f t g h i m v xn yn with
 | false =>
   rw [hs] at hsha
   have HSH := Lib.hid hsha
   have hr : reachL k f t g h i m v xn yn = [] := by rw [hrl, hs]; rfl
   rw [hr]
   clear hsha hs hrl hr hbd hll
   go_enter Tryz.func25, Tryz.ntmps25
   go_upto_region 1 with fail
   have kx0 := Bk.new w 45 #[.int .i64 k, .int .i64 f, .int .i64 t, .int .i64 g, .int .i64 h, .int .i64 i, .int .i64 m, .int .i64 v, .slice XA xn xc, .slice YA yn yc]
   have hb0 : Below w.heap.size w (w.alloc (.cells #[.int .i64 k, .int .i64 f, .int .i64 t, .int .i64 g, .int .i64 h, .int .i64 i, .int .i64 m, .int .i64 v, .slice XA xn xc, .slice YA yn yc] 45)) := belowA
   generalize w.alloc (.cells #[.int .i64 k, .int .i64 f, .int .i64 t, .int .i64 g, .int .i64 h, .int .i64 i, .int .i64 m, .int .i64 v, .slice XA xn xc, .slice YA yn yc] 45) = w0 at *
   obtain ⟨x0, x1, x2, x3, x4, x5, x6, x7, x8, x9⟩ := bk10 kx0
   go_wp2_with (go_at_call 57; fail)
   refine (HSH.out w0 hb0).mono ?_
   rintro e w1 ⟨rfl, hb1⟩
   go_wp2
   go_ret
   exact ⟨_, rfl, World.ownsRow_nil _ _ _ _, hb0.trans (hb1.mono hb0.size)⟩
 | true =>
   rw [hs] at hsha
   have HSH := Lib.hid hsha
   obtain ⟨L, hL⟩ : ∃ L, L = mapB k f t g h i m v xn yn := ⟨_, rfl⟩
   rw [hs, if_pos rfl, ← hL] at hrl
   rw [← hL] at hbd hll HMP
   have HRL := Lib.hid hrl
   have HBD := Lib.hid hbd
   clear hsha hs hrl hL hbd
   go_enter Tryz.func25, Tryz.ntmps25
   go_upto_region 1 with fail
   have kx0 := Bk.new w 45 #[.int .i64 k, .int .i64 f, .int .i64 t, .int .i64 g, .int .i64 h, .int .i64 i, .int .i64 m, .int .i64 v, .slice XA xn xc, .slice YA yn yc]
   have hb0 : Below w.heap.size w (w.alloc (.cells #[.int .i64 k, .int .i64 f, .int .i64 t, .int .i64 g, .int .i64 h, .int .i64 i, .int .i64 m, .int .i64 v, .slice XA xn xc, .slice YA yn yc] 45)) := belowA
   generalize w.alloc (.cells #[.int .i64 k, .int .i64 f, .int .i64 t, .int .i64 g, .int .i64 h, .int .i64 i, .int .i64 m, .int .i64 v, .slice XA xn xc, .slice YA yn yc] 45) = w0 at *
   obtain ⟨x0, x1, x2, x3, x4, x5, x6, x7, x8, x9⟩ := bk10 kx0
   go_wp2_with (go_at_call 57; fail)
   refine (HSH.out w0 hb0).mono ?_
   rintro e w1 ⟨rfl, hb1⟩
   have hb01 : Below w.heap.size w w1 := hb0.trans (hb1.mono hb0.size)
   have kx1 := kx0.ext hb1
   clear x0 x1 x2 x3 x4 x5 x6 x7 x8 x9 kx0 hb0 hb1
   obtain ⟨x0, x1, x2, x3, x4, x5, x6, x7, x8, x9⟩ := bk10 kx1
   go_wp2_with (go_at_call 60; fail)
   refine (HMP.out w1 hb01).mono ?_
   rintro e w2 ⟨A2, c2, rfl, hr2, hA2, hb2⟩
   have hb02 : Below w.heap.size w w2 := hb01.trans (hb2.mono hb01.size)
   have kx2 := kx1.ext hb2
   have hrl2 := hr2.rlen
   obtain ⟨N, hN⟩ : ∃ N, N = L.length := ⟨_, rfl⟩
   have HN := Lib.hid hN
   have HR2 := Lib.hid hr2
   rw [← hN] at hll HR2 ⊢
   clear x0 x1 x2 x3 x4 x5 x6 x7 x8 x9 kx1 hb01 hb2 hr2 hA2 hN hrl2
   obtain ⟨x0, x1, x2, x3, x4, x5, x6, x7, x8, x9⟩ := bk10 kx2
   by_cases hN0 : N = 0
   ·have e3 : ((N : Int) == 0) = true := by simp; omega
    have hrf : reachL k f t g h i m v xn yn = [(f, t)] := by rw [HRL.out, if_pos (by rw [← HN.out]; exact hN0)]
    have HRF := Lib.hid hrf
    clear hN0 hrf
    go_wp2
    have hown : (w2.alloc (.cells #[.int .i64 f, .int .i64 t] 65)).ownsRow w.heap.size 65 2 (.slice (some ⟨w2.heap.size, 0, none⟩) 1 1) 1 (ips [(f, t)]) :=
     ⟨by simp [ips], .inr ⟨w2.heap.size, 1, _, rfl, hb02.size, heap_alloc_new w2 _, by omega, by unfold maxLen; omega, by simp, by simp [ips]⟩⟩
    have HO := Lib.hid hown
    clear hown
    go_ret
    exact ⟨_, rfl, by rw [HRF.out]; exact HO.out, hb02.alloc hb02.size _⟩
   ·have e3 : ((N : Int) == 0) = false := by simp; omega
    have hrf : reachL k f t g h i m v xn yn = L.map fun r => (r.at_, r.at_ + r.old) := by rw [HRL.out, if_neg (by rw [← HN.out]; exact hN0)]
    have HRF := Lib.hid hrf
    clear hN0 hrf
    go_wp2
    go_loopw [4, 6, 23] (fun u4 u6 u23 wr => ∃ (q : Nat) (va : Value), va = u4 ∧ q ≤ N ∧ u23 = .int .i64 q ∧ Hid (wr.ownsRow w2.heap.size 65 2 va q (ips ((L.take q).map fun r => (r.at_, r.at_ + r.old)))) ∧ Hid (Below w2.heap.size w2 wr)) (fun _ _ u23 _ => N - (intOf u23).toNat)
    case atStart => exact ⟨0, _, rfl, by omega, rfl, Lib.hid (World.ownsRow_nil _ _ _ _), Lib.hid (Below.refl _ _)⟩
    case round =>
     obtain ⟨q, va, rfl, hq, rfl, hO, hB⟩ := hrel
     clear x0 x1 x2 x3 x4 x5 x6 x7 x8 x9
     by_cases hqn : q < N
     ·have e4 : (q : Int) < N := by omega
      have hr3 := (HR2.out.below hB.out).more hB.out.size
      obtain ⟨bb, oo, rfl, hbb, -⟩ := hr3.2 (by omega)
      obtain ⟨r, hx⟩ : ∃ r, L[q]? = some r := ⟨_, List.getElem?_eq_getElem (by have := HN.out; omega)⟩
      obtain ⟨hc0, hc1, hc2, hbr⟩ := hr3.rg hx
      have hbd := HBD.out r (List.mem_of_getElem? hx)
      have hsn : ips ((L.take (q + 1)).map fun r => (r.at_, r.at_ + r.old)) = ips ((L.take q).map fun r => (r.at_, r.at_ + r.old)) ++ [.int .i64 r.at_, .int .i64 (r.at_ + r.old)] := by
       rw [List.take_add_one, hx, Option.toList_some, List.map_append, ips_append]
       rfl
      have HSN := Lib.hid hsn
      have hbw := hB.out.size
      have e5 : IntKind.i64.wrap (r.at_ + r.old) = r.at_ + r.old := IntWalk.i64_in _ (by omega)
      have kq := Bk.new wr 155 #[.int .i64 r.at_, .int .i64 r.old, .int .i64 r.new]
      have hbq : Below wr.heap.size wr (wr.alloc (.cells #[.int .i64 r.at_, .int .i64 r.old, .int .i64 r.new] 155)) := belowA
      clear hsn hx hr3
      go_upto_region 10 with fail
      generalize wr.alloc (.cells #[.int .i64 r.at_, .int .i64 r.old, .int .i64 r.new] 155) = wq at *
      have hoa := own_below hO.out hbq
      have hz : w2.heap.size ≤ wq.heap.size := by have := hbq.size; omega
      have y0 := kq.cell 0; have y1 := kq.cell 1
      dsimp at y0 y1
      go_wp2_with (at_builtin; ((refine app_one Tryz.underlying63 info_pair rfl (by decide) wq w2.heap.size va q _ hoa (by unfold maxLen; omega) (by omega) hz _ rfl (by simp [Value.oneCell']) rfl _ _ rfl rfl rfl ?_); intro g4 cap4 w4 hown4 hgr4 hat4 hlt4))
      have hfin : w4.ownsRow w2.heap.size 65 2 (.slice (some ⟨g4, 0, none⟩) (q + 1) cap4) (q + 1) (ips ((L.take (q + 1)).map fun r => (r.at_, r.at_ + r.old))) := by
       rw [HSN.out]
       exact hown4
      have hbf : Below w2.heap.size w2 w4 := by
       have q1 : Below w2.heap.size w2 wq := hB.out.trans (hbq.mono hB.out.size)
       exact below_own q1 hoa hgr4 hz (Nat.le_refl _)
      have HFIN := Lib.hid hfin
      have HBF := Lib.hid hbf
      clear hfin hbf hown4 hgr4 hat4 hoa
      go_roundw
      case rel => exact ⟨q + 1, _, rfl, by omega, by go_num, HFIN, HBF⟩
      case measure => simp [intOf]; omega
     ·obtain rfl : N = q := by omega
      have hfin : wr.ownsRow w.heap.size 65 2 va (reachL k f t g h i m v xn yn).length (ips (reachL k f t g h i m v xn yn)) := by
       have := own_base hO.out hb02.size
       rw [HRF.out, List.length_map, ← HN.out]
       rwa [List.take_of_length_le (by rw [← HN.out]; exact Nat.le_refl _)] at this
      have HFIN := Lib.hid hfin
      clear hfin
      go_wp2
      go_ret
      exact ⟨_, rfl, HFIN.out, hb02.trans (hB.out.mono hb02.size)⟩
end Go.Proofs.YtmacfoebfpljoaaGreat
