/- merged texts: Hvh StG Hvm Hvi Hvj Hvk Hvl -/
import Derived.Test.YtmacfoebfpljoaaGreatMa12
import Derived.Test.YtmacfoebfpljoaaGreatMa8
import Derived.Test.YtmacfoebfpljoaaGreatMa1
set_option maxRecDepth 100000
set_option maxHeartbeats 16000000
namespace Go.Proofs.YtmacfoebfpljoaaGreat
open Go.RowKit
set_option linter.unusedVariables false
theorem around16_any (A : Option Addr) (n c a : Nat) (l : List Tok) (w : World) (hr : Rd w w.heap.size 12 A n (toks l)) (hn : n ≤ 65536) (ha : a ≤ n) : Calls Tryz.prog 161 #[.slice A n c, .int .i64 a] w (NsOut a w) := by
 have hsh := fun (q : Nat) (hq : q < n) W (hb : Below w.heap.size w W) => shut14_any A n c q l W ((hr.below hb).more hb.size) (by omega) hq
 have HSH := Lib.hid hsh
 have H := Lib.hid hr
 clear hsh hr
 go_enter Tryz.func161, Tryz.ntmps161
 go_wp2
 go_loopw [5, 6] (fun v j wr => ∃ (q : Nat) (cs : List Nat), q ≤ a ∧ j = .int .i64 q ∧ Hid (Ris q cs) ∧ Hid (wr.ownsRow w.heap.size 3 1 v cs.length (nts cs)) ∧ cs.length ≤ q ∧ Below w.heap.size w wr) (fun _ j _ => a - (intOf j).toNat)
 case atStart => exact ⟨0, [], by omega, rfl, Lib.hid (Ris.nil _), Lib.hid (World.ownsRow_nil _ _ _ _), by simp, Below.refl _ _⟩
 case round =>
  obtain ⟨q, cs, hq, rfl, hR, hown, hcl, hbr⟩ := hrel
  have hzr := hbr.size
  obtain ⟨A1, c1, rfl, -, -, -, -⟩ := own_form hown.out
  by_cases hlt : q < a
  ·have e3 : (q : Int) < a := by omega
   have e4 : (q : Int) < n := by omega
   have e5 : (0 : Int) ≤ q := by omega
   have hqn : q < n := by omega
   obtain ⟨tb, tq, tk, -, rfl, htb, htc⟩ := tok_at ((H.out.below hbr).more hbr.size) hqn
   have d0 : wr.cell? ⟨tb, tq + q * 12, none⟩ = some (.int .i64 tk.k) := htc 0 (by omega)
   generalize tk.k = k0 at *
   clear htc
   cases e6 : (k0 == 1) with
   | false =>
     go_wp2
     go_roundw
     case rel => exact ⟨q + 1, cs, by omega, by go_num, Lib.hid (hR.out.mono (by omega)), hown, by omega, hbr⟩
     case measure => simp [intOf]; omega
   | true =>
     go_wp2_with (go_at_call 164; fail)
     refine (HSH.out q hqn _ hbr).mono ?_
     rintro e w1 ⟨r, rfl, -, -, -, hb1⟩
     have hb01 := hbr.trans (hb1.mono hzr)
     have hz1 := hb01.size
     have hown1 := own_below hown.out hb1
     by_cases hge : (a : Int) ≤ r
     ·go_wp2_with (at_builtin; ((refine app_one Tryz.underlying51 info_in rfl (by decide) w1 w.heap.size _ cs.length _ hown1 (by unfold maxLen; omega) (by omega) hz1 _ rfl (by simp [Value.oneCell']) rfl _ _ rfl rfl rfl ?_); intro g4 cap4 w4 hown4 hgr4 hat4 hlt4))
      have hb4 := below_own hb01 hown1 hgr4 hz1 (Nat.le_refl _)
      go_roundw
      case rel => exact ⟨q + 1, cs ++ [q], by omega, by go_num, Lib.hid ((hR.out.mono (by omega)).snoc (fun y hy => hR.out.2 y hy) (by omega)), Lib.hid (by rw [List.length_append, nts_snoc]; exact hown4), by simp; omega, hb4⟩
      case measure => simp [intOf]; omega
     ·go_wp2
      go_roundw
      case rel => exact ⟨q + 1, cs, by omega, by go_num, Lib.hid (hR.out.mono (by omega)), Lib.hid hown1, by omega, hb01⟩
      case measure => simp [intOf]; omega
  ·obtain rfl : q = a := by omega
   go_wp2
   exact bodyPost_ret (v := .slice A1 cs.length c1) (by simp [results, Tryz.results161, go_sem]) rfl ⟨_, rfl, ⟨cs, hown.out, hR.out⟩, hbr⟩
theorem parent25_any (A : Option Addr) (n c a : Nat) (l : List Tok) (w : World) (hr : Rd w w.heap.size 12 A n (toks l)) (hn : n ≤ 65536) (ha : a ≤ n) : Calls Tryz.prog 113 #[.slice A n c, .int .i64 a] w (AnyI w) := by
 have har := around16_any A n c a l w hr hn ha
 have HAR := Lib.hid har
 have H := Lib.hid hr
 clear har hr
 go_enter Tryz.func113, Tryz.ntmps113
 go_wp2_with (go_at_call 161; fail)
 refine HAR.out.mono ?_
 rintro e w1 ⟨v1, rfl, hv1, hb1⟩
 obtain ⟨KA, kc, ks, rfl, hks, hkr, -⟩ := hv1.form
 obtain ⟨kn, hkn⟩ : ∃ kn, kn = ks.length := ⟨_, rfl⟩
 have hkl := hks.len
 rw [← hkn] at hkr hkl ⊢
 clear hv1 HAR hkn
 rcases Nat.eq_zero_or_pos kn with rfl | hpos
 ·go_wp2
  go_ret
  exact ⟨⟨_, rfl⟩, hb1⟩
 ·obtain ⟨k', rfl⟩ : ∃ k', kn = k' + 1 := ⟨kn - 1, by omega⟩
  obtain ⟨kb, ko, x, rfl, hkb, hx, hxc⟩ := hkr.nt_at (show k' < k' + 1 by omega)
  have hxa := hks.2 x (List.mem_of_getElem? hx)
  obtain ⟨tb, tq, tk, -, rfl, htb, htc⟩ := tok_at ((H.out.below hb1).more hb1.size) (show x < n by omega)
  have d1 : w1.cell? ⟨tb, tq + x * 12 + 1, none⟩ = some (.int .i64 tk.t) := htc 1 (by omega)
  generalize tk.t = t0 at *
  have e1 : ((k' : Int) + 1 == 0) = false := beq_false_of_ne (by omega)
  have e2 : (0 : Int) ≤ k' := by omega
  have e3 : (k' : Int) ≤ 65536 := by omega
  have e4 : (x : Int) < n := by omega
  have e5 : (0 : Int) ≤ x := by omega
  clear htc hx hks hkr
  go_wp2
  go_ret
  exact ⟨⟨_, rfl⟩, hb1⟩
section
variable (base : Nat) (nv mv : Value) (ns : List Nd) (ms : List Mr) (PA TA EA : Option Addr) (pn pc tn tc en ec : Nat) (w : World)
/-- a schema, a step -/
structure XI (w wr : World) (S M : Array Value) : Prop where
 s : Bk wr w.heap.size 32 S
 m : Bk wr (w.heap.size + 1) 45 M
 b : Below w.heap.size w wr
omit w in
theorem XI.below {w wr w' : World} {S M : Array Value} (h : XI w wr S M) (hb : Below wr.heap.size wr w') : XI w w' S M := ⟨h.s.ext hb, h.m.ext hb, h.b.trans (hb.mono h.b.size)⟩
/-- a step that may be has the right shape -/
def RightOut (sh : Bool) (w : World) (e : Ending) (w' : World) : Prop := ∃ b : Bool, e = .returned (.bool b) ∧ (b = true → sh = true) ∧ Below w.heap.size w w'
theorem mk8_at {w : World} {n k : Nat} {A : Option Addr} {l : List Mk} (h : Rd w w.heap.size 8 A n (mks l)) (hk : k < n) : ∃ (b o : Nat) (a0 a1 a2 a3 a4 a5 a6 a7 : Int), A = some ⟨b, o, none⟩ ∧ b < w.heap.size ∧ ∀ i, i < 8 → w.cell? ⟨b, o + k * 8 + i, none⟩ = (Mk.mk a0 a1 a2 a3 a4 a5 a6 a7).cells[i]? := by
 have hl := h.mlen
 have hx : l[k]? = some l[k] := List.getElem?_eq_getElem (by omega)
 obtain ⟨b, o, e, hb, hc⟩ := Rd.el Mk.cells (fun _ => rfl) h hl hx
 exact ⟨b, o, _, _, _, _, _, _, _, _, e, hb, hc⟩
theorem mk8 {w : World} {b o : Nat} {a0 a1 a2 a3 a4 a5 a6 a7 : Int} (hc : ∀ i, i < 8 → w.cell? ⟨b, o + i, none⟩ = (Mk.mk a0 a1 a2 a3 a4 a5 a6 a7).cells[i]?) : w.cell? ⟨b, o, none⟩ = some (.int .u16 a0) ∧ w.cell? ⟨b, o + 1, none⟩ = some (.int .u16 a1) ∧ w.cell? ⟨b, o + 2, none⟩ = some (.int .u16 a2) ∧ w.cell? ⟨b, o + 3, none⟩ = some (.int .u16 a3) ∧ w.cell? ⟨b, o + 4, none⟩ = some (.int .u16 a4) ∧ w.cell? ⟨b, o + 5, none⟩ = some (.int .u16 a5) ∧ w.cell? ⟨b, o + 6, none⟩ = some (.int .u16 a6) ∧ w.cell? ⟨b, o + 7, none⟩ = some (.int .u16 a7) :=
 ⟨hc 0 (by omega), hc 1 (by omega), hc 2 (by omega), hc 3 (by omega), hc 4 (by omega), hc 5 (by omega), hc 6 (by omega), hc 7 (by omega)⟩
theorem right25_any (k f t g h i m v : Int) (XA YA : Option Addr) (xn yn xc yc : Nat) (sl : List Tok) (st : List Mk) (hD : DeclIn w base nv mv ns ms) (hxn : xn ≤ 20000) (hyn : yn ≤ 20000) (hx : Rd w w.heap.size 12 XA xn (toks sl)) (hy : Rd w w.heap.size 8 YA yn (mks st)) : Calls Tryz.prog 54 #[.agg #[nv, mv, .slice PA pn pc, .slice TA tn tc, .slice EA en ec], .agg #[.int .i64 k, .int .i64 f, .int .i64 t, .int .i64 g, .int .i64 h, .int .i64 i, .int .i64 m, .int .i64 v, .slice XA xn xc, .slice YA yn yc]] w (RightOut (shB k f t g h i m v xn yn) w) := by
 obtain ⟨NA, nc, rfl, -, -, -, -⟩ := own_form hD.n
 obtain ⟨MA, mc, rfl, -, -, -, -⟩ := own_form hD.m
 have hsp := fun W => rshape_any k f t g h i m v XA YA xn yn xc yc W hxn hyn
 have hwr := fun W (hb : Below w.heap.size w W) => wrong13_any base _ _ ns ms PA TA EA pn pc tn tc en ec W XA xn xc sl (hD.below hb) ((hx.below hb).more hb.size) (by omega)
 have hr2 := fun a0 a1 a2 a3 a4 a5 a6 a7 W (hb : Below w.heap.size w W) => right12_any base _ _ ns ms PA TA EA pn pc tn tc en ec W a0 a1 a2 a3 a4 a5 a6 a7 (hD.below hb)
 have hmy := fun W (hb : Below w.heap.size w W) => may12_any base _ _ ns ms PA TA EA pn pc tn tc en ec W m v (hD.below hb)
 have HSP := Lib.hid hsp
 have HWR := Lib.hid hwr
 have HR2 := Lib.hid hr2
 have HMY := Lib.hid hmy
 have HY := Lib.hid hy
 obtain ⟨sh, hsh⟩ : ∃ sh, sh = shB k f t g h i m v xn yn := ⟨_, rfl⟩
 rw [← hsh] at HSP ⊢
 clear hsp hwr hr2 hmy hD hx hy hsh
 go_enter Tryz.func54, Tryz.ntmps54
 go_upto_region 1 with fail
 have hI0 : XI w ((w.alloc (.cells #[.slice NA ns.length nc, .slice MA ms.length mc, .slice PA pn pc, .slice TA tn tc, .slice EA en ec] 32)).alloc (.cells #[.int .i64 k, .int .i64 f, .int .i64 t, .int .i64 g, .int .i64 h, .int .i64 i, .int .i64 m, .int .i64 v, .slice XA xn xc, .slice YA yn yc] 45)) #[.slice NA ns.length nc, .slice MA ms.length mc, .slice PA pn pc, .slice TA tn tc, .slice EA en ec] #[.int .i64 k, .int .i64 f, .int .i64 t, .int .i64 g, .int .i64 h, .int .i64 i, .int .i64 m, .int .i64 v, .slice XA xn xc, .slice YA yn yc] := ⟨(Bk.new w _ _).alloc _, Bk.made _ _ (by simp), belowA⟩
 generalize (w.alloc (.cells #[.slice NA ns.length nc, .slice MA ms.length mc, .slice PA pn pc, .slice TA tn tc, .slice EA en ec] 32)).alloc (.cells #[.int .i64 k, .int .i64 f, .int .i64 t, .int .i64 g, .int .i64 h, .int .i64 i, .int .i64 m, .int .i64 v, .slice XA xn xc, .slice YA yn yc] 45) = w0 at *
 obtain ⟨x0, x1, x2, x3, x4, x5, x6, x7, x8, x9⟩ := bk10 hI0.m
 go_wp2_with (go_at_call 65; fail)
 refine (HSP.out _).mono ?_
 rintro e w1 ⟨rfl, hb1⟩
 have hI1 := Lib.hid (hI0.below hb1)
 clear x0 x1 x2 x3 x4 x5 x6 x7 x8 x9 hI0 hb1
 cases sh with
 | false =>
   go_wp2
   go_ret
   exact ⟨_, rfl, (fun h => by cases h), hI1.out.b⟩
 | true =>
   obtain ⟨x0, x1, x2, x3, x4, x5, x6, x7, x8, x9⟩ := bk10 hI1.out.m
   obtain ⟨s0, s1, s2, s3, s4⟩ := bk5 hI1.out.s
   go_wp2_with (go_at_call 108; fail)
   refine (HWR.out _ hI1.out.b).mono ?_
   rintro e w2 ⟨⟨wv, rfl⟩, hb2⟩
   have hI2 := Lib.hid (hI1.out.below hb2)
   clear x0 x1 x2 x3 x4 x5 x6 x7 x8 x9 s0 s1 s2 s3 s4 hI1 hb2
   by_cases hwv : 0 ≤ wv
   ·go_wp2
    go_ret
    exact ⟨_, rfl, (fun h => rfl), hI2.out.b⟩
   go_wp2
   go_loopw [5] (fun j wr => ∃ q : Nat, q ≤ yn ∧ j = .int .i64 q ∧ Hid (XI w wr #[.slice NA ns.length nc, .slice MA ms.length mc, .slice PA pn pc, .slice TA tn tc, .slice EA en ec] #[.int .i64 k, .int .i64 f, .int .i64 t, .int .i64 g, .int .i64 h, .int .i64 i, .int .i64 m, .int .i64 v, .slice XA xn xc, .slice YA yn yc])) (fun j _ => yn - (intOf j).toNat)
   case atStart => exact ⟨0, by omega, rfl, hI2⟩
   case round =>
    clear hI2
    obtain ⟨q, hq, rfl, hI⟩ := hrel
    by_cases hlt : q < yn
    ·have e3 : (q : Int) < yn := by omega
     obtain ⟨yb, yo, a0, a1, a2, a3, a4, a5, a6, a7, rfl, hyb, hyc⟩ := mk8_at HY.out hlt
     have hF : ∀ W, XI w W #[.slice NA ns.length nc, .slice MA ms.length mc, .slice PA pn pc, .slice TA tn tc, .slice EA en ec] #[.int .i64 k, .int .i64 f, .int .i64 t, .int .i64 g, .int .i64 h, .int .i64 i, .int .i64 m, .int .i64 v, .slice XA xn xc, .slice (some ⟨yb, yo, none⟩) yn yc] → (W.cell? ⟨w.heap.size, 0, none⟩ = some (.slice NA ns.length nc) ∧ W.cell? ⟨w.heap.size, 1, none⟩ = some (.slice MA ms.length mc) ∧ W.cell? ⟨w.heap.size, 2, none⟩ = some (.slice PA pn pc) ∧ W.cell? ⟨w.heap.size, 3, none⟩ = some (.slice TA tn tc) ∧ W.cell? ⟨w.heap.size, 4, none⟩ = some (.slice EA en ec)) ∧ W.cell? ⟨w.heap.size + 1, 9, none⟩ = some (.slice (some ⟨yb, yo, none⟩) yn yc) ∧ _ := fun W h => ⟨bk5 h.s, h.m.cell 9, mk8 (fun i hi => (h.b.cell (p := ⟨yb, yo + q * 8 + i, none⟩) hyb).trans (hyc i hi))⟩
     have HF := Lib.hid hF
     clear hF hyc
     obtain ⟨x0, x1, x2, x3, x4, x5, x6, x7, x8, x9⟩ := bk10 hI.out.m
     go_upto_region 6 with fail
     clear x0 x1 x2 x3 x4 x5 x6 x7 x8 x9
     refine wp_normal ?_
     refine wp_region_held_drew (S := fun W => XI w W #[.slice NA ns.length nc, .slice MA ms.length mc, .slice PA pn pc, .slice TA tn tc, .slice EA en ec] #[.int .i64 k, .int .i64 f, .int .i64 t, .int .i64 g, .int .i64 h, .int .i64 i, .int .i64 m, .int .i64 v, .slice XA xn xc, .slice (some ⟨yb, yo, none⟩) yn yc]) (by kernel_rfl) (show XI w _ _ _ from ⟨hI.out.s.drew, hI.out.m.drew, hI.out.b.drew⟩) (fun hHeld => ?_)
     (refine tkH 0 ?_; refine tkH 1 ?_; refine tkH 2 ?_; refine tkH 3 ?_; refine tkH 4 ?_; refine tkH 5 ?_)
     refine nxH 6 (fun K hK => ?_)
     go_simp
     go_at_call 109
     refine (HR2.out a0 a1 a2 a3 a4 a5 a6 a7 _ hHeld.b).mono ?_
     rintro e w3 ⟨⟨b3, rfl⟩, hb3⟩
     refine hK.out _ _ (hHeld.below hb3) (fun hHeld => ?_)
     clear hK K; refine puH ?_
     (refine tkH 7 ?_)
     refine wpAnyH_done (by kernel_rfl) ?_ _
     cases b3 with
     | true =>
       go_wp2
       go_roundw
       case rel => exact ⟨q + 1, by omega, by go_num, Lib.hid hHeld⟩
       case measure => simp [intOf]; omega
     | false =>
       go_wp2
       go_ret
       exact ⟨_, rfl, (fun h => rfl), hHeld.b⟩
    ·obtain rfl : q = yn := by omega
     obtain ⟨x0, x1, x2, x3, x4, x5, x6, x7, x8, x9⟩ := bk10 hI.out.m
     obtain ⟨s0, s1, s2, s3, s4⟩ := bk5 hI.out.s
     have hk : (k != 3) = false ∨ ((k != 3) = true ∧ (k != 4) = false) ∨ ((k != 3) = true ∧ (k != 4) = true) := by cases (k != 3) <;> cases (k != 4) <;> simp
     rcases hk with e | ⟨e, e'⟩ | ⟨e, e'⟩
     ·go_wp2_with (go_at_call 110; fail)
      refine (HMY.out _ hI.out.b).mono ?_
      rintro e w3 ⟨b3, rfl, -, hb3⟩
      go_wp2
      go_ret
      exact ⟨_, rfl, (fun h => rfl), (hI.out.below hb3).b⟩
     ·go_wp2_with (go_at_call 110; fail)
      refine (HMY.out _ hI.out.b).mono ?_
      rintro e w3 ⟨b3, rfl, -, hb3⟩
      go_wp2
      go_ret
      exact ⟨_, rfl, (fun h => rfl), (hI.out.below hb3).b⟩
     ·go_wp2
      go_ret
      exact ⟨_, rfl, (fun h => rfl), hI.out.b⟩
end
end Go.Proofs.YtmacfoebfpljoaaGreat
namespace Go.Proofs.YtmacfoebfpljoaaGreat
open Go.RowKit
theorem rd_new {W : World} {b : Nat} (t : TypeId) (cs : Array Value) (n s : Nat) (hb : W.heap.size = b) (h : cs.size = n * s) : Rd (W.alloc (.cells cs t)) (W.alloc (.cells cs t)).heap.size s (some ⟨b, 0, none⟩) n cs.toList := by
 subst hb
 refine ⟨by simpa using h, fun _ => ⟨W.heap.size, 0, rfl, by simp, fun j u hu => ?_⟩⟩
 rw [cell_of_row _ _ _ _ _ _ (heap_alloc_new W _)]
 simpa using hu
/-- the map of a step whose shape is right -/
def mapS (k f t g h i : Int) (n : Nat) : List Rg :=
 if k = 1 ∨ (k = 2 ∧ g = h) then [⟨f, t - f, n⟩] else if k = 2 then [⟨f, g - f, i⟩, ⟨h, t - h, n - i⟩] else []
/-- a map comes out -/
abbrev Maps (w : World) (l : List Rg) (e : Ending) (w' : World) : Prop := ∃ A2 c2, e = .returned (.slice A2 l.length c2) ∧ Rd w' w'.heap.size 3 A2 l.length (rgs l) ∧ (A2 = none → l.length = 0) ∧ Below w.heap.size w w'
theorem maps_nil (w w' : World) (hb : Below w.heap.size w w') : Maps w [] (.returned (.slice none 0 0)) w' := ⟨none, 0, rfl, Rd.nil_ _ _ _ _, fun _ => rfl, hb⟩
theorem ranges_1 (k : Int) (f t g h i m v : Int) (A A' : Option Addr) (n n' c c' : Nat) (w : World) (hb : 0 ≤ f ∧ f ≤ t ∧ t ≤ 1073741824) :
 Calls Tryz.prog 254 #[.agg #[.int .i64 k, .int .i64 f, .int .i64 t, .int .i64 g, .int .i64 h, .int .i64 i, .int .i64 m, .int .i64 v, .slice A n c, .slice A' n' c']] w (Maps w [⟨f, t - f, n⟩]) := by
 have e0 : IntKind.i64.wrap (t - f) = t - f := IntWalk.i64_in _ (by omega)
 clear hb
 go_enter Tryz.func254, Tryz.ntmps254
 go_wp2
 go_ret
 exact ⟨_, _, rfl, rd_new _ #[.int .i64 f, .int .i64 (t - f), .int .i64 (n : Int)] 1 3 (by simp) rfl, by simp, belowA⟩
theorem ranges_2 (f t g h i m v : Int) (A A' : Option Addr) (n n' c c' : Nat) (w : World) (hb : 0 ≤ f ∧ f ≤ t ∧ t ≤ 1073741824) (hg : f ≤ g ∧ g ≤ h ∧ h ≤ t ∧ 0 ≤ i ∧ i ≤ n) (hn : n ≤ 20000) :
 Calls Tryz.prog 259 #[.agg #[.int .i64 2, .int .i64 f, .int .i64 t, .int .i64 g, .int .i64 h, .int .i64 i, .int .i64 m, .int .i64 v, .slice A n c, .slice A' n' c']] w (Maps w (mapS 2 f t g h i n)) := by
 by_cases hgh : g = h
 ·subst hgh
  have hr := fun W (hb' : Below w.heap.size w W) => ranges_1 2 f t g g i m v A A' n n' c c' W hb
  have HR := Lib.hid hr
  have e : mapS 2 f t g g i n = [⟨f, t - f, n⟩] := by unfold mapS; rw [if_pos (.inr ⟨rfl, rfl⟩)]
  rw [e]
  clear hr e hb hg
  go_enter Tryz.func259, Tryz.ntmps259
  go_wp2_with (go_at_call 254; (refine (HR.out _ belowA).mono ?_); rintro e w1 ⟨A2, c2, rfl, h1, h2, h3⟩)
  go_ret
  exact ⟨_, _, rfl, h1, h2, Below.trans belowA (h3.mono (by simp))⟩
 ·have e : mapS 2 f t g h i n = [⟨f, g - f, i⟩, ⟨h, t - h, n - i⟩] := by unfold mapS; rw [if_neg (by omega), if_pos rfl]
  rw [e]
  have e1 : (g == h) = false := by simpa using hgh
  have e2 : IntKind.i64.wrap (g - f) = g - f := IntWalk.i64_in _ (by omega)
  have e3 : IntKind.i64.wrap (t - h) = t - h := IntWalk.i64_in _ (by omega)
  have e4 : IntKind.i64.wrap ((n : Int) - i) = n - i := IntWalk.i64_in _ (by omega)
  clear e hb hg hgh
  go_enter Tryz.func259, Tryz.ntmps259
  go_wp2
  go_ret
  exact ⟨_, _, rfl, rd_new _ #[.int .i64 f, .int .i64 (g - f), .int .i64 i, .int .i64 h, .int .i64 (t - h), .int .i64 ((n : Int) - i)] 2 3 (by simp) rfl, by simp, belowA⟩
theorem ranges_3 (k : Int) (f t g h i m v : Int) (A A' : Option Addr) (n n' c c' : Nat) (w : World) :
 Calls Tryz.prog 264 #[.agg #[.int .i64 k, .int .i64 f, .int .i64 t, .int .i64 g, .int .i64 h, .int .i64 i, .int .i64 m, .int .i64 v, .slice A n c, .slice A' n' c']] w (Maps w []) := by
 go_enter Tryz.func264, Tryz.ntmps264
 go_wp2
 go_ret
 exact maps_nil _ _ belowA
theorem ranges_5 (k : Int) (f t g h i m v : Int) (A A' : Option Addr) (n n' c c' : Nat) (w : World) :
 Calls Tryz.prog 269 #[.agg #[.int .i64 k, .int .i64 f, .int .i64 t, .int .i64 g, .int .i64 h, .int .i64 i, .int .i64 m, .int .i64 v, .slice A n c, .slice A' n' c']] w (Maps w []) := by
 go_enter Tryz.func269, Tryz.ntmps269
 go_wp2
 go_ret
 exact maps_nil _ _ belowA
/-- what Map tells -/
def mapB (k f t g h i m v : Int) (n n' : Nat) : List Rg := if shB k f t g h i m v n n' then mapS k f t g h i n else []
theorem map_any (k f t g h i m v : Int) (A A' : Option Addr) (n n' c c' : Nat) (w : World) (sl : List Tok) (st : List Mk) (hn : n ≤ maxLen) (hn' : n' ≤ maxLen) (hrd : Rd w w.heap.size 12 A n (toks sl)) (hrd' : Rd w w.heap.size 8 A' n' (mks st)) :
 Calls Tryz.prog 60 #[.agg #[.int .i64 k, .int .i64 f, .int .i64 t, .int .i64 g, .int .i64 h, .int .i64 i, .int .i64 m, .int .i64 v, .slice A n c, .slice A' n' c']] w (Maps w (mapB k f t g h i m v n n')) := by
 have hs := fun W (hb : Below w.heap.size w W) => calls_on hb (shape_any k f t g h i m v A A' n n' c c' W sl st hn hn' ((hrd.below hb).more hb.size) ((hrd'.below hb).more hb.size))
 unfold mapB
 cases hsh : shB k f t g h i m v n n' with
 | false =>
   rw [hsh] at hs
   have HS := Lib.hid hs
   clear hs hrd hrd' hsh
   simp only [Bool.false_eq_true, if_false]
   go_enter Tryz.func60, Tryz.ntmps60
   go_wp2_with (go_at_call 57; (refine (HS.out _ belowA).mono ?_); rintro e w1 ⟨rfl, hb1, hz1, hx1⟩)
   go_ret
   exact maps_nil _ _ hb1
 | true =>
   rw [hsh] at hs
   have HS := Lib.hid hs
   simp only [if_true]
   unfold shB at hsh
   rw [Bool.and_eq_true] at hsh
   obtain ⟨hbx, hsh⟩ := hsh
   have hbx : 0 ≤ f ∧ f ≤ t ∧ t ≤ 1073741824 := by simpa [boxes] using hbx
   clear hs hrd hrd'
   by_cases k1 : k = 1
   ·subst k1
    have ho := fun W (hb : Below w.heap.size w W) => calls_on hb (of1 f t g h i m v A A' n n' c c' W)
    have hr := fun W => ranges_1 1 f t g h i m v A A' n n' c c' W hbx
    have e : mapS 1 f t g h i n = [⟨f, t - f, n⟩] := by unfold mapS; rw [if_pos (.inl rfl)]
    rw [e]
    have HO := Lib.hid ho
    have HR := Lib.hid hr
    have hm : ∀ w, (method 500 272 (.agg #[.int .i64 1, .int .i64 f, .int .i64 t, .int .i64 g, .int .i64 h, .int .i64 i, .int .i64 m, .int .i64 v, .slice A n c, .slice A' n' c']) "stet/step.ranges").run Tryz.prog w = .ok (254, .agg #[.int .i64 1, .int .i64 f, .int .i64 t, .int .i64 g, .int .i64 h, .int .i64 i, .int .i64 m, .int .i64 v, .slice A n c, .slice A' n' c']) w := fun _ => by kernel_rfl
    clear ho hr e hsh
    go_enter Tryz.func60, Tryz.ntmps60
    go_wp2_with (first
     | (go_at_call 57; (refine (HS.out _ belowA).mono ?_); rintro e w1 ⟨rfl, hb1, hz1, hx1⟩; have kb := (Bk.new w 45 #[.int .i64 1, .int .i64 f, .int .i64 t, .int .i64 g, .int .i64 h, .int .i64 i, .int .i64 m, .int .i64 v, .slice A n c, .slice A' n' c']).ext hx1; have lb := def_lt' kb; have d0 := kb.cell 0; have d1 := kb.cell 1; have d2 := kb.cell 2; have d3 := kb.cell 3; have d4 := kb.cell 4; have d5 := kb.cell 5; have d6 := kb.cell 6; have d7 := kb.cell 7; have d8 := kb.cell 8; have d9 := kb.cell 9; dsimp at d0 d1 d2 d3 d4 d5 d6 d7 d8 d9)
     | (go_at_call 118; (refine (HO.out _ hb1).mono ?_); rintro e w2 ⟨rfl, hb2, hz2, hx2⟩)
     | (go_at_call 254; (refine (HR.out _).mono ?_); rintro e w3 ⟨A2, c2, rfl, h1, h2, h3⟩))
    go_ret
    exact ⟨_, _, rfl, h1, h2, hb2.trans (h3.mono hz2)⟩
   by_cases k2 : k = 2
   ·subst k2
    rw [if_neg (by omega), if_pos rfl] at hsh
    have hsh2 : f ≤ g ∧ g ≤ h ∧ h ≤ t ∧ 0 ≤ i ∧ i ≤ n ∧ n ≤ 20000 ∧ m = 0 ∧ v = 0 ∧ n' = 0 := by simpa [sh2] using hsh
    have ho := fun W (hb : Below w.heap.size w W) => calls_on hb (of2 f t g h i m v A A' n n' c c' W)
    have hr := fun W => ranges_2 f t g h i m v A A' n n' c c' W hbx ⟨hsh2.1, hsh2.2.1, hsh2.2.2.1, hsh2.2.2.2.1, hsh2.2.2.2.2.1⟩ hsh2.2.2.2.2.2.1
    have HO := Lib.hid ho
    have HR := Lib.hid hr
    have hm : ∀ w, (method 500 273 (.agg #[.int .i64 2, .int .i64 f, .int .i64 t, .int .i64 g, .int .i64 h, .int .i64 i, .int .i64 m, .int .i64 v, .slice A n c, .slice A' n' c']) "stet/step.ranges").run Tryz.prog w = .ok (259, .agg #[.int .i64 2, .int .i64 f, .int .i64 t, .int .i64 g, .int .i64 h, .int .i64 i, .int .i64 m, .int .i64 v, .slice A n c, .slice A' n' c']) w := fun _ => by kernel_rfl
    clear ho hr hsh hsh2 k1
    go_enter Tryz.func60, Tryz.ntmps60
    go_wp2_with (first
     | (go_at_call 57; (refine (HS.out _ belowA).mono ?_); rintro e w1 ⟨rfl, hb1, hz1, hx1⟩; have kb := (Bk.new w 45 #[.int .i64 2, .int .i64 f, .int .i64 t, .int .i64 g, .int .i64 h, .int .i64 i, .int .i64 m, .int .i64 v, .slice A n c, .slice A' n' c']).ext hx1; have lb := def_lt' kb; have d0 := kb.cell 0; have d1 := kb.cell 1; have d2 := kb.cell 2; have d3 := kb.cell 3; have d4 := kb.cell 4; have d5 := kb.cell 5; have d6 := kb.cell 6; have d7 := kb.cell 7; have d8 := kb.cell 8; have d9 := kb.cell 9; dsimp at d0 d1 d2 d3 d4 d5 d6 d7 d8 d9)
     | (go_at_call 118; (refine (HO.out _ hb1).mono ?_); rintro e w2 ⟨rfl, hb2, hz2, hx2⟩)
     | (go_at_call 259; (refine (HR.out _).mono ?_); rintro e w3 ⟨A2, c2, rfl, h1, h2, h3⟩))
    go_ret
    exact ⟨_, _, rfl, h1, h2, hb2.trans (h3.mono hz2)⟩
   have e : mapS k f t g h i n = [] := by unfold mapS; rw [if_neg (by omega), if_neg k2]
   rw [e]
   rw [if_neg k1, if_neg k2] at hsh
   by_cases k3 : k = 3 ∨ k = 4
   ·have ho := fun W (hb : Below w.heap.size w W) => calls_on hb (of3 k k3 f t g h i m v A A' n n' c c' W)
    have hr := fun W => ranges_3 k f t g h i m v A A' n n' c c' W
    have HO := Lib.hid ho
    have HR := Lib.hid hr
    have hm : ∀ w, (method 500 274 (.agg #[.int .i64 k, .int .i64 f, .int .i64 t, .int .i64 g, .int .i64 h, .int .i64 i, .int .i64 m, .int .i64 v, .slice A n c, .slice A' n' c']) "stet/step.ranges").run Tryz.prog w = .ok (264, .agg #[.int .i64 k, .int .i64 f, .int .i64 t, .int .i64 g, .int .i64 h, .int .i64 i, .int .i64 m, .int .i64 v, .slice A n c, .slice A' n' c']) w := fun _ => by kernel_rfl
    clear ho hr hsh k1 k2 k3 e
    go_enter Tryz.func60, Tryz.ntmps60
    go_wp2_with (first
     | (go_at_call 57; (refine (HS.out _ belowA).mono ?_); rintro e w1 ⟨rfl, hb1, hz1, hx1⟩; have kb := (Bk.new w 45 #[.int .i64 k, .int .i64 f, .int .i64 t, .int .i64 g, .int .i64 h, .int .i64 i, .int .i64 m, .int .i64 v, .slice A n c, .slice A' n' c']).ext hx1; have lb := def_lt' kb; have d0 := kb.cell 0; have d1 := kb.cell 1; have d2 := kb.cell 2; have d3 := kb.cell 3; have d4 := kb.cell 4; have d5 := kb.cell 5; have d6 := kb.cell 6; have d7 := kb.cell 7; have d8 := kb.cell 8; have d9 := kb.cell 9; dsimp at d0 d1 d2 d3 d4 d5 d6 d7 d8 d9)
     | (go_at_call 118; (refine (HO.out _ hb1).mono ?_); rintro e w2 ⟨rfl, hb2, hz2, hx2⟩)
     | (go_at_call 264; (refine (HR.out _).mono ?_); rintro e w3 ⟨A2, c2, rfl, h1, h2, h3⟩))
    go_ret
    exact ⟨_, _, rfl, h1, h2, hb2.trans (h3.mono hz2)⟩
   rw [if_neg k3] at hsh
   have k5 : k = 5 := by
    by_cases k5 : k = 5
    ·exact k5
    ·rw [if_neg k5] at hsh; cases hsh
   subst k5
   have ho := fun W (hb : Below w.heap.size w W) => calls_on hb (of5 f t g h i m v A A' n n' c c' W)
   have hr := fun W => ranges_5 5 f t g h i m v A A' n n' c c' W
   have HO := Lib.hid ho
   have HR := Lib.hid hr
   have hm : ∀ w, (method 500 275 (.agg #[.int .i64 5, .int .i64 f, .int .i64 t, .int .i64 g, .int .i64 h, .int .i64 i, .int .i64 m, .int .i64 v, .slice A n c, .slice A' n' c']) "stet/step.ranges").run Tryz.prog w = .ok (269, .agg #[.int .i64 5, .int .i64 f, .int .i64 t, .int .i64 g, .int .i64 h, .int .i64 i, .int .i64 m, .int .i64 v, .slice A n c, .slice A' n' c']) w := fun _ => by kernel_rfl
   clear ho hr hsh k1 k2 k3 e
   go_enter Tryz.func60, Tryz.ntmps60
   go_wp2_with (first
    | (go_at_call 57; (refine (HS.out _ belowA).mono ?_); rintro e w1 ⟨rfl, hb1, hz1, hx1⟩; have kb := (Bk.new w 45 #[.int .i64 5, .int .i64 f, .int .i64 t, .int .i64 g, .int .i64 h, .int .i64 i, .int .i64 m, .int .i64 v, .slice A n c, .slice A' n' c']).ext hx1; have lb := def_lt' kb; have d0 := kb.cell 0; have d1 := kb.cell 1; have d2 := kb.cell 2; have d3 := kb.cell 3; have d4 := kb.cell 4; have d5 := kb.cell 5; have d6 := kb.cell 6; have d7 := kb.cell 7; have d8 := kb.cell 8; have d9 := kb.cell 9; dsimp at d0 d1 d2 d3 d4 d5 d6 d7 d8 d9)
    | (go_at_call 118; (refine (HO.out _ hb1).mono ?_); rintro e w2 ⟨rfl, hb2, hz2, hx2⟩)
    | (go_at_call 269; (refine (HR.out _).mono ?_); rintro e w3 ⟨A2, c2, rfl, h1, h2, h3⟩))
   go_ret
   exact ⟨_, _, rfl, h1, h2, hb2.trans (h3.mono hz2)⟩
theorem shB_spec {k f t g h i m v : Int} {n n' : Nat} (h0 : shB k f t g h i m v n n' = true) : (0 ≤ f ∧ f ≤ t ∧ t ≤ 1073741824) ∧ (k = 1 ∨ k = 2 ∨ k = 3 ∨ k = 4 ∨ k = 5) ∧ (k = 2 → f ≤ g ∧ g ≤ h ∧ h ≤ t ∧ 0 ≤ i ∧ i ≤ n ∧ n ≤ 20000) ∧ (k = 1 → n ≤ 20000) := by
 unfold shB at h0
 rw [Bool.and_eq_true] at h0
 obtain ⟨hbx, hs⟩ := h0
 refine ⟨by simpa [boxes] using hbx, ?_, ?_, ?_⟩
 ·by_cases k1 : k = 1
  ·exact .inl k1
  rw [if_neg k1] at hs
  by_cases k2 : k = 2
  ·exact .inr (.inl k2)
  rw [if_neg k2] at hs
  by_cases k3 : k = 3 ∨ k = 4
  ·omega
  rw [if_neg k3] at hs
  by_cases k5 : k = 5
  ·omega
  rw [if_neg k5] at hs
  cases hs
 ·intro k2
  rw [if_neg (by omega), if_pos k2] at hs
  have : f ≤ g ∧ g ≤ h ∧ h ≤ t ∧ 0 ≤ i ∧ i ≤ n ∧ n ≤ 20000 ∧ m = 0 ∧ v = 0 ∧ n' = 0 := by simpa [sh2] using hs
  omega
 ·intro k1
  rw [if_pos k1] at hs
  have : g = 0 ∧ h = 0 ∧ i = 0 ∧ m = 0 ∧ v = 0 ∧ n' = 0 ∧ n ≤ 20000 := by simpa [sh1] using hs
  omega
theorem shB_spec5 {k f t g h i m v : Int} {n n' : Nat} (h0 : shB k f t g h i m v n n' = true) (hk : k = 5) : (n' : Int) = t - f := by
 subst hk
 unfold shB at h0
 rw [Bool.and_eq_true] at h0
 obtain ⟨-, hs⟩ := h0
 rw [if_neg (by omega), if_neg (by omega), if_neg (by omega), if_pos rfl] at hs
 have : g = 0 ∧ h = 0 ∧ i = 0 ∧ m = 0 ∧ v = 0 ∧ n = 0 ∧ (n' : Int) = t - f ∧ n' ≤ 20000 := by simpa [sh5] using hs
 omega
end Go.Proofs.YtmacfoebfpljoaaGreat
namespace Go.Proofs.YtmacfoebfpljoaaGreat
open Go.RowKit
set_option linter.unusedVariables false
theorem info_tk : (Tryz.prog.info? 126).map (fun i => (i.zero, i.size, i.bytes)) = some (some (.agg #[.int .i64 0, .int .i64 0, .int .i64 0, .int .i32 0, .int .u16 0, .int .u16 0, .int .u16 0, .int .u16 0, .int .u16 0, .int .u16 0, .int .u16 0, .int .u16 0]), 12, 48) := by kernel_rfl
theorem toks_cat (a b : List Tok) : toks (a ++ b) = toks a ++ toks b := by simp [toks]
theorem toks_onec (l : List Tok) : ∀ u ∈ toks l, u.oneCell' = true := by
 intro u hu
 simp only [toks, List.mem_flatMap] at hu
 obtain ⟨t, -, hu⟩ := hu
 simp only [Tok.cells, Mk.cells, List.mem_cons, List.not_mem_nil, or_false] at hu
 rcases hu with rfl | rfl | rfl | rfl | rfl | rfl | rfl | rfl | rfl | rfl | rfl | rfl <;> simp [Value.oneCell']
/-- tokens are appended -/
theorem app_tok {ops : Array Oper} {rest : List Oper} {o : Oper} {a : Act} {Q : Exit → Act → World → Prop} (w : World) (base : Nat) (v : Value) (N : Nat) (q : List Tok) (hown : w.ownsRow base 126 12 v N (toks q)) (B : Nat) (A : Option Addr) (m c : Nat) (p : List Tok) (hr : Rd w B 12 A m (toks p)) (hA : A = none → m = 0) (hn : N + m ≤ 1000000) (hb : base ≤ w.heap.size)
 (hgd : o.guard = none) (s x : Operand) (ho : o.op = .call { callee := .builtin .append, args := #[s, x], argTypes := #[22, 22] }) (hs : a.eval s = v) (hx : a.eval x = .slice A m c)
 (h : ∀ (A' : Option Addr) (N' c' : Nat) w', w'.ownsRow base 126 12 (.slice A' N' c') N' (toks (q ++ p)) → N' ≤ N + m → N + m ≤ N' → Below base w w' → wpList Tryz.prog ops Q rest (a.put o.dst (.slice A' N' c')) w') : wpList Tryz.prog ops Q (o :: rest) a w := by
 refine app_rd Tryz.underlying22 info_tk rfl (by decide) w base v N (toks q) hown B A m c (toks p) hr hA (toks_onec p) (by unfold maxLen; omega) (by omega) hb hgd s x ho hs hx ?_
 intro v' w' h1 h2 h3
 obtain ⟨A', c', rfl, -, -, -, -⟩ := own_form h1
 rw [← toks_cat] at h1
 exact h A' (N + m) c' w' h1 (Nat.le_refl _) (Nat.le_refl _) (hbelow_gr h2 (own_ge hown) hb)
theorem rd_ttake {w : World} {B n k : Nat} {A : Option Addr} {l : List Tok} (h : Rd w B 12 A n (toks l)) (hk : k ≤ n) : Rd w B 12 A k (toks (l.take k)) := by
 have hl := h.tlen
 refine ⟨by rw [toks_len, List.length_take]; omega, fun hp => ?_⟩
 obtain ⟨b, o, e, hb, hc⟩ := h.2 (by omega)
 refine ⟨b, o, e, hb, fun j u hu => hc j u ?_⟩
 rw [← toks_take, List.getElem?_take] at hu
 split at hu
 ·exact hu
 ·cases hu
theorem rd_tdrop {w : World} {B n c k m : Nat} {b o : Nat} {l : List Tok} (h : Rd w B 12 (some ⟨b, o, none⟩) n (toks l)) (hk : k ≤ m) (hm : m ≤ n) (hc : n ≤ c) : Rd w B 12 (if c = k then (some ⟨b, o, none⟩ : Option Addr) else some ⟨b, o + k * 12, none⟩) (m - k) (toks ((l.take m).drop k)) := by
 have hl := h.tlen
 by_cases e : c = k
 ·have : m - k = 0 := by omega
  rw [this]
  have h0 : (l.take m).drop k = [] := List.drop_of_length_le (by rw [List.length_take]; omega)
  rw [h0]
  exact Rd.nil_ _ _ _ _
 ·rw [if_neg e]
  have := h.tcut hk hm
  rwa [show ((l.drop k).take (m - k)) = (l.take m).drop k by rw [List.drop_take]] at this
/-- the same, wherever the row lies -/
theorem rd_tdropA {w : World} {B n c k m : Nat} {ad : Addr} {l : List Tok} (h : Rd w B 12 (some ad) n (toks l)) (hk : k ≤ m) (hm : m ≤ n) (hc : n ≤ c) : Rd w B 12 (if c = k then some ad else some (ad.add (k * 12))) (m - k) (toks ((l.take m).drop k)) := by
 rcases Nat.eq_zero_or_pos n with h0 | h0
 ·have : m - k = 0 := by omega
  rw [this]
  have hl := h.tlen
  have h1 : (l.take m).drop k = [] := List.drop_of_length_le (by rw [List.length_take]; omega)
  rw [h1]
  exact Rd.nil_ _ _ _ _
 ·obtain ⟨b, o, e, -, -⟩ := h.2 h0
  injection e with e
  subst e
  have := rd_tdrop h hk hm hc
  rwa [add_flat]
/-- tokens, those from f to t with other marks -/
def markL (f t : Nat) (m : Nat → Mk) (l : List Tok) : List Tok := l.mapIdx fun p x => if f ≤ p ∧ p < t then { x with m := m p } else x
theorem markL_len (f t : Nat) (m : Nat → Mk) (l : List Tok) : (markL f t m l).length = l.length := by simp [markL]
theorem markL_get (f t : Nat) (m : Nat → Mk) (l : List Tok) (q : Nat) : (markL f t m l)[q]? = l[q]?.map fun x => if f ≤ q ∧ q < t then { x with m := m q } else x := by
 unfold markL
 rw [List.getElem?_mapIdx]
theorem markL_zero (f t : Nat) (m : Nat → Mk) (l : List Tok) : (markL f t m l).take f = l.take f := by
 apply List.ext_getElem?
 intro q
 rw [List.getElem?_take, List.getElem?_take]
 split
 ·rw [markL_get]
  cases l[q]? with
  | none => rfl
  | some x => rw [Option.map_some, if_neg (by omega)]
 ·rfl
theorem markL_next {f t q : Nat} {m : Nat → Mk} {l : List Tok} {x : Tok} (hq : l[q]? = some x) (h1 : f ≤ q) (h2 : q < t) (y : Mk) : (markL f t (fun p => if p = q then y else m p) l).take (q + 1) = (markL f t m l).take q ++ [{ x with m := y }] := by
 rw [List.take_add_one, markL_get, hq, Option.map_some, if_pos ⟨h1, h2⟩, Option.toList_some, if_pos rfl]
 congr 1
 apply List.ext_getElem?
 intro j
 rw [List.getElem?_take, List.getElem?_take]
 split
 ·rw [markL_get, markL_get]
  cases l[j]? with
  | none => rfl
  | some z => rw [Option.map_some, Option.map_some, if_neg (show ¬ j = q by omega)]
 ·rfl
theorem markL_end (f t : Nat) (m : Nat → Mk) (l : List Tok) : (markL f t m l).take t ++ l.drop t = markL f t m l := by
 have h : l.drop t = (markL f t m l).drop t := by
  apply List.ext_getElem?
  intro j
  rw [List.getElem?_drop, List.getElem?_drop, markL_get]
  cases l[t + j]? with
  | none => rfl
  | some z => rw [Option.map_some, if_neg (by omega)]
 rw [h, List.take_append_drop]
/-- a slice in a block made behind w -/
def New12 (w : World) (A : Option Addr) (n : Nat) : Prop := (A = none → n = 0) ∧ ∀ a, A = some a → w.heap.size ≤ a.block
/-- what a step makes -/
def DoesOut (k f t g h i : Nat) (sl l : List Tok) (w : World) (e : Ending) (w' : World) : Prop := ∃ (A : Option Addr) (n c : Nat) (ok : Bool), e = .returned (.tuple #[.slice A n c, .bool ok]) ∧ n ≤ c ∧ New12 w A n ∧ (ok = true → ∃ m : Nat → Mk, n = (doesL k f t g h i sl m l).length ∧ Rd w' w'.heap.size 12 A n (toks (doesL k f t g h i sl m l))) ∧ (ok = false → n = 0) ∧ Below w.heap.size w w'
section
variable (base : Nat) (nv mv : Value) (ns : List Nd) (ms : List Mr) (PA TA EA : Option Addr) (pn pc tn tc en ec : Nat) (w : World)
theorem does25_1 (f t : Nat) (m v g h i : Int) (ad : Addr) (XA YA : Option Addr) (n c xn yn xc yc : Nat) (l sl : List Tok) (hD : DeclIn w base nv mv ns ms) (hr : Rd w w.heap.size 12 (some ad) n (toks l)) (hnc : n ≤ c) (hn : n ≤ 60000) (hx : Rd w w.heap.size 12 XA xn (toks sl)) (hxA : XA = none → xn = 0) (hxn : xn ≤ 20000) (hft : f ≤ t) (htn : t ≤ n) : Calls Tryz.prog 55 #[.agg #[nv, mv, .slice PA pn pc, .slice TA tn tc, .slice EA en ec], .slice (some ad) n c, .agg #[.int .i64 1, .int .i64 (f : Int), .int .i64 (t : Int), .int .i64 g, .int .i64 h, .int .i64 i, .int .i64 m, .int .i64 v, .slice XA xn xc, .slice YA yn yc]] w (DoesOut 1 f t 0 0 0 sl l w) := by
 obtain ⟨NA, nc, rfl, -, -, -, -⟩ := own_form hD.n
 obtain ⟨MA, mc, rfl, -, -, -, -⟩ := own_form hD.m
 have hl := hr.tlen
 have hxl := hx.tlen
 have H := Lib.hid hr
 have HX := Lib.hid hx
 have HL := Lib.hid (And.intro hl hxl)
 have HXA := Lib.hid hxA
 have b0 : (0 : Int) ≤ f := by omega
 have b1 : (f : Int) ≤ t := by omega
 have b2 : (t : Int) ≤ n := by omega
 have b3 : (n : Int) ≤ c := by omega
 have b4 : (f : Int) ≤ c := by omega
 have b5 : (t : Int) ≤ c := by omega
 clear hr hx hD hl hxl hxA
 go_enter Tryz.func55, Tryz.ntmps55
 go_upto_region 2 with fail
 have hI0 : XI w ((w.alloc (.cells #[.slice NA ns.length nc, .slice MA ms.length mc, .slice PA pn pc, .slice TA tn tc, .slice EA en ec] 32)).alloc (.cells #[.int .i64 1, .int .i64 (f : Int), .int .i64 (t : Int), .int .i64 g, .int .i64 h, .int .i64 i, .int .i64 m, .int .i64 v, .slice XA xn xc, .slice YA yn yc] 45)) #[.slice NA ns.length nc, .slice MA ms.length mc, .slice PA pn pc, .slice TA tn tc, .slice EA en ec] #[.int .i64 1, .int .i64 (f : Int), .int .i64 (t : Int), .int .i64 g, .int .i64 h, .int .i64 i, .int .i64 m, .int .i64 v, .slice XA xn xc, .slice YA yn yc] := ⟨(Bk.new w _ _).alloc _, Bk.made _ _ (by simp), belowA⟩
 generalize (w.alloc (.cells #[.slice NA ns.length nc, .slice MA ms.length mc, .slice PA pn pc, .slice TA tn tc, .slice EA en ec] 32)).alloc (.cells #[.int .i64 1, .int .i64 (f : Int), .int .i64 (t : Int), .int .i64 g, .int .i64 h, .int .i64 i, .int .i64 m, .int .i64 v, .slice XA xn xc, .slice YA yn yc] 45) = w0 at *
 have hz0 := hI0.b.size
 have hr0 := Lib.hid (fun W (hb : Below w0.heap.size w0 W) => show Rd W W.heap.size 12 (some ad) f (toks (l.take f)) from rd_ttake (((H.out.below hI0.b).more hz0).below hb |>.more hb.size) (by omega))
 have hr1 := Lib.hid (fun W (hb : Below w0.heap.size w0 W) => show Rd W W.heap.size 12 XA xn (toks sl) from (((HX.out.below hI0.b).more hz0).below hb |>.more hb.size))
 have hr2 := Lib.hid (fun W (hb : Below w0.heap.size w0 W) => show Rd W W.heap.size 12 (if c = t then some ad else some (ad.add (t * 12))) (n - t) (toks (l.drop t)) from by
  have h1 := rd_tdropA (((H.out.below hI0.b).more hz0).below hb |>.more hb.size) htn (Nat.le_refl n) hnc
  rwa [List.take_of_length_le (by rw [HL.out.1]; exact Nat.le_refl _)] at h1)
 obtain ⟨x0, x1, x2, x3, x4, x5, x6, x7, x8, x9⟩ := bk10 hI0.m
 go_upto_region 3 with (at_builtin; ((refine app_tok w0 w0.heap.size _ 0 [] (World.ownsRow_nil _ _ _ _) _ _ f c (l.take f) (hr0.out w0 (Below.refl _ _)) (fun e => by cases e) (by omega) (Nat.le_refl _) rfl _ _ rfl rfl rfl ?_); intro A1 N1 c1 w1 hown1 hN1 hN1' hb1))
 have hI1 := Lib.hid (hI0.below hb1)
 simp only [List.nil_append] at hown1
 have HO1 := Lib.hid hown1
 clear x0 x1 x2 x3 x4 x5 x6 x7 x8 x9 hown1
 obtain ⟨x0, x1, x2, x3, x4, x5, x6, x7, x8, x9⟩ := bk10 hI1.out.m
 go_upto_region 5 with (at_builtin; ((refine app_tok w1 w0.heap.size _ N1 (l.take f) HO1.out _ XA xn xc sl (hr1.out w1 hb1) HXA.out (by omega) hb1.size rfl _ _ rfl rfl rfl ?_); intro A2 N2 c2 w2 hown2 hN2 hN2' hb2))
 have hb02 : Below w0.heap.size w0 w2 := hb1.trans hb2
 have hI2 := Lib.hid (hI0.below hb02)
 have HO2 := Lib.hid hown2
 clear x0 x1 x2 x3 x4 x5 x6 x7 x8 x9 hown2
 obtain ⟨x0, x1, x2, x3, x4, x5, x6, x7, x8, x9⟩ := bk10 hI2.out.m
 go_wp2
 go_loopw [8, 9] (fun u j wr => u = .slice A2 N2 c2 ∧ j = .int .i64 (f : Int) ∧ w2 = wr) (fun _ _ _ => 0)
 case atStart => exact ⟨rfl, rfl, rfl⟩
 case round =>
  obtain ⟨rfl, rfl, rfl⟩ := hrel
  have hend : ∀ (A3 : Option Addr) (N3 c3 : Nat) (w3 : World), w3.ownsRow w0.heap.size 126 12 (.slice A3 N3 c3) N3 (toks ((l.take f ++ sl) ++ l.drop t)) → Below w0.heap.size w2 w3 → DoesOut 1 f t 0 0 0 sl l w (.returned (.tuple #[.slice A3 N3 c3, .bool true])) w3 := fun A3 N3 c3 w3 h1 h2 => by
   obtain ⟨A', c', e', hle, -, hA, hrd⟩ := own_form h1
   injection e' with e1 e2 e3
   subst e1
   subst e3
   have hd : doesL 1 f t 0 0 0 sl (fun _ => default) l = (l.take f ++ sl) ++ l.drop t := by unfold doesL; rw [if_pos rfl]
   exact ⟨A3, N3, c3, true, rfl, hle, ⟨fun h => (hA h).1, fun a e => by subst e; exact Nat.le_trans hz0 (own_ge h1 a.block (by simp [Value.ownBlock]))⟩, (fun _ => ⟨fun _ => default, by rw [hd]; exact hrd.tlen.symm, by rw [hd]; exact hrd⟩), (fun h => by cases h), hI0.b.trans ((hb02.trans h2).mono hz0)⟩
  have HE := Lib.hid hend
  clear hend
  by_cases hlt : f < t
  all_goals
   go_wp2_with (at_builtin; ((refine app_tok w2 w0.heap.size _ N2 _ HO2.out _ _ (n - t) (c - t) (l.drop t) (hr2.out w2 hb02) (fun e => by split at e <;> cases e) (by omega) hb02.size rfl _ _ rfl rfl rfl ?_); intro A3 N3 c3 w3 hown3 hN3 hN3' hb3))
   all_goals
    go_ret2
    exact HE.out _ _ _ _ (by assumption) (by assumption)
end
section
variable (base : Nat) (nv mv : Value) (ns : List Nd) (ms : List Mr) (PA TA EA : Option Addr) (pn pc tn tc en ec : Nat) (w : World)
theorem does25_2a (f t g hq i : Nat) (m v : Int) (ad xd : Addr) (YA : Option Addr) (n c xn yn xc yc : Nat) (l sl : List Tok) (hD : DeclIn w base nv mv ns ms) (hr : Rd w w.heap.size 12 (some ad) n (toks l)) (hnc : n ≤ c) (hn : n ≤ 60000) (hx : Rd w w.heap.size 12 (some xd) xn (toks sl)) (hxc : xn ≤ xc) (hxn : xn ≤ 20000) (hfg : f ≤ g) (hgh : g ≤ hq) (hht : hq ≤ t) (htn : t ≤ n) (hi : i ≤ xn) : Calls Tryz.prog 55 #[.agg #[nv, mv, .slice PA pn pc, .slice TA tn tc, .slice EA en ec], .slice (some ad) n c, .agg #[.int .i64 2, .int .i64 (f : Int), .int .i64 (t : Int), .int .i64 (g : Int), .int .i64 (hq : Int), .int .i64 (i : Int), .int .i64 m, .int .i64 v, .slice (some xd) xn xc, .slice YA yn yc]] w (DoesOut 2 f t g hq i sl l w) := by
 obtain ⟨NA, nc, rfl, -, -, -, -⟩ := own_form hD.n
 obtain ⟨MA, mc, rfl, -, -, -, -⟩ := own_form hD.m
 have hl := hr.tlen
 have hxl := hx.tlen
 have H := Lib.hid hr
 have HX := Lib.hid hx
 have HL := Lib.hid (And.intro hl hxl)
 have b0 : (0 : Int) ≤ f := by omega
 have b1 : (f : Int) ≤ t := by omega
 have b2 : (t : Int) ≤ n := by omega
 have b3 : (n : Int) ≤ c := by omega
 have b4 : (f : Int) ≤ c := by omega
 have b5 : (t : Int) ≤ c := by omega
 have b6 : (0 : Int) ≤ g := by omega
 have b7 : (g : Int) ≤ hq := by omega
 have b8 : (hq : Int) ≤ c := by omega
 have b9 : (0 : Int) ≤ i := by omega
 have b10 : (i : Int) ≤ xn := by omega
 have b11 : (i : Int) ≤ xc := by omega
 have b12 : (xn : Int) ≤ xc := by omega
 clear hr hx hD hl hxl
 go_enter Tryz.func55, Tryz.ntmps55
 go_upto_region 2 with fail
 have hI0 : XI w ((w.alloc (.cells #[.slice NA ns.length nc, .slice MA ms.length mc, .slice PA pn pc, .slice TA tn tc, .slice EA en ec] 32)).alloc (.cells #[.int .i64 2, .int .i64 (f : Int), .int .i64 (t : Int), .int .i64 (g : Int), .int .i64 (hq : Int), .int .i64 (i : Int), .int .i64 m, .int .i64 v, .slice (some xd) xn xc, .slice YA yn yc] 45)) #[.slice NA ns.length nc, .slice MA ms.length mc, .slice PA pn pc, .slice TA tn tc, .slice EA en ec] #[.int .i64 2, .int .i64 (f : Int), .int .i64 (t : Int), .int .i64 (g : Int), .int .i64 (hq : Int), .int .i64 (i : Int), .int .i64 m, .int .i64 v, .slice (some xd) xn xc, .slice YA yn yc] := ⟨(Bk.new w _ _).alloc _, Bk.made _ _ (by simp), belowA⟩
 generalize (w.alloc (.cells #[.slice NA ns.length nc, .slice MA ms.length mc, .slice PA pn pc, .slice TA tn tc, .slice EA en ec] 32)).alloc (.cells #[.int .i64 2, .int .i64 (f : Int), .int .i64 (t : Int), .int .i64 (g : Int), .int .i64 (hq : Int), .int .i64 (i : Int), .int .i64 m, .int .i64 v, .slice (some xd) xn xc, .slice YA yn yc] 45) = w0 at *
 have hz0 := hI0.b.size
 have hr0 := Lib.hid (fun W (hb : Below w0.heap.size w0 W) => show Rd W W.heap.size 12 (some ad) f (toks (l.take f)) from rd_ttake (((H.out.below hI0.b).more hz0).below hb |>.more hb.size) (by omega))
 have hr1 := Lib.hid (fun W (hb : Below w0.heap.size w0 W) => show Rd W W.heap.size 12 (some xd) i (toks (sl.take i)) from rd_ttake (((HX.out.below hI0.b).more hz0).below hb |>.more hb.size) (by omega))
 have hr3 := Lib.hid (fun W (hb : Below w0.heap.size w0 W) => show Rd W W.heap.size 12 (if c = g then some ad else some (ad.add (g * 12))) (hq - g) (toks ((l.take hq).drop g)) from rd_tdropA (((H.out.below hI0.b).more hz0).below hb |>.more hb.size) hgh (by omega) hnc)
 have hr4 := Lib.hid (fun W (hb : Below w0.heap.size w0 W) => show Rd W W.heap.size 12 (if xc = i then some xd else some (xd.add (i * 12))) (xn - i) (toks (sl.drop i)) from by
  have h1 := rd_tdropA (((HX.out.below hI0.b).more hz0).below hb |>.more hb.size) hi (Nat.le_refl xn) hxc
  rwa [List.take_of_length_le (by rw [HL.out.2]; exact Nat.le_refl _)] at h1)
 have hr2 := Lib.hid (fun W (hb : Below w0.heap.size w0 W) => show Rd W W.heap.size 12 (if c = t then some ad else some (ad.add (t * 12))) (n - t) (toks (l.drop t)) from by
  have h1 := rd_tdropA (((H.out.below hI0.b).more hz0).below hb |>.more hb.size) htn (Nat.le_refl n) hnc
  rwa [List.take_of_length_le (by rw [HL.out.1]; exact Nat.le_refl _)] at h1)
 obtain ⟨x0, x1, x2, x3, x4, x5, x6, x7, x8, x9⟩ := bk10 hI0.m
 go_upto_region 3 with (at_builtin; ((refine app_tok w0 w0.heap.size _ 0 [] (World.ownsRow_nil _ _ _ _) _ _ f c (l.take f) (hr0.out w0 (Below.refl _ _)) (fun e => by cases e) (by omega) (Nat.le_refl _) rfl _ _ rfl rfl rfl ?_); intro A1 N1 c1 w1 hown1 hN1 hN1' hb1))
 have hI1 := Lib.hid (hI0.below hb1)
 simp only [List.nil_append] at hown1
 have HO1 := Lib.hid hown1
 clear x0 x1 x2 x3 x4 x5 x6 x7 x8 x9 hown1
 obtain ⟨x0, x1, x2, x3, x4, x5, x6, x7, x8, x9⟩ := bk10 hI1.out.m
 go_upto_region 7 with (at_builtin; ((refine app_tok w1 w0.heap.size _ N1 (l.take f) HO1.out _ _ i _ (sl.take i) (hr1.out w1 hb1) (fun e => by cases e) (by omega) hb1.size rfl _ _ rfl rfl rfl ?_); intro A5 N5 c5 w5 hown5 hN5 hN5' hb5))
 have hb05 : Below w0.heap.size w0 w5 := hb1.trans hb5
 have hI5 := Lib.hid (hI0.below hb05)
 have HO5 := Lib.hid hown5
 clear x0 x1 x2 x3 x4 x5 x6 x7 x8 x9 hown5
 obtain ⟨x0, x1, x2, x3, x4, x5, x6, x7, x8, x9⟩ := bk10 hI5.out.m
 go_upto_region 8 with (at_builtin; ((refine app_tok w5 w0.heap.size _ N5 _ HO5.out _ _ (hq - g) _ ((l.take hq).drop g) (hr3.out w5 hb05) (fun e => by split at e <;> cases e) (by omega) hb05.size rfl _ _ rfl rfl rfl ?_); intro A6 N6 c6 w6 hown6 hN6 hN6' hb6))
 generalize (if c = g then some ad else some (ad.add (g * 12))) = GA at *
 have hb06 : Below w0.heap.size w0 w6 := hb05.trans hb6
 have hI6 := Lib.hid (hI0.below hb06)
 have HO6 := Lib.hid hown6
 clear x0 x1 x2 x3 x4 x5 x6 x7 x8 x9 hown6
 obtain ⟨x0, x1, x2, x3, x4, x5, x6, x7, x8, x9⟩ := bk10 hI6.out.m
 go_upto_region 9 with (at_builtin; ((refine app_tok w6 w0.heap.size _ N6 _ HO6.out _ _ (xn - i) _ (sl.drop i) (hr4.out w6 hb06) (fun e => by split at e <;> cases e) (by omega) hb06.size rfl _ _ rfl rfl rfl ?_); intro A7 N7 c7 w7 hown7 hN7 hN7' hb7))
 have hb07 : Below w0.heap.size w0 w7 := hb06.trans hb7
 have hI7 := Lib.hid (hI0.below hb07)
 have HO7 := Lib.hid hown7
 clear x0 x1 x2 x3 x4 x5 x6 x7 x8 x9 hown7
 obtain ⟨x0, x1, x2, x3, x4, x5, x6, x7, x8, x9⟩ := bk10 hI7.out.m
 generalize (if xc = i then some xd else some (xd.add (i * 12))) = XD at *
 go_wp2
 go_loopw [8, 9] (fun u j wr => u = .slice A7 N7 c7 ∧ j = .int .i64 (f : Int) ∧ w7 = wr) (fun _ _ _ => 0)
 case atStart => exact ⟨rfl, rfl, rfl⟩
 case round =>
  obtain ⟨rfl, rfl, rfl⟩ := hrel
  have hend : ∀ (A3 : Option Addr) (N3 c3 : Nat) (w3 : World), w3.ownsRow w0.heap.size 126 12 (.slice A3 N3 c3) N3 (toks ((l.take f ++ sl.take i ++ (l.take hq).drop g ++ sl.drop i) ++ l.drop t)) → Below w0.heap.size w7 w3 → DoesOut 2 f t g hq i sl l w (.returned (.tuple #[.slice A3 N3 c3, .bool true])) w3 := fun A3 N3 c3 w3 h1 h2 => by
   obtain ⟨A', c', e', hle, -, hA, hrd⟩ := own_form h1
   injection e' with e1 e2 e3
   subst e1
   subst e3
   have hd : doesL 2 f t g hq i sl (fun _ => default) l = (l.take f ++ sl.take i ++ (l.take hq).drop g ++ sl.drop i) ++ l.drop t := by unfold doesL; rw [if_neg (by omega), if_pos rfl]
   exact ⟨A3, N3, c3, true, rfl, hle, ⟨fun hq => (hA hq).1, fun a e => by subst e; exact Nat.le_trans hz0 (own_ge h1 a.block (by simp [Value.ownBlock]))⟩, (fun _ => ⟨fun _ => default, by rw [hd]; exact hrd.tlen.symm, by rw [hd]; exact hrd⟩), (fun hq => by cases hq), hI0.b.trans ((hb07.trans h2).mono hz0)⟩
  have HE := Lib.hid hend
  clear hend
  by_cases hlt : f < t
  all_goals
   go_wp2_with (at_builtin; ((refine app_tok w7 w0.heap.size _ N7 _ HO7.out _ _ (n - t) (c - t) (l.drop t) (hr2.out w7 hb07) (fun e => by split at e <;> cases e) (by omega) hb07.size rfl _ _ rfl rfl rfl ?_); intro A3 N3 c3 w3 hown3 hN3 hN3' hb3))
   all_goals
    go_ret2
    exact HE.out _ _ _ _ (by assumption) (by assumption)
theorem does25_2b (f t g hq i : Nat) (m v : Int) (ad : Addr) (YA : Option Addr) (n c xn yn xc yc : Nat) (l sl : List Tok) (hD : DeclIn w base nv mv ns ms) (hr : Rd w w.heap.size 12 (some ad) n (toks l)) (hnc : n ≤ c) (hn : n ≤ 60000) (hx : Rd w w.heap.size 12 none xn (toks sl)) (hxc : xn ≤ xc) (hx0 : xn = 0) (hxn : xn ≤ 20000) (hfg : f ≤ g) (hgh : g ≤ hq) (hht : hq ≤ t) (htn : t ≤ n) (hi : i ≤ xn) : Calls Tryz.prog 55 #[.agg #[nv, mv, .slice PA pn pc, .slice TA tn tc, .slice EA en ec], .slice (some ad) n c, .agg #[.int .i64 2, .int .i64 (f : Int), .int .i64 (t : Int), .int .i64 (g : Int), .int .i64 (hq : Int), .int .i64 (i : Int), .int .i64 m, .int .i64 v, .slice none xn xc, .slice YA yn yc]] w (DoesOut 2 f t g hq i sl l w) := by
 obtain rfl : xn = 0 := hx0
 obtain rfl : i = 0 := by omega
 obtain ⟨NA, nc, rfl, -, -, -, -⟩ := own_form hD.n
 obtain ⟨MA, mc, rfl, -, -, -, -⟩ := own_form hD.m
 have hl := hr.tlen
 have hxl := hx.tlen
 have H := Lib.hid hr
 have HX := Lib.hid hx
 have HL := Lib.hid (And.intro hl hxl)
 have b0 : (0 : Int) ≤ f := by omega
 have b1 : (f : Int) ≤ t := by omega
 have b2 : (t : Int) ≤ n := by omega
 have b3 : (n : Int) ≤ c := by omega
 have b4 : (f : Int) ≤ c := by omega
 have b5 : (t : Int) ≤ c := by omega
 have b6 : (0 : Int) ≤ g := by omega
 have b7 : (g : Int) ≤ hq := by omega
 have b8 : (hq : Int) ≤ c := by omega
 have b9 : (0 : Int) ≤ 0 := by omega
 have b10 : (0 : Int) ≤ 0 := by omega
 have b11 : (0 : Int) ≤ xc := by omega
 have b12 : (0 : Int) ≤ xc := by omega
 clear hr hx hD hl hxl
 go_enter Tryz.func55, Tryz.ntmps55
 go_upto_region 2 with fail
 have hI0 : XI w ((w.alloc (.cells #[.slice NA ns.length nc, .slice MA ms.length mc, .slice PA pn pc, .slice TA tn tc, .slice EA en ec] 32)).alloc (.cells #[.int .i64 2, .int .i64 (f : Int), .int .i64 (t : Int), .int .i64 (g : Int), .int .i64 (hq : Int), .int .i64 (0 : Int), .int .i64 m, .int .i64 v, .slice none 0 xc, .slice YA yn yc] 45)) #[.slice NA ns.length nc, .slice MA ms.length mc, .slice PA pn pc, .slice TA tn tc, .slice EA en ec] #[.int .i64 2, .int .i64 (f : Int), .int .i64 (t : Int), .int .i64 (g : Int), .int .i64 (hq : Int), .int .i64 (0 : Int), .int .i64 m, .int .i64 v, .slice none 0 xc, .slice YA yn yc] := ⟨(Bk.new w _ _).alloc _, Bk.made _ _ (by simp), belowA⟩
 generalize (w.alloc (.cells #[.slice NA ns.length nc, .slice MA ms.length mc, .slice PA pn pc, .slice TA tn tc, .slice EA en ec] 32)).alloc (.cells #[.int .i64 2, .int .i64 (f : Int), .int .i64 (t : Int), .int .i64 (g : Int), .int .i64 (hq : Int), .int .i64 (0 : Int), .int .i64 m, .int .i64 v, .slice none 0 xc, .slice YA yn yc] 45) = w0 at *
 have hz0 := hI0.b.size
 have hr0 := Lib.hid (fun W (hb : Below w0.heap.size w0 W) => show Rd W W.heap.size 12 (some ad) f (toks (l.take f)) from rd_ttake (((H.out.below hI0.b).more hz0).below hb |>.more hb.size) (by omega))
 have hr1 := Lib.hid (fun W (hb : Below w0.heap.size w0 W) => show Rd W W.heap.size 12 none 0 (toks (sl.take 0)) from rd_ttake (((HX.out.below hI0.b).more hz0).below hb |>.more hb.size) (by omega))
 have hr3 := Lib.hid (fun W (hb : Below w0.heap.size w0 W) => show Rd W W.heap.size 12 (if c = g then some ad else some (ad.add (g * 12))) (hq - g) (toks ((l.take hq).drop g)) from rd_tdropA (((H.out.below hI0.b).more hz0).below hb |>.more hb.size) hgh (by omega) hnc)
 have hr4 := Lib.hid (fun W (hb : Below w0.heap.size w0 W) => show Rd W W.heap.size 12 none (0 - 0) (toks (sl.drop 0)) from by
  have h1 := (((HX.out.below hI0.b).more hz0).below hb |>.more hb.size)
  rwa [List.drop_zero])
 have hr2 := Lib.hid (fun W (hb : Below w0.heap.size w0 W) => show Rd W W.heap.size 12 (if c = t then some ad else some (ad.add (t * 12))) (n - t) (toks (l.drop t)) from by
  have h1 := rd_tdropA (((H.out.below hI0.b).more hz0).below hb |>.more hb.size) htn (Nat.le_refl n) hnc
  rwa [List.take_of_length_le (by rw [HL.out.1]; exact Nat.le_refl _)] at h1)
 obtain ⟨x0, x1, x2, x3, x4, x5, x6, x7, x8, x9⟩ := bk10 hI0.m
 go_upto_region 3 with (at_builtin; ((refine app_tok w0 w0.heap.size _ 0 [] (World.ownsRow_nil _ _ _ _) _ _ f c (l.take f) (hr0.out w0 (Below.refl _ _)) (fun e => by cases e) (by omega) (Nat.le_refl _) rfl _ _ rfl rfl rfl ?_); intro A1 N1 c1 w1 hown1 hN1 hN1' hb1))
 have hI1 := Lib.hid (hI0.below hb1)
 simp only [List.nil_append] at hown1
 have HO1 := Lib.hid hown1
 clear x0 x1 x2 x3 x4 x5 x6 x7 x8 x9 hown1
 obtain ⟨x0, x1, x2, x3, x4, x5, x6, x7, x8, x9⟩ := bk10 hI1.out.m
 go_upto_region 7 with (at_builtin; ((refine app_tok w1 w0.heap.size _ N1 (l.take f) HO1.out _ _ 0 _ (sl.take 0) (hr1.out w1 hb1) (fun e => rfl) (by omega) hb1.size rfl _ _ rfl rfl rfl ?_); intro A5 N5 c5 w5 hown5 hN5 hN5' hb5))
 have hb05 : Below w0.heap.size w0 w5 := hb1.trans hb5
 have hI5 := Lib.hid (hI0.below hb05)
 have HO5 := Lib.hid hown5
 clear x0 x1 x2 x3 x4 x5 x6 x7 x8 x9 hown5
 obtain ⟨x0, x1, x2, x3, x4, x5, x6, x7, x8, x9⟩ := bk10 hI5.out.m
 go_upto_region 8 with (at_builtin; ((refine app_tok w5 w0.heap.size _ N5 _ HO5.out _ _ (hq - g) _ ((l.take hq).drop g) (hr3.out w5 hb05) (fun e => by split at e <;> cases e) (by omega) hb05.size rfl _ _ rfl rfl rfl ?_); intro A6 N6 c6 w6 hown6 hN6 hN6' hb6))
 generalize (if c = g then some ad else some (ad.add (g * 12))) = GA at *
 have hb06 : Below w0.heap.size w0 w6 := hb05.trans hb6
 have hI6 := Lib.hid (hI0.below hb06)
 have HO6 := Lib.hid hown6
 clear x0 x1 x2 x3 x4 x5 x6 x7 x8 x9 hown6
 obtain ⟨x0, x1, x2, x3, x4, x5, x6, x7, x8, x9⟩ := bk10 hI6.out.m
 go_upto_region 9 with (at_builtin; ((refine app_tok w6 w0.heap.size _ N6 _ HO6.out _ _ (0 - 0) _ (sl.drop 0) (hr4.out w6 hb06) (fun e => rfl) (by omega) hb06.size rfl _ _ rfl rfl rfl ?_); intro A7 N7 c7 w7 hown7 hN7 hN7' hb7))
 have hb07 : Below w0.heap.size w0 w7 := hb06.trans hb7
 have hI7 := Lib.hid (hI0.below hb07)
 have HO7 := Lib.hid hown7
 clear x0 x1 x2 x3 x4 x5 x6 x7 x8 x9 hown7
 obtain ⟨x0, x1, x2, x3, x4, x5, x6, x7, x8, x9⟩ := bk10 hI7.out.m
 skip
 go_wp2
 go_loopw [8, 9] (fun u j wr => u = .slice A7 N7 c7 ∧ j = .int .i64 (f : Int) ∧ w7 = wr) (fun _ _ _ => 0)
 case atStart => exact ⟨rfl, rfl, rfl⟩
 case round =>
  obtain ⟨rfl, rfl, rfl⟩ := hrel
  have hend : ∀ (A3 : Option Addr) (N3 c3 : Nat) (w3 : World), w3.ownsRow w0.heap.size 126 12 (.slice A3 N3 c3) N3 (toks ((l.take f ++ sl.take 0 ++ (l.take hq).drop g ++ sl.drop 0) ++ l.drop t)) → Below w0.heap.size w7 w3 → DoesOut 2 f t g hq 0 sl l w (.returned (.tuple #[.slice A3 N3 c3, .bool true])) w3 := fun A3 N3 c3 w3 h1 h2 => by
   obtain ⟨A', c', e', hle, -, hA, hrd⟩ := own_form h1
   injection e' with e1 e2 e3
   subst e1
   subst e3
   have hd : doesL 2 f t g hq 0 sl (fun _ => default) l = (l.take f ++ sl.take 0 ++ (l.take hq).drop g ++ sl.drop 0) ++ l.drop t := by unfold doesL; rw [if_neg (by omega), if_pos rfl]
   exact ⟨A3, N3, c3, true, rfl, hle, ⟨fun hq => (hA hq).1, fun a e => by subst e; exact Nat.le_trans hz0 (own_ge h1 a.block (by simp [Value.ownBlock]))⟩, (fun _ => ⟨fun _ => default, by rw [hd]; exact hrd.tlen.symm, by rw [hd]; exact hrd⟩), (fun hq => by cases hq), hI0.b.trans ((hb07.trans h2).mono hz0)⟩
  have HE := Lib.hid hend
  clear hend
  by_cases hlt : f < t
  all_goals
   go_wp2_with (at_builtin; ((refine app_tok w7 w0.heap.size _ N7 _ HO7.out _ _ (n - t) (c - t) (l.drop t) (hr2.out w7 hb07) (fun e => by split at e <;> cases e) (by omega) hb07.size rfl _ _ rfl rfl rfl ?_); intro A3 N3 c3 w3 hown3 hN3 hN3' hb3))
   all_goals
    go_ret2
    exact HE.out _ _ _ _ (by assumption) (by assumption)
end
/-- a token's marks are set -/
def setM (w : World) (b : Nat) (x0 x1 x2 x3 x4 x5 x6 x7 : Value) : World := (((((((w.setCell ⟨b, 4, none⟩ x0).setCell ⟨b, 5, none⟩ x1).setCell ⟨b, 6, none⟩ x2).setCell ⟨b, 7, none⟩ x3).setCell ⟨b, 8, none⟩ x4).setCell ⟨b, 9, none⟩ x5).setCell ⟨b, 10, none⟩ x6).setCell ⟨b, 11, none⟩ x7
theorem setM_bk {w : World} {b : Nat} {t : TypeId} {a0 a1 a2 a3 y0 y1 y2 y3 y4 y5 y6 y7 : Value} (k : Bk w b t #[a0, a1, a2, a3, y0, y1, y2, y3, y4, y5, y6, y7]) (x0 x1 x2 x3 x4 x5 x6 x7 : Value) : Bk (setM w b x0 x1 x2 x3 x4 x5 x6 x7) b t #[a0, a1, a2, a3, x0, x1, x2, x3, x4, x5, x6, x7] := by
 have q0 : Bk _ b t #[a0, a1, a2, a3, x0, y1, y2, y3, y4, y5, y6, y7] := k.set_ 4 x0
 have q1 : Bk _ b t #[a0, a1, a2, a3, x0, x1, y2, y3, y4, y5, y6, y7] := q0.set_ 5 x1
 have q2 : Bk _ b t #[a0, a1, a2, a3, x0, x1, x2, y3, y4, y5, y6, y7] := q1.set_ 6 x2
 have q3 : Bk _ b t #[a0, a1, a2, a3, x0, x1, x2, x3, y4, y5, y6, y7] := q2.set_ 7 x3
 have q4 : Bk _ b t #[a0, a1, a2, a3, x0, x1, x2, x3, x4, y5, y6, y7] := q3.set_ 8 x4
 have q5 : Bk _ b t #[a0, a1, a2, a3, x0, x1, x2, x3, x4, x5, y6, y7] := q4.set_ 9 x5
 have q6 : Bk _ b t #[a0, a1, a2, a3, x0, x1, x2, x3, x4, x5, x6, y7] := q5.set_ 10 x6
 have q7 : Bk _ b t #[a0, a1, a2, a3, x0, x1, x2, x3, x4, x5, x6, x7] := q6.set_ 11 x7
 exact q7
theorem setM_below {w0 wr : World} {B b : Nat} (h : Below B w0 wr) (hb : B ≤ b) (x0 x1 x2 x3 x4 x5 x6 x7 : Value) : Below B w0 (setM wr b x0 x1 x2 x3 x4 x5 x6 x7) :=
 (((((((h.setCell hb _).setCell hb _).setCell hb _).setCell hb _).setCell hb _).setCell hb _).setCell hb _).setCell hb _
theorem setM_own {w : World} {b base size n : Nat} {e : TypeId} {v : Value} {xs : List Value} (h : w.ownsRow base e size v n xs) (hb : v.ownBlock ≠ some b) (x0 x1 x2 x3 x4 x5 x6 x7 : Value) : (setM w b x0 x1 x2 x3 x4 x5 x6 x7).ownsRow base e size v n xs :=
 ownsRow_setCell_other (ownsRow_setCell_other (ownsRow_setCell_other (ownsRow_setCell_other (ownsRow_setCell_other (ownsRow_setCell_other (ownsRow_setCell_other (ownsRow_setCell_other h hb _) hb _) hb _) hb _) hb _) hb _) hb _) hb _
/-- in a round: the token's copy, what is made so far -/
structure DI (w0 wx : World) (tb : Nat) (k0 t0 a0 r0 : Int) (ov : Value) (N : Nat) (q : List Tok) (y0 y1 y2 y3 y4 y5 y6 y7 : Int) : Prop where
 t : Bk wx tb 126 (tokA k0 t0 a0 r0 y0 y1 y2 y3 y4 y5 y6 y7)
 o : wx.ownsRow w0.heap.size 126 12 ov N (toks q)
 b : Below w0.heap.size w0 wx
 h : w0.heap.size ≤ tb
 ne : ov.ownBlock ≠ some tb
theorem DI.below {w0 wx w' : World} {tb N : Nat} {k0 t0 a0 r0 y0 y1 y2 y3 y4 y5 y6 y7 : Int} {ov : Value} {q : List Tok} (h : DI w0 wx tb k0 t0 a0 r0 ov N q y0 y1 y2 y3 y4 y5 y6 y7) (hb : Below wx.heap.size wx w') : DI w0 w' tb k0 t0 a0 r0 ov N q y0 y1 y2 y3 y4 y5 y6 y7 :=
 ⟨h.t.ext hb, own_below h.o hb, h.b.trans (hb.mono h.b.size), h.h, h.ne⟩
theorem DI.set {w0 wx : World} {tb N : Nat} {k0 t0 a0 r0 y0 y1 y2 y3 y4 y5 y6 y7 : Int} {ov : Value} {q : List Tok} (h : DI w0 wx tb k0 t0 a0 r0 ov N q y0 y1 y2 y3 y4 y5 y6 y7) (x0 x1 x2 x3 x4 x5 x6 x7 : Int) : DI w0 (setM wx tb (.int .u16 x0) (.int .u16 x1) (.int .u16 x2) (.int .u16 x3) (.int .u16 x4) (.int .u16 x5) (.int .u16 x6) (.int .u16 x7)) tb k0 t0 a0 r0 ov N q x0 x1 x2 x3 x4 x5 x6 x7 :=
 ⟨setM_bk h.t _ _ _ _ _ _ _ _, setM_own h.o h.ne _ _ _ _ _ _ _ _, setM_below h.b h.h _ _ _ _ _ _ _ _, h.h, h.ne⟩
section
variable (base : Nat) (nv mv : Value) (ns : List Nd) (ms : List Mr) (PA TA EA : Option Addr) (pn pc tn tc en ec : Nat) (w : World)
theorem does25_3 (k : Int) (hk : k = 3 ∨ k = 4 ∨ k = 5) (f t : Nat) (m v g h i : Int) (ad : Addr) (XA YA : Option Addr) (n c xn yn xc yc : Nat) (l sl : List Tok) (st : List Mk) (hD : DeclIn w base nv mv ns ms) (hr : Rd w w.heap.size 12 (some ad) n (toks l)) (hnc : n ≤ c) (hn : n ≤ 60000) (hy : Rd w w.heap.size 8 YA yn (mks st)) (hyn : k = 5 → yn = t - f) (hft : f ≤ t) (htn : t ≤ n) : Calls Tryz.prog 55 #[.agg #[nv, mv, .slice PA pn pc, .slice TA tn tc, .slice EA en ec], .slice (some ad) n c, .agg #[.int .i64 k, .int .i64 (f : Int), .int .i64 (t : Int), .int .i64 g, .int .i64 h, .int .i64 i, .int .i64 m, .int .i64 v, .slice XA xn xc, .slice YA yn yc]] w (DoesOut k.toNat f t 0 0 0 sl l w) := by
 obtain ⟨NA, nc, rfl, -, -, -, -⟩ := own_form hD.n
 obtain ⟨MA, mc, rfl, -, -, -, -⟩ := own_form hD.m
 have hl := hr.tlen
 have hil := fun k t a r m0 m1 m2 m3 m4 m5 m6 m7 W (hb : Below w.heap.size w W) => inline13_any base _ _ ns ms PA TA EA pn pc tn tc en ec W k t a r m0 m1 m2 m3 m4 m5 m6 m7 (hD.below hb)
 have hpa := fun (a : Nat) (ha : a ≤ n) W (hb : Below w.heap.size w W) => parent25_any (some ad) n c a l W ((hr.below hb).more hb.size) (by omega) ha
 have hal := fun tp W (hb : Below w.heap.size w W) => allows_any base _ _ ns ms PA TA EA pn pc tn tc en ec W tp m (hD.below hb)
 have had := fun a0 a1 a2 a3 a4 a5 a6 a7 W (hb : Below w.heap.size w W) => add12_any base _ _ ns ms PA TA EA pn pc tn tc en ec W a0 a1 a2 a3 a4 a5 a6 a7 m v (hD.below hb)
 have HIL := Lib.hid hil
 have HPA := Lib.hid hpa
 have HAL := Lib.hid hal
 have HAD := Lib.hid had
 have H := Lib.hid hr
 have HY := Lib.hid hy
 have HL := Lib.hid hl
 have HYN := Lib.hid hyn
 have b0 : (0 : Int) ≤ f := by omega
 have b1 : (f : Int) ≤ t := by omega
 have b2 : (t : Int) ≤ n := by omega
 have b3 : (n : Int) ≤ c := by omega
 have b4 : (f : Int) ≤ c := by omega
 have b5 : (t : Int) ≤ c := by omega
 have e1 : (k == 1) = false := beq_false_of_ne (by omega)
 have e2 : (k == 2) = false := beq_false_of_ne (by omega)
 have e3 : 2 < k := by omega
 have HK := Lib.hid hk
 clear hil hpa hal had hr hy hyn hD hl hk
 go_enter Tryz.func55, Tryz.ntmps55
 go_upto_region 2 with fail
 have hI0 : XI w ((w.alloc (.cells #[.slice NA ns.length nc, .slice MA ms.length mc, .slice PA pn pc, .slice TA tn tc, .slice EA en ec] 32)).alloc (.cells #[.int .i64 k, .int .i64 (f : Int), .int .i64 (t : Int), .int .i64 g, .int .i64 h, .int .i64 i, .int .i64 m, .int .i64 v, .slice XA xn xc, .slice YA yn yc] 45)) #[.slice NA ns.length nc, .slice MA ms.length mc, .slice PA pn pc, .slice TA tn tc, .slice EA en ec] #[.int .i64 k, .int .i64 (f : Int), .int .i64 (t : Int), .int .i64 g, .int .i64 h, .int .i64 i, .int .i64 m, .int .i64 v, .slice XA xn xc, .slice YA yn yc] := ⟨(Bk.new w _ _).alloc _, Bk.made _ _ (by simp), belowA⟩
 generalize (w.alloc (.cells #[.slice NA ns.length nc, .slice MA ms.length mc, .slice PA pn pc, .slice TA tn tc, .slice EA en ec] 32)).alloc (.cells #[.int .i64 k, .int .i64 (f : Int), .int .i64 (t : Int), .int .i64 g, .int .i64 h, .int .i64 i, .int .i64 m, .int .i64 v, .slice XA xn xc, .slice YA yn yc] 45) = w0 at *
 have hz0 := hI0.b.size
 have HI0 := Lib.hid hI0
 have hr0 := Lib.hid (fun W (hb : Below w0.heap.size w0 W) => show Rd W W.heap.size 12 (some ad) f (toks (l.take f)) from rd_ttake (((H.out.below hI0.b).more hz0).below hb |>.more hb.size) (by omega))
 have hr2 := Lib.hid (fun W (hb : Below w0.heap.size w0 W) => show Rd W W.heap.size 12 (if c = t then some ad else some (ad.add (t * 12))) (n - t) (toks (l.drop t)) from by
  have h1 := rd_tdropA (((H.out.below hI0.b).more hz0).below hb |>.more hb.size) htn (Nat.le_refl n) hnc
  rwa [List.take_of_length_le (by rw [HL.out]; exact Nat.le_refl _)] at h1)
 obtain ⟨x0, x1, x2, x3, x4, x5, x6, x7, x8, x9⟩ := bk10 hI0.m
 clear hI0
 go_upto_region 3 with (at_builtin; ((refine app_tok w0 w0.heap.size _ 0 [] (World.ownsRow_nil _ _ _ _) _ _ f c (l.take f) (hr0.out w0 (Below.refl _ _)) (fun e => by cases e) (by omega) (Nat.le_refl _) rfl _ _ rfl rfl rfl ?_); intro A1 N1 c1 w1 hown1 hN1 hN1' hb1))
 simp only [List.nil_append] at hown1
 rw [← markL_zero f t (fun _ => default) l] at hown1
 have hI1 := HI0.out.below hb1
 have HO1 := Lib.hid hown1
 clear x0 x1 x2 x3 x4 x5 x6 x7 x8 x9 hown1
 obtain ⟨x0, x1, x2, x3, x4, x5, x6, x7, x8, x9⟩ := bk10 hI1.m
 clear hI1
 go_wp2
 clear x0 x1 x2 x3 x4 x5 x6 x7 x8 x9
 go_loopw [8, 9] (fun u j wr => ∃ (q N : Nat) (A : Option Addr) (c' : Nat) (ms : Nat → Mk), f ≤ q ∧ q ≤ t ∧ N = q ∧ j = .int .i64 (q : Int) ∧ u = .slice A N c' ∧ Hid (wr.ownsRow w0.heap.size 126 12 (.slice A N c') N (toks ((markL f t ms l).take q))) ∧ Below w0.heap.size w0 wr) (fun _ j _ => t - (intOf j).toNat)
 case atStart => exact ⟨f, N1, A1, c1, _, by omega, by omega, by omega, rfl, rfl, HO1, hb1⟩
 case round =>
  clear HO1 hb1 hN1 hN1'
  obtain ⟨q, N, A, c', mk, hq1, hq2, hNq, rfl, rfl, hown, hbr⟩ := hrel
  have HNQ := Lib.hid hNq
  have hN60 : N ≤ 60000 := by omega
  have hzr := hbr.size
  have hIr := HI0.out.below hbr
  obtain ⟨x0, x1, x2, x3, x4, x5, x6, x7, x8, x9⟩ := bk10 hIr.m
  clear hNq
  by_cases hlt : q < t
  ·have d0 : (q : Int) < t := by omega
   have d1 : (q : Int) < n := by omega
   have d2 : (0 : Int) ≤ q := by omega
   have hqn : q < n := by omega
   obtain ⟨b, o, tk, htk, hA, htb, htc⟩ := tok_at ((H.out.below hIr.b).more hIr.b.size) hqn
   obtain rfl : ad = ⟨b, o, none⟩ := by simpa using hA
   obtain ⟨k0, t0, a0, r0, m0, m1, m2, m3, m4, m5, m6, m7⟩ := tk
   obtain ⟨q0, q1, q2, q3, q4, q5, q6, q7, q8, q9, q10, q11⟩ := tok12 htc
   have HTK := Lib.hid htk
   clear htc hA htk
   go_upto_region 13 with fail
   have hD0 : DI w0 (wr.alloc (.cells (tokA k0 t0 a0 r0 m0 m1 m2 m3 m4 m5 m6 m7) 126)) wr.heap.size k0 t0 a0 r0 (.slice A N c') N ((markL f t mk l).take q) m0 m1 m2 m3 m4 m5 m6 m7 :=
    ⟨Bk.new wr _ _, own_below hown.out ((Below.refl _ _).alloc (Nat.le_refl _) _), hbr.alloc hzr _, hzr, fun e => absurd (own_lt hown.out _ e) (Nat.lt_irrefl _)⟩
   obtain ⟨tb, htb2⟩ : ∃ tb, tb = wr.heap.size := ⟨_, rfl⟩
   rw [← htb2] at hD0 ⊢
   generalize wr.alloc (.cells (tokA k0 t0 a0 r0 m0 m1 m2 m3 m4 m5 m6 m7) 126) = w2 at *
   clear q0 q1 q2 q3 q4 q5 q6 q7 q8 q9 q10 q11 x0 x1 x2 x3 x4 x5 x6 x7 x8 x9 hIr htb2 hown htb
   have hI2 := HI0.out.below hD0.b
   obtain ⟨q0, q1, q2, q3, q4, q5, q6, q7, q8, q9, q10, q11⟩ := bk12 hD0.t
   obtain ⟨s0, s1, s2, s3, s4⟩ := bk5 hI2.s
   go_wp2_with (go_at_call 111; fail)
   refine (HIL.out k0 t0 a0 r0 m0 m1 m2 m3 m4 m5 m6 m7 _ hI2.b).mono ?_
   rintro e w3 ⟨⟨bi, rfl⟩, hb3⟩
   have hD3 := Lib.hid (hD0.below hb3)
   clear q0 q1 q2 q3 q4 q5 q6 q7 q8 q9 q10 q11 s0 s1 s2 s3 s4 hI2 hD0 hb3
   have hI3 := HI0.out.below hD3.out.b
   obtain ⟨x0, x1, x2, x3, x4, x5, x6, x7, x8, x9⟩ := bk10 hI3.m
   go_upto_if 72 with fail
   go_cut [11] (fun _ wx => ∃ y0 y1 y2 y3 y4 y5 y6 y7 : Int, Hid (DI w0 wx tb k0 t0 a0 r0 (.slice A N c') N ((markL f t mk l).take q) y0 y1 y2 y3 y4 y5 y6 y7))
   case first =>
    by_cases hk5 : k = 5
    ·subst hk5
     have hyn := HYN.out rfl
     obtain ⟨d, hd⟩ : ∃ d, d = q - f := ⟨_, rfl⟩
     have hdy : d < yn := by omega
     have hdi : (q : Int) - f = (d : Int) := by omega
     have hdl : (d : Int) < yn := by omega
     have hd0 : (0 : Int) ≤ d := by omega
     obtain ⟨yb, yo, a0', a1, a2, a3, a4, a5, a6, a7, rfl, hyb, hyc⟩ := mk8_at HY.out hdy
     have hI3b := hI3.b
     obtain ⟨v0, v1, v2, v3, v4, v5, v6, v7⟩ := mk8 (fun i hi => (hI3b.cell (p := ⟨yb, yo + d * 8 + i, none⟩) hyb).trans (hyc i hi))
     have hDn := Lib.hid (hD3.out.set a0' a1 a2 a3 a4 a5 a6 a7)
     unfold setM at hDn
     have tf := hD3.out.t.frozen; have tl := def_lt' hD3.out.t
     obtain ⟨q0, q1, q2, q3, q4, q5, q6, q7, q8, q9, q10, q11⟩ := bk12 hD3.out.t
     have hno : DoesOut (5 : Int).toNat f t 0 0 0 sl l w (.returned (.tuple #[.slice none 0 0, .bool false])) w3 := ⟨none, 0, 0, false, rfl, Nat.le_refl _, ⟨fun _ => rfl, fun a e => by cases e⟩, (fun h => by cases h), (fun _ => rfl), hI3b⟩
     have HNO := Lib.hid hno
     clear hyc hI3b hno hyn hd hdy hI3
     cases bi with
     | true =>
       go_wp2
       go_meet
       exact ⟨_, _, _, _, _, _, _, _, hDn⟩
     | false =>
       cases hbare : mkB (Mk.mk a0' a1 a2 a3 a4 a5 a6 a7) (Mk.mk 0 0 0 0 0 0 0 0) with
       | true =>
         go_wp2
         go_meet
         exact ⟨_, _, _, _, _, _, _, _, hDn⟩
       | false =>
         go_wp2
         go_ret2
         exact HNO.out
    ·have e5 : (k == 5) = false := beq_false_of_ne hk5
     have hF : ∀ W, Below w3.heap.size w3 W → (W.cell? ⟨w.heap.size, 0, none⟩ = some (.slice NA ns.length nc) ∧ W.cell? ⟨w.heap.size, 1, none⟩ = some (.slice MA ms.length mc) ∧ W.cell? ⟨w.heap.size, 2, none⟩ = some (.slice PA pn pc) ∧ W.cell? ⟨w.heap.size, 3, none⟩ = some (.slice TA tn tc) ∧ W.cell? ⟨w.heap.size, 4, none⟩ = some (.slice EA en ec)) ∧ W.cell? ⟨w.heap.size + 1, 6, none⟩ = some (.int .i64 m) := fun W h => ⟨bk5 (hI3.below h).s, (hI3.below h).m.cell 6⟩
     have HF := Lib.hid hF
     clear hF
     go_upto_region 18 with fail
     clear x0 x1 x2 x3 x4 x5 x6 x7 x8 x9
     refine wp_normal ?_
     refine wp_region_held_drew (S := fun W => Below w3.heap.size w3 W) (by kernel_rfl) (Below.refl _ _).drew (fun hHeld => ?_)
     cases bi with
     | false =>
       (refine tkH 0 ?_; refine tkH 1 ?_; refine tnH 2 ?_; refine tnH 3 ?_; refine tnH 4 ?_; refine tnH 5 ?_; refine tnH 6 ?_; refine tnH 7 ?_; refine tnH 8 ?_; refine tkH 9 ?_)
       refine wpAnyH_done (by kernel_rfl) ?_ _
       go_wp2
       go_meet
       exact ⟨_, _, _, _, _, _, _, _, Lib.hid (hD3.out.below hHeld)⟩
     | true =>
       (refine tkH 0 ?_; refine tkH 1 ?_; refine tkH 2 ?_; refine tkH 3 ?_; refine tkH 4 ?_; refine tkH 6 ?_; refine tkH 7 ?_)
       refine nxH 5 (fun K hK => ?_)
       go_simp
       go_at_call 113
       refine (HPA.out q (by omega) _ (hI3.below hHeld).b).mono ?_
       rintro e w4 ⟨⟨pt, rfl⟩, hb4⟩
       refine hK.out _ _ (hHeld.trans (hb4.mono hHeld.size)) (fun hHeld => ?_)
       clear hK K; refine puH ?_
       refine nxH 8 (fun K hK => ?_)
       go_simp
       go_at_call 112
       refine (HAL.out pt _ (hI3.below hHeld).b).mono ?_
       rintro e w5 ⟨⟨b5, rfl⟩, hb5⟩
       refine hK.out _ _ (hHeld.trans (hb5.mono hHeld.size)) (fun hHeld => ?_)
       clear hK K; refine puH ?_
       (refine tkH 9 ?_)
       refine wpAnyH_done (by kernel_rfl) ?_ _
       cases b5 with
       | false =>
         go_wp2
         go_meet
         exact ⟨_, _, _, _, _, _, _, _, Lib.hid (hD3.out.below hHeld)⟩
       | true =>
         have hI5 := hI3.below hHeld
         have hD5 := Lib.hid (hD3.out.below hHeld)
         clear hHeld hD3 HF hI3 hb4 hb5
         obtain ⟨x0, x1, x2, x3, x4, x5, x6, x7, x8, x9⟩ := bk10 hI5.m
         obtain ⟨q0, q1, q2, q3, q4, q5, q6, q7, q8, q9, q10, q11⟩ := bk12 hD5.out.t
         by_cases hk3 : k = 3
         ·have e6 : (k == 3) = true := by simp [hk3]
          obtain ⟨s0, s1, s2, s3, s4⟩ := bk5 hI5.s
          clear hk3 hk5
          go_wp2_with (go_at_call 114; fail)
          refine (HAD.out m0 m1 m2 m3 m4 m5 m6 m7 _ hI5.b).mono ?_
          rintro e w6 ⟨z0, z1, z2, z3, z4, z5, z6, z7, ok, rfl, hb6⟩
          have hD6 := hD5.out.below hb6
          have hDn := Lib.hid (hD6.set z0 z1 z2 z3 z4 z5 z6 z7)
          unfold setM at hDn
          clear x0 x1 x2 x3 x4 x5 x6 x7 x8 x9 q0 q1 q2 q3 q4 q5 q6 q7 q8 q9 q10 q11 s0 s1 s2 s3 s4
          have tf := hD6.t.frozen; have tl := def_lt' hD6.t
          obtain ⟨q0, q1, q2, q3, q4, q5, q6, q7, q8, q9, q10, q11⟩ := bk12 hD6.t
          go_wp2
          go_meet
          exact ⟨_, _, _, _, _, _, _, _, hDn⟩
         ·have e6 : (k == 3) = false := beq_false_of_ne hk3
          clear hk3 hk5
          go_wp2_with (go_at_call 115; fail)
          refine (remove12_any m0 m1 m2 m3 m4 m5 m6 m7 m v _).mono ?_
          rintro e w6 ⟨z0, z1, z2, z3, z4, z5, z6, z7, ok, rfl, hb6⟩
          have hD6 := hD5.out.below hb6
          have hDn := Lib.hid (hD6.set z0 z1 z2 z3 z4 z5 z6 z7)
          unfold setM at hDn
          clear x0 x1 x2 x3 x4 x5 x6 x7 x8 x9 q0 q1 q2 q3 q4 q5 q6 q7 q8 q9 q10 q11
          have tf := hD6.t.frozen; have tl := def_lt' hD6.t
          obtain ⟨q0, q1, q2, q3, q4, q5, q6, q7, q8, q9, q10, q11⟩ := bk12 hD6.t
          go_wp2
          go_meet
          exact ⟨_, _, _, _, _, _, _, _, hDn⟩
   case rest =>
   obtain ⟨y0, y1, y2, y3, y4, y5, y6, y7, hD⟩ := hcut
   rename World => wc
   clear x0 x1 x2 x3 x4 x5 x6 x7 x8 x9 hI3 hD3
   obtain ⟨q0, q1, q2, q3, q4, q5, q6, q7, q8, q9, q10, q11⟩ := bk12 hD.out.t
   have hzc := hD.out.b.size
   go_wp2_with (at_builtin; ((refine app_one Tryz.underlying22 info_tk rfl (by decide) wc w0.heap.size _ N _ hD.out.o (by unfold maxLen; omega) (by omega) hzc _ rfl (by simp [Value.oneCell']) rfl _ _ rfl rfl rfl ?_); intro g4 cap4 w4 hown4 hgr4 hat4 hlt4))
   have hb4 := below_own hD.out.b hD.out.o hgr4 hzc (Nat.le_refl _)
   have hlist : toks ((markL f t mk l).take q) ++ (tokA k0 t0 a0 r0 y0 y1 y2 y3 y4 y5 y6 y7).toList = toks ((markL f t (fun p => if p = q then (Mk.mk y0 y1 y2 y3 y4 y5 y6 y7) else mk p) l).take (q + 1)) := by
    rw [markL_next HTK.out hq1 hlt, toks_cat]
    congr 1
   rw [hlist] at hown4
   go_roundw
   case rel => exact ⟨q + 1, N + 1, _, cap4, _, by omega, by omega, by have := HNQ.out; omega, by go_num, rfl, Lib.hid hown4, hb4⟩
   case measure => simp [intOf]; omega
  ·obtain rfl : q = t := by omega
   have hend : ∀ (A3 : Option Addr) (N3 c3 : Nat) (w3 : World), w3.ownsRow w0.heap.size 126 12 (.slice A3 N3 c3) N3 (toks ((markL f q mk l).take q ++ l.drop q)) → Below w0.heap.size wr w3 → DoesOut k.toNat f q 0 0 0 sl l w (.returned (.tuple #[.slice A3 N3 c3, .bool true])) w3 := fun A3 N3 c3 w3 h1 h2 => by
    rw [markL_end] at h1
    obtain ⟨A', c', e', hle, -, hA, hrd⟩ := own_form h1
    injection e' with e1 e2 e3
    subst e1
    subst e3
    have hk := HK.out
    have hd : doesL k.toNat f q 0 0 0 sl mk l = markL f q mk l := by unfold doesL; rw [if_neg (by omega), if_neg (by omega)]; rfl
    exact ⟨A3, N3, c3, true, rfl, hle, ⟨fun h => (hA h).1, fun a e => by subst e; exact Nat.le_trans hz0 (own_ge h1 a.block (by simp [Value.ownBlock]))⟩, (fun _ => ⟨mk, by rw [hd]; exact hrd.tlen.symm, by rw [hd]; exact hrd⟩), (fun h => by cases h), HI0.out.b.trans ((hbr.trans h2).mono hz0)⟩
   have HE := Lib.hid hend
   clear hend hIr
   go_wp2_with (at_builtin; ((refine app_tok wr w0.heap.size _ N _ hown.out _ _ (n - q) (c - q) (l.drop q) (hr2.out wr hbr) (fun e => by split at e <;> cases e) (by omega) hbr.size rfl _ _ rfl rfl rfl ?_); intro A3 N3 c3 w3 hown3 hN3 hN3' hb3))
   all_goals
    go_ret2
    exact HE.out _ _ _ _ (by assumption) (by assumption)
end
end Go.Proofs.YtmacfoebfpljoaaGreat
