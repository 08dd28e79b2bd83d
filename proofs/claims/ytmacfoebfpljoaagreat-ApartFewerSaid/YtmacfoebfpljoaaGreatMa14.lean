/- merged texts: Hvn Hvo Rx Lb Z Y Lc Ld -/
import Derived.Test.YtmacfoebfpljoaaGreatMa13
import Derived.Test.YtmacfoebfpljoaaGreatMa1
import Derived.Maps.OwnSet
import Derived.DataShut
import Derived.Test.YtmacfoebfpljoaaGreatRows
import Derived.ProofKit
import Derived.OpenShut
import Derived.ShutString
import Derived.ChangeOld
import Derived.Deep.Slices
import Derived.Deep.Strs
set_option maxRecDepth 100000
set_option maxHeartbeats 16000000
namespace Go.Proofs.YtmacfoebfpljoaaGreat
open Go.RowKit
set_option linter.unusedVariables false
section
variable (base : Nat) (nv mv : Value) (ns : List Nd) (ms : List Mr) (PA TA EA : Option Addr) (pn pc tn tc en ec : Nat) (w : World)
theorem does25_1n (m v g h i : Int) (XA YA : Option Addr) (c xn yn xc yc : Nat) (l sl : List Tok) (hD : DeclIn w base nv mv ns ms) (hr : Rd w w.heap.size 12 none 0 (toks l)) (hx : Rd w w.heap.size 12 XA xn (toks sl)) (hxA : XA = none → xn = 0) (hxn : xn ≤ 20000) : Calls Tryz.prog 55 #[.agg #[nv, mv, .slice PA pn pc, .slice TA tn tc, .slice EA en ec], .slice none 0 c, .agg #[.int .i64 1, .int .i64 0, .int .i64 0, .int .i64 g, .int .i64 h, .int .i64 i, .int .i64 m, .int .i64 v, .slice XA xn xc, .slice YA yn yc]] w (DoesOut 1 0 0 0 0 0 sl l w) := by
 obtain ⟨NA, nc, rfl, -, -, -, -⟩ := own_form hD.n
 obtain ⟨MA, mc, rfl, -, -, -, -⟩ := own_form hD.m
 have hl := hr.tlen
 have hxl := hx.tlen
 have H := Lib.hid hr
 have HX := Lib.hid hx
 have HL := Lib.hid (And.intro hl hxl)
 have HXA := Lib.hid hxA
 clear hr hx hD hl hxl hxA
 go_enter Tryz.func55, Tryz.ntmps55
 go_upto_region 2 with fail
 have hI0 : XI w ((w.alloc (.cells #[.slice NA ns.length nc, .slice MA ms.length mc, .slice PA pn pc, .slice TA tn tc, .slice EA en ec] 32)).alloc (.cells #[.int .i64 1, .int .i64 0, .int .i64 0, .int .i64 g, .int .i64 h, .int .i64 i, .int .i64 m, .int .i64 v, .slice XA xn xc, .slice YA yn yc] 45)) #[.slice NA ns.length nc, .slice MA ms.length mc, .slice PA pn pc, .slice TA tn tc, .slice EA en ec] #[.int .i64 1, .int .i64 0, .int .i64 0, .int .i64 g, .int .i64 h, .int .i64 i, .int .i64 m, .int .i64 v, .slice XA xn xc, .slice YA yn yc] := ⟨(Bk.new w _ _).alloc _, Bk.made _ _ (by simp), belowA⟩
 generalize (w.alloc (.cells #[.slice NA ns.length nc, .slice MA ms.length mc, .slice PA pn pc, .slice TA tn tc, .slice EA en ec] 32)).alloc (.cells #[.int .i64 1, .int .i64 0, .int .i64 0, .int .i64 g, .int .i64 h, .int .i64 i, .int .i64 m, .int .i64 v, .slice XA xn xc, .slice YA yn yc] 45) = w0 at *
 have hz0 := hI0.b.size
 have hr0 := Lib.hid (fun W (hb : Below w0.heap.size w0 W) => show Rd W W.heap.size 12 none 0 (toks (l.take 0)) from rd_ttake (((H.out.below hI0.b).more hz0).below hb |>.more hb.size) (by omega))
 have hr1 := Lib.hid (fun W (hb : Below w0.heap.size w0 W) => show Rd W W.heap.size 12 XA xn (toks sl) from (((HX.out.below hI0.b).more hz0).below hb |>.more hb.size))
 have hr2 := Lib.hid (fun W (hb : Below w0.heap.size w0 W) => show Rd W W.heap.size 12 none (0 - 0) (toks (l.drop 0)) from by
  have h1 := (((H.out.below hI0.b).more hz0).below hb |>.more hb.size)
  rwa [List.drop_zero])
 obtain ⟨x0, x1, x2, x3, x4, x5, x6, x7, x8, x9⟩ := bk10 hI0.m
 go_upto_region 3 with (at_builtin; ((refine app_tok w0 w0.heap.size _ 0 [] (World.ownsRow_nil _ _ _ _) _ _ 0 c (l.take 0) (hr0.out w0 (Below.refl _ _)) (fun e => rfl) (by omega) (Nat.le_refl _) rfl _ _ rfl rfl rfl ?_); intro A1 N1 c1 w1 hown1 hN1 hN1' hb1))
 have hI1 := Lib.hid (hI0.below hb1)
 simp only [List.nil_append] at hown1
 have HO1 := Lib.hid hown1
 clear x0 x1 x2 x3 x4 x5 x6 x7 x8 x9 hown1
 obtain ⟨x0, x1, x2, x3, x4, x5, x6, x7, x8, x9⟩ := bk10 hI1.out.m
 go_upto_region 5 with (at_builtin; ((refine app_tok w1 w0.heap.size _ N1 (l.take 0) HO1.out _ XA xn xc sl (hr1.out w1 hb1) HXA.out (by omega) hb1.size rfl _ _ rfl rfl rfl ?_); intro A2 N2 c2 w2 hown2 hN2 hN2' hb2))
 have hb02 : Below w0.heap.size w0 w2 := hb1.trans hb2
 have hI2 := Lib.hid (hI0.below hb02)
 have HO2 := Lib.hid hown2
 clear x0 x1 x2 x3 x4 x5 x6 x7 x8 x9 hown2
 obtain ⟨x0, x1, x2, x3, x4, x5, x6, x7, x8, x9⟩ := bk10 hI2.out.m
 go_wp2
 go_loopw [8, 9] (fun u j wr => u = .slice A2 N2 c2 ∧ j = .int .i64 0 ∧ w2 = wr) (fun _ _ _ => 0)
 case atStart => exact ⟨rfl, rfl, rfl⟩
 case round =>
  obtain ⟨rfl, rfl, rfl⟩ := hrel
  have hend : ∀ (A3 : Option Addr) (N3 c3 : Nat) (w3 : World), w3.ownsRow w0.heap.size 126 12 (.slice A3 N3 c3) N3 (toks ((l.take 0 ++ sl) ++ l.drop 0)) → Below w0.heap.size w2 w3 → DoesOut 1 0 0 0 0 0 sl l w (.returned (.tuple #[.slice A3 N3 c3, .bool true])) w3 := fun A3 N3 c3 w3 h1 h2 => by
   obtain ⟨A', c', e', hle, -, hA, hrd⟩ := own_form h1
   injection e' with e1 e2 e3
   subst e1
   subst e3
   have hd : doesL 1 0 0 0 0 0 sl (fun _ => default) l = (l.take 0 ++ sl) ++ l.drop 0 := by unfold doesL; rw [if_pos rfl]
   exact ⟨A3, N3, c3, true, rfl, hle, ⟨fun h => (hA h).1, fun a e => by subst e; exact Nat.le_trans hz0 (own_ge h1 a.block (by simp [Value.ownBlock]))⟩, (fun _ => ⟨fun _ => default, by rw [hd]; exact hrd.tlen.symm, by rw [hd]; exact hrd⟩), (fun h => by cases h), hI0.b.trans ((hb02.trans h2).mono hz0)⟩
  have HE := Lib.hid hend
  clear hend
  have hlt : ¬ (0 : Int) < 0 := by omega
  all_goals
   go_wp2_with (at_builtin; ((refine app_tok w2 w0.heap.size _ N2 _ HO2.out _ _ (0 - 0) (c - 0) (l.drop 0) (hr2.out w2 hb02) (fun e => rfl) (by omega) hb02.size rfl _ _ rfl rfl rfl ?_); intro A3 N3 c3 w3 hown3 hN3 hN3' hb3))
   all_goals
    go_ret2
    exact HE.out _ _ _ _ (by assumption) (by assumption)
theorem does25_2an (i : Nat) (m v : Int) (xd : Addr) (YA : Option Addr) (c xn yn xc yc : Nat) (l sl : List Tok) (hD : DeclIn w base nv mv ns ms) (hr : Rd w w.heap.size 12 none 0 (toks l)) (hx : Rd w w.heap.size 12 (some xd) xn (toks sl)) (hxc : xn ≤ xc) (hxn : xn ≤ 20000) (hi : i ≤ xn) : Calls Tryz.prog 55 #[.agg #[nv, mv, .slice PA pn pc, .slice TA tn tc, .slice EA en ec], .slice none 0 c, .agg #[.int .i64 2, .int .i64 0, .int .i64 0, .int .i64 0, .int .i64 0, .int .i64 (i : Int), .int .i64 m, .int .i64 v, .slice (some xd) xn xc, .slice YA yn yc]] w (DoesOut 2 0 0 0 0 i sl l w) := by
 obtain ⟨NA, nc, rfl, -, -, -, -⟩ := own_form hD.n
 obtain ⟨MA, mc, rfl, -, -, -, -⟩ := own_form hD.m
 have hl := hr.tlen
 have hxl := hx.tlen
 have H := Lib.hid hr
 have HX := Lib.hid hx
 have HL := Lib.hid (And.intro hl hxl)
 have b9 : (0 : Int) ≤ i := by omega
 have b10 : (i : Int) ≤ xn := by omega
 have b11 : (i : Int) ≤ xc := by omega
 have b12 : (xn : Int) ≤ xc := by omega
 clear hr hx hD hl hxl
 go_enter Tryz.func55, Tryz.ntmps55
 go_upto_region 2 with fail
 have hI0 : XI w ((w.alloc (.cells #[.slice NA ns.length nc, .slice MA ms.length mc, .slice PA pn pc, .slice TA tn tc, .slice EA en ec] 32)).alloc (.cells #[.int .i64 2, .int .i64 0, .int .i64 0, .int .i64 0, .int .i64 0, .int .i64 (i : Int), .int .i64 m, .int .i64 v, .slice (some xd) xn xc, .slice YA yn yc] 45)) #[.slice NA ns.length nc, .slice MA ms.length mc, .slice PA pn pc, .slice TA tn tc, .slice EA en ec] #[.int .i64 2, .int .i64 0, .int .i64 0, .int .i64 0, .int .i64 0, .int .i64 (i : Int), .int .i64 m, .int .i64 v, .slice (some xd) xn xc, .slice YA yn yc] := ⟨(Bk.new w _ _).alloc _, Bk.made _ _ (by simp), belowA⟩
 generalize (w.alloc (.cells #[.slice NA ns.length nc, .slice MA ms.length mc, .slice PA pn pc, .slice TA tn tc, .slice EA en ec] 32)).alloc (.cells #[.int .i64 2, .int .i64 0, .int .i64 0, .int .i64 0, .int .i64 0, .int .i64 (i : Int), .int .i64 m, .int .i64 v, .slice (some xd) xn xc, .slice YA yn yc] 45) = w0 at *
 have hz0 := hI0.b.size
 have hr0 := Lib.hid (fun W (hb : Below w0.heap.size w0 W) => show Rd W W.heap.size 12 none 0 (toks (l.take 0)) from rd_ttake (((H.out.below hI0.b).more hz0).below hb |>.more hb.size) (by omega))
 have hr1 := Lib.hid (fun W (hb : Below w0.heap.size w0 W) => show Rd W W.heap.size 12 (some xd) i (toks (sl.take i)) from rd_ttake (((HX.out.below hI0.b).more hz0).below hb |>.more hb.size) (by omega))
 have hr3 := Lib.hid (fun W (hb : Below w0.heap.size w0 W) => show Rd W W.heap.size 12 none (0 - 0) (toks ((l.take 0).drop 0)) from rd_ttake (((H.out.below hI0.b).more hz0).below hb |>.more hb.size) (by omega))
 have hr4 := Lib.hid (fun W (hb : Below w0.heap.size w0 W) => show Rd W W.heap.size 12 (if xc = i then some xd else some (xd.add (i * 12))) (xn - i) (toks (sl.drop i)) from by
  have h1 := rd_tdropA (((HX.out.below hI0.b).more hz0).below hb |>.more hb.size) hi (Nat.le_refl xn) hxc
  rwa [List.take_of_length_le (by rw [HL.out.2]; exact Nat.le_refl _)] at h1)
 have hr2 := Lib.hid (fun W (hb : Below w0.heap.size w0 W) => show Rd W W.heap.size 12 none (0 - 0) (toks (l.drop 0)) from by
  have h1 := (((H.out.below hI0.b).more hz0).below hb |>.more hb.size)
  rwa [List.drop_zero])
 obtain ⟨x0, x1, x2, x3, x4, x5, x6, x7, x8, x9⟩ := bk10 hI0.m
 go_upto_region 3 with (at_builtin; ((refine app_tok w0 w0.heap.size _ 0 [] (World.ownsRow_nil _ _ _ _) _ _ 0 c (l.take 0) (hr0.out w0 (Below.refl _ _)) (fun e => rfl) (by omega) (Nat.le_refl _) rfl _ _ rfl rfl rfl ?_); intro A1 N1 c1 w1 hown1 hN1 hN1' hb1))
 have hI1 := Lib.hid (hI0.below hb1)
 simp only [List.nil_append] at hown1
 have HO1 := Lib.hid hown1
 clear x0 x1 x2 x3 x4 x5 x6 x7 x8 x9 hown1
 obtain ⟨x0, x1, x2, x3, x4, x5, x6, x7, x8, x9⟩ := bk10 hI1.out.m
 go_upto_region 7 with (at_builtin; ((refine app_tok w1 w0.heap.size _ N1 (l.take 0) HO1.out _ _ i _ (sl.take i) (hr1.out w1 hb1) (fun e => by cases e) (by omega) hb1.size rfl _ _ rfl rfl rfl ?_); intro A5 N5 c5 w5 hown5 hN5 hN5' hb5))
 have hb05 : Below w0.heap.size w0 w5 := hb1.trans hb5
 have hI5 := Lib.hid (hI0.below hb05)
 have HO5 := Lib.hid hown5
 clear x0 x1 x2 x3 x4 x5 x6 x7 x8 x9 hown5
 obtain ⟨x0, x1, x2, x3, x4, x5, x6, x7, x8, x9⟩ := bk10 hI5.out.m
 go_upto_region 8 with (at_builtin; ((refine app_tok w5 w0.heap.size _ N5 _ HO5.out _ _ (0 - 0) _ ((l.take 0).drop 0) (hr3.out w5 hb05) (fun e => rfl) (by omega) hb05.size rfl _ _ rfl rfl rfl ?_); intro A6 N6 c6 w6 hown6 hN6 hN6' hb6))
 have hb06 : Below w0.heap.size w0 w6 := hb05.trans hb6
 have hI6 := Lib.hid (hI0.below hb06)
 have HO6 := Lib.hid hown6
 clear x0 x1 x2 x3 x4 x5 x6 x7 x8 x9 hown6
 obtain ⟨x0, x1, x2, x3, x4, x5, x6, x7, x8, x9⟩ := bk10 hI6.out.m
 go_upto_region 9 with (at_builtin; ((refine app_tok w6 w0.heap.size _ N6 _ HO6.out _ _ (xn - i) _ (sl.drop i) (hr4.out w6 hb06) (fun e => by split at e <;> cases e) (by omega) hb06.size rfl _ _ rfl rfl rfl ?_); intro A7 N7 c7 w7 hown7 hN7 hN7' hb7))
 have hb07 : Below w0.heap.size w0 w7 := hb06.trans hb7
 have hI7 := Lib.hid (hI0.below hb07)
 have HO7 := Lib.hid hown7
 clear x0 x1 x2 x3 x4 x5 x6 x7 x8 x9 hown7
 obtain ⟨x0, x1, x2, x3, x4, x5, x6, x7, x8, x9⟩ := bk10 hI7.out.m
 generalize (if xc = i then some xd else some (xd.add (i * 12))) = XD at *
 go_wp2
 go_loopw [8, 9] (fun u j wr => u = .slice A7 N7 c7 ∧ j = .int .i64 0 ∧ w7 = wr) (fun _ _ _ => 0)
 case atStart => exact ⟨rfl, rfl, rfl⟩
 case round =>
  obtain ⟨rfl, rfl, rfl⟩ := hrel
  have hend : ∀ (A3 : Option Addr) (N3 c3 : Nat) (w3 : World), w3.ownsRow w0.heap.size 126 12 (.slice A3 N3 c3) N3 (toks ((l.take 0 ++ sl.take i ++ (l.take 0).drop 0 ++ sl.drop i) ++ l.drop 0)) → Below w0.heap.size w7 w3 → DoesOut 2 0 0 0 0 i sl l w (.returned (.tuple #[.slice A3 N3 c3, .bool true])) w3 := fun A3 N3 c3 w3 h1 h2 => by
   obtain ⟨A', c', e', hle, -, hA, hrd⟩ := own_form h1
   injection e' with e1 e2 e3
   subst e1
   subst e3
   have hd : doesL 2 0 0 0 0 i sl (fun _ => default) l = (l.take 0 ++ sl.take i ++ (l.take 0).drop 0 ++ sl.drop i) ++ l.drop 0 := by unfold doesL; rw [if_neg (by omega), if_pos rfl]
   exact ⟨A3, N3, c3, true, rfl, hle, ⟨fun hh => (hA hh).1, fun a e => by subst e; exact Nat.le_trans hz0 (own_ge h1 a.block (by simp [Value.ownBlock]))⟩, (fun _ => ⟨fun _ => default, by rw [hd]; exact hrd.tlen.symm, by rw [hd]; exact hrd⟩), (fun hh => by cases hh), hI0.b.trans ((hb07.trans h2).mono hz0)⟩
  have HE := Lib.hid hend
  clear hend
  have hlt : ¬ (0 : Int) < 0 := by omega
  all_goals
   go_wp2_with (at_builtin; ((refine app_tok w7 w0.heap.size _ N7 _ HO7.out _ _ (0 - 0) (c - 0) (l.drop 0) (hr2.out w7 hb07) (fun e => rfl) (by omega) hb07.size rfl _ _ rfl rfl rfl ?_); intro A3 N3 c3 w3 hown3 hN3 hN3' hb3))
   all_goals
    go_ret2
    exact HE.out _ _ _ _ (by assumption) (by assumption)
theorem does25_2bn (i : Nat) (m v : Int) (YA : Option Addr) (c xn yn xc yc : Nat) (l sl : List Tok) (hD : DeclIn w base nv mv ns ms) (hr : Rd w w.heap.size 12 none 0 (toks l)) (hx : Rd w w.heap.size 12 none xn (toks sl)) (hxc : xn ≤ xc) (hx0 : xn = 0) (hxn : xn ≤ 20000) (hi : i ≤ xn) : Calls Tryz.prog 55 #[.agg #[nv, mv, .slice PA pn pc, .slice TA tn tc, .slice EA en ec], .slice none 0 c, .agg #[.int .i64 2, .int .i64 0, .int .i64 0, .int .i64 0, .int .i64 0, .int .i64 (i : Int), .int .i64 m, .int .i64 v, .slice none xn xc, .slice YA yn yc]] w (DoesOut 2 0 0 0 0 i sl l w) := by
 obtain rfl : xn = 0 := hx0
 obtain rfl : i = 0 := by omega
 obtain ⟨NA, nc, rfl, -, -, -, -⟩ := own_form hD.n
 obtain ⟨MA, mc, rfl, -, -, -, -⟩ := own_form hD.m
 have hl := hr.tlen
 have hxl := hx.tlen
 have H := Lib.hid hr
 have HX := Lib.hid hx
 have HL := Lib.hid (And.intro hl hxl)
 have b9 : (0 : Int) ≤ 0 := by omega
 have b10 : (0 : Int) ≤ 0 := by omega
 have b11 : (0 : Int) ≤ xc := by omega
 have b12 : (0 : Int) ≤ xc := by omega
 clear hr hx hD hl hxl
 go_enter Tryz.func55, Tryz.ntmps55
 go_upto_region 2 with fail
 have hI0 : XI w ((w.alloc (.cells #[.slice NA ns.length nc, .slice MA ms.length mc, .slice PA pn pc, .slice TA tn tc, .slice EA en ec] 32)).alloc (.cells #[.int .i64 2, .int .i64 0, .int .i64 0, .int .i64 0, .int .i64 0, .int .i64 (0 : Int), .int .i64 m, .int .i64 v, .slice none 0 xc, .slice YA yn yc] 45)) #[.slice NA ns.length nc, .slice MA ms.length mc, .slice PA pn pc, .slice TA tn tc, .slice EA en ec] #[.int .i64 2, .int .i64 0, .int .i64 0, .int .i64 0, .int .i64 0, .int .i64 (0 : Int), .int .i64 m, .int .i64 v, .slice none 0 xc, .slice YA yn yc] := ⟨(Bk.new w _ _).alloc _, Bk.made _ _ (by simp), belowA⟩
 generalize (w.alloc (.cells #[.slice NA ns.length nc, .slice MA ms.length mc, .slice PA pn pc, .slice TA tn tc, .slice EA en ec] 32)).alloc (.cells #[.int .i64 2, .int .i64 0, .int .i64 0, .int .i64 0, .int .i64 0, .int .i64 (0 : Int), .int .i64 m, .int .i64 v, .slice none 0 xc, .slice YA yn yc] 45) = w0 at *
 have hz0 := hI0.b.size
 have hr0 := Lib.hid (fun W (hb : Below w0.heap.size w0 W) => show Rd W W.heap.size 12 none 0 (toks (l.take 0)) from rd_ttake (((H.out.below hI0.b).more hz0).below hb |>.more hb.size) (by omega))
 have hr1 := Lib.hid (fun W (hb : Below w0.heap.size w0 W) => show Rd W W.heap.size 12 none 0 (toks (sl.take 0)) from rd_ttake (((HX.out.below hI0.b).more hz0).below hb |>.more hb.size) (by omega))
 have hr3 := Lib.hid (fun W (hb : Below w0.heap.size w0 W) => show Rd W W.heap.size 12 none (0 - 0) (toks ((l.take 0).drop 0)) from rd_ttake (((H.out.below hI0.b).more hz0).below hb |>.more hb.size) (by omega))
 have hr4 := Lib.hid (fun W (hb : Below w0.heap.size w0 W) => show Rd W W.heap.size 12 none (0 - 0) (toks (sl.drop 0)) from by
  have h1 := (((HX.out.below hI0.b).more hz0).below hb |>.more hb.size)
  rwa [List.drop_zero])
 have hr2 := Lib.hid (fun W (hb : Below w0.heap.size w0 W) => show Rd W W.heap.size 12 none (0 - 0) (toks (l.drop 0)) from by
  have h1 := (((H.out.below hI0.b).more hz0).below hb |>.more hb.size)
  rwa [List.drop_zero])
 obtain ⟨x0, x1, x2, x3, x4, x5, x6, x7, x8, x9⟩ := bk10 hI0.m
 go_upto_region 3 with (at_builtin; ((refine app_tok w0 w0.heap.size _ 0 [] (World.ownsRow_nil _ _ _ _) _ _ 0 c (l.take 0) (hr0.out w0 (Below.refl _ _)) (fun e => rfl) (by omega) (Nat.le_refl _) rfl _ _ rfl rfl rfl ?_); intro A1 N1 c1 w1 hown1 hN1 hN1' hb1))
 have hI1 := Lib.hid (hI0.below hb1)
 simp only [List.nil_append] at hown1
 have HO1 := Lib.hid hown1
 clear x0 x1 x2 x3 x4 x5 x6 x7 x8 x9 hown1
 obtain ⟨x0, x1, x2, x3, x4, x5, x6, x7, x8, x9⟩ := bk10 hI1.out.m
 go_upto_region 7 with (at_builtin; ((refine app_tok w1 w0.heap.size _ N1 (l.take 0) HO1.out _ _ 0 _ (sl.take 0) (hr1.out w1 hb1) (fun e => rfl) (by omega) hb1.size rfl _ _ rfl rfl rfl ?_); intro A5 N5 c5 w5 hown5 hN5 hN5' hb5))
 have hb05 : Below w0.heap.size w0 w5 := hb1.trans hb5
 have hI5 := Lib.hid (hI0.below hb05)
 have HO5 := Lib.hid hown5
 clear x0 x1 x2 x3 x4 x5 x6 x7 x8 x9 hown5
 obtain ⟨x0, x1, x2, x3, x4, x5, x6, x7, x8, x9⟩ := bk10 hI5.out.m
 go_upto_region 8 with (at_builtin; ((refine app_tok w5 w0.heap.size _ N5 _ HO5.out _ _ (0 - 0) _ ((l.take 0).drop 0) (hr3.out w5 hb05) (fun e => rfl) (by omega) hb05.size rfl _ _ rfl rfl rfl ?_); intro A6 N6 c6 w6 hown6 hN6 hN6' hb6))
 have hb06 : Below w0.heap.size w0 w6 := hb05.trans hb6
 have hI6 := Lib.hid (hI0.below hb06)
 have HO6 := Lib.hid hown6
 clear x0 x1 x2 x3 x4 x5 x6 x7 x8 x9 hown6
 obtain ⟨x0, x1, x2, x3, x4, x5, x6, x7, x8, x9⟩ := bk10 hI6.out.m
 go_upto_region 9 with (at_builtin; ((refine app_tok w6 w0.heap.size _ N6 _ HO6.out _ _ (0 - 0) _ (sl.drop 0) (hr4.out w6 hb06) (fun e => rfl) (by omega) hb06.size rfl _ _ rfl rfl rfl ?_); intro A7 N7 c7 w7 hown7 hN7 hN7' hb7))
 have hb07 : Below w0.heap.size w0 w7 := hb06.trans hb7
 have hI7 := Lib.hid (hI0.below hb07)
 have HO7 := Lib.hid hown7
 clear x0 x1 x2 x3 x4 x5 x6 x7 x8 x9 hown7
 obtain ⟨x0, x1, x2, x3, x4, x5, x6, x7, x8, x9⟩ := bk10 hI7.out.m
 skip
 go_wp2
 go_loopw [8, 9] (fun u j wr => u = .slice A7 N7 c7 ∧ j = .int .i64 0 ∧ w7 = wr) (fun _ _ _ => 0)
 case atStart => exact ⟨rfl, rfl, rfl⟩
 case round =>
  obtain ⟨rfl, rfl, rfl⟩ := hrel
  have hend : ∀ (A3 : Option Addr) (N3 c3 : Nat) (w3 : World), w3.ownsRow w0.heap.size 126 12 (.slice A3 N3 c3) N3 (toks ((l.take 0 ++ sl.take 0 ++ (l.take 0).drop 0 ++ sl.drop 0) ++ l.drop 0)) → Below w0.heap.size w7 w3 → DoesOut 2 0 0 0 0 0 sl l w (.returned (.tuple #[.slice A3 N3 c3, .bool true])) w3 := fun A3 N3 c3 w3 h1 h2 => by
   obtain ⟨A', c', e', hle, -, hA, hrd⟩ := own_form h1
   injection e' with e1 e2 e3
   subst e1
   subst e3
   have hd : doesL 2 0 0 0 0 0 sl (fun _ => default) l = (l.take 0 ++ sl.take 0 ++ (l.take 0).drop 0 ++ sl.drop 0) ++ l.drop 0 := by unfold doesL; rw [if_neg (by omega), if_pos rfl]
   exact ⟨A3, N3, c3, true, rfl, hle, ⟨fun hh => (hA hh).1, fun a e => by subst e; exact Nat.le_trans hz0 (own_ge h1 a.block (by simp [Value.ownBlock]))⟩, (fun _ => ⟨fun _ => default, by rw [hd]; exact hrd.tlen.symm, by rw [hd]; exact hrd⟩), (fun hh => by cases hh), hI0.b.trans ((hb07.trans h2).mono hz0)⟩
  have HE := Lib.hid hend
  clear hend
  have hlt : ¬ (0 : Int) < 0 := by omega
  all_goals
   go_wp2_with (at_builtin; ((refine app_tok w7 w0.heap.size _ N7 _ HO7.out _ _ (0 - 0) (c - 0) (l.drop 0) (hr2.out w7 hb07) (fun e => rfl) (by omega) hb07.size rfl _ _ rfl rfl rfl ?_); intro A3 N3 c3 w3 hown3 hN3 hN3' hb3))
   all_goals
    go_ret2
    exact HE.out _ _ _ _ (by assumption) (by assumption)
end
theorem doesL_one (f t g h i : Nat) (sl : List Tok) (m : Nat → Mk) (l : List Tok) : doesL 1 f t g h i sl m l = l.take f ++ sl ++ l.drop t := by unfold doesL; rw [if_pos rfl]
theorem doesL_two (f t g h i : Nat) (sl : List Tok) (m : Nat → Mk) (l : List Tok) : doesL 2 f t g h i sl m l = l.take f ++ sl.take i ++ (l.take h).drop g ++ sl.drop i ++ l.drop t := by unfold doesL; rw [if_neg (by omega), if_pos rfl]
theorem doesL_more {k : Nat} (f t g h i : Nat) (sl : List Tok) (m : Nat → Mk) (l : List Tok) (hk : 3 ≤ k) : doesL k f t g h i sl m l = markL f t m l := by unfold doesL; rw [if_neg (by omega), if_neg (by omega)]; rfl
theorem doesL_len {k f t g h i n xn : Nat} {sl l : List Tok} (m : Nat → Mk) (hl : l.length = n) (hx : sl.length = xn) (hk : 1 ≤ k) (hft : f ≤ t) (htn : t ≤ n) (h2 : k = 2 → f ≤ g ∧ g ≤ h ∧ h ≤ t ∧ i ≤ xn) : (doesL k f t g h i sl m l).length ≤ n + xn := by
 rcases (show k = 1 ∨ k = 2 ∨ 3 ≤ k by omega) with rfl | rfl | h3
 ·rw [doesL_one]; simp; omega
 ·obtain ⟨a, b, c, d⟩ := h2 rfl
  rw [doesL_two]; simp; omega
 ·rw [doesL_more f t g h i sl m l h3, markL_len]; omega
theorem DoesOut.of1 {f t g h i g' h' i' : Nat} {sl l : List Tok} {w w' : World} {e : Ending} (hd : DoesOut 1 f t g h i sl l w e w') : DoesOut 1 f t g' h' i' sl l w e w' := by
 obtain ⟨A, n, c, ok, h1, h2, h3, h4, h5, h6⟩ := hd
 refine ⟨A, n, c, ok, h1, h2, h3, (fun h => ?_), h5, h6⟩
 obtain ⟨m, h7, h8⟩ := h4 h
 rw [doesL_one] at h7 h8
 exact ⟨m, by rw [doesL_one]; exact h7, by rw [doesL_one]; exact h8⟩
theorem DoesOut.of3 {k f t g h i g' h' i' : Nat} {sl l : List Tok} {w w' : World} {e : Ending} (hk : 3 ≤ k) (hd : DoesOut k f t g h i sl l w e w') : DoesOut k f t g' h' i' sl l w e w' := by
 obtain ⟨A, n, c, ok, h1, h2, h3, h4, h5, h6⟩ := hd
 refine ⟨A, n, c, ok, h1, h2, h3, (fun h => ?_), h5, h6⟩
 obtain ⟨m, h7, h8⟩ := h4 h
 rw [doesL_more _ _ _ _ _ _ _ _ hk] at h7 h8
 exact ⟨m, by rw [doesL_more _ _ _ _ _ _ _ _ hk]; exact h7, by rw [doesL_more _ _ _ _ _ _ _ _ hk]; exact h8⟩
section
variable (base : Nat) (nv mv : Value) (ns : List Nd) (ms : List Mr) (PA TA EA : Option Addr) (pn pc tn tc en ec : Nat) (w : World)
theorem does25_3n (k : Int) (hk : k = 3 ∨ k = 4 ∨ k = 5) (m v g h i : Int) (XA YA : Option Addr) (c xn yn xc yc : Nat) (l sl : List Tok) (hD : DeclIn w base nv mv ns ms) (hr : Rd w w.heap.size 12 none 0 (toks l)) : Calls Tryz.prog 55 #[.agg #[nv, mv, .slice PA pn pc, .slice TA tn tc, .slice EA en ec], .slice none 0 c, .agg #[.int .i64 k, .int .i64 0, .int .i64 0, .int .i64 g, .int .i64 h, .int .i64 i, .int .i64 m, .int .i64 v, .slice XA xn xc, .slice YA yn yc]] w (DoesOut k.toNat 0 0 0 0 0 sl l w) := by
 obtain ⟨NA, nc, rfl, -, -, -, -⟩ := own_form hD.n
 obtain ⟨MA, mc, rfl, -, -, -, -⟩ := own_form hD.m
 have hl := hr.tlen
 have H := Lib.hid hr
 have e1 : (k == 1) = false := beq_false_of_ne (by omega)
 have e2 : (k == 2) = false := beq_false_of_ne (by omega)
 have e3 : 2 < k := by omega
 have hl0 : l = [] := List.eq_nil_of_length_eq_zero hl
 subst hl0
 have hd : ∀ mk, doesL k.toNat 0 0 0 0 0 sl mk [] = [] := fun mk => by rw [doesL_more _ _ _ _ _ _ _ _ (by omega)]; rfl
 have HD := Lib.hid hd
 have HK := Lib.hid hk
 clear hr hD hl hk hd
 go_enter Tryz.func55, Tryz.ntmps55
 go_upto_region 2 with fail
 have hI0 : XI w ((w.alloc (.cells #[.slice NA ns.length nc, .slice MA ms.length mc, .slice PA pn pc, .slice TA tn tc, .slice EA en ec] 32)).alloc (.cells #[.int .i64 k, .int .i64 0, .int .i64 0, .int .i64 g, .int .i64 h, .int .i64 i, .int .i64 m, .int .i64 v, .slice XA xn xc, .slice YA yn yc] 45)) #[.slice NA ns.length nc, .slice MA ms.length mc, .slice PA pn pc, .slice TA tn tc, .slice EA en ec] #[.int .i64 k, .int .i64 0, .int .i64 0, .int .i64 g, .int .i64 h, .int .i64 i, .int .i64 m, .int .i64 v, .slice XA xn xc, .slice YA yn yc] := ⟨(Bk.new w _ _).alloc _, Bk.made _ _ (by simp), belowA⟩
 generalize (w.alloc (.cells #[.slice NA ns.length nc, .slice MA ms.length mc, .slice PA pn pc, .slice TA tn tc, .slice EA en ec] 32)).alloc (.cells #[.int .i64 k, .int .i64 0, .int .i64 0, .int .i64 g, .int .i64 h, .int .i64 i, .int .i64 m, .int .i64 v, .slice XA xn xc, .slice YA yn yc] 45) = w0 at *
 have hz0 := hI0.b.size
 have hr0 := Lib.hid (fun W (hb : Below w0.heap.size w0 W) => show Rd W W.heap.size 12 none 0 (toks []) from ((H.out.below hI0.b).more hz0).below hb |>.more hb.size)
 obtain ⟨x0, x1, x2, x3, x4, x5, x6, x7, x8, x9⟩ := bk10 hI0.m
 go_upto_region 3 with (at_builtin; ((refine app_tok w0 w0.heap.size _ 0 [] (World.ownsRow_nil _ _ _ _) _ _ 0 c [] (hr0.out w0 (Below.refl _ _)) (fun e => rfl) (by omega) (Nat.le_refl _) rfl _ _ rfl rfl rfl ?_); intro A1 N1 c1 w1 hown1 hN1 hN1' hb1))
 have hI1 := Lib.hid (hI0.below hb1)
 simp only [List.nil_append] at hown1
 have HO1 := Lib.hid hown1
 clear x0 x1 x2 x3 x4 x5 x6 x7 x8 x9 hown1
 obtain ⟨x0, x1, x2, x3, x4, x5, x6, x7, x8, x9⟩ := bk10 hI1.out.m
 go_wp2
 go_loopw [8, 9] (fun u j wr => u = .slice A1 N1 c1 ∧ j = .int .i64 0 ∧ w1 = wr) (fun _ _ _ => 0)
 case atStart => exact ⟨rfl, rfl, rfl⟩
 case round =>
  obtain ⟨rfl, rfl, rfl⟩ := hrel
  have hend : ∀ (A3 : Option Addr) (N3 c3 : Nat) (w3 : World), w3.ownsRow w0.heap.size 126 12 (.slice A3 N3 c3) N3 (toks ([] ++ [])) → Below w0.heap.size w1 w3 → DoesOut k.toNat 0 0 0 0 0 sl [] w (.returned (.tuple #[.slice A3 N3 c3, .bool true])) w3 := fun A3 N3 c3 w3 h1 h2 => by
   obtain ⟨A', c', e', hle, -, hA, hrd⟩ := own_form h1
   injection e' with e1 e2 e3
   subst e1
   subst e3
   exact ⟨A3, N3, c3, true, rfl, hle, ⟨fun h => (hA h).1, fun a e => by subst e; exact Nat.le_trans hz0 (own_ge h1 a.block (by simp [Value.ownBlock]))⟩, (fun _ => ⟨fun _ => default, by rw [HD.out]; exact hrd.tlen.symm, by rw [HD.out]; exact hrd⟩), (fun h => by cases h), hI0.b.trans ((hb1.trans h2).mono hz0)⟩
  have HE := Lib.hid hend
  clear hend
  have hlt : ¬ (0 : Int) < 0 := by omega
  go_wp2_with (at_builtin; ((refine app_tok w1 w0.heap.size _ N1 _ HO1.out _ _ (0 - 0) (c - 0) [] (hr0.out w1 hb1) (fun e => rfl) (by omega) hb1.size rfl _ _ rfl rfl rfl ?_); intro A3 N3 c3 w3 hown3 hN3 hN3' hb3))
  all_goals
   go_ret2
   exact HE.out _ _ _ _ (by assumption) (by assumption)
/-- any step of a right shape, within the row -/
theorem does25_any (k f t g h i m v : Int) (A XA YA : Option Addr) (n c xn yn xc yc : Nat) (l sl : List Tok) (st : List Mk) (hD : DeclIn w base nv mv ns ms) (hr : Rd w w.heap.size 12 A n (toks l)) (hnc : n ≤ c) (hA : A = none → n = 0) (hn : n ≤ 60000) (hx : Rd w w.heap.size 12 XA xn (toks sl)) (hxc : xn ≤ xc) (hxA : XA = none → xn = 0) (hxn : xn ≤ 20000) (hy : Rd w w.heap.size 8 YA yn (mks st)) (hsh : shB k f t g h i m v xn yn = true) (htn : t ≤ n) : Calls Tryz.prog 55 #[.agg #[nv, mv, .slice PA pn pc, .slice TA tn tc, .slice EA en ec], .slice A n c, .agg #[.int .i64 k, .int .i64 f, .int .i64 t, .int .i64 g, .int .i64 h, .int .i64 i, .int .i64 m, .int .i64 v, .slice XA xn xc, .slice YA yn yc]] w (DoesOut k.toNat f.toNat t.toNat g.toNat h.toNat i.toNat sl l w) := by
 obtain ⟨⟨b0, b1, b2⟩, hk, h2, h1⟩ := shB_spec hsh
 have h5 := fun e => shB_spec5 hsh e
 obtain ⟨f, rfl⟩ : ∃ f' : Nat, f = (f' : Int) := ⟨f.toNat, by omega⟩
 obtain ⟨t, rfl⟩ : ∃ t' : Nat, t = (t' : Int) := ⟨t.toNat, by omega⟩
 simp only [Int.toNat_natCast]
 rcases A with _ | ad
 ·obtain rfl : n = 0 := hA rfl
  obtain rfl : t = 0 := by omega
  obtain rfl : f = 0 := by omega
  rcases hk with rfl | rfl | hk
  ·exact (does25_1n base nv mv ns ms PA TA EA pn pc tn tc en ec w m v g h i XA YA c xn yn xc yc l sl hD hr hx hxA hxn).mono fun e w' hd => hd.of1
  ·obtain ⟨g1, g2, g3, g4, g5, g6⟩ := h2 rfl
   obtain rfl : g = 0 := by omega
   obtain rfl : h = 0 := by omega
   obtain ⟨i, rfl⟩ : ∃ i' : Nat, i = (i' : Int) := ⟨i.toNat, by omega⟩
   simp only [Int.toNat_natCast]
   rcases XA with _ | xd
   ·exact (does25_2bn base nv mv ns ms PA TA EA pn pc tn tc en ec w i m v YA c xn yn xc yc l sl hD hr hx hxc (hxA rfl) hxn (by omega))
   ·exact (does25_2an base nv mv ns ms PA TA EA pn pc tn tc en ec w i m v xd YA c xn yn xc yc l sl hD hr hx hxc hxn (by omega))
  ·exact (does25_3n base nv mv ns ms PA TA EA pn pc tn tc en ec w k (by omega) m v g h i XA YA c xn yn xc yc l sl hD hr).mono fun e w' hd => hd.of3 (by omega)
 ·rcases hk with rfl | rfl | hk
  ·exact (does25_1 base nv mv ns ms PA TA EA pn pc tn tc en ec w f t m v g h i ad XA YA n c xn yn xc yc l sl hD hr hnc hn hx hxA hxn (by omega) (by omega)).mono fun e w' hd => hd.of1
  ·obtain ⟨g1, g2, g3, g4, g5, g6⟩ := h2 rfl
   obtain ⟨g, rfl⟩ : ∃ g' : Nat, g = (g' : Int) := ⟨g.toNat, by omega⟩
   obtain ⟨h, rfl⟩ : ∃ h' : Nat, h = (h' : Int) := ⟨h.toNat, by omega⟩
   obtain ⟨i, rfl⟩ : ∃ i' : Nat, i = (i' : Int) := ⟨i.toNat, by omega⟩
   simp only [Int.toNat_natCast]
   rcases XA with _ | xd
   ·exact (does25_2b base nv mv ns ms PA TA EA pn pc tn tc en ec w f t g h i m v ad YA n c xn yn xc yc l sl hD hr hnc hn hx hxc (hxA rfl) hxn (by omega) (by omega) (by omega) (by omega) (by omega))
   ·exact (does25_2a base nv mv ns ms PA TA EA pn pc tn tc en ec w f t g h i m v ad xd YA n c xn yn xc yc l sl hD hr hnc hn hx hxc hxn (by omega) (by omega) (by omega) (by omega) (by omega))
  ·exact (does25_3 base nv mv ns ms PA TA EA pn pc tn tc en ec w k (by omega) f t m v g h i ad XA YA n c xn yn xc yc l sl st hD hr hnc hn hy (fun e => by have := h5 e; omega) (by omega) (by omega)).mono fun e w' hd => hd.of3 (by omega)
end
/-- a step is done: what comes out -/
def ApplyOut (k f t g h i m v : Int) (n xn yn : Nat) (sl l : List Tok) (w : World) (e : Ending) (w' : World) : Prop := ∃ (A : Option Addr) (N c : Nat) (er : Int), e = .returned (.tuple #[.slice A N c, .int .i64 er]) ∧ N ≤ c ∧ New12 w A N ∧ (er = 0 → shB k f t g h i m v xn yn = true ∧ t ≤ n ∧ ∃ mk : Nat → Mk, N = (doesL k.toNat f.toNat t.toNat g.toNat h.toNat i.toNat sl mk l).length ∧ Rd w' w'.heap.size 12 A N (toks (doesL k.toNat f.toNat t.toNat g.toNat h.toNat i.toNat sl mk l))) ∧ Below w.heap.size w w'
section
variable (base : Nat) (nv mv pv tv ev : Value) (ns : List Nd) (ms : List Mr) (ps : List Pe) (bn : Nat) (mg : List Mg) (w : World)
theorem apply25_any (k f t g h i m v : Int) (A XA YA : Option Addr) (n c xn yn xc yc : Nat) (l sl : List Tok) (st : List Mk) (hS : Sc w base nv mv pv tv ev ns ms ps bn mg) (hr : Rd w w.heap.size 12 A n (toks l)) (hnc : n ≤ c) (hA : A = none → n = 0) (hn : n ≤ 60000) (hx : Rd w w.heap.size 12 XA xn (toks sl)) (hxc : xn ≤ xc) (hxA : XA = none → xn = 0) (hxn : xn ≤ 20000) (hy : Rd w w.heap.size 8 YA yn (mks st)) (hyn : yn ≤ 20000) : Calls Tryz.prog 12 #[.agg #[nv, mv, pv, tv, ev], .slice A n c, .agg #[.int .i64 k, .int .i64 f, .int .i64 t, .int .i64 g, .int .i64 h, .int .i64 i, .int .i64 m, .int .i64 v, .slice XA xn xc, .slice YA yn yc]] w (ApplyOut k f t g h i m v n xn yn sl l w) := by
 obtain ⟨NA, MA, PA, TA, EA, nc, mc, pc, tc, ec, rfl, rfl, rfl, rfl, rfl⟩ := hS.form
 have hl := hr.tlen
 have hxl := hx.tlen
 have hrt := fun W (hb : Below w.heap.size w W) => right25_any base _ _ ns ms PA TA EA ps.length pc bn tc mg.length ec W k f t g h i m v XA YA xn yn xc yc sl st (hS.d.below hb) hxn hyn ((hx.below hb).more hb.size) ((hy.below hb).more hb.size)
 have hds := fun W (hb : Below w.heap.size w W) (hsh : shB k f t g h i m v xn yn = true) (htn : t ≤ n) => does25_any base _ _ ns ms PA TA EA ps.length pc bn tc mg.length ec W k f t g h i m v A XA YA n c xn yn xc yc l sl st (hS.d.below hb) ((hr.below hb).more hb.size) hnc hA hn ((hx.below hb).more hb.size) hxc hxA hxn ((hy.below hb).more hb.size) hsh htn
 have hdc := fun A' n' c' l' W (hb : Below w.heap.size w W) (h1 : Rd W W.heap.size 12 A' n' (toks l')) (h2 : n' ≤ 100000) (h3 : n' ≤ c') => doc17_any base _ _ _ _ _ ns ms ps bn mg W A' n' c' l' (hS.below hb) h1 h2 h3
 have HRT := Lib.hid hrt
 have HDS := Lib.hid hds
 have HDC := Lib.hid hdc
 have HL := Lib.hid (And.intro hl hxl)
 clear hrt hds hdc hr hx hy hS hl hxl
 go_enter Tryz.func12, Tryz.ntmps12
 go_upto_region 1 with fail
 have hI0 : XI w ((w.alloc (.cells #[.slice NA ns.length nc, .slice MA ms.length mc, .slice PA ps.length pc, .slice TA bn tc, .slice EA mg.length ec] 32)).alloc (.cells #[.int .i64 k, .int .i64 f, .int .i64 t, .int .i64 g, .int .i64 h, .int .i64 i, .int .i64 m, .int .i64 v, .slice XA xn xc, .slice YA yn yc] 45)) #[.slice NA ns.length nc, .slice MA ms.length mc, .slice PA ps.length pc, .slice TA bn tc, .slice EA mg.length ec] #[.int .i64 k, .int .i64 f, .int .i64 t, .int .i64 g, .int .i64 h, .int .i64 i, .int .i64 m, .int .i64 v, .slice XA xn xc, .slice YA yn yc] := ⟨(Bk.new w _ _).alloc _, Bk.made _ _ (by simp), belowA⟩
 generalize (w.alloc (.cells #[.slice NA ns.length nc, .slice MA ms.length mc, .slice PA ps.length pc, .slice TA bn tc, .slice EA mg.length ec] 32)).alloc (.cells #[.int .i64 k, .int .i64 f, .int .i64 t, .int .i64 g, .int .i64 h, .int .i64 i, .int .i64 m, .int .i64 v, .slice XA xn xc, .slice YA yn yc] 45) = w0 at *
 obtain ⟨x0, x1, x2, x3, x4, x5, x6, x7, x8, x9⟩ := bk10 hI0.m
 obtain ⟨s0, s1, s2, s3, s4⟩ := bk5 hI0.s
 go_wp2_with (go_at_call 54; fail)
 refine (HRT.out _ hI0.b).mono ?_
 rintro e w1 ⟨b1, rfl, hsh, hb1⟩
 have hz1 := (hI0.below hb1).b.size
 have hI1 := Lib.hid (hI0.below hb1)
 have HSH := Lib.hid hsh
 clear x0 x1 x2 x3 x4 x5 x6 x7 x8 x9 s0 s1 s2 s3 s4 hI0 hsh hb1
 cases b1 with
 | false =>
   go_wp2
   go_ret2
   exact ⟨none, 0, 0, _, rfl, Nat.le_refl _, ⟨fun _ => rfl, fun a e => by cases e⟩, (fun h => by omega), hI1.out.b⟩
 | true =>
   obtain ⟨x0, x1, x2, x3, x4, x5, x6, x7, x8, x9⟩ := bk10 hI1.out.m
   obtain ⟨s0, s1, s2, s3, s4⟩ := bk5 hI1.out.s
   by_cases htn : t ≤ n
   ·have hs := HSH.out (by simp)
    have HS := Lib.hid hs
    clear hs
    go_wp2_with (go_at_call 55; fail)
    refine (HDS.out _ hI1.out.b HS.out htn).mono ?_
    rintro e w2 ⟨A2, n2, c2, ok, rfl, h1, h2, h3, h4, hb2⟩
    have hI2 := Lib.hid (hI1.out.below hb2)
    have H2 := Lib.hid (And.intro h2 (And.intro h3 h4))
    clear x0 x1 x2 x3 x4 x5 x6 x7 x8 x9 s0 s1 s2 s3 s4 hI1 h2 h3 h4
    obtain ⟨s0, s1, s2, s3, s4⟩ := bk5 hI2.out.s
    cases ok with
    | false =>
      go_wp2
      go_ret2
      exact ⟨none, 0, 0, _, rfl, Nat.le_refl _, ⟨fun _ => rfl, fun a e => by cases e⟩, (fun h => by omega), hI2.out.b⟩
    | true =>
      have hm := H2.out.2.1 (by simp)
      obtain ⟨mk, hn2, hr2⟩ := hm
      have hlen : n2 ≤ 100000 := by
       obtain ⟨⟨q0, q1, q2⟩, hk, q3, q4⟩ := shB_spec HS.out
       have := doesL_len (k := k.toNat) (f := f.toNat) (t := t.toNat) (g := g.toNat) (h := h.toNat) (i := i.toNat) mk HL.out.1 HL.out.2 (by omega) (by omega) (by omega) (fun e => by have := q3 (by omega); omega)
       omega
      have HN2 := Lib.hid hn2
      have HR2 := Lib.hid hr2
      have hdc := Lib.hid (HDC.out A2 n2 c2 _ _ hI2.out.b hr2 hlen h1)
      clear hn2 hr2
      go_wp2_with (go_at_call 56; fail)
      refine hdc.out.mono ?_
      rintro e w3 ⟨⟨er, rfl⟩, hb3⟩
      by_cases her : er = 0
      ·have e1 : (er != 0) = false := by simp [her]
       clear her
       go_wp2
       go_ret2
       exact ⟨A2, n2, c2, 0, rfl, h1, ⟨H2.out.1.1, fun a e => Nat.le_trans hz1 (H2.out.1.2 a e)⟩, (fun _ => ⟨HS.out, htn, mk, HN2.out, (HR2.out.below hb3).more hb3.size⟩), (hI2.out.below hb3).b⟩
      ·have e1 : (er != 0) = true := by simp [her]
       have HER := Lib.hid her
       clear her
       go_wp2
       go_ret2
       exact ⟨none, 0, 0, _, rfl, Nat.le_refl _, ⟨fun _ => rfl, fun a e => by cases e⟩, (fun h => absurd h HER.out), (hI2.out.below hb3).b⟩
   ·have htn' : (n : Int) < t := by omega
    go_wp2
    go_ret2
    exact ⟨none, 0, 0, _, rfl, Nat.le_refl _, ⟨fun _ => rfl, fun a e => by cases e⟩, (fun h => by omega), hI1.out.b⟩
end
end Go.Proofs.YtmacfoebfpljoaaGreat
namespace Go.Proofs.YtmacfoebfpljoaaGreat
open Go.RowKit
/-- all but these blocks lie as they lay -/
def KeptX (X : Nat → Prop) (W W' : World) : Prop := W.heap.size ≤ W'.heap.size ∧ ∀ k, k < W.heap.size → ¬ X k → W'.heap[k]? = W.heap[k]?
def KeptB (b : Nat) (X : Nat → Prop) (W W' : World) : Prop := W.heap.size ≤ W'.heap.size ∧ ∀ k, b ≤ k → k < W.heap.size → ¬ X k → W'.heap[k]? = W.heap[k]?
theorem KeptX.from {X : Nat → Prop} {W W' : World} (h : KeptX X W W') (b : Nat) : KeptB b X W W' := ⟨h.1, fun k _ h1 h2 => h.2 k h1 h2⟩
end Go.Proofs.YtmacfoebfpljoaaGreat
namespace Go.Proofs.YtmacfoebfpljoaaGreat
open Go.RowKit
set_option linter.unusedVariables false
theorem uErM : Tryz.prog.underlying 118 = some (.map 3 4) := Tryz.underlying118
theorem erKey : Go.Maps.Keyed Tryz.prog 3 := Go.Maps.int_keyed Tryz.underlying3
def Bd (k : Int) : Prop := -9223372036854775808 ≤ k ∧ k ≤ 9223372036854775807
theorem erkey_of {k : Int} (h : Bd k) : keyOf Tryz.prog 3 (.int .i64 k) = some (.int .i64 k) := Go.Maps.keyOf_int_mk Tryz.underlying3 (by
 obtain ⟨h1, h2⟩ := h
 simp only [Lit.wf, Bool.and_eq_true, decide_eq_true_eq, IntKind.min_i64, IntKind.max_i64]
 exact ⟨h1, h2⟩)
theorem erkl {k : Int} (h : Bd k) : WideAt.IsKeyLit (.int .i64 k) := erKey.key (erkey_of h)
/-- how an element reads -/
noncomputable def bEl (v : Value) : Option (DataW Unit × List MemPlace) := plainElem Tryz.prog 4 v
theorem bEl_mk (x : Bool) : bEl (.bool x) = some (.lit (.bool x), []) := plainElem_bool Tryz.underlying4 x
theorem bEl_inv {v : Value} {z : DataW Unit × List MemPlace} (h : bEl v = some z) : ∃ x, v = .bool x ∧ z = (.lit (.bool x), []) := by
 unfold bEl plainElem at h
 rw [Tryz.underlying4] at h
 cases v <;> simp at h
 exact ⟨_, rfl, h.symm⟩
/-- block b is a map of at most n events, and er of an event is what it says -/
def ErIs (w : World) (b n : Nat) (er : Int → Bool) : Prop := ∃ D : DataW Unit, w.ownsMap Tryz.prog 3 bEl b n D ∧ Go.Maps.IsMap D ∧ ∀ k, Bd k → D.atKey (.int .i64 k) (.lit (.bool false)) = .lit (.bool (er k))
theorem ErIs.keep {w w' : World} {b n : Nat} {er : Int → Bool} (h : ErIs w b n er) (hb : w'.heap[b]? = w.heap[b]?) : ErIs w' b n er := by
 obtain ⟨D, ⟨es, clock, h1, h2⟩, h3⟩ := h
 exact ⟨D, ⟨es, clock, hb.trans h1, h2⟩, h3⟩
theorem ErIs.at_ {w : World} {b n : Nat} {er : Int → Bool} (h : ErIs w b n er) : ∃ es clock, w.heap[b]? = some (.map es clock) := by
 obtain ⟨D, ⟨es, clock, h1, h2⟩, h3⟩ := h
 exact ⟨es, clock, h1⟩
theorem ErIs.lt {w : World} {b n : Nat} {er : Int → Bool} (h : ErIs w b n er) : b < w.heap.size := by
 obtain ⟨es, clock, h1⟩ := h.at_
 exact (Array.getElem?_eq_some_iff.1 h1).1
theorem ErIs.below {w w' : World} {b n : Nat} {er : Int → Bool} (h : ErIs w b n er) (hb : Below w.heap.size w w') : ErIs w' b n er := h.keep (hb.block b h.lt)
theorem ErIs.ne {w : World} {b n c : Nat} {er : Int → Bool} {t : TypeId} {cs : Array Value} (h : ErIs w b n er) (k : Bk w c t cs) : b ≠ c := by
 rintro rfl
 obtain ⟨es, clock, h1⟩ := h.at_
 have h2 : w.heap[b]? = some (.cells cs t (0, 0)) := k
 rw [h1] at h2
 cases h2
theorem ErIs.set_ {w : World} {b n : Nat} {er : Int → Bool} {p : Addr} (h : ErIs w b n er) (hp : b ≠ p.block) (u : Value) : ErIs (w.setCell p u) b n er := h.keep (Below.heap_setCell w p u b hp)
theorem ErIs.look {w : World} {b n : Nat} {er : Int → Bool} (h : ErIs w b n er) {k : Int} (hk : Bd k) : (Instr.lookup 118 (.map (some b)) (.int .i64 k) false).run Tryz.prog w = .ok (.bool (er k)) w := by
 obtain ⟨D, ho, hm, h3⟩ := h
 have hz : (zeroValue 4).run Tryz.prog w = .ok (.bool false) w := by kernel_rfl
 obtain ⟨v, ps, hrun, hv⟩ := ho.lookup erKey uErM hz (bEl_mk false) (erkey_of hk)
 obtain ⟨x, rfl, hz⟩ := bEl_inv hv
 rw [h3 k hk] at hz
 injection hz with hz
 injection hz with hz
 injection hz with hz
 rw [hz]
 exact hrun
theorem ErIs.made (w : World) : ErIs (w.alloc (.map #[] 0)) w.heap.size 0 (fun _ => false) := ⟨.map [], World.ownsMap_made w _ _ _, ⟨_, rfl⟩, fun k hk => rfl⟩
theorem ErIs.put {w : World} {b n : Nat} {er : Int → Bool} (h : ErIs w b n er) (hn : n < maxLen) {k : Int} (hk : Bd k) (x : Bool) :
 ∃ w', (Instr.mapUpdate 118 (.map (some b)) (.int .i64 k) (.bool x)).run Tryz.prog w = .ok () w' ∧ ErIs w' b (n + 1) (fun i => if i = k then x else er i) ∧ w.grownBy w' (some b) ∧ w'.heap.size = w.heap.size := by
 obtain ⟨D, ho, hm, h3⟩ := h
 obtain ⟨w', h4, h5, h6⟩ := ho.store erKey uErM hn (erkey_of hk) (bEl_mk x)
 refine ⟨w', h4, ⟨_, h5, ?_, fun i hi => ?_⟩, h6.grown, ?_⟩
 ·exact h5.isMap
 ·by_cases e : i = k
  ·subst e
   rw [Go.Maps.atKey_put_same hm (erkl hk)]
   simp
  ·rw [Go.Maps.atKey_put_other (by simp [e])]
   rw [h3 i hi]
   simp [e]
 ·obtain ⟨es, clock, es', clock', hb, rfl⟩ := h6
  simp [ChangeMaps.setBlock]
section
variable {ops : Array Oper} {rest : List Oper} {o : Oper} {a : Act} {Q : Exit → Act → World → Prop}
/-- 'm[k]', in the walk -/
theorem wpList_look (w : World) (hg : o.guard = none) (m x : Operand) (hop : o.op = Op.lookup 118 m x false) (b n : Nat) (er : Int → Bool) (k : Int) (hm : a.eval m = .map (some b)) (hx : a.eval x = .int .i64 k)
 (h : ErIs w b n er) (hk : Bd k) (hK : wpList Tryz.prog ops Q rest (a.put o.dst (.bool (er k))) w) : wpList Tryz.prog ops Q (o :: rest) a w := by
 refine wpList_plain hg fun K' hK' => ?_
 have hrun := h.look hk
 unfold Oper.wp
 simp [execOp, hop, hm, hx, hrun, Result.andThen]
 exact hK' _ _ hK
end
end Go.Proofs.YtmacfoebfpljoaaGreat
namespace Go.Proofs.YtmacfoebfpljoaaGreat
open Go.ChangeShapes Go.WideShapes Go.ChangeAt Go.RowKit
theorem own : ownKnob Tryz.prog.godebug = none := by kernel_rfl
theorem laidOut : laidOutB Tryz.prog = true := by kernel_rfl
theorem block_lt {w : World} {a : Addr} {v : Value} (h : w.cell? a = some v) : a.block < w.heap.size := by
 unfold World.cell? at h
 rcases Nat.lt_or_ge a.block w.heap.size with hlt | hge
 ·exact hlt
 ·rw [Array.getElem?_eq_none hge] at h; simp at h
/-- cells that lie from an address on, as a slice that is read -/
theorem rd_of_cells {w : World} {x : Addr} {n size : Nat} {xs : List Value} (hl : xs.length = n * size) (hs : 0 < size) (h : ∀ i u, xs[i]? = some u → w.cell? (x.add i) = some u) : Rd w w.heap.size size (some x) n xs := by
 refine ⟨hl, fun hn => ?_⟩
 have hpos : 0 < xs.length := by rw [hl]; exact Nat.mul_pos hn hs
 obtain ⟨u, hu⟩ : ∃ u, xs[0]? = some u := ⟨_, List.getElem?_eq_getElem hpos⟩
 have h0 := h 0 u hu
 obtain ⟨b, o, sp⟩ := x
 have hsp : sp = none := by simpa [Addr.add] using World.cell?_spot h0
 subst hsp
 refine ⟨b, o, rfl, ?_, fun j u hu => ?_⟩
 ·have := block_lt h0
  rwa [add_flat] at this
 ·rw [← add_flat]; exact h j u hu
/-- a slice of integers that came in -/
theorem open_row {H : Type} {enc : TypeId × Value → H} {W : World} {b : Nat} {sp : Nat → Bool} {hd : Bool} {T E : TypeId} {k : IntKind} {a : Option Addr} {len cap : Nat} {d : DataW H} {p : List MemPlace}
 (hT : Tryz.prog.underlying T = some (.slice E)) (hE : Tryz.prog.underlying E = some (.int k)) (hc : Tryz.prog.cellsOf E = 1) (h : DataW.Trod enc Tryz.prog W b sp hd T (.slice a len cap) d p) :
 ∃ zs : List Int, Rd W W.heap.size 1 a len (zs.map (Value.int k)) ∧ len ≤ cap ∧ cap ≤ maxLen ∧ (a = none → len = 0) ∧ ∀ n ∈ zs, (Lit.int k n).wf = true := by
 obtain ⟨fuel, hf⟩ := h
 rcases open_ints hT hE hc hf with ⟨hcs, _⟩ | ⟨x, l, c, zs, hcs, _, hl, hm, hz, _, hcell, hwz⟩
 ·simp [Value.cells] at hcs
  obtain ⟨rfl, rfl, rfl⟩ := hcs
  exact ⟨[], Rd.nil_ _ _ _ _, by omega, by unfold maxLen; omega, fun _ => rfl, by simp⟩
 ·simp [Value.cells] at hcs
  obtain ⟨rfl, rfl, rfl⟩ := hcs
  have hz' : len ≤ zs.length := by
   have : zs.length = if sp x.block = true then cap else len := by simpa using hz
   rw [this]; split <;> omega
  refine ⟨zs.take len, rd_of_cells (by simp; omega) (by omega) ?_, hl, hm, by simp, fun n hn => hwz n (List.mem_of_mem_take hn)⟩
  intro i u hu
  rw [List.getElem?_map] at hu
  cases hz' : (zs.take len)[i]? with
  | none => rw [hz'] at hu; simp at hu
  | some z =>
    rw [hz'] at hu
    simp at hu
    subst hu
    rw [List.getElem?_take] at hz'
    split at hz'
    ·obtain ⟨hlt, rfl⟩ := List.getElem?_eq_some_iff.1 hz'
     rw [hcell i hlt, List.getD_eq_getElem?_getD, List.getElem?_eq_getElem hlt]; rfl
    ·simp at hz'
end Go.Proofs.YtmacfoebfpljoaaGreat
namespace Go.Proofs.YtmacfoebfpljoaaGreat
open Go.ChangeShapes Go.WideShapes Go.ChangeAt Go.RowKit
theorem flat_len {α : Type} (R : α → List Value) {s : Nat} (hR : ∀ x, (R x).length = s) (l : List α) : (l.flatMap R).length = l.length * s := by
 induction l with
 | nil => simp
 | cons x l ih => simp only [List.flatMap_cons, List.length_append, ih, hR, List.length_cons, Nat.add_mul]; omega
theorem flat_get {α : Type} (R : α → List Value) {s : Nat} (hR : ∀ x, (R x).length = s) {l : List α} {k i : Nat} (hi : i < s) : (l.flatMap R)[k * s + i]? = (l[k]?).bind fun x => (R x)[i]? := by
 induction l generalizing k with
 | nil => simp
 | cons x l ih =>
   rw [List.flatMap_cons]
   cases k with
   | zero => rw [List.getElem?_append_left (by rw [hR]; omega)]; simp
   | succ k =>
     rw [List.getElem?_append_right (by rw [hR, Nat.add_mul]; omega), hR, show (k + 1) * s + i - s = k * s + i by rw [Nat.add_mul]; omega, ih]
     simp
theorem open_els {H : Type} {enc : TypeId × Value → H} {W : World} {b : Nat} {sp : Nat → Bool} {hd : Bool} {T E : TypeId} {a : Option Addr} {len cap : Nat} {d : DataW H} {pl : List MemPlace}
 {α : Type} [Inhabited α] (R : α → List Value) (p : α → Prop) {s : Nat} (hT : Tryz.prog.underlying T = some (.slice E)) (hc : Tryz.prog.cellsOf E = s) (hs : 0 < s) (hR : ∀ x, (R x).length = s)
 (h : ∃ fuel, DataW.trod enc Tryz.prog W b sp hd fuel T [.slice a len cap] = some (d, pl))
 (hel : ∀ n cs y, DataW.trod enc Tryz.prog W b sp hd n E cs = some y → ∃ x, cs = R x ∧ p x) :
 ∃ l : List α, l.length = len ∧ Rd W W.heap.size s a len (l.flatMap R) ∧ len ≤ cap ∧ cap ≤ maxLen ∧ (a = none → len = 0) ∧ ∀ x ∈ l, p x := by
 obtain ⟨fuel, hf⟩ := h
 rcases Deep.open_slice hT hf with ⟨hcs, _⟩ | ⟨x, l, c, m, n, D, Pl, hcs, _, hl, hm, hmm, _, hx⟩
 ·simp at hcs
  obtain ⟨rfl, rfl, rfl⟩ := hcs
  exact ⟨[], rfl, Rd.nil_ _ _ _ _, by omega, by unfold maxLen; omega, fun _ => rfl, by simp⟩
 ·simp at hcs
  obtain ⟨rfl, rfl, rfl⟩ := hcs
  have hlm : len ≤ m := by rw [hmm]; split <;> omega
  obtain ⟨f, hf⟩ := Deep.choose_lt (α := α) (n := len) (p := fun i y => (∀ j, j < s → W.cell? ((x.add (i * s)).add j) = (R y)[j]?) ∧ p y) (fun i hi => by
   obtain ⟨cs', h1, h2⟩ := hx i (by omega)
   rw [hc] at h1
   obtain ⟨_, _, hcell⟩ := World.cells?_some h1
   obtain ⟨y, rfl, hy⟩ := hel _ _ _ h2
   exact ⟨y, hcell, hy⟩)
  refine ⟨(List.range len).map f, by simp, rd_of_cells (by rw [flat_len R hR]; simp) hs ?_, hl, hm, by simp, ?_⟩
  ·intro j u hu
   have e1 : j = j / s * s + j % s := by rw [Nat.mul_comm]; exact (Nat.div_add_mod j s).symm
   have h1 : j % s < s := Nat.mod_lt _ hs
   rw [e1, flat_get R hR h1] at hu
   obtain ⟨y, hy, hu⟩ := Option.bind_eq_some_iff.1 hu
   rw [List.getElem?_map] at hy
   obtain ⟨i, hi, rfl⟩ := Option.map_eq_some_iff.1 hy
   obtain ⟨hlt, hi⟩ := List.getElem?_eq_some_iff.1 hi
   simp at hlt hi
   subst hi
   have := (hf _ hlt).1 _ h1
   rw [Deep.add_add, ← e1] at this
   rw [this, hu]
  ·intro y hy
   obtain ⟨i, hi, rfl⟩ := List.mem_map.1 hy
   exact (hf i (List.mem_range.1 hi)).2
end Go.Proofs.YtmacfoebfpljoaaGreat
namespace Go.Proofs.YtmacfoebfpljoaaGreat
open Go.RowKit
set_option linter.unusedVariables false
def Gv.cells (g : Gv) : List Value := .int .i64 g.ev :: g.m.cells
def gvs (l : List Gv) : List Value := l.flatMap Gv.cells
def its (l : List Int) : List Value := l.map (Value.int .i64)
/-- an entry, and where its rows lie -/
structure EH where
 e : Ent
 (vt vo vg : Value)
deriving Inhabited
def EH.cells (x : EH) : List Value := x.e.tok.cells ++ [.int .i64 x.e.lab, .int .i64 x.e.made, .bool x.e.first, x.vt, x.vo, x.vg]
def ehs (l : List EH) : List Value := l.flatMap EH.cells
theorem EH.cells_len (x : EH) : x.cells.length = 18 := rfl
theorem ehs_len (l : List EH) : (ehs l).length = l.length * 18 := flat_len EH.cells (s := 18) EH.cells_len l
def EH.Has (x : EH) (k : Nat) : Prop := x.vt.ownBlock = some k ∨ x.vo.ownBlock = some k ∨ x.vg.ownBlock = some k
structure EH.In (x : EH) (w : World) (base : Nat) : Prop where
 t : w.ownsRow base 3 1 x.vt x.e.tk.length (its x.e.tk)
 o : w.ownsRow base 3 1 x.vo x.e.ov.length (its x.e.ov)
 g : w.ownsRow base 226 9 x.vg x.e.gv.length (gvs x.e.gv)
 ne : ∀ k, x.vt.ownBlock = some k → x.vo.ownBlock ≠ some k
 bm : Bd x.e.made
 bt : ∀ k ∈ x.e.tk, Bd k
 bg : ∀ k ∈ x.e.gv, Bd k.ev
section
variable {w w' : World} {base : Nat} {x y : EH} {Y : Nat → Prop}
theorem own_far {e : TypeId} {size n k : Nat} {v : Value} {xs : List Value} (h : w.ownsRow base e size v n xs) (hk : v.ownBlock = some k) : base ≤ k ∧ k < w.heap.size ∧ ∃ cs, Bk w k e cs := by
 rcases h.2 with ⟨rfl, -⟩ | ⟨g, cap, cur, rfl, hb, hh, -⟩
 ·simp [Value.ownBlock] at hk
 ·simp [Value.ownBlock] at hk
  subst hk
  exact ⟨hb, def_lt' hh, cur, hh⟩
theorem EH.In.has (h : x.In w base) {k : Nat} (hk : x.Has k) : base ≤ k ∧ k < w.heap.size ∧ ∃ t cs, Bk w k t cs ∧ (t = 3 ∨ t = 226) := by
 rcases hk with hk | hk | hk
 ·obtain ⟨h1, h2, cs, h3⟩ := own_far h.t hk
  exact ⟨h1, h2, _, cs, h3, .inl rfl⟩
 ·obtain ⟨h1, h2, cs, h3⟩ := own_far h.o hk
  exact ⟨h1, h2, _, cs, h3, .inl rfl⟩
 ·obtain ⟨h1, h2, cs, h3⟩ := own_far h.g hk
  exact ⟨h1, h2, _, cs, h3, .inr rfl⟩
/-- a block of another type is none of an entry's -/
theorem EH.In.not (h : x.In w base) {k : Nat} {t : TypeId} {cs : Array Value} (hb : Bk w k t cs) (h1 : t ≠ 3) (h2 : t ≠ 226) : ¬ x.Has k := by
 intro hk
 obtain ⟨-, -, t', cs', h3, h4⟩ := h.has hk
 have h5 : w.heap[k]? = some (.cells cs t (0, 0)) := hb
 have h6 : w.heap[k]? = some (.cells cs' t' (0, 0)) := h3
 rw [h5] at h6
 injection h6 with h6
 injection h6 with _ h6
 subst h6
 rcases h4 with h4 | h4
 ·exact h1 h4
 ·exact h2 h4
theorem EH.In.sti (h : x.In w base) (hs : Sti Y w w') (hy : ∀ k, x.Has k → ¬ Y k) : x.In w' base :=
 ⟨hs.own h.t (fun g hg => hy g (.inl hg)), hs.own h.o (fun g hg => hy g (.inr (.inl hg))), hs.own h.g (fun g hg => hy g (.inr (.inr hg))), h.ne, h.bm, h.bt, h.bg⟩
theorem EH.In.below (h : x.In w base) (hb : Below w.heap.size w w') : x.In w' base := h.sti (Sti.of_below (Y := fun _ => False) hb) (fun _ _ => id)
/-- an entry's cells are written at one place -/
theorem own_putN {e : TypeId} {size g cap k n : Nat} {xs : List Value} (h : w.ownsRow base e size (.slice (some ⟨g, 0, none⟩) n cap) n xs) (hk : k < n * size) (u : Value) : (w.setCell ⟨g, k, none⟩ u).ownsRow base e size (.slice (some ⟨g, 0, none⟩) n cap) n (xs.set k u) := by
 obtain ⟨hl, h3⟩ := h
 refine ⟨by simpa using hl, .inr ?_⟩
 rcases h3 with ⟨h4, h5⟩ | ⟨g', cap', cur, hv, hb, hh, hnc, hcm, hsz, htk⟩
 ·subst h5; omega
 ·injection hv with e1 e2 e3
  injection e1 with e1
  injection e1 with e1
  subst e1
  subst e3
  have hk' : Bk w g e cur := hh
  refine ⟨g, cap, cur.setIfInBounds k u, rfl, hb, hk'.set_ k u, hnc, hcm, by simpa using hsz, ?_⟩
  rw [Array.toList_setIfInBounds, ← htk, List.take_set]
/-- no two entries share a row -/
def Apt (l : List EH) : Prop := l.Pairwise fun x y => ∀ k, x.Has k → ¬ y.Has k
theorem ehs_set {l : List EH} {i j : Nat} {x x' : EH} {u : Value} (hi : l[i]? = some x) (hj : j < 18) (hc : x'.cells = x.cells.set j u) : ehs (l.set i x') = (ehs l).set (i * 18 + j) u := by
 have hl := ehs_len l
 have hil := (List.getElem?_eq_some_iff.1 hi).1
 apply List.ext_getElem?
 intro q
 obtain ⟨a, b, hb, rfl⟩ : ∃ a b, b < 18 ∧ q = a * 18 + b := ⟨q / 18, q % 18, Nat.mod_lt _ (by omega), by omega⟩
 rw [show (ehs (l.set i x'))[a * 18 + b]? = _ from flat_get EH.cells EH.cells_len hb, List.getElem?_set, List.getElem?_set]
 by_cases e : i = a
 ·subst e
  rw [if_pos rfl, if_pos hil, Option.bind_some, hc, hl]
  by_cases e2 : j = b
  ·subst e2
   rw [List.getElem?_set_self (by rw [EH.cells_len]; exact hj), if_pos rfl, if_pos (by omega)]
  ·rw [List.getElem?_set_ne e2, if_neg (by omega), show (ehs l)[i * 18 + b]? = _ from flat_get EH.cells EH.cells_len hb, hi]
   rfl
 ·rw [if_neg e, if_neg (by omega), show (ehs l)[a * 18 + b]? = _ from flat_get EH.cells EH.cells_len hb]
/-- a ledger -/
structure LdIn (w : World) (base g mb n : Nat) (sv : Value) (nx : Int) (l : List EH) (er : Int → Bool) : Prop where
 k : Bk w g 121 #[sv, .map (some mb), .int .i64 nx]
 le : base ≤ g
 lm : base ≤ mb
 row : w.ownsRow base 129 18 sv l.length (ehs l)
 er : ErIs w mb n er
 each : ∀ x ∈ l, x.In w base
 apt : Apt l
variable {g mb n : Nat} {sv : Value} {nx : Int} {l : List EH} {er : Int → Bool}
theorem LdIn.below (h : LdIn w base g mb n sv nx l er) (hb : Below w.heap.size w w') : LdIn w' base g mb n sv nx l er :=
 ⟨h.k.ext hb, h.le, h.lm, own_below h.row hb, h.er.below hb, fun x hx => (h.each x hx).below hb, h.apt⟩
/-- the blocks that a ledger's calls write -/
def LdIn.Mine (g mb : Nat) (sv : Value) (l : List EH) (k : Nat) : Prop := k = g ∨ k = mb ∨ sv.ownBlock = some k ∨ ∃ x ∈ l, x.Has k
theorem LdIn.ge (h : LdIn w base g mb n sv nx l er) {k : Nat} (hk : LdIn.Mine g mb sv l k) : base ≤ k := by
 rcases hk with rfl | rfl | hk | ⟨x, hx, hk⟩
 ·exact h.le
 ·exact h.lm
 ·exact (own_far h.row hk).1
 ·exact ((h.each x hx).has hk).1
/-- an entry is written: a row of its own grows, and the entry's cell is set -/
theorem LdIn.upd {b c i j : Nat} {x x' : EH} {u : Value} (h : LdIn w base g mb n (.slice (some ⟨b, 0, none⟩) l.length c) nx l er) (hi : l[i]? = some x) (hs : Sti x.Has w w') (hx' : x'.In w' base) (hbl : ∀ k, x'.Has k → x.Has k ∨ w.heap.size ≤ k)
 (hj : j < 18) (hc : x'.cells = x.cells.set j u) : LdIn (w'.setCell ⟨b, i * 18 + j, none⟩ u) base g mb n (.slice (some ⟨b, 0, none⟩) l.length c) nx (l.set i x') er := by
 have hil := (List.getElem?_eq_some_iff.1 hi).1
 have hx := h.each x (List.mem_of_getElem? hi)
 obtain ⟨-, hbs, cs, hbk⟩ := own_far (k := b) h.row rfl
 have nb : ∀ y ∈ l, ¬ y.Has b := fun y hy => (h.each y hy).not hbk (by decide) (by decide)
 have hk' : Bk w' g 121 _ := hs.bk h.k (hx.not h.k (by decide) (by decide))
 have hgb : g ≠ b := by
  rintro rfl
  have h5 : w.heap[g]? = some (.cells cs 129 (0, 0)) := hbk
  have h6 : w.heap[g]? = some (.cells _ 121 (0, 0)) := h.k
  rw [h5] at h6
  injection h6 with h6
  injection h6 with _ h6
  exact absurd h6 (by decide)
 have hme : w'.heap[mb]? = w.heap[mb]? := hs.block mb h.er.lt (fun hk => by
  obtain ⟨-, -, t, cs', h3, -⟩ := hx.has hk
  exact h.er.ne h3 rfl)
 have hrow : w'.ownsRow base 129 18 (.slice (some ⟨b, 0, none⟩) l.length c) l.length (ehs l) := hs.own h.row (fun q hq => by
  have hq : some b = some q := hq
  injection hq with hq
  subst hq
  exact nb x (List.mem_of_getElem? hi))
 have hne : ∀ (y : EH), y.In w' base → y.In (w'.setCell ⟨b, i * 18 + j, none⟩ u) base := fun y hy => hy.sti (Y := fun q => q = b) ((Sti.refl (fun q => q = b) w').set_ (p := ⟨b, i * 18 + j, none⟩) (.inl rfl) u) (fun q hq e => by
  subst e
  obtain ⟨cs2, hbk2⟩ : ∃ cs2, Bk w' q 129 cs2 := (own_far (k := q) hrow rfl).2.2
  exact hy.not hbk2 (by decide) (by decide) hq)
 refine ⟨hk'.far (p := ⟨b, i * 18 + j, none⟩) hgb _, h.le, h.lm, ?_, (h.er.keep hme).set_ (p := ⟨b, i * 18 + j, none⟩) (fun e => h.er.ne hbk e) _, ?_, ?_⟩
 ·rw [ehs_set hi hj hc, List.length_set]
  exact own_putN hrow (by omega) u
 ·intro y hy
  refine hne y ?_
  obtain ⟨q, hq⟩ := List.mem_iff_getElem?.1 hy
  rw [List.getElem?_set] at hq
  by_cases e : i = q
  ·rw [if_pos e, if_pos (by omega)] at hq
   injection hq with hq
   subst hq
   exact hx'
  ·rw [if_neg e] at hq
   have hyl := List.mem_of_getElem? hq
   refine (h.each y hyl).sti hs (fun z hz hxz => ?_)
   have hp := List.pairwise_iff_getElem.1 h.apt
   obtain ⟨q1, q2⟩ := List.getElem?_eq_some_iff.1 hq
   obtain ⟨i1, i2⟩ := List.getElem?_eq_some_iff.1 hi
   rcases Nat.lt_or_gt_of_ne e with e | e
   ·exact hp i q i1 q1 e z (by rw [i2]; exact hxz) (by rw [q2]; exact hz)
   ·exact hp q i q1 i1 e z (by rw [q2]; exact hz) (by rw [i2]; exact hxz)
 ·unfold Apt
  rw [List.pairwise_iff_getElem]
  intro p q hp hq hpq z h1 h2
  rw [List.getElem_set] at h1 h2
  simp only [List.length_set] at hp hq
  have hpw := List.pairwise_iff_getElem.1 h.apt
  obtain ⟨i1, i2⟩ := List.getElem?_eq_some_iff.1 hi
  by_cases e1 : i = p
  ·subst e1
   rw [if_pos rfl] at h1
   rw [if_neg (by omega)] at h2
   rcases hbl z h1 with h3 | h3
   ·exact hpw i q hp hq hpq z (by rw [i2]; exact h3) h2
   ·have := ((h.each _ (List.getElem_mem hq)).has h2).2.1
    omega
  ·rw [if_neg e1] at h1
   by_cases e2 : i = q
   ·subst e2
    rw [if_pos rfl] at h2
    rcases hbl z h2 with h3 | h3
    ·exact hpw p i hp hq hpq z h1 (by rw [i2]; exact h3)
    ·have := ((h.each _ (List.getElem_mem hp)).has h1).2.1
     omega
   ·rw [if_neg e2] at h2
    exact hpw p q hp hq hpq z h1 h2
end
theorem int_at {w : World} {B n : Nat} {A : Option Addr} {ks : List Int} (h : Rd w B 1 A n (its ks)) {q : Nat} {v : Int} (hq : ks[q]? = some v) : ∃ b o, A = some ⟨b, o, none⟩ ∧ b < B ∧ w.cell? ⟨b, o + q, none⟩ = some (.int .i64 v) := by
 have hl : ks.length = n := by simpa [its] using h.1
 have hlt : q < n := by rw [← hl]; exact (List.getElem?_eq_some_iff.1 hq).1
 obtain ⟨b, o, u, e, hb, hu, hc⟩ := h.at1 hlt
 rw [its, List.getElem?_map, hq] at hu
 injection hu with hu
 subst hu
 exact ⟨b, o, e, hb, hc⟩
theorem lany_take {p : Int → Bool} {l : List Int} {k : Nat} {x : Int} (h : l[k]? = some x) : (l.take (k + 1)).any p = ((l.take k).any p || p x) := by
 rw [List.take_add_one, h]; simp
theorem lany_at {p : Int → Bool} {l : List Int} {k : Nat} {x : Int} (h : l[k]? = some x) (hp : p x = true) : l.any p = true := List.any_eq_true.2 ⟨x, List.mem_of_getElem? h, hp⟩
theorem th_index (A : Option Addr) (n c : Nat) (L : List Int) (p : Int → Bool) (cp : Value) (w : World) (hn : n ≤ maxLen) (hrd : Rd w w.heap.size 1 A n (its L))
 (hcl : ∀ W, Below w.heap.size w W → ∀ v ∈ L, Calls Tryz.prog 167 #[.int .i64 v, cp] W (On w W (.bool (p v)))) :
 Calls Tryz.prog 205 #[.slice A n c, .func (.func 167) #[] #[cp]] w fun e w' => ∃ r : Int, e = .returned (.int .i64 r) ∧ decide (0 ≤ r) = L.any p ∧ Below w.heap.size w w' := by
 have hl : L.length = n := by simpa [its] using hrd.1
 unfold maxLen at hn
 have HTC := Lib.hid hcl
 have HL := Lib.hid hl
 clear hcl hl
 go_enter Tryz.func205, Tryz.ntmps205
 go_wp2
 go_loopw [8] (fun j wr => ∃ k : Nat, k ≤ n ∧ j = .int .i64 k ∧ Hid ((L.take k).any p = false) ∧ Below w.heap.size w wr) (fun j _ => n - (intOf j).toNat)
 case atStart => exact ⟨0, by omega, rfl, Lib.hid (by simp), Below.refl _ _⟩
 case round =>
  obtain ⟨k, hk, rfl, hI, hbr⟩ := hrel
  by_cases hkn : k < n
  ·obtain ⟨s, hx⟩ : ∃ s, L[k]? = some s := ⟨_, List.getElem?_eq_getElem (by have := HL.out; omega)⟩
   obtain ⟨bb, o, rfl, hbb, d0⟩ := int_at (hrd.below hbr) hx
   have e3 : (k : Int) < n := by omega
   have hat := lany_take (p := p) hx
   have hcall := HTC.out wr hbr s (List.mem_of_getElem? hx)
   have HX := Lib.hid hx
   have HAT := Lib.hid hat
   clear hat hx
   cases hm : p s with
   | true =>
     rw [hm] at hcall
     have HC := Lib.hid hcall
     have HN : Hid (L.any p = true) := Lib.hid (lany_at HX.out hm)
     clear hcall hm HAT HX hI
     go_wp2_with (go_at_call 167; (refine HC.out.mono ?_); rintro e w1 ⟨rfl, hb1, hz1, _⟩)
     go_ret
     exact ⟨_, rfl, by rw [HN.out]; simp, hb1⟩
   | false =>
     rw [hm] at hcall
     have HC := Lib.hid hcall
     have HN : Hid ((L.take (k + 1)).any p = false) := Lib.hid (by rw [HAT.out, hI.out, hm]; rfl)
     clear hcall hm HAT HX hI
     go_wp2_with (go_at_call 167; (refine HC.out.mono ?_); rintro e w1 ⟨rfl, hb1, hz1, _⟩)
     go_roundw
     case rel => exact ⟨k + 1, by omega, by go_num, HN, hb1⟩
     case measure => simp [intOf]; omega
  ·obtain rfl : n = k := by omega
   have hall := hI.out
   rw [List.take_of_length_le (by rw [HL.out]; omega)] at hall
   have HN := Lib.hid hall
   clear hall hI
   go_wp2
   go_ret
   exact ⟨_, rfl, by rw [HN.out]; simp, hbr⟩
theorem th_contains (A : Option Addr) (n c : Nat) (L : List Int) (p : Int → Bool) (cp : Value) (w : World) (hn : n ≤ maxLen) (hrd : Rd w w.heap.size 1 A n (its L))
 (hcl : ∀ W, Below w.heap.size w W → ∀ v ∈ L, Calls Tryz.prog 167 #[.int .i64 v, cp] W (On w W (.bool (p v)))) :
 Calls Tryz.prog 166 #[.slice A n c, .func (.func 167) #[] #[cp]] w fun e w' => e = .returned (.bool (L.any p)) ∧ Below w.heap.size w w' := by
 have hi := th_index A n c L p cp w hn hrd hcl
 have HI := Lib.hid hi
 clear hi hcl
 go_enter Tryz.func166, Tryz.ntmps166
 go_wp2_with (go_at_call 205; (refine HI.out.mono ?_); rintro e w1 ⟨r, rfl, hr, hb1⟩)
 go_ret
 exact ⟨ret_bool (by first | exact hr | simp), hb1⟩
/-- an entry in a ledger, as it is read -/
structure EAt (w : World) (base g mb n b o : Nat) (sv : Value) (nx : Int) (x : EH) (er : Int → Bool) : Prop where
 k : Bk w g 121 #[sv, .map (some mb), .int .i64 nx]
 er : ErIs w mb n er
 c : ∀ j u, x.cells[j]? = some u → w.cell? ⟨b, o + j, none⟩ = some u
 lt : b < w.heap.size
 i : x.In w base
section
variable {w w' : World} {base g mb n b o : Nat} {sv : Value} {nx : Int} {x : EH} {er : Int → Bool}
theorem EAt.below (h : EAt w base g mb n b o sv nx x er) (hb : Below w.heap.size w w') : EAt w' base g mb n b o sv nx x er :=
 ⟨h.k.ext hb, h.er.below hb, fun j u hu => (hb.cell (p := ⟨b, o + j, none⟩) h.lt).trans (h.c j u hu), Nat.lt_of_lt_of_le h.lt hb.size, h.i.below hb⟩
end
theorem LdIn.at_ {w : World} {base g mb n i : Nat} {A : Option Addr} {c : Nat} {nx : Int} {l : List EH} {x : EH} {er : Int → Bool} (h : LdIn w base g mb n (.slice A l.length c) nx l er) (hi : l[i]? = some x) :
 ∃ b, A = some ⟨b, 0, none⟩ ∧ EAt w base g mb n b (i * 18) (.slice A l.length c) nx x er := by
 have hil := (List.getElem?_eq_some_iff.1 hi).1
 obtain ⟨hl, h3⟩ := h.row
 rcases h3 with ⟨h4, h5⟩ | ⟨b, cap, cur, hv, hb, hh, hnc, hcm, hsz, htk⟩
 ·omega
 ·injection hv with e1 e2 e3
  subst e1
  refine ⟨b, rfl, h.k, h.er, fun j u hu => ?_, def_lt' hh, h.each x (List.mem_of_getElem? hi)⟩
  have hj : j < 18 := by
   have := (List.getElem?_eq_some_iff.1 hu).1
   rwa [EH.cells_len] at this
  have h1 : (ehs l)[i * 18 + j]? = some u := by
   rw [show (ehs l)[i * 18 + j]? = _ from flat_get EH.cells EH.cells_len hj, hi]
   exact hu
  have hk' : Bk w b 129 cur := hh
  rw [hk'.cell]
  rw [← htk, List.getElem?_take] at h1
  split at h1
  ·simpa using h1
  ·cases h1
theorem there1_any (g mb n bx : Nat) (sv : Value) (nx v : Int) (er : Int → Bool) (w : World) (hk : Bk w g 121 #[sv, .map (some mb), .int .i64 nx]) (her : ErIs w mb n er) (hv : Bd v) (hx : w.cell? ⟨bx, 0, none⟩ = some (.pointer (some ⟨g, 0, none⟩))) (hbx : bx < w.heap.size) :
 Calls Tryz.prog 167 #[.int .i64 v, .pointer (some ⟨bx, 0, none⟩)] w fun e w' => e = .returned (.bool (!er v)) ∧ Below w.heap.size w w' := by
 have d1 := hk.cell 1
 have l1 := def_lt' hk
 dsimp at d1
 go_enter Tryz.func167, Tryz.ntmps167
 go_wp2_with (at_lookup; refine wpList_look _ rfl _ _ rfl mb n er v rfl rfl her hv ?_)
 go_ret
 exact ⟨rfl, Below.refl _ _⟩
/-- the entry's cells, and the box's -/
structure LTI (w W : World) (base g mb n b o : Nat) (sv : Value) (nx : Int) (x : EH) (er : Int → Bool) : Prop where
 e : EAt W base g mb n b o sv nx x er
 bx : Bk W w.heap.size 38 #[.pointer (some ⟨g, 0, none⟩)]
 b : Below w.heap.size w W
section
variable {w w' W : World} {base g mb n b o : Nat} {sv : Value} {nx : Int} {x : EH} {er : Int → Bool}
theorem LTI.below (h : LTI w W base g mb n b o sv nx x er) (hb : Below W.heap.size W w') : LTI w w' base g mb n b o sv nx x er := ⟨h.e.below hb, h.bx.ext hb, h.b.trans (hb.mono h.b.size)⟩
theorem EAt.cells (h : EAt W base g mb n b o sv nx x er) : W.cell? ⟨b, o + 13, none⟩ = some (.int .i64 x.e.made) ∧ W.cell? ⟨b, o + 14, none⟩ = some (.bool x.e.first) ∧ W.cell? ⟨b, o + 15, none⟩ = some x.vt ∧ W.cell? ⟨b, o + 16, none⟩ = some x.vo ∧ W.cell? ⟨b, o + 17, none⟩ = some x.vg ∧ W.cell? ⟨b, o + 12, none⟩ = some (.int .i64 x.e.lab) :=
 ⟨h.c 13 _ rfl, h.c 14 _ rfl, h.c 15 _ rfl, h.c 16 _ rfl, h.c 17 _ rfl, h.c 12 _ rfl⟩
theorem LTI.f (h : LTI w W base g mb n b o sv nx x er) : W.cell? ⟨b, o + 13, none⟩ = some (.int .i64 x.e.made) ∧ W.cell? ⟨b, o + 14, none⟩ = some (.bool x.e.first) ∧ W.cell? ⟨w.heap.size, 0, none⟩ = some (.pointer (some ⟨g, 0, none⟩)) ∧ W.cell? ⟨g, 1, none⟩ = some (.map (some mb)) ∧
 (Instr.lookup 118 (.map (some mb)) (.int .i64 x.e.made) false).run Tryz.prog W = .ok (.bool (er x.e.made)) W := by
 have d1 := h.e.k.cell 1
 have d2 := h.bx.cell 0
 exact ⟨h.e.cells.1, h.e.cells.2.1, d2, d1, h.e.er.look h.e.i.bm⟩
end
theorem lthere_any (base g mb n b o : Nat) (sv : Value) (nx : Int) (x : EH) (er : Int → Bool) (w : World) (h : EAt w base g mb n b o sv nx x er) :
 Calls Tryz.prog 123 #[.pointer (some ⟨g, 0, none⟩), .pointer (some ⟨b, o, none⟩)] w fun e w' => e = .returned (.bool (thereB er x.e)) ∧ Below w.heap.size w w' := by
 have hcn : ∀ W, LTI w W base g mb n b o sv nx x er → ∃ A c, x.vt = .slice A x.e.tk.length c ∧ Calls Tryz.prog 166 #[.slice A x.e.tk.length c, .func (.func 167) #[] #[.pointer (some ⟨w.heap.size, 0, none⟩)]] W fun e w' => e = .returned (.bool (x.e.tk.any fun v => !er v)) ∧ Below W.heap.size W w' := by
  intro W hI
  obtain ⟨A, c, e1, h1, h2, -, h3⟩ := own_form hI.e.i.t
  refine ⟨A, c, e1, th_contains A x.e.tk.length c x.e.tk (fun v => !er v) _ W (by omega) h3 (fun W' hb v hv => ?_)⟩
  have h4 := hI.below hb
  exact calls_on hb (there1_any g mb n w.heap.size sv nx v er W' h4.e.k h4.e.er (h4.e.i.bt v hv) (by simpa using h4.bx.cell 0) (def_lt' h4.bx))
 have HCN := Lib.hid hcn
 have hF : ∀ W, LTI w W base g mb n b o sv nx x er → _ := fun W hI => hI.f
 have HF := Lib.hid hF
 have HH := Lib.hid h
 have hlt := h.lt
 have hlg := def_lt' h.k
 clear hcn hF h
 go_enter Tryz.func123, Tryz.ntmps123
 go_upto_region 1 with fail
 have hI0 : LTI w (w.alloc (.cells #[.pointer (some ⟨g, 0, none⟩)] 38)) base g mb n b o sv nx x er := ⟨HH.out.below belowA, Bk.new w _ _, belowA⟩
 generalize w.alloc (.cells #[.pointer (some ⟨g, 0, none⟩)] 38) = w0 at *
 go_cut [20] (fun u wx => u = .bool (!x.e.first && er x.e.made) ∧ Hid (LTI w wx base g mb n b o sv nx x er))
 case first =>
  refine wp_normal ?_
  refine wp_region_held_drew (S := fun W => LTI w W base g mb n b o sv nx x er) (by kernel_rfl) (show LTI w w0.drew _ _ _ _ _ _ _ _ _ _ from hI0.below (Below.drew (Below.refl _ _))) (fun hHeld => ?_)
  cases hfs : x.e.first with
  | true =>
    rw [hfs] at HF
    (refine tkH 0 ?_; refine tkH 1 ?_; refine tkH 2 ?_; refine tkH 3 ?_; refine tkH 4 ?_; refine tkH 5 ?_; refine tnH 6 ?_; refine tnH 7 ?_; refine tnH 8 ?_; refine tnH 9 ?_; refine tnH 10 ?_; refine tnH 11 ?_; refine tnH 12 ?_; refine tnH 13 ?_; refine tnH 14 ?_; refine tkH 15 ?_)
    refine wpAnyH_done (by kernel_rfl) ?_ _
    go_wp2
    go_meet
    exact ⟨by rw [hfs]; rfl, Lib.hid hHeld⟩
  | false =>
    rw [hfs] at HF
    (refine tkH 0 ?_; refine tkH 1 ?_; refine tkH 2 ?_; refine tkH 3 ?_; refine tkH 4 ?_; refine tkH 5 ?_; refine tkH 6 ?_; refine tkH 7 ?_; refine tkH 8 ?_; refine tkH 9 ?_; refine tkH 10 ?_; refine tkH 11 ?_; refine tkH 12 ?_; refine tkH 13 ?_; refine tkH 14 ?_; refine tkH 15 ?_)
    refine wpAnyH_done (by kernel_rfl) ?_ _
    go_wp2
    go_meet
    exact ⟨by rw [hfs]; rfl, Lib.hid hHeld⟩
 case rest =>
 obtain ⟨rfl, hI1⟩ := hcut
 have hv : thereB er x.e = (!(!x.e.first && er x.e.made) && !(x.e.tk.any fun v => !er v)) := by
  unfold thereB
  rw [List.all_eq_not_any_not]
  cases x.e.first <;> cases er x.e.made <;> rfl
 have HV := Lib.hid hv
 clear hv
 obtain ⟨A, c, e1, hcn⟩ := HCN.out _ hI1.out
 have c2 := hI1.out.e.cells.2.2.1
 rw [e1] at c2
 have hlt1 := hI1.out.e.lt
 have HC := Lib.hid hcn
 clear hcn HCN e1
 cases hfe : (!x.e.first && er x.e.made) with
 | true =>
   rw [hfe] at HV
   go_wp2
   go_ret
   exact ⟨by rw [HV.out]; rfl, hI1.out.b⟩
 | false =>
   rw [hfe] at HV
   go_wp2_with (go_at_call 166; (refine HC.out.mono ?_); rintro e w1 ⟨rfl, hb1⟩)
   go_ret
   exact ⟨by rw [HV.out]; rfl, (hI1.out.below hb1).b⟩
end Go.Proofs.YtmacfoebfpljoaaGreat
