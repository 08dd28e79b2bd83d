/- merged texts: Hvo Rx Lb Z Y Lc Ld Le Pi -/
import Derived.Test.YtmacfoebfpljoaaGreatMl14
import Derived.Test.YtmacfoebfpljoaaGreatMl1
import Derived.Maps.OwnSet
import Derived.DataShut
import Derived.Test.YtmacfoebfpljoaaGreatRows
import Derived.ProofKit
import Derived.OpenShut
import Derived.ShutString
import Derived.ChangeOld
import Derived.Deep.Slices
import Derived.Deep.Strs
import Derived.Deep.MidRow
import Derived.OrdersIn
namespace Go.Proofs.YtmacfoebfpljoaaGreat
open Go.RowKit
set_option linter.unusedVariables false
theorem doesL_one (f t g h i : Nat) (sl : List Tok) (m : Nat → Mk) (l : List Tok) : doesL 1 f t g h i sl m l = l.take f ++ sl ++ l.drop t := by unfold doesL; rw [if_pos rfl]
theorem doesL_two (f t g h i : Nat) (sl : List Tok) (m : Nat → Mk) (l : List Tok) : doesL 2 f t g h i sl m l = l.take f ++ sl.take i ++ (l.take h).drop g ++ sl.drop i ++ l.drop t := by unfold doesL; rw [if_neg (by omega), if_pos rfl]
theorem doesL_more {k : Nat} (f t g h i : Nat) (sl : List Tok) (m : Nat → Mk) (l : List Tok) (hk : 3 ≤ k) : doesL k f t g h i sl m l = markL f t m l := by unfold doesL; rw [if_neg (by omega), if_neg (by omega)]; rfl
theorem doesL_len {k f t g h i n xn : Nat} {sl l : List Tok} (m : Nat → Mk) (hl : l.length = n) (hx : sl.length = xn) (hk : 1 ≤ k) (hft : f ≤ t) (htn : t ≤ n) (h2 : k = 2 → f ≤ g ∧ g ≤ h ∧ h ≤ t ∧ i ≤ xn) : (doesL k f t g h i sl m l).length ≤ n + xn := by
  rcases (show k = 1 ∨ k = 2 ∨ 3 ≤ k by omega) with rfl | rfl | h3
  · rw [doesL_one]; simp; omega
  · obtain ⟨a, b, c, d⟩ := h2 rfl
    rw [doesL_two]; simp; omega
  · rw [doesL_more f t g h i sl m l h3, markL_len]; omega
theorem DoesOut.of1 {f t g h i g' h' i' : Nat} {sl l : List Tok} {w w' : World} {e : Ending} (hd : DoesOut 1 f t g h i sl l w e w') : DoesOut 1 f t g' h' i' sl l w e w' := by
  obtain ⟨A, n, c, ok, h1, h2, h3, h4, h5, h6⟩ := hd
  refine ⟨A, n, c, ok, h1, h2, h3, (fun h => ?_), h5, h6⟩
  obtain ⟨m, h7, h8⟩ := h4 h
  rw [doesL_one] at h7 h8
  exact ⟨m, by rw [doesL_one]; exact h7, by rw [doesL_one]; exact h8⟩
theorem DoesOut.of3 {k f t g h i g' h' i' : Nat} {sl l : List Tok} {w w' : World} {e : Ending} (hk : 3 ≤ k) (hd : DoesOut k f t g h i sl l w e w') : DoesOut k f t g' h' i' sl l w e w' := by
  obtain ⟨A, n, c, ok, h1, h2, h3, h4, h5, h6⟩ := hd
  refine ⟨A, n, c, ok, h1, h2, h3, (fun h => ?_), h5, h6⟩
  obtain ⟨m, h7, h8⟩ := h4 h
  rw [doesL_more _ _ _ _ _ _ _ _ hk] at h7 h8
  exact ⟨m, by rw [doesL_more _ _ _ _ _ _ _ _ hk]; exact h7, by rw [doesL_more _ _ _ _ _ _ _ _ hk]; exact h8⟩
section
variable (base : Nat) (nv mv : Value) (ns : List Nd) (ms : List Mr) (PA TA EA : Option Addr) (pn pc tn tc en ec : Nat) (w : World)
set_option maxRecDepth 100000 in
set_option maxHeartbeats 8000000 in
theorem does25_3n (k : Int) (hk : k = 3 ∨ k = 4 ∨ k = 5) (m v g h i : Int) (XA YA : Option Addr) (c xn yn xc yc : Nat) (l sl : List Tok) (hD : DeclIn w base nv mv ns ms) (hr : Rd w w.heap.size 12 none 0 (toks l)) : Calls Tryz.prog 55 #[.agg #[nv, mv, .slice PA pn pc, .slice TA tn tc, .slice EA en ec], .slice none 0 c, .agg #[.int .i64 k, .int .i64 0, .int .i64 0, .int .i64 g, .int .i64 h, .int .i64 i, .int .i64 m, .int .i64 v, .slice XA xn xc, .slice YA yn yc]] w (DoesOut k.toNat 0 0 0 0 0 sl l w) := by
  obtain ⟨NA, nc, rfl, -, -, -, -⟩ := own_form hD.n
  obtain ⟨MA, mc, rfl, -, -, -, -⟩ := own_form hD.m
  have hl := hr.tlen
  have H := Lib.hid hr
  have e1 : (k == 1) = false := beq_false_of_ne (by omega)
  have e2 : (k == 2) = false := beq_false_of_ne (by omega)
  have e3 : 2 < k := by omega
  have hl0 : l = [] := List.eq_nil_of_length_eq_zero hl
  subst hl0
  have hd : ∀ mk, doesL k.toNat 0 0 0 0 0 sl mk [] = [] := fun mk => by rw [doesL_more _ _ _ _ _ _ _ _ (by omega)]; rfl
  have HD := Lib.hid hd
  have HK := Lib.hid hk
  clear hr hD hl hk hd
  go_enter Tryz.func55, Tryz.ntmps55
  go_upto_region 2 with fail
  have hI0 : XI w ((w.alloc (.cells #[.slice NA ns.length nc, .slice MA ms.length mc, .slice PA pn pc, .slice TA tn tc, .slice EA en ec] 32)).alloc (.cells #[.int .i64 k, .int .i64 0, .int .i64 0, .int .i64 g, .int .i64 h, .int .i64 i, .int .i64 m, .int .i64 v, .slice XA xn xc, .slice YA yn yc] 45)) #[.slice NA ns.length nc, .slice MA ms.length mc, .slice PA pn pc, .slice TA tn tc, .slice EA en ec] #[.int .i64 k, .int .i64 0, .int .i64 0, .int .i64 g, .int .i64 h, .int .i64 i, .int .i64 m, .int .i64 v, .slice XA xn xc, .slice YA yn yc] := ⟨(Bk.new w _ _).alloc _, Bk.made _ _ (by simp), belowA⟩
  generalize (w.alloc (.cells #[.slice NA ns.length nc, .slice MA ms.length mc, .slice PA pn pc, .slice TA tn tc, .slice EA en ec] 32)).alloc (.cells #[.int .i64 k, .int .i64 0, .int .i64 0, .int .i64 g, .int .i64 h, .int .i64 i, .int .i64 m, .int .i64 v, .slice XA xn xc, .slice YA yn yc] 45) = w0 at *
  have hz0 := hI0.b.size
  have hr0 := Lib.hid (fun W (hb : Below w0.heap.size w0 W) => show Rd W W.heap.size 12 none 0 (toks []) from ((H.out.below hI0.b).more hz0).below hb |>.more hb.size)
  obtain ⟨x0, x1, x2, x3, x4, x5, x6, x7, x8, x9⟩ := bk10 hI0.m
  go_upto_region 3 with (at_builtin; ((refine app_tok w0 w0.heap.size _ 0 [] (World.ownsRow_nil _ _ _ _) _ _ 0 c [] (hr0.out w0 (Below.refl _ _)) (fun e => rfl) (by omega) (Nat.le_refl _) rfl _ _ rfl rfl rfl ?_); intro A1 N1 c1 w1 hown1 hN1 hN1' hb1))
  have hI1 := Lib.hid (hI0.below hb1)
  simp only [List.nil_append] at hown1
  have HO1 := Lib.hid hown1
  clear x0 x1 x2 x3 x4 x5 x6 x7 x8 x9 hown1
  obtain ⟨x0, x1, x2, x3, x4, x5, x6, x7, x8, x9⟩ := bk10 hI1.out.m
  go_wp2
  go_loopw [8, 9] (fun u j wr => u = .slice A1 N1 c1 ∧ j = .int .i64 0 ∧ w1 = wr) (fun _ _ _ => 0)
  case atStart => exact ⟨rfl, rfl, rfl⟩
  case round =>
    obtain ⟨rfl, rfl, rfl⟩ := hrel
    have hend : ∀ (A3 : Option Addr) (N3 c3 : Nat) (w3 : World), w3.ownsRow w0.heap.size 126 12 (.slice A3 N3 c3) N3 (toks ([] ++ [])) → Below w0.heap.size w1 w3 → DoesOut k.toNat 0 0 0 0 0 sl [] w (.returned (.tuple #[.slice A3 N3 c3, .bool true])) w3 := fun A3 N3 c3 w3 h1 h2 => by
      obtain ⟨A', c', e', hle, -, hA, hrd⟩ := own_form h1
      injection e' with e1 e2 e3
      subst e1
      subst e3
      exact ⟨A3, N3, c3, true, rfl, hle, ⟨fun h => (hA h).1, fun a e => by subst e; exact Nat.le_trans hz0 (own_ge h1 a.block (by simp [Value.ownBlock]))⟩, (fun _ => ⟨fun _ => default, by rw [HD.out]; exact hrd.tlen.symm, by rw [HD.out]; exact hrd⟩), (fun h => by cases h), hI0.b.trans ((hb1.trans h2).mono hz0)⟩
    have HE := Lib.hid hend
    clear hend
    have hlt : ¬ (0 : Int) < 0 := by omega
    go_wp2_with (at_builtin; ((refine app_tok w1 w0.heap.size _ N1 _ HO1.out _ _ (0 - 0) (c - 0) [] (hr0.out w1 hb1) (fun e => rfl) (by omega) hb1.size rfl _ _ rfl rfl rfl ?_); intro A3 N3 c3 w3 hown3 hN3 hN3' hb3))
    all_goals
      go_ret2
      exact HE.out _ _ _ _ (by assumption) (by assumption)
/-- any step of a right shape, within the row -/
theorem does25_any (k f t g h i m v : Int) (A XA YA : Option Addr) (n c xn yn xc yc : Nat) (l sl : List Tok) (st : List Mk) (hD : DeclIn w base nv mv ns ms) (hr : Rd w w.heap.size 12 A n (toks l)) (hnc : n ≤ c) (hA : A = none → n = 0) (hn : n ≤ 60000) (hx : Rd w w.heap.size 12 XA xn (toks sl)) (hxc : xn ≤ xc) (hxA : XA = none → xn = 0) (hxn : xn ≤ 20000) (hy : Rd w w.heap.size 8 YA yn (mks st)) (hsh : shB k f t g h i m v xn yn = true) (htn : t ≤ n) : Calls Tryz.prog 55 #[.agg #[nv, mv, .slice PA pn pc, .slice TA tn tc, .slice EA en ec], .slice A n c, .agg #[.int .i64 k, .int .i64 f, .int .i64 t, .int .i64 g, .int .i64 h, .int .i64 i, .int .i64 m, .int .i64 v, .slice XA xn xc, .slice YA yn yc]] w (DoesOut k.toNat f.toNat t.toNat g.toNat h.toNat i.toNat sl l w) := by
  obtain ⟨⟨b0, b1, b2⟩, hk, h2, h1⟩ := shB_spec hsh
  have h5 := fun e => shB_spec5 hsh e
  obtain ⟨f, rfl⟩ : ∃ f' : Nat, f = (f' : Int) := ⟨f.toNat, by omega⟩
  obtain ⟨t, rfl⟩ : ∃ t' : Nat, t = (t' : Int) := ⟨t.toNat, by omega⟩
  simp only [Int.toNat_natCast]
  rcases A with _ | ad
  · obtain rfl : n = 0 := hA rfl
    obtain rfl : t = 0 := by omega
    obtain rfl : f = 0 := by omega
    rcases hk with rfl | rfl | hk
    · exact (does25_1n base nv mv ns ms PA TA EA pn pc tn tc en ec w m v g h i XA YA c xn yn xc yc l sl hD hr hx hxA hxn).mono fun e w' hd => hd.of1
    · obtain ⟨g1, g2, g3, g4, g5, g6⟩ := h2 rfl
      obtain rfl : g = 0 := by omega
      obtain rfl : h = 0 := by omega
      obtain ⟨i, rfl⟩ : ∃ i' : Nat, i = (i' : Int) := ⟨i.toNat, by omega⟩
      simp only [Int.toNat_natCast]
      rcases XA with _ | xd
      · exact (does25_2bn base nv mv ns ms PA TA EA pn pc tn tc en ec w i m v YA c xn yn xc yc l sl hD hr hx hxc (hxA rfl) hxn (by omega))
      · exact (does25_2an base nv mv ns ms PA TA EA pn pc tn tc en ec w i m v xd YA c xn yn xc yc l sl hD hr hx hxc hxn (by omega))
    · exact (does25_3n base nv mv ns ms PA TA EA pn pc tn tc en ec w k (by omega) m v g h i XA YA c xn yn xc yc l sl hD hr).mono fun e w' hd => hd.of3 (by omega)
  · rcases hk with rfl | rfl | hk
    · exact (does25_1 base nv mv ns ms PA TA EA pn pc tn tc en ec w f t m v g h i ad XA YA n c xn yn xc yc l sl hD hr hnc hn hx hxA hxn (by omega) (by omega)).mono fun e w' hd => hd.of1
    · obtain ⟨g1, g2, g3, g4, g5, g6⟩ := h2 rfl
      obtain ⟨g, rfl⟩ : ∃ g' : Nat, g = (g' : Int) := ⟨g.toNat, by omega⟩
      obtain ⟨h, rfl⟩ : ∃ h' : Nat, h = (h' : Int) := ⟨h.toNat, by omega⟩
      obtain ⟨i, rfl⟩ : ∃ i' : Nat, i = (i' : Int) := ⟨i.toNat, by omega⟩
      simp only [Int.toNat_natCast]
      rcases XA with _ | xd
      · exact (does25_2b base nv mv ns ms PA TA EA pn pc tn tc en ec w f t g h i m v ad YA n c xn yn xc yc l sl hD hr hnc hn hx hxc (hxA rfl) hxn (by omega) (by omega) (by omega) (by omega) (by omega))
      · exact (does25_2a base nv mv ns ms PA TA EA pn pc tn tc en ec w f t g h i m v ad xd YA n c xn yn xc yc l sl hD hr hnc hn hx hxc hxn (by omega) (by omega) (by omega) (by omega) (by omega))
    · exact (does25_3 base nv mv ns ms PA TA EA pn pc tn tc en ec w k (by omega) f t m v g h i ad XA YA n c xn yn xc yc l sl st hD hr hnc hn hy (fun e => by have := h5 e; omega) (by omega) (by omega)).mono fun e w' hd => hd.of3 (by omega)
end
/-- a step is done: what comes out -/
def ApplyOut (k f t g h i m v : Int) (n xn yn : Nat) (sl l : List Tok) (w : World) (e : Ending) (w' : World) : Prop := ∃ (A : Option Addr) (N c : Nat) (er : Int), e = .returned (.tuple #[.slice A N c, .int .i64 er]) ∧ N ≤ c ∧ New12 w A N ∧ (er = 0 → shB k f t g h i m v xn yn = true ∧ t ≤ n ∧ ∃ mk : Nat → Mk, N = (doesL k.toNat f.toNat t.toNat g.toNat h.toNat i.toNat sl mk l).length ∧ Rd w' w'.heap.size 12 A N (toks (doesL k.toNat f.toNat t.toNat g.toNat h.toNat i.toNat sl mk l))) ∧ Below w.heap.size w w'
section
variable (base : Nat) (nv mv pv tv ev : Value) (ns : List Nd) (ms : List Mr) (ps : List Pe) (bn : Nat) (mg : List Mg) (w : World)
set_option maxRecDepth 100000 in
set_option maxHeartbeats 8000000 in
theorem apply25_any (k f t g h i m v : Int) (A XA YA : Option Addr) (n c xn yn xc yc : Nat) (l sl : List Tok) (st : List Mk) (hS : Sc w base nv mv pv tv ev ns ms ps bn mg) (hr : Rd w w.heap.size 12 A n (toks l)) (hnc : n ≤ c) (hA : A = none → n = 0) (hn : n ≤ 60000) (hx : Rd w w.heap.size 12 XA xn (toks sl)) (hxc : xn ≤ xc) (hxA : XA = none → xn = 0) (hxn : xn ≤ 20000) (hy : Rd w w.heap.size 8 YA yn (mks st)) (hyn : yn ≤ 20000) : Calls Tryz.prog 12 #[.agg #[nv, mv, pv, tv, ev], .slice A n c, .agg #[.int .i64 k, .int .i64 f, .int .i64 t, .int .i64 g, .int .i64 h, .int .i64 i, .int .i64 m, .int .i64 v, .slice XA xn xc, .slice YA yn yc]] w (ApplyOut k f t g h i m v n xn yn sl l w) := by
  obtain ⟨NA, MA, PA, TA, EA, nc, mc, pc, tc, ec, rfl, rfl, rfl, rfl, rfl⟩ := hS.form
  have hl := hr.tlen
  have hxl := hx.tlen
  have hrt := fun W (hb : Below w.heap.size w W) => right25_any base _ _ ns ms PA TA EA ps.length pc bn tc mg.length ec W k f t g h i m v XA YA xn yn xc yc sl st (hS.d.below hb) hxn hyn ((hx.below hb).more hb.size) ((hy.below hb).more hb.size)
  have hds := fun W (hb : Below w.heap.size w W) (hsh : shB k f t g h i m v xn yn = true) (htn : t ≤ n) => does25_any base _ _ ns ms PA TA EA ps.length pc bn tc mg.length ec W k f t g h i m v A XA YA n c xn yn xc yc l sl st (hS.d.below hb) ((hr.below hb).more hb.size) hnc hA hn ((hx.below hb).more hb.size) hxc hxA hxn ((hy.below hb).more hb.size) hsh htn
  have hdc := fun A' n' c' l' W (hb : Below w.heap.size w W) (h1 : Rd W W.heap.size 12 A' n' (toks l')) (h2 : n' ≤ 100000) (h3 : n' ≤ c') => doc17_any base _ _ _ _ _ ns ms ps bn mg W A' n' c' l' (hS.below hb) h1 h2 h3
  have HRT := Lib.hid hrt
  have HDS := Lib.hid hds
  have HDC := Lib.hid hdc
  have HL := Lib.hid (And.intro hl hxl)
  clear hrt hds hdc hr hx hy hS hl hxl
  go_enter Tryz.func12, Tryz.ntmps12
  go_upto_region 1 with fail
  have hI0 : XI w ((w.alloc (.cells #[.slice NA ns.length nc, .slice MA ms.length mc, .slice PA ps.length pc, .slice TA bn tc, .slice EA mg.length ec] 32)).alloc (.cells #[.int .i64 k, .int .i64 f, .int .i64 t, .int .i64 g, .int .i64 h, .int .i64 i, .int .i64 m, .int .i64 v, .slice XA xn xc, .slice YA yn yc] 45)) #[.slice NA ns.length nc, .slice MA ms.length mc, .slice PA ps.length pc, .slice TA bn tc, .slice EA mg.length ec] #[.int .i64 k, .int .i64 f, .int .i64 t, .int .i64 g, .int .i64 h, .int .i64 i, .int .i64 m, .int .i64 v, .slice XA xn xc, .slice YA yn yc] := ⟨(Bk.new w _ _).alloc _, Bk.made _ _ (by simp), belowA⟩
  generalize (w.alloc (.cells #[.slice NA ns.length nc, .slice MA ms.length mc, .slice PA ps.length pc, .slice TA bn tc, .slice EA mg.length ec] 32)).alloc (.cells #[.int .i64 k, .int .i64 f, .int .i64 t, .int .i64 g, .int .i64 h, .int .i64 i, .int .i64 m, .int .i64 v, .slice XA xn xc, .slice YA yn yc] 45) = w0 at *
  obtain ⟨x0, x1, x2, x3, x4, x5, x6, x7, x8, x9⟩ := bk10 hI0.m
  obtain ⟨s0, s1, s2, s3, s4⟩ := bk5 hI0.s
  go_wp2_with (go_at_call 54; fail)
  refine (HRT.out _ hI0.b).mono ?_
  rintro e w1 ⟨b1, rfl, hsh, hb1⟩
  have hz1 := (hI0.below hb1).b.size
  have hI1 := Lib.hid (hI0.below hb1)
  have HSH := Lib.hid hsh
  clear x0 x1 x2 x3 x4 x5 x6 x7 x8 x9 s0 s1 s2 s3 s4 hI0 hsh hb1
  cases b1 with
  | false =>
    go_wp2
    go_ret2
    exact ⟨none, 0, 0, _, rfl, Nat.le_refl _, ⟨fun _ => rfl, fun a e => by cases e⟩, (fun h => by omega), hI1.out.b⟩
  | true =>
    obtain ⟨x0, x1, x2, x3, x4, x5, x6, x7, x8, x9⟩ := bk10 hI1.out.m
    obtain ⟨s0, s1, s2, s3, s4⟩ := bk5 hI1.out.s
    by_cases htn : t ≤ n
    · have hs := HSH.out (by simp)
      have HS := Lib.hid hs
      clear hs
      go_wp2_with (go_at_call 55; fail)
      refine (HDS.out _ hI1.out.b HS.out htn).mono ?_
      rintro e w2 ⟨A2, n2, c2, ok, rfl, h1, h2, h3, h4, hb2⟩
      have hI2 := Lib.hid (hI1.out.below hb2)
      have H2 := Lib.hid (And.intro h2 (And.intro h3 h4))
      clear x0 x1 x2 x3 x4 x5 x6 x7 x8 x9 s0 s1 s2 s3 s4 hI1 h2 h3 h4
      obtain ⟨s0, s1, s2, s3, s4⟩ := bk5 hI2.out.s
      cases ok with
      | false =>
        go_wp2
        go_ret2
        exact ⟨none, 0, 0, _, rfl, Nat.le_refl _, ⟨fun _ => rfl, fun a e => by cases e⟩, (fun h => by omega), hI2.out.b⟩
      | true =>
        have hm := H2.out.2.1 (by simp)
        obtain ⟨mk, hn2, hr2⟩ := hm
        have hlen : n2 ≤ 100000 := by
          obtain ⟨⟨q0, q1, q2⟩, hk, q3, q4⟩ := shB_spec HS.out
          have := doesL_len (k := k.toNat) (f := f.toNat) (t := t.toNat) (g := g.toNat) (h := h.toNat) (i := i.toNat) mk HL.out.1 HL.out.2 (by omega) (by omega) (by omega) (fun e => by have := q3 (by omega); omega)
          omega
        have HN2 := Lib.hid hn2
        have HR2 := Lib.hid hr2
        have hdc := Lib.hid (HDC.out A2 n2 c2 _ _ hI2.out.b hr2 hlen h1)
        clear hn2 hr2
        go_wp2_with (go_at_call 56; fail)
        refine hdc.out.mono ?_
        rintro e w3 ⟨⟨er, rfl⟩, hb3⟩
        by_cases her : er = 0
        · have e1 : (er != 0) = false := by simp [her]
          clear her
          go_wp2
          go_ret2
          exact ⟨A2, n2, c2, 0, rfl, h1, ⟨H2.out.1.1, fun a e => Nat.le_trans hz1 (H2.out.1.2 a e)⟩, (fun _ => ⟨HS.out, htn, mk, HN2.out, (HR2.out.below hb3).more hb3.size⟩), (hI2.out.below hb3).b⟩
        · have e1 : (er != 0) = true := by simp [her]
          have HER := Lib.hid her
          clear her
          go_wp2
          go_ret2
          exact ⟨none, 0, 0, _, rfl, Nat.le_refl _, ⟨fun _ => rfl, fun a e => by cases e⟩, (fun h => absurd h HER.out), (hI2.out.below hb3).b⟩
    · have htn' : (n : Int) < t := by omega
      go_wp2
      go_ret2
      exact ⟨none, 0, 0, _, rfl, Nat.le_refl _, ⟨fun _ => rfl, fun a e => by cases e⟩, (fun h => by omega), hI1.out.b⟩
end
end Go.Proofs.YtmacfoebfpljoaaGreat
namespace Go.Proofs.YtmacfoebfpljoaaGreat
open Go.RowKit
/-- all but these blocks lie as they lay -/
def KeptX (X : Nat → Prop) (W W' : World) : Prop := W.heap.size ≤ W'.heap.size ∧ ∀ k, k < W.heap.size → ¬ X k → W'.heap[k]? = W.heap[k]?
def KeptB (b : Nat) (X : Nat → Prop) (W W' : World) : Prop := W.heap.size ≤ W'.heap.size ∧ ∀ k, b ≤ k → k < W.heap.size → ¬ X k → W'.heap[k]? = W.heap[k]?
theorem KeptX.from {X : Nat → Prop} {W W' : World} (h : KeptX X W W') (b : Nat) : KeptB b X W W' := ⟨h.1, fun k _ h1 h2 => h.2 k h1 h2⟩
end Go.Proofs.YtmacfoebfpljoaaGreat
namespace Go.Proofs.YtmacfoebfpljoaaGreat
open Go.RowKit
set_option linter.unusedVariables false
theorem uErM : Tryz.prog.underlying 118 = some (.map 3 4) := Tryz.underlying118
theorem erKey : Go.Maps.Keyed Tryz.prog 3 := Go.Maps.int_keyed Tryz.underlying3
def Bd (k : Int) : Prop := -9223372036854775808 ≤ k ∧ k ≤ 9223372036854775807
theorem erkey_of {k : Int} (h : Bd k) : keyOf Tryz.prog 3 (.int .i64 k) = some (.int .i64 k) := Go.Maps.keyOf_int_mk Tryz.underlying3 (by
  obtain ⟨h1, h2⟩ := h
  simp only [Lit.wf, Bool.and_eq_true, decide_eq_true_eq, IntKind.min_i64, IntKind.max_i64]
  exact ⟨h1, h2⟩)
theorem erkl {k : Int} (h : Bd k) : WideAt.IsKeyLit (.int .i64 k) := erKey.key (erkey_of h)
/-- how an element reads -/
noncomputable def bEl (v : Value) : Option (DataW Unit × List MemPlace) := plainElem Tryz.prog 4 v
theorem bEl_mk (x : Bool) : bEl (.bool x) = some (.lit (.bool x), []) := plainElem_bool Tryz.underlying4 x
set_option maxRecDepth 100000 in
theorem bEl_inv {v : Value} {z : DataW Unit × List MemPlace} (h : bEl v = some z) : ∃ x, v = .bool x ∧ z = (.lit (.bool x), []) := by
  unfold bEl plainElem at h
  rw [Tryz.underlying4] at h
  cases v <;> simp at h
  exact ⟨_, rfl, h.symm⟩
/-- block b is a map of at most n events, and er of an event is what it says -/
def ErIs (w : World) (b n : Nat) (er : Int → Bool) : Prop := ∃ D : DataW Unit, w.ownsMap Tryz.prog 3 bEl b n D ∧ Go.Maps.IsMap D ∧ ∀ k, Bd k → D.atKey (.int .i64 k) (.lit (.bool false)) = .lit (.bool (er k))
theorem ErIs.keep {w w' : World} {b n : Nat} {er : Int → Bool} (h : ErIs w b n er) (hb : w'.heap[b]? = w.heap[b]?) : ErIs w' b n er := by
  obtain ⟨D, ⟨es, clock, h1, h2⟩, h3⟩ := h
  exact ⟨D, ⟨es, clock, hb.trans h1, h2⟩, h3⟩
theorem ErIs.at_ {w : World} {b n : Nat} {er : Int → Bool} (h : ErIs w b n er) : ∃ es clock, w.heap[b]? = some (.map es clock) := by
  obtain ⟨D, ⟨es, clock, h1, h2⟩, h3⟩ := h
  exact ⟨es, clock, h1⟩
theorem ErIs.lt {w : World} {b n : Nat} {er : Int → Bool} (h : ErIs w b n er) : b < w.heap.size := by
  obtain ⟨es, clock, h1⟩ := h.at_
  exact (Array.getElem?_eq_some_iff.1 h1).1
theorem ErIs.below {w w' : World} {b n : Nat} {er : Int → Bool} (h : ErIs w b n er) (hb : Below w.heap.size w w') : ErIs w' b n er := h.keep (hb.block b h.lt)
theorem ErIs.ne {w : World} {b n c : Nat} {er : Int → Bool} {t : TypeId} {cs : Array Value} (h : ErIs w b n er) (k : Bk w c t cs) : b ≠ c := by
  rintro rfl
  obtain ⟨es, clock, h1⟩ := h.at_
  have h2 : w.heap[b]? = some (.cells cs t (0, 0)) := k
  rw [h1] at h2
  cases h2
theorem ErIs.set_ {w : World} {b n : Nat} {er : Int → Bool} {p : Addr} (h : ErIs w b n er) (hp : b ≠ p.block) (u : Value) : ErIs (w.setCell p u) b n er := h.keep (Below.heap_setCell w p u b hp)
set_option maxRecDepth 100000 in
theorem ErIs.look {w : World} {b n : Nat} {er : Int → Bool} (h : ErIs w b n er) {k : Int} (hk : Bd k) : (Instr.lookup 118 (.map (some b)) (.int .i64 k) false).run Tryz.prog w = .ok (.bool (er k)) w := by
  obtain ⟨D, ho, hm, h3⟩ := h
  have hz : (zeroValue 4).run Tryz.prog w = .ok (.bool false) w := by kernel_rfl
  obtain ⟨v, ps, hrun, hv⟩ := ho.lookup erKey uErM hz (bEl_mk false) (erkey_of hk)
  obtain ⟨x, rfl, hz⟩ := bEl_inv hv
  rw [h3 k hk] at hz
  injection hz with hz
  injection hz with hz
  injection hz with hz
  rw [hz]
  exact hrun
theorem ErIs.made (w : World) : ErIs (w.alloc (.map #[] 0)) w.heap.size 0 (fun _ => false) := ⟨.map [], World.ownsMap_made w _ _ _, ⟨_, rfl⟩, fun k hk => rfl⟩
theorem ErIs.put {w : World} {b n : Nat} {er : Int → Bool} (h : ErIs w b n er) (hn : n < maxLen) {k : Int} (hk : Bd k) (x : Bool) :
    ∃ w', (Instr.mapUpdate 118 (.map (some b)) (.int .i64 k) (.bool x)).run Tryz.prog w = .ok () w' ∧ ErIs w' b (n + 1) (fun i => if i = k then x else er i) ∧ w.grownBy w' (some b) ∧ w'.heap.size = w.heap.size := by
  obtain ⟨D, ho, hm, h3⟩ := h
  obtain ⟨w', h4, h5, h6⟩ := ho.store erKey uErM hn (erkey_of hk) (bEl_mk x)
  refine ⟨w', h4, ⟨_, h5, ?_, fun i hi => ?_⟩, h6.grown, ?_⟩
  · exact h5.isMap
  · by_cases e : i = k
    · subst e
      rw [Go.Maps.atKey_put_same hm (erkl hk)]
      simp
    · rw [Go.Maps.atKey_put_other (by simp [e])]
      rw [h3 i hi]
      simp [e]
  · obtain ⟨es, clock, es', clock', hb, rfl⟩ := h6
    simp [ChangeMaps.setBlock]
theorem ErIs.del {w : World} {b n : Nat} {er : Int → Bool} (h : ErIs w b n er) {k : Int} (hk : Bd k) (ty : TypeId) :
    ∃ w', (Builtin.delete_ #[118, 3] ty #[.map (some b), .int .i64 k]).run Tryz.prog w = .ok (.tuple #[]) w' ∧ ErIs w' b n (fun i => if i = k then false else er i) ∧ w.grownBy w' (some b) ∧ w'.heap.size = w.heap.size := by
  obtain ⟨D, ho, hm, h3⟩ := h
  obtain ⟨w', h4, h5, h6⟩ := ho.drop erKey uErM (erkey_of hk) ty
  refine ⟨w', h4, ⟨_, h5, ?_, fun i hi => ?_⟩, h6.grown, ?_⟩
  · exact h5.isMap
  · by_cases e : i = k
    · subst e
      rw [Go.Maps.atKey_del_same]
      simp
    · rw [Go.Maps.atKey_del_other (by simp [e])]
      rw [h3 i hi]
      simp [e]
  · obtain ⟨es, clock, es', clock', hb, rfl⟩ := h6
    simp [ChangeMaps.setBlock]
section
variable {ops : Array Oper} {rest : List Oper} {o : Oper} {a : Act} {Q : Exit → Act → World → Prop}
/-- 'm[k]', in the walk -/
theorem wpList_look (w : World) (hg : o.guard = none) (m x : Operand) (hop : o.op = Op.lookup 118 m x false) (b n : Nat) (er : Int → Bool) (k : Int) (hm : a.eval m = .map (some b)) (hx : a.eval x = .int .i64 k)
    (h : ErIs w b n er) (hk : Bd k) (hK : wpList Tryz.prog ops Q rest (a.put o.dst (.bool (er k))) w) : wpList Tryz.prog ops Q (o :: rest) a w := by
  refine wpList_plain hg fun K' hK' => ?_
  have hrun := h.look hk
  unfold Oper.wp
  simp [execOp, hop, hm, hx, hrun, Result.andThen]
  exact hK' _ _ hK
theorem wpList_erput (w : World) (hg : o.guard = none) (m x v : Operand) (hop : o.op = Op.mapUpdate 118 m x v) (b n : Nat) (er : Int → Bool) (k : Int) (y : Bool) (hm : a.eval m = .map (some b)) (hx : a.eval x = .int .i64 k) (hv : a.eval v = .bool y)
    (h : ErIs w b n er) (hn : n < maxLen) (hk : Bd k) (hK : ∀ w', ErIs w' b (n + 1) (fun i => if i = k then y else er i) → w.grownBy w' (some b) → w'.heap.size = w.heap.size → wpList Tryz.prog ops Q rest (a.put o.dst undef) w') : wpList Tryz.prog ops Q (o :: rest) a w := by
  refine wpList_plain hg fun K' hK' => ?_
  obtain ⟨w', hrun, h1, h2, h3⟩ := h.put hn hk y
  unfold Oper.wp
  simp [execOp, hop, hm, hx, hv, hrun, Result.andThen]
  exact hK' _ _ (hK w' h1 h2 h3)
theorem wpList_erdel (w : World) (hg : o.guard = none) (m x : Operand) (hop : o.op = Op.call { callee := Callee.builtin Builtin.delete, args := #[m, x], argTypes := #[118, 3] }) (b n : Nat) (er : Int → Bool) (k : Int) (hm : a.eval m = .map (some b)) (hx : a.eval x = .int .i64 k)
    (h : ErIs w b n er) (hk : Bd k) (hK : ∀ w', ErIs w' b n (fun i => if i = k then false else er i) → w.grownBy w' (some b) → w'.heap.size = w.heap.size → wpList Tryz.prog ops Q rest (a.put o.dst (.tuple #[])) w') : wpList Tryz.prog ops Q (o :: rest) a w := by
  refine wpList_plain hg fun K' hK' => ?_
  obtain ⟨w', hrun, h1, h2, h3⟩ := h.del hk o.type
  unfold Oper.wp
  simp [execOp, hop, resolve, invoke, builtin, hm, hx, hrun, Result.andThen]
  exact hK' _ _ (hK w' h1 h2 h3)
end
end Go.Proofs.YtmacfoebfpljoaaGreat
namespace Go.Proofs.YtmacfoebfpljoaaGreat
open Go.ChangeShapes Go.WideShapes Go.ChangeAt Go.RowKit
theorem own : ownKnob Tryz.prog.godebug = none := by kernel_rfl
theorem laidOut : laidOutB Tryz.prog = true := by kernel_rfl
theorem block_lt {w : World} {a : Addr} {v : Value} (h : w.cell? a = some v) : a.block < w.heap.size := by
  unfold World.cell? at h
  rcases Nat.lt_or_ge a.block w.heap.size with hlt | hge
  · exact hlt
  · rw [Array.getElem?_eq_none hge] at h; simp at h
/-- cells that lie from an address on, as a slice that is read -/
theorem rd_of_cells {w : World} {x : Addr} {n size : Nat} {xs : List Value} (hl : xs.length = n * size) (hs : 0 < size) (h : ∀ i u, xs[i]? = some u → w.cell? (x.add i) = some u) : Rd w w.heap.size size (some x) n xs := by
  refine ⟨hl, fun hn => ?_⟩
  have hpos : 0 < xs.length := by rw [hl]; exact Nat.mul_pos hn hs
  obtain ⟨u, hu⟩ : ∃ u, xs[0]? = some u := ⟨_, List.getElem?_eq_getElem hpos⟩
  have h0 := h 0 u hu
  obtain ⟨b, o, sp⟩ := x
  have hsp : sp = none := by simpa [Addr.add] using World.cell?_spot h0
  subst hsp
  refine ⟨b, o, rfl, ?_, fun j u hu => ?_⟩
  · have := block_lt h0
    rwa [add_flat] at this
  · rw [← add_flat]; exact h j u hu
end Go.Proofs.YtmacfoebfpljoaaGreat
namespace Go.Proofs.YtmacfoebfpljoaaGreat
open Go.ChangeShapes Go.WideShapes Go.ChangeAt Go.RowKit
theorem flat_len {α : Type} (R : α → List Value) {s : Nat} (hR : ∀ x, (R x).length = s) (l : List α) : (l.flatMap R).length = l.length * s := by
  induction l with
  | nil => simp
  | cons x l ih => simp only [List.flatMap_cons, List.length_append, ih, hR, List.length_cons, Nat.add_mul]; omega
theorem flat_get {α : Type} (R : α → List Value) {s : Nat} (hR : ∀ x, (R x).length = s) {l : List α} {k i : Nat} (hi : i < s) : (l.flatMap R)[k * s + i]? = (l[k]?).bind fun x => (R x)[i]? := by
  induction l generalizing k with
  | nil => simp
  | cons x l ih =>
    rw [List.flatMap_cons]
    cases k with
    | zero => rw [List.getElem?_append_left (by rw [hR]; omega)]; simp
    | succ k =>
      rw [List.getElem?_append_right (by rw [hR, Nat.add_mul]; omega), hR, show (k + 1) * s + i - s = k * s + i by rw [Nat.add_mul]; omega, ih]
      simp
theorem open_els {H : Type} {enc : TypeId × Value → H} {W : World} {b : Nat} {sp : Nat → Bool} {hd : Bool} {T E : TypeId} {a : Option Addr} {len cap : Nat} {d : DataW H} {pl : List MemPlace}
    {α : Type} [Inhabited α] (R : α → List Value) (p : α → Prop) {s : Nat} (hT : Tryz.prog.underlying T = some (.slice E)) (hc : Tryz.prog.cellsOf E = s) (hs : 0 < s) (hR : ∀ x, (R x).length = s)
    (h : ∃ fuel, DataW.trod enc Tryz.prog W b sp hd fuel T [.slice a len cap] = some (d, pl))
    (hel : ∀ n cs y, DataW.trod enc Tryz.prog W b sp hd n E cs = some y → ∃ x, cs = R x ∧ p x) :
    ∃ l : List α, l.length = len ∧ Rd W W.heap.size s a len (l.flatMap R) ∧ len ≤ cap ∧ cap ≤ maxLen ∧ (a = none → len = 0) ∧ ∀ x ∈ l, p x := by
  obtain ⟨fuel, hf⟩ := h
  rcases Deep.open_slice hT hf with ⟨hcs, _⟩ | ⟨x, l, c, m, n, D, Pl, hcs, _, hl, hm, hmm, _, hx⟩
  · simp at hcs
    obtain ⟨rfl, rfl, rfl⟩ := hcs
    exact ⟨[], rfl, Rd.nil_ _ _ _ _, by omega, by unfold maxLen; omega, fun _ => rfl, by simp⟩
  · simp at hcs
    obtain ⟨rfl, rfl, rfl⟩ := hcs
    have hlm : len ≤ m := by rw [hmm]; split <;> omega
    obtain ⟨f, hf⟩ := Deep.choose_lt (α := α) (n := len) (p := fun i y => (∀ j, j < s → W.cell? ((x.add (i * s)).add j) = (R y)[j]?) ∧ p y) (fun i hi => by
      obtain ⟨cs', h1, h2⟩ := hx i (by omega)
      rw [hc] at h1
      obtain ⟨_, _, hcell⟩ := World.cells?_some h1
      obtain ⟨y, rfl, hy⟩ := hel _ _ _ h2
      exact ⟨y, hcell, hy⟩)
    refine ⟨(List.range len).map f, by simp, rd_of_cells (by rw [flat_len R hR]; simp) hs ?_, hl, hm, by simp, ?_⟩
    · intro j u hu
      have e1 : j = j / s * s + j % s := by rw [Nat.mul_comm]; exact (Nat.div_add_mod j s).symm
      have h1 : j % s < s := Nat.mod_lt _ hs
      rw [e1, flat_get R hR h1] at hu
      obtain ⟨y, hy, hu⟩ := Option.bind_eq_some_iff.1 hu
      rw [List.getElem?_map] at hy
      obtain ⟨i, hi, rfl⟩ := Option.map_eq_some_iff.1 hy
      obtain ⟨hlt, hi⟩ := List.getElem?_eq_some_iff.1 hi
      simp at hlt hi
      subst hi
      have := (hf _ hlt).1 _ h1
      rw [Deep.add_add, ← e1] at this
      rw [this, hu]
    · intro y hy
      obtain ⟨i, hi, rfl⟩ := List.mem_map.1 hy
      exact (hf i (List.mem_range.1 hi)).2
end Go.Proofs.YtmacfoebfpljoaaGreat
namespace Go.Proofs.YtmacfoebfpljoaaGreat
open Go.RowKit
set_option linter.unusedVariables false
def Gv.cells (g : Gv) : List Value := .int .i64 g.ev :: g.m.cells
def gvs (l : List Gv) : List Value := l.flatMap Gv.cells
def its (l : List Int) : List Value := l.map (Value.int .i64)
/-- an entry, and where its rows lie -/
structure EH where
  e : Ent
  (vt vo vg : Value)
deriving Inhabited
def EH.cells (x : EH) : List Value := x.e.tok.cells ++ [.int .i64 x.e.lab, .int .i64 x.e.made, .bool x.e.first, x.vt, x.vo, x.vg]
def ehs (l : List EH) : List Value := l.flatMap EH.cells
theorem EH.cells_len (x : EH) : x.cells.length = 18 := rfl
theorem ehs_len (l : List EH) : (ehs l).length = l.length * 18 := flat_len EH.cells (s := 18) EH.cells_len l
def EH.Has (x : EH) (k : Nat) : Prop := x.vt.ownBlock = some k ∨ x.vo.ownBlock = some k ∨ x.vg.ownBlock = some k
structure EH.In (x : EH) (w : World) (base : Nat) : Prop where
  t : w.ownsRow base 3 1 x.vt x.e.tk.length (its x.e.tk)
  o : w.ownsRow base 3 1 x.vo x.e.ov.length (its x.e.ov)
  g : w.ownsRow base 226 9 x.vg x.e.gv.length (gvs x.e.gv)
  ne : ∀ k, x.vt.ownBlock = some k → x.vo.ownBlock ≠ some k
  bm : Bd x.e.made
  bt : ∀ k ∈ x.e.tk, Bd k
  bg : ∀ k ∈ x.e.gv, Bd k.ev
section
variable {w w' : World} {base : Nat} {x y : EH} {Y : Nat → Prop}
theorem own_far {e : TypeId} {size n k : Nat} {v : Value} {xs : List Value} (h : w.ownsRow base e size v n xs) (hk : v.ownBlock = some k) : base ≤ k ∧ k < w.heap.size ∧ ∃ cs, Bk w k e cs := by
  rcases h.2 with ⟨rfl, -⟩ | ⟨g, cap, cur, rfl, hb, hh, -⟩
  · simp [Value.ownBlock] at hk
  · simp [Value.ownBlock] at hk
    subst hk
    exact ⟨hb, def_lt' hh, cur, hh⟩
theorem EH.In.has (h : x.In w base) {k : Nat} (hk : x.Has k) : base ≤ k ∧ k < w.heap.size ∧ ∃ t cs, Bk w k t cs ∧ (t = 3 ∨ t = 226) := by
  rcases hk with hk | hk | hk
  · obtain ⟨h1, h2, cs, h3⟩ := own_far h.t hk
    exact ⟨h1, h2, _, cs, h3, .inl rfl⟩
  · obtain ⟨h1, h2, cs, h3⟩ := own_far h.o hk
    exact ⟨h1, h2, _, cs, h3, .inl rfl⟩
  · obtain ⟨h1, h2, cs, h3⟩ := own_far h.g hk
    exact ⟨h1, h2, _, cs, h3, .inr rfl⟩
/-- a block of another type is none of an entry's -/
theorem EH.In.not (h : x.In w base) {k : Nat} {t : TypeId} {cs : Array Value} (hb : Bk w k t cs) (h1 : t ≠ 3) (h2 : t ≠ 226) : ¬ x.Has k := by
  intro hk
  obtain ⟨-, -, t', cs', h3, h4⟩ := h.has hk
  have h5 : w.heap[k]? = some (.cells cs t (0, 0)) := hb
  have h6 : w.heap[k]? = some (.cells cs' t' (0, 0)) := h3
  rw [h5] at h6
  injection h6 with h6
  injection h6 with _ h6
  subst h6
  rcases h4 with h4 | h4
  · exact h1 h4
  · exact h2 h4
theorem EH.In.sti (h : x.In w base) (hs : Sti Y w w') (hy : ∀ k, x.Has k → ¬ Y k) : x.In w' base :=
  ⟨hs.own h.t (fun g hg => hy g (.inl hg)), hs.own h.o (fun g hg => hy g (.inr (.inl hg))), hs.own h.g (fun g hg => hy g (.inr (.inr hg))), h.ne, h.bm, h.bt, h.bg⟩
theorem EH.In.below (h : x.In w base) (hb : Below w.heap.size w w') : x.In w' base := h.sti (Sti.of_below (Y := fun _ => False) hb) (fun _ _ => id)
/-- an entry's cells are written at one place -/
theorem own_putN {e : TypeId} {size g cap k n : Nat} {xs : List Value} (h : w.ownsRow base e size (.slice (some ⟨g, 0, none⟩) n cap) n xs) (hk : k < n * size) (u : Value) : (w.setCell ⟨g, k, none⟩ u).ownsRow base e size (.slice (some ⟨g, 0, none⟩) n cap) n (xs.set k u) := by
  obtain ⟨hl, h3⟩ := h
  refine ⟨by simpa using hl, .inr ?_⟩
  rcases h3 with ⟨h4, h5⟩ | ⟨g', cap', cur, hv, hb, hh, hnc, hcm, hsz, htk⟩
  · subst h5; omega
  · injection hv with e1 e2 e3
    injection e1 with e1
    injection e1 with e1
    subst e1
    subst e3
    have hk' : Bk w g e cur := hh
    refine ⟨g, cap, cur.setIfInBounds k u, rfl, hb, hk'.set_ k u, hnc, hcm, by simpa using hsz, ?_⟩
    rw [Array.toList_setIfInBounds, ← htk, List.take_set]
/-- no two entries share a row -/
def Apt (l : List EH) : Prop := l.Pairwise fun x y => ∀ k, x.Has k → ¬ y.Has k
theorem ehs_set {l : List EH} {i j : Nat} {x x' : EH} {u : Value} (hi : l[i]? = some x) (hj : j < 18) (hc : x'.cells = x.cells.set j u) : ehs (l.set i x') = (ehs l).set (i * 18 + j) u := by
  have hl := ehs_len l
  have hil := (List.getElem?_eq_some_iff.1 hi).1
  apply List.ext_getElem?
  intro q
  obtain ⟨a, b, hb, rfl⟩ : ∃ a b, b < 18 ∧ q = a * 18 + b := ⟨q / 18, q % 18, Nat.mod_lt _ (by omega), by omega⟩
  rw [show (ehs (l.set i x'))[a * 18 + b]? = _ from flat_get EH.cells EH.cells_len hb, List.getElem?_set, List.getElem?_set]
  by_cases e : i = a
  · subst e
    rw [if_pos rfl, if_pos hil, Option.bind_some, hc, hl]
    by_cases e2 : j = b
    · subst e2
      rw [List.getElem?_set_self (by rw [EH.cells_len]; exact hj), if_pos rfl, if_pos (by omega)]
    · rw [List.getElem?_set_ne e2, if_neg (by omega), show (ehs l)[i * 18 + b]? = _ from flat_get EH.cells EH.cells_len hb, hi]
      rfl
  · rw [if_neg e, if_neg (by omega), show (ehs l)[a * 18 + b]? = _ from flat_get EH.cells EH.cells_len hb]
/-- a ledger -/
structure LdIn (w : World) (base g mb n : Nat) (sv : Value) (nx : Int) (l : List EH) (er : Int → Bool) : Prop where
  k : Bk w g 121 #[sv, .map (some mb), .int .i64 nx]
  le : base ≤ g
  lm : base ≤ mb
  row : w.ownsRow base 129 18 sv l.length (ehs l)
  er : ErIs w mb n er
  each : ∀ x ∈ l, x.In w base
  apt : Apt l
variable {g mb n : Nat} {sv : Value} {nx : Int} {l : List EH} {er : Int → Bool}
theorem LdIn.below (h : LdIn w base g mb n sv nx l er) (hb : Below w.heap.size w w') : LdIn w' base g mb n sv nx l er :=
  ⟨h.k.ext hb, h.le, h.lm, own_below h.row hb, h.er.below hb, fun x hx => (h.each x hx).below hb, h.apt⟩
/-- the blocks that a ledger's calls write -/
def LdIn.Mine (g mb : Nat) (sv : Value) (l : List EH) (k : Nat) : Prop := k = g ∨ k = mb ∨ sv.ownBlock = some k ∨ ∃ x ∈ l, x.Has k
theorem LdIn.ge (h : LdIn w base g mb n sv nx l er) {k : Nat} (hk : LdIn.Mine g mb sv l k) : base ≤ k := by
  rcases hk with rfl | rfl | hk | ⟨x, hx, hk⟩
  · exact h.le
  · exact h.lm
  · exact (own_far h.row hk).1
  · exact ((h.each x hx).has hk).1
/-- an entry is written: a row of its own grows, and the entry's cell is set -/
theorem LdIn.upd {b c i j : Nat} {x x' : EH} {u : Value} (h : LdIn w base g mb n (.slice (some ⟨b, 0, none⟩) l.length c) nx l er) (hi : l[i]? = some x) (hs : Sti x.Has w w') (hx' : x'.In w' base) (hbl : ∀ k, x'.Has k → x.Has k ∨ w.heap.size ≤ k)
    (hj : j < 18) (hc : x'.cells = x.cells.set j u) : LdIn (w'.setCell ⟨b, i * 18 + j, none⟩ u) base g mb n (.slice (some ⟨b, 0, none⟩) l.length c) nx (l.set i x') er := by
  have hil := (List.getElem?_eq_some_iff.1 hi).1
  have hx := h.each x (List.mem_of_getElem? hi)
  obtain ⟨-, hbs, cs, hbk⟩ := own_far (k := b) h.row rfl
  have nb : ∀ y ∈ l, ¬ y.Has b := fun y hy => (h.each y hy).not hbk (by decide) (by decide)
  have hk' : Bk w' g 121 _ := hs.bk h.k (hx.not h.k (by decide) (by decide))
  have hgb : g ≠ b := by
    rintro rfl
    have h5 : w.heap[g]? = some (.cells cs 129 (0, 0)) := hbk
    have h6 : w.heap[g]? = some (.cells _ 121 (0, 0)) := h.k
    rw [h5] at h6
    injection h6 with h6
    injection h6 with _ h6
    exact absurd h6 (by decide)
  have hme : w'.heap[mb]? = w.heap[mb]? := hs.block mb h.er.lt (fun hk => by
    obtain ⟨-, -, t, cs', h3, -⟩ := hx.has hk
    exact h.er.ne h3 rfl)
  have hrow : w'.ownsRow base 129 18 (.slice (some ⟨b, 0, none⟩) l.length c) l.length (ehs l) := hs.own h.row (fun q hq => by
    have hq : some b = some q := hq
    injection hq with hq
    subst hq
    exact nb x (List.mem_of_getElem? hi))
  have hne : ∀ (y : EH), y.In w' base → y.In (w'.setCell ⟨b, i * 18 + j, none⟩ u) base := fun y hy => hy.sti (Y := fun q => q = b) ((Sti.refl (fun q => q = b) w').set_ (p := ⟨b, i * 18 + j, none⟩) (.inl rfl) u) (fun q hq e => by
    subst e
    obtain ⟨cs2, hbk2⟩ : ∃ cs2, Bk w' q 129 cs2 := (own_far (k := q) hrow rfl).2.2
    exact hy.not hbk2 (by decide) (by decide) hq)
  refine ⟨hk'.far (p := ⟨b, i * 18 + j, none⟩) hgb _, h.le, h.lm, ?_, (h.er.keep hme).set_ (p := ⟨b, i * 18 + j, none⟩) (fun e => h.er.ne hbk e) _, ?_, ?_⟩
  · rw [ehs_set hi hj hc, List.length_set]
    exact own_putN hrow (by omega) u
  · intro y hy
    refine hne y ?_
    obtain ⟨q, hq⟩ := List.mem_iff_getElem?.1 hy
    rw [List.getElem?_set] at hq
    by_cases e : i = q
    · rw [if_pos e, if_pos (by omega)] at hq
      injection hq with hq
      subst hq
      exact hx'
    · rw [if_neg e] at hq
      have hyl := List.mem_of_getElem? hq
      refine (h.each y hyl).sti hs (fun z hz hxz => ?_)
      have hp := List.pairwise_iff_getElem.1 h.apt
      obtain ⟨q1, q2⟩ := List.getElem?_eq_some_iff.1 hq
      obtain ⟨i1, i2⟩ := List.getElem?_eq_some_iff.1 hi
      rcases Nat.lt_or_gt_of_ne e with e | e
      · exact hp i q i1 q1 e z (by rw [i2]; exact hxz) (by rw [q2]; exact hz)
      · exact hp q i q1 i1 e z (by rw [q2]; exact hz) (by rw [i2]; exact hxz)
  · unfold Apt
    rw [List.pairwise_iff_getElem]
    intro p q hp hq hpq z h1 h2
    rw [List.getElem_set] at h1 h2
    simp only [List.length_set] at hp hq
    have hpw := List.pairwise_iff_getElem.1 h.apt
    obtain ⟨i1, i2⟩ := List.getElem?_eq_some_iff.1 hi
    by_cases e1 : i = p
    · subst e1
      rw [if_pos rfl] at h1
      rw [if_neg (by omega)] at h2
      rcases hbl z h1 with h3 | h3
      · exact hpw i q hp hq hpq z (by rw [i2]; exact h3) h2
      · have := ((h.each _ (List.getElem_mem hq)).has h2).2.1
        omega
    · rw [if_neg e1] at h1
      by_cases e2 : i = q
      · subst e2
        rw [if_pos rfl] at h2
        rcases hbl z h2 with h3 | h3
        · exact hpw p i hp hq hpq z h1 (by rw [i2]; exact h3)
        · have := ((h.each _ (List.getElem_mem hp)).has h1).2.1
          omega
      · rw [if_neg e2] at h2
        exact hpw p q hp hq hpq z h1 h2
end
theorem int_at {w : World} {B n : Nat} {A : Option Addr} {ks : List Int} (h : Rd w B 1 A n (its ks)) {q : Nat} {v : Int} (hq : ks[q]? = some v) : ∃ b o, A = some ⟨b, o, none⟩ ∧ b < B ∧ w.cell? ⟨b, o + q, none⟩ = some (.int .i64 v) := by
  have hl : ks.length = n := by simpa [its] using h.1
  have hlt : q < n := by rw [← hl]; exact (List.getElem?_eq_some_iff.1 hq).1
  obtain ⟨b, o, u, e, hb, hu, hc⟩ := h.at1 hlt
  rw [its, List.getElem?_map, hq] at hu
  injection hu with hu
  subst hu
  exact ⟨b, o, e, hb, hc⟩
theorem lany_take {p : Int → Bool} {l : List Int} {k : Nat} {x : Int} (h : l[k]? = some x) : (l.take (k + 1)).any p = ((l.take k).any p || p x) := by
  rw [List.take_add_one, h]; simp
theorem lany_at {p : Int → Bool} {l : List Int} {k : Nat} {x : Int} (h : l[k]? = some x) (hp : p x = true) : l.any p = true := List.any_eq_true.2 ⟨x, List.mem_of_getElem? h, hp⟩
set_option maxRecDepth 100000 in
set_option maxHeartbeats 2000000 in
theorem th_index (A : Option Addr) (n c : Nat) (L : List Int) (p : Int → Bool) (cp : Value) (w : World) (hn : n ≤ maxLen) (hrd : Rd w w.heap.size 1 A n (its L))
    (hcl : ∀ W, Below w.heap.size w W → ∀ v ∈ L, Calls Tryz.prog 167 #[.int .i64 v, cp] W (On w W (.bool (p v)))) :
    Calls Tryz.prog 205 #[.slice A n c, .func (.func 167) #[] #[cp]] w fun e w' => ∃ r : Int, e = .returned (.int .i64 r) ∧ decide (0 ≤ r) = L.any p ∧ Below w.heap.size w w' := by
  have hl : L.length = n := by simpa [its] using hrd.1
  unfold maxLen at hn
  have HTC := Lib.hid hcl
  have HL := Lib.hid hl
  clear hcl hl
  go_enter Tryz.func205, Tryz.ntmps205
  go_wp2
  go_loopw [8] (fun j wr => ∃ k : Nat, k ≤ n ∧ j = .int .i64 k ∧ Hid ((L.take k).any p = false) ∧ Below w.heap.size w wr) (fun j _ => n - (intOf j).toNat)
  case atStart => exact ⟨0, by omega, rfl, Lib.hid (by simp), Below.refl _ _⟩
  case round =>
    obtain ⟨k, hk, rfl, hI, hbr⟩ := hrel
    by_cases hkn : k < n
    · obtain ⟨s, hx⟩ : ∃ s, L[k]? = some s := ⟨_, List.getElem?_eq_getElem (by have := HL.out; omega)⟩
      obtain ⟨bb, o, rfl, hbb, d0⟩ := int_at (hrd.below hbr) hx
      have e3 : (k : Int) < n := by omega
      have hat := lany_take (p := p) hx
      have hcall := HTC.out wr hbr s (List.mem_of_getElem? hx)
      have HX := Lib.hid hx
      have HAT := Lib.hid hat
      clear hat hx
      cases hm : p s with
      | true =>
        rw [hm] at hcall
        have HC := Lib.hid hcall
        have HN : Hid (L.any p = true) := Lib.hid (lany_at HX.out hm)
        clear hcall hm HAT HX hI
        go_wp2_with (go_at_call 167; (refine HC.out.mono ?_); rintro e w1 ⟨rfl, hb1, hz1, _⟩)
        go_ret
        exact ⟨_, rfl, by rw [HN.out]; simp, hb1⟩
      | false =>
        rw [hm] at hcall
        have HC := Lib.hid hcall
        have HN : Hid ((L.take (k + 1)).any p = false) := Lib.hid (by rw [HAT.out, hI.out, hm]; rfl)
        clear hcall hm HAT HX hI
        go_wp2_with (go_at_call 167; (refine HC.out.mono ?_); rintro e w1 ⟨rfl, hb1, hz1, _⟩)
        go_roundw
        case rel => exact ⟨k + 1, by omega, by go_num, HN, hb1⟩
        case measure => simp [intOf]; omega
    · obtain rfl : n = k := by omega
      have hall := hI.out
      rw [List.take_of_length_le (by rw [HL.out]; omega)] at hall
      have HN := Lib.hid hall
      clear hall hI
      go_wp2
      go_ret
      exact ⟨_, rfl, by rw [HN.out]; simp, hbr⟩
set_option maxHeartbeats 1000000 in
theorem th_contains (A : Option Addr) (n c : Nat) (L : List Int) (p : Int → Bool) (cp : Value) (w : World) (hn : n ≤ maxLen) (hrd : Rd w w.heap.size 1 A n (its L))
    (hcl : ∀ W, Below w.heap.size w W → ∀ v ∈ L, Calls Tryz.prog 167 #[.int .i64 v, cp] W (On w W (.bool (p v)))) :
    Calls Tryz.prog 166 #[.slice A n c, .func (.func 167) #[] #[cp]] w fun e w' => e = .returned (.bool (L.any p)) ∧ Below w.heap.size w w' := by
  have hi := th_index A n c L p cp w hn hrd hcl
  have HI := Lib.hid hi
  clear hi hcl
  go_enter Tryz.func166, Tryz.ntmps166
  go_wp2_with (go_at_call 205; (refine HI.out.mono ?_); rintro e w1 ⟨r, rfl, hr, hb1⟩)
  go_ret
  exact ⟨ret_bool (by first | exact hr | simp), hb1⟩
/-- an entry in a ledger, as it is read -/
structure EAt (w : World) (base g mb n b o : Nat) (sv : Value) (nx : Int) (x : EH) (er : Int → Bool) : Prop where
  k : Bk w g 121 #[sv, .map (some mb), .int .i64 nx]
  er : ErIs w mb n er
  c : ∀ j u, x.cells[j]? = some u → w.cell? ⟨b, o + j, none⟩ = some u
  lt : b < w.heap.size
  i : x.In w base
section
variable {w w' : World} {base g mb n b o : Nat} {sv : Value} {nx : Int} {x : EH} {er : Int → Bool}
theorem EAt.below (h : EAt w base g mb n b o sv nx x er) (hb : Below w.heap.size w w') : EAt w' base g mb n b o sv nx x er :=
  ⟨h.k.ext hb, h.er.below hb, fun j u hu => (hb.cell (p := ⟨b, o + j, none⟩) h.lt).trans (h.c j u hu), Nat.lt_of_lt_of_le h.lt hb.size, h.i.below hb⟩
end
theorem LdIn.at_ {w : World} {base g mb n i : Nat} {A : Option Addr} {c : Nat} {nx : Int} {l : List EH} {x : EH} {er : Int → Bool} (h : LdIn w base g mb n (.slice A l.length c) nx l er) (hi : l[i]? = some x) :
    ∃ b, A = some ⟨b, 0, none⟩ ∧ EAt w base g mb n b (i * 18) (.slice A l.length c) nx x er := by
  have hil := (List.getElem?_eq_some_iff.1 hi).1
  obtain ⟨hl, h3⟩ := h.row
  rcases h3 with ⟨h4, h5⟩ | ⟨b, cap, cur, hv, hb, hh, hnc, hcm, hsz, htk⟩
  · omega
  · injection hv with e1 e2 e3
    subst e1
    refine ⟨b, rfl, h.k, h.er, fun j u hu => ?_, def_lt' hh, h.each x (List.mem_of_getElem? hi)⟩
    have hj : j < 18 := by
      have := (List.getElem?_eq_some_iff.1 hu).1
      rwa [EH.cells_len] at this
    have h1 : (ehs l)[i * 18 + j]? = some u := by
      rw [show (ehs l)[i * 18 + j]? = _ from flat_get EH.cells EH.cells_len hj, hi]
      exact hu
    have hk' : Bk w b 129 cur := hh
    rw [hk'.cell]
    rw [← htk, List.getElem?_take] at h1
    split at h1
    · simpa using h1
    · cases h1
set_option maxHeartbeats 1000000 in
theorem there1_any (g mb n bx : Nat) (sv : Value) (nx v : Int) (er : Int → Bool) (w : World) (hk : Bk w g 121 #[sv, .map (some mb), .int .i64 nx]) (her : ErIs w mb n er) (hv : Bd v) (hx : w.cell? ⟨bx, 0, none⟩ = some (.pointer (some ⟨g, 0, none⟩))) (hbx : bx < w.heap.size) :
    Calls Tryz.prog 167 #[.int .i64 v, .pointer (some ⟨bx, 0, none⟩)] w fun e w' => e = .returned (.bool (!er v)) ∧ Below w.heap.size w w' := by
  have d1 := hk.cell 1
  have l1 := def_lt' hk
  dsimp at d1
  go_enter Tryz.func167, Tryz.ntmps167
  go_wp2_with (at_lookup; refine wpList_look _ rfl _ _ rfl mb n er v rfl rfl her hv ?_)
  go_ret
  exact ⟨rfl, Below.refl _ _⟩
/-- the entry's cells, and the box's -/
structure LTI (w W : World) (base g mb n b o : Nat) (sv : Value) (nx : Int) (x : EH) (er : Int → Bool) : Prop where
  e : EAt W base g mb n b o sv nx x er
  bx : Bk W w.heap.size 38 #[.pointer (some ⟨g, 0, none⟩)]
  b : Below w.heap.size w W
section
variable {w w' W : World} {base g mb n b o : Nat} {sv : Value} {nx : Int} {x : EH} {er : Int → Bool}
theorem LTI.below (h : LTI w W base g mb n b o sv nx x er) (hb : Below W.heap.size W w') : LTI w w' base g mb n b o sv nx x er := ⟨h.e.below hb, h.bx.ext hb, h.b.trans (hb.mono h.b.size)⟩
theorem EAt.cells (h : EAt W base g mb n b o sv nx x er) : W.cell? ⟨b, o + 13, none⟩ = some (.int .i64 x.e.made) ∧ W.cell? ⟨b, o + 14, none⟩ = some (.bool x.e.first) ∧ W.cell? ⟨b, o + 15, none⟩ = some x.vt ∧ W.cell? ⟨b, o + 16, none⟩ = some x.vo ∧ W.cell? ⟨b, o + 17, none⟩ = some x.vg ∧ W.cell? ⟨b, o + 12, none⟩ = some (.int .i64 x.e.lab) :=
  ⟨h.c 13 _ rfl, h.c 14 _ rfl, h.c 15 _ rfl, h.c 16 _ rfl, h.c 17 _ rfl, h.c 12 _ rfl⟩
theorem LTI.f (h : LTI w W base g mb n b o sv nx x er) : W.cell? ⟨b, o + 13, none⟩ = some (.int .i64 x.e.made) ∧ W.cell? ⟨b, o + 14, none⟩ = some (.bool x.e.first) ∧ W.cell? ⟨w.heap.size, 0, none⟩ = some (.pointer (some ⟨g, 0, none⟩)) ∧ W.cell? ⟨g, 1, none⟩ = some (.map (some mb)) ∧
    (Instr.lookup 118 (.map (some mb)) (.int .i64 x.e.made) false).run Tryz.prog W = .ok (.bool (er x.e.made)) W := by
  have d1 := h.e.k.cell 1
  have d2 := h.bx.cell 0
  exact ⟨h.e.cells.1, h.e.cells.2.1, d2, d1, h.e.er.look h.e.i.bm⟩
end
set_option maxRecDepth 100000 in
set_option maxHeartbeats 4000000 in
theorem lthere_any (base g mb n b o : Nat) (sv : Value) (nx : Int) (x : EH) (er : Int → Bool) (w : World) (h : EAt w base g mb n b o sv nx x er) :
    Calls Tryz.prog 123 #[.pointer (some ⟨g, 0, none⟩), .pointer (some ⟨b, o, none⟩)] w fun e w' => e = .returned (.bool (thereB er x.e)) ∧ Below w.heap.size w w' := by
  have hcn : ∀ W, LTI w W base g mb n b o sv nx x er → ∃ A c, x.vt = .slice A x.e.tk.length c ∧ Calls Tryz.prog 166 #[.slice A x.e.tk.length c, .func (.func 167) #[] #[.pointer (some ⟨w.heap.size, 0, none⟩)]] W fun e w' => e = .returned (.bool (x.e.tk.any fun v => !er v)) ∧ Below W.heap.size W w' := by
    intro W hI
    obtain ⟨A, c, e1, h1, h2, -, h3⟩ := own_form hI.e.i.t
    refine ⟨A, c, e1, th_contains A x.e.tk.length c x.e.tk (fun v => !er v) _ W (by omega) h3 (fun W' hb v hv => ?_)⟩
    have h4 := hI.below hb
    exact calls_on hb (there1_any g mb n w.heap.size sv nx v er W' h4.e.k h4.e.er (h4.e.i.bt v hv) (by simpa using h4.bx.cell 0) (def_lt' h4.bx))
  have HCN := Lib.hid hcn
  have hF : ∀ W, LTI w W base g mb n b o sv nx x er → _ := fun W hI => hI.f
  have HF := Lib.hid hF
  have HH := Lib.hid h
  have hlt := h.lt
  have hlg := def_lt' h.k
  clear hcn hF h
  go_enter Tryz.func123, Tryz.ntmps123
  go_upto_region 1 with fail
  have hI0 : LTI w (w.alloc (.cells #[.pointer (some ⟨g, 0, none⟩)] 38)) base g mb n b o sv nx x er := ⟨HH.out.below belowA, Bk.new w _ _, belowA⟩
  generalize w.alloc (.cells #[.pointer (some ⟨g, 0, none⟩)] 38) = w0 at *
  go_cut [20] (fun u wx => u = .bool (!x.e.first && er x.e.made) ∧ Hid (LTI w wx base g mb n b o sv nx x er))
  case first =>
    refine wp_normal ?_
    refine wp_region_held_drew (S := fun W => LTI w W base g mb n b o sv nx x er) (by kernel_rfl) (show LTI w w0.drew _ _ _ _ _ _ _ _ _ _ from hI0.below (Below.drew (Below.refl _ _))) (fun hHeld => ?_)
    cases hfs : x.e.first with
    | true =>
      rw [hfs] at HF
      (refine tkH 0 ?_; refine tkH 1 ?_; refine tkH 2 ?_; refine tkH 3 ?_; refine tkH 4 ?_; refine tkH 5 ?_; refine tnH 6 ?_; refine tnH 7 ?_; refine tnH 8 ?_; refine tnH 9 ?_; refine tnH 10 ?_; refine tnH 11 ?_; refine tnH 12 ?_; refine tnH 13 ?_; refine tnH 14 ?_; refine tkH 15 ?_)
      refine wpAnyH_done (by kernel_rfl) ?_ _
      go_wp2
      go_meet
      exact ⟨by rw [hfs]; rfl, Lib.hid hHeld⟩
    | false =>
      rw [hfs] at HF
      (refine tkH 0 ?_; refine tkH 1 ?_; refine tkH 2 ?_; refine tkH 3 ?_; refine tkH 4 ?_; refine tkH 5 ?_; refine tkH 6 ?_; refine tkH 7 ?_; refine tkH 8 ?_; refine tkH 9 ?_; refine tkH 10 ?_; refine tkH 11 ?_; refine tkH 12 ?_; refine tkH 13 ?_; refine tkH 14 ?_; refine tkH 15 ?_)
      refine wpAnyH_done (by kernel_rfl) ?_ _
      go_wp2
      go_meet
      exact ⟨by rw [hfs]; rfl, Lib.hid hHeld⟩
  case rest =>
  obtain ⟨rfl, hI1⟩ := hcut
  have hv : thereB er x.e = (!(!x.e.first && er x.e.made) && !(x.e.tk.any fun v => !er v)) := by
    unfold thereB
    rw [List.all_eq_not_any_not]
    cases x.e.first <;> cases er x.e.made <;> rfl
  have HV := Lib.hid hv
  clear hv
  obtain ⟨A, c, e1, hcn⟩ := HCN.out _ hI1.out
  have c2 := hI1.out.e.cells.2.2.1
  rw [e1] at c2
  have hlt1 := hI1.out.e.lt
  have HC := Lib.hid hcn
  clear hcn HCN e1
  cases hfe : (!x.e.first && er x.e.made) with
  | true =>
    rw [hfe] at HV
    go_wp2
    go_ret
    exact ⟨by rw [HV.out]; rfl, hI1.out.b⟩
  | false =>
    rw [hfe] at HV
    go_wp2_with (go_at_call 166; (refine HC.out.mono ?_); rintro e w1 ⟨rfl, hb1⟩)
    go_ret
    exact ⟨by rw [HV.out]; rfl, (hI1.out.below hb1).b⟩
theorem tok_size : (Tryz.prog.info? 126).map (·.size) = some 12 := by kernel_rfl
theorem given_size : (Tryz.prog.info? 226).map (·.size) = some 9 := by kernel_rfl
theorem marks_size : (Tryz.prog.info? 124).map (·.size) = some 8 := by kernel_rfl
abbrev zeroTok : Array Value := #[.int .i64 0, .int .i64 0, .int .i64 0, .int .i32 0, .int .u16 0, .int .u16 0, .int .u16 0, .int .u16 0, .int .u16 0, .int .u16 0, .int .u16 0, .int .u16 0]
abbrev zeroGv : Array Value := #[.int .i64 0, .int .u16 0, .int .u16 0, .int .u16 0, .int .u16 0, .int .u16 0, .int .u16 0, .int .u16 0, .int .u16 0]
theorem tok_one (x : Tok) : x.cells.toArray.all (·.oneCell') = true := by simp [Tok.cells, Mk.cells, Value.oneCell']
theorem gv_one (x : Gv) : x.cells.toArray.all (·.oneCell') = true := by simp [Gv.cells, Mk.cells, Value.oneCell']
theorem mk_one (x : Mk) : x.cells.toArray.all (·.oneCell') = true := by simp [Mk.cells, Value.oneCell']
theorem Bk.range {w : World} {b : Nat} {t : TypeId} {cs : Array Value} (k : Bk w b t cs) (o : Nat) (xs : List Value) (h : ∀ j, j < xs.length → cs[o + j]? = xs[j]?) : w.rangeAt b o xs := by
  intro j v hv
  rw [k.cell, h j (List.getElem?_eq_some_iff.1 hv).1]
  exact hv
theorem Bk.there_ {w : World} {b : Nat} {t : TypeId} {cs : Array Value} (k : Bk w b t cs) (o n : Nat) (h : o + n ≤ cs.size) : w.there b o n := by
  intro j hj
  refine ⟨?_, k.frozen _⟩
  rw [k.cell, Array.getElem?_eq_getElem (by omega)]
  rfl
/-- the marks of a token that lies are set -/
theorem Bk.marks {w : World} {b : Nat} {x : Tok} (k : Bk w b 126 x.cells.toArray) (m : Mk) : Bk (w.setCells b 4 m.cells) b 126 ({ x with m := m } : Tok).cells.toArray := by
  obtain ⟨x0, x1, x2, x3, ⟨a0, a1, a2, a3, a4, a5, a6, a7⟩⟩ := x
  obtain ⟨m0, m1, m2, m3, m4, m5, m6, m7⟩ := m
  simp only [Tok.cells, Mk.cells] at k ⊢
  have h := (((((((k.set_ 4 (.int .u16 m0)).set_ 5 (.int .u16 m1)).set_ 6 (.int .u16 m2)).set_ 7 (.int .u16 m3)).set_ 8 (.int .u16 m4)).set_ 9 (.int .u16 m5)).set_ 10 (.int .u16 m6)).set_ 11 (.int .u16 m7)
  simp only [List.setIfInBounds_toArray, List.set_cons_zero, List.set_cons_succ] at h
  exact h
theorem setCells_sti (b : Nat) : ∀ (vs : List Value) (o : Nat) (w : World), Sti (fun i => i = b) w (w.setCells b o vs)
  | [], o, w => Sti.refl _ w
  | v :: vs, o, w => ((Sti.refl (fun i => i = b) w).set_ (p := ⟨b, o, none⟩) (.inl rfl) v).trans (setCells_sti b vs (o + 1) _) (fun i hi => .inl hi)
section
variable {ops : Array Oper} {rest : List Oper} {o : Oper} {a : Act} {Q : Exit → Act → World → Prop}
theorem ld_tok (w : World) (hg : o.guard = none) (p : Operand) (ho : o.op = .load 126 p) (b oo : Nat) (hx : a.eval p = .pointer (some ⟨b, oo, none⟩)) (x : Tok) (hc : w.rangeAt b oo x.cells)
    (h : wpList Tryz.prog ops Q rest (a.put o.dst (.agg x.cells.toArray)) w) : wpList Tryz.prog ops Q (o :: rest) a w := wpList_load_mid hg 126 p ho b oo hx x.cells _ hc Tryz.underlying126 rfl tok_size h
theorem st_tok (w : World) (hg : o.guard = none) (p q : Operand) (ho : o.op = .store 126 p q) (b : Nat) (old : Array Value) (x : Tok) (he : a.eval p = .pointer (some ⟨b, 0, none⟩)) (hx : a.eval q = .agg x.cells.toArray) (k : Bk w b 126 old) (hs : old.size = x.cells.toArray.size)
    (h : wpList Tryz.prog ops Q rest (a.put o.dst undef) (w.setRow b x.cells.toArray)) : wpList Tryz.prog ops Q (o :: rest) a w := wpList_store_all w hg 126 p q ho b old x.cells.toArray he hx k tok_size hs (tok_one x) h
theorem ld_gv (w : World) (hg : o.guard = none) (p : Operand) (ho : o.op = .load 226 p) (b oo : Nat) (hx : a.eval p = .pointer (some ⟨b, oo, none⟩)) (x : Gv) (hc : w.rangeAt b oo x.cells)
    (h : wpList Tryz.prog ops Q rest (a.put o.dst (.agg x.cells.toArray)) w) : wpList Tryz.prog ops Q (o :: rest) a w := wpList_load_mid hg 226 p ho b oo hx x.cells _ hc Tryz.underlying226 rfl given_size h
theorem st_gv (w : World) (hg : o.guard = none) (p q : Operand) (ho : o.op = .store 226 p q) (b : Nat) (old : Array Value) (x : Gv) (he : a.eval p = .pointer (some ⟨b, 0, none⟩)) (hx : a.eval q = .agg x.cells.toArray) (k : Bk w b 226 old) (hs : old.size = x.cells.toArray.size)
    (h : wpList Tryz.prog ops Q rest (a.put o.dst undef) (w.setRow b x.cells.toArray)) : wpList Tryz.prog ops Q (o :: rest) a w := wpList_store_all w hg 226 p q ho b old x.cells.toArray he hx k given_size hs (gv_one x) h
theorem ld_mk (w : World) (hg : o.guard = none) (p : Operand) (ho : o.op = .load 124 p) (b oo : Nat) (hx : a.eval p = .pointer (some ⟨b, oo, none⟩)) (x : Mk) (hc : w.rangeAt b oo x.cells)
    (h : wpList Tryz.prog ops Q rest (a.put o.dst (.agg x.cells.toArray)) w) : wpList Tryz.prog ops Q (o :: rest) a w := wpList_load_mid hg 124 p ho b oo hx x.cells _ hc Tryz.underlying124 rfl marks_size h
theorem st_mk (w : World) (hg : o.guard = none) (p q : Operand) (ho : o.op = .store 124 p q) (b : Nat) (old : Array Value) (x : Mk) (he : a.eval p = .pointer (some ⟨b, 0, none⟩)) (hx : a.eval q = .agg x.cells.toArray) (k : Bk w b 124 old) (hs : old.size = x.cells.toArray.size)
    (h : wpList Tryz.prog ops Q rest (a.put o.dst undef) (w.setRow b x.cells.toArray)) : wpList Tryz.prog ops Q (o :: rest) a w := wpList_store_all w hg 124 p q ho b old x.cells.toArray he hx k marks_size hs (mk_one x) h
theorem st_marks (w : World) (hg : o.guard = none) (p q : Operand) (ho : o.op = .store 124 p q) (b : Nat) (x : Tok) (m : Mk) (he : a.eval p = .pointer (some ⟨b, 4, none⟩)) (hx : a.eval q = .agg m.cells.toArray) (k : Bk w b 126 x.cells.toArray)
    (h : wpList Tryz.prog ops Q rest (a.put o.dst undef) (w.setCells b 4 m.cells)) : wpList Tryz.prog ops Q (o :: rest) a w := wpList_store_mid hg 124 p q ho b 4 m.cells.toArray he hx (k.there_ 4 8 (by simp [Tok.cells, Mk.cells])) marks_size (mk_one m) h
end
/-- in the midst of `now` -/
structure NwI (w W : World) (base g mb n b o : Nat) (sv : Value) (nx : Int) (x : EH) (er : Int → Bool) (k : Mk) : Prop where
  e : EAt W base g mb n b o sv nx x er
  r : Bk W w.heap.size 126 zeroTok
  t : Bk W (w.heap.size + 1) 126 ({ x.e.tok with m := k } : Tok).cells.toArray
  l : b < w.heap.size
  bl : Below w.heap.size w W
section
variable {w w' W : World} {base g mb n b o : Nat} {sv : Value} {nx : Int} {x : EH} {er : Int → Bool} {k : Mk}
theorem EAt.tok (h : EAt W base g mb n b o sv nx x er) : W.rangeAt b o x.e.tok.cells := fun j v hv => h.c j v (by
  have hj := (List.getElem?_eq_some_iff.1 hv).1
  unfold EH.cells
  rw [List.getElem?_append_left hj]
  exact hv)
theorem NwI.below (h : NwI w W base g mb n b o sv nx x er k) (hb : Below W.heap.size W w') : NwI w w' base g mb n b o sv nx x er k := ⟨h.e.below hb, h.r.ext hb, h.t.ext hb, h.l, h.bl.trans (hb.mono h.bl.size)⟩
end
set_option maxRecDepth 100000 in
set_option maxHeartbeats 4000000 in
theorem lnow_any (base g mb n b o : Nat) (sv : Value) (nx : Int) (x : EH) (er : Int → Bool) (w : World) (h : EAt w base g mb n b o sv nx x er) :
    Calls Tryz.prog 64 #[.pointer (some ⟨g, 0, none⟩), .pointer (some ⟨b, o, none⟩)] w fun e w' => e = .returned (.agg (nowT er x.e).cells.toArray) ∧ Below w.heap.size w w' := by
  have HH := Lib.hid h
  have hlt := h.lt
  have hlg := def_lt' h.k
  clear h
  go_enter Tryz.func64, Tryz.ntmps64
  go_upto_region 1 with fail
  have kr := Bk.new w 126 zeroTok
  have hb0 : Below w.heap.size w (w.alloc (.cells zeroTok 126)) := belowA
  have hz0 : (w.alloc (.cells zeroTok 126)).heap.size = w.heap.size + 1 := World.size_alloc ..
  generalize w.alloc (.cells zeroTok 126) = w0 at *
  have e0 := HH.out.below hb0
  have ht0 := e0.tok
  have kt0 : Bk (w0.alloc (.cells zeroTok 126)) (w.heap.size + 1) 126 zeroTok := by rw [← hz0]; exact Bk.new w0 _ _
  go_upto_region 2 with (first
    | ((with_reducible refine ld_tok w0 ?hg (.tmp 10) ?ho b o ?hx x.e.tok ht0 ?_); (case hg => rfl); (case ho => rfl); (case hx => rfl))
    | ((with_reducible refine st_tok (w0.alloc (.cells zeroTok 126)) ?hg (.tmp 5) (.tmp 11) ?ho (w.heap.size + 1) zeroTok x.e.tok ?he ?hx kt0 rfl ?_); (case hg => rfl); (case ho => rfl); (case he => rfl); (case hx => rfl)))
  have hI0 : NwI w ((w0.alloc (.cells zeroTok 126)).setRow (w.heap.size + 1) x.e.tok.cells.toArray) base g mb n b o sv nx x er x.e.tok.m := by
    have h1 : Below w0.heap.size w0 ((w0.alloc (.cells zeroTok 126)).setRow (w.heap.size + 1) x.e.tok.cells.toArray) := setRow_below belowA (by omega) _
    exact ⟨e0.below h1, kr.ext h1, setRow_bk kt0 _, hlt, hb0.trans (h1.mono hb0.size)⟩
  generalize (w0.alloc (.cells zeroTok 126)).setRow (w.heap.size + 1) x.e.tok.cells.toArray = w1 at *
  clear kt0 ht0 e0 hz0 hb0 kr
  obtain ⟨A, c, hvg, hgc, hcm, -, hrg⟩ := own_form HH.out.i.g
  have cg := hI0.e.cells.2.2.2.2.1
  rw [hvg] at cg
  have HI := Lib.hid hI0
  have HRG := Lib.hid hrg
  have hl0 := hI0.e.lt
  have hmv : nowT er x.e = { x.e.tok with m := nowM er x.e } := rfl
  have HMV := Lib.hid hmv
  clear hmv hrg hvg
  unfold maxLen at hcm
  obtain ⟨N, hN⟩ : ∃ N, N = x.e.gv.length := ⟨_, rfl⟩
  have HN := Lib.hid hN
  rw [← hN] at cg hgc
  rw [← hN] at HRG
  clear hI0 hN
  go_wp2
  go_loopw [7, 17] (fun u j wr => ∃ q : Nat, q ≤ N ∧ j = .int .i64 q ∧ Hid (NwI w wr base g mb n b o sv nx x er ((x.e.gv.take q).foldl (fun m g => if er g.ev then m else g.m) x.e.tok.m))) (fun _ j _ => N - (intOf j).toNat)
  case atStart => exact ⟨0, by omega, rfl, HI⟩
  case round =>
    obtain ⟨q, hq, rfl, hI⟩ := hrel
    by_cases hqn : q < N
    · have e3 : (q : Int) < N := by omega
      obtain ⟨y, hy⟩ : ∃ y, x.e.gv[q]? = some y := ⟨_, List.getElem?_eq_getElem (by have := HN.out; omega)⟩
      obtain ⟨bb, oo, rfl, hbb, hcc⟩ := (HRG.out.below hI.out.bl).el Gv.cells (fun _ => rfl) HN.out.symm hy
      have hrg : wr.rangeAt bb (oo + q * 9) y.cells := fun j v hv => by
        have hj : j < 9 := (List.getElem?_eq_some_iff.1 hv).1
        rw [hcc j hj]
        exact hv
      have hbe := HH.out.i.bg y (List.mem_of_getElem? hy)
      have hms := (show (x.e.gv.take (q + 1)).foldl (fun m g => if er g.ev then m else g.m) x.e.tok.m = if er y.ev then (x.e.gv.take q).foldl (fun m g => if er g.ev then m else g.m) x.e.tok.m else y.m by rw [List.take_add_one, hy]; simp)
      have HMS := Lib.hid hms
      have HBE := Lib.hid hbe
      clear hcc hy hms hbe
      have hcg := hI.out.e.cells.2.2.2.2.1
      clear cg
      go_upto_region 5 with (first
        | ((with_reducible refine ld_gv wr ?hg (.tmp 19) ?ho bb (oo + q * 9) ?hx y hrg ?_); (case hg => rfl); (case ho => rfl); (case hx => rfl))
        | ((with_reducible refine st_gv (wr.alloc (.cells zeroGv 226)) ?hg (.tmp 7) (.tmp 20) ?ho wr.heap.size zeroGv y ?he ?hx (Bk.new wr _ _) rfl ?_); (case hg => rfl); (case ho => rfl); (case he => rfl); (case hx => rfl)))
      have hb2 : Below wr.heap.size wr ((wr.alloc (.cells zeroGv 226)).setRow wr.heap.size y.cells.toArray) := setRow_below belowA (Nat.le_refl _) _
      have k7 : Bk ((wr.alloc (.cells zeroGv 226)).setRow wr.heap.size y.cells.toArray) wr.heap.size 226 y.cells.toArray := setRow_bk (Bk.new wr _ _) _
      generalize (wr.alloc (.cells zeroGv 226)).setRow wr.heap.size y.cells.toArray = w2 at *
      obtain ⟨km, hkm⟩ : ∃ km, km = (x.e.gv.take q).foldl (fun m g => if er g.ev then m else g.m) x.e.tok.m := ⟨_, rfl⟩
      rw [← hkm] at hI HMS
      have hI2 := hI.out.below hb2
      have hz2 := hI.out.bl.size
      clear hb2 hI hkm
      have hF : ∀ W, (NwI w W base g mb n b o sv nx x er km ∧ Bk W wr.heap.size 226 y.cells.toArray) → (W.cell? ⟨g, 1, none⟩ = some (.map (some mb)) ∧ W.cell? ⟨wr.heap.size, 0, none⟩ = some (.int .i64 y.ev) ∧ (Instr.lookup 118 (.map (some mb)) (.int .i64 y.ev) false).run Tryz.prog W = .ok (.bool (er y.ev)) W) := fun W hW => ⟨hW.1.e.k.cell 1, hW.2.cell 0, hW.1.e.er.look HBE.out⟩
      have HF := Lib.hid hF
      clear hF
      refine wp_normal ?_
      refine wp_region_held_drew (S := fun W => NwI w W base g mb n b o sv nx x er km ∧ Bk W wr.heap.size 226 y.cells.toArray) (by kernel_rfl) ⟨hI2.below (Below.drew (Below.refl _ _)), k7.drew⟩ (fun hHeld => ?_)
      (refine tkH 0 ?_; refine tkH 1 ?_; refine tkH 2 ?_; refine tkH 3 ?_; refine tkH 4 ?_; refine tkH 5 ?_; refine tkH 6 ?_; refine tkH 7 ?_)
      refine wpAnyH_done (by kernel_rfl) ?_ _
      clear hI2 k7
      obtain ⟨hI3, k7⟩ := hHeld
      generalize w2.drew = w3 at *
      cases hev : er y.ev with
      | true =>
        rw [hev] at HMS
        have HI3 := Lib.hid hI3
        clear hI3
        go_wp2
        go_roundw
        case rel => exact ⟨q + 1, by omega, by go_num, Lib.hid (by rw [HMS.out]; exact HI3.out)⟩
        case measure => simp [intOf]; omega
      | false =>
        rw [hev] at HMS
        have hrm : w3.rangeAt wr.heap.size 1 y.m.cells := k7.range 1 y.m.cells (fun j hj => by
          have hj : j < 8 := hj
          rw [Nat.add_comm, List.getElem?_toArray]
          rfl)
        have hI4 : NwI w (w3.setCells (w.heap.size + 1) 4 y.m.cells) base g mb n b o sv nx x er y.m := by
          have hs := setCells_sti (w.heap.size + 1) y.m.cells 4 w3
          have hb4 : Below w.heap.size w (w3.setCells (w.heap.size + 1) 4 y.m.cells) := hI3.bl.trans (hs.below (fun i hi => by have hi : i = w.heap.size + 1 := hi; omega) hI3.bl.size)
          exact ⟨HH.out.below hb4, hs.bk hI3.r (fun e => by have e : w.heap.size = w.heap.size + 1 := e; omega), hI3.t.marks y.m, hI3.l, hb4⟩
        have HI4 := Lib.hid hI4
        clear hI4
        have kt := hI3.t
        clear hI3
        go_wp2_with (first
          | ((with_reducible refine ld_mk w3 ?hg (.tmp 29) ?ho wr.heap.size 1 ?hx y.m hrm ?_); (case hg => rfl); (case ho => rfl); (case hx => rfl))
          | ((with_reducible refine st_marks w3 ?hg (.tmp 31) (.tmp 30) ?ho (w.heap.size + 1) _ y.m ?he ?hx kt ?_); (case hg => rfl); (case ho => rfl); (case he => rfl); (case hx => rfl)))
        go_roundw
        case rel => exact ⟨q + 1, by omega, by go_num, Lib.hid (by rw [HMS.out]; exact HI4.out)⟩
        case measure => simp [intOf]; omega
    · obtain rfl : q = N := by omega
      have hI := hI.out
      rw [List.take_of_length_le (by rw [HN.out]; exact Nat.le_refl _)] at hI
      have hmv := HMV.out
      have hI : NwI w wr base g mb n b o sv nx x er (nowM er x.e) := hI
      have hrt : wr.rangeAt (w.heap.size + 1) 0 ({ x.e.tok with m := nowM er x.e } : Tok).cells := hI.t.range 0 _ (fun j hj => by rw [Nat.zero_add]; simp)
      have kr := hI.r
      have hb5 := setRow_below hI.bl (Nat.le_refl _) ({ x.e.tok with m := nowM er x.e } : Tok).cells.toArray
      have hk5 := setRow_bk hI.r ({ x.e.tok with m := nowM er x.e } : Tok).cells.toArray
      rw [← hmv] at hrt hb5 hk5
      have hrr := hk5.range 0 (nowT er x.e).cells (fun j hj => by rw [Nat.zero_add]; simp)
      clear hI cg
      go_wp2_with (first
        | ((with_reducible refine ld_tok wr ?hg (.tmp 5) ?ho (w.heap.size + 1) 0 ?hx (nowT er x.e) hrt ?_); (case hg => rfl); (case ho => rfl); (case hx => rfl))
        | ((with_reducible refine st_tok wr ?hg (.tmp 4) (.tmp 33) ?ho w.heap.size zeroTok (nowT er x.e) ?he ?hx kr rfl ?_); (case hg => rfl); (case ho => rfl); (case he => rfl); (case hx => rfl)))
      exact bodyPost_ret (v := .agg (nowT er x.e).cells.toArray) (results_cell_row Tryz.results64 _ _ w.heap.size 126 (nowT er x.e).cells.toArray (0, 0) _ rfl hk5 Tryz.underlying126 rfl tok_size) rfl ⟨rfl, hb5⟩
end Go.Proofs.YtmacfoebfpljoaaGreat
namespace Go.Proofs.YtmacfoebfpljoaaGreat
open Go.RowKit
section
variable {n : Nat} {P : Program} {ops : Array Oper} {Q : Exit → Act → World → Prop} {S : World → Prop} {md : Region.Mode}
theorem yifI {i : Nat} {o : Oper} {v : Value} {a : Act} (hi : ops[i]? = some o) (hy : YieldsIf P ops S o v a) {K : Act → World → Prop} {w : World} (hS : S w) (h : K (a.put o.dst v) w) : wpOpIn Fence.wide n P ops Q i K a w := by
  unfold wpOpIn
  simp only [hi]
  rcases hy with ⟨hw, hv⟩ | ⟨hw, rfl⟩
  · simp only [hw, if_true, Oper.wpIn, show Fence.wide.round = none from rfl, Oper.semAt_none, hv w hS, Oper.uponIn]
    exact ⟨fun _ _ => trivial, h⟩
  · simp only [hw, Bool.false_eq_true, if_false]
    exact ⟨fun _ _ => trivial, h⟩
theorem putI {j : Nat} {oi oj : Oper} {v : Value} (hj : ops[j]? = some oj) (hap : oi.apart ops oj = true) (hsi : ∀ cs b, oi.op ≠ .select cs b) (hsj : ∀ cs b, oj.op ≠ .select cs b)
    (hQ : ∀ c a w, Q (.panic c) (a.put oi.dst v) w → Q (.panic c) a w) {K : Act → World → Prop} {a : Act} {w : World} (hy : YieldsIf P ops S oi v a) (h : wpOpIn Fence.wide n P ops Q j K (a.put oi.dst v) w) :
    wpOpIn Fence.wide n P ops Q j (fun a' w' => YieldsIf P ops S oi v a' ∧ K (a'.put oi.dst v) w') a w := by
  obtain ⟨h1, h2, h3⟩ := Oper.apart_spec hap
  have keep : ∀ (a : Act), YieldsIf P ops S oi v a → ∀ u, YieldsIf P ops S oi v (a.put oj.dst u) := fun a hy u =>
    hy.of_same (execOp_put oi hsi a oj.dst u h3) (wanted_put oi a oj.dst u h3)
  have keepD : ∀ d, YieldsIf P ops S oi v { a with defers := d :: a.defers } := fun d => hy.of_same rfl rfl
  have hro : Fence.wide.round = none := rfl
  unfold wpOpIn at *
  simp only [hj] at *
  rw [wanted_put oj a oi.dst v h1] at h
  split
  · rename_i hw
    simp only [hw, if_true] at h
    unfold Oper.wpIn at *
    refine ⟨fun _ _ => trivial, ?_⟩
    have h := h.2
    rw [hro, Oper.semAt_none, execOp_put oj hsj a oi.dst v h1] at h
    rw [hro, Oper.semAt_none]
    generalize (execOp a.eval oj).run P w = r at *
    cases r with
    | ok x w' =>
      cases x <;> simp only [Oper.uponIn] at h ⊢
      case value u => exact ⟨keep a hy u, by rw [← Act.put_comm a v u h2]; exact h⟩
      case skip => exact ⟨keep a hy _, by rw [← Act.put_comm a v undef h2]; exact h⟩
      case defer d =>
        refine ⟨keep _ (keepD d) _, ?_⟩
        rw [← Act.put_comm _ v undef h2, ← Act.put_defers]
        exact h
      case enter f args =>
        refine ⟨h.1, CallsIn.mono h.2 fun e w'' he => ?_⟩
        cases e with
        | returned u => exact ⟨keep a hy u, by rw [← Act.put_comm a v u h2]; exact he⟩
        | panicked c => exact hQ _ _ _ he
        | outgrown => exact he
      case row row args => exact ⟨h.1, RowsIn.mono h.2 fun u w'' he => ⟨keep a hy u, by rw [← Act.put_comm a v u h2]; exact he⟩⟩
      case round l f tmps assign body =>
        refine ⟨h.1, RoundIn.mono h.2 fun e w'' he => ?_⟩
        cases e with
        | returned u => exact ⟨keep a hy u, by rw [← Act.put_comm a v u h2]; exact he⟩
        | panicked c => exact hQ _ _ _ he
        | outgrown => exact he
    | halt x w' =>
      cases x <;> simp only [Oper.uponIn] at h ⊢
      case panic u => exact hQ _ _ _ h
  · rename_i hw
    simp only [hw] at h
    exact ⟨fun _ _ => trivial, keep a hy _, by rw [← Act.put_comm a v undef h2]; exact h.2⟩
/-- whatever order is picked from here on, and S holds behind every operation -/
def AnyJ (n : Nat) (P : Program) (md : Region.Mode) (ops : Array Oper) (Q : Exit → Act → World → Prop) (S : World → Prop) : Nat → Array Bool → Act → World → Prop
  | 0, listed, a, w => Region.ready md ops listed = [] ∧ Q .normal a w
  | fuel + 1, listed, a, w =>
    (Region.ready md ops listed = [] → Q .normal a w) ∧
    ∀ i ∈ Region.ready md ops listed, wpOpIn Fence.wide n P ops Q i (fun a' w' => S w' ∧ AnyJ n P md ops Q S fuel (listed.setIfInBounds i true) a' w') a w
theorem any_of_J : ∀ (fuel : Nat) (listed : Array Bool) (a : Act) (w : World), AnyJ n P md ops Q S fuel listed a w → wpAnyIn Fence.wide n P md ops Q fuel listed a w
  | 0, _, _, _, h => h
  | fuel + 1, _, _, _, h => ⟨h.1, fun i hi => wpOpIn_mono (fun a' w' h' => any_of_J fuel _ a' w' h'.2) (h.2 i hi)⟩
theorem anyI_first {i : Nat} {oi : Oper} {v : Value} (hi : ops[i]? = some oi) (hsel : ∀ (j : Nat) (o : Oper) cs b, ops[j]? = some o → o.op ≠ .select cs b)
    (hQ : ∀ c a w, Q (.panic c) (a.put oi.dst v) w → Q (.panic c) a w) :
    ∀ (fuel : Nat) (listed : Array Bool) (a : Act) (w : World),
      (∀ j oj, ops[j]? = some oj → j ≠ i → listed.getD j true = false → (∀ e ∈ oj.after, Region.binds md e = true → e.on ≠ i) → oi.apart ops oj = true) →
      i ∈ Region.ready md ops listed → YieldsIf P ops S oi v a → S w →
      AnyJ n P md ops Q S fuel (listed.setIfInBounds i true) (a.put oi.dst v) w → AnyJ n P md ops Q S (fuel + 1) listed a w := by
  intro fuel
  induction fuel with
  | zero =>
    intro listed a w _ hr hy hS H
    refine ⟨fun h => (by rw [h] at hr; cases hr), fun j hj => ?_⟩
    by_cases hji : j = i
    · subst hji; exact yifI hi hy hS ⟨hS, H⟩
    · have := ready_mono hj hji
      rw [H.1] at this
      cases this
  | succ fuel ih =>
    intro listed a w hfree hr hy hS H
    refine ⟨fun h => (by rw [h] at hr; cases hr), fun j hj => ?_⟩
    by_cases hji : j = i
    · subst hji; exact yifI hi hy hS ⟨hS, H⟩
    · have h1 := H.2 j (ready_mono hj hji)
      obtain ⟨hjun, oj, hoj, hall⟩ := mem_ready.1 hj
      have hnot : ∀ e ∈ oj.after, Region.binds md e = true → e.on ≠ i := fun e he hb heq => by
        have h1 := hall e he hb
        have h0 := (mem_ready.1 hr).1
        rw [heq] at h1
        rcases Nat.lt_or_ge i listed.size with h' | h'
        · simp [h'] at h0 h1; rw [h0] at h1; cases h1
        · simp [Array.getElem?_eq_none h'] at h1
      have h2 := putI hoj (hfree j oj hoj hji hjun hnot) (fun cs b => hsel i oi cs b hi) (fun cs b => hsel j oj cs b hoj) hQ hy h1
      have hfree' : ∀ k ok, ops[k]? = some ok → k ≠ i → (listed.setIfInBounds j true).getD k true = false →
          (∀ e ∈ ok.after, Region.binds md e = true → e.on ≠ i) → oi.apart ops ok = true := fun k ok hk hki hun hno => by
        refine hfree k ok hk hki ?_ hno
        by_cases hjk : j = k
        · subst hjk; exact hjun
        · rw [getD_set_ne true hjk] at hun; exact hun
      refine wpOpIn_mono (fun a' w' h3 => ⟨h3.2.1, ih (listed.setIfInBounds j true) a' w' hfree' (ready_mono hr (Ne.symm hji)) h3.1 h3.2.1 ?_⟩) h2
      rw [Array.setIfInBounds_comm _ _ hji]
      exact h3.2.2
theorem anyI_done {listed : Array Bool} {a : Act} {w : World} (hr : Region.ready md ops listed = []) (h : Q .normal a w) : ∀ fuel, AnyJ n P md ops Q S fuel listed a w
  | 0 => ⟨hr, h⟩
  | _ + 1 => ⟨fun _ => h, by rw [hr]; simp⟩
/-- the beginning -/
theorem region_I {id : Nat} {a : Act} {w : World} (hm : P.follows .mixedOrders = true) (hS : S w.drew)
    (h : S w.drew → AnyJ n P .any ops Q S ops.size (Array.replicate ops.size false) a w.drew) : (Code.region id ops true).wpIn Fence.wide n P Q a w :=
  wpIn_region_any hm (any_of_J _ _ _ _ (h hS))
theorem tkI (i : Nat) {oi : Oper} {v : Value} {fuel : Nat} {listed : Array Bool} {a a' : Act} {w : World} (h : AnyJ n P md ops Q S fuel (listed.setIfInBounds i true) a' w) (hi : ops[i]? = some oi := by simp only [List.getElem?_toArray, List.getElem?_cons_succ, List.getElem?_cons_zero]; rfl)
    (hs : Region.noSelect ops = true := by kernel_rfl) (hf : Region.free md ops listed i = true := by kernel_rfl) (hr : (Region.ready md ops listed).contains i = true := by kernel_rfl)
    (hQ : ∀ c a w, Q (.panic c) (a.put oi.dst v) w → Q (.panic c) a w := by exact fun _ _ _ h => h) (hw : Region.wanted oi (yielded ops a.tmps) = true := by rfl)
    (hy : ∀ w, S w → (execOp a.eval oi).run P w = .ok (.value v) w := by (focus ((intro w hSw; (try have hSw := HF.out _ hSw); (try dsimp only at hSw); go_simp); try exact rfl)))
    (hS : S w := by assumption)
    (ha : a.put oi.dst v = a' := by (simp only [Act.put, List.setIfInBounds_toArray, List.set_cons_zero, List.set_cons_succ]; rfl)) : AnyJ n P md ops Q S (fuel + 1) listed a w := by
  subst ha
  exact anyI_first hi (Region.noSelect_spec hs) hQ fuel listed a w (Region.free_spec hi hf) (by simpa using hr) (.inl ⟨hw, hy⟩) hS h
theorem tnI (i : Nat) {oi : Oper} {fuel : Nat} {listed : Array Bool} {a a' : Act} {w : World} (h : AnyJ n P md ops Q S fuel (listed.setIfInBounds i true) a' w) (hi : ops[i]? = some oi := by simp only [List.getElem?_toArray, List.getElem?_cons_succ, List.getElem?_cons_zero]; rfl)
    (hs : Region.noSelect ops = true := by kernel_rfl) (hf : Region.free md ops listed i = true := by kernel_rfl) (hr : (Region.ready md ops listed).contains i = true := by kernel_rfl)
    (hQ : ∀ c a w, Q (.panic c) (a.put oi.dst undef) w → Q (.panic c) a w := by exact fun _ _ _ h => h) (hw : Region.wanted oi (yielded ops a.tmps) = false := by rfl)
    (hS : S w := by assumption)
    (ha : a.put oi.dst undef = a' := by (simp only [Act.put, List.setIfInBounds_toArray, List.set_cons_zero, List.set_cons_succ]; rfl)) : AnyJ n P md ops Q S (fuel + 1) listed a w := by
  subst ha
  exact anyI_first hi (Region.noSelect_spec hs) hQ fuel listed a w (Region.free_spec hi hf) (by simpa using hr) (.inr ⟨hw, rfl⟩) hS h
/-- operation i, and none but it, comes next: a call -/
theorem nxI (i : Nat) {o : Oper} {f : FuncId} {args : Array Value} {fuel : Nat} {listed : Array Bool} {a : Act} {w : World}
    (h : Calls P f args w fun e w' => ∃ v, e = .returned v ∧ S w' ∧ (S w' → AnyJ n P md ops Q S fuel (listed.setIfInBounds i true) (a.put o.dst v) w'))
    (hr : Region.ready md ops listed = [i] := by kernel_rfl) (ho : ops[i]? = some o := by simp only [List.getElem?_toArray, List.getElem?_cons_succ, List.getElem?_cons_zero]; rfl) (hw : Region.wanted o (yielded ops a.tmps) = true := by rfl)
    (hx : (execOp a.eval o).run P w = .ok (.enter f args) w := by (go_simp; (first | exact ⟨rfl, rfl⟩ | exact rfl))) : AnyJ n P md ops Q S (fuel + 1) listed a w := by
  refine ⟨fun h0 => (by rw [hr] at h0; cases h0), fun j hj => ?_⟩
  rw [hr] at hj
  obtain rfl : j = i := by simpa using hj
  unfold wpOpIn
  simp only [ho, hw, if_true]
  unfold Oper.wpIn
  refine ⟨fun _ _ => trivial, ?_⟩
  rw [show Fence.wide.round = none from rfl, Oper.semAt_none, hx]
  simp only [Oper.uponIn]
  refine ⟨(fun h => by simp [Fence.wide] at h), callsIn_wide.2 (h.mono ?_)⟩
  rintro e w' ⟨v, rfl, h1, h2⟩
  exact ⟨h1, h2 h1⟩
/-- operation i, and none but it, comes next: a round -/
theorem nxR (i : Nat) {o : Oper} {l : Nat} {fn : FuncId} {tmps : Array Value} {assign body : Code} {fuel : Nat} {listed : Array Bool} {a : Act} {w : World}
    (h : RoundIn Fence.wide (n - 1) P l fn tmps assign body w fun e w' => ∃ v, e = .returned v ∧ S w' ∧ (S w' → AnyJ n P md ops Q S fuel (listed.setIfInBounds i true) (a.put o.dst v) w'))
    (hr : Region.ready md ops listed = [i] := by kernel_rfl) (ho : ops[i]? = some o := by simp only [List.getElem?_toArray, List.getElem?_cons_succ, List.getElem?_cons_zero]; rfl) (hw : Region.wanted o (yielded ops a.tmps) = true := by rfl)
    (hx : (execOp a.eval o).run P w = .ok (.round l fn tmps assign body) w := by go_simp) : AnyJ n P md ops Q S (fuel + 1) listed a w := by
  refine ⟨fun h0 => (by rw [hr] at h0; cases h0), fun j hj => ?_⟩
  rw [hr] at hj
  obtain rfl : j = i := by simpa using hj
  unfold wpOpIn
  simp only [ho, hw, if_true]
  unfold Oper.wpIn
  refine ⟨fun _ _ => trivial, ?_⟩
  rw [show Fence.wide.round = none from rfl, Oper.semAt_none, hx]
  simp only [Oper.uponIn]
  refine ⟨(fun h => by simp [Fence.wide] at h), RoundIn.mono h ?_⟩
  rintro e w' ⟨v, rfl, h1, h2⟩
  exact ⟨h1, h2 h1⟩
end
end Go.Proofs.YtmacfoebfpljoaaGreat
