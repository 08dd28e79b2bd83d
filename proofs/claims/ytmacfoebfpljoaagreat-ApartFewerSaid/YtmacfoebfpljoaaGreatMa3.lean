/- merged texts: Hg Haa Hp Hr Hs Ht Hi Hu Hv Hw Hx -/
import Derived.Test.YtmacfoebfpljoaaGreatMa2
import Derived.Test.YtmacfoebfpljoaaGreatMa1
import Derived.Lib.Hide
set_option maxRecDepth 100000
set_option maxHeartbeats 16000000
namespace Go.Proofs.YtmacfoebfpljoaaGreat
open Go.RowKit
set_option linter.unusedVariables false
def bgB (c : Int) : Bool := smallB c || decide (c = 40 ∨ c = 41 ∨ c = 124 ∨ c = 42 ∨ c = 43 ∨ c = 63 ∨ c = 123)
theorem begins_is (c : Int) (w : World) : Calls Tryz.prog 148 #[.int .u8 c] w fun e w' => e = .returned (.bool (bgB c)) ∧ Below w.heap.size w w' := by
 go_enter Tryz.func148, Tryz.ntmps148
 go_wp2_with (go_at_call 190; fail)
 refine (small_any _ _).mono ?_
 rintro e w1 ⟨rfl, hb1⟩
 cases hs : smallB c with
 | true =>
   have hB : bgB c = true := by unfold bgB; rw [hs]; rfl
   go_wp2
   go_ret
   exact ⟨ret_bool hB.symm, hb1⟩
 | false =>
   have hB : bgB c = decide (c = 40 ∨ c = 41 ∨ c = 124 ∨ c = 42 ∨ c = 43 ∨ c = 63 ∨ c = 123) := by unfold bgB; rw [hs]; rfl
   have HB := Lib.hid hB
   clear hB
   go_wp2
   all_goals go_ret
   all_goals exact ⟨ret_bool (by rw [HB.out, Bool.eq_iff_iff]; simp; try omega), hb1⟩
theorem one_no (s : ByteArray) (at_ : Nat) (w : World) (ha : at_ < s.size) (hno : bgB (s[at_].toNat : Int) = false) : Calls Tryz.prog 149 #[.string s, .int .i64 at_] w fun e w' => (∃ (g : Sg) (q : Int), e = .returned (.tuple #[encS g, .int .i64 q, .int .i64 2])) ∧ Below w.heap.size w w' := by
 have ha1 : (at_ : Int) < s.size := by omega
 unfold bgB at hno
 rw [Bool.or_eq_false_iff] at hno
 obtain ⟨hsb, hd⟩ := hno
 have hd := of_decide_eq_false hd
 have h40 : ((s[at_].toNat : Int) == 40) = false := beq_false_of_ne (by omega)
 have h41 : ((s[at_].toNat : Int) == 41) = false := beq_false_of_ne (by omega)
 have h42 : ((s[at_].toNat : Int) == 42) = false := beq_false_of_ne (by omega)
 have h43 : ((s[at_].toNat : Int) == 43) = false := beq_false_of_ne (by omega)
 have h63 : ((s[at_].toNat : Int) == 63) = false := beq_false_of_ne (by omega)
 have h123 : ((s[at_].toNat : Int) == 123) = false := beq_false_of_ne (by omega)
 have h124 : ((s[at_].toNat : Int) == 124) = false := beq_false_of_ne (by omega)
 clear hd
 go_enter Tryz.func149, Tryz.ntmps149
 go_wp2_with (go_at_call 190; fail)
 have kr := Bk.new w 189 zeroS
 have hb0 : Below w.heap.size w (w.alloc (.cells zeroS 189)) := belowA
 generalize w.alloc (.cells zeroS 189) = w0 at *
 refine (small_any _ w0).mono ?_
 rw [hsb]
 rintro e w1 ⟨rfl, hb1⟩
 have kr1 := kr.ext hb1
 have hb01 := hb0.trans (hb1.mono hb0.size)
 have hz1 := hb01.size
 obtain ⟨y0, y1, y2, y3, y4⟩ := bk5 kr1
 have rf := kr1.frozen; have rl := def_lt' kr1
 go_wp2
 have kz : Bk (((((w1.setCell ⟨w.heap.size, 0, none⟩ (.int .i64 0)).setCell ⟨w.heap.size, 1, none⟩ (.int .i64 0)).setCell ⟨w.heap.size, 2, none⟩ (.int .i64 0)).setCell ⟨w.heap.size, 3, none⟩ (.int .i64 0)).setCell ⟨w.heap.size, 4, none⟩ (.string { data := #[] })) w.heap.size 189 #[.int .i64 0, .int .i64 0, .int .i64 0, .int .i64 0, .string { data := #[] }] := ((((kr1.set_ 0 _).set_ 1 _).set_ 2 _).set_ 3 _).set_ 4 _
 obtain ⟨q0, q1, q2, q3, q4⟩ := bk5 kz
 exact bodyPost_ret (v := .tuple #[encS (⟨0, 0, 0, 0, { data := #[] }⟩ : Sg), .int .i64 at_, .int .i64 2]) (by simp [results, Tryz.results149, go_sem, q0, q1, q2, q3, q4]) rfl ⟨⟨⟨0, 0, 0, 0, { data := #[] }⟩, at_, rfl⟩, belowA⟩
def sgs (l : List Sg) : List Value := l.flatMap Sg.cells
theorem sgs_append (a b : List Sg) : sgs (a ++ b) = sgs a ++ sgs b := by simp [sgs]
theorem sgs_len (l : List Sg) : (sgs l).length = l.length * 5 := by
 induction l with
 | nil => rfl
 | cons r l ih => simp only [sgs, List.flatMap_cons, List.length_append] at *; rw [ih]; simp [Sg.cells]; omega
theorem info_sg : (Tryz.prog.info? 189).map (fun i => (i.zero, i.size, i.bytes)) = some (some (.agg #[.int .i64 0, .int .i64 0, .int .i64 0, .int .i64 0, .string ByteArray.empty]), 5, 48) := by kernel_rfl
/-- signs in a row of its own -/
def Signs (w : World) (v : Value) (w' : World) : Prop := ∃ n l, w'.ownsRow w.heap.size 189 5 v n (sgs l) ∧ n ≤ 200 ∧ ∀ g ∈ l, g.Ok
def LexOut (w : World) (e : Ending) (w' : World) : Prop := ∃ (v : Value) (at_ er : Int), e = .returned (.tuple #[v, .int .i64 at_, .int .i64 er]) ∧ Signs w v w' ∧ Below w.heap.size w w'
theorem Signs.nil_ (w w' : World) : Signs w (.slice none 0 0) w' := ⟨0, [], World.ownsRow_nil _ _ _ _, by omega, fun g hg => by cases hg⟩
theorem lex_any (s : ByteArray) (w : World) (hs : s.size ≤ 10000000) : Calls Tryz.prog 99 #[.string s] w (LexOut w) := by
 go_enter Tryz.func99, Tryz.ntmps99
 go_wp2
 go_loopw [5, 6] (fun v j wr => ∃ (k n : Nat) (l : List Sg), k ≤ s.size ∧ n ≤ 200 ∧ j = .int .i64 k ∧ Hid (∀ g ∈ l, g.Ok) ∧ Hid (wr.ownsRow w.heap.size 189 5 v n (sgs l)) ∧ Below w.heap.size w wr) (fun _ j _ => s.size - (intOf j).toNat)
 case atStart => exact ⟨0, 0, [], by omega, by omega, rfl, Lib.hid (fun g hg => by cases hg), Lib.hid (World.ownsRow_nil _ _ _ _), Below.refl _ _⟩
 case round =>
  obtain ⟨k, n, l, hk, hn, rfl, hI, hown, hbr⟩ := hrel
  have hz := hbr.size
  obtain ⟨A, c, rfl, -, -, -, -⟩ := own_form hown.out
  by_cases hlt : k < s.size
  ·have e3 : (k : Int) < s.size := by omega
   by_cases hc : ((s[k].toNat : Int) == 32) = true
   ·go_wp2
    go_roundw
    case rel => exact ⟨k + 1, n, l, by omega, by omega, by go_num, hI, hown, hbr⟩
    case measure => simp [intOf]; omega
   replace hc : ((s[k].toNat : Int) == 32) = false := by simpa using hc
   by_cases h200 : n = 200
   ·have e2 : ((n : Int) == 200) = true := by rw [beq_iff_eq]; omega
    clear h200
    go_wp2_with (go_at_call 148; fail)
    refine (begins_is _ wr).mono ?_
    rintro e w1 ⟨rfl, hb1⟩
    have hb01 := hbr.trans (hb1.mono hz)
    cases hbg : bgB (s[k].toNat : Int) with
    | true =>
      go_wp2
      exact bodyPost_ret (v := .tuple #[.slice none 0 0, .int .i64 k, .int .i64 4]) (by simp [results, Tryz.results99, go_sem]) rfl ⟨_, _, _, rfl, Signs.nil_ _ _, hb01⟩
    | false =>
      have hon := one_no s k w1 hlt hbg
      have HON := Lib.hid hon
      clear hon
      go_wp2_with (go_at_call 149; fail)
      refine HON.out.mono ?_
      rintro e w2 ⟨⟨⟨gk, ga, gl, gh, gn⟩, q, rfl⟩, hb2⟩
      have hb02 := hb01.trans (hb2.mono hb01.size)
      have hz2 := hb02.size
      go_wp2
      exact bodyPost_ret (v := .tuple #[.slice none 0 0, .int .i64 q, .int .i64 2]) (by simp [results, Tryz.results99, go_sem]) rfl ⟨_, _, _, rfl, Signs.nil_ _ _, belowA⟩
   ·have e2 : ((n : Int) == 200) = false := beq_false_of_ne (by omega)
    have hon := one_any s k wr hs hlt
    have HON := Lib.hid hon
    clear hon
    go_wp2_with (go_at_call 149; fail)
    refine HON.out.mono ?_
    rintro e w2 ⟨⟨⟨gk, ga, gl, gh, gn⟩, q, er, rfl, hok⟩, hb2⟩
    have hb02 := hbr.trans (hb2.mono hz)
    have hz2 := hb02.size
    have HOK := Lib.hid hok
    clear hok
    by_cases her : er = 0
    ·subst her
     obtain ⟨ho, hq1, hq2⟩ := HOK.out rfl
     obtain ⟨q', rfl⟩ : ∃ q' : Nat, q = (q' : Int) := ⟨q.toNat, by omega⟩
     have HO := Lib.hid ho
     have hown2 := own_below hown.out hb2
     clear ho HOK
     have hbA : Below w.heap.size w (w2.alloc (.cells #[.int .i64 gk, .int .i64 ga, .int .i64 gl, .int .i64 gh, .string gn] 189)) := belowA
     have hownA := World.ownsRow.alloc hown2 (.cells #[.int .i64 gk, .int .i64 ga, .int .i64 gl, .int .i64 gh, .string gn] 189)
     have kx := Bk.new w2 189 #[.int .i64 gk, .int .i64 ga, .int .i64 gl, .int .i64 gh, .string gn]
     go_upto_region 11 with fail
     generalize w2.alloc (.cells #[.int .i64 gk, .int .i64 ga, .int .i64 gl, .int .i64 gh, .string gn] 189) = wA at *
     have hzA := hbA.size
     obtain ⟨x0, x1, x2, x3, x4⟩ := bk5 kx
     go_wp2_with (at_builtin; ((refine app_one Tryz.underlying184 info_sg rfl (by decide) wA w.heap.size _ n _ hownA (by unfold maxLen; omega) (by omega) hzA _ rfl (by simp [Value.oneCell']) rfl _ _ rfl rfl rfl ?_); intro g4 cap4 w4 hown4 hgr4 hat4 hlt4))
     have hb4 := below_own hbA hownA hgr4 hzA (Nat.le_refl _)
     go_roundw
     case rel => exact ⟨q', n + 1, l ++ [⟨gk, ga, gl, gh, gn⟩], by omega, by omega, rfl, Lib.hid (fun g hg => by rcases List.mem_append.1 hg with h | h; (· exact hI.out g h); (· simp at h; subst h; exact HO.out)), Lib.hid (by rw [sgs_append]; exact hown4), hb4⟩
     case measure => simp [intOf]; omega
    ·have her' : (er == 0) = false := beq_false_of_ne her
     go_wp2
     exact bodyPost_ret (v := .tuple #[.slice none 0 0, .int .i64 q, .int .i64 er]) (by simp [results, Tryz.results99, go_sem]) rfl ⟨_, _, _, rfl, Signs.nil_ _ _, belowA⟩
  ·have e3 : ¬ (k : Int) < s.size := by omega
   go_wp2
   exact bodyPost_ret (v := .tuple #[.slice A n c, .int .i64 0, .int .i64 0]) (by simp [results, Tryz.results99, go_sem]) rfl ⟨_, _, _, rfl, ⟨n, l, hown.out, hn, hI.out⟩, hbr⟩
theorem bytes1 (c : UInt8) (s : ByteArray) : (({ data := #[c] } : ByteArray) ++ s).size = 1 + s.size := by rw [ByteArray.size_append]; rfl
theorem bytes2 (c : UInt8) (s : ByteArray) : (s ++ ({ data := #[c] } : ByteArray)).size = s.size + 1 := by rw [ByteArray.size_append]; rfl
theorem bytes3 (c d : UInt8) (s : ByteArray) : (s ++ ({ data := #[c, d] } : ByteArray)).size = s.size + 2 := by rw [ByteArray.size_append]; rfl
theorem sz1 (c : UInt8) : ({ data := #[c] } : ByteArray).size = 1 := rfl
theorem sz0 : ({ data := #[] } : ByteArray).size = 0 := rfl
theorem times_any (lo hi : Int) (w : World) (h : 0 ≤ lo ∧ lo ≤ 20) (hh : -1 ≤ hi ∧ hi ≤ 20) : Calls Tryz.prog 231 #[.int .i64 lo, .int .i64 hi] w (StrOut 50 w) := by
 have hsh := fun n (hn : -1 ≤ n ∧ n ≤ 20) W => show_any n W (by omega)
 have HSH := Lib.hid hsh
 clear hsh
 by_cases hA : (lo = 0 ∧ hi = -1) ∨ (lo = 1 ∧ hi = -1) ∨ (lo = 0 ∧ hi = 1)
 ·rcases hA with ⟨rfl, rfl⟩ | ⟨rfl, rfl⟩ | ⟨rfl, rfl⟩
  all_goals
   go_enter Tryz.func231, Tryz.ntmps231
   go_wp2
   go_ret
   exact ⟨_, rfl, by show (1 : Nat) ≤ 50; omega, Below.refl _ _⟩
 have hB : ((lo == 0) = false ∧ (lo == 1) = false) ∨ ((lo == 0) = true ∧ (hi == -1) = false ∧ (lo == 1) = false ∧ (hi == 1) = false) ∨ ((lo == 0) = false ∧ (lo == 1) = true ∧ (hi == -1) = false) := by
  simp only [beq_iff_eq, beq_eq_false_iff_ne]
  omega
 have hC : (hi == lo) = true ∨ ((hi == lo) = false ∧ (hi == -1) = true) ∨ ((hi == lo) = false ∧ (hi == -1) = false) := by
  cases (hi == lo) <;> cases (hi == -1) <;> simp
 clear hA
 rcases hB with ⟨e1, e3⟩ | ⟨e1, e2, e3, e4⟩ | ⟨e1, e3, e2⟩
 all_goals
  rcases hC with f1 | ⟨f1, f2⟩ | ⟨f1, f2⟩
  all_goals first
   | (exfalso; rw [e2] at f2; cases f2; done)
   | skip
  all_goals
   go_enter Tryz.func231, Tryz.ntmps231
   go_wp2_with (go_at_call 230; fail)
   refine (HSH.out lo (by omega) _).mono ?_
   rintro e w1 ⟨s, rfl, hs, hb1⟩
   have hcat : ¬ 9223372036854775807 < 1 + s.size := by omega
   have hz : (({ data := #[123] } : ByteArray) ++ s).size ≤ 22 := by rw [bytes1]; omega
   go_upto_region 8 with fail
   generalize ({ data := #[123] } : ByteArray) ++ s = t at *
   clear hcat hs
   have hcat : ¬ 9223372036854775807 < t.size + 1 := by omega
   have hcat2 : ¬ 9223372036854775807 < t.size + 2 := by omega
   go_wp2_with (go_at_call 230; fail)
   first
    | (go_ret; exact ⟨_, rfl, by first | (rw [bytes2]; omega) | (rw [bytes3]; omega), hb1⟩)
    | (refine (HSH.out hi (by omega) _).mono ?_
       rintro e w2 ⟨u, rfl, hu, hb2⟩
       have hz2 : ¬ 9223372036854775807 < t.size + 1 + u.size := by omega
       have hz3 : ¬ 9223372036854775807 < t.size + 1 + u.size + 1 := by omega
       go_wp2
       go_ret
       exact ⟨_, rfl, by rw [bytes2, ByteArray.size_append, bytes2]; omega, hb1.trans (hb2.mono hb1.size)⟩)
/-- a sign that may be printed -/
def Sg.Fine (s : Sg) : Prop := 1 ≤ s.k ∧ s.k ≤ 5 ∧ s.name.size ≤ 12 ∧ 0 ≤ s.lo ∧ s.lo ≤ 20 ∧ -1 ≤ s.hi ∧ s.hi ≤ 20
theorem show5_any (A : Option Addr) (n c : Nat) (l : List Sg) (w : World) (h : Rd w w.heap.size 5 A n (sgs l)) (hok : ∀ g ∈ l, g.Fine) (hn : n ≤ 100000) : Calls Tryz.prog 218 #[.slice A n c] w (StrOut (64 * n) w) := by
 have hlen : l.length = n := by have := h.1; rw [sgs_len] at this; omega
 have HL := Lib.hid hlen
 have H := Lib.hid h
 have HOK := Lib.hid hok
 clear h hlen hok
 have htm := fun lo hi h1 h2 W => times_any lo hi W h1 h2
 have HTM := Lib.hid htm
 clear htm
 go_enter Tryz.func218, Tryz.ntmps218
 go_upto_region 2 with fail
 have kn := Bk.new w 9 #[.string { data := #[] }, .string { data := #[] }, .string { data := #[40] }, .string { data := #[41] }, .string { data := #[124] }]
 have hb0 : Below w.heap.size w (w.alloc (.cells #[.string { data := #[] }, .string { data := #[] }, .string { data := #[40] }, .string { data := #[41] }, .string { data := #[124] }] 9)) := belowA
 generalize w.alloc (.cells #[.string { data := #[] }, .string { data := #[] }, .string { data := #[40] }, .string { data := #[41] }, .string { data := #[124] }] 9) = w0 at *
 go_wp2
 go_loopw [4, 5] (fun t j wr => ∃ (q : Nat) (x : ByteArray), q ≤ n ∧ j = .int .i64 q ∧ t = .string x ∧ x.size ≤ 64 * q ∧ Below w0.heap.size w0 wr) (fun _ j _ => n - (intOf j).toNat)
 case atStart => exact ⟨0, _, by omega, rfl, rfl, by show (0 : Nat) ≤ _; omega, Below.refl _ _⟩
 case round =>
  obtain ⟨q, x, hq, rfl, rfl, hx, hbr⟩ := hrel
  by_cases hlt : q < n
  ·have e3 : (q : Int) < n := by omega
   obtain ⟨g, hg⟩ : ∃ g, l[q]? = some g := ⟨_, List.getElem?_eq_getElem (by have := HL.out; omega)⟩
   have hbw : Below w.heap.size w wr := hb0.trans (hbr.mono hb0.size)
   obtain ⟨b, o, rfl, hb, hcc⟩ := Rd.el Sg.cells (fun _ => rfl) (H.out.below hbw) HL.out hg
   have hok := HOK.out g (List.mem_of_getElem? hg)
   have d0 : wr.cell? ⟨b, o + q * 5, none⟩ = some (.int .i64 g.k) := hcc 0 (by omega)
   have d1 : wr.cell? ⟨b, o + q * 5 + 1, none⟩ = some (.int .i64 g.at_) := hcc 1 (by omega)
   have d2 : wr.cell? ⟨b, o + q * 5 + 2, none⟩ = some (.int .i64 g.lo) := hcc 2 (by omega)
   have d3 : wr.cell? ⟨b, o + q * 5 + 3, none⟩ = some (.int .i64 g.hi) := hcc 3 (by omega)
   have d4 : wr.cell? ⟨b, o + q * 5 + 4, none⟩ = some (.string g.name) := hcc 4 (by omega)
   obtain ⟨gk, ga, gl, gh, gn⟩ := g
   obtain ⟨o1, o2, o3, o4, o5, o6, o7⟩ := hok
   dsimp only at o1 o2 o3 o4 o5 o6 o7 d0 d1 d2 d3 d4
   have kn1 := kn.ext hbr
   have m2 := kn1.cell 2; have m3 := kn1.cell 3; have m4 := kn1.cell 4
   have ml := def_lt' kn1
   dsimp at m2 m3 m4
   have hz := hbr.size
   have hz0 := hb0.size
   have hk : gk = 1 ∨ gk = 2 ∨ gk = 3 ∨ gk = 4 ∨ gk = 5 := by omega
   have hq0 : (0 : Int) < q ∨ ¬ (0 : Int) < q := by omega
   clear hg hcc
   rcases hk with rfl | rfl | rfl | rfl | rfl
   all_goals rcases hq0 with hq0 | hq0
   all_goals go_wp2_with (go_at_call 231; (refine (HTM.out _ _ ⟨o4, o5⟩ ⟨o6, o7⟩ _).mono ?_); rintro e w5 ⟨u, rfl, hu, hb5⟩; have hb6 : Below w0.heap.size w0 w5 := Below.trans (hbr.alloc hz _) (hb5.mono (by simp; omega)))
   all_goals
    (go_roundw
     case rel => exact ⟨q + 1, _, by omega, by go_num, rfl, by (simp only [ByteArray.size_append, sz1]; omega), belowA⟩
     case measure => simp [intOf]; omega)
  ·obtain rfl : q = n := by omega
   go_wp2
   go_ret
   exact ⟨x, rfl, hx, hb0.trans (hbr.mono hb0.size)⟩
end Go.Proofs.YtmacfoebfpljoaaGreat
namespace Go.Proofs.YtmacfoebfpljoaaGreat
/-- what a sign does to the depth -/
def dl (k : Int) : Int := if k = 2 then 1 else if k = 3 then -1 else 0
/-- the depth ahead of a place -/
def dpt (K : List Int) (i : Nat) : Int := ((K.take i).map dl).sum
theorem dpt_zero (K : List Int) : dpt K 0 = 0 := by simp [dpt]
theorem dpt_succ {K : List Int} {i : Nat} {k : Int} (h : K[i]? = some k) : dpt K (i + 1) = dpt K i + dl k := by
 unfold dpt
 rw [List.take_add_one, h, Option.toList_some, List.map_append, List.sum_append]
 simp
/-- signs stand beside each other as they may -/
structure Beside (K : List Int) : Prop where
 item : ∀ i k k', K[i]? = some k → K[i + 1]? = some k' → (k = 2 ∨ k = 4) → (k' = 1 ∨ k' = 2)
 count : ∀ i k k', K[i]? = some k → K[i + 1]? = some k' → k' = 5 → (k = 1 ∨ k = 3)
/-- a piece that may be read -/
structure Seg (K : List Int) (f t : Nat) : Prop where
 lt : f < t
 le : t ≤ K.length
 first : ∃ k, K[f]? = some k ∧ (k = 1 ∨ k = 2)
 last : ∃ k, K[t - 1]? = some k ∧ k ≠ 2 ∧ k ≠ 4
 dp : dpt K t = dpt K f
 above : ∀ j, f ≤ j → j ≤ t → dpt K f ≤ dpt K j
/-- the place of the bracket that shuts one, behind a depth: how many signs on -/
def shutL : Int → List Int → Nat
 | _, [] => 0
 | d, k :: ks => if d + dl k = 0 then 0 else 1 + shutL (d + dl k) ks
def shutF (K : List Int) (i : Nat) : Nat := i + shutL 0 (K.drop i)
/-- ahead of the place found the depth isn't 0 -/
theorem shut_spec {K : List Int} {i t : Nat} (ht : t ≤ K.length) (hit : i < t) (hd : dpt K t = dpt K i) : i ≤ shutF K i ∧ shutF K i < t ∧ dpt K (shutF K i + 1) = dpt K i ∧ ∀ j, i ≤ j → j < shutF K i → dpt K (j + 1) ≠ dpt K i := by
 have key : ∀ (m a : Nat) (d : Int), i + a + m = t → d = dpt K (i + a) - dpt K i → (0 < m ∨ False) → shutL d (K.drop (i + a)) < m ∧ dpt K (i + a + shutL d (K.drop (i + a)) + 1) = dpt K i ∧ ∀ j, i + a ≤ j → j < i + a + shutL d (K.drop (i + a)) → dpt K (j + 1) ≠ dpt K i := by
  intro m
  induction m with
  | zero => intro a d _ _ h; simp at h
  | succ m ih =>
    intro a d h1 h2 _
    have hlt : i + a < K.length := by omega
    have hk : K[i + a]? = some K[i + a] := List.getElem?_eq_getElem hlt
    have hdr : K.drop (i + a) = K[i + a] :: K.drop (i + a + 1) := List.drop_eq_getElem_cons hlt
    have hs := dpt_succ hk
    rw [hdr]
    simp only [shutL]
    by_cases h0 : d + dl K[i + a] = 0
    ·rw [if_pos h0]
     refine ⟨by omega, ?_, fun j hj1 hj2 => by omega⟩
     rw [Nat.add_zero, hs]
     omega
    ·rw [if_neg h0]
     rcases Nat.eq_zero_or_pos m with rfl | hm
     ·exfalso
      have : i + a + 1 = t := by omega
      rw [this] at hs
      omega
     ·obtain ⟨g1, g2, g3⟩ := ih (a + 1) (d + dl K[i + a]) (by omega) (by rw [show i + (a + 1) = i + a + 1 by omega, hs]; omega) (.inl hm)
      rw [show i + (a + 1) = i + a + 1 by omega] at g1 g2 g3
      refine ⟨by omega, ?_, ?_⟩
      ·rw [show i + a + (1 + shutL (d + dl K[i + a]) (K.drop (i + a + 1))) + 1 = i + a + 1 + shutL (d + dl K[i + a]) (K.drop (i + a + 1)) + 1 by omega]
       exact g2
      ·intro j hj1 hj2
       by_cases hj : j = i + a
       ·subst hj
        rw [hs]
        omega
       ·exact g3 j (by omega) (by omega)
 obtain ⟨g1, g2, g3⟩ := key (t - i) 0 0 (by omega) (by simp) (.inl (by omega))
 simp only [Nat.add_zero] at g1 g2 g3
 exact ⟨by unfold shutF; omega, by unfold shutF; omega, g2, g3⟩
/-- the next place at the same depth -/
def nx (K : List Int) (i : Nat) : Nat := if K[i]? = some 2 then shutF K i + 1 else i + 1
theorem nx_gt (K : List Int) (i : Nat) : i < nx K i := by
 unfold nx shutF
 split <;> omega
section
variable {K : List Int} {f t i : Nat}
theorem Seg.get (h : Seg K f t) (hi : i < t) : K[i]? = some (K[i]'(by have := h.le; omega)) := List.getElem?_eq_getElem _
/-- a place at a piece's depth: the next one is no further than its end, and at the same depth -/
theorem Seg.next (h : Seg K f t) (hf : f ≤ i) (hi : i < t) (hd : dpt K i = dpt K f) : nx K i ≤ t ∧ dpt K (nx K i) = dpt K f ∧ ((K[i]? = some 2 ∧ ∃ m, nx K i = m + 1 ∧ i < m ∧ K[m]? = some 3 ∧ ∀ j, i < j → j ≤ m → dpt K f + 1 ≤ dpt K j) ∨ (K[i]? ≠ some 2 ∧ K[i]? ≠ some 3 ∧ nx K i = i + 1)) := by
 have hk := h.get hi
 have hle := h.le
 by_cases h2 : K[i]? = some 2
 ·obtain ⟨g1, g2, g3, g4⟩ := shut_spec h.le hi (h.dp.trans hd.symm)
  have e2 : (K[i]'(by omega)) = 2 := by rw [hk] at h2; exact Option.some.inj h2
  have hs := dpt_succ hk
  rw [e2] at hs
  have hs' : dpt K (i + 1) = dpt K i + 1 := hs
  have hne : shutF K i ≠ i := fun e => by rw [e] at g3; omega
  have habove : ∀ j, i < j → j ≤ shutF K i → dpt K f + 1 ≤ dpt K j := by
   intro j hj1 hj2
   have h1 := h.above j (by omega) (by omega)
   have h3 := g4 (j - 1) (by omega) (by omega)
   rw [show j - 1 + 1 = j by omega] at h3
   omega
  refine ⟨by unfold nx; rw [if_pos h2]; omega, by unfold nx; rw [if_pos h2]; omega, .inl ⟨h2, shutF K i, by unfold nx; rw [if_pos h2], by omega, ?_, habove⟩⟩
  have hkm := h.get g2
  have hsm := dpt_succ hkm
  have h5 := habove (shutF K i) (by omega) (Nat.le_refl _)
  rw [hkm]
  congr 1
  unfold dl at hsm
  split at hsm
  ·omega
  ·split at hsm
   ·assumption
   ·omega
 ·have h3 : K[i]? ≠ some 3 := by
   intro e
   rw [hk] at e
   have e := Option.some.inj e
   have hs := dpt_succ hk
   rw [e] at hs
   have hs' : dpt K (i + 1) = dpt K i + -1 := hs
   have := h.above (i + 1) (by omega) (by omega)
   omega
  have hs := dpt_succ hk
  have e0 : dl (K[i]'(by omega)) = 0 := by
   unfold dl
   rw [if_neg (fun e => h2 (by rw [hk, e])), if_neg (fun e => h3 (by rw [hk, e]))]
  refine ⟨by unfold nx; rw [if_neg h2]; omega, by unfold nx; rw [if_neg h2]; omega, .inr ⟨h2, h3, by unfold nx; rw [if_neg h2]⟩⟩
/-- ahead of a |, and behind it -/
theorem Seg.bar (hB : Beside K) (h : Seg K f t) {a : Nat} (ha : f ≤ a) (hai : a ≤ i) (hda : dpt K a = dpt K f) (hfa : ∃ k, K[a]? = some k ∧ (k = 1 ∨ k = 2)) (hi : i < t) (hd : dpt K i = dpt K f) (h4 : K[i]? = some 4) : Seg K a i ∧ i + 1 < t ∧ ∃ k, K[i + 1]? = some k ∧ (k = 1 ∨ k = 2) := by
 have hle := h.le
 have hne : a ≠ i := by
  rintro rfl
  obtain ⟨k, hk, hk2⟩ := hfa
  rw [h4] at hk
  have := Option.some.inj hk
  omega
 obtain ⟨kl, hl1, hl2, hl3⟩ := h.last
 have h1 : i + 1 < t := by
  rcases Nat.lt_or_ge (i + 1) t with h | h
  ·exact h
  ·have e : t - 1 = i := by omega
   rw [e, h4] at hl1
   exact absurd (Option.some.inj hl1).symm hl3
 have hk1 := h.get h1
 have hprev := h.get (i := i - 1) (by omega)
 refine ⟨⟨by omega, by omega, hfa, ⟨_, hprev, ?_, ?_⟩, hd.trans hda.symm, fun j hj1 hj2 => by rw [hda]; exact h.above j (by omega) (by omega)⟩, h1, _, hk1, hB.item i _ _ h4 hk1 (.inr rfl)⟩
 ·intro e
  have := hB.item (i - 1) _ _ hprev (by rw [show i - 1 + 1 = i by omega]; exact h4) (.inl e)
  omega
 ·intro e
  have := hB.item (i - 1) _ _ hprev (by rw [show i - 1 + 1 = i by omega]; exact h4) (.inr e)
  omega
/-- ahead of an item -/
theorem Seg.item (h : Seg K f t) {a : Nat} (ha : f ≤ a) (hai : a < i) (hda : dpt K a = dpt K f) (hfa : ∃ k, K[a]? = some k ∧ (k = 1 ∨ k = 2)) (hi : i < t) (hd : dpt K i = dpt K f) (hp : ∃ k, K[i - 1]? = some k ∧ k ≠ 4) : Seg K a i := by
 have hle := h.le
 obtain ⟨k, hk, hk4⟩ := hp
 refine ⟨hai, by omega, hfa, ⟨k, hk, ?_, hk4⟩, hd.trans hda.symm, fun j hj1 hj2 => by rw [hda]; exact h.above j (by omega) (by omega)⟩
 rintro rfl
 have hs := dpt_succ hk
 rw [show i - 1 + 1 = i by omega] at hs
 have hs' : dpt K i = dpt K (i - 1) + 1 := hs
 have := h.above (i - 1) (by omega) (by omega)
 omega
/-- the last piece -/
theorem Seg.rest (h : Seg K f t) {a : Nat} (ha : f ≤ a) (hat : a < t) (hda : dpt K a = dpt K f) (hfa : ∃ k, K[a]? = some k ∧ (k = 1 ∨ k = 2)) : Seg K a t :=
 ⟨hat, h.le, hfa, h.last, h.dp.trans hda.symm, fun j hj1 hj2 => by rw [hda]; exact h.above j (by omega) hj2⟩
/-- without its count -/
theorem Seg.count (hB : Beside K) (h : Seg K f t) (h5 : K[t - 1]? = some 5) : Seg K f (t - 1) := by
 have hle := h.le
 have hlt := h.lt
 have hne : f ≠ t - 1 := by
  intro e
  obtain ⟨k, hk, hk2⟩ := h.first
  rw [e, h5] at hk
  have := Option.some.inj hk
  omega
 have hprev := h.get (i := t - 1 - 1) (by omega)
 have hc := hB.count (t - 1 - 1) _ _ hprev (by rw [show t - 1 - 1 + 1 = t - 1 by omega]; exact h5) rfl
 have hs := dpt_succ h5
 rw [show t - 1 + 1 = t by omega] at hs
 have hs' : dpt K t = dpt K (t - 1) + 0 := hs
 refine ⟨by omega, by omega, h.first, ⟨_, hprev, by omega, by omega⟩, by have := h.dp; omega, fun j hj1 hj2 => h.above j hj1 (by omega)⟩
/-- within its brackets -/
theorem Seg.within (hB : Beside K) (h : Seg K f t) (h2 : K[f]? = some 2) (hn : nx K f = t) : Seg K (f + 1) (t - 1) ∧ K[t - 1]? = some 3 := by
 have hle := h.le
 have hlt := h.lt
 obtain ⟨-, -, g⟩ := h.next (Nat.le_refl _) hlt rfl
 rcases g with ⟨-, m, hm1, hm2, hm3, hm4⟩ | ⟨g, -⟩
 ·have e : m = t - 1 := by omega
  subst e
  have hk1 := h.get (i := f + 1) (by omega)
  have hit := hB.item f _ _ h2 hk1 (.inl rfl)
  obtain ⟨x, hx⟩ : ∃ x, x = K[f + 1]'(by omega) := ⟨_, rfl⟩
  rw [← hx] at hk1 hit
  have hne : f + 1 ≠ t - 1 := by
   intro e
   rw [e, hm3] at hk1
   have := Option.some.inj hk1
   omega
  have hprev := h.get (i := t - 1 - 1) (by omega)
  have hs := dpt_succ h2
  have hs' : dpt K (f + 1) = dpt K f + 1 := hs
  have hs3 := dpt_succ hm3
  rw [show t - 1 + 1 = t by omega] at hs3
  have hs3' : dpt K t = dpt K (t - 1) + -1 := hs3
  have hd := h.dp
  have hno := hB.item (t - 1 - 1) _ _ hprev (by rw [show t - 1 - 1 + 1 = t - 1 by omega]; exact hm3)
  refine ⟨⟨by omega, by omega, ⟨_, hk1, hit⟩, ⟨_, hprev, fun e => by have := hno (.inl e); omega, fun e => by have := hno (.inr e); omega⟩, by omega, fun j hj1 hj2 => by have := hm4 j (by omega) hj2; omega⟩, hm3⟩
 ·exact absurd h2 g
end
end Go.Proofs.YtmacfoebfpljoaaGreat
namespace Go.Proofs.YtmacfoebfpljoaaGreat
open Go.RowKit
set_option linter.unusedVariables false
/-- what is known of the signs ahead of a place -/
structure Chk (K : List Int) (q : Nat) (d : Int) (it ct : Bool) : Prop where
 d : d = dpt K q
 nn : ∀ j, j ≤ q → 0 ≤ dpt K j
 it : it = true ↔ (q = 0 ∨ ∃ k, K[q - 1]? = some k ∧ (k = 2 ∨ k = 4))
 ct : ct = true ↔ (q = 0 ∨ ∃ k, K[q - 1]? = some k ∧ k ≠ 1 ∧ k ≠ 3)
 fst : 0 < q → ∃ k, K[0]? = some k ∧ (k = 1 ∨ k = 2)
 b1 : ∀ i k k', i + 1 < q → K[i]? = some k → K[i + 1]? = some k' → (k = 2 ∨ k = 4) → (k' = 1 ∨ k' = 2)
 b2 : ∀ i k k', i + 1 < q → K[i]? = some k → K[i + 1]? = some k' → k' = 5 → (k = 1 ∨ k = 3)
theorem Chk.zero (K : List Int) : Chk K 0 0 true true :=
 ⟨by rw [dpt_zero], fun j hj => by rw [show j = 0 by omega, dpt_zero]; omega, by simp, by simp, fun h => by omega, fun i k k' h => by omega, fun i k k' h => by omega⟩
theorem Chk.step {K : List Int} {q : Nat} {d k : Int} {it ct : Bool} (h : Chk K q d it ct) (hk : K[q]? = some k) (h1 : it = true → k = 1 ∨ k = 2) (h2 : k = 3 → d ≠ 0) (h3 : k = 5 → ct = false) : Chk K (q + 1) (d + dl k) (decide (k = 2 ∨ k = 4)) (decide (k ≠ 1 ∧ k ≠ 3)) := by
 have hs := dpt_succ hk
 have hd0 := h.nn q (Nat.le_refl _)
 have hdd := h.d
 have hnew : 0 ≤ dpt K (q + 1) := by
  rw [hs, ← hdd]
  unfold dl
  split
  ·omega
  ·split
   ·rename_i e; have := h2 e; omega
   ·omega
 refine ⟨by rw [hs, ← hdd], fun j hj => ?_, ?_, ?_, fun _ => ?_, fun i x x' hi hx hx' hc => ?_, fun i x x' hi hx hx' hc => ?_⟩
 ·rcases Nat.lt_or_ge q j with hlt | hge
  ·rw [show j = q + 1 by omega]; exact hnew
  ·exact h.nn j hge
 ·simp [hk]
 ·simp [hk]
 ·rcases Nat.eq_zero_or_pos q with rfl | hq
  ·exact ⟨k, hk, h1 (h.it.2 (.inl rfl))⟩
  ·exact h.fst hq
 ·rcases Nat.lt_or_ge (i + 1) q with hlt | hge
  ·exact h.b1 i x x' hlt hx hx' hc
  ·have e : q = i + 1 := by omega
   subst e
   rw [hk] at hx'
   have := Option.some.inj hx'
   subst this
   exact h1 (h.it.2 (.inr ⟨x, by simpa using hx, hc⟩))
 ·rcases Nat.lt_or_ge (i + 1) q with hlt | hge
  ·exact h.b2 i x x' hlt hx hx' hc
  ·have e : q = i + 1 := by omega
   subst e
   rw [hk] at hx'
   have := Option.some.inj hx'
   subst this
   have h4 := h3 hc
   by_cases h5 : x = 1 ∨ x = 3
   ·exact h5
   ·have : ct = true := h.ct.2 (.inr ⟨x, by simpa using hx, by omega⟩)
    rw [h4] at this
    cases this
theorem Chk.done {K : List Int} {d : Int} {ct : Bool} (h : Chk K K.length d false ct) (hd : ¬ 0 < d) (hn : 0 < K.length) : Beside K ∧ Seg K 0 K.length := by
 have hl : K[K.length - 1]? = some K[K.length - 1] := List.getElem?_eq_getElem (by omega)
 have hit : ¬ (K[K.length - 1] = 2 ∨ K[K.length - 1] = 4) := fun e => by
  have := h.it.2 (.inr ⟨_, hl, e⟩)
  cases this
 have h0 := h.nn K.length (Nat.le_refl _)
 have hdd := h.d
 refine ⟨⟨fun i k k' hk hk' => h.b1 i k k' (List.getElem?_eq_some_iff.1 hk').1 hk hk', fun i k k' hk hk' => h.b2 i k k' (List.getElem?_eq_some_iff.1 hk').1 hk hk'⟩, ⟨hn, Nat.le_refl _, h.fst hn, ⟨_, hl, fun e => hit (.inl e), fun e => hit (.inr e)⟩, by rw [dpt_zero]; omega, fun j _ hj => by rw [dpt_zero]; exact h.nn j hj⟩⟩
def kinds (l : List Sg) : List Int := l.map Sg.k
/-- signs as they lie -/
def SgsIn (w : World) (B : Nat) (A : Option Addr) (n : Nat) (l : List Sg) : Prop := Rd w B 5 A n (sgs l) ∧ n ≤ 200 ∧ ∀ g ∈ l, g.Ok
section
variable {w w' : World} {B B' n : Nat} {A : Option Addr} {l : List Sg}
theorem SgsIn.below (h : SgsIn w B A n l) (hb : Below B w w') : SgsIn w' B A n l := ⟨h.1.below hb, h.2⟩
theorem SgsIn.more (h : SgsIn w B A n l) (hb : B ≤ B') : SgsIn w B' A n l := ⟨h.1.more hb, h.2⟩
theorem SgsIn.ext (h : SgsIn w w.heap.size A n l) (hb : Below w.heap.size w w') : SgsIn w' w'.heap.size A n l := (h.below hb).more hb.size
theorem SgsIn.len (h : SgsIn w B A n l) : l.length = n := by
 have := h.1.1
 rw [sgs_len] at this
 omega
theorem sgs_get {l : List Sg} {k i : Nat} {g : Sg} (hk : l[k]? = some g) (hi : i < 5) : (sgs l)[k * 5 + i]? = g.cells[i]? := by
 induction l generalizing k with
 | nil => simp at hk
 | cons x l ih =>
   have e : sgs (x :: l) = x.cells ++ sgs l := by simp [sgs]
   rw [e]
   cases k with
   | zero =>
     have hx : x = g := by simpa using hk
     subst hx
     rw [List.getElem?_append_left (by simp [Sg.cells]; omega)]
     simp
   | succ k =>
     rw [List.getElem?_append_right (by simp [Sg.cells]; omega)]
     have e2 : (k + 1) * 5 + i - x.cells.length = k * 5 + i := by simp [Sg.cells]; omega
     rw [e2]
     exact ih (by simpa using hk)
theorem SgsIn.at_ {k : Nat} {g : Sg} (h : SgsIn w B A n l) (hx : l[k]? = some g) : g.Ok ∧ ∃ b o, A = some ⟨b, o, none⟩ ∧ b < B ∧ ∀ i, i < 5 → w.cell? ⟨b, o + k * 5 + i, none⟩ = g.cells[i]? := by
 have hlt : k < n := by rw [← h.len]; exact (List.getElem?_eq_some_iff.1 hx).1
 obtain ⟨b, o, e, hb, hc⟩ := h.1.2 (by omega)
 refine ⟨h.2.2 g (List.mem_of_getElem? hx), b, o, e, hb, fun i hi => ?_⟩
 have hg := sgs_get hx hi
 have hcl : i < g.cells.length := by simp [Sg.cells]; omega
 rw [List.getElem?_eq_getElem hcl] at hg ⊢
 rw [Nat.add_assoc]
 exact hc _ _ hg
theorem Signs.in_ {w w' : World} {v : Value} (h : Signs w v w') : ∃ A n c l, v = .slice A n c ∧ n ≤ c ∧ SgsIn w' w'.heap.size A n l := by
 obtain ⟨n, l, h1, h2, h3⟩ := h
 obtain ⟨A, c, rfl, h4, -, -, r⟩ := own_form h1
 exact ⟨A, n, c, l, rfl, h4, r, h2, h3⟩
end
def CheckOut (n : Nat) (K : List Int) (w : World) (e : Ending) (w' : World) : Prop := (∃ (i : Int) (b : Bool), e = .returned (.tuple #[.int .i64 i, .bool b]) ∧ i < n ∧ (i < 0 → b = false → n = 0 ∨ (Beside K ∧ Seg K 0 n))) ∧ Below w.heap.size w w'
theorem check_any (A : Option Addr) (n c : Nat) (l : List Sg) (w : World) (h : SgsIn w w.heap.size A n l) : Calls Tryz.prog 100 #[.slice A n c] w (CheckOut n (kinds l) w) := by
 have hlen := h.len
 have HLEN := Lib.hid hlen
 have hn := h.2.1
 have H := Lib.hid h
 clear h hlen
 go_enter Tryz.func100, Tryz.ntmps100
 go_wp2
 go_loop [4, 5, 6, 7] (fun d it ct j => ∃ (q : Nat) (x : Int) (a b : Bool), q ≤ n ∧ j = .int .i64 q ∧ d = .int .i64 x ∧ it = .bool a ∧ ct = .bool b ∧ Hid (Chk (kinds l) q x a b) ∧ 0 ≤ x ∧ x ≤ q) (fun _ _ _ j => n - (intOf j).toNat)
 case atStart => exact ⟨0, 0, true, true, by omega, rfl, rfl, rfl, rfl, Lib.hid (Chk.zero _), by omega, by omega⟩
 case round =>
  obtain ⟨q, x, a, b, hq, rfl, rfl, rfl, rfl, hC, hx1, hx2⟩ := hrel
  by_cases hlt : q < n
  ·have e3 : (q : Int) < n := by omega
   obtain ⟨g, hg⟩ : ∃ g, l[q]? = some g := ⟨_, List.getElem?_eq_getElem (by have := HLEN.out; omega)⟩
   obtain ⟨hok, bb, o, rfl, hb, hcc⟩ := H.out.at_ hg
   have hkq : (kinds l)[q]? = some g.k := by unfold kinds; rw [List.getElem?_map, hg]; rfl
   have d0 : w.cell? ⟨bb, o + q * 5, none⟩ = some (.int .i64 g.k) := hcc 0 (by omega)
   have hst : ∀ (d' : Int) (a' b' : Bool), (a = true → g.k = 1 ∨ g.k = 2) → (g.k = 3 → x ≠ 0) → (g.k = 5 → b = false) → d' = x + dl g.k → a' = decide (g.k = 2 ∨ g.k = 4) → b' = decide (g.k ≠ 1 ∧ g.k ≠ 3) → Chk (kinds l) (q + 1) d' a' b' := fun d' a' b' h1 h2 h3 e1 e2 e3 => by
    subst e1 e2 e3
    exact hC.out.step hkq h1 h2 h3
   have HST := Lib.hid hst
   have hk : g.k = 1 ∨ g.k = 2 ∨ g.k = 3 ∨ g.k = 4 ∨ g.k = 5 := by obtain ⟨h1, h2, -⟩ := hok; omega
   generalize g.k = kk at *
   clear hcc hg hkq hst hok hC
   have hx0 : (x == 0) = true ∨ (x == 0) = false := by cases (x == 0) <;> simp
   rcases hk with rfl | rfl | rfl | rfl | rfl
   all_goals rcases hx0 with hx0 | hx0
   all_goals cases a
   all_goals cases b
   all_goals go_wp2
   all_goals first
    | (go_round
       case rel => exact ⟨q + 1, _, _, _, by omega, by go_num, rfl, rfl, rfl, Lib.hid (HST.out _ _ _ (by simp) (by first | (simp; done) | (simp at hx0 ⊢; assumption)) (by simp) (by first | (simp [dl]; done) | (simp [dl]; omega)) (by rfl) (by rfl)), by simp at hx0; omega, by simp at hx0; omega⟩
       case measure => simp [intOf]; omega)
    | (refine bodyPost_ret (v := .tuple #[.int .i64 q, .bool false]) ?_ rfl ⟨⟨_, _, rfl, by omega, fun h => by omega⟩, belowA⟩; (simp [results, Tryz.results100, go_sem]; done))
  ·obtain rfl : n = q := by omega
   have hkl : (kinds l).length = n := by unfold kinds; rw [List.length_map]; exact HLEN.out
   have R : ∀ bb : Bool, (bb = false → n = 0 ∨ (a = false ∧ ¬ 0 < x)) → CheckOut n (kinds l) w (.returned (.tuple #[.int .i64 (-1), .bool bb])) w := fun bb h => ⟨⟨-1, bb, rfl, by omega, fun _ hb => by
    rcases h hb with h | ⟨rfl, hx⟩
    ·exact .inl h
    ·by_cases h0 : n = 0
     ·exact .inl h0
     ·have hd := hC.out
      rw [← hkl] at hd
      have := hd.done hx (by omega)
      rw [hkl] at this
      exact .inr this⟩, Below.refl _ _⟩
   have HR := Lib.hid R
   clear R hkl hC
   by_cases h0 : 0 < n
   ·have e0 : (0 : Int) < n := by omega
    cases a
    ·by_cases hx : 0 < x
     ·go_wp2
      exact bodyPost_ret (v := .tuple #[.int .i64 (-1), .bool true]) (by simp [results, Tryz.results100, go_sem]) rfl (HR.out _ (fun h => by cases h))
     ·go_wp2
      exact bodyPost_ret (v := .tuple #[.int .i64 (-1), .bool false]) (by simp [results, Tryz.results100, go_sem]) rfl (HR.out _ (fun _ => .inr ⟨by trivial, hx⟩))
    ·go_wp2
     exact bodyPost_ret (v := .tuple #[.int .i64 (-1), .bool true]) (by simp [results, Tryz.results100, go_sem]) rfl (HR.out _ (fun h => by cases h))
   ·have e0 : ¬ (0 : Int) < n := by omega
    go_wp2
    exact bodyPost_ret (v := .tuple #[.int .i64 (-1), .bool false]) (by simp [results, Tryz.results100, go_sem]) rfl (HR.out _ (fun _ => .inl (by omega)))
end Go.Proofs.YtmacfoebfpljoaaGreat
namespace Go.Proofs.YtmacfoebfpljoaaGreat
def itr (K : List Int) (f : Nat) : Nat → Nat
 | 0 => f
 | q + 1 => nx K (itr K f q)
theorem itr_mono (K : List Int) (f : Nat) {a b : Nat} (h : a ≤ b) : itr K f a ≤ itr K f b := by
 induction b with
 | zero => rw [show a = 0 by omega]; exact Nat.le_refl _
 | succ b ih =>
   rcases Nat.lt_or_ge b a with h1 | h1
   ·rw [show a = b + 1 by omega]; exact Nat.le_refl _
   ·have := nx_gt K (itr K f b)
    have := ih h1
    show itr K f a ≤ nx K (itr K f b)
    omega
/-- no | at the piece's own depth; no item but the first -/
def NoBar (K : List Int) (f t : Nat) : Prop := ∀ q, itr K f q < t → K[itr K f q]? ≠ some 4
def NoItem (K : List Int) (f t : Nat) : Prop := ∀ q, 0 < q → itr K f q < t → K[itr K f q]? ≠ some 1 ∧ K[itr K f q]? ≠ some 2
theorem last_get {α : Type} {l : List α} {x : α} (h : l.getLast? = some x) : l[l.length - 1]? = some x ∧ 0 < l.length := by
 rw [List.getLast?_eq_getElem?] at h
 refine ⟨h, ?_⟩
 have := (List.getElem?_eq_some_iff.1 h).1
 omega
theorem pairs_snoc {P : Nat → Nat → Prop} {l : List Nat} {x y : Nat} (h : ∀ (j a b : Nat), l[j]? = some a → l[j + 1]? = some b → P a b) (hl : l.getLast? = some x) (hP : P x y) : ∀ (j a b : Nat), (l ++ [y])[j]? = some a → (l ++ [y])[j + 1]? = some b → P a b := by
 obtain ⟨h1, h2⟩ := last_get hl
 intro j a b ha hb
 rcases Nat.lt_or_ge (j + 1) l.length with hlt | hge
 ·rw [List.getElem?_append_left (by omega)] at ha hb
  exact h j a b ha hb
 ·have hj : j + 1 < (l ++ [y]).length := (List.getElem?_eq_some_iff.1 hb).1
  simp at hj
  have e : j = l.length - 1 := by omega
  rw [List.getElem?_append_left (by omega), e, h1] at ha
  rw [List.getElem?_append_right (by omega), show j + 1 - l.length = 0 by omega] at hb
  simp at ha hb
  subst ha hb
  exact hP
section
variable {K : List Int} {f t q i la : Nat} {cs : List Nat}
structure C3 (K : List Int) (f t q i : Nat) (cs : List Nat) (la : Nat) : Prop where
 iq : i = itr K f q
 fi : f ≤ i
 it : i ≤ t
 d : dpt K i = dpt K f
 lst : cs.getLast? = some la
 fla : f ≤ la
 lai : la ≤ i
 lat : la < t
 dla : dpt K la = dpt K f
 kla : ∃ k, K[la]? = some k ∧ (k = 1 ∨ k = 2)
 hd : cs[0]? = some f
 pr : ∀ (j a b : Nat), cs[j]? = some a → cs[j + 1]? = some b → Seg K a (b - 1)
 nb : cs.length = 1 → ∀ q', q' < q → K[itr K f q']? ≠ some 4
 len : cs.length ≤ i - f + 1
theorem C3.zero (h : Seg K f t) : C3 K f t 0 f [f] f :=
 ⟨rfl, Nat.le_refl _, Nat.le_of_lt h.lt, rfl, rfl, Nat.le_refl _, Nat.le_refl _, h.lt, rfl, h.first, rfl, fun j a b ha hb => by simp at hb, fun _ q' h => by omega, by simp⟩
theorem C3.bar (hB : Beside K) (hS : Seg K f t) (h : C3 K f t q i cs la) (hi : i < t) (hk : K[i]? = some 4) : C3 K f t (q + 1) (i + 1) (cs ++ [i + 1]) (i + 1) := by
 obtain ⟨g1, g2, g3⟩ := hS.bar hB h.fla h.lai h.dla h.kla hi h.d hk
 have hn : nx K i = i + 1 := by unfold nx; rw [hk, if_neg (by simp)]
 have hs := dpt_succ hk
 have hs' : dpt K (i + 1) = dpt K i + 0 := hs
 have hd := h.d
 obtain ⟨-, hpos⟩ := last_get h.lst
 refine ⟨by show i + 1 = nx K (itr K f q); rw [← h.iq, hn], by have := h.fi; omega, by omega, by omega, by simp, by have := h.fi; omega, Nat.le_refl _, g2, by omega, g3, ?_, pairs_snoc h.pr h.lst (by simpa using g1), ?_, by have := h.len; have := h.fi; simp; omega⟩
 ·rw [List.getElem?_append_left hpos]; exact h.hd
 ·intro hl
  rw [List.length_append] at hl
  have : [i + 1].length = 1 := rfl
  omega
theorem C3.skip (hS : Seg K f t) (h : C3 K f t q i cs la) (hi : i < t) (hk : K[i]? ≠ some 4) : C3 K f t (q + 1) (nx K i) cs la := by
 obtain ⟨g1, g2, -⟩ := hS.next h.fi hi h.d
 have hg := nx_gt K i
 refine ⟨by show nx K i = nx K (itr K f q); rw [← h.iq], by have := h.fi; omega, g1, g2, h.lst, h.fla, by have := h.lai; omega, h.lat, h.dla, h.kla, h.hd, h.pr, fun hl q' hq => ?_, by have := h.len; have := h.fi; omega⟩
 rcases Nat.lt_or_ge q' q with h1 | h1
 ·exact h.nb hl q' h1
 ·rw [show q' = q by omega, ← h.iq]; exact hk
theorem C3.done (hS : Seg K f t) (h : C3 K f t q t cs la) : Seg K la t ∧ (cs.length = 1 → NoBar K f t) := by
 refine ⟨hS.rest h.fla h.lat h.dla h.kla, fun hl q' hq => h.nb hl q' ?_⟩
 rcases Nat.lt_or_ge q' q with h1 | h1
 ·exact h1
 ·have h2 := itr_mono K f h1
  rw [← h.iq] at h2
  omega
structure C2 (K : List Int) (f t q i : Nat) (cs : List Nat) (la : Nat) : Prop where
 iq : i = itr K f q
 fi : f ≤ i
 it : i ≤ t
 d : dpt K i = dpt K f
 lst : cs.getLast? = some la
 fla : f ≤ la
 lai : la < i ∨ (la = f ∧ i = f)
 lat : la < t
 dla : dpt K la = dpt K f
 kla : ∃ k, K[la]? = some k ∧ (k = 1 ∨ k = 2)
 hd : cs[0]? = some f
 pr : ∀ (j a b : Nat), cs[j]? = some a → cs[j + 1]? = some b → Seg K a b
 pv : i = f ∨ ∃ k, K[i - 1]? = some k ∧ k ≠ 4
 ni : cs.length = 1 → ∀ q', 0 < q' → q' < q → K[itr K f q']? ≠ some 1 ∧ K[itr K f q']? ≠ some 2
 len : cs.length ≤ i - f + 1
 q0 : q = 0 → i = f
theorem C2.zero (h : Seg K f t) : C2 K f t 0 f [f] f :=
 ⟨rfl, Nat.le_refl _, Nat.le_of_lt h.lt, rfl, rfl, Nat.le_refl _, .inr ⟨rfl, rfl⟩, h.lt, rfl, h.first, rfl, fun j a b ha hb => by simp at hb, .inl rfl, fun _ q' h => by omega, by simp, fun _ => rfl⟩
theorem C2.go (hS : Seg K f t) (hN : NoBar K f t) (h : C2 K f t q i cs la) (hi : i < t) (cs' : List Nat) (la' : Nat) (hla : cs'.getLast? = some la') (h1 : f ≤ la') (h2 : la' ≤ i) (h3 : dpt K la' = dpt K f) (h4 : ∃ k, K[la']? = some k ∧ (k = 1 ∨ k = 2)) (h5 : cs'[0]? = some f) (h6 : ∀ (j a b : Nat), cs'[j]? = some a → cs'[j + 1]? = some b → Seg K a b) (h7 : cs'.length = 1 → cs.length = 1 ∧ (0 < q → K[i]? ≠ some 1 ∧ K[i]? ≠ some 2)) (h8 : cs'.length ≤ i - f + 2) : C2 K f t (q + 1) (nx K i) cs' la' := by
 obtain ⟨g1, g2, g3⟩ := hS.next h.fi hi h.d
 have hg := nx_gt K i
 refine ⟨by show nx K i = nx K (itr K f q); rw [← h.iq], by have := h.fi; omega, g1, g2, hla, h1, .inl (by omega), by omega, h3, h4, h5, h6, .inr ?_, fun hl q' hq1 hq2 => ?_, by have := h.fi; omega, fun e => by omega⟩
 ·rcases g3 with ⟨-, m, hm1, hm2, hm3, -⟩ | ⟨n2, n3, hn⟩
  ·exact ⟨3, by rw [hm1, show m + 1 - 1 = m by omega]; exact hm3, by omega⟩
  ·have hk := hS.get hi
   refine ⟨_, by rw [hn, show i + 1 - 1 = i by omega]; exact hk, fun e => ?_⟩
   have := hN q (by rw [← h.iq]; exact hi)
   rw [← h.iq, hk, e] at this
   exact this rfl
 ·obtain ⟨h9, h10⟩ := h7 hl
  rcases Nat.lt_or_ge q' q with hlt | hge
  ·exact h.ni h9 q' hq1 hlt
  ·rw [show q' = q by omega, ← h.iq]; exact h10 (by omega)
theorem C2.item (hS : Seg K f t) (hN : NoBar K f t) (h : C2 K f t q i cs la) (hi : i < t) (hif : f < i) (hk : ∃ k, K[i]? = some k ∧ (k = 1 ∨ k = 2)) : C2 K f t (q + 1) (nx K i) (cs ++ [i]) i := by
 obtain ⟨-, hpos⟩ := last_get h.lst
 have hlai : la < i := by rcases h.lai with h1 | ⟨h1, h2⟩; (· exact h1); (· omega)
 have hpv : ∃ k, K[i - 1]? = some k ∧ k ≠ 4 := by rcases h.pv with h1 | h1; (· omega); (· exact h1)
 refine h.go hS hN hi _ _ (by simp) h.fi (Nat.le_refl _) h.d hk (by rw [List.getElem?_append_left hpos]; exact h.hd) (pairs_snoc h.pr h.lst (hS.item h.fla hlai h.dla h.kla hi h.d hpv)) (fun hl => by rw [List.length_append] at hl; have e1 : [i].length = 1 := rfl; omega) (by have := h.len; simp; omega)
theorem C2.skip (hS : Seg K f t) (hN : NoBar K f t) (h : C2 K f t q i cs la) (hi : i < t) (hk : f < i → K[i]? ≠ some 1 ∧ K[i]? ≠ some 2) : C2 K f t (q + 1) (nx K i) cs la := by
 refine h.go hS hN hi cs la h.lst h.fla (by rcases h.lai with h1 | ⟨h1, h2⟩ <;> omega) h.dla h.kla h.hd h.pr (fun hl => ⟨hl, fun hq => hk ?_⟩) (by have := h.len; omega)
 have h1 := itr_mono K f (a := 1) (b := q) hq
 have h2 := nx_gt K f
 have h3 : itr K f 1 = nx K f := rfl
 rw [← h.iq, h3] at h1
 omega
theorem C2.done (hS : Seg K f t) (h : C2 K f t q t cs la) : Seg K la t ∧ (cs.length = 1 → NoItem K f t) := by
 refine ⟨hS.rest h.fla h.lat h.dla h.kla, fun hl q' hq0 hq => h.ni hl q' hq0 ?_⟩
 rcases Nat.lt_or_ge q' q with h1 | h1
 ·exact h1
 ·have h2 := itr_mono K f h1
  rw [← h.iq] at h2
  omega
/-- one item alone: without a count it is a name or a pair of brackets -/
theorem single (hB : Beside K) (hK : ∀ (i : Nat) (k : Int), K[i]? = some k → 1 ≤ k ∧ k ≤ 5) (hS : Seg K f t) (h4 : NoBar K f t) (h12 : NoItem K f t) (h5 : K[t - 1]? ≠ some 5) : nx K f = t := by
 have hlt := hS.lt
 obtain ⟨g1, g2, -⟩ := hS.next (Nat.le_refl _) hlt rfl
 have hg := nx_gt K f
 rcases Nat.lt_or_ge (nx K f) t with h | h
 ·exfalso
  have step : ∀ q, 0 < q → f ≤ itr K f q → itr K f q < t → dpt K (itr K f q) = dpt K f → K[itr K f q]? = some 5 ∧ nx K (itr K f q) = itr K f q + 1 := by
   intro q hq hf ht hd
   obtain ⟨n1, n2⟩ := h12 q hq ht
   have n4 := h4 q ht
   obtain ⟨-, -, g3⟩ := hS.next hf ht hd
   have hk := hS.get ht
   have hkk := hK _ _ hk
   rcases g3 with ⟨g3, -⟩ | ⟨-, n3, hn⟩
   ·exact absurd g3 n2
   ·refine ⟨?_, hn⟩
    rw [hk] at n1 n2 n3 n4 ⊢
    have m1 : K[itr K f q]'(by have := hS.le; omega) ≠ 1 := fun e => n1 (by rw [e])
    have m2 : K[itr K f q]'(by have := hS.le; omega) ≠ 2 := fun e => n2 (by rw [e])
    have m3 : K[itr K f q]'(by have := hS.le; omega) ≠ 3 := fun e => n3 (by rw [e])
    have m4 : K[itr K f q]'(by have := hS.le; omega) ≠ 4 := fun e => n4 (by rw [e])
    congr 1
    omega
  obtain ⟨p, hp⟩ : ∃ p, p = nx K f := ⟨_, rfl⟩
  have e1 : itr K f 1 = p := hp.symm
  rw [← hp] at h hg g1 g2
  obtain ⟨k5, hn⟩ := step 1 (by omega) (by rw [e1]; omega) (by rw [e1]; exact h) (by rw [e1]; exact g2)
  rw [e1] at k5 hn
  rcases Nat.lt_or_ge (p + 1) t with h6 | h6
  ·have e2 : itr K f 2 = p + 1 := by
    show nx K (itr K f 1) = p + 1
    rw [e1, hn]
   have hd2 : dpt K (p + 1) = dpt K f := by have e5 : dl 5 = 0 := by simp [dl]
                                            rw [dpt_succ k5, e5, ← g2, Int.add_zero]
   obtain ⟨k6, -⟩ := step 2 (by omega) (by rw [e2]; omega) (by rw [e2]; exact h6) (by rw [e2]; exact hd2)
   rw [e2] at k6
   have := hB.count p 5 5 k5 k6 rfl
   omega
  ·have : t - 1 = p := by omega
   rw [this] at h5
   exact h5 k5
 ·omega
end
end Go.Proofs.YtmacfoebfpljoaaGreat
namespace Go.Proofs.YtmacfoebfpljoaaGreat
open Go.RowKit
set_option linter.unusedVariables false
theorem kinds_get {w : World} {B n : Nat} {A : Option Addr} {l : List Sg} {q : Nat} (H : SgsIn w B A n l) (hq : q < n) : ∃ (g : Sg) (b o : Nat), l[q]? = some g ∧ g.Ok ∧ A = some ⟨b, o, none⟩ ∧ b < B ∧ (kinds l)[q]? = some g.k ∧ (1 ≤ g.k ∧ g.k ≤ 5) ∧ w.cell? ⟨b, o + q * 5, none⟩ = some (.int .i64 g.k) := by
 obtain ⟨g, hg⟩ : ∃ g, l[q]? = some g := ⟨_, List.getElem?_eq_getElem (by have := H.len; omega)⟩
 obtain ⟨hok, bb, o, rfl, hb, hcc⟩ := H.at_ hg
 exact ⟨g, bb, o, hg, hok, rfl, hb, by unfold kinds; rw [List.getElem?_map, hg]; rfl, by obtain ⟨h1, h2, -⟩ := hok; omega, hcc 0 (by omega)⟩
theorem kinds_len {w : World} {B n : Nat} {A : Option Addr} {l : List Sg} (H : SgsIn w B A n l) : (kinds l).length = n := by
 unfold kinds; rw [List.length_map]; exact H.len
theorem shutL_cons {K : List Int} {i : Nat} {k d : Int} (hk : K[i]? = some k) : shutL d (K.drop i) = if d + dl k = 0 then 0 else 1 + shutL (d + dl k) (K.drop (i + 1)) := by
 obtain ⟨h, e⟩ := List.getElem?_eq_some_iff.1 hk
 rw [List.drop_eq_getElem_cons h, e]
 rfl
theorem shut_any (A : Option Addr) (n c at_ : Nat) (l : List Sg) (w : World) (h : SgsIn w w.heap.size A n l) (ha : at_ ≤ n) : Calls Tryz.prog 193 #[.slice A n c, .int .i64 at_] w fun e w' => e = .returned (.int .i64 (shutF (kinds l) at_)) ∧ Below w.heap.size w w' := by
 have hkl := Lib.hid (kinds_len h)
 have hn := h.2.1
 have H := Lib.hid h
 clear h
 go_enter Tryz.func193, Tryz.ntmps193
 go_wp2
 go_loop [5, 6] (fun d j => ∃ (q : Nat) (x : Int), q ≤ n ∧ at_ ≤ q ∧ j = .int .i64 q ∧ d = .int .i64 x ∧ Hid (shutF (kinds l) at_ = q + shutL x ((kinds l).drop q)) ∧ -(q : Int) ≤ x ∧ x ≤ q) (fun _ j => n - (intOf j).toNat)
 case atStart => exact ⟨at_, 0, ha, Nat.le_refl _, rfl, rfl, Lib.hid rfl, by omega, by omega⟩
 case round =>
  obtain ⟨q, x, hq, haq, rfl, rfl, hS, hx1, hx2⟩ := hrel
  by_cases hlt : q < n
  ·have e3 : (q : Int) < n := by omega
   obtain ⟨g, bb, o, -, -, rfl, hb, hkq, hk, d0⟩ := kinds_get H.out hlt
   have hst : ∀ y, y = x + dl g.k → (y = 0 → shutF (kinds l) at_ = q) ∧ (y ≠ 0 → shutF (kinds l) at_ = q + 1 + shutL y ((kinds l).drop (q + 1))) := by
    rintro y rfl
    have e := hS.out
    rw [shutL_cons hkq] at e
    refine ⟨fun h0 => ?_, fun h0 => ?_⟩
    ·rw [if_pos h0] at e; exact e
    ·rw [if_neg h0] at e; omega
   have HST := Lib.hid hst
   generalize g.k = kk at *
   clear hst hkq hS
   have tail : ∀ (y : Int), y = x + dl kk → -((q : Int) + 1) ≤ y → y ≤ q + 1 → (y == 0) = true ∨ (y == 0) = false := fun y _ _ _ => by cases (y == 0) <;> simp
   obtain ⟨y, hy, hdl⟩ : ∃ y, y = x + dl kk ∧ (-1 ≤ dl kk ∧ dl kk ≤ 1) := ⟨_, rfl, by unfold dl; split <;> (try split) <;> omega⟩
   obtain ⟨hy0, hy1⟩ := HST.out y hy
   have HY0 := Lib.hid hy0
   have HY1 := Lib.hid hy1
   clear hy0 hy1 HST tail
   obtain rfl | rfl | ⟨hk2, hk3⟩ : kk = 2 ∨ kk = 3 ∨ (kk ≠ 2 ∧ kk ≠ 3) := by omega
   ·have ey : y = x + 1 := by rw [hy]; rfl
    clear hy hdl
    subst ey
    by_cases h0 : x + 1 = 0
    ·have e0 : (x + 1 == 0) = true := by rw [beq_iff_eq]; exact h0
     go_wp2
     exact bodyPost_ret (v := .int .i64 q) (by simp [results, Tryz.results193, go_sem]) rfl ⟨by rw [HY0.out h0], belowA⟩
    ·have e0 : (x + 1 == 0) = false := beq_false_of_ne h0
     go_wp2
     go_round
     case rel => exact ⟨q + 1, x + 1, by omega, by omega, by go_num, rfl, Lib.hid (HY1.out h0), by omega, by omega⟩
     case measure => simp [intOf]; omega
   ·have ey : y = x - 1 := by rw [hy]; rfl
    clear hy hdl
    subst ey
    by_cases h0 : x - 1 = 0
    ·have e0 : (x - 1 == 0) = true := by rw [beq_iff_eq]; exact h0
     go_wp2
     exact bodyPost_ret (v := .int .i64 q) (by simp [results, Tryz.results193, go_sem]) rfl ⟨by rw [HY0.out h0], belowA⟩
    ·have e0 : (x - 1 == 0) = false := beq_false_of_ne h0
     go_wp2
     go_round
     case rel => exact ⟨q + 1, x - 1, by omega, by omega, by go_num, rfl, Lib.hid (HY1.out h0), by omega, by omega⟩
     case measure => simp [intOf]; omega
   ·have ey : y = x := by rw [hy]; unfold dl; rw [if_neg hk2, if_neg hk3]; omega
    have e2 : (kk == 2) = false := beq_false_of_ne hk2
    have e3' : (kk == 3) = false := beq_false_of_ne hk3
    clear hy hdl hk2 hk3
    subst ey
    by_cases h0 : y = 0
    ·have e0 : (y == 0) = true := by rw [beq_iff_eq]; exact h0
     go_wp2
     exact bodyPost_ret (v := .int .i64 q) (by simp [results, Tryz.results193, go_sem]) rfl ⟨by rw [HY0.out h0], belowA⟩
    ·have e0 : (y == 0) = false := beq_false_of_ne h0
     go_wp2
     go_round
     case rel => exact ⟨q + 1, y, by omega, by omega, by go_num, rfl, Lib.hid (HY1.out h0), by omega, by omega⟩
     case measure => simp [intOf]; omega
  ·have e3 : ¬ (q : Int) < n := by omega
   have hd : shutF (kinds l) at_ = n := by
    have e := hS.out
    rw [List.drop_eq_nil_of_le (by have := hkl.out; omega)] at e
    have e2 : shutL x [] = 0 := rfl
    omega
   go_wp2
   exact bodyPost_ret (v := .int .i64 n) (by simp [results, Tryz.results193, go_sem]) rfl ⟨by first | rfl | rw [hd], belowA⟩
end Go.Proofs.YtmacfoebfpljoaaGreat
namespace Go.Proofs.YtmacfoebfpljoaaGreat
open Go.RowKit
theorem info_in : (Tryz.prog.info? 3).map (fun i => (i.zero, i.size, i.bytes)) = some (some (.int .i64 0), 1, 8) := by kernel_rfl
theorem own_sole (W : World) (base : Nat) (t : TypeId) (cs : Array Value) (hb : base ≤ W.heap.size) : (W.alloc (.cells cs t)).ownsRow base t cs.size (.slice (some ⟨W.heap.size, 0, none⟩) 1 1) 1 cs.toList :=
 ⟨by simp, .inr ⟨W.heap.size, 1, cs, rfl, hb, heap_alloc_new W _, by omega, by unfold maxLen; omega, by simp, by rw [Nat.one_mul, List.take_of_length_le (by simp)]⟩⟩
def nts (l : List Nat) : List Value := l.map fun (i : Nat) => .int .i64 (i : Int)
theorem nts_snoc (l : List Nat) (x : Nat) : nts (l ++ [x]) = nts l ++ [.int .i64 (x : Int)] := by simp [nts]
end Go.Proofs.YtmacfoebfpljoaaGreat
namespace Go.Proofs.YtmacfoebfpljoaaGreat
open Go.RowKit
set_option linter.unusedVariables false
/-- where a piece is cut -/
def CutsOut (w : World) (P : List Nat → Prop) (e : Ending) (w' : World) : Prop := ∃ (A : Option Addr) (c : Nat) (cs : List Nat), e = .returned (.slice A cs.length c) ∧ w'.ownsRow w.heap.size 3 1 (.slice A cs.length c) cs.length (nts cs) ∧ P cs ∧ Below w.heap.size w w'
def P3 (K : List Int) (f t : Nat) (cs : List Nat) : Prop := ∃ c0, cs = c0 ++ [t] ∧ c0.length ≤ t - f + 1 ∧ 0 < c0.length ∧ c0[0]? = some f ∧ (∀ (j a b : Nat), c0[j]? = some a → c0[j + 1]? = some b → Seg K a (b - 1)) ∧ (∃ la, c0.getLast? = some la ∧ Seg K la t) ∧ (c0.length = 1 → NoBar K f t)
def P2 (K : List Int) (f t : Nat) (cs : List Nat) : Prop := ∃ c0, cs = c0 ++ [t] ∧ c0.length ≤ t - f + 1 ∧ 0 < c0.length ∧ c0[0]? = some f ∧ (∀ (j a b : Nat), c0[j]? = some a → c0[j + 1]? = some b → Seg K a b) ∧ (∃ la, c0.getLast? = some la ∧ Seg K la t) ∧ (c0.length = 1 → NoItem K f t)
theorem cuts3_any (A : Option Addr) (n c f t : Nat) (l : List Sg) (w : World) (h : SgsIn w w.heap.size A n l) (hB : Beside (kinds l)) (hS : Seg (kinds l) f t) : Calls Tryz.prog 150 #[.slice A n c, .int .i64 f, .int .i64 t, .int .i64 3] w (CutsOut w (P3 (kinds l) f t)) := by
 have hkl := kinds_len h
 have hn := h.2.1
 have htn : t ≤ n := by have := hS.le; omega
 have hft := hS.lt
 have H := Lib.hid h
 have HB := Lib.hid hB
 have HS := Lib.hid hS
 clear h hkl hB hS
 go_enter Tryz.func150, Tryz.ntmps150
 go_upto_region 2 with fail
 have hown0 := own_sole w w.heap.size 3 #[.int .i64 f] (Nat.le_refl _)
 have hb0 : Below w.heap.size w (w.alloc (.cells #[.int .i64 f] 3)) := belowA
 generalize w.alloc (.cells #[.int .i64 f] 3) = w0 at *
 go_wp2
 go_loopw [9, 10] (fun v j wr => ∃ (q i : Nat) (cs : List Nat) (la : Nat), f ≤ i ∧ i ≤ t ∧ cs.length ≤ i - f + 1 ∧ j = .int .i64 i ∧ Hid (C3 (kinds l) f t q i cs la) ∧ Hid (wr.ownsRow w.heap.size 3 1 v cs.length (nts cs)) ∧ Below w.heap.size w wr) (fun _ j _ => t - (intOf j).toNat)
 case atStart => exact ⟨0, f, [f], f, by omega, by omega, by simp, rfl, Lib.hid (C3.zero HS.out), Lib.hid hown0, hb0⟩
 case round =>
  obtain ⟨q, i, cs, la, hfi, hit, hlen, rfl, hC, hown, hbr⟩ := hrel
  have hz := hbr.size
  obtain ⟨A1, c1, rfl, -, -, -, -⟩ := own_form hown.out
  have hrh := Lib.hid ((H.out.below hbr).more hz)
  by_cases hlt : i < t
  ·have e3 : (i : Int) < t := by omega
   obtain ⟨g, bb, o, -, -, rfl, hb, hkq, hk, d0⟩ := kinds_get (H.out.below hbr) (q := i) (by omega)
   by_cases h4 : g.k = 4
   ·rw [h4] at hkq d0
    have hC2 := Lib.hid (hC.out.bar HB.out HS.out hlt hkq)
    have hi1 : i + 1 < t := (HS.out.bar HB.out hC.out.fla hC.out.lai hC.out.dla hC.out.kla hlt hC.out.d hkq).2.1
    clear hkq hk h4 hC
    go_wp2_with (at_builtin; ((refine app_one Tryz.underlying51 info_in rfl (by decide) wr w.heap.size _ cs.length _ hown.out (by unfold maxLen; omega) (by omega) hz _ rfl (by simp [Value.oneCell']) rfl _ _ rfl rfl rfl ?_); intro g4 cap4 w4 hown4 hgr4 hat4 hlt4))
    have hb4 := below_own hbr hown.out hgr4 hz (Nat.le_refl _)
    go_roundw
    case rel => exact ⟨q + 1, i + 1, cs ++ [i + 1], i + 1, by omega, by omega, by simp; omega, by go_num, hC2, Lib.hid (by rw [List.length_append, nts_snoc]; exact hown4), hb4⟩
    case measure => simp [intOf]; omega
   ·have hk4 : (kinds l)[i]? ≠ some 4 := by rw [hkq]; intro e; exact h4 (Option.some.inj e)
    have hC2 := Lib.hid (hC.out.skip HS.out hlt hk4)
    have hnx := hC2.out.it
    have hgt := nx_gt (kinds l) i
    have e4 : (g.k == 4) = false := beq_false_of_ne h4
    by_cases h2 : g.k = 2
    ·have hnx2 : nx (kinds l) i = shutF (kinds l) i + 1 := by unfold nx; rw [hkq, h2, if_pos rfl]
     rw [hnx2] at hC2 hnx hgt
     have hsh := shut_any _ n c i l wr hrh.out (by omega)
     generalize shutF (kinds l) i = z at *
     have e2 : (g.k == 2) = true := by rw [beq_iff_eq]; exact h2
     have HSH := Lib.hid hsh
     clear hsh hkq hk h4 hC hk4 hnx2 h2
     generalize g.k = kk at *
     go_wp2_with (go_at_call 193; fail)
     refine HSH.out.mono ?_
     rintro e w1 ⟨rfl, hb1⟩
     have hown1 := own_below hown.out hb1
     have hb2 := hbr.trans (hb1.mono hz)
     go_wp2
     go_roundw
     case rel => exact ⟨q + 1, z + 1, cs, la, by omega, by omega, by omega, by go_num, hC2, Lib.hid hown1, hb2⟩
     case measure => simp [intOf]; omega
    ·have hnx2 : nx (kinds l) i = i + 1 := by unfold nx; rw [hkq, if_neg (fun e => h2 (Option.some.inj e))]
     rw [hnx2] at hC2 hnx hgt
     have e2 : (g.k == 2) = false := beq_false_of_ne h2
     clear hkq hk h4 hC hk4 hnx2 h2
     generalize g.k = kk at *
     go_wp2
     go_roundw
     case rel => exact ⟨q + 1, i + 1, cs, la, by omega, by omega, by omega, by go_num, hC2, hown, hbr⟩
     case measure => simp [intOf]; omega
  ·obtain rfl : i = t := by omega
   have e3 : ¬ (i : Int) < i := by omega
   have hd := hC.out.done HS.out
   have hP : P3 (kinds l) f i (cs ++ [i]) := ⟨cs, rfl, hC.out.len, (last_get hC.out.lst).2, hC.out.hd, hC.out.pr, ⟨la, hC.out.lst, hd.1⟩, hd.2⟩
   have HP := Lib.hid hP
   clear hP hd hC
   go_wp2_with (at_builtin; ((refine app_one Tryz.underlying51 info_in rfl (by decide) wr w.heap.size _ cs.length _ hown.out (by unfold maxLen; omega) (by omega) hz _ rfl (by simp [Value.oneCell']) rfl _ _ rfl rfl rfl ?_); intro g4 cap4 w4 hown4 hgr4 hat4 hlt4))
   have hb4 := below_own hbr hown.out hgr4 hz (Nat.le_refl _)
   exact bodyPost_ret (v := .slice (some ⟨g4, 0, none⟩) (cs.length + 1) cap4) (by simp [results, Tryz.results150, go_sem]) rfl ⟨_, cap4, cs ++ [i], by rw [List.length_append]; rfl, by rw [List.length_append, nts_snoc]; exact hown4, HP.out, hb4⟩
theorem cuts2_any (A : Option Addr) (n c f t : Nat) (l : List Sg) (w : World) (h : SgsIn w w.heap.size A n l) (hN : NoBar (kinds l) f t) (hS : Seg (kinds l) f t) : Calls Tryz.prog 150 #[.slice A n c, .int .i64 f, .int .i64 t, .int .i64 2] w (CutsOut w (P2 (kinds l) f t)) := by
 have hkl := kinds_len h
 have hn := h.2.1
 have htn : t ≤ n := by have := hS.le; omega
 have hft := hS.lt
 have H := Lib.hid h
 have HB := Lib.hid hN
 have HS := Lib.hid hS
 clear h hkl hN hS
 go_enter Tryz.func150, Tryz.ntmps150
 go_upto_region 2 with fail
 have hown0 := own_sole w w.heap.size 3 #[.int .i64 f] (Nat.le_refl _)
 have hb0 : Below w.heap.size w (w.alloc (.cells #[.int .i64 f] 3)) := belowA
 generalize w.alloc (.cells #[.int .i64 f] 3) = w0 at *
 go_wp2
 go_loopw [9, 10] (fun v j wr => ∃ (q i : Nat) (cs : List Nat) (la : Nat), f ≤ i ∧ i ≤ t ∧ cs.length ≤ i - f + 1 ∧ j = .int .i64 i ∧ Hid (C2 (kinds l) f t q i cs la) ∧ Hid (wr.ownsRow w.heap.size 3 1 v cs.length (nts cs)) ∧ Below w.heap.size w wr) (fun _ j _ => t - (intOf j).toNat)
 case atStart => exact ⟨0, f, [f], f, by omega, by omega, by simp, rfl, Lib.hid (C2.zero HS.out), Lib.hid hown0, hb0⟩
 case round =>
  obtain ⟨q, i, cs, la, hfi, hit, hlen, rfl, hC, hown, hbr⟩ := hrel
  have hz := hbr.size
  obtain ⟨A1, c1, rfl, -, -, -, -⟩ := own_form hown.out
  have hrh := Lib.hid ((H.out.below hbr).more hz)
  by_cases hlt : i < t
  ·have e3 : (i : Int) < t := by omega
   obtain ⟨g, bb, o, -, -, rfl, hb, hkq, hk, d0⟩ := kinds_get (H.out.below hbr) (q := i) (by omega)
   have hgt := nx_gt (kinds l) i
   have hnx := (HS.out.next hfi hlt hC.out.d).1
   by_cases hfl : f < i ∧ (g.k = 1 ∨ g.k = 2)
   ·obtain ⟨hf, h12⟩ := hfl
    have hC2 := Lib.hid (hC.out.item HS.out HB.out hlt hf ⟨_, hkq, h12⟩)
    have e5 : (i : Int) > f := by omega
    rcases h12 with h1 | h2
    ·have hnx2 : nx (kinds l) i = i + 1 := by unfold nx; rw [hkq, if_neg (fun e => by have := Option.some.inj e; omega)]
     rw [hnx2] at hC2
     rw [h1] at d0
     clear hkq hk hC hnx hgt h1
     go_wp2_with (at_builtin; ((refine app_one Tryz.underlying51 info_in rfl (by decide) wr w.heap.size _ cs.length _ hown.out (by unfold maxLen; omega) (by omega) hz _ rfl (by simp [Value.oneCell']) rfl _ _ rfl rfl rfl ?_); intro g4 cap4 w4 hown4 hgr4 hat4 hlt4))
     have hb4 := below_own hbr hown.out hgr4 hz (Nat.le_refl _)
     go_roundw
     case rel => exact ⟨q + 1, i + 1, cs ++ [i], i, by omega, by omega, by simp; omega, by go_num, hC2, Lib.hid (by rw [List.length_append, nts_snoc]; exact hown4), hb4⟩
     case measure => simp [intOf]; omega
    ·have hnx2 : nx (kinds l) i = shutF (kinds l) i + 1 := by unfold nx; rw [hkq, h2, if_pos rfl]
     rw [hnx2] at hC2 hnx hgt
     have hsh := fun w' (h : SgsIn w' w'.heap.size (some ⟨bb, o, none⟩) n l) => shut_any (some ⟨bb, o, none⟩) n c i l w' h (by omega)
     generalize shutF (kinds l) i = z at *
     rw [h2] at d0
     have HSH := Lib.hid hsh
     clear hsh hkq hk hC hnx2 h2
     go_wp2_with (at_builtin; ((refine app_one Tryz.underlying51 info_in rfl (by decide) wr w.heap.size _ cs.length _ hown.out (by unfold maxLen; omega) (by omega) hz _ rfl (by simp [Value.oneCell']) rfl _ _ rfl rfl rfl ?_); intro g4 cap4 w4 hown4 hgr4 hat4 hlt4))
     have hb4 := below_own hbr hown.out hgr4 hz (Nat.le_refl _)
     have hrh4 := (H.out.below hb4).more hb4.size
     go_wp2_with (go_at_call 193; fail)
     refine (HSH.out _ hrh4).mono ?_
     rintro e w1 ⟨rfl, hb1⟩
     have hown1 := own_below hown4 hb1
     have hb2 := hb4.trans (hb1.mono hb4.size)
     go_wp2
     go_roundw
     case rel => exact ⟨q + 1, z + 1, cs ++ [i], i, by omega, by omega, by simp; omega, by go_num, hC2, Lib.hid (by rw [List.length_append, nts_snoc]; exact hown1), hb2⟩
     case measure => simp [intOf]; omega
   ·have hC2 := Lib.hid (hC.out.skip HS.out HB.out hlt (fun hf => ⟨fun e => hfl ⟨hf, .inl (by rw [hkq] at e; exact Option.some.inj e)⟩, fun e => hfl ⟨hf, .inr (by rw [hkq] at e; exact Option.some.inj e)⟩⟩))
    by_cases h2 : g.k = 2
    ·have hf : i = f := by
      rcases Nat.lt_or_ge f i with h | h
      ·exact absurd ⟨h, .inr h2⟩ hfl
      ·omega
     have e5 : ¬ (i : Int) > f := by omega
     have hnx2 : nx (kinds l) i = shutF (kinds l) i + 1 := by unfold nx; rw [hkq, h2, if_pos rfl]
     rw [hnx2] at hC2 hnx hgt
     have hsh := shut_any _ n c i l wr hrh.out (by omega)
     generalize shutF (kinds l) i = z at *
     rw [h2] at d0
     have HSH := Lib.hid hsh
     clear hsh hkq hk hC hnx2 h2 hfl hf
     go_wp2_with (go_at_call 193; fail)
     refine HSH.out.mono ?_
     rintro e w1 ⟨rfl, hb1⟩
     have hown1 := own_below hown.out hb1
     have hb2 := hbr.trans (hb1.mono hz)
     go_wp2
     go_roundw
     case rel => exact ⟨q + 1, z + 1, cs, la, by omega, by omega, by omega, by go_num, hC2, Lib.hid hown1, hb2⟩
     case measure => simp [intOf]; omega
    ·have hnx2 : nx (kinds l) i = i + 1 := by unfold nx; rw [hkq, if_neg (fun e => h2 (Option.some.inj e))]
     rw [hnx2] at hC2
     have e2 : (g.k == 2) = false := beq_false_of_ne h2
     clear hkq hC hnx2 hnx hgt
     rcases Nat.lt_or_ge f i with hf | hf
     ·have e5 : (i : Int) > f := by omega
      have e1 : (g.k == 1) = false := beq_false_of_ne (fun h => hfl ⟨hf, .inl h⟩)
      clear hk h2 hfl
      generalize g.k = kk at *
      go_wp2
      go_roundw
      case rel => exact ⟨q + 1, i + 1, cs, la, by omega, by omega, by omega, by go_num, hC2, hown, hbr⟩
      case measure => simp [intOf]; omega
     ·have e5 : ¬ (i : Int) > f := by omega
      clear hk h2 hfl
      generalize g.k = kk at *
      go_wp2
      go_roundw
      case rel => exact ⟨q + 1, i + 1, cs, la, by omega, by omega, by omega, by go_num, hC2, hown, hbr⟩
      case measure => simp [intOf]; omega
  ·obtain rfl : i = t := by omega
   have e3 : ¬ (i : Int) < i := by omega
   have hd := hC.out.done HS.out
   have hP : P2 (kinds l) f i (cs ++ [i]) := ⟨cs, rfl, hC.out.len, (last_get hC.out.lst).2, hC.out.hd, hC.out.pr, ⟨la, hC.out.lst, hd.1⟩, hd.2⟩
   have HP := Lib.hid hP
   clear hP hd hC
   go_wp2_with (at_builtin; ((refine app_one Tryz.underlying51 info_in rfl (by decide) wr w.heap.size _ cs.length _ hown.out (by unfold maxLen; omega) (by omega) hz _ rfl (by simp [Value.oneCell']) rfl _ _ rfl rfl rfl ?_); intro g4 cap4 w4 hown4 hgr4 hat4 hlt4))
   have hb4 := below_own hbr hown.out hgr4 hz (Nat.le_refl _)
   exact bodyPost_ret (v := .slice (some ⟨g4, 0, none⟩) (cs.length + 1) cap4) (by simp [results, Tryz.results150, go_sem]) rfl ⟨_, cap4, cs ++ [i], by rw [List.length_append]; rfl, by rw [List.length_append, nts_snoc]; exact hown4, HP.out, hb4⟩
end Go.Proofs.YtmacfoebfpljoaaGreat
namespace Go.Proofs.YtmacfoebfpljoaaGreat
/-- what `cuts` gives, for either way -/
structure PP (K : List Int) (f t : Nat) (y : Int) (cs : List Nat) : Prop where
 len : 2 ≤ cs.length
 hd : cs[0]? = some f
 lst : cs[cs.length - 1]? = some t
 lens : cs.length ≤ t - f + 2
 two : cs.length = 2 → (y = 3 → NoBar K f t) ∧ (y = 2 → NoItem K f t)
 pr : ∀ (j a b : Nat), cs[j]? = some a → cs[j + 1]? = some b → f ≤ a ∧ a < b ∧ b ≤ t ∧ (y = 3 → j + 2 < cs.length → Seg K a (b - 1)) ∧ (¬ (y = 3 ∧ j + 2 < cs.length) → Seg K a b) ∧ (2 < cs.length → b - a < t - f)
theorem up_mono {cs : List Nat} (h : ∀ (j a b : Nat), cs[j]? = some a → cs[j + 1]? = some b → a < b) (d : Nat) : ∀ (j a b : Nat), cs[j]? = some a → cs[j + d]? = some b → a + d ≤ b := by
 induction d with
 | zero => intro j a b ha hb; rw [Nat.add_zero, ha] at hb; have := Option.some.inj hb; omega
 | succ d ih =>
   intro j a b ha hb
   have hl := (List.getElem?_eq_some_iff.1 hb).1
   have hx : cs[j + d]? = some cs[j + d] := List.getElem?_eq_getElem (by omega)
   have h1 := ih j a _ ha hx
   have h2 := h (j + d) _ b hx hb
   omega
theorem PP.of {K : List Int} {f t : Nat} {y : Int} {c0 : List Nat} (hlen : c0.length ≤ t - f + 1) (hpos : 0 < c0.length) (hhd : c0[0]? = some f) (hpr : ∀ (j a b : Nat), c0[j]? = some a → c0[j + 1]? = some b → a < b ∧ (y = 3 → Seg K a (b - 1)) ∧ (y ≠ 3 → Seg K a b)) (hla : ∃ la, c0.getLast? = some la ∧ Seg K la t) (htwo : c0.length = 1 → (y = 3 → NoBar K f t) ∧ (y = 2 → NoItem K f t)) : PP K f t y (c0 ++ [t]) := by
 obtain ⟨la, hla1, hla2⟩ := hla
 have hl := last_get hla1
 have hcl : (c0 ++ [t]).length = c0.length + 1 := by simp
 have hlt := hla2.lt
 have up : ∀ (j a b : Nat), (c0 ++ [t])[j]? = some a → (c0 ++ [t])[j + 1]? = some b → a < b := by
  refine pairs_snoc (fun j a b ha hb => (hpr j a b ha hb).1) hla1 hlt
 have e0 : (c0 ++ [t])[0]? = some f := by rw [List.getElem?_append_left hpos]; exact hhd
 have el : (c0 ++ [t])[c0.length]? = some t := by simp
 refine ⟨by omega, e0, by rw [hcl, Nat.add_sub_cancel]; exact el, by omega, fun h => htwo (by omega), fun j a b ha hb => ?_⟩
 have hj := (List.getElem?_eq_some_iff.1 hb).1
 have m1 := up_mono up j 0 f a e0 (by rw [Nat.zero_add]; exact ha)
 have m2 := up_mono up (c0.length - (j + 1)) (j + 1) b t hb (by rw [show j + 1 + (c0.length - (j + 1)) = c0.length by omega]; exact el)
 have m3 := up j a b ha hb
 refine ⟨by omega, m3, by omega, fun hy hj2 => ?_, fun hn => ?_, fun h => by omega⟩
 ·rw [List.getElem?_append_left (by omega)] at ha hb
  exact (hpr j a b ha hb).2.1 hy
 ·rcases Nat.lt_or_ge (j + 1) c0.length with h1 | h1
  ·rw [List.getElem?_append_left (by omega)] at ha hb
   exact (hpr j a b ha hb).2.2 (fun e => hn ⟨e, by omega⟩)
  ·have e : j = c0.length - 1 := by omega
   rw [List.getElem?_append_left (by omega), e, hl.1] at ha
   rw [show j + 1 = c0.length by omega, el] at hb
   have := Option.some.inj ha
   have := Option.some.inj hb
   subst a b
   exact hla2
theorem PP.of3 {K : List Int} {f t : Nat} {cs : List Nat} (h : P3 K f t cs) : PP K f t 3 cs := by
 obtain ⟨c0, rfl, h1, h2, h3, h4, h5, h6⟩ := h
 exact PP.of h1 h2 h3 (fun j a b ha hb => ⟨by have := (h4 j a b ha hb).lt; omega, fun _ => h4 j a b ha hb, fun e => absurd rfl e⟩) h5 (fun h => ⟨fun _ => h6 h, fun e => by omega⟩)
theorem PP.of2 {K : List Int} {f t : Nat} {cs : List Nat} (h : P2 K f t cs) : PP K f t 2 cs := by
 obtain ⟨c0, rfl, h1, h2, h3, h4, h5, h6⟩ := h
 exact PP.of h1 h2 h3 (fun j a b ha hb => ⟨(h4 j a b ha hb).lt, fun e => by omega, fun _ => h4 j a b ha hb⟩) h5 (fun h => ⟨fun e => by omega, fun _ => h6 h⟩)
end Go.Proofs.YtmacfoebfpljoaaGreat
namespace Go.Proofs.YtmacfoebfpljoaaGreat
open Go.RowKit
set_option linter.unusedVariables false
section
variable {w w' : World} {base base' size size' n n' : Nat} {e e' : TypeId} {v v' : Value} {xs xs' : List Value} {row : Option Nat}
theorem hown_grow (h : w.ownsRow base e size v n xs) (hg : w.grownBy w' row) (hne : ∀ g, row = some g → v.ownBlock ≠ some g) : w'.ownsRow base e size v n xs := by
 obtain ⟨h1, h2⟩ := h
 refine ⟨h1, ?_⟩
 rcases h2 with h2 | ⟨g, cap, cur, hv, hb, hh, r⟩
 ·exact .inl h2
 ·refine .inr ⟨g, cap, cur, hv, hb, (hg.block g (def_lt' hh) (fun e => hne g e.symm (by rw [hv]; rfl))).trans hh, r⟩
theorem hown_type (h1 : w.ownsRow base e size v n xs) (h2 : w.ownsRow base' e' size' v' n' xs') (hne : e ≠ e') : ∀ g, v'.ownBlock = some g → v.ownBlock ≠ some g := by
 intro g hg' hg
 rcases h1.2 with ⟨rfl, _⟩ | ⟨a, cap, cur, rfl, _, hh, _⟩
 ·simp [Value.ownBlock] at hg
 ·rcases h2.2 with ⟨rfl, _⟩ | ⟨a', cap', cur', rfl, _, hh', _⟩
  ·simp [Value.ownBlock] at hg'
  ·simp [Value.ownBlock] at hg hg'
   subst hg; subst hg'
   rw [hh] at hh'
   injection hh' with hh'
   injection hh' with _ h3
   exact hne h3
theorem below_gr (h : Below w.heap.size w w') : w.grownBy w' row := ⟨h.os, h.tape, h.output, h.size, fun i hi _ => h.block i hi⟩
theorem hbelow_gr (h : w.grownBy w' row) (hr : ∀ g, row = some g → base ≤ g) (hb : base ≤ w.heap.size) : Below base w w' := ⟨h.os, h.tape, h.output, h.size, fun i hi => h.block i (by omega) (fun e => by have := hr i e.symm; omega)⟩
end
structure Pt where
 (k lo hi : Int)
 nm : ByteArray
 A : Option Addr
 (m c : Nat)
 ks : List Nat
 /-- no more signs than this are printed for it, its brackets among them -/
 s : Nat
def Pt.v (p : Pt) : Value := .slice p.A p.m p.c
def Pt.cells (p : Pt) : List Value := [.int .i64 p.k, .int .i64 p.lo, .int .i64 p.hi, .string p.nm, p.v]
def pts (l : List Pt) : List Value := l.flatMap Pt.cells
theorem pts_append (a b : List Pt) : pts (a ++ b) = pts a ++ pts b := by simp [pts]
theorem pts_one (p : Pt) : pts [p] = [.int .i64 p.k, .int .i64 p.lo, .int .i64 p.hi, .string p.nm, p.v] := by simp [pts, Pt.cells]
theorem pts_len (l : List Pt) : (pts l).length = l.length * 5 := by
 induction l with
 | nil => rfl
 | cons r l ih => simp only [pts, List.flatMap_cons, List.length_append] at *; rw [ih]; simp [Pt.cells]; omega
/-- a part that may stand at a place: the parts within it stand ahead of it -/
structure Pt.Ok (p : Pt) (i : Nat) : Prop where
 k : 1 ≤ p.k ∧ p.k ≤ 4
 lo : 0 ≤ p.lo ∧ p.lo ≤ 20
 hi : -1 ≤ p.hi ∧ p.hi ≤ 20
 nm : p.nm.size ≤ 12
 one : p.k = 4 → p.m = 1
 two : p.k = 2 ∨ p.k = 3 → 2 ≤ p.m
 m : p.m ≤ 1000
 kid : ∀ x ∈ p.ks, x < i
def wt (l : List Pt) (x : Nat) : Nat := match l[x]? with | some p => p.s | none => 0
def kw (l : List Pt) (ks : List Nat) : Nat := (ks.map fun x => wt l x + 1).sum
theorem wt_append {l ex : List Pt} {x : Nat} (h : x < l.length) : wt (l ++ ex) x = wt l x := by
 unfold wt
 rw [List.getElem?_append_left h]
theorem kw_append {l ex : List Pt} {ks : List Nat} (h : ∀ x ∈ ks, x < l.length) : kw (l ++ ex) ks = kw l ks := by
 unfold kw
 congr 1
 exact List.map_congr_left fun x hx => by rw [wt_append (h x hx)]
theorem kw_snoc (l : List Pt) (ks : List Nat) (x : Nat) : kw l (ks ++ [x]) = kw l ks + (wt l x + 1) := by simp [kw]
structure Parts (w : World) (base : Nat) (v : Value) (k : Nat) (l : List Pt) : Prop where
 row : w.ownsRow base 192 5 v k (pts l)
 own : ∀ (i : Nat) (p : Pt), l[i]? = some p → w.ownsRow base 3 1 p.v p.m (nts p.ks)
 ok : ∀ (i : Nat) (p : Pt), l[i]? = some p → p.Ok i
 s : ∀ (i : Nat) (p : Pt), l[i]? = some p → kw l p.ks + 3 ≤ p.s
theorem info_pt : (Tryz.prog.info? 192).map (fun i => (i.zero, i.size, i.bytes)) = some (some (.agg #[.int .i64 0, .int .i64 0, .int .i64 0, .string ByteArray.empty, .slice none 0 0]), 5, 64) := by kernel_rfl
section
variable {w w' : World} {base k : Nat} {v v' : Value} {l : List Pt}
theorem Parts.nil (w : World) (base : Nat) : Parts w base (.slice none 0 0) 0 [] := ⟨World.ownsRow_nil _ _ _ _, fun i p h => by simp at h, fun i p h => by simp at h, fun i p h => by simp at h⟩
theorem Parts.len (h : Parts w base v k l) : l.length = k := by
 have := h.row.1
 rw [pts_len] at this
 omega
theorem Parts.grow {row : Option Nat} (h : Parts w base v k l) (hg : w.grownBy w' row) (hv : ∀ g, row = some g → v.ownBlock ≠ some g) (hk : ∀ (i : Nat) (p : Pt), l[i]? = some p → ∀ g, row = some g → p.v.ownBlock ≠ some g) : Parts w' base v k l :=
 ⟨hown_grow h.row hg hv, fun i p hp => hown_grow (h.own i p hp) hg (hk i p hp), h.ok, h.s⟩
theorem Parts.below (h : Parts w base v k l) (hb : Below w.heap.size w w') : Parts w' base v k l :=
 ⟨own_below h.row hb, fun i p hp => own_below (h.own i p hp) hb, h.ok, h.s⟩
theorem Parts.push {p : Pt} (h : Parts w base v k l) (hp : w.ownsRow base 3 1 p.v p.m (nts p.ks)) (hok : p.Ok k) (hs : kw l p.ks + 3 ≤ p.s) (hg : w.grownBy w' v.ownBlock) (ho : w'.ownsRow base 192 5 v' (k + 1) (pts (l ++ [p]))) : Parts w' base v' (k + 1) (l ++ [p]) := by
 have hl := h.len
 refine ⟨ho, fun i q hq => ?_, fun i q hq => ?_, fun i q hq => ?_⟩
 all_goals rcases Nat.lt_or_ge i l.length with h1 | h1
 ·rw [List.getElem?_append_left h1] at hq
  exact hown_grow (h.own i q hq) hg (hown_type (h.own i q hq) h.row (by decide))
 ·have hi := (List.getElem?_eq_some_iff.1 hq).1
  simp at hi
  rw [show i = l.length by omega] at hq
  simp at hq
  subst hq
  exact hown_grow hp hg (hown_type hp h.row (by decide))
 ·rw [List.getElem?_append_left h1] at hq
  exact h.ok i q hq
 ·have hi := (List.getElem?_eq_some_iff.1 hq).1
  simp at hi
  have e : i = l.length := by omega
  rw [e] at hq
  simp at hq
  subst hq
  rw [e, hl]
  exact hok
 ·rw [List.getElem?_append_left h1] at hq
  rw [kw_append (fun x hx => by have := (h.ok i q hq).kid x hx; omega)]
  exact h.s i q hq
 ·have hi := (List.getElem?_eq_some_iff.1 hq).1
  simp at hi
  have e : i = l.length := by omega
  rw [e] at hq
  simp at hq
  subst hq
  rw [kw_append (fun x hx => by have := hok.kid x hx; omega)]
  exact hs
end
/-- what `build` answers -/
def BuildOut (w : World) (base : Nat) (v : Value) (k : Nat) (l : List Pt) (d : Nat) (e : Ending) (w' : World) : Prop := ∃ (A' : Option Addr) (k' c' : Nat) (ex : List Pt), e = .returned (.slice A' k' c') ∧ Parts w' base (.slice A' k' c') k' (l ++ ex) ∧ k < k' ∧ k' + 1 ≤ k + d ∧ wt (l ++ ex) (k' - 1) + 5 ≤ 4 * d ∧ (∀ p ∈ ex, ∀ g, p.v.ownBlock = some g → w.heap.size ≤ g) ∧ w.grownBy w' v.ownBlock ∧ (∀ g, (Value.slice A' k' c').ownBlock = some g → v.ownBlock = some g ∨ w.heap.size ≤ g)
def BuildAny (n c : Nat) (A : Option Addr) (l : List Sg) (f t : Nat) : Prop := ∀ (base k cp : Nat) (V : Option Addr) (lp : List Pt) (w : World), base ≤ w.heap.size → SgsIn w base A n l → Seg (kinds l) f t → Parts w base (.slice V k cp) k lp → k + 2 * (t - f) ≤ 900 → Calls Tryz.prog 101 #[.slice V k cp, .slice A n c, .int .i64 f, .int .i64 t] w (BuildOut w base (.slice V k cp) k lp (2 * (t - f)))
/-- a further part behind those -/
theorem BuildOut.push {w w1 wk w4 : World} {base k k1 c1 d g4 cap4 : Nat} {v : Value} {A1 : Option Addr} {lp ex : List Pt} {p : Pt} (hbw : base ≤ w.heap.size) (hgf : w.grownBy w1 v.ownBlock) (hv1 : ∀ g, (Value.slice A1 k1 c1).ownBlock = some g → v.ownBlock = some g ∨ w.heap.size ≤ g) (hp : Parts w1 base (.slice A1 k1 c1) k1 (lp ++ ex)) (hex : ∀ p ∈ ex, ∀ g, p.v.ownBlock = some g → w.heap.size ≤ g) (hb : Below w1.heap.size w1 wk) (hkid : wk.ownsRow w.heap.size 3 1 p.v p.m (nts p.ks)) (hok : p.Ok k1) (hg : wk.grownBy w4 (Value.slice A1 k1 c1).ownBlock) (hat : (Value.slice A1 k1 c1).ownBlock = some g4 ∨ wk.heap.size < g4) (ho : w4.ownsRow base 192 5 (.slice (some ⟨g4, 0, none⟩) (k1 + 1) cap4) (k1 + 1) (pts (lp ++ ex) ++ p.cells)) (h1 : k ≤ k1) (h2 : k1 + 2 ≤ k + d) (hs : kw (lp ++ ex) p.ks + 3 ≤ p.s) (hs2 : p.s + 5 ≤ 4 * d) : BuildOut w base v k lp d (.returned (.slice (some ⟨g4, 0, none⟩) (k1 + 1) cap4)) w4 := by
 have e : pts (lp ++ ex) ++ p.cells = pts (lp ++ ex ++ [p]) := by rw [pts_append (lp ++ ex), pts_one]; rfl
 rw [e] at ho
 have hpk := hp.below hb
 have hz := hgf.size
 have hz1 := hb.size
 have hsw : ∀ g, (Value.slice A1 k1 c1).ownBlock = some g → w.heap.size ≤ g ∨ v.ownBlock = some g := fun g h => (hv1 g h).symm
 refine ⟨_, k1 + 1, cap4, ex ++ [p], rfl, by rw [← List.append_assoc]; exact hpk.push (own_base hkid hbw) hok hs hg ho, by omega, by omega, by have hl := hp.len; unfold wt; rw [← List.append_assoc, show k1 + 1 - 1 = (lp ++ ex).length by omega]; simpa using hs2, fun q hq g hqg => ?_, (hgf.andThen (below_gr (row := (Value.slice A1 k1 c1).ownBlock) hb) hsw).andThen hg hsw, fun g hg4 => ?_⟩
 ·rcases List.mem_append.1 hq with hq | hq
  ·exact hex q hq g hqg
  ·simp at hq
   subst hq
   exact own_ge hkid g hqg
 ·have e4 : g4 = g := by simpa [Value.ownBlock] using hg4
  subst e4
  rcases hat with h | h
  ·exact hv1 _ h
  ·exact .inr (by omega)
theorem BuildOut.from_ {w wr w1 : World} {base k d d' : Nat} {v : Value} {lp : List Pt} {e : Ending} (hb : Below w.heap.size w wr) (hd : d ≤ d') (h : BuildOut wr base v k lp d e w1) : BuildOut w base v k lp d' e w1 := by
 obtain ⟨A1, k1, c1, ex, rfl, hp1, hk1, hk2, hw1, hex, hg1, hv1⟩ := h
 have hz := hb.size
 exact ⟨A1, k1, c1, ex, rfl, hp1, hk1, by omega, by omega, fun p hp g h => by have := hex p hp g h; omega, (below_gr (row := v.ownBlock) hb).andThen hg1 (fun j h => .inr h), fun g h => by rcases hv1 g h with h | h; (· exact .inl h); (· exact .inr (by omega))⟩
end Go.Proofs.YtmacfoebfpljoaaGreat
