/- merged texts: Hl Hsa Hsb Hsc Hsd Hva -/
import Derived.Test.YtmacfoebfpljoaaGreatMa3
import Derived.Test.YtmacfoebfpljoaaGreatMa5
import Derived.Test.YtmacfoebfpljoaaGreatMa1
set_option maxRecDepth 100000
set_option maxHeartbeats 16000000
namespace Go.Proofs.YtmacfoebfpljoaaGreat
open Go.RowKit
set_option linter.unusedVariables false
/-- numbers, as they lie -/
def is (l : List Int) : List Value := l.map (Value.int .i64)
theorem is_append (a b : List Int) : is (a ++ b) = is a ++ is b := by simp [is]
theorem nts_is (l : List Nat) : nts l = is (l.map fun (i : Nat) => (i : Int)) := by simp [nts, is]
theorem is_len (l : List Int) : (is l).length = l.length := by simp [is]
theorem own_drewN {w : World} {base : Nat} {e : TypeId} {size : Nat} {v : Value} {n : Nat} {xs : List Value} (h : w.ownsRow base e size v n xs) (k : Nat) : (w.drewN k).ownsRow base e size v n xs := h
theorem Rd.is_at {w : World} {B n k : Nat} {A : Option Addr} {l : List Int} (h : Rd w B 1 A n (is l)) (hk : k < n) : ∃ b o x, A = some ⟨b, o, none⟩ ∧ b < B ∧ l[k]? = some x ∧ w.cell? ⟨b, o + k, none⟩ = some (.int .i64 x) := by
 obtain ⟨b, o, u, e, hb, hu, hc⟩ := h.at1 hk
 unfold is at hu
 rw [List.getElem?_map] at hu
 obtain ⟨x, hx, rfl⟩ := Option.map_eq_some_iff.1 hu
 exact ⟨b, o, x, e, hb, hx, hc⟩
theorem Rd.ilen {w : World} {B n : Nat} {A : Option Addr} {l : List Int} (h : Rd w B 1 A n (is l)) : l.length = n := by
 have := h.1
 rw [is_len] at this
 omega
theorem not_take {l : List Int} {k : Nat} {x y : Int} (h : x ∉ l.take k) (hy : l[k]? = some y) (hne : y ≠ x) : x ∉ l.take (k + 1) := by
 rw [List.take_add_one, hy, Option.toList_some]
 intro hm
 rcases List.mem_append.1 hm with hm | hm
 ·exact h hm
 ·simp at hm; exact hne hm.symm
theorem has3_any (A : Option Addr) (n c : Nat) (l : List Int) (x : Int) (w : World) (h : Rd w w.heap.size 1 A n (is l)) (hn : n ≤ maxLen) : Calls Tryz.prog 124 #[.slice A n c, .int .i64 x] w fun e w' => e = .returned (.bool (decide (x ∈ l))) ∧ Below w.heap.size w w' := by
 unfold maxLen at hn
 have H := Lib.hid h
 clear h
 go_enter Tryz.func124, Tryz.ntmps124
 go_wp2
 go_loop [5] (fun j => ∃ k : Nat, k ≤ n ∧ j = .int .i64 k ∧ Hid (x ∉ l.take k)) (fun j => n - (intOf j).toNat)
 case atStart => exact ⟨0, by omega, rfl, Lib.hid (by simp)⟩
 case round =>
  obtain ⟨k, hk, rfl, hI⟩ := hrel
  by_cases hlt : k < n
  ·have e3 : (k : Int) < n := by omega
   obtain ⟨b, o, y, rfl, hb, hy, hc⟩ := H.out.is_at hlt
   have HY := Lib.hid hy
   clear hy
   by_cases hyx : y = x
   ·have e4 : (y == x) = true := by simp [hyx]
    have HB := Lib.hid (show decide (x ∈ l) = true from decide_eq_true (by rw [← hyx]; exact List.mem_of_getElem? HY.out))
    clear hyx
    go_wp2
    go_ret
    exact ⟨ret_bool HB.out.symm, Below.refl _ _⟩
   ·have e4 : (y == x) = false := beq_false_of_ne hyx
    have hN := Lib.hid (not_take hI.out HY.out hyx)
    clear hyx
    go_wp2
    go_round
    case rel => exact ⟨k + 1, by omega, by go_num, hN⟩
    case measure => simp [intOf]; omega
  ·obtain rfl : k = n := by omega
   have HB := Lib.hid (show decide (x ∈ l) = false from decide_eq_false (by have := hI.out; rwa [List.take_of_length_le (by rw [H.out.ilen]; omega)] at this))
   go_wp2
   go_ret
   exact ⟨ret_bool HB.out.symm, Below.refl _ _⟩
/-- a rising list, below m -/
def Ris (m : Nat) (l : List Nat) : Prop := l.Pairwise (· < ·) ∧ ∀ x ∈ l, x < m
theorem Ris.nil (m : Nat) : Ris m [] := ⟨.nil, fun x h => by cases h⟩
theorem Ris.mono {m m' : Nat} {l : List Nat} (h : Ris m l) (hm : m ≤ m') : Ris m' l := ⟨h.1, fun x hx => Nat.lt_of_lt_of_le (h.2 x hx) hm⟩
theorem rising_len : ∀ (l : List Nat) (a m : Nat), l.Pairwise (· < ·) → (∀ x ∈ l, a ≤ x ∧ x < m) → l.length ≤ m - a := by
 intro l
 induction l with
 | nil => intro a m _ _; simp
 | cons x l ih =>
   intro a m h1 h2
   obtain ⟨h3, h4⟩ := List.pairwise_cons.1 h1
   have hx := h2 x (by simp)
   have := ih (x + 1) m h4 (fun y hy => ⟨h3 y hy, (h2 y (by simp [hy])).2⟩)
   simp
   omega
theorem Ris.len {m : Nat} {l : List Nat} (h : Ris m l) : l.length ≤ m := by have := rising_len l 0 m h.1 (fun x hx => ⟨Nat.zero_le _, h.2 x hx⟩); omega
theorem Ris.snoc {m x : Nat} {l : List Nat} (h : Ris m l) (hx : ∀ y ∈ l, y < x) (hm : x < m) : Ris m (l ++ [x]) :=
 ⟨List.pairwise_append.2 ⟨h.1, by simp, fun a ha b hb => by simp at hb; subst hb; exact hx a ha⟩, fun y hy => by rcases List.mem_append.1 hy with h' | h'; (· exact h.2 y h'); (· simp at h'; omega)⟩
/-- a rising list below m in a row of its own -/
def NsIn (w : World) (base m : Nat) (v : Value) : Prop := ∃ cs : List Nat, w.ownsRow base 3 1 v cs.length (nts cs) ∧ Ris m cs
theorem NsIn.nil (w : World) (base m : Nat) : NsIn w base m (.slice none 0 0) := ⟨[], World.ownsRow_nil _ _ _ _, Ris.nil m⟩
theorem NsIn.form {w : World} {base m : Nat} {v : Value} (h : NsIn w base m v) : ∃ A c cs, v = .slice A cs.length c ∧ Ris m cs ∧ Rd w w.heap.size 1 A cs.length (nts cs) ∧ w.ownsRow base 3 1 v cs.length (nts cs) := by
 obtain ⟨cs, h1, h2⟩ := h
 obtain ⟨A, c, e, -, -, -, r⟩ := own_form h1
 exact ⟨A, c, cs, e, h2, r, h1⟩
theorem NsIn.below {w w' : World} {base m : Nat} {v : Value} (h : NsIn w base m v) (hb : Below w.heap.size w w') : NsIn w' base m v := by
 obtain ⟨cs, h1, h2⟩ := h
 exact ⟨cs, own_below h1 hb, h2⟩
theorem NsIn.mono {w : World} {base base' m m' : Nat} {v : Value} (h : NsIn w base m v) (hm : m ≤ m') (hb : base' ≤ base) : NsIn w base' m' v := by
 obtain ⟨cs, h1, h2⟩ := h
 exact ⟨cs, own_base h1 hb, h2.mono hm⟩
theorem Rd.nt_at {w : World} {B n k : Nat} {A : Option Addr} {l : List Nat} (h : Rd w B 1 A n (nts l)) (hk : k < n) : ∃ (b o x : Nat), A = some ⟨b, o, none⟩ ∧ b < B ∧ l[k]? = some x ∧ w.cell? ⟨b, o + k, none⟩ = some (.int .i64 (x : Int)) := by
 obtain ⟨b, o, u, e, hb, hu, hc⟩ := h.at1 hk
 unfold nts at hu
 rw [List.getElem?_map] at hu
 obtain ⟨x, hx, rfl⟩ := Option.map_eq_some_iff.1 hu
 exact ⟨b, o, x, e, hb, hx, hc⟩
theorem Rd.to_is {w : World} {B n : Nat} {A : Option Addr} {l : List Nat} (h : Rd w B 1 A n (nts l)) : Rd w B 1 A n (is (l.map fun (i : Nat) => (i : Int))) := by rw [← nts_is]; exact h
/-- a rising list comes out -/
def NsOut (m : Nat) (w : World) (e : Ending) (w' : World) : Prop := ∃ v, e = .returned v ∧ NsIn w' w.heap.size m v ∧ Below w.heap.size w w'
theorem list3_any (A : Option Addr) (n c : Nat) (l : List Int) (w : World) (h : Rd w w.heap.size 1 A n (is l)) (hn : n ≤ maxLen) : Calls Tryz.prog 222 #[.slice A n c] w (NsOut 256 w) := by
 have hha := fun x W (hb : Below w.heap.size w W) => has3_any A n c l x W ((h.below hb).more hb.size) hn
 have HHA := Lib.hid hha
 clear hha h hn
 go_enter Tryz.func222, Tryz.ntmps222
 go_wp2
 go_loopw [3, 4] (fun v j wr => ∃ (k : Nat) (cs : List Nat), k ≤ 256 ∧ j = .int .i64 k ∧ Hid (Ris k cs) ∧ Hid (wr.ownsRow w.heap.size 3 1 v cs.length (nts cs)) ∧ cs.length ≤ k ∧ Below w.heap.size w wr) (fun _ j _ => 256 - (intOf j).toNat)
 case atStart => exact ⟨0, [], by omega, rfl, Lib.hid (Ris.nil _), Lib.hid (World.ownsRow_nil _ _ _ _), by simp, Below.refl _ _⟩
 case round =>
  obtain ⟨k, cs, hk, rfl, hR, hown, hcl, hbr⟩ := hrel
  have hz := hbr.size
  by_cases hlt : k < 256
  ·have e3 : (k : Int) < 256 := by omega
   go_wp2_with (go_at_call 124; fail)
   refine (HHA.out k wr hbr).mono ?_
   rintro e w1 ⟨rfl, hb1⟩
   have hb01 := hbr.trans (hb1.mono hz)
   have hown1 := own_below hown.out hb1
   have hz1 := hb01.size
   cases decide ((k : Int) ∈ l) with
   | false =>
     go_wp2
     go_roundw
     case rel => exact ⟨k + 1, cs, by omega, by go_num, Lib.hid (hR.out.mono (by omega)), Lib.hid hown1, by omega, hb01⟩
     case measure => simp [intOf]; omega
   | true =>
     go_wp2_with (at_builtin; ((refine app_one Tryz.underlying51 info_in rfl (by decide) w1 w.heap.size _ cs.length _ hown1 (by unfold maxLen; omega) (by omega) hz1 _ rfl (by simp [Value.oneCell']) rfl _ _ rfl rfl rfl ?_); intro g4 cap4 w4 hown4 hgr4 hat4 hlt4))
     have hb4 := below_own hb01 hown1 hgr4 hz1 (Nat.le_refl _)
     go_roundw
     case rel => exact ⟨k + 1, cs ++ [k], by omega, by go_num, Lib.hid ((hR.out.mono (by omega)).snoc (fun y hy => hR.out.2 y hy) (by omega)), Lib.hid (by rw [List.length_append, nts_snoc]; exact hown4), by simp; omega, hb4⟩
     case measure => simp [intOf]; omega
  ·obtain rfl : k = 256 := by omega
   obtain ⟨A1, c1, rfl, -, -, -, -⟩ := own_form hown.out
   go_wp2
   exact bodyPost_ret (v := .slice A1 cs.length c1) (by simp [results, Tryz.results222, go_sem]) rfl ⟨_, rfl, ⟨cs, hown.out, hR.out⟩, hbr⟩
/-- one list is come to its k-th, the other to its j-th -/
structure Mrg (m : Nat) (xs ys zs : List Nat) (i k : Nat) : Prop where
 z : Ris m zs
 x : ∀ a ∈ zs, ∀ b ∈ xs.drop i, a < b
 y : ∀ a ∈ zs, ∀ b ∈ ys.drop k, a < b
theorem drop_mem {l : List Nat} {i x : Nat} (h : l[i]? = some x) : x ∈ l.drop i := by
 obtain ⟨hl, e⟩ := List.getElem?_eq_some_iff.1 h
 rw [List.drop_eq_getElem_cons hl, e]; simp
theorem drop_sub {l : List Nat} {i x : Nat} (h : x ∈ l.drop (i + 1)) : x ∈ l.drop i := by
 rw [show l.drop (i + 1) = (l.drop i).drop 1 by rw [List.drop_drop]] at h
 exact List.mem_of_mem_drop h
theorem drop_above {l : List Nat} {i x y : Nat} (hp : l.Pairwise (· < ·)) (h : l[i]? = some x) (hy : y ∈ l.drop (i + 1)) : x < y := by
 obtain ⟨hl, e⟩ := List.getElem?_eq_some_iff.1 h
 have h1 : (l.drop i).Pairwise (· < ·) := hp.sublist (List.drop_sublist _ _)
 rw [List.drop_eq_getElem_cons hl, e] at h1
 exact (List.pairwise_cons.1 h1).1 y hy
theorem Mrg.takex {m : Nat} {xs ys zs : List Nat} {i k x : Nat} (h : Mrg m xs ys zs i k) (hx : Ris m xs) (hi : xs[i]? = some x) (hy : ∀ b ∈ ys.drop k, x < b) : Mrg m xs ys (zs ++ [x]) (i + 1) k :=
 ⟨h.z.snoc (fun y hy => h.x y hy x (drop_mem hi)) (hx.2 x (List.mem_of_getElem? hi)), fun a ha b hb => by
  rcases List.mem_append.1 ha with ha | ha
  ·exact h.x a ha b (drop_sub hb)
  ·simp at ha; subst ha; exact drop_above hx.1 hi hb, fun a ha b hb => by
  rcases List.mem_append.1 ha with ha | ha
  ·exact h.y a ha b hb
  ·simp at ha; subst ha; exact hy b hb⟩
theorem Mrg.swap {m : Nat} {xs ys zs : List Nat} {i k : Nat} (h : Mrg m xs ys zs i k) : Mrg m ys xs zs k i := ⟨h.z, h.y, h.x⟩
/-- the same at both -/
theorem Mrg.takeb {m : Nat} {xs ys zs : List Nat} {i k x : Nat} (h : Mrg m xs ys zs i k) (hx : Ris m xs) (hy : Ris m ys) (hi : xs[i]? = some x) (hk : ys[k]? = some x) : Mrg m xs ys (zs ++ [x]) (i + 1) (k + 1) :=
 ⟨h.z.snoc (fun y hy => h.x y hy x (drop_mem hi)) (hx.2 x (List.mem_of_getElem? hi)), fun a ha b hb => by
  rcases List.mem_append.1 ha with ha | ha
  ·exact h.x a ha b (drop_sub hb)
  ·simp at ha; subst ha; exact drop_above hx.1 hi hb, fun a ha b hb => by
  rcases List.mem_append.1 ha with ha | ha
  ·exact h.y a ha b (drop_sub hb)
  ·simp at ha; subst ha; exact drop_above hy.1 hk hb⟩
theorem above_of {l : List Nat} {k x y : Nat} (hp : l.Pairwise (· < ·)) (hk : l[k]? = some y) (hxy : x < y) : ∀ b ∈ l.drop k, x < b := by
 intro b hb
 obtain ⟨hl, e⟩ := List.getElem?_eq_some_iff.1 hk
 rw [List.drop_eq_getElem_cons hl, e] at hb
 rcases List.mem_cons.1 hb with rfl | hb
 ·exact hxy
 ·exact Nat.lt_trans hxy (drop_above hp hk hb)
theorem or_any (v1 v2 : Value) (b1 b2 m : Nat) (w : World) (hm : m ≤ 65536) (h1 : NsIn w b1 m v1) (h2 : NsIn w b2 m v2) : Calls Tryz.prog 196 #[v1, v2] w (NsOut m w) := by
 obtain ⟨A, c, xs, rfl, hx, hr, -⟩ := h1.form
 obtain ⟨A', c', ys, rfl, hy, hr', -⟩ := h2.form
 clear h1 h2
 have hxl := hx.len
 have hyl := hy.len
 obtain ⟨n, hn⟩ : ∃ n, n = xs.length := ⟨_, rfl⟩
 obtain ⟨n', hn'⟩ : ∃ n', n' = ys.length := ⟨_, rfl⟩
 rw [← hn] at hxl hr ⊢
 rw [← hn'] at hyl hr' ⊢
 have HN := Lib.hid (And.intro hn hn')
 have HX := Lib.hid hx
 have HY := Lib.hid hy
 have HR := Lib.hid hr
 have HR' := Lib.hid hr'
 clear hn hn' hx hy hr hr'
 go_enter Tryz.func196, Tryz.ntmps196
 go_wp2
 go_loopw [5, 6, 7] (fun v i k wr => ∃ (q r z : Nat) (zs : List Nat), q ≤ n ∧ r ≤ n' ∧ i = .int .i64 q ∧ k = .int .i64 r ∧ Hid (z = zs.length ∧ Mrg m xs ys zs q r) ∧ z ≤ m ∧ Hid (wr.ownsRow w.heap.size 3 1 v z (nts zs)) ∧ Below w.heap.size w wr) (fun _ i k _ => n - (intOf i).toNat + (n' - (intOf k).toNat))
 case atStart => exact ⟨0, 0, 0, [], by omega, by omega, rfl, rfl, Lib.hid ⟨rfl, Ris.nil _, (fun a h => by cases h), (fun a h => by cases h)⟩, by omega, Lib.hid (World.ownsRow_nil _ _ _ _), Below.refl _ _⟩
 case round =>
  obtain ⟨q, r, z, zs, hq, hr, rfl, rfl, hM, hzm, hown, hbr⟩ := hrel
  have hz := hbr.size
  have hrx := Lib.hid ((HR.out.below hbr).more hz)
  have hry := Lib.hid ((HR'.out.below hbr).more hz)
  -- taken from the first one
  have hfin : ∀ (x q' r' : Nat) (A4 : Option Addr), Mrg m xs ys (zs ++ [x]) q' r' → z + 1 = (zs ++ [x]).length ∧ z + 1 ≤ m := fun x q' r' _ h => ⟨by rw [List.length_append, ← hM.out.1]; rfl, by have := h.z.len; rw [List.length_append, ← hM.out.1] at this; exact this⟩
  have HFIN := Lib.hid hfin
  clear hfin
  by_cases hq1 : q < n
  ·have e1 : (q : Int) < n := by omega
   obtain ⟨b, o, x, rfl, hb, hxq, hcx⟩ := hrx.out.nt_at hq1
   have HXQ := Lib.hid hxq
   clear hxq
   by_cases hr1 : r < n'
   ·have e2 : (r : Int) < n' := by omega
    have e2' : ((r : Int) == n') = false := beq_false_of_ne (by omega)
    obtain ⟨b', o', y, rfl, hb', hyr, hcy⟩ := hry.out.nt_at hr1
    have HYR := Lib.hid hyr
    clear hyr
    rcases Nat.lt_trichotomy x y with hxy | hxy | hxy
    ·have hM2 := hM.out.2.takex HX.out HXQ.out (above_of HY.out.1 HYR.out hxy)
     obtain ⟨f1, f2⟩ := HFIN.out x _ _ none hM2
     have HM2 := Lib.hid (And.intro f1 hM2)
     have e4 : (x : Int) < y := by omega
     clear hM hM2 f1 hxy
     go_wp2
     go_quiet (fail)
     go_wp2_with (at_builtin; ((refine app_one Tryz.underlying51 info_in rfl (by decide) _ w.heap.size _ z _ (own_drewN hown.out _) (by unfold maxLen; omega) (by omega) hz _ rfl (by simp [Value.oneCell']) rfl _ _ rfl rfl rfl ?_); intro g4 cap4 w4 hown4 hgr4 hat4 hlt4))
     have hb4 := below_own (below_drewN hbr _) (own_drewN hown.out _) hgr4 hz (Nat.le_refl _)
     go_roundw
     case rel => exact ⟨q + 1, r, z + 1, _, by omega, by omega, by go_num, rfl, HM2, f2, Lib.hid (by rw [nts_snoc]; exact hown4), hb4⟩
     case measure => simp [intOf]; omega
    ·subst hxy
     have hM2 := hM.out.2.takeb HX.out HY.out HXQ.out HYR.out
     obtain ⟨f1, f2⟩ := HFIN.out x _ _ none hM2
     have HM2 := Lib.hid (And.intro f1 hM2)
     have e4 : ¬ (x : Int) < x := by omega
     clear hM hM2 f1
     go_wp2
     go_quiet (fail)
     go_wp2
     go_quiet (fail)
     go_wp2_with (at_builtin; ((refine app_one Tryz.underlying51 info_in rfl (by decide) _ w.heap.size _ z _ (own_drewN hown.out _) (by unfold maxLen; omega) (by omega) hz _ rfl (by simp [Value.oneCell']) rfl _ _ rfl rfl rfl ?_); intro g4 cap4 w4 hown4 hgr4 hat4 hlt4))
     have hb4 := below_own (below_drewN hbr _) (own_drewN hown.out _) hgr4 hz (Nat.le_refl _)
     go_roundw
     case rel => exact ⟨q + 1, r + 1, z + 1, _, by omega, by omega, by go_num, by go_num, HM2, f2, Lib.hid (by rw [nts_snoc]; exact hown4), hb4⟩
     case measure => simp [intOf]; omega
    ·have hM2 := (hM.out.2.swap.takex HY.out HYR.out (above_of HX.out.1 HXQ.out hxy)).swap
     obtain ⟨f1, f2⟩ := HFIN.out y _ _ none hM2
     have HM2 := Lib.hid (And.intro f1 hM2)
     have e4 : ¬ (x : Int) < y := by omega
     have e5 : ((x : Int) == y) = false := beq_false_of_ne (by omega)
     clear hM hM2 f1 hxy
     go_wp2
     go_quiet (fail)
     go_wp2
     go_quiet (fail)
     go_wp2_with (at_builtin; ((refine app_one Tryz.underlying51 info_in rfl (by decide) _ w.heap.size _ z _ (own_drewN hown.out _) (by unfold maxLen; omega) (by omega) hz _ rfl (by simp [Value.oneCell']) rfl _ _ rfl rfl rfl ?_); intro g4 cap4 w4 hown4 hgr4 hat4 hlt4))
     have hb4 := below_own (below_drewN hbr _) (own_drewN hown.out _) hgr4 hz (Nat.le_refl _)
     go_roundw
     case rel => exact ⟨q, r + 1, z + 1, _, by omega, by omega, rfl, by go_num, HM2, f2, Lib.hid (by rw [nts_snoc]; exact hown4), hb4⟩
     case measure => simp [intOf]; omega
   ·obtain rfl : n' = r := by omega
    have hM2 := hM.out.2.takex HX.out HXQ.out (fun b hb => by rw [List.drop_of_length_le (by have := HN.out.2; omega)] at hb; cases hb)
    obtain ⟨f1, f2⟩ := HFIN.out x _ _ none hM2
    have HM2 := Lib.hid (And.intro f1 hM2)
    clear hM hM2 f1
    go_wp2
    go_quiet (fail)
    go_wp2_with (at_builtin; ((refine app_one Tryz.underlying51 info_in rfl (by decide) _ w.heap.size _ z _ (own_drewN hown.out _) (by unfold maxLen; omega) (by omega) hz _ rfl (by simp [Value.oneCell']) rfl _ _ rfl rfl rfl ?_); intro g4 cap4 w4 hown4 hgr4 hat4 hlt4))
    have hb4 := below_own (below_drewN hbr _) (own_drewN hown.out _) hgr4 hz (Nat.le_refl _)
    go_roundw
    case rel => exact ⟨q + 1, n', z + 1, _, by omega, by omega, by go_num, rfl, HM2, f2, Lib.hid (by rw [nts_snoc]; exact hown4), hb4⟩
    case measure => simp [intOf]; omega
  ·obtain rfl : n = q := by omega
   by_cases hr1 : r < n'
   ·have e2 : (r : Int) < n' := by omega
    have e2' : ((r : Int) == n') = false := beq_false_of_ne (by omega)
    obtain ⟨b', o', y, rfl, hb', hyr, hcy⟩ := hry.out.nt_at hr1
    have HYR := Lib.hid hyr
    clear hyr
    have hM2 := (hM.out.2.swap.takex HY.out HYR.out (fun b hb => by rw [List.drop_of_length_le (by have := HN.out.1; omega)] at hb; cases hb)).swap
    obtain ⟨f1, f2⟩ := HFIN.out y _ _ none hM2
    have HM2 := Lib.hid (And.intro f1 hM2)
    clear hM hM2 f1
    go_wp2
    go_quiet (fail)
    go_wp2
    go_quiet (fail)
    go_wp2_with (at_builtin; ((refine app_one Tryz.underlying51 info_in rfl (by decide) _ w.heap.size _ z _ (own_drewN hown.out _) (by unfold maxLen; omega) (by omega) hz _ rfl (by simp [Value.oneCell']) rfl _ _ rfl rfl rfl ?_); intro g4 cap4 w4 hown4 hgr4 hat4 hlt4))
    have hb4 := below_own (below_drewN hbr _) (own_drewN hown.out _) hgr4 hz (Nat.le_refl _)
    go_roundw
    case rel => exact ⟨n, r + 1, z + 1, _, by omega, by omega, rfl, by go_num, HM2, f2, Lib.hid (by rw [nts_snoc]; exact hown4), hb4⟩
    case measure => simp [intOf]; omega
   ·obtain rfl : n' = r := by omega
    obtain ⟨A1, c1, rfl, -, -, -, -⟩ := own_form hown.out
    go_wp2
    exact bodyPost_ret (v := .slice A1 z c1) (by simp [results, Tryz.results196, go_sem]) rfl ⟨_, rfl, ⟨zs, by rw [← hM.out.1]; exact hown.out, hM.out.2.z⟩, hbr⟩
section
variable (base : Nat) (nv mv : Value) (ns : List Nd) (ms : List Mr) (PA TA EA : Option Addr) (pn pc tn tc en ec : Nat) (w : World)
theorem there_any (t : Int) (hD : DeclIn w base nv mv ns ms) : Calls Tryz.prog 152 #[.agg #[nv, mv, .slice PA pn pc, .slice TA tn tc, .slice EA en ec], .int .i64 t] w fun e w' => e = .returned (.bool (decide (1 ≤ t ∧ t ≤ ns.length))) ∧ Below w.heap.size w w' := by
 obtain ⟨NA, nc, rfl, -, -, -, -⟩ := own_form hD.n
 obtain ⟨MA, mc, rfl, -, -, -, -⟩ := own_form hD.m
 clear hD
 by_cases h1 : 1 ≤ t
 ·go_enter Tryz.func152, Tryz.ntmps152
  go_wp2
  all_goals go_ret
  all_goals exact ⟨ret_bool (by rw [Bool.eq_iff_iff]; simp; try omega), belowA⟩
 ·go_enter Tryz.func152, Tryz.ntmps152
  go_wp2
  all_goals go_ret
  all_goals exact ⟨ret_bool (by rw [Bool.eq_iff_iff]; simp; try omega), belowA⟩
def NodeIs (p : Nd) (w : World) (e : Ending) (w' : World) : Prop := e = .returned (.agg p.arr) ∧ Below w.heap.size w w'
theorem node11_any (t : Nat) (p : Nd) (hp : ns[t]? = some p) (hD : DeclIn w base nv mv ns ms) : Calls Tryz.prog 153 #[.agg #[nv, mv, .slice PA pn pc, .slice TA tn tc, .slice EA en ec], .int .i64 ((t : Int) + 1)] w (NodeIs p w) := by
 have ht := (List.getElem?_eq_some_iff.1 hp).1
 have hn := hD.nl
 have hpi := hD.ni p (List.mem_of_getElem? hp)
 obtain ⟨NA, nc, rfl, -, -, -, -⟩ := own_form hD.n
 obtain ⟨MA, mc, rfl, -, -, -, -⟩ := own_form hD.m
 obtain ⟨b, o, rfl, hb, hcc⟩ := hD.node hp
 obtain ⟨nm, gv, gs, il, pk, lf, at_, all, mk, ml, ex⟩ := p
 obtain ⟨Ag, cg, eg, -, -, -, -⟩ := own_form hpi.g
 obtain ⟨Ak, ck, ek, -, -, -, -⟩ := own_form hpi.m
 dsimp only at eg ek
 subst eg
 subst ek
 have c0 : w.cell? ⟨b, o + t * 9, none⟩ = some (.string nm) := hcc 0 (by omega)
 have c1 : w.cell? ⟨b, o + t * 9 + 1, none⟩ = some (.slice Ag gs.length cg) := hcc 1 (by omega)
 have c2 : w.cell? ⟨b, o + t * 9 + 2, none⟩ = some (.bool il) := hcc 2 (by omega)
 have c3 : w.cell? ⟨b, o + t * 9 + 3, none⟩ = some (.bool pk) := hcc 3 (by omega)
 have c4 : w.cell? ⟨b, o + t * 9 + 4, none⟩ = some (.bool lf) := hcc 4 (by omega)
 have c5 : w.cell? ⟨b, o + t * 9 + 5, none⟩ = some (.int .i64 at_) := hcc 5 (by omega)
 have c6 : w.cell? ⟨b, o + t * 9 + 6, none⟩ = some (.bool all) := hcc 6 (by omega)
 have c7 : w.cell? ⟨b, o + t * 9 + 7, none⟩ = some (.slice Ak ml.length ck) := hcc 7 (by omega)
 have c8 : w.cell? ⟨b, o + t * 9 + 8, none⟩ = some (.string ex) := hcc 8 (by omega)
 have t0 : (0 : Int) ≤ t := by omega
 have t1 : (t : Int) < ns.length := by omega
 clear hcc hpi hp hD
 go_enter Tryz.func153, Tryz.ntmps153
 go_upto_region 1 with fail
 have kr : Bk ((w.alloc (.cells #[.slice (some ⟨b, o, none⟩) ns.length nc, .slice MA ms.length mc, .slice PA pn pc, .slice TA tn tc, .slice EA en ec] 32)).alloc (.cells zeroN 113)) (w.heap.size + 1) 113 zeroN := Bk.made _ _ (by simp)
 have ks : Bk ((w.alloc (.cells #[.slice (some ⟨b, o, none⟩) ns.length nc, .slice MA ms.length mc, .slice PA pn pc, .slice TA tn tc, .slice EA en ec] 32)).alloc (.cells zeroN 113)) w.heap.size 32 #[.slice (some ⟨b, o, none⟩) ns.length nc, .slice MA ms.length mc, .slice PA pn pc, .slice TA tn tc, .slice EA en ec] := (Bk.new w _ _).alloc _
 have hb0 : Below w.heap.size w ((w.alloc (.cells #[.slice (some ⟨b, o, none⟩) ns.length nc, .slice MA ms.length mc, .slice PA pn pc, .slice TA tn tc, .slice EA en ec] 32)).alloc (.cells zeroN 113)) := belowA
 generalize (w.alloc (.cells #[.slice (some ⟨b, o, none⟩) ns.length nc, .slice MA ms.length mc, .slice PA pn pc, .slice TA tn tc, .slice EA en ec] 32)).alloc (.cells zeroN 113) = w0 at *
 have d := fun (i : Nat) => hb0.cell (p := ⟨b, o + t * 9 + i, none⟩) (show b < w.heap.size from hb)
 have d0 := (d 0).trans c0; have d1 := (d 1).trans c1; have d2 := (d 2).trans c2; have d3 := (d 3).trans c3; have d4 := (d 4).trans c4; have d5 := (d 5).trans c5; have d6 := (d 6).trans c6; have d7 := (d 7).trans c7; have d8 := (d 8).trans c8
 rw [Nat.add_zero] at d0
 obtain ⟨s0, s1, s2, s3, s4⟩ := bk5 ks
 obtain ⟨r0, r1, r2, r3, r4, r5, r6, r7, r8⟩ := bk9 kr
 have rf := kr.frozen; have rl := def_lt' kr
 clear d c0 c1 c2 c3 c4 c5 c6 c7 c8
 go_wp2
 have hk := set9_bk kr (.string nm) (.slice Ag gs.length cg) (.bool il) (.bool pk) (.bool lf) (.int .i64 at_) (.bool all) (.slice Ak ml.length ck) (.string ex)
 have hbb := hb0.trans (set9_below (base := w.heap.size) (b := w.heap.size + 1) (by omega) (w := w0) (.string nm) (.slice Ag gs.length cg) (.bool il) (.bool pk) (.bool lf) (.int .i64 at_) (.bool all) (.slice Ak ml.length ck) (.string ex))
 unfold set9 at hk hbb
 obtain ⟨z0, z1, z2, z3, z4, z5, z6, z7, z8⟩ := bk9 hk
 exact bodyPost_ret (v := .agg #[.string nm, .slice Ag gs.length cg, .bool il, .bool pk, .bool lf, .int .i64 at_, .bool all, .slice Ak ml.length ck, .string ex]) (by simp [results, Tryz.results153, go_sem, z0, z1, z2, z3, z4, z5, z6, z7, z8]) rfl ⟨rfl, hbb⟩
def TypeOut (m : Int) (w : World) (e : Ending) (w' : World) : Prop := ∃ x : Int, e = .returned (.int .i64 x) ∧ -1 ≤ x ∧ x ≤ m ∧ Below w.heap.size w w'
theorem find_any (s : ByteArray) (hD : DeclIn w base nv mv ns ms) : Calls Tryz.prog 97 #[.agg #[nv, mv, .slice PA pn pc, .slice TA tn tc, .slice EA en ec], .string s] w (TypeOut 24 w) := by
 have hn := hD.nl
 obtain ⟨NA, nc, rfl, -, -, -, -⟩ := own_form hD.n
 obtain ⟨MA, mc, rfl, -, -, -, -⟩ := own_form hD.m
 have HD := Lib.hid hD
 clear hD
 go_enter Tryz.func97, Tryz.ntmps97
 go_upto_region 1 with fail
 have ks : Bk (w.alloc (.cells #[.slice NA ns.length nc, .slice MA ms.length mc, .slice PA pn pc, .slice TA tn tc, .slice EA en ec] 32)) w.heap.size 32 #[.slice NA ns.length nc, .slice MA ms.length mc, .slice PA pn pc, .slice TA tn tc, .slice EA en ec] := Bk.new w _ _
 have hb0 : Below w.heap.size w (w.alloc (.cells #[.slice NA ns.length nc, .slice MA ms.length mc, .slice PA pn pc, .slice TA tn tc, .slice EA en ec] 32)) := belowA
 generalize w.alloc (.cells #[.slice NA ns.length nc, .slice MA ms.length mc, .slice PA pn pc, .slice TA tn tc, .slice EA en ec] 32) = w0 at *
 have hD0 := Lib.hid (HD.out.below hb0)
 obtain ⟨s0, s1, s2, s3, s4⟩ := bk5 ks
 cases ht : (s.toList == [116, 101, 120, 116]) with
 | true =>
   go_wp2
   go_ret
   exact ⟨0, rfl, by omega, by omega, hb0⟩
 | false =>
   go_wp2
   go_loop [5] (fun j => ∃ k : Nat, k ≤ ns.length ∧ j = .int .i64 k) (fun j => ns.length - (intOf j).toNat)
   case atStart => exact ⟨0, by omega, rfl⟩
   case round =>
    obtain ⟨k, hk, rfl⟩ := hrel
    by_cases hlt : k < ns.length
    ·have e3 : (k : Int) < ns.length := by omega
     obtain ⟨p, hp⟩ : ∃ p, ns[k]? = some p := ⟨_, List.getElem?_eq_getElem hlt⟩
     obtain ⟨b, o, rfl, hb, hcc⟩ := hD0.out.node hp
     have c0 : w0.cell? ⟨b, o + k * 9, none⟩ = some (.string p.nm) := hcc 0 (by omega)
     clear hcc hp
     cases he : (p.nm.toList == s.toList) with
     | true =>
       go_wp2
       go_ret
       exact ⟨(k : Int) + 1, rfl, by omega, by omega, hb0⟩
     | false =>
       go_wp2
       go_round
       case rel => exact ⟨k + 1, by omega, by go_num⟩
       case measure => simp [intOf]; omega
    ·obtain rfl : k = ns.length := by omega
     go_wp2
     go_ret
     exact ⟨-1, rfl, by omega, by omega, hb0⟩
theorem findmark_any (s : ByteArray) (hD : DeclIn w base nv mv ns ms) : Calls Tryz.prog 98 #[.agg #[nv, mv, .slice PA pn pc, .slice TA tn tc, .slice EA en ec], .string s] w (TypeOut 8 w) := by
 have hn := hD.ml
 obtain ⟨NA, nc, rfl, -, -, -, -⟩ := own_form hD.n
 obtain ⟨MA, mc, rfl, -, -, -, -⟩ := own_form hD.m
 have HD := Lib.hid hD
 clear hD
 go_enter Tryz.func98, Tryz.ntmps98
 go_upto_region 1 with fail
 have ks : Bk (w.alloc (.cells #[.slice NA ns.length nc, .slice MA ms.length mc, .slice PA pn pc, .slice TA tn tc, .slice EA en ec] 32)) w.heap.size 32 #[.slice NA ns.length nc, .slice MA ms.length mc, .slice PA pn pc, .slice TA tn tc, .slice EA en ec] := Bk.new w _ _
 have hb0 : Below w.heap.size w (w.alloc (.cells #[.slice NA ns.length nc, .slice MA ms.length mc, .slice PA pn pc, .slice TA tn tc, .slice EA en ec] 32)) := belowA
 generalize w.alloc (.cells #[.slice NA ns.length nc, .slice MA ms.length mc, .slice PA pn pc, .slice TA tn tc, .slice EA en ec] 32) = w0 at *
 have hD0 := Lib.hid (HD.out.below hb0)
 obtain ⟨s0, s1, s2, s3, s4⟩ := bk5 ks
 go_wp2
 go_loop [5] (fun j => ∃ k : Nat, k ≤ ms.length ∧ j = .int .i64 k) (fun j => ms.length - (intOf j).toNat)
 case atStart => exact ⟨0, by omega, rfl⟩
 case round =>
  obtain ⟨k, hk, rfl⟩ := hrel
  by_cases hlt : k < ms.length
  ·have e3 : (k : Int) < ms.length := by omega
   obtain ⟨p, hp⟩ : ∃ p, ms[k]? = some p := ⟨_, List.getElem?_eq_getElem hlt⟩
   obtain ⟨b, o, rfl, hb, hcc⟩ := hD0.out.mark hp
   have c0 : w0.cell? ⟨b, o + k * 4, none⟩ = some (.string p.nm) := hcc 0 (by omega)
   clear hcc hp
   cases he : (p.nm.toList == s.toList) with
   | true =>
     go_wp2
     go_ret
     exact ⟨(k : Int), rfl, by omega, by omega, hb0⟩
   | false =>
     go_wp2
     go_round
     case rel => exact ⟨k + 1, by omega, by go_num⟩
     case measure => simp [intOf]; omega
  ·obtain rfl : k = ms.length := by omega
   go_wp2
   go_ret
   exact ⟨-1, rfl, by omega, by omega, hb0⟩
/-- numbers in a row of their own -/
def IsOut (m : Nat) (w : World) (e : Ending) (w' : World) : Prop := ∃ (v : Value) (l : List Int), e = .returned v ∧ w'.ownsRow w.heap.size 3 1 v l.length (is l) ∧ l.length ≤ m ∧ Below w.heap.size w w'
theorem group_any (s : ByteArray) (hD : DeclIn w base nv mv ns ms) : Calls Tryz.prog 102 #[.agg #[nv, mv, .slice PA pn pc, .slice TA tn tc, .slice EA en ec], .string s] w (IsOut 24 w) := by
 have hn := hD.nl
 obtain ⟨NA, nc, rfl, -, -, -, -⟩ := own_form hD.n
 obtain ⟨MA, mc, rfl, -, -, -, -⟩ := own_form hD.m
 have HD := Lib.hid hD
 clear hD
 go_enter Tryz.func102, Tryz.ntmps102
 go_upto_region 1 with fail
 have ks : Bk (w.alloc (.cells #[.slice NA ns.length nc, .slice MA ms.length mc, .slice PA pn pc, .slice TA tn tc, .slice EA en ec] 32)) w.heap.size 32 #[.slice NA ns.length nc, .slice MA ms.length mc, .slice PA pn pc, .slice TA tn tc, .slice EA en ec] := Bk.new w _ _
 have hb0 : Below w.heap.size w (w.alloc (.cells #[.slice NA ns.length nc, .slice MA ms.length mc, .slice PA pn pc, .slice TA tn tc, .slice EA en ec] 32)) := belowA
 generalize w.alloc (.cells #[.slice NA ns.length nc, .slice MA ms.length mc, .slice PA pn pc, .slice TA tn tc, .slice EA en ec] 32) = w0 at *
 have hD0 := Lib.hid (HD.out.below hb0)
 have hz0 := hb0.size
 go_wp2
 go_loopw [5, 6] (fun v j wr => ∃ (k : Nat) (l : List Int), k ≤ ns.length ∧ j = .int .i64 k ∧ l.length ≤ k ∧ Hid (wr.ownsRow w0.heap.size 3 1 v l.length (is l)) ∧ Below w0.heap.size w0 wr) (fun _ j _ => ns.length - (intOf j).toNat)
 case atStart => exact ⟨0, [], by omega, rfl, by simp, Lib.hid (World.ownsRow_nil _ _ _ _), Below.refl _ _⟩
 case round =>
  obtain ⟨k, l, hk, rfl, hl, hown, hbr⟩ := hrel
  have hz := hbr.size
  obtain ⟨s0, s1, s2, s3, s4⟩ := bk5 (ks.ext hbr)
  by_cases hlt : k < ns.length
  ·have e3 : (k : Int) < ns.length := by omega
   obtain ⟨p, hp⟩ : ∃ p, ns[k]? = some p := ⟨_, List.getElem?_eq_getElem hlt⟩
   have hDr := hD0.out.below hbr
   obtain ⟨b, o, rfl, hb, hcc⟩ := hDr.node hp
   have hpi := hDr.ni p (List.mem_of_getElem? hp)
   obtain ⟨Ag, cg, eg, -, -, -, hgr⟩ := own_form hpi.g
   have hgl := hpi.gl
   have c1 : wr.cell? ⟨b, o + k * 9 + 1, none⟩ = some p.gv := hcc 1 (by omega)
   rw [eg] at c1
   have hha := Lib.hid (has10_any Ag p.gs.length cg p.gs s wr hgr (by unfold maxLen; omega))
   clear hcc hp eg hpi hgr hDr
   go_wp2_with (go_at_call 151; fail)
   refine hha.out.mono ?_
   rintro e w1 ⟨⟨b1, rfl⟩, hb1⟩
   have hb01 := hbr.trans (hb1.mono hz)
   have hown1 := own_below hown.out hb1
   have hz1 := hb01.size
   cases b1 with
   | false =>
     go_wp2
     go_roundw
     case rel => exact ⟨k + 1, l, by omega, by go_num, by omega, Lib.hid hown1, hb01⟩
     case measure => simp [intOf]; omega
   | true =>
     go_wp2_with (at_builtin; ((refine app_one Tryz.underlying51 info_in rfl (by decide) w1 w0.heap.size _ l.length _ hown1 (by unfold maxLen; omega) (by omega) (by omega) _ rfl (by simp [Value.oneCell']) rfl _ _ rfl rfl rfl ?_); intro g4 cap4 w4 hown4 hgr4 hat4 hlt4))
     go_roundw
     case rel => exact ⟨k + 1, l ++ [(k : Int) + 1], by omega, by go_num, by simp; omega, Lib.hid (by rw [List.length_append, is_append]; exact hown4), below_own hb01 hown1 hgr4 hz1 (Nat.le_refl _)⟩
     case measure => simp [intOf]; omega
  ·obtain rfl : k = ns.length := by omega
   obtain ⟨A1, c1, rfl, -, -, -, -⟩ := own_form hown.out
   go_wp2
   exact bodyPost_ret (v := .slice A1 l.length c1) (by simp [results, Tryz.results102, go_sem]) rfl ⟨_, l, rfl, own_base hown.out hz0, by omega, hb0.trans (hbr.mono hz0)⟩
end
@[go_sem] theorem field_nd2 (x0 x1 x2 x3 x4 x5 x6 x7 x8 : Value) (w : World) : (Instr.field 113 (.agg #[x0, x1, x2, x3, x4, x5, x6, x7, x8]) 2).run Tryz.prog w = .ok x2 w := by kernel_rfl
@[go_sem] theorem field_nd4 (x0 x1 x2 x3 x4 x5 x6 x7 x8 : Value) (w : World) : (Instr.field 113 (.agg #[x0, x1, x2, x3, x4, x5, x6, x7, x8]) 4).run Tryz.prog w = .ok x4 w := by kernel_rfl
@[go_sem] theorem field_nd6 (x0 x1 x2 x3 x4 x5 x6 x7 x8 : Value) (w : World) : (Instr.field 113 (.agg #[x0, x1, x2, x3, x4, x5, x6, x7, x8]) 6).run Tryz.prog w = .ok x6 w := by kernel_rfl
@[go_sem] theorem field_nd7 (x0 x1 x2 x3 x4 x5 x6 x7 x8 : Value) (w : World) : (Instr.field 113 (.agg #[x0, x1, x2, x3, x4, x5, x6, x7, x8]) 7).run Tryz.prog w = .ok x7 w := by kernel_rfl
section
variable (base : Nat) (nv mv : Value) (ns : List Nd) (ms : List Mr) (PA TA EA : Option Addr) (pn pc tn tc en ec : Nat) (w : World)
theorem leaf_any (t : Int) (hD : DeclIn w base nv mv ns ms) : Calls Tryz.prog 199 #[.agg #[nv, mv, .slice PA pn pc, .slice TA tn tc, .slice EA en ec], .int .i64 t] w (AnyB w) := by
 obtain ⟨NA, nc, rfl, -, -, -, -⟩ := own_form hD.n
 obtain ⟨MA, mc, rfl, -, -, -, -⟩ := own_form hD.m
 have hth := fun W (hb : Below w.heap.size w W) => there_any base _ _ ns ms PA TA EA pn pc tn tc en ec W t (hD.below hb)
 have hnd := fun (k : Nat) (p : Nd) (hp : ns[k]? = some p) W (hb : Below w.heap.size w W) => node11_any base _ _ ns ms PA TA EA pn pc tn tc en ec W k p hp (hD.below hb)
 have hfm := fun p (hp : p ∈ ns) => hD.ni p hp
 have HTH := Lib.hid hth
 have HND := Lib.hid hnd
 have HFM := Lib.hid hfm
 clear hth hnd hfm hD
 by_cases h0 : t = 0
 ·subst h0
  go_enter Tryz.func199, Tryz.ntmps199
  go_wp2
  go_ret
  exact ⟨⟨_, rfl⟩, belowA⟩
 have e0 : (t == 0) = false := beq_false_of_ne h0
 by_cases hin : 1 ≤ t ∧ t ≤ ns.length
 ·obtain ⟨k, rfl⟩ : ∃ k : Nat, t = (k : Int) + 1 := ⟨(t - 1).toNat, by omega⟩
  obtain ⟨p, hp⟩ : ∃ p, ns[k]? = some p := ⟨_, List.getElem?_eq_getElem (by omega)⟩
  have HP := Lib.hid hp
  have hpi := HFM.out p (List.mem_of_getElem? hp)
  obtain ⟨nm, gv, gs, il, pk, lf, at_, all, mk, ml, ex⟩ := p
  obtain ⟨Ag, cg, eg, -, -, -, -⟩ := own_form hpi.g
  obtain ⟨Ak, ck, ek, -, -, -, -⟩ := own_form hpi.m
  dsimp only at eg ek
  subst eg
  subst ek
  clear hpi
  have HT := Lib.hid (show decide (1 ≤ (k : Int) + 1 ∧ (k : Int) + 1 ≤ ns.length) = true from decide_eq_true hin)
  clear hp h0
  go_enter Tryz.func199, Tryz.ntmps199
  go_upto_region 1 with fail
  have ks : Bk (w.alloc (.cells #[.slice NA ns.length nc, .slice MA ms.length mc, .slice PA pn pc, .slice TA tn tc, .slice EA en ec] 32)) w.heap.size 32 #[.slice NA ns.length nc, .slice MA ms.length mc, .slice PA pn pc, .slice TA tn tc, .slice EA en ec] := Bk.new w _ _
  have hb0 : Below w.heap.size w (w.alloc (.cells #[.slice NA ns.length nc, .slice MA ms.length mc, .slice PA pn pc, .slice TA tn tc, .slice EA en ec] 32)) := belowA
  generalize w.alloc (.cells #[.slice NA ns.length nc, .slice MA ms.length mc, .slice PA pn pc, .slice TA tn tc, .slice EA en ec] 32) = w0 at *
  obtain ⟨s0, s1, s2, s3, s4⟩ := bk5 ks
  go_wp2_with (go_at_call 152; fail)
  refine (HTH.out w0 hb0).mono ?_
  rw [HT.out]
  rintro e w1 ⟨rfl, hb1⟩
  have hb01 := hb0.trans (hb1.mono hb0.size)
  obtain ⟨s0, s1, s2, s3, s4⟩ := bk5 (ks.ext hb1)
  go_wp2_with (go_at_call 153; fail)
  refine (HND.out k _ HP.out w1 hb01).mono ?_
  rintro e w2 ⟨rfl, hb2⟩
  dsimp only [Nd.arr]
  go_wp2
  go_ret
  exact ⟨⟨_, rfl⟩, hb01.trans (hb2.mono hb01.size)⟩
 ·have HT := Lib.hid (show decide (1 ≤ t ∧ t ≤ ns.length) = false from decide_eq_false hin)
  clear hin h0
  go_enter Tryz.func199, Tryz.ntmps199
  go_upto_region 1 with fail
  have ks : Bk (w.alloc (.cells #[.slice NA ns.length nc, .slice MA ms.length mc, .slice PA pn pc, .slice TA tn tc, .slice EA en ec] 32)) w.heap.size 32 #[.slice NA ns.length nc, .slice MA ms.length mc, .slice PA pn pc, .slice TA tn tc, .slice EA en ec] := Bk.new w _ _
  have hb0 : Below w.heap.size w (w.alloc (.cells #[.slice NA ns.length nc, .slice MA ms.length mc, .slice PA pn pc, .slice TA tn tc, .slice EA en ec] 32)) := belowA
  generalize w.alloc (.cells #[.slice NA ns.length nc, .slice MA ms.length mc, .slice PA pn pc, .slice TA tn tc, .slice EA en ec] 32) = w0 at *
  obtain ⟨s0, s1, s2, s3, s4⟩ := bk5 ks
  go_wp2_with (go_at_call 152; fail)
  refine (HTH.out w0 hb0).mono ?_
  rw [HT.out]
  rintro e w1 ⟨rfl, hb1⟩
  go_wp2
  go_ret
  exact ⟨⟨_, rfl⟩, hb0.trans (hb1.mono hb0.size)⟩
theorem inline_any (t : Int) (hD : DeclIn w base nv mv ns ms) : Calls Tryz.prog 103 #[.agg #[nv, mv, .slice PA pn pc, .slice TA tn tc, .slice EA en ec], .int .i64 t] w (AnyB w) := by
 obtain ⟨NA, nc, rfl, -, -, -, -⟩ := own_form hD.n
 obtain ⟨MA, mc, rfl, -, -, -, -⟩ := own_form hD.m
 have hth := fun W (hb : Below w.heap.size w W) => there_any base _ _ ns ms PA TA EA pn pc tn tc en ec W t (hD.below hb)
 have hnd := fun (k : Nat) (p : Nd) (hp : ns[k]? = some p) W (hb : Below w.heap.size w W) => node11_any base _ _ ns ms PA TA EA pn pc tn tc en ec W k p hp (hD.below hb)
 have hfm := fun p (hp : p ∈ ns) => hD.ni p hp
 have HTH := Lib.hid hth
 have HND := Lib.hid hnd
 have HFM := Lib.hid hfm
 clear hth hnd hfm hD
 by_cases h0 : t = 0
 ·subst h0
  go_enter Tryz.func103, Tryz.ntmps103
  go_wp2
  go_ret
  exact ⟨⟨_, rfl⟩, belowA⟩
 have e0 : (t == 0) = false := beq_false_of_ne h0
 by_cases hin : 1 ≤ t ∧ t ≤ ns.length
 ·obtain ⟨k, rfl⟩ : ∃ k : Nat, t = (k : Int) + 1 := ⟨(t - 1).toNat, by omega⟩
  obtain ⟨p, hp⟩ : ∃ p, ns[k]? = some p := ⟨_, List.getElem?_eq_getElem (by omega)⟩
  have HP := Lib.hid hp
  have hpi := HFM.out p (List.mem_of_getElem? hp)
  obtain ⟨nm, gv, gs, il, pk, lf, at_, all, mk, ml, ex⟩ := p
  obtain ⟨Ag, cg, eg, -, -, -, -⟩ := own_form hpi.g
  obtain ⟨Ak, ck, ek, -, -, -, -⟩ := own_form hpi.m
  dsimp only at eg ek
  subst eg
  subst ek
  clear hpi
  have HT := Lib.hid (show decide (1 ≤ (k : Int) + 1 ∧ (k : Int) + 1 ≤ ns.length) = true from decide_eq_true hin)
  clear hp h0
  go_enter Tryz.func103, Tryz.ntmps103
  go_upto_region 1 with fail
  have ks : Bk (w.alloc (.cells #[.slice NA ns.length nc, .slice MA ms.length mc, .slice PA pn pc, .slice TA tn tc, .slice EA en ec] 32)) w.heap.size 32 #[.slice NA ns.length nc, .slice MA ms.length mc, .slice PA pn pc, .slice TA tn tc, .slice EA en ec] := Bk.new w _ _
  have hb0 : Below w.heap.size w (w.alloc (.cells #[.slice NA ns.length nc, .slice MA ms.length mc, .slice PA pn pc, .slice TA tn tc, .slice EA en ec] 32)) := belowA
  generalize w.alloc (.cells #[.slice NA ns.length nc, .slice MA ms.length mc, .slice PA pn pc, .slice TA tn tc, .slice EA en ec] 32) = w0 at *
  obtain ⟨s0, s1, s2, s3, s4⟩ := bk5 ks
  go_wp2_with (go_at_call 152; fail)
  refine (HTH.out w0 hb0).mono ?_
  rw [HT.out]
  rintro e w1 ⟨rfl, hb1⟩
  have hb01 := hb0.trans (hb1.mono hb0.size)
  obtain ⟨s0, s1, s2, s3, s4⟩ := bk5 (ks.ext hb1)
  go_wp2_with (go_at_call 153; fail)
  refine (HND.out k _ HP.out w1 hb01).mono ?_
  rintro e w2 ⟨rfl, hb2⟩
  dsimp only [Nd.arr]
  go_wp2
  go_ret
  exact ⟨⟨_, rfl⟩, hb01.trans (hb2.mono hb01.size)⟩
 ·have HT := Lib.hid (show decide (1 ≤ t ∧ t ≤ ns.length) = false from decide_eq_false hin)
  clear hin h0
  go_enter Tryz.func103, Tryz.ntmps103
  go_upto_region 1 with fail
  have ks : Bk (w.alloc (.cells #[.slice NA ns.length nc, .slice MA ms.length mc, .slice PA pn pc, .slice TA tn tc, .slice EA en ec] 32)) w.heap.size 32 #[.slice NA ns.length nc, .slice MA ms.length mc, .slice PA pn pc, .slice TA tn tc, .slice EA en ec] := Bk.new w _ _
  have hb0 : Below w.heap.size w (w.alloc (.cells #[.slice NA ns.length nc, .slice MA ms.length mc, .slice PA pn pc, .slice TA tn tc, .slice EA en ec] 32)) := belowA
  generalize w.alloc (.cells #[.slice NA ns.length nc, .slice MA ms.length mc, .slice PA pn pc, .slice TA tn tc, .slice EA en ec] 32) = w0 at *
  obtain ⟨s0, s1, s2, s3, s4⟩ := bk5 ks
  go_wp2_with (go_at_call 152; fail)
  refine (HTH.out w0 hb0).mono ?_
  rw [HT.out]
  rintro e w1 ⟨rfl, hb1⟩
  go_wp2
  go_ret
  exact ⟨⟨_, rfl⟩, hb0.trans (hb1.mono hb0.size)⟩
theorem bars_any (a b : Int) (hD : DeclIn w base nv mv ns ms) : Calls Tryz.prog 160 #[.agg #[nv, mv, .slice PA pn pc, .slice TA tn tc, .slice EA en ec], .int .i64 a, .int .i64 b] w (AnyB w) := by
 obtain ⟨NA, nc, rfl, -, -, -, -⟩ := own_form hD.n
 obtain ⟨MA, mc, rfl, -, -, -, -⟩ := own_form hD.m
 have hml := hD.ml
 have HD := Lib.hid hD
 clear hD
 by_cases hout : a < 0 ∨ b < 0 ∨ (ms.length : Int) ≤ a ∨ (ms.length : Int) ≤ b
 ·have h4 : a < 0 ∨ (¬ a < 0 ∧ b < 0) ∨ (¬ a < 0 ∧ ¬ b < 0 ∧ (ms.length : Int) ≤ a) ∨ (¬ a < 0 ∧ ¬ b < 0 ∧ ¬ (ms.length : Int) ≤ a ∧ (ms.length : Int) ≤ b) := by omega
  clear hout
  rcases h4 with h | ⟨h1, h⟩ | ⟨h1, h2, h⟩ | ⟨h1, h2, h3, h⟩
  all_goals
   go_enter Tryz.func160, Tryz.ntmps160
   go_wp2
   go_ret
   exact ⟨⟨_, rfl⟩, belowA⟩
 ·have h1 : ¬ a < 0 := by omega
  have h2 : ¬ b < 0 := by omega
  have h3 : ¬ (ms.length : Int) ≤ a := by omega
  have h4 : ¬ (ms.length : Int) ≤ b := by omega
  obtain ⟨x, rfl⟩ : ∃ x : Nat, a = (x : Int) := ⟨a.toNat, by omega⟩
  obtain ⟨y, rfl⟩ : ∃ y : Nat, b = (y : Int) := ⟨b.toNat, by omega⟩
  have h5 : (x : Int) < ms.length := by omega
  have h6 : (y : Int) < ms.length := by omega
  obtain ⟨p, hp⟩ : ∃ p, ms[x]? = some p := ⟨_, List.getElem?_eq_getElem (by omega)⟩
  obtain ⟨q, hq⟩ : ∃ q, ms[y]? = some q := ⟨_, List.getElem?_eq_getElem (by omega)⟩
  have hpi := HD.out.mi p (List.mem_of_getElem? hp)
  obtain ⟨Ag, cg, eg, -, -, -, hgr⟩ := own_form hpi.b
  have hgl := hpi.bl
  obtain ⟨mb, mo, rfl, hmb, hpc⟩ := HD.out.mark hp
  obtain ⟨mb', mo', hA, -, hqc⟩ := HD.out.mark hq
  obtain ⟨rfl, rfl⟩ : mb = mb' ∧ mo = mo' := by simpa using hA
  have c2 : w.cell? ⟨mb, mo + x * 4 + 2, none⟩ = some (.bool p.all) := hpc 2 (by omega)
  have c3 : w.cell? ⟨mb, mo + x * 4 + 3, none⟩ = some p.bv := hpc 3 (by omega)
  have d0 : w.cell? ⟨mb, mo + y * 4, none⟩ = some (.string q.nm) := hqc 0 (by omega)
  rw [eg] at c3
  have hha := fun W (hb : Below w.heap.size w W) => has10_any Ag p.bs.length cg p.bs q.nm W ((hgr.below hb).more hb.size) (by unfold maxLen; omega)
  have HHA := Lib.hid hha
  generalize p.all = pa at *
  clear hpc hqc hA hp hq eg hgr hha hout hpi
  go_enter Tryz.func160, Tryz.ntmps160
  go_upto_region 4 with fail
  have ks : Bk (w.alloc (.cells #[.slice NA ns.length nc, .slice (some ⟨mb, mo, none⟩) ms.length mc, .slice PA pn pc, .slice TA tn tc, .slice EA en ec] 32)) w.heap.size 32 #[.slice NA ns.length nc, .slice (some ⟨mb, mo, none⟩) ms.length mc, .slice PA pn pc, .slice TA tn tc, .slice EA en ec] := Bk.new w _ _
  have hb0 : Below w.heap.size w (w.alloc (.cells #[.slice NA ns.length nc, .slice (some ⟨mb, mo, none⟩) ms.length mc, .slice PA pn pc, .slice TA tn tc, .slice EA en ec] 32)) := belowA
  generalize w.alloc (.cells #[.slice NA ns.length nc, .slice (some ⟨mb, mo, none⟩) ms.length mc, .slice PA pn pc, .slice TA tn tc, .slice EA en ec] 32) = w0 at *
  have hF : ∀ W, (Below w.heap.size w W ∧ Bk W w.heap.size 32 #[.slice NA ns.length nc, .slice (some ⟨mb, mo, none⟩) ms.length mc, .slice PA pn pc, .slice TA tn tc, .slice EA en ec]) → W.cell? ⟨w.heap.size, 1, none⟩ = some (.slice (some ⟨mb, mo, none⟩) ms.length mc) ∧ W.cell? ⟨mb, mo + x * 4 + 2, none⟩ = some (.bool pa) ∧ W.cell? ⟨mb, mo + x * 4 + 3, none⟩ = some (.slice Ag p.bs.length cg) ∧ W.cell? ⟨mb, mo + y * 4, none⟩ = some (.string q.nm) := fun W h => ⟨h.2.cell 1, (h.1.cell (by simpa using hmb)).trans c2, (h.1.cell (by simpa using hmb)).trans c3, (h.1.cell (by simpa using hmb)).trans d0⟩
  have HF := Lib.hid hF
  have hxy : ((x : Int) == y) = true ∨ (((x : Int) == y) = false ∧ pa = true) ∨ (((x : Int) == y) = false ∧ pa = false) := by cases ((x : Int) == y) <;> cases pa <;> simp
  clear hF c2 c3 d0 h1 h2 h3 h4
  rcases hxy with e | ⟨e, rfl⟩ | ⟨e, rfl⟩
  all_goals
   refine wp_normal ?_
   refine wp_region_held_drew (S := fun W => Below w.heap.size w W ∧ Bk W w.heap.size 32 #[.slice NA ns.length nc, .slice (some ⟨mb, mo, none⟩) ms.length mc, .slice PA pn pc, .slice TA tn tc, .slice EA en ec]) (by kernel_rfl) ⟨hb0.drew, ks.drew⟩ (fun hHeld => ?_)
   (refine tkH 0 ?_; refine tkH 1 ?_; refine tkH 2 ?_; refine tkH 3 ?_)
   (first | refine tkH 4 ?_ | refine tnH 4 ?_); (first | refine tkH 5 ?_ | refine tnH 5 ?_); (first | refine tkH 6 ?_ | refine tnH 6 ?_); (first | refine tkH 7 ?_ | refine tnH 7 ?_); (first | refine tkH 8 ?_ | refine tnH 8 ?_); (first | refine tkH 9 ?_ | refine tnH 9 ?_); (first | refine tkH 10 ?_ | refine tnH 10 ?_); (first | refine tkH 11 ?_ | refine tnH 11 ?_); (first | refine tkH 12 ?_ | refine tnH 12 ?_); (first | refine tkH 13 ?_ | refine tnH 13 ?_); (first | refine tkH 14 ?_ | refine tnH 14 ?_); (first | refine tkH 15 ?_ | refine tnH 15 ?_); (first | refine tkH 16 ?_ | refine tnH 16 ?_); (first | refine tkH 17 ?_ | refine tnH 17 ?_); (first | refine tkH 18 ?_ | refine tnH 18 ?_); (first | refine tkH 19 ?_ | refine tnH 19 ?_); (first | refine tkH 20 ?_ | refine tnH 20 ?_); (first | refine tkH 21 ?_ | refine tnH 21 ?_); (first | refine tkH 22 ?_ | refine tnH 22 ?_); (first | refine tkH 23 ?_ | refine tnH 23 ?_); (first | refine tkH 24 ?_ | refine tnH 24 ?_); (first | refine tkH 25 ?_ | refine tnH 25 ?_); (first | refine tkH 26 ?_ | refine tnH 26 ?_)
   first
    | (refine tnH 27 ?_; refine tkH 28 ?_; refine tkH 29 ?_
       refine wpAnyH_done (by kernel_rfl) ?_ _
       go_wp2
       go_ret
       exact ⟨⟨_, rfl⟩, hHeld.1⟩)
    | (refine nxH 27 (fun K hK => ?_)
       go_simp
       go_at_call 151
       refine (HHA.out _ hHeld.1).mono ?_
       rintro e w5 ⟨⟨b5, rfl⟩, hb5⟩
       have hb05 := hHeld.1.trans (hb5.mono hHeld.1.size)
       refine hK.out _ _ ⟨hb05, hHeld.2.ext hb5⟩ (fun hHeld => ?_)
       clear hK K; (try simp only [Act.put, List.setIfInBounds_toArray, List.set_cons_zero, List.set_cons_succ])
       refine tkH 28 ?_; refine tkH 29 ?_
       refine wpAnyH_done (by kernel_rfl) ?_ _
       go_wp2
       go_ret
       exact ⟨⟨_, rfl⟩, hHeld.1⟩)
end
section
variable (base : Nat) (nv mv : Value) (ns : List Nd) (ms : List Mr) (PA TA EA : Option Addr) (pn pc tn tc en ec : Nat) (w : World)
theorem allows_any (t a : Int) (hD : DeclIn w base nv mv ns ms) : Calls Tryz.prog 112 #[.agg #[nv, mv, .slice PA pn pc, .slice TA tn tc, .slice EA en ec], .int .i64 t, .int .i64 a] w (AnyB w) := by
 obtain ⟨NA, nc, rfl, -, -, -, -⟩ := own_form hD.n
 obtain ⟨MA, mc, rfl, -, -, -, -⟩ := own_form hD.m
 have hml := hD.ml
 have hth := fun W (hb : Below w.heap.size w W) => there_any base _ _ ns ms PA TA EA pn pc tn tc en ec W t (hD.below hb)
 have hnd := fun (k : Nat) (p : Nd) (hp : ns[k]? = some p) W (hb : Below w.heap.size w W) => node11_any base _ _ ns ms PA TA EA pn pc tn tc en ec W k p hp (hD.below hb)
 have HTH := Lib.hid hth
 have HND := Lib.hid hnd
 have HD := Lib.hid hD
 clear hth hnd hD
 by_cases hin : 1 ≤ t ∧ t ≤ ns.length
 ·have HT := Lib.hid (show decide (1 ≤ t ∧ t ≤ ns.length) = true from decide_eq_true hin)
  by_cases hm : 0 ≤ a ∧ a < ms.length
  ·obtain ⟨k, rfl⟩ : ∃ k : Nat, t = (k : Int) + 1 := ⟨(t - 1).toNat, by omega⟩
   obtain ⟨x, rfl⟩ : ∃ x : Nat, a = (x : Int) := ⟨a.toNat, by omega⟩
   have h1 : ¬ (x : Int) < 0 := by omega
   have h2 : ¬ (ms.length : Int) ≤ x := by omega
   have h5 : (x : Int) < ms.length := by omega
   obtain ⟨p, hp⟩ : ∃ p, ns[k]? = some p := ⟨_, List.getElem?_eq_getElem (by omega)⟩
   obtain ⟨q, hq⟩ : ∃ q, ms[x]? = some q := ⟨_, List.getElem?_eq_getElem (by omega)⟩
   have hpi := HD.out.ni p (List.mem_of_getElem? hp)
   have HP := Lib.hid hp
   obtain ⟨nm, gv, gs, il, pk, lf, at_, all, mk, ml, ex⟩ := p
   obtain ⟨Ag, cg, eg, -, -, -, -⟩ := own_form hpi.g
   obtain ⟨Ak, ck, ek, -, -, -, hkr⟩ := own_form hpi.m
   have hkl := hpi.ml
   dsimp only at eg ek hkr hkl
   subst eg
   subst ek
   obtain ⟨mb, mo, rfl, hmb, hqc⟩ := HD.out.mark hq
   have d0 : w.cell? ⟨mb, mo + x * 4, none⟩ = some (.string q.nm) := hqc 0 (by omega)
   have hha := fun W (hb : Below w.heap.size w W) => has10_any Ak ml.length ck ml q.nm W ((hkr.below hb).more hb.size) (by unfold maxLen; omega)
   have HHA := Lib.hid hha
   clear hha hp hq hpi hqc hkr hin hm
   go_enter Tryz.func112, Tryz.ntmps112
   go_upto_region 1 with fail
   have ks : Bk (w.alloc (.cells #[.slice NA ns.length nc, .slice (some ⟨mb, mo, none⟩) ms.length mc, .slice PA pn pc, .slice TA tn tc, .slice EA en ec] 32)) w.heap.size 32 #[.slice NA ns.length nc, .slice (some ⟨mb, mo, none⟩) ms.length mc, .slice PA pn pc, .slice TA tn tc, .slice EA en ec] := Bk.new w _ _
   have hb0 : Below w.heap.size w (w.alloc (.cells #[.slice NA ns.length nc, .slice (some ⟨mb, mo, none⟩) ms.length mc, .slice PA pn pc, .slice TA tn tc, .slice EA en ec] 32)) := belowA
   generalize w.alloc (.cells #[.slice NA ns.length nc, .slice (some ⟨mb, mo, none⟩) ms.length mc, .slice PA pn pc, .slice TA tn tc, .slice EA en ec] 32) = w0 at *
   obtain ⟨s0, s1, s2, s3, s4⟩ := bk5 ks
   go_wp2_with (go_at_call 152; fail)
   refine (HTH.out w0 hb0).mono ?_
   rw [HT.out]
   rintro e w1 ⟨rfl, hb1⟩
   have ks1 := ks.ext hb1
   have hb01 := hb0.trans (hb1.mono hb0.size)
   clear s0 s1 s2 s3 s4
   obtain ⟨s0, s1, s2, s3, s4⟩ := bk5 ks1
   have hF : ∀ W, (Below w.heap.size w W ∧ Bk W w.heap.size 32 #[.slice NA ns.length nc, .slice (some ⟨mb, mo, none⟩) ms.length mc, .slice PA pn pc, .slice TA tn tc, .slice EA en ec]) → W.cell? ⟨w.heap.size, 0, none⟩ = some (.slice NA ns.length nc) ∧ W.cell? ⟨w.heap.size, 1, none⟩ = some (.slice (some ⟨mb, mo, none⟩) ms.length mc) ∧ W.cell? ⟨w.heap.size, 2, none⟩ = some (.slice PA pn pc) ∧ W.cell? ⟨w.heap.size, 3, none⟩ = some (.slice TA tn tc) ∧ W.cell? ⟨w.heap.size, 4, none⟩ = some (.slice EA en ec) ∧ W.cell? ⟨mb, mo + x * 4, none⟩ = some (.string q.nm) := fun W h => ⟨h.2.cell 0, h.2.cell 1, h.2.cell 2, h.2.cell 3, h.2.cell 4, (h.1.cell (by simpa using hmb)).trans d0⟩
   have HF := Lib.hid hF
   clear hF d0
   go_upto_region 3 with fail
   clear s0 s1 s2 s3 s4
   cases all
   all_goals
    refine wp_normal ?_
    refine wp_region_held_drew (S := fun W => Below w.heap.size w W ∧ Bk W w.heap.size 32 #[.slice NA ns.length nc, .slice (some ⟨mb, mo, none⟩) ms.length mc, .slice PA pn pc, .slice TA tn tc, .slice EA en ec]) (by kernel_rfl) ⟨hb01.drew, ks1.drew⟩ (fun hHeld => ?_)
    (refine tkH 0 ?_; refine tkH 1 ?_)
    refine nxH 2 (fun K hK => ?_)
    go_simp
    go_at_call 153
    refine (HND.out k _ HP.out _ hHeld.1).mono ?_
    rintro e w4 ⟨rfl, hb4⟩
    have hb04 := hHeld.1.trans (hb4.mono hHeld.1.size)
    dsimp only [Nd.arr]
    refine hK.out _ _ ⟨hb04, hHeld.2.ext hb4⟩ (fun hHeld => ?_)
    clear hK K; (try simp only [Act.put, List.setIfInBounds_toArray, List.set_cons_zero, List.set_cons_succ])
    (refine tkH 3 ?_; refine tkH 4 ?_)
    first
     | (refine tnH 5 ?_; refine tnH 6 ?_; refine tnH 7 ?_; refine tnH 8 ?_; refine tnH 9 ?_; refine tnH 10 ?_; refine tnH 11 ?_; refine tnH 12 ?_; refine tnH 13 ?_; refine tnH 14 ?_; refine tnH 15 ?_; refine tnH 16 ?_
        refine tkH 17 ?_; refine tkH 18 ?_
        refine wpAnyH_done (by kernel_rfl) ?_ _
        go_wp2
        go_ret
        exact ⟨⟨_, rfl⟩, hHeld.1⟩)
     | ((refine tkH 5 ?_; refine tkH 6 ?_; refine tkH 9 ?_; refine tkH 10 ?_; refine tkH 11 ?_; refine tkH 12 ?_; refine tkH 13 ?_; refine tkH 14 ?_; refine tkH 15 ?_)
        refine nxH 7 (fun K hK => ?_)
        go_simp
        go_at_call 153
        refine (HND.out k _ HP.out _ hHeld.1).mono ?_
        rintro e w5 ⟨rfl, hb5⟩
        have hb05 := hHeld.1.trans (hb5.mono hHeld.1.size)
        dsimp only [Nd.arr]
        refine hK.out _ _ ⟨hb05, hHeld.2.ext hb5⟩ (fun hHeld => ?_)
        clear hK K; (try simp only [Act.put, List.setIfInBounds_toArray, List.set_cons_zero, List.set_cons_succ])
        (refine tkH 8 ?_)
        refine nxH 16 (fun K hK => ?_)
        go_simp
        go_at_call 151
        refine (HHA.out _ hHeld.1).mono ?_
        rintro e w6 ⟨⟨b5, rfl⟩, hb6⟩
        have hb06 := hHeld.1.trans (hb6.mono hHeld.1.size)
        refine hK.out _ _ ⟨hb06, hHeld.2.ext hb6⟩ (fun hHeld => ?_)
        clear hK K; (try simp only [Act.put, List.setIfInBounds_toArray, List.set_cons_zero, List.set_cons_succ])
        refine tkH 17 ?_; refine tkH 18 ?_
        refine wpAnyH_done (by kernel_rfl) ?_ _
        go_wp2
        go_ret
        exact ⟨⟨_, rfl⟩, hHeld.1⟩)
  ·have hm2 : a < 0 ∨ (¬ a < 0 ∧ (ms.length : Int) ≤ a) := by omega
   clear hm hin
   rcases hm2 with h | ⟨h1, h⟩
   all_goals
    go_enter Tryz.func112, Tryz.ntmps112
    go_upto_region 1 with fail
    have ks : Bk (w.alloc (.cells #[.slice NA ns.length nc, .slice MA ms.length mc, .slice PA pn pc, .slice TA tn tc, .slice EA en ec] 32)) w.heap.size 32 #[.slice NA ns.length nc, .slice MA ms.length mc, .slice PA pn pc, .slice TA tn tc, .slice EA en ec] := Bk.new w _ _
    have hb0 : Below w.heap.size w (w.alloc (.cells #[.slice NA ns.length nc, .slice MA ms.length mc, .slice PA pn pc, .slice TA tn tc, .slice EA en ec] 32)) := belowA
    generalize w.alloc (.cells #[.slice NA ns.length nc, .slice MA ms.length mc, .slice PA pn pc, .slice TA tn tc, .slice EA en ec] 32) = w0 at *
    obtain ⟨s0, s1, s2, s3, s4⟩ := bk5 ks
    go_wp2_with (go_at_call 152; fail)
    refine (HTH.out w0 hb0).mono ?_
    rw [HT.out]
    rintro e w1 ⟨rfl, hb1⟩
    clear s0 s1 s2 s3 s4
    obtain ⟨s0, s1, s2, s3, s4⟩ := bk5 (ks.ext hb1)
    go_wp2
    go_ret
    exact ⟨⟨_, rfl⟩, hb0.trans (hb1.mono hb0.size)⟩
 ·have HT := Lib.hid (show decide (1 ≤ t ∧ t ≤ ns.length) = false from decide_eq_false hin)
  clear hin
  go_enter Tryz.func112, Tryz.ntmps112
  go_upto_region 1 with fail
  have ks : Bk (w.alloc (.cells #[.slice NA ns.length nc, .slice MA ms.length mc, .slice PA pn pc, .slice TA tn tc, .slice EA en ec] 32)) w.heap.size 32 #[.slice NA ns.length nc, .slice MA ms.length mc, .slice PA pn pc, .slice TA tn tc, .slice EA en ec] := Bk.new w _ _
  have hb0 : Below w.heap.size w (w.alloc (.cells #[.slice NA ns.length nc, .slice MA ms.length mc, .slice PA pn pc, .slice TA tn tc, .slice EA en ec] 32)) := belowA
  generalize w.alloc (.cells #[.slice NA ns.length nc, .slice MA ms.length mc, .slice PA pn pc, .slice TA tn tc, .slice EA en ec] 32) = w0 at *
  obtain ⟨s0, s1, s2, s3, s4⟩ := bk5 ks
  go_wp2_with (go_at_call 152; fail)
  refine (HTH.out w0 hb0).mono ?_
  rw [HT.out]
  rintro e w1 ⟨rfl, hb1⟩
  go_wp2
  go_ret
  exact ⟨⟨_, rfl⟩, hb0.trans (hb1.mono hb0.size)⟩
end
section
variable (base : Nat) (nv mv : Value) (ns : List Nd) (ms : List Mr) (PA TA EA : Option Addr) (pn pc tn tc en ec : Nat) (w : World)
def AnyI (w : World) (e : Ending) (w' : World) : Prop := (∃ x : Int, e = .returned (.int .i64 x)) ∧ Below w.heap.size w w'
theorem names_any (hD : DeclIn w base nv mv ns ms) : Calls Tryz.prog 48 #[.agg #[nv, mv, .slice PA pn pc, .slice TA tn tc, .slice EA en ec]] w (AnyI w) := by
 obtain ⟨NA, nc, rfl, -, -, -, -⟩ := own_form hD.n
 obtain ⟨MA, mc, rfl, -, -, -, -⟩ := own_form hD.m
 have hnl := hD.nl
 have hml := hD.ml
 have hfi := fun s W (hb : Below w.heap.size w W) => find_any base _ _ ns ms PA TA EA pn pc tn tc en ec W s (hD.below hb)
 have hfm := fun s W (hb : Below w.heap.size w W) => findmark_any base _ _ ns ms PA TA EA pn pc tn tc en ec W s (hD.below hb)
 have HFI := Lib.hid hfi
 have HFM := Lib.hid hfm
 have HD := Lib.hid hD
 clear hfi hfm hD
 go_enter Tryz.func48, Tryz.ntmps48
 go_upto_region 1 with fail
 have kss : Bk (w.alloc (.cells #[.slice NA ns.length nc, .slice MA ms.length mc, .slice PA pn pc, .slice TA tn tc, .slice EA en ec] 32)) w.heap.size 32 #[.slice NA ns.length nc, .slice MA ms.length mc, .slice PA pn pc, .slice TA tn tc, .slice EA en ec] := Bk.new w _ _
 have hbs : Below w.heap.size w (w.alloc (.cells #[.slice NA ns.length nc, .slice MA ms.length mc, .slice PA pn pc, .slice TA tn tc, .slice EA en ec] 32)) := belowA
 generalize w.alloc (.cells #[.slice NA ns.length nc, .slice MA ms.length mc, .slice PA pn pc, .slice TA tn tc, .slice EA en ec] 32) = w0 at *
 obtain ⟨s0, s1, s2, s3, s4⟩ := bk5 kss
 by_cases h0 : ns.length = 0
 ·have e0 : ((ns.length : Int) == 0) = true := by rw [beq_iff_eq]; omega
  clear h0
  go_wp2
  go_ret
  exact ⟨⟨_, rfl⟩, hbs⟩
 have e0 : ((ns.length : Int) == 0) = false := beq_false_of_ne (by omega)
 clear h0
 go_wp2
 go_loopw [3] (fun j wr => ∃ q : Nat, q ≤ ns.length ∧ j = .int .i64 q ∧ Below w.heap.size w wr ∧ Bk wr w.heap.size 32 #[.slice NA ns.length nc, .slice MA ms.length mc, .slice PA pn pc, .slice TA tn tc, .slice EA en ec]) (fun j _ => ns.length - (intOf j).toNat)
 case atStart => exact ⟨0, by omega, rfl, hbs, kss⟩
 case round =>
  clear hbs kss
  obtain ⟨q, hq, rfl, hbo, kso⟩ := hrel
  rename World => wo
  obtain ⟨s0, s1, s2, s3, s4⟩ := bk5 kso
  by_cases hlt : q < ns.length
  ·have e3 : (q : Int) < ns.length := by omega
   obtain ⟨p, hp⟩ : ∃ p, ns[q]? = some p := ⟨_, List.getElem?_eq_getElem hlt⟩
   have hpi := HD.out.ni p (List.mem_of_getElem? hp)
   obtain ⟨Ag, cg, eg, -, -, -, hgr⟩ := own_form hpi.g
   have hgl := hpi.gl
   obtain ⟨eb, eo, rfl, heb, hcc⟩ := HD.out.node hp
   have hc := hcc 1 (by omega)
   have hc : w.cell? ⟨eb, eo + q * 9 + 1, none⟩ = some p.gv := hc
   rw [eg] at hc
   have hco := (hbo.cell (p := ⟨eb, eo + q * 9 + 1, none⟩) (by simpa using heb)).trans hc
   have HC := Lib.hid hc
   have HGR := Lib.hid hgr
   have hebo : eb < wo.heap.size := Nat.lt_of_lt_of_le heb hbo.size
   obtain ⟨gn, hgn⟩ : ∃ gn, gn = p.gs.length := ⟨_, rfl⟩
   rw [← hgn] at hgl hco HC HGR
   clear hcc hp hpi hgr hc eg
   go_wp2
   go_loopw [4] (fun j wr => ∃ k : Nat, k ≤ gn ∧ j = .int .i64 k ∧ Below w.heap.size w wr ∧ Bk wr w.heap.size 32 #[.slice (some ⟨eb, eo, none⟩) ns.length nc, .slice MA ms.length mc, .slice PA pn pc, .slice TA tn tc, .slice EA en ec]) (fun j _ => gn - (intOf j).toNat)
   case atStart => exact ⟨0, by omega, rfl, hbo, kso⟩
   case round =>
    clear hbo kso s0 s1 s2 s3 s4 hco hebo
    obtain ⟨k, hk, rfl, hbr, ksr⟩ := hrel
    obtain ⟨s0, s1, s2, s3, s4⟩ := bk5 ksr
    have hco := (hbr.cell (p := ⟨eb, eo + q * 9 + 1, none⟩) (by simpa using heb)).trans HC.out
    have hebo : eb < wr.heap.size := Nat.lt_of_lt_of_le heb hbr.size
    by_cases hkl : k < gn
    ·have e4 : (k : Int) < gn := by omega
     obtain ⟨gb, go_, y, rfl, hgb, -, hyc⟩ := strs_at HGR.out hkl
     have hF : ∀ W, (Below w.heap.size w W ∧ Bk W w.heap.size 32 #[.slice (some ⟨eb, eo, none⟩) ns.length nc, .slice MA ms.length mc, .slice PA pn pc, .slice TA tn tc, .slice EA en ec]) → W.cell? ⟨w.heap.size, 0, none⟩ = some (.slice (some ⟨eb, eo, none⟩) ns.length nc) ∧ W.cell? ⟨w.heap.size, 1, none⟩ = some (.slice MA ms.length mc) ∧ W.cell? ⟨w.heap.size, 2, none⟩ = some (.slice PA pn pc) ∧ W.cell? ⟨w.heap.size, 3, none⟩ = some (.slice TA tn tc) ∧ W.cell? ⟨w.heap.size, 4, none⟩ = some (.slice EA en ec) ∧ W.cell? ⟨eb, eo + q * 9 + 1, none⟩ = some (.slice (some ⟨gb, go_, none⟩) gn cg) ∧ W.cell? ⟨gb, go_ + k, none⟩ = some (.string y) := fun W h => ⟨h.2.cell 0, h.2.cell 1, h.2.cell 2, h.2.cell 3, h.2.cell 4, (h.1.cell (by simpa using heb)).trans HC.out, (h.1.cell (by simpa using hgb)).trans hyc⟩
     have HF := Lib.hid hF
     clear hF hyc
     go_upto_region 9 with fail
     clear s0 s1 s2 s3 s4 hco
     refine wp_normal ?_
     refine wp_region_held_drew (S := fun W => Below w.heap.size w W ∧ Bk W w.heap.size 32 #[.slice (some ⟨eb, eo, none⟩) ns.length nc, .slice MA ms.length mc, .slice PA pn pc, .slice TA tn tc, .slice EA en ec]) (by kernel_rfl) ⟨hbr.drew, ksr.drew⟩ (fun hHeld => ?_)
     (refine tkH 0 ?_; refine tkH 1 ?_; refine tkH 2 ?_; refine tkH 3 ?_; refine tkH 4 ?_; refine tkH 5 ?_; refine tkH 6 ?_; refine tkH 7 ?_; refine tkH 8 ?_; refine tkH 9 ?_; refine tkH 10 ?_)
     refine nxH 11 (fun K hK => ?_)
     go_simp
     go_at_call 97
     refine (HFI.out y _ hHeld.1).mono ?_
     rintro e w5 ⟨x, rfl, hx1, hx2, hb5⟩
     have hb05 := hHeld.1.trans (hb5.mono hHeld.1.size)
     refine hK.out _ _ ⟨hb05, hHeld.2.ext hb5⟩ (fun hHeld => ?_)
     clear hK K; (try simp only [Act.put, List.setIfInBounds_toArray, List.set_cons_zero, List.set_cons_succ])
     (refine tkH 12 ?_)
     refine wpAnyH_done (by kernel_rfl) ?_ _
     by_cases hx : 0 ≤ x
     ·go_wp2
      go_ret
      exact ⟨⟨_, rfl⟩, hHeld.1⟩
     ·go_wp2
      go_roundw
      case rel => exact ⟨k + 1, by omega, by go_num, hHeld.1, hHeld.2⟩
      case measure => simp [intOf]; omega
    ·obtain rfl : k = gn := by omega
     go_wp2
     go_roundw
     case rel => exact ⟨q + 1, by omega, by go_num, hbr, ksr⟩
     case measure => simp [intOf]; omega
  ·obtain rfl : q = ns.length := by omega
   have hbs := hbo
   have kss := kso
   clear hbo kso
   go_wp2
   go_loopw [5] (fun j wr => ∃ q : Nat, q ≤ ns.length ∧ j = .int .i64 q ∧ Below w.heap.size w wr ∧ Bk wr w.heap.size 32 #[.slice NA ns.length nc, .slice MA ms.length mc, .slice PA pn pc, .slice TA tn tc, .slice EA en ec]) (fun j _ => ns.length - (intOf j).toNat)
   case atStart => exact ⟨0, by omega, rfl, hbs, kss⟩
   case round =>
    clear hbs kss
    obtain ⟨q, hq, rfl, hbo, kso⟩ := hrel
    rename World => wo
    have hzo := hbo.size
    have hlo := def_lt' kso
    obtain ⟨s0, s1, s2, s3, s4⟩ := bk5 kso
    by_cases hlt : q < ns.length
    ·have e3 : (q : Int) < ns.length := by omega
     obtain ⟨p, hp⟩ : ∃ p, ns[q]? = some p := ⟨_, List.getElem?_eq_getElem hlt⟩
     have hpi := HD.out.ni p (List.mem_of_getElem? hp)
     obtain ⟨eb, eo, rfl, heb, hcc⟩ := HD.out.node hp
     obtain ⟨nm, gv, gs, il, pk, lf, at_, all, mk, ml, ex⟩ := p
     obtain ⟨Ag, cg, eg, -, -, -, -⟩ := own_form hpi.g
     obtain ⟨Ak, ck, ek, -, -, -, -⟩ := own_form hpi.m
     dsimp only at eg ek
     subst eg
     subst ek
     have d := fun (i : Nat) => hbo.cell (p := ⟨eb, eo + q * 9 + i, none⟩) (show eb < w.heap.size from heb)
     have d0 : wo.cell? ⟨eb, eo + q * 9, none⟩ = some (.string nm) := (d 0).trans (hcc 0 (by omega))
     have d1 : wo.cell? ⟨eb, eo + q * 9 + 1, none⟩ = some (.slice Ag gs.length cg) := (d 1).trans (hcc 1 (by omega))
     have d2 : wo.cell? ⟨eb, eo + q * 9 + 2, none⟩ = some (.bool il) := (d 2).trans (hcc 2 (by omega))
     have d3 : wo.cell? ⟨eb, eo + q * 9 + 3, none⟩ = some (.bool pk) := (d 3).trans (hcc 3 (by omega))
     have d4 : wo.cell? ⟨eb, eo + q * 9 + 4, none⟩ = some (.bool lf) := (d 4).trans (hcc 4 (by omega))
     have d5 : wo.cell? ⟨eb, eo + q * 9 + 5, none⟩ = some (.int .i64 at_) := (d 5).trans (hcc 5 (by omega))
     have d6 : wo.cell? ⟨eb, eo + q * 9 + 6, none⟩ = some (.bool all) := (d 6).trans (hcc 6 (by omega))
     have d7 : wo.cell? ⟨eb, eo + q * 9 + 7, none⟩ = some (.slice Ak ml.length ck) := (d 7).trans (hcc 7 (by omega))
     have d8 : wo.cell? ⟨eb, eo + q * 9 + 8, none⟩ = some (.string ex) := (d 8).trans (hcc 8 (by omega))
     have hebo : eb < wo.heap.size := Nat.lt_of_lt_of_le heb hzo
     clear d hcc hp hpi
     cases hq0 : ((q : Int) == 0) <;> cases lf <;> cases il
     all_goals
      go_wp2
      first
       | (go_ret; exact ⟨⟨_, rfl⟩, belowA⟩)
       | (go_roundw
          case rel => exact ⟨q + 1, by omega, by go_num, belowA, kso.alloc _⟩
          case measure => simp [intOf]; omega)
    ·obtain rfl : q = ns.length := by omega
     have hbs := hbo
     have kss := kso
     clear hbo kso
     go_wp2
     go_loopw [7] (fun j wr => ∃ q : Nat, q ≤ ns.length ∧ j = .int .i64 q ∧ Below w.heap.size w wr ∧ Bk wr w.heap.size 32 #[.slice NA ns.length nc, .slice MA ms.length mc, .slice PA pn pc, .slice TA tn tc, .slice EA en ec]) (fun j _ => ns.length - (intOf j).toNat)
     case atStart => exact ⟨0, by omega, rfl, hbs, kss⟩
     case round =>
      clear hbs kss
      obtain ⟨q, hq, rfl, hbo, kso⟩ := hrel
      rename World => wo
      obtain ⟨s0, s1, s2, s3, s4⟩ := bk5 kso
      by_cases hlt : q < ns.length
      ·have e3 : (q : Int) < ns.length := by omega
       obtain ⟨p, hp⟩ : ∃ p, ns[q]? = some p := ⟨_, List.getElem?_eq_getElem hlt⟩
       have hpi := HD.out.ni p (List.mem_of_getElem? hp)
       obtain ⟨Ag, cg, eg, -, -, -, hgr⟩ := own_form hpi.m
       have hgl := hpi.ml
       obtain ⟨eb, eo, rfl, heb, hcc⟩ := HD.out.node hp
       have hc := hcc 7 (by omega)
       have hc : w.cell? ⟨eb, eo + q * 9 + 7, none⟩ = some p.mv := hc
       rw [eg] at hc
       have hco := (hbo.cell (p := ⟨eb, eo + q * 9 + 7, none⟩) (by simpa using heb)).trans hc
       have HC := Lib.hid hc
       have HGR := Lib.hid hgr
       have hebo : eb < wo.heap.size := Nat.lt_of_lt_of_le heb hbo.size
       obtain ⟨gn, hgn⟩ : ∃ gn, gn = p.ms.length := ⟨_, rfl⟩
       rw [← hgn] at hgl hco HC HGR
       clear hcc hp hpi hgr hc eg
       go_wp2
       go_loopw [8] (fun j wr => ∃ k : Nat, k ≤ gn ∧ j = .int .i64 k ∧ Below w.heap.size w wr ∧ Bk wr w.heap.size 32 #[.slice (some ⟨eb, eo, none⟩) ns.length nc, .slice MA ms.length mc, .slice PA pn pc, .slice TA tn tc, .slice EA en ec]) (fun j _ => gn - (intOf j).toNat)
       case atStart => exact ⟨0, by omega, rfl, hbo, kso⟩
       case round =>
        clear hbo kso s0 s1 s2 s3 s4 hco hebo
        obtain ⟨k, hk, rfl, hbr, ksr⟩ := hrel
        obtain ⟨s0, s1, s2, s3, s4⟩ := bk5 ksr
        have hco := (hbr.cell (p := ⟨eb, eo + q * 9 + 7, none⟩) (by simpa using heb)).trans HC.out
        have hebo : eb < wr.heap.size := Nat.lt_of_lt_of_le heb hbr.size
        by_cases hkl : k < gn
        ·have e4 : (k : Int) < gn := by omega
         obtain ⟨gb, go_, y, rfl, hgb, -, hyc⟩ := strs_at HGR.out hkl
         have hF : ∀ W, (Below w.heap.size w W ∧ Bk W w.heap.size 32 #[.slice (some ⟨eb, eo, none⟩) ns.length nc, .slice MA ms.length mc, .slice PA pn pc, .slice TA tn tc, .slice EA en ec]) → W.cell? ⟨w.heap.size, 0, none⟩ = some (.slice (some ⟨eb, eo, none⟩) ns.length nc) ∧ W.cell? ⟨w.heap.size, 1, none⟩ = some (.slice MA ms.length mc) ∧ W.cell? ⟨w.heap.size, 2, none⟩ = some (.slice PA pn pc) ∧ W.cell? ⟨w.heap.size, 3, none⟩ = some (.slice TA tn tc) ∧ W.cell? ⟨w.heap.size, 4, none⟩ = some (.slice EA en ec) ∧ W.cell? ⟨eb, eo + q * 9 + 7, none⟩ = some (.slice (some ⟨gb, go_, none⟩) gn cg) ∧ W.cell? ⟨gb, go_ + k, none⟩ = some (.string y) := fun W h => ⟨h.2.cell 0, h.2.cell 1, h.2.cell 2, h.2.cell 3, h.2.cell 4, (h.1.cell (by simpa using heb)).trans HC.out, (h.1.cell (by simpa using hgb)).trans hyc⟩
         have HF := Lib.hid hF
         clear hF hyc
         go_upto_region 23 with fail
         clear s0 s1 s2 s3 s4 hco
         refine wp_normal ?_
         refine wp_region_held_drew (S := fun W => Below w.heap.size w W ∧ Bk W w.heap.size 32 #[.slice (some ⟨eb, eo, none⟩) ns.length nc, .slice MA ms.length mc, .slice PA pn pc, .slice TA tn tc, .slice EA en ec]) (by kernel_rfl) ⟨hbr.drew, ksr.drew⟩ (fun hHeld => ?_)
         (refine tkH 0 ?_; refine tkH 1 ?_; refine tkH 2 ?_; refine tkH 3 ?_; refine tkH 4 ?_; refine tkH 5 ?_; refine tkH 6 ?_; refine tkH 7 ?_; refine tkH 8 ?_; refine tkH 9 ?_; refine tkH 10 ?_)
         refine nxH 11 (fun K hK => ?_)
         go_simp
         go_at_call 98
         refine (HFM.out y _ hHeld.1).mono ?_
         rintro e w5 ⟨x, rfl, hx1, hx2, hb5⟩
         have hb05 := hHeld.1.trans (hb5.mono hHeld.1.size)
         refine hK.out _ _ ⟨hb05, hHeld.2.ext hb5⟩ (fun hHeld => ?_)
         clear hK K; (try simp only [Act.put, List.setIfInBounds_toArray, List.set_cons_zero, List.set_cons_succ])
         (refine tkH 12 ?_)
         refine wpAnyH_done (by kernel_rfl) ?_ _
         by_cases hx : x < 0
         ·go_wp2
          go_ret
          exact ⟨⟨_, rfl⟩, hHeld.1⟩
         ·go_wp2
          go_roundw
          case rel => exact ⟨k + 1, by omega, by go_num, hHeld.1, hHeld.2⟩
          case measure => simp [intOf]; omega
        ·obtain rfl : k = gn := by omega
         go_wp2
         go_roundw
         case rel => exact ⟨q + 1, by omega, by go_num, hbr, ksr⟩
         case measure => simp [intOf]; omega
      ·obtain rfl : q = ns.length := by omega
       have hbs := hbo
       have kss := kso
       clear hbo kso
       go_wp2
       go_loopw [9] (fun j wr => ∃ q : Nat, q ≤ ms.length ∧ j = .int .i64 q ∧ Below w.heap.size w wr ∧ Bk wr w.heap.size 32 #[.slice NA ns.length nc, .slice MA ms.length mc, .slice PA pn pc, .slice TA tn tc, .slice EA en ec]) (fun j _ => ms.length - (intOf j).toNat)
       case atStart => exact ⟨0, by omega, rfl, hbs, kss⟩
       case round =>
        clear hbs kss
        obtain ⟨q, hq, rfl, hbo, kso⟩ := hrel
        rename World => wo
        obtain ⟨s0, s1, s2, s3, s4⟩ := bk5 kso
        by_cases hlt : q < ms.length
        ·have e3 : (q : Int) < ms.length := by omega
         obtain ⟨p, hp⟩ : ∃ p, ms[q]? = some p := ⟨_, List.getElem?_eq_getElem hlt⟩
         have hpi := HD.out.mi p (List.mem_of_getElem? hp)
         obtain ⟨Ag, cg, eg, -, -, -, hgr⟩ := own_form hpi.b
         have hgl := hpi.bl
         obtain ⟨eb, eo, rfl, heb, hcc⟩ := HD.out.mark hp
         have hc := hcc 3 (by omega)
         have hc : w.cell? ⟨eb, eo + q * 4 + 3, none⟩ = some p.bv := hc
         rw [eg] at hc
         have hco := (hbo.cell (p := ⟨eb, eo + q * 4 + 3, none⟩) (by simpa using heb)).trans hc
         have HC := Lib.hid hc
         have HGR := Lib.hid hgr
         have hebo : eb < wo.heap.size := Nat.lt_of_lt_of_le heb hbo.size
         obtain ⟨gn, hgn⟩ : ∃ gn, gn = p.bs.length := ⟨_, rfl⟩
         rw [← hgn] at hgl hco HC HGR
         clear hcc hp hpi hgr hc eg
         go_wp2
         go_loopw [10] (fun j wr => ∃ k : Nat, k ≤ gn ∧ j = .int .i64 k ∧ Below w.heap.size w wr ∧ Bk wr w.heap.size 32 #[.slice NA ns.length nc, .slice (some ⟨eb, eo, none⟩) ms.length mc, .slice PA pn pc, .slice TA tn tc, .slice EA en ec]) (fun j _ => gn - (intOf j).toNat)
         case atStart => exact ⟨0, by omega, rfl, hbo, kso⟩
         case round =>
          clear hbo kso s0 s1 s2 s3 s4 hco hebo
          obtain ⟨k, hk, rfl, hbr, ksr⟩ := hrel
          obtain ⟨s0, s1, s2, s3, s4⟩ := bk5 ksr
          have hco := (hbr.cell (p := ⟨eb, eo + q * 4 + 3, none⟩) (by simpa using heb)).trans HC.out
          have hebo : eb < wr.heap.size := Nat.lt_of_lt_of_le heb hbr.size
          by_cases hkl : k < gn
          ·have e4 : (k : Int) < gn := by omega
           obtain ⟨gb, go_, y, rfl, hgb, -, hyc⟩ := strs_at HGR.out hkl
           have hF : ∀ W, (Below w.heap.size w W ∧ Bk W w.heap.size 32 #[.slice NA ns.length nc, .slice (some ⟨eb, eo, none⟩) ms.length mc, .slice PA pn pc, .slice TA tn tc, .slice EA en ec]) → W.cell? ⟨w.heap.size, 0, none⟩ = some (.slice NA ns.length nc) ∧ W.cell? ⟨w.heap.size, 1, none⟩ = some (.slice (some ⟨eb, eo, none⟩) ms.length mc) ∧ W.cell? ⟨w.heap.size, 2, none⟩ = some (.slice PA pn pc) ∧ W.cell? ⟨w.heap.size, 3, none⟩ = some (.slice TA tn tc) ∧ W.cell? ⟨w.heap.size, 4, none⟩ = some (.slice EA en ec) ∧ W.cell? ⟨eb, eo + q * 4 + 3, none⟩ = some (.slice (some ⟨gb, go_, none⟩) gn cg) ∧ W.cell? ⟨gb, go_ + k, none⟩ = some (.string y) := fun W h => ⟨h.2.cell 0, h.2.cell 1, h.2.cell 2, h.2.cell 3, h.2.cell 4, (h.1.cell (by simpa using heb)).trans HC.out, (h.1.cell (by simpa using hgb)).trans hyc⟩
           have HF := Lib.hid hF
           clear hF hyc
           go_upto_region 31 with fail
           clear s0 s1 s2 s3 s4 hco
           refine wp_normal ?_
           refine wp_region_held_drew (S := fun W => Below w.heap.size w W ∧ Bk W w.heap.size 32 #[.slice NA ns.length nc, .slice (some ⟨eb, eo, none⟩) ms.length mc, .slice PA pn pc, .slice TA tn tc, .slice EA en ec]) (by kernel_rfl) ⟨hbr.drew, ksr.drew⟩ (fun hHeld => ?_)
           (refine tkH 0 ?_; refine tkH 1 ?_; refine tkH 2 ?_; refine tkH 3 ?_; refine tkH 4 ?_; refine tkH 5 ?_; refine tkH 6 ?_; refine tkH 7 ?_; refine tkH 8 ?_; refine tkH 9 ?_; refine tkH 10 ?_)
           refine nxH 11 (fun K hK => ?_)
           go_simp
           go_at_call 98
           refine (HFM.out y _ hHeld.1).mono ?_
           rintro e w5 ⟨x, rfl, hx1, hx2, hb5⟩
           have hb05 := hHeld.1.trans (hb5.mono hHeld.1.size)
           refine hK.out _ _ ⟨hb05, hHeld.2.ext hb5⟩ (fun hHeld => ?_)
           clear hK K; (try simp only [Act.put, List.setIfInBounds_toArray, List.set_cons_zero, List.set_cons_succ])
           (refine tkH 12 ?_)
           refine wpAnyH_done (by kernel_rfl) ?_ _
           by_cases hx : x < 0
           ·go_wp2
            go_ret
            exact ⟨⟨_, rfl⟩, hHeld.1⟩
           ·go_wp2
            go_roundw
            case rel => exact ⟨k + 1, by omega, by go_num, hHeld.1, hHeld.2⟩
            case measure => simp [intOf]; omega
          ·obtain rfl : k = gn := by omega
           go_wp2
           go_roundw
           case rel => exact ⟨q + 1, by omega, by go_num, hbr, ksr⟩
           case measure => simp [intOf]; omega
        ·obtain rfl : q = ms.length := by omega
         have hbs := hbo
         have kss := kso
         clear hbo kso
         go_wp2
         go_ret
         exact ⟨⟨_, rfl⟩, hbs⟩
end
theorem bk8 {w : World} {b : Nat} {t : TypeId} {x0 x1 x2 x3 x4 x5 x6 x7 : Value} (k : Bk w b t #[x0, x1, x2, x3, x4, x5, x6, x7]) : w.cell? ⟨b, 0, none⟩ = some x0 ∧ w.cell? ⟨b, 1, none⟩ = some x1 ∧ w.cell? ⟨b, 2, none⟩ = some x2 ∧ w.cell? ⟨b, 3, none⟩ = some x3 ∧ w.cell? ⟨b, 4, none⟩ = some x4 ∧ w.cell? ⟨b, 5, none⟩ = some x5 ∧ w.cell? ⟨b, 6, none⟩ = some x6 ∧ w.cell? ⟨b, 7, none⟩ = some x7 :=
 ⟨k.cell 0, k.cell 1, k.cell 2, k.cell 3, k.cell 4, k.cell 5, k.cell 6, k.cell 7⟩
theorem mk_at {w : World} {b k : Nat} {t : TypeId} {a0 a1 a2 a3 a4 a5 a6 a7 : Int} (h : Bk w b t #[.int .u16 a0, .int .u16 a1, .int .u16 a2, .int .u16 a3, .int .u16 a4, .int .u16 a5, .int .u16 a6, .int .u16 a7]) (hk : k ≤ 7) : ∃ x : Int, w.cell? ⟨b, k, none⟩ = some (.int .u16 x) := by
 obtain ⟨h0, h1, h2, h3, h4, h5, h6, h7⟩ := bk8 h
 rcases (show k = 0 ∨ k = 1 ∨ k = 2 ∨ k = 3 ∨ k = 4 ∨ k = 5 ∨ k = 6 ∨ k = 7 by omega) with rfl | rfl | rfl | rfl | rfl | rfl | rfl | rfl
 ·exact ⟨_, h0⟩
 ·exact ⟨_, h1⟩
 ·exact ⟨_, h2⟩
 ·exact ⟨_, h3⟩
 ·exact ⟨_, h4⟩
 ·exact ⟨_, h5⟩
 ·exact ⟨_, h6⟩
 ·exact ⟨_, h7⟩
def Val12 (mark : Int) (w : World) (e : Ending) (w' : World) : Prop := ∃ v : Int, e = .returned (.int .i64 v) ∧ (mark < 0 ∨ 7 < mark → v = -1) ∧ Below w.heap.size w w'
def May12 (mark : Int) (n : Nat) (w : World) (e : Ending) (w' : World) : Prop := ∃ b : Bool, e = .returned (.bool b) ∧ (b = true → 0 ≤ mark ∧ mark < n) ∧ Below w.heap.size w w'
theorem value12_any (a0 a1 a2 a3 a4 a5 a6 a7 mark : Int) (w : World) : Calls Tryz.prog 159 #[.agg #[.int .u16 a0, .int .u16 a1, .int .u16 a2, .int .u16 a3, .int .u16 a4, .int .u16 a5, .int .u16 a6, .int .u16 a7], .int .i64 mark] w (Val12 mark w) := by
 by_cases h : 0 ≤ mark ∧ mark ≤ 7
 ·obtain ⟨k, rfl⟩ : ∃ k : Nat, mark = (k : Int) := ⟨mark.toNat, by omega⟩
  obtain ⟨h1, h2⟩ := h
  go_enter Tryz.func159, Tryz.ntmps159
  go_upto_region 1 with fail
  have km := Bk.new w 124 #[.int .u16 a0, .int .u16 a1, .int .u16 a2, .int .u16 a3, .int .u16 a4, .int .u16 a5, .int .u16 a6, .int .u16 a7]
  have hb0 : Below w.heap.size w (w.alloc (.cells #[.int .u16 a0, .int .u16 a1, .int .u16 a2, .int .u16 a3, .int .u16 a4, .int .u16 a5, .int .u16 a6, .int .u16 a7] 124)) := belowA
  obtain ⟨x, hx⟩ := mk_at km (show k ≤ 7 by omega)
  generalize w.alloc (.cells #[.int .u16 a0, .int .u16 a1, .int .u16 a2, .int .u16 a3, .int .u16 a4, .int .u16 a5, .int .u16 a6, .int .u16 a7] 124) = w0 at *
  clear km
  go_wp2
  go_ret
  exact ⟨_, rfl, by omega, hb0⟩
 ·have h4 : mark < 0 ∨ (¬ mark < 0 ∧ 7 < mark) := by omega
  clear h
  rcases h4 with h | ⟨h1, h⟩
  all_goals
   go_enter Tryz.func159, Tryz.ntmps159
   go_wp2
   go_ret
   exact ⟨_, rfl, fun _ => rfl, belowA⟩
section
variable (base : Nat) (nv mv : Value) (ns : List Nd) (ms : List Mr) (PA TA EA : Option Addr) (pn pc tn tc en ec : Nat) (w : World)
theorem may12_any (mark val : Int) (hD : DeclIn w base nv mv ns ms) : Calls Tryz.prog 110 #[.agg #[nv, mv, .slice PA pn pc, .slice TA tn tc, .slice EA en ec], .int .i64 mark, .int .i64 val] w (May12 mark ms.length w) := by
 obtain ⟨NA, nc, rfl, -, -, -, -⟩ := own_form hD.n
 obtain ⟨MA, mc, rfl, -, -, -, -⟩ := own_form hD.m
 have hml := hD.ml
 by_cases hin : 0 ≤ mark ∧ mark < ms.length ∧ 0 ≤ val
 ·obtain ⟨h1, h2, h3⟩ := hin
  obtain ⟨x, rfl⟩ : ∃ x : Nat, mark = (x : Int) := ⟨mark.toNat, by omega⟩
  obtain ⟨p, hp⟩ : ∃ p, ms[x]? = some p := ⟨_, List.getElem?_eq_getElem (by omega)⟩
  obtain ⟨mb, mo, rfl, hmb, hpc⟩ := hD.mark hp
  have c1 : w.cell? ⟨mb, mo + x * 4 + 1, none⟩ = some (.int .i64 p.val) := hpc 1 (by omega)
  generalize p.val = pv at *
  clear hpc hp hD
  go_enter Tryz.func110, Tryz.ntmps110
  go_wp2
  all_goals go_ret
  all_goals exact ⟨_, rfl, fun _ => ⟨h1, h2⟩, belowA⟩
 ·have h4 : mark < 0 ∨ (¬ mark < 0 ∧ (ms.length : Int) ≤ mark) ∨ (¬ mark < 0 ∧ mark < ms.length ∧ val < 0) := by omega
  clear hin hD
  rcases h4 with h | ⟨h1, h⟩ | ⟨h1, h2, h⟩
  all_goals
   go_enter Tryz.func110, Tryz.ntmps110
   go_wp2
   all_goals go_ret
   all_goals exact ⟨_, rfl, fun h => by simp at h, belowA⟩
end
end Go.Proofs.YtmacfoebfpljoaaGreat
