/- group: Fresh whole; the document's Fresh -/
import Derived.Test.YtjenokeeokghgaaGrC
namespace Go.Proofs.Ytjenokeeokghgaa
open Go.RowKit

/-- does an edit begin a new group? T: whether the step touches the spans -/
def freshB (o : Bool) (ct tm dl : Int) (T : Bool) : Bool := !o || decide (tm < ct) || decide (max dl 0 < tm - ct) || !T
def freshI (o : Bool) (ct tm dl : Int) (T : Bool) : Nat := if o = false then 0 else if tm < ct then 1 else if max dl 0 < tm - ct then 2 else if T = false then 3 else 4
theorem fresh_idx (o : Bool) (ct tm dl : Int) (T : Bool) : decide (freshI o ct tm dl T < 4) = freshB o ct tm dl T := by
  unfold freshI freshB
  cases o
  · rfl
  by_cases h1 : tm < ct
  · simp [h1]
  by_cases h2 : max dl 0 < tm - ct
  · rw [if_neg (by simp), if_neg h1, if_pos h2, decide_eq_false h1, decide_eq_true h2]; rfl
  rw [if_neg (by simp), if_neg h1, if_neg h2, decide_eq_false h1, decide_eq_false h2]
  cases T <;> rfl
theorem freshI_le (o : Bool) (ct tm dl : Int) (T : Bool) : freshI o ct tm dl T ≤ 4 := by
  unfold freshI
  split
  · omega
  split
  · omega
  split
  · omega
  split <;> omega
theorem freshI_0 (o : Bool) (ct tm dl : Int) (T : Bool) : decide (0 = freshI o ct tm dl T) = !o := by
  unfold freshI
  cases o
  · rfl
  rw [if_neg (by simp)]
  refine decide_eq_false ?_
  split
  · omega
  split
  · omega
  split <;> omega
theorem freshI_o {o : Bool} {ct tm dl : Int} {T : Bool} (h : 1 ≤ freshI o ct tm dl T) : o = true := by
  cases o
  · exact absurd h (by unfold freshI; rw [if_pos rfl]; omega)
  · rfl
theorem freshI_1 (ct tm dl : Int) (T : Bool) : decide (1 = freshI true ct tm dl T) = decide (tm < ct) := by
  unfold freshI
  rw [if_neg (by simp), decide_eq_decide]
  split
  · rename_i h; exact ⟨fun _ => h, fun _ => rfl⟩
  · rename_i h
    refine ⟨fun e => ?_, fun e => absurd e h⟩
    exfalso
    revert e
    split
    · omega
    · split <;> omega
theorem freshI_c {ct tm dl : Int} {T : Bool} (h : 2 ≤ freshI true ct tm dl T) : ¬ tm < ct := fun h1 => by
  unfold freshI at h
  rw [if_neg (by simp), if_pos h1] at h
  omega
theorem freshI_2 {ct tm : Int} (dl : Int) (T : Bool) (h1 : ¬ tm < ct) : decide (2 = freshI true ct tm dl T) = decide (max dl 0 < tm - ct) := by
  unfold freshI
  rw [if_neg (by simp), if_neg h1, decide_eq_decide]
  split
  · rename_i h; exact ⟨fun _ => h, fun _ => rfl⟩
  · rename_i h
    refine ⟨fun e => ?_, fun e => absurd e h⟩
    exfalso
    revert e
    split <;> omega
theorem freshI_d {ct tm dl : Int} {T : Bool} (h1 : ¬ tm < ct) (h : 3 ≤ freshI true ct tm dl T) : ¬ max dl 0 < tm - ct := fun h2 => by
  unfold freshI at h
  rw [if_neg (by simp), if_neg h1, if_pos h2] at h
  omega
theorem freshI_3 {ct tm dl : Int} (T : Bool) (h1 : ¬ tm < ct) (h2 : ¬ max dl 0 < tm - ct) : decide (3 = freshI true ct tm dl T) = !T := by
  unfold freshI
  rw [if_neg (by simp), if_neg h1, if_neg h2]
  cases T <;> rfl

set_option maxRecDepth 100000 in
set_option maxHeartbeats 4000000 in
theorem fresh_any (k f t g h i m v : Int) (A A' : Option Addr) (n n' c c' : Nat) (sl : List Tok) (st : List Mk) (B : Option Addr) (l cl : Nat) (L : List Sp) (o : Bool) (ct tm dl : Int) (w : World) (hn : n ≤ maxLen) (hn' : n' ≤ maxLen) (hl : l ≤ maxLen) (hrd : Rd w w.heap.size 12 A n (toks sl)) (hrd' : Rd w w.heap.size 8 A' n' (mks st)) (hrs : Rd w w.heap.size 2 B l (sps L))
    (hct : -9223372036854775808 ≤ ct ∧ ct ≤ 9223372036854775807) (htm : -9223372036854775808 ≤ tm ∧ tm ≤ 9223372036854775807) (hdl : -9223372036854775808 ≤ dl ∧ dl ≤ 9223372036854775807) :
    Calls Try.prog 10 #[.agg #[.bool o, .int .i64 ct, .slice B l cl], .int .i64 tm, .agg #[.int .i64 k, .int .i64 f, .int .i64 t, .int .i64 g, .int .i64 h, .int .i64 i, .int .i64 m, .int .i64 v, .slice A n c, .slice A' n' c'], .int .i64 dl] w fun e w' => e = .returned (.bool (freshB o ct tm dl (touchB k f t g h i m v n n' L))) ∧ Below w.heap.size w w' := by
  have hb5 : Below w.heap.size w (((((w.alloc (.cells #[.bool o, .int .i64 ct, .slice B l cl] 31)).alloc (.cells #[.int .i64 tm] 2)).alloc (.cells #[.int .i64 k, .int .i64 f, .int .i64 t, .int .i64 g, .int .i64 h, .int .i64 i, .int .i64 m, .int .i64 v, .slice A n c, .slice A' n' c'] 28)).alloc (.cells #[.int .i64 dl] 2)).alloc (.cells #[.func (.func 24) #[] #[.pointer (some ⟨w.heap.size, 0, none⟩)], .func (.func 25) #[] #[.pointer (some ⟨w.heap.size + 1, 0, none⟩), .pointer (some ⟨w.heap.size, 0, none⟩)], .func (.func 26) #[] #[.pointer (some ⟨w.heap.size + 1, 0, none⟩), .pointer (some ⟨w.heap.size, 0, none⟩), .pointer (some ⟨w.heap.size + 1 + 1 + 1, 0, none⟩)], .func (.func 27) #[] #[.pointer (some ⟨w.heap.size + 1 + 1, 0, none⟩), .pointer (some ⟨w.heap.size, 0, none⟩)]] 53)) := by repeat (first | with_reducible exact Below.refl _ _ | with_reducible assumption | (with_reducible refine below_drewN ?_ _) | (with_reducible refine Below.drew ?_) | (with_reducible refine Below.alloc ?_ ?_ _; rotate_left; focus (first | with_reducible assumption | omega | (simp; done) | (simp; omega))) | (with_reducible refine Below.setCell ?_ ?_ _; rotate_left; focus (first | with_reducible assumption | omega | (simp; done) | (simp; omega))))
  have q0 : Bk (((((w.alloc (.cells #[.bool o, .int .i64 ct, .slice B l cl] 31)).alloc (.cells #[.int .i64 tm] 2)).alloc (.cells #[.int .i64 k, .int .i64 f, .int .i64 t, .int .i64 g, .int .i64 h, .int .i64 i, .int .i64 m, .int .i64 v, .slice A n c, .slice A' n' c'] 28)).alloc (.cells #[.int .i64 dl] 2)).alloc (.cells #[.func (.func 24) #[] #[.pointer (some ⟨w.heap.size, 0, none⟩)], .func (.func 25) #[] #[.pointer (some ⟨w.heap.size + 1, 0, none⟩), .pointer (some ⟨w.heap.size, 0, none⟩)], .func (.func 26) #[] #[.pointer (some ⟨w.heap.size + 1, 0, none⟩), .pointer (some ⟨w.heap.size, 0, none⟩), .pointer (some ⟨w.heap.size + 1 + 1 + 1, 0, none⟩)], .func (.func 27) #[] #[.pointer (some ⟨w.heap.size + 1 + 1, 0, none⟩), .pointer (some ⟨w.heap.size, 0, none⟩)]] 53)) w.heap.size 31 #[.bool o, .int .i64 ct, .slice B l cl] := ((((Bk.new w 31 _).alloc _).alloc _).alloc _).alloc _
  have q1 : Bk (((((w.alloc (.cells #[.bool o, .int .i64 ct, .slice B l cl] 31)).alloc (.cells #[.int .i64 tm] 2)).alloc (.cells #[.int .i64 k, .int .i64 f, .int .i64 t, .int .i64 g, .int .i64 h, .int .i64 i, .int .i64 m, .int .i64 v, .slice A n c, .slice A' n' c'] 28)).alloc (.cells #[.int .i64 dl] 2)).alloc (.cells #[.func (.func 24) #[] #[.pointer (some ⟨w.heap.size, 0, none⟩)], .func (.func 25) #[] #[.pointer (some ⟨w.heap.size + 1, 0, none⟩), .pointer (some ⟨w.heap.size, 0, none⟩)], .func (.func 26) #[] #[.pointer (some ⟨w.heap.size + 1, 0, none⟩), .pointer (some ⟨w.heap.size, 0, none⟩), .pointer (some ⟨w.heap.size + 1 + 1 + 1, 0, none⟩)], .func (.func 27) #[] #[.pointer (some ⟨w.heap.size + 1 + 1, 0, none⟩), .pointer (some ⟨w.heap.size, 0, none⟩)]] 53)) (w.heap.size + 1) 2 #[.int .i64 tm] := (((Bk.made 2 _ (by simp)).alloc _).alloc _).alloc _
  have q2 : Bk (((((w.alloc (.cells #[.bool o, .int .i64 ct, .slice B l cl] 31)).alloc (.cells #[.int .i64 tm] 2)).alloc (.cells #[.int .i64 k, .int .i64 f, .int .i64 t, .int .i64 g, .int .i64 h, .int .i64 i, .int .i64 m, .int .i64 v, .slice A n c, .slice A' n' c'] 28)).alloc (.cells #[.int .i64 dl] 2)).alloc (.cells #[.func (.func 24) #[] #[.pointer (some ⟨w.heap.size, 0, none⟩)], .func (.func 25) #[] #[.pointer (some ⟨w.heap.size + 1, 0, none⟩), .pointer (some ⟨w.heap.size, 0, none⟩)], .func (.func 26) #[] #[.pointer (some ⟨w.heap.size + 1, 0, none⟩), .pointer (some ⟨w.heap.size, 0, none⟩), .pointer (some ⟨w.heap.size + 1 + 1 + 1, 0, none⟩)], .func (.func 27) #[] #[.pointer (some ⟨w.heap.size + 1 + 1, 0, none⟩), .pointer (some ⟨w.heap.size, 0, none⟩)]] 53)) (w.heap.size + 1 + 1) 28 #[.int .i64 k, .int .i64 f, .int .i64 t, .int .i64 g, .int .i64 h, .int .i64 i, .int .i64 m, .int .i64 v, .slice A n c, .slice A' n' c'] := ((Bk.made 28 _ (by simp)).alloc _).alloc _
  have q3 : Bk (((((w.alloc (.cells #[.bool o, .int .i64 ct, .slice B l cl] 31)).alloc (.cells #[.int .i64 tm] 2)).alloc (.cells #[.int .i64 k, .int .i64 f, .int .i64 t, .int .i64 g, .int .i64 h, .int .i64 i, .int .i64 m, .int .i64 v, .slice A n c, .slice A' n' c'] 28)).alloc (.cells #[.int .i64 dl] 2)).alloc (.cells #[.func (.func 24) #[] #[.pointer (some ⟨w.heap.size, 0, none⟩)], .func (.func 25) #[] #[.pointer (some ⟨w.heap.size + 1, 0, none⟩), .pointer (some ⟨w.heap.size, 0, none⟩)], .func (.func 26) #[] #[.pointer (some ⟨w.heap.size + 1, 0, none⟩), .pointer (some ⟨w.heap.size, 0, none⟩), .pointer (some ⟨w.heap.size + 1 + 1 + 1, 0, none⟩)], .func (.func 27) #[] #[.pointer (some ⟨w.heap.size + 1 + 1, 0, none⟩), .pointer (some ⟨w.heap.size, 0, none⟩)]] 53)) (w.heap.size + 1 + 1 + 1) 2 #[.int .i64 dl] := (Bk.made 2 _ (by simp)).alloc _
  have q4 : Bk (((((w.alloc (.cells #[.bool o, .int .i64 ct, .slice B l cl] 31)).alloc (.cells #[.int .i64 tm] 2)).alloc (.cells #[.int .i64 k, .int .i64 f, .int .i64 t, .int .i64 g, .int .i64 h, .int .i64 i, .int .i64 m, .int .i64 v, .slice A n c, .slice A' n' c'] 28)).alloc (.cells #[.int .i64 dl] 2)).alloc (.cells #[.func (.func 24) #[] #[.pointer (some ⟨w.heap.size, 0, none⟩)], .func (.func 25) #[] #[.pointer (some ⟨w.heap.size + 1, 0, none⟩), .pointer (some ⟨w.heap.size, 0, none⟩)], .func (.func 26) #[] #[.pointer (some ⟨w.heap.size + 1, 0, none⟩), .pointer (some ⟨w.heap.size, 0, none⟩), .pointer (some ⟨w.heap.size + 1 + 1 + 1, 0, none⟩)], .func (.func 27) #[] #[.pointer (some ⟨w.heap.size + 1 + 1, 0, none⟩), .pointer (some ⟨w.heap.size, 0, none⟩)]] 53)) (w.heap.size + 1 + 1 + 1 + 1) 53 #[.func (.func 24) #[] #[.pointer (some ⟨w.heap.size, 0, none⟩)], .func (.func 25) #[] #[.pointer (some ⟨w.heap.size + 1, 0, none⟩), .pointer (some ⟨w.heap.size, 0, none⟩)], .func (.func 26) #[] #[.pointer (some ⟨w.heap.size + 1, 0, none⟩), .pointer (some ⟨w.heap.size, 0, none⟩), .pointer (some ⟨w.heap.size + 1 + 1 + 1, 0, none⟩)], .func (.func 27) #[] #[.pointer (some ⟨w.heap.size + 1 + 1, 0, none⟩), .pointer (some ⟨w.heap.size, 0, none⟩)]] := Bk.made 53 _ (by simp)
  have hc : Calls Try.prog 28 #[.slice (some ⟨w.heap.size + 1 + 1 + 1 + 1, 0, none⟩) 4 4, .func (.func 29) #[] #[]] (((((w.alloc (.cells #[.bool o, .int .i64 ct, .slice B l cl] 31)).alloc (.cells #[.int .i64 tm] 2)).alloc (.cells #[.int .i64 k, .int .i64 f, .int .i64 t, .int .i64 g, .int .i64 h, .int .i64 i, .int .i64 m, .int .i64 v, .slice A n c, .slice A' n' c'] 28)).alloc (.cells #[.int .i64 dl] 2)).alloc (.cells #[.func (.func 24) #[] #[.pointer (some ⟨w.heap.size, 0, none⟩)], .func (.func 25) #[] #[.pointer (some ⟨w.heap.size + 1, 0, none⟩), .pointer (some ⟨w.heap.size, 0, none⟩)], .func (.func 26) #[] #[.pointer (some ⟨w.heap.size + 1, 0, none⟩), .pointer (some ⟨w.heap.size, 0, none⟩), .pointer (some ⟨w.heap.size + 1 + 1 + 1, 0, none⟩)], .func (.func 27) #[] #[.pointer (some ⟨w.heap.size + 1 + 1, 0, none⟩), .pointer (some ⟨w.heap.size, 0, none⟩)]] 53)) fun e w' => e = .returned (.bool (freshB o ct tm dl (touchB k f t g h i m v n n' L))) ∧ Below (((((w.alloc (.cells #[.bool o, .int .i64 ct, .slice B l cl] 31)).alloc (.cells #[.int .i64 tm] 2)).alloc (.cells #[.int .i64 k, .int .i64 f, .int .i64 t, .int .i64 g, .int .i64 h, .int .i64 i, .int .i64 m, .int .i64 v, .slice A n c, .slice A' n' c'] 28)).alloc (.cells #[.int .i64 dl] 2)).alloc (.cells #[.func (.func 24) #[] #[.pointer (some ⟨w.heap.size, 0, none⟩)], .func (.func 25) #[] #[.pointer (some ⟨w.heap.size + 1, 0, none⟩), .pointer (some ⟨w.heap.size, 0, none⟩)], .func (.func 26) #[] #[.pointer (some ⟨w.heap.size + 1, 0, none⟩), .pointer (some ⟨w.heap.size, 0, none⟩), .pointer (some ⟨w.heap.size + 1 + 1 + 1, 0, none⟩)], .func (.func 27) #[] #[.pointer (some ⟨w.heap.size + 1 + 1, 0, none⟩), .pointer (some ⟨w.heap.size, 0, none⟩)]] 53)).heap.size (((((w.alloc (.cells #[.bool o, .int .i64 ct, .slice B l cl] 31)).alloc (.cells #[.int .i64 tm] 2)).alloc (.cells #[.int .i64 k, .int .i64 f, .int .i64 t, .int .i64 g, .int .i64 h, .int .i64 i, .int .i64 m, .int .i64 v, .slice A n c, .slice A' n' c'] 28)).alloc (.cells #[.int .i64 dl] 2)).alloc (.cells #[.func (.func 24) #[] #[.pointer (some ⟨w.heap.size, 0, none⟩)], .func (.func 25) #[] #[.pointer (some ⟨w.heap.size + 1, 0, none⟩), .pointer (some ⟨w.heap.size, 0, none⟩)], .func (.func 26) #[] #[.pointer (some ⟨w.heap.size + 1, 0, none⟩), .pointer (some ⟨w.heap.size, 0, none⟩), .pointer (some ⟨w.heap.size + 1 + 1 + 1, 0, none⟩)], .func (.func 27) #[] #[.pointer (some ⟨w.heap.size + 1 + 1, 0, none⟩), .pointer (some ⟨w.heap.size, 0, none⟩)]] 53)) w' := by
    rw [← fresh_idx]
    have hz := hb5.size
    have hrd5 := (hrd.below hb5)
    have hrd5' := (hrd'.below hb5)
    have hrs5 := (hrs.below hb5)
    generalize (((((w.alloc (.cells #[.bool o, .int .i64 ct, .slice B l cl] 31)).alloc (.cells #[.int .i64 tm] 2)).alloc (.cells #[.int .i64 k, .int .i64 f, .int .i64 t, .int .i64 g, .int .i64 h, .int .i64 i, .int .i64 m, .int .i64 v, .slice A n c, .slice A' n' c'] 28)).alloc (.cells #[.int .i64 dl] 2)).alloc (.cells #[.func (.func 24) #[] #[.pointer (some ⟨w.heap.size, 0, none⟩)], .func (.func 25) #[] #[.pointer (some ⟨w.heap.size + 1, 0, none⟩), .pointer (some ⟨w.heap.size, 0, none⟩)], .func (.func 26) #[] #[.pointer (some ⟨w.heap.size + 1, 0, none⟩), .pointer (some ⟨w.heap.size, 0, none⟩), .pointer (some ⟨w.heap.size + 1 + 1 + 1, 0, none⟩)], .func (.func 27) #[] #[.pointer (some ⟨w.heap.size + 1 + 1, 0, none⟩), .pointer (some ⟨w.heap.size, 0, none⟩)]] 53)) = W5 at *
    refine rcontains_any (fun q => if q = 0 then .func (.func 24) #[] #[.pointer (some ⟨w.heap.size, 0, none⟩)] else if q = 1 then .func (.func 25) #[] #[.pointer (some ⟨w.heap.size + 1, 0, none⟩), .pointer (some ⟨w.heap.size, 0, none⟩)] else if q = 2 then .func (.func 26) #[] #[.pointer (some ⟨w.heap.size + 1, 0, none⟩), .pointer (some ⟨w.heap.size, 0, none⟩), .pointer (some ⟨w.heap.size + 1 + 1 + 1, 0, none⟩)] else .func (.func 27) #[] #[.pointer (some ⟨w.heap.size + 1 + 1, 0, none⟩), .pointer (some ⟨w.heap.size, 0, none⟩)]) _ (freshI_le _ _ _ _ _) _ W5 (def_lt' q4) ?_ ?_ ?_
    · intro q hq
      rw [q4.cell q]
      match q, hq with
      | 0, _ => rfl
      | 1, _ => rfl
      | 2, _ => rfl
      | 3, _ => rfl
    · intro q hq
      match q, hq with
      | 0, _ => exact ⟨_, _, rfl⟩
      | 1, _ => exact ⟨_, _, rfl⟩
      | 2, _ => exact ⟨_, _, rfl⟩
      | 3, _ => exact ⟨_, _, rfl⟩
    · intro W q hb hq hqi
      have hzW := hb.size
      match q, hq with
      | 0, _ =>
        rw [freshI_0]
        exact calls_on hb (f5_1 _ _ W (fun W' hb' => calls_on hb' (fc1 o ct _ _ W' ((q0.ext hb).ext hb'))))
      | 1, _ =>
        have ho := freshI_o (Nat.le_trans (by omega) hqi)
        subst ho
        rw [freshI_1]
        exact calls_on hb (f5_2 _ _ _ W (fun W' hb' => calls_on hb' (fc2 true ct tm _ _ _ W' ((q0.ext hb).ext hb') ((q1.ext hb).ext hb'))))
      | 2, _ =>
        have ho := freshI_o (Nat.le_trans (by omega) hqi)
        subst ho
        have h1 := freshI_c (Nat.le_trans (by omega) hqi)
        rw [freshI_2 _ _ h1]
        exact calls_on hb (f5_3 _ _ _ _ W (fun W' hb' => calls_on hb' (fc3 true ct tm dl _ _ _ _ W' ((q0.ext hb).ext hb') ((q1.ext hb).ext hb') ((q3.ext hb).ext hb') hct htm hdl (by omega))))
      | 3, _ =>
        have ho := freshI_o (Nat.le_trans (by omega) hqi)
        subst ho
        have h1 := freshI_c (Nat.le_trans (by omega) hqi)
        have h2 := freshI_d h1 hqi
        rw [freshI_3 _ h1 h2]
        exact calls_on hb (f5_4 _ _ _ W (fun W' hb' => calls_on hb' (fc4 k f t g h i m v A A' n n' c c' sl st B l cl L true ct _ _ W' hn hn' hl (((hrd5.below (hb.mono hz)).more (Nat.le_trans hz hzW)).below hb' |>.more hb'.size) (((hrd5'.below (hb.mono hz)).more (Nat.le_trans hz hzW)).below hb' |>.more hb'.size) (((hrs5.below (hb.mono hz)).more (Nat.le_trans hz hzW)).below hb' |>.more hb'.size) ((q0.ext hb).ext hb') ((q2.ext hb).ext hb'))))
  have HC := Lib.hid hc
  clear hc hrd hrd' hrs q0 q1 q2 q3 q4
  go_enter Try.func10, Try.ntmps10
  go_wp2_with (go_at_call 28; refine HC.out.mono ?_; rintro e w1 ⟨rfl, hb1⟩)
  go_ret
  exact ⟨rfl, hb5.trans (hb1.mono hb5.size)⟩
end Go.Proofs.Ytjenokeeokghgaa
