/- group: Touches -/
import Derived.Test.YtjenokeeokghgaaStH
import Derived.Test.YtjenokeeokghgaaStF
namespace Go.Proofs.Ytjenokeeokghgaa
open Go.RowKit

def meets (r s : Sp) : Bool := decide (r.a ≤ s.b ∧ s.a ≤ r.b)
set_option maxHeartbeats 1000000 in
theorem tc_any (ra rb sa sb : Int) (b : Nat) (w : World) (hb : b < w.heap.size) (hc0 : w.cell? ⟨b, 0, none⟩ = some (.int .i64 ra)) (hc1 : w.cell? ⟨b, 1, none⟩ = some (.int .i64 rb)) :
    Calls Try.prog 22 #[.agg #[.int .i64 sa, .int .i64 sb], .pointer (some ⟨b, 0, none⟩)] w fun e w' => e = .returned (.bool (meets ⟨ra, rb⟩ ⟨sa, sb⟩)) ∧ Below w.heap.size w w' := by
  go_enter Try.func22, Try.ntmps22
  go_wp2
  all_goals go_ret
  all_goals exact ⟨ret_bool (by rw [Bool.eq_iff_iff]; simp [meets]; try omega), by repeat (first | with_reducible exact Below.refl _ _ | with_reducible assumption | (with_reducible refine below_drewN ?_ _) | (with_reducible refine Below.drew ?_) | (with_reducible refine Below.alloc ?_ ?_ _; rotate_left; focus (first | with_reducible assumption | omega | (simp; done) | (simp; omega))) | (with_reducible refine Below.setCell ?_ ?_ _; rotate_left; focus (first | with_reducible assumption | omega | (simp; done) | (simp; omega))))⟩

theorem any_take {α : Type} {p : α → Bool} {l : List α} {k : Nat} {x : α} (h : l[k]? = some x) : (l.take (k + 1)).any p = ((l.take k).any p || p x) := by
  rw [List.take_add_one, h]; simp
theorem any_at {α : Type} {p : α → Bool} {l : List α} {k : Nat} {x : α} (h : l[k]? = some x) (hp : p x = true) : l.any p = true := List.any_eq_true.2 ⟨x, List.mem_of_getElem? h, hp⟩

set_option maxRecDepth 100000 in
set_option maxHeartbeats 2000000 in
theorem index_any (A : Option Addr) (n c : Nat) (L : List Sp) (ra rb : Int) (b : Nat) (w : World) (hn : n ≤ maxLen) (hrd : Rd w w.heap.size 2 A n (sps L)) (hb : b < w.heap.size) (hc0 : w.cell? ⟨b, 0, none⟩ = some (.int .i64 ra)) (hc1 : w.cell? ⟨b, 1, none⟩ = some (.int .i64 rb)) :
    Calls Try.prog 38 #[.slice A n c, .func (.func 22) #[] #[.pointer (some ⟨b, 0, none⟩)]] w fun e w' => ∃ r : Int, e = .returned (.int .i64 r) ∧ decide (0 ≤ r) = L.any (meets ⟨ra, rb⟩) ∧ Below w.heap.size w w' := by
  have hl := hrd.slen
  unfold maxLen at hn
  have htc := fun W sa sb (hb' : Below w.heap.size w W) => calls_on hb' (tc_any ra rb sa sb b W (Nat.lt_of_lt_of_le hb hb'.size) ((hb'.cell (p := ⟨b, 0, none⟩) hb).trans hc0) ((hb'.cell (p := ⟨b, 1, none⟩) hb).trans hc1))
  have HTC := Lib.hid htc
  have HL := Lib.hid hl
  clear htc hc0 hc1 hl
  go_enter Try.func38, Try.ntmps38
  go_wp2
  go_loopw [8] (fun j wr => ∃ k : Nat, k ≤ n ∧ j = .int .i64 k ∧ Hid ((L.take k).any (meets ⟨ra, rb⟩) = false) ∧ Below w.heap.size w wr) (fun j _ => n - (intOf j).toNat)
  case atStart => exact ⟨0, by omega, rfl, Lib.hid (by simp), Below.refl _ _⟩
  case round =>
    obtain ⟨k, hk, rfl, hI, hbr⟩ := hrel
    by_cases hkn : k < n
    · obtain ⟨s, hx⟩ : ∃ s, L[k]? = some s := ⟨_, List.getElem?_eq_getElem (by have := HL.out; omega)⟩
      obtain ⟨bb, o, rfl, hbb, hcc⟩ := (hrd.below hbr).el Sp.cells (fun _ => rfl) HL.out hx
      obtain ⟨sa, sb⟩ := s
      have d0 := hcc 0 (by omega)
      have d1 := hcc 1 (by omega)
      dsimp [Sp.cells] at d0 d1
      have e3 : (k : Int) < n := by omega
      have hat := any_take (p := meets ⟨ra, rb⟩) hx
      have hcall := HTC.out wr sa sb hbr
      have HX := Lib.hid hx
      have HAT := Lib.hid hat
      clear hat hx hcc
      cases hm : meets ⟨ra, rb⟩ ⟨sa, sb⟩ with
      | true =>
        rw [hm] at hcall
        have HC := Lib.hid hcall
        have HN : Hid (L.any (meets ⟨ra, rb⟩) = true) := Lib.hid (any_at HX.out hm)
        clear hcall hm HAT HX hI
        go_wp2_with (go_at_call 22; (refine HC.out.mono ?_); rintro e w1 ⟨rfl, hb1, hz1, _⟩)
        go_ret
        exact ⟨_, rfl, by rw [HN.out]; simp, hb1⟩
      | false =>
        rw [hm] at hcall
        have HC := Lib.hid hcall
        have HN : Hid ((L.take (k + 1)).any (meets ⟨ra, rb⟩) = false) := Lib.hid (by rw [HAT.out, hI.out, hm]; rfl)
        clear hcall hm HAT HX hI
        go_wp2_with (go_at_call 22; (refine HC.out.mono ?_); rintro e w1 ⟨rfl, hb1, hz1, _⟩)
        go_roundw
        case rel => exact ⟨k + 1, by omega, by go_num, HN, hb1⟩
        case measure => simp [intOf]; omega
    · obtain rfl : n = k := by omega
      have hall := hI.out
      rw [List.take_of_length_le (by rw [HL.out]; omega)] at hall
      have HN := Lib.hid hall
      clear hall hI
      go_wp2
      go_ret
      exact ⟨_, rfl, by rw [HN.out]; simp, hbr⟩

set_option maxHeartbeats 1000000 in
theorem contains_any (A : Option Addr) (n c : Nat) (L : List Sp) (ra rb : Int) (b : Nat) (w : World) (hn : n ≤ maxLen) (hrd : Rd w w.heap.size 2 A n (sps L)) (hb : b < w.heap.size) (hc0 : w.cell? ⟨b, 0, none⟩ = some (.int .i64 ra)) (hc1 : w.cell? ⟨b, 1, none⟩ = some (.int .i64 rb)) :
    Calls Try.prog 21 #[.slice A n c, .func (.func 22) #[] #[.pointer (some ⟨b, 0, none⟩)]] w fun e w' => e = .returned (.bool (L.any (meets ⟨ra, rb⟩))) ∧ Below w.heap.size w w' := by
  have hi := index_any A n c L ra rb b w hn hrd hb hc0 hc1
  have HI := Lib.hid hi
  clear hi hrd hc0 hc1
  go_enter Try.func21, Try.ntmps21
  go_wp2_with (go_at_call 38; (refine HI.out.mono ?_); rintro e w1 ⟨r, rfl, hr, hb1⟩)
  go_ret
  exact ⟨ret_bool (by first | exact hr | simp), hb1⟩

theorem reach_len (k f t g h i m v : Int) (n n' : Nat) : (reachS k f t g h i m v n n').length ≤ 2 := by
  unfold reachS
  split
  · simp
  · rw [List.length_map]
    unfold mapB mapS
    split
    · split
      · simp
      · split <;> simp
    · simp
/-- does a step touch spans? -/
def touchB (k f t g h i m v : Int) (n n' : Nat) (L : List Sp) : Bool := shB k f t g h i m v n n' && (reachS k f t g h i m v n n').any fun r => L.any (meets r)
set_option maxRecDepth 100000 in
set_option maxHeartbeats 2000000 in
theorem touches_any (k f t g h i m v : Int) (A A' : Option Addr) (n n' c c' : Nat) (sl : List Tok) (st : List Mk) (B : Option Addr) (l cl : Nat) (L : List Sp) (w : World) (hn : n ≤ maxLen) (hn' : n' ≤ maxLen) (hl : l ≤ maxLen) (hrd : Rd w w.heap.size 12 A n (toks sl)) (hrd' : Rd w w.heap.size 8 A' n' (mks st)) (hrs : Rd w w.heap.size 2 B l (sps L)) :
    Calls Try.prog 8 #[.agg #[.int .i64 k, .int .i64 f, .int .i64 t, .int .i64 g, .int .i64 h, .int .i64 i, .int .i64 m, .int .i64 v, .slice A n c, .slice A' n' c'], .slice B l cl] w fun e w' => e = .returned (.bool (touchB k f t g h i m v n n' L)) ∧ Below w.heap.size w w' := by
  have hs := fun W (hb : Below w.heap.size w W) => calls_on hb (shape_any k f t g h i m v A A' n n' c c' W sl st hn hn' ((hrd.below hb).more hb.size) ((hrd'.below hb).more hb.size))
  have hr := fun W (hb : Below w.heap.size w W) => reach_any k f t g h i m v A A' n n' c c' W sl st hn hn' ((hrd.below hb).more hb.size) ((hrd'.below hb).more hb.size)
  have hct := fun W ra rb b (hb : Below w.heap.size w W) h1 h2 h3 => calls_on hb (contains_any B l cl L ra rb b W hl ((hrs.below hb).more hb.size) h1 h2 h3)
  have HR := Lib.hid hr
  have HCT := Lib.hid hct
  unfold touchB
  clear hr hct hrs hrd hrd' hn hn' hl
  cases hsh : shB k f t g h i m v n n' with
  | false =>
    rw [hsh] at hs
    have HS := Lib.hid hs
    clear hs hsh
    rw [Bool.false_and]
    go_enter Try.func8, Try.ntmps8
    go_wp2_with (go_at_call 19; (refine (HS.out _ (by repeat (first | with_reducible exact Below.refl _ _ | with_reducible assumption | (with_reducible refine below_drewN ?_ _) | (with_reducible refine Below.drew ?_) | (with_reducible refine Below.alloc ?_ ?_ _; rotate_left; focus (first | with_reducible assumption | omega | (simp; done) | (simp; omega))) | (with_reducible refine Below.setCell ?_ ?_ _; rotate_left; focus (first | with_reducible assumption | omega | (simp; done) | (simp; omega)))))).mono ?_); rintro e w1 ⟨rfl, hb1, hz1, hx1⟩)
    go_ret
    exact ⟨rfl, hb1⟩
  | true =>
    rw [hsh] at hs
    have HS := Lib.hid hs
    clear hs hsh
    rw [Bool.true_and]
    have hQl := reach_len k f t g h i m v n n'
    generalize reachS k f t g h i m v n n' = Q at *
    go_enter Try.func8, Try.ntmps8
    go_wp2_with (first
      | (go_at_call 19; (refine (HS.out _ (by repeat (first | with_reducible exact Below.refl _ _ | with_reducible assumption | (with_reducible refine below_drewN ?_ _) | (with_reducible refine Below.drew ?_) | (with_reducible refine Below.alloc ?_ ?_ _; rotate_left; focus (first | with_reducible assumption | omega | (simp; done) | (simp; omega))) | (with_reducible refine Below.setCell ?_ ?_ _; rotate_left; focus (first | with_reducible assumption | omega | (simp; done) | (simp; omega)))))).mono ?_); rintro e w1 ⟨rfl, hb1, hz1, hx1⟩; have kb := (Bk.new w 28 #[.int .i64 k, .int .i64 f, .int .i64 t, .int .i64 g, .int .i64 h, .int .i64 i, .int .i64 m, .int .i64 v, .slice A n c, .slice A' n' c']).ext hx1; have lb := def_lt' kb; have d0 := kb.cell 0; have d1 := kb.cell 1; have d2 := kb.cell 2; have d3 := kb.cell 3; have d4 := kb.cell 4; have d5 := kb.cell 5; have d6 := kb.cell 6; have d7 := kb.cell 7; have d8 := kb.cell 8; have d9 := kb.cell 9; dsimp at d0 d1 d2 d3 d4 d5 d6 d7 d8 d9)
      | (go_at_call 20; (refine (HR.out _ hb1).mono ?_); rintro e w2 ⟨A2, c2, rfl, h1, h2⟩))
    have hb2 : Below w.heap.size w w2 := hb1.trans (h2.mono hz1)
    have hz2 := hb2.size
    clear d0 d1 d2 d3 d4 d5 d6 d7 d8 d9 hx1 h2 hb1 HR HS
    go_loopw [13] (fun j wr => ∃ q : Nat, q ≤ Q.length ∧ j = .int .i64 q ∧ Hid ((Q.take q).any (fun r => L.any (meets r)) = false) ∧ Below w2.heap.size w2 wr) (fun j _ => Q.length - (intOf j).toNat)
    case atStart => exact ⟨0, by omega, rfl, Lib.hid (by simp), Below.refl _ _⟩
    case round =>
      obtain ⟨q, hq, rfl, hI, hbr⟩ := hrel
      by_cases hqn : q < Q.length
      · obtain ⟨r, hx⟩ : ∃ r, Q[q]? = some r := ⟨_, List.getElem?_eq_getElem hqn⟩
        obtain ⟨bb, o, rfl, hbb, hcc⟩ := (h1.below hbr).el Sp.cells (fun _ => rfl) rfl hx
        obtain ⟨ra, rb⟩ := r
        have d0 := hcc 0 (by omega)
        have d1 := hcc 1 (by omega)
        dsimp [Sp.cells] at d0 d1
        have e3 : (q : Int) < Q.length := by omega
        have hat := any_take (p := fun r => L.any (meets r)) hx
        have hbw : Below w.heap.size w wr := hb2.trans (hbr.mono hz2)
        have kbx := Bk.new wr 37 #[.int .i64 ra, .int .i64 rb]
        have hcall := HCT.out (wr.alloc (.cells #[.int .i64 ra, .int .i64 rb] 37)) ra rb wr.heap.size (hbw.alloc hbw.size _) (by simp) (kbx.cell 0) (kbx.cell 1)
        have HX := Lib.hid hx
        have HAT := Lib.hid hat
        clear hat hx hcc kbx
        cases hm : L.any (meets ⟨ra, rb⟩) with
        | true =>
          rw [hm] at hcall
          have HC := Lib.hid hcall
          have HN : Hid (Q.any (fun r => L.any (meets r)) = true) := Lib.hid (any_at (p := fun r => L.any (meets r)) HX.out hm)
          clear hcall hm HAT HX hI
          go_wp2_with (go_at_call 21; (refine HC.out.mono ?_); rintro e w3 ⟨rfl, hb3, hz3, _⟩)
          go_ret
          exact ⟨ret_bool HN.out.symm, hb3⟩
        | false =>
          rw [hm] at hcall
          have HC := Lib.hid hcall
          have HN : Hid ((Q.take (q + 1)).any (fun r => L.any (meets r)) = false) := Lib.hid (by rw [HAT.out, hI.out, hm]; rfl)
          clear hcall hm HAT HX hI
          go_wp2_with (go_at_call 21; (refine HC.out.mono ?_); rintro e w3 ⟨rfl, hb3, hz3, hx3⟩)
          go_roundw
          case rel => exact ⟨q + 1, by omega, by go_num, HN, (hbr.alloc hbr.size _).trans (hx3.mono (by have := hbr.size; simp; omega))⟩
          case measure => simp [intOf]; omega
      · obtain rfl : Q.length = q := by omega
        have hall := hI.out
        rw [List.take_length] at hall
        have HN := Lib.hid hall
        clear hall hI
        go_wp2
        go_ret
        exact ⟨ret_bool HN.out.symm, hb2.trans (hbr.mono hz2)⟩
end Go.Proofs.Ytjenokeeokghgaa
