/- step: the document's Map; group: reach -/
import Derived.Test.YtjenokeeokghgaaStG
import Derived.Test.YtjenokeeokghgaaP
namespace Go.Proofs.Ytjenokeeokghgaa
open Go.RowKit

theorem shB_spec {k f t g h i m v : Int} {n n' : Nat} (h0 : shB k f t g h i m v n n' = true) : (0 ≤ f ∧ f ≤ t ∧ t ≤ 1073741824) ∧ (k = 1 ∨ k = 2 ∨ k = 3 ∨ k = 4 ∨ k = 5) ∧ (k = 2 → f ≤ g ∧ g ≤ h ∧ h ≤ t ∧ 0 ≤ i ∧ i ≤ n ∧ n ≤ 20000) ∧ (k = 1 → n ≤ 20000) := by
  unfold shB at h0
  rw [Bool.and_eq_true] at h0
  obtain ⟨hbx, hs⟩ := h0
  refine ⟨by simpa [boxes] using hbx, ?_, ?_, ?_⟩
  · by_cases k1 : k = 1
    · exact .inl k1
    rw [if_neg k1] at hs
    by_cases k2 : k = 2
    · exact .inr (.inl k2)
    rw [if_neg k2] at hs
    by_cases k3 : k = 3 ∨ k = 4
    · omega
    rw [if_neg k3] at hs
    by_cases k5 : k = 5
    · omega
    rw [if_neg k5] at hs
    cases hs
  · intro k2
    rw [if_neg (by omega), if_pos k2] at hs
    have : f ≤ g ∧ g ≤ h ∧ h ≤ t ∧ 0 ≤ i ∧ i ≤ n ∧ n ≤ 20000 ∧ m = 0 ∧ v = 0 ∧ n' = 0 := by simpa [sh2] using hs
    omega
  · intro k1
    rw [if_pos k1] at hs
    have : g = 0 ∧ h = 0 ∧ i = 0 ∧ m = 0 ∧ v = 0 ∧ n' = 0 ∧ n ≤ 20000 := by simpa [sh1] using hs
    omega

set_option maxRecDepth 100000 in
set_option maxHeartbeats 2000000 in
theorem rmap_any (k f t g h i m v : Int) (A A' : Option Addr) (n n' c c' : Nat) (w : World) (hsh : shB k f t g h i m v n n' = true) :
    Calls Try.prog 23 #[.agg #[.int .i64 k, .int .i64 f, .int .i64 t, .int .i64 g, .int .i64 h, .int .i64 i, .int .i64 m, .int .i64 v, .slice A n c, .slice A' n' c']] w (Maps w (mapS k f t g h i n)) := by
  obtain ⟨⟨b0, b1, b2⟩, hk, h2, h1⟩ := shB_spec hsh
  have e0 : IntKind.i64.wrap (t - f) = t - f := IntWalk.i64_in _ (by omega)
  clear hsh
  rcases hk with rfl | rfl | hk
  · have e : mapS 1 f t g h i n = [⟨f, t - f, n⟩] := by unfold mapS; rw [if_pos (.inl rfl)]
    rw [e]
    clear e h1 h2 b0 b1 b2
    go_enter Try.func23, Try.ntmps23
    go_wp2
    go_ret
    exact ⟨_, _, rfl, rd_new _ #[.int .i64 f, .int .i64 (t - f), .int .i64 (n : Int)] 1 3 (by simp) rfl, by simp, by repeat (first | with_reducible exact Below.refl _ _ | with_reducible assumption | (with_reducible refine below_drewN ?_ _) | (with_reducible refine Below.drew ?_) | (with_reducible refine Below.alloc ?_ ?_ _; rotate_left; focus (first | with_reducible assumption | omega | (simp; done) | (simp; omega))) | (with_reducible refine Below.setCell ?_ ?_ _; rotate_left; focus (first | with_reducible assumption | omega | (simp; done) | (simp; omega))))⟩
  · obtain ⟨g1, g2, g3, g4, g5, g6⟩ := h2 rfl
    have e2 : IntKind.i64.wrap (g - f) = g - f := IntWalk.i64_in _ (by omega)
    have e3 : IntKind.i64.wrap (t - h) = t - h := IntWalk.i64_in _ (by omega)
    have e4 : IntKind.i64.wrap ((n : Int) - i) = n - i := IntWalk.i64_in _ (by omega)
    by_cases hgh : g = h
    · subst hgh
      have e : mapS 2 f t g g i n = [⟨f, t - f, n⟩] := by unfold mapS; rw [if_pos (.inr ⟨rfl, rfl⟩)]
      rw [e]
      clear e h1 h2 b0 b1 b2 g1 g2 g3 g4 g5 g6 e2 e3 e4
      go_enter Try.func23, Try.ntmps23
      go_wp2
      go_ret
      exact ⟨_, _, rfl, rd_new _ #[.int .i64 f, .int .i64 (t - f), .int .i64 (n : Int)] 1 3 (by simp) rfl, by simp, by repeat (first | with_reducible exact Below.refl _ _ | with_reducible assumption | (with_reducible refine below_drewN ?_ _) | (with_reducible refine Below.drew ?_) | (with_reducible refine Below.alloc ?_ ?_ _; rotate_left; focus (first | with_reducible assumption | omega | (simp; done) | (simp; omega))) | (with_reducible refine Below.setCell ?_ ?_ _; rotate_left; focus (first | with_reducible assumption | omega | (simp; done) | (simp; omega))))⟩
    · have e : mapS 2 f t g h i n = [⟨f, g - f, i⟩, ⟨h, t - h, n - i⟩] := by unfold mapS; rw [if_neg (by omega), if_pos rfl]
      rw [e]
      have e5 : g < h := by omega
      clear e h1 h2 b0 b1 b2 g1 g2 g3 g4 g5 g6 hgh
      go_enter Try.func23, Try.ntmps23
      go_wp2
      go_ret
      exact ⟨_, _, rfl, rd_new _ #[.int .i64 f, .int .i64 (g - f), .int .i64 i, .int .i64 h, .int .i64 (t - h), .int .i64 ((n : Int) - i)] 2 3 (by simp) rfl, by simp, by repeat (first | with_reducible exact Below.refl _ _ | with_reducible assumption | (with_reducible refine below_drewN ?_ _) | (with_reducible refine Below.drew ?_) | (with_reducible refine Below.alloc ?_ ?_ _; rotate_left; focus (first | with_reducible assumption | omega | (simp; done) | (simp; omega))) | (with_reducible refine Below.setCell ?_ ?_ _; rotate_left; focus (first | with_reducible assumption | omega | (simp; done) | (simp; omega))))⟩
  · have e : mapS k f t g h i n = [] := by unfold mapS; rw [if_neg (by omega), if_neg (by omega)]
    rw [e]
    have e1 : (k == 2) = false := by simp; omega
    have e2 : ¬ k ≤ 2 := by omega
    clear e h1 h2 b0 b1 b2 hk
    go_enter Try.func23, Try.ntmps23
    go_wp2
    go_ret
    exact maps_nil _ _ (by repeat (first | with_reducible exact Below.refl _ _ | with_reducible assumption | (with_reducible refine below_drewN ?_ _) | (with_reducible refine Below.drew ?_) | (with_reducible refine Below.alloc ?_ ?_ _; rotate_left; focus (first | with_reducible assumption | omega | (simp; done) | (simp; omega))) | (with_reducible refine Below.setCell ?_ ?_ _; rotate_left; focus (first | with_reducible assumption | omega | (simp; done) | (simp; omega)))))

/-- a span -/
structure Sp where
  (a b : Int)
deriving Inhabited, DecidableEq
def Sp.cells (x : Sp) : List Value := [.int .i64 x.a, .int .i64 x.b]
def sps (l : List Sp) : List Value := l.flatMap Sp.cells
theorem sps_len (l : List Sp) : (sps l).length = l.length * 2 := by
  induction l with
  | nil => rfl
  | cons r l ih => simp only [sps, List.flatMap_cons, List.length_append] at *; rw [ih]; simp [Sp.cells]; omega
theorem Rd.slen {w : World} {B : Nat} {A : Option Addr} {n : Nat} {l : List Sp} (h : Rd w B 2 A n (sps l)) : l.length = n := by
  have := h.1
  rw [sps_len] at this
  omega
theorem sps_append (a b : List Sp) : sps (a ++ b) = sps a ++ sps b := by simp [sps]
theorem info_span : (Try.prog.info? 37).map (fun i => (i.zero, i.size, i.bytes)) = some (some (.agg #[.int .i64 0, .int .i64 0]), 2, 16) := by kernel_rfl
def spOf (r : Rg) : Sp := ⟨r.at_, r.at_ + r.old⟩
/-- where a step touches -/
def reachS (k f t g h i m v : Int) (n n' : Nat) : List Sp := if mapB k f t g h i m v n n' = [] then [⟨f, t⟩] else (mapB k f t g h i m v n n').map spOf
theorem mapB_fits {k f t g h i m v : Int} {n n' : Nat} {r : Rg} (hr : r ∈ mapB k f t g h i m v n n') : 0 ≤ r.at_ ∧ 0 ≤ r.old ∧ r.at_ + r.old ≤ 1073741824 := by
  unfold mapB at hr
  split at hr
  · rename_i hsh
    obtain ⟨⟨b0, b1, b2⟩, hk, h2, h1⟩ := shB_spec hsh
    unfold mapS at hr
    split at hr
    · simp at hr; subst hr; simp only; omega
    · split at hr
      · rename_i k2
        have := h2 k2
        simp at hr
        rcases hr with rfl | rfl
        · simp only; omega
        · simp only; omega
      · cases hr
  · cases hr

set_option maxRecDepth 100000 in
set_option maxHeartbeats 2000000 in
theorem reach_any (k f t g h i m v : Int) (A A' : Option Addr) (n n' c c' : Nat) (w : World) (sl : List Tok) (st : List Mk) (hn : n ≤ maxLen) (hn' : n' ≤ maxLen) (hrd : Rd w w.heap.size 12 A n (toks sl)) (hrd' : Rd w w.heap.size 8 A' n' (mks st)) :
    Calls Try.prog 20 #[.agg #[.int .i64 k, .int .i64 f, .int .i64 t, .int .i64 g, .int .i64 h, .int .i64 i, .int .i64 m, .int .i64 v, .slice A n c, .slice A' n' c']] w fun e w' => ∃ A2 c2, e = .returned (.slice A2 (reachS k f t g h i m v n n').length c2) ∧ Rd w' w'.heap.size 2 A2 (reachS k f t g h i m v n n').length (sps (reachS k f t g h i m v n n')) ∧ Below w.heap.size w w' := by
  have hm := fun W (hb : Below w.heap.size w W) => map_any k f t g h i m v A A' n n' c c' W sl st hn hn' ((hrd.below hb).more hb.size) ((hrd'.below hb).more hb.size)
  have hfit : ∀ r ∈ mapB k f t g h i m v n n', _ := fun r hr => mapB_fits hr
  have hlen : (mapB k f t g h i m v n n').length ≤ 2 := by
    unfold mapB mapS
    split
    · split
      · simp
      · split <;> simp
    · simp
  unfold reachS
  generalize mapB k f t g h i m v n n' = L at *
  have HM := Lib.hid hm
  have HF := Lib.hid hfit
  clear hm hfit hrd hrd'
  by_cases hL : L = []
  · subst hL
    rw [if_pos rfl]
    clear HF
    go_enter Try.func20, Try.ntmps20
    go_wp2_with (go_at_call 37; (refine (HM.out _ (by repeat (first | with_reducible exact Below.refl _ _ | with_reducible assumption | (with_reducible refine below_drewN ?_ _) | (with_reducible refine Below.drew ?_) | (with_reducible refine Below.alloc ?_ ?_ _; rotate_left; focus (first | with_reducible assumption | omega | (simp; done) | (simp; omega))) | (with_reducible refine Below.setCell ?_ ?_ _; rotate_left; focus (first | with_reducible assumption | omega | (simp; done) | (simp; omega)))))).mono ?_); rintro e w1 ⟨A2, c2, rfl, h1, h2, h3⟩; have kb := (Bk.new w 28 #[.int .i64 k, .int .i64 f, .int .i64 t, .int .i64 g, .int .i64 h, .int .i64 i, .int .i64 m, .int .i64 v, .slice A n c, .slice A' n' c']).ext h3; have lb := def_lt' kb; have d1 := kb.cell 1; have d2 := kb.cell 2; dsimp at d1 d2)
    go_ret
    exact ⟨_, _, rfl, rd_new _ #[.int .i64 f, .int .i64 t] 1 2 (by simp) rfl, Below.trans (by repeat (first | with_reducible exact Below.refl _ _ | with_reducible assumption | (with_reducible refine below_drewN ?_ _) | (with_reducible refine Below.drew ?_) | (with_reducible refine Below.alloc ?_ ?_ _; rotate_left; focus (first | with_reducible assumption | omega | (simp; done) | (simp; omega))) | (with_reducible refine Below.setCell ?_ ?_ _; rotate_left; focus (first | with_reducible assumption | omega | (simp; done) | (simp; omega))))) ((h3.alloc h3.size _).mono (by simp))⟩
  · rw [if_neg hL]
    have e1 : ((L.length : Nat) : Int) ≠ 0 := by
      have : L.length ≠ 0 := fun h => hL (List.eq_nil_of_length_eq_zero h)
      omega
    have e2 : (((L.length : Nat) : Int) == 0) = false := by simpa using e1
    clear hL e1
    go_enter Try.func20, Try.ntmps20
    go_wp2_with (go_at_call 37; (refine (HM.out _ (by repeat (first | with_reducible exact Below.refl _ _ | with_reducible assumption | (with_reducible refine below_drewN ?_ _) | (with_reducible refine Below.drew ?_) | (with_reducible refine Below.alloc ?_ ?_ _; rotate_left; focus (first | with_reducible assumption | omega | (simp; done) | (simp; omega))) | (with_reducible refine Below.setCell ?_ ?_ _; rotate_left; focus (first | with_reducible assumption | omega | (simp; done) | (simp; omega)))))).mono ?_); rintro e w1 ⟨A2, c2, rfl, h1, h2, h3⟩)
    have hz1 : w.heap.size ≤ w1.heap.size := by have := h3.size; simp at this; omega
    have hb3 : Below w.heap.size w w1 := Below.trans (by repeat (first | with_reducible exact Below.refl _ _ | with_reducible assumption | (with_reducible refine below_drewN ?_ _) | (with_reducible refine Below.drew ?_) | (with_reducible refine Below.alloc ?_ ?_ _; rotate_left; focus (first | with_reducible assumption | omega | (simp; done) | (simp; omega))) | (with_reducible refine Below.setCell ?_ ?_ _; rotate_left; focus (first | with_reducible assumption | omega | (simp; done) | (simp; omega))))) (h3.mono (by simp))
    have hll := h1.rlen
    clear h3
    go_loopw [4, 20] (fun v j wr => ∃ q : Nat, q ≤ L.length ∧ j = .int .i64 q ∧ Below w1.heap.size w1 wr ∧ wr.ownsRow w1.heap.size 37 2 v q (sps ((L.take q).map spOf))) (fun _ j _ => L.length - (intOf j).toNat)
    case atStart => exact ⟨0, by omega, rfl, Below.refl _ _, World.ownsRow_nil _ _ _ _⟩
    case round =>
      obtain ⟨q, hq, rfl, hbr, hown⟩ := hrel
      by_cases hqn : q < L.length
      · obtain ⟨b, o, rfl, hbB, _⟩ := h1.2 (by omega)
        obtain ⟨r, hx⟩ : ∃ r, L[q]? = some r := ⟨_, List.getElem?_eq_getElem hqn⟩
        obtain ⟨hc0, hc1, hc2, hb⟩ := (h1.below hbr).rg hx
        obtain ⟨f1, f2, f3⟩ := HF.out r (List.mem_of_getElem? hx)
        have hst : (L.take (q + 1)).map spOf = (L.take q).map spOf ++ [spOf r] := by rw [List.take_add_one, hx]; simp
        have HS := Lib.hid hst
        have e3 : (q : Int) < L.length := by omega
        have e4 : IntKind.i64.wrap (r.at_ + r.old) = r.at_ + r.old := IntWalk.i64_in _ (by omega)
        have hbw := hbr.size
        have hownb := hown.alloc (.cells #[.int .i64 r.at_, .int .i64 r.old, .int .i64 r.new] 51)
        have hbb : w1.heap.size ≤ (wr.alloc (.cells #[.int .i64 r.at_, .int .i64 r.old, .int .i64 r.new] 51)).heap.size := by simp; omega
        clear hx hst
        go_wp2_with (at_builtin; ((refine app_one Try.underlying22 info_span rfl (by decide) (wr.alloc (.cells #[.int .i64 r.at_, .int .i64 r.old, .int .i64 r.new] 51)) w1.heap.size _ q _ hownb (by unfold maxLen; omega) (by omega) hbb _ rfl (by simp [Value.oneCell']) rfl _ _ rfl rfl (by simp; rfl) ?_); intro g4 cap4 w4 hown4 hgr4 hat4 hlt4))
        have hb4 := below_own (hbr.alloc hbw (.cells #[.int .i64 r.at_, .int .i64 r.old, .int .i64 r.new] 51)) hownb hgr4 hbb (Nat.le_refl _)
        go_roundw
        case rel =>
          refine ⟨q + 1, by omega, by go_num, hb4, ?_⟩
          rw [HS.out, sps_append]
          exact hown4
        case measure => simp [intOf]; omega
      · obtain rfl : L.length = q := by omega
        obtain ⟨A4, c4, rfl, _, _, _, hr4⟩ := own_form hown
        rw [List.take_length] at hr4
        go_wp2
        go_ret
        exact ⟨A4, ⟨c4, rfl⟩, hr4, hb3.trans (hbr.mono hz1)⟩
end Go.Proofs.Ytjenokeeokghgaa
