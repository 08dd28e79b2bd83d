/- chain: which chains are few; Theirs -/
import Derived.Test.YtmacfoebfpljoaaCraw
import Derived.Test.YtmacfoebfpljoaaP
namespace Go.Proofs.Ytmacfoebfpljoaa
open Go.RowKit

set_option maxHeartbeats 400000 in
theorem few25_any (k f t g h i m v : Int) (A A' : Option Addr) (n n' c c' : Nat) (w : World) :
    Calls Try.prog 32 #[.agg #[.int .i64 k, .int .i64 f, .int .i64 t, .int .i64 g, .int .i64 h, .int .i64 i, .int .i64 m, .int .i64 v, .slice A n c, .slice A' n' c']] w fun e w' => e = .returned (.bool (decide (n ≤ 60 ∧ n' ≤ 150))) ∧ Below w.heap.size w w' := by
  go_enter Try.func32, Try.ntmps32
  go_wp2
  all_goals go_ret
  all_goals exact ⟨ret_bool (by rw [Bool.eq_iff_iff]; simp; try omega), by repeat (first | with_reducible exact Below.refl _ _ | with_reducible assumption | (with_reducible refine below_drewN ?_ _) | (with_reducible refine Below.drew ?_) | (with_reducible refine Below.alloc ?_ ?_ _; rotate_left; focus (first | with_reducible assumption | omega | (simp; done) | (simp; omega))) | (with_reducible refine Below.setCell ?_ ?_ _; rotate_left; focus (first | with_reducible assumption | omega | (simp; done) | (simp; omega))))⟩

/-- a Boolean comes out; if it is true, so is P -/
def SaysIf (P : Prop) (w : World) (e : Ending) (w' : World) : Prop := ∃ b : Bool, e = .returned (.bool b) ∧ (b = true → P) ∧ Below w.heap.size w w'
def SmallS (L : List StH) : Prop := ∀ s ∈ L, s.n ≤ 60 ∧ s.n' ≤ 150
theorem small_take {L : List StH} {q : Nat} {s : StH} (h : SmallS (L.take q)) (hx : L[q]? = some s) (h1 : s.n ≤ 60 ∧ s.n' ≤ 150) : SmallS (L.take (q + 1)) := by
  intro y hy
  rw [List.take_add_one, hx] at hy
  rcases List.mem_append.1 hy with hy | hy
  · exact h y hy
  · simp at hy; subst hy; exact h1

set_option maxRecDepth 100000 in
set_option maxHeartbeats 4000000 in
theorem few27_any (A : Option Addr) (n c : Nat) (L : List StH) (w : World) (h : StsRaw w w.heap.size A n L) (hn : n ≤ maxLen) :
    Calls Try.prog 19 #[.slice A n c] w (SaysIf (n ≤ 20 ∧ SmallS L) w) := by
  have hlen := h.len
  have H := Lib.hid h
  have HLEN := Lib.hid hlen
  clear h hlen
  unfold maxLen at hn
  go_enter Try.func19, Try.ntmps19
  go_wp2
  go_loopw [3] (fun j wr => ∃ q : Nat, q ≤ n ∧ q ≤ 20 ∧ j = .int .i64 q ∧ Hid (SmallS (L.take q)) ∧ Below w.heap.size w wr) (fun j _ => n - (intOf j).toNat)
  case atStart => exact ⟨0, by omega, by omega, rfl, Lib.hid (fun s hs => by simp at hs), Below.refl _ _⟩
  case round =>
    obtain ⟨q, hq, hq20, rfl, hsm, hbr⟩ := hrel
    by_cases hqn : q < n
    · have e1 : (q : Int) < n := by omega
      by_cases h20 : q < 20
      · have e2 : (q : Int) < 20 := by omega
        obtain ⟨s, hx⟩ : ∃ s, L[q]? = some s := ⟨_, List.getElem?_eq_getElem (by have := HLEN.out; omega)⟩
        obtain ⟨sin, b, o, rfl, hb, hcc⟩ := StsRaw.at_ (H.out.below hbr) hx
        obtain ⟨sA, sn, sc, sA', sn', sc', ⟨xk, xf, xt, xg, xh, xi, xm, xv, xsl, xst⟩⟩ := s
        have c0 := hcc 0 (by omega); have c1 := hcc 1 (by omega); have c2 := hcc 2 (by omega); have c3 := hcc 3 (by omega); have c4 := hcc 4 (by omega); have c5 := hcc 5 (by omega); have c6 := hcc 6 (by omega); have c7 := hcc 7 (by omega); have c8 := hcc 8 (by omega); have c9 := hcc 9 (by omega)
        dsimp [StH.cells] at c0 c1 c2 c3 c4 c5 c6 c7 c8 c9
        have hfw := few25_any xk xf xt xg xh xi xm xv sA sA' sn sn' sc sc' wr
        have HX := Lib.hid hx
        clear hx hcc sin
        cases hfe : decide (sn ≤ 60 ∧ sn' ≤ 150) with
        | false =>
          rw [hfe] at hfw
          have HFW := Lib.hid hfw
          clear hfw hfe
          go_wp2_with (go_at_call 32; (refine HFW.out.mono ?_); rintro e w1 ⟨rfl, hb1⟩)
          go_ret
          exact ⟨false, rfl, fun h => (by cases h), hbr.trans (hb1.mono hbr.size)⟩
        | true =>
          rw [hfe] at hfw
          have HFW := Lib.hid hfw
          have hfe := Lib.hid (of_decide_eq_true hfe)
          clear hfw
          go_wp2_with (go_at_call 32; (refine HFW.out.mono ?_); rintro e w1 ⟨rfl, hb1⟩)
          go_roundw
          case rel => exact ⟨q + 1, by omega, by omega, by go_num, Lib.hid (small_take hsm.out HX.out hfe.out), hbr.trans (hb1.mono hbr.size)⟩
          case measure => simp [intOf]; omega
      · obtain rfl : q = 20 := by omega
        have e3 : ¬ (n : Int) ≤ 20 := by omega
        go_wp2
        go_ret
        exact ⟨false, rfl, fun h => (by cases h), hbr⟩
    · obtain rfl : q = n := by omega
      have e3 : (q : Int) ≤ 20 := by omega
      go_wp2
      go_ret
      refine ⟨true, rfl, fun _ => ⟨by omega, ?_⟩, hbr⟩
      have := hsm.out
      rwa [List.take_of_length_le (by rw [HLEN.out]; omega)] at this

def tot (L : List GrH) : Nat := (L.map GrH.n).sum
theorem tot_snoc {L : List GrH} {q : Nat} {g : GrH} (hx : L[q]? = some g) : tot (L.take (q + 1)) = tot (L.take q) + g.n := by
  unfold tot
  rw [List.take_add_one, hx]
  simp
theorem smallg_take {L : List GrH} {q : Nat} {s : GrH} (h : Small (L.take q)) (hx : L[q]? = some s) (h1 : s.n ≤ 20) (h2 : SmallS s.L) : Small (L.take (q + 1)) := by
  intro y hy
  rw [List.take_add_one, hx] at hy
  rcases List.mem_append.1 hy with hy | hy
  · exact h y hy
  · simp at hy; subst hy; exact ⟨h1, h2⟩

set_option maxRecDepth 100000 in
set_option maxHeartbeats 4000000 in
theorem few35_any (A : Option Addr) (n c : Nat) (L : List GrH) (w : World) (h : GrsRaw w w.heap.size A n L) (hn : n ≤ maxLen) :
    Calls Try.prog 6 #[.slice A n c] w (SaysIf (n ≤ 8 ∧ tot L ≤ 24 ∧ Small L) w) := by
  have hlen := h.len
  have H := Lib.hid h
  have HLEN := Lib.hid hlen
  clear h hlen
  unfold maxLen at hn
  go_enter Try.func6, Try.ntmps6
  go_wp2
  go_loopw [3, 4] (fun t j wr => ∃ q s : Nat, q ≤ n ∧ q ≤ 8 ∧ s ≤ 160 ∧ s ≤ 20 * q ∧ j = .int .i64 q ∧ t = .int .i64 s ∧ Hid (s = tot (L.take q)) ∧ Hid (Small (L.take q)) ∧ Below w.heap.size w wr) (fun _ j _ => n - (intOf j).toNat)
  case atStart => exact ⟨0, 0, by omega, by omega, by omega, by omega, rfl, rfl, Lib.hid (by simp [tot]), Lib.hid (fun s hs => by simp at hs), Below.refl _ _⟩
  case round =>
    obtain ⟨q, s, hq, hq8, hs1, hs2, rfl, rfl, hst, hsm, hbr⟩ := hrel
    by_cases hqn : q < n
    · have e1 : (q : Int) < n := by omega
      by_cases h8 : q < 8
      · have e2 : (q : Int) < 8 := by omega
        obtain ⟨g, hx⟩ : ∃ g, L[q]? = some g := ⟨_, List.getElem?_eq_getElem (by have := HLEN.out; omega)⟩
        obtain ⟨gin, b, o, rfl, hb, hcc⟩ := GrsRaw.at_ (H.out.below hbr) hx
        have gin0 := H.out.2 g (List.mem_of_getElem? hx)
        obtain ⟨gA, gn, gc, gL, ⟨pk, pa, pb⟩, ⟨bk, ba, bb⟩, glost⟩ := g
        have c0 := hcc 0 (by omega)
        dsimp [GrH.cells] at c0
        have hfw := fun W (hb : Below w.heap.size w W) => few27_any gA gn gc gL W ((gin0.sts.below hb).more hb.size) gin0.n
        have hgn : gn ≤ maxLen := gin0.n
        unfold maxLen at hgn
        have HX := Lib.hid hx
        have HFW := Lib.hid hfw
        clear hx hcc gin gin0 hfw
        go_wp2_with (go_at_call 19; fail)
        refine (HFW.out _ hbr).mono ?_
        rintro e w1 ⟨b1, rfl, hyes, hb1⟩
        have hb1' := hbr.trans (hb1.mono hbr.size)
        have d0 : w1.cell? ⟨b, o + q * 8, none⟩ = some (.slice gA gn gc) := (hb1.cell (by have := hbr.size; simp; omega)).trans c0
        cases b1 with
        | false =>
          clear hyes
          go_wp2
          go_ret
          exact ⟨false, rfl, fun h => (by cases h), hb1'⟩
        | true =>
          obtain ⟨y1, y2⟩ := hyes rfl
          have HY := Lib.hid y2
          clear y2 hyes
          have e4 : IntKind.i64.wrap ((s : Int) + gn) = ((s + gn : Nat) : Int) := by rw [IntWalk.i64_in _ (by omega)]; omega
          go_wp2
          go_roundw
          case rel => exact ⟨q + 1, s + gn, by omega, by omega, by omega, by omega, by go_num, by go_num, Lib.hid (by rw [tot_snoc HX.out, ← hst.out]), Lib.hid (smallg_take hsm.out HX.out y1 HY.out), hb1'⟩
          case measure => simp [intOf]; omega
      · obtain rfl : q = 8 := by omega
        have e3 : ¬ (n : Int) ≤ 8 := by omega
        go_wp2
        go_ret
        exact ⟨false, rfl, fun h => (by cases h), hbr⟩
    · obtain rfl : q = n := by omega
      have e3 : (q : Int) ≤ 8 := by omega
      have hsL : Hid (s = tot L) := Lib.hid (by have := hst.out; rwa [List.take_of_length_le (by rw [HLEN.out]; omega)] at this)
      have hsmL : Hid (Small L) := Lib.hid (by have := hsm.out; rwa [List.take_of_length_le (by rw [HLEN.out]; omega)] at this)
      go_wp2
      go_ret
      refine ⟨_, rfl, fun h => ⟨by omega, ?_, hsmL.out⟩, hbr⟩
      have := hsL.out
      have := of_decide_eq_true h
      omega

theorem info_group : (Try.prog.info? 36).map (fun i => (i.zero, i.size, i.bytes)) = some (some (.agg #[.slice none 0 0, .int .i64 0, .int .i64 0, .int .i64 0, .int .i64 0, .int .i64 0, .int .i64 0, .int .i64 0]), 8, 80) := by kernel_rfl
/-- the eight cells of a group -/
abbrev grp (v : Value) (pk pa pb bk ba bb lost : Int) : Array Value := #[v, .int .i64 pk, .int .i64 pa, .int .i64 pb, .int .i64 bk, .int .i64 ba, .int .i64 bb, .int .i64 lost]
theorem grs_snoc {L : List GrH} {q : Nat} {g : GrH} (hx : L[q]? = some g) : grs (L.take (q + 1)) = grs (L.take q) ++ g.cells := by
  rw [List.take_add_one, hx]
  simp [grs]

set_option maxRecDepth 100000 in
set_option maxHeartbeats 4000000 in
theorem theirs_any (A : Option Addr) (n c : Nat) (L : List GrH) (w : World) (h : GrsRaw w w.heap.size A n L) (hn : n ≤ 1000) :
    Calls Try.prog 9 #[.slice A n c] w fun e w' => ∃ v, e = .returned v ∧ w'.ownsRow w.heap.size 36 8 v n (grs L) ∧ Below w.heap.size w w' := by
  have hlen := h.len
  have H := Lib.hid h
  have HLEN := Lib.hid hlen
  clear h hlen
  go_enter Try.func9, Try.ntmps9
  go_wp2
  go_loopw [3, 4] (fun v j wr => ∃ q : Nat, q ≤ n ∧ j = .int .i64 q ∧ Below w.heap.size w wr ∧ wr.ownsRow w.heap.size 36 8 v q (grs (L.take q))) (fun _ j _ => n - (intOf j).toNat)
  case atStart => exact ⟨0, by omega, rfl, Below.refl _ _, World.ownsRow_nil _ _ _ _⟩
  case round =>
    obtain ⟨q, hq, rfl, hbr, hown⟩ := hrel
    by_cases hqn : q < n
    · obtain ⟨g, hx⟩ : ∃ g, L[q]? = some g := ⟨_, List.getElem?_eq_getElem (by have := HLEN.out; omega)⟩
      obtain ⟨gin, b, o, rfl, hb, hcc⟩ := GrsRaw.at_ H.out hx
      have hgs := grs_snoc hx
      have HGS := Lib.hid hgs
      have HB0 := hbr.size
      have hF : ∀ w', Below w.heap.size w w' → w'.cell? ⟨b, o + q * 8, none⟩ = some (.slice g.A g.n g.c) ∧ w'.cell? ⟨b, o + q * 8 + 1, none⟩ = some (.int .i64 g.pin.k) ∧ w'.cell? ⟨b, o + q * 8 + 2, none⟩ = some (.int .i64 g.pin.a) ∧ w'.cell? ⟨b, o + q * 8 + 3, none⟩ = some (.int .i64 g.pin.b) ∧ w'.cell? ⟨b, o + q * 8 + 4, none⟩ = some (.int .i64 g.back.k) ∧ w'.cell? ⟨b, o + q * 8 + 5, none⟩ = some (.int .i64 g.back.a) ∧ w'.cell? ⟨b, o + q * 8 + 6, none⟩ = some (.int .i64 g.back.b) ∧ w'.cell? ⟨b, o + q * 8 + 7, none⟩ = some (.int .i64 g.lost) := fun w' hb' => ⟨(hb'.cell (by simpa using hb)).trans (hcc 0 (by omega)), (hb'.cell (by simpa using hb)).trans (hcc 1 (by omega)), (hb'.cell (by simpa using hb)).trans (hcc 2 (by omega)), (hb'.cell (by simpa using hb)).trans (hcc 3 (by omega)), (hb'.cell (by simpa using hb)).trans (hcc 4 (by omega)), (hb'.cell (by simpa using hb)).trans (hcc 5 (by omega)), (hb'.cell (by simpa using hb)).trans (hcc 6 (by omega)), (hb'.cell (by simpa using hb)).trans (hcc 7 (by omega))⟩
      have HF := Lib.hid hF
      obtain ⟨gA, gn, gc, gL, ⟨pk, pa, pb⟩, ⟨bk, ba, bb⟩, glost⟩ := g
      dsimp only at HF
      have e3 : (q : Int) < n := by omega
      clear hx hcc hF gin hgs
      go_upto_region 5 with fail
      refine wp_normal ?_
      refine wp_region_held_drew (S := fun w' => Below w.heap.size w w') (by kernel_rfl) hbr.drew (fun hHeld => ?_)
      (refine take_if (i := 0) (oi := _) (v := ?_) (by simp only [List.getElem?_toArray, List.getElem?_cons_zero]; rfl) (by kernel_rfl) (by kernel_rfl) (by kernel_rfl) (fun _ _ _ h => h) (by rfl) ?_ (by assumption) ?_; rotate_left; (focus ((intro w hSw; (try have hSw := HF.out _ hSw); (try dsimp only at hSw); go_simp); try exact rfl)); simp only [Act.put, List.setIfInBounds_toArray, List.set_cons_zero, List.set_cons_succ]; refine take_if (i := 1) (oi := _) (v := ?_) (by simp only [List.getElem?_toArray, List.getElem?_cons_succ, List.getElem?_cons_zero]; rfl) (by kernel_rfl) (by kernel_rfl) (by kernel_rfl) (fun _ _ _ h => h) (by rfl) ?_ (by assumption) ?_; rotate_left; (focus ((intro w hSw; (try have hSw := HF.out _ hSw); (try dsimp only at hSw); go_simp); try exact rfl)); simp only [Act.put, List.setIfInBounds_toArray, List.set_cons_zero, List.set_cons_succ]; refine take_if (i := 2) (oi := _) (v := ?_) (by simp only [List.getElem?_toArray, List.getElem?_cons_succ, List.getElem?_cons_zero]; rfl) (by kernel_rfl) (by kernel_rfl) (by kernel_rfl) (fun _ _ _ h => h) (by rfl) ?_ (by assumption) ?_; rotate_left; (focus ((intro w hSw; (try have hSw := HF.out _ hSw); (try dsimp only at hSw); go_simp); try exact rfl)); simp only [Act.put, List.setIfInBounds_toArray, List.set_cons_zero, List.set_cons_succ]; refine take_if (i := 3) (oi := _) (v := ?_) (by simp only [List.getElem?_toArray, List.getElem?_cons_succ, List.getElem?_cons_zero]; rfl) (by kernel_rfl) (by kernel_rfl) (by kernel_rfl) (fun _ _ _ h => h) (by rfl) ?_ (by assumption) ?_; rotate_left; (focus ((intro w hSw; (try have hSw := HF.out _ hSw); (try dsimp only at hSw); go_simp); try exact rfl)); simp only [Act.put, List.setIfInBounds_toArray, List.set_cons_zero, List.set_cons_succ]; refine take_if (i := 4) (oi := _) (v := ?_) (by simp only [List.getElem?_toArray, List.getElem?_cons_succ, List.getElem?_cons_zero]; rfl) (by kernel_rfl) (by kernel_rfl) (by kernel_rfl) (fun _ _ _ h => h) (by rfl) ?_ (by assumption) ?_; rotate_left; (focus ((intro w hSw; (try have hSw := HF.out _ hSw); (try dsimp only at hSw); go_simp); try exact rfl)); simp only [Act.put, List.setIfInBounds_toArray, List.set_cons_zero, List.set_cons_succ]; refine take_if (i := 5) (oi := _) (v := ?_) (by simp only [List.getElem?_toArray, List.getElem?_cons_succ, List.getElem?_cons_zero]; rfl) (by kernel_rfl) (by kernel_rfl) (by kernel_rfl) (fun _ _ _ h => h) (by rfl) ?_ (by assumption) ?_; rotate_left; (focus ((intro w hSw; (try have hSw := HF.out _ hSw); (try dsimp only at hSw); go_simp); try exact rfl)); simp only [Act.put, List.setIfInBounds_toArray, List.set_cons_zero, List.set_cons_succ]; refine take_if (i := 6) (oi := _) (v := ?_) (by simp only [List.getElem?_toArray, List.getElem?_cons_succ, List.getElem?_cons_zero]; rfl) (by kernel_rfl) (by kernel_rfl) (by kernel_rfl) (fun _ _ _ h => h) (by rfl) ?_ (by assumption) ?_; rotate_left; (focus ((intro w hSw; (try have hSw := HF.out _ hSw); (try dsimp only at hSw); go_simp); try exact rfl)); simp only [Act.put, List.setIfInBounds_toArray, List.set_cons_zero, List.set_cons_succ]; refine take_if (i := 7) (oi := _) (v := ?_) (by simp only [List.getElem?_toArray, List.getElem?_cons_succ, List.getElem?_cons_zero]; rfl) (by kernel_rfl) (by kernel_rfl) (by kernel_rfl) (fun _ _ _ h => h) (by rfl) ?_ (by assumption) ?_; rotate_left; (focus ((intro w hSw; (try have hSw := HF.out _ hSw); (try dsimp only at hSw); go_simp); try exact rfl)); simp only [Act.put, List.setIfInBounds_toArray, List.set_cons_zero, List.set_cons_succ]; refine take_if (i := 8) (oi := _) (v := ?_) (by simp only [List.getElem?_toArray, List.getElem?_cons_succ, List.getElem?_cons_zero]; rfl) (by kernel_rfl) (by kernel_rfl) (by kernel_rfl) (fun _ _ _ h => h) (by rfl) ?_ (by assumption) ?_; rotate_left; (focus ((intro w hSw; (try have hSw := HF.out _ hSw); (try dsimp only at hSw); go_simp); try exact rfl)); simp only [Act.put, List.setIfInBounds_toArray, List.set_cons_zero, List.set_cons_succ]; refine take_if (i := 9) (oi := _) (v := ?_) (by simp only [List.getElem?_toArray, List.getElem?_cons_succ, List.getElem?_cons_zero]; rfl) (by kernel_rfl) (by kernel_rfl) (by kernel_rfl) (fun _ _ _ h => h) (by rfl) ?_ (by assumption) ?_; rotate_left; (focus ((intro w hSw; (try have hSw := HF.out _ hSw); (try dsimp only at hSw); go_simp); try exact rfl)); simp only [Act.put, List.setIfInBounds_toArray, List.set_cons_zero, List.set_cons_succ]; refine take_if (i := 10) (oi := _) (v := ?_) (by simp only [List.getElem?_toArray, List.getElem?_cons_succ, List.getElem?_cons_zero]; rfl) (by kernel_rfl) (by kernel_rfl) (by kernel_rfl) (fun _ _ _ h => h) (by rfl) ?_ (by assumption) ?_; rotate_left; (focus ((intro w hSw; (try have hSw := HF.out _ hSw); (try dsimp only at hSw); go_simp); try exact rfl)); simp only [Act.put, List.setIfInBounds_toArray, List.set_cons_zero, List.set_cons_succ]; refine take_if (i := 11) (oi := _) (v := ?_) (by simp only [List.getElem?_toArray, List.getElem?_cons_succ, List.getElem?_cons_zero]; rfl) (by kernel_rfl) (by kernel_rfl) (by kernel_rfl) (fun _ _ _ h => h) (by rfl) ?_ (by assumption) ?_; rotate_left; (focus ((intro w hSw; (try have hSw := HF.out _ hSw); (try dsimp only at hSw); go_simp); try exact rfl)); simp only [Act.put, List.setIfInBounds_toArray, List.set_cons_zero, List.set_cons_succ]; refine take_if (i := 12) (oi := _) (v := ?_) (by simp only [List.getElem?_toArray, List.getElem?_cons_succ, List.getElem?_cons_zero]; rfl) (by kernel_rfl) (by kernel_rfl) (by kernel_rfl) (fun _ _ _ h => h) (by rfl) ?_ (by assumption) ?_; rotate_left; (focus ((intro w hSw; (try have hSw := HF.out _ hSw); (try dsimp only at hSw); go_simp); try exact rfl)); simp only [Act.put, List.setIfInBounds_toArray, List.set_cons_zero, List.set_cons_succ]; refine take_if (i := 13) (oi := _) (v := ?_) (by simp only [List.getElem?_toArray, List.getElem?_cons_succ, List.getElem?_cons_zero]; rfl) (by kernel_rfl) (by kernel_rfl) (by kernel_rfl) (fun _ _ _ h => h) (by rfl) ?_ (by assumption) ?_; rotate_left; (focus ((intro w hSw; (try have hSw := HF.out _ hSw); (try dsimp only at hSw); go_simp); try exact rfl)); simp only [Act.put, List.setIfInBounds_toArray, List.set_cons_zero, List.set_cons_succ]; refine take_if (i := 14) (oi := _) (v := ?_) (by simp only [List.getElem?_toArray, List.getElem?_cons_succ, List.getElem?_cons_zero]; rfl) (by kernel_rfl) (by kernel_rfl) (by kernel_rfl) (fun _ _ _ h => h) (by rfl) ?_ (by assumption) ?_; rotate_left; (focus ((intro w hSw; (try have hSw := HF.out _ hSw); (try dsimp only at hSw); go_simp); try exact rfl)); simp only [Act.put, List.setIfInBounds_toArray, List.set_cons_zero, List.set_cons_succ]; refine take_if (i := 15) (oi := _) (v := ?_) (by simp only [List.getElem?_toArray, List.getElem?_cons_succ, List.getElem?_cons_zero]; rfl) (by kernel_rfl) (by kernel_rfl) (by kernel_rfl) (fun _ _ _ h => h) (by rfl) ?_ (by assumption) ?_; rotate_left; (focus ((intro w hSw; (try have hSw := HF.out _ hSw); (try dsimp only at hSw); go_simp); try exact rfl)); simp only [Act.put, List.setIfInBounds_toArray, List.set_cons_zero, List.set_cons_succ]; refine take_if (i := 16) (oi := _) (v := ?_) (by simp only [List.getElem?_toArray, List.getElem?_cons_succ, List.getElem?_cons_zero]; rfl) (by kernel_rfl) (by kernel_rfl) (by kernel_rfl) (fun _ _ _ h => h) (by rfl) ?_ (by assumption) ?_; rotate_left; (focus ((intro w hSw; (try have hSw := HF.out _ hSw); (try dsimp only at hSw); go_simp); try exact rfl)); simp only [Act.put, List.setIfInBounds_toArray, List.set_cons_zero, List.set_cons_succ]; refine take_if (i := 17) (oi := _) (v := ?_) (by simp only [List.getElem?_toArray, List.getElem?_cons_succ, List.getElem?_cons_zero]; rfl) (by kernel_rfl) (by kernel_rfl) (by kernel_rfl) (fun _ _ _ h => h) (by rfl) ?_ (by assumption) ?_; rotate_left; (focus ((intro w hSw; (try have hSw := HF.out _ hSw); (try dsimp only at hSw); go_simp); try exact rfl)); simp only [Act.put, List.setIfInBounds_toArray, List.set_cons_zero, List.set_cons_succ]; refine take_if (i := 18) (oi := _) (v := ?_) (by simp only [List.getElem?_toArray, List.getElem?_cons_succ, List.getElem?_cons_zero]; rfl) (by kernel_rfl) (by kernel_rfl) (by kernel_rfl) (fun _ _ _ h => h) (by rfl) ?_ (by assumption) ?_; rotate_left; (focus ((intro w hSw; (try have hSw := HF.out _ hSw); (try dsimp only at hSw); go_simp); try exact rfl)); simp only [Act.put, List.setIfInBounds_toArray, List.set_cons_zero, List.set_cons_succ]; refine take_if (i := 19) (oi := _) (v := ?_) (by simp only [List.getElem?_toArray, List.getElem?_cons_succ, List.getElem?_cons_zero]; rfl) (by kernel_rfl) (by kernel_rfl) (by kernel_rfl) (fun _ _ _ h => h) (by rfl) ?_ (by assumption) ?_; rotate_left; (focus ((intro w hSw; (try have hSw := HF.out _ hSw); (try dsimp only at hSw); go_simp); try exact rfl)); simp only [Act.put, List.setIfInBounds_toArray, List.set_cons_zero, List.set_cons_succ]; refine take_if (i := 20) (oi := _) (v := ?_) (by simp only [List.getElem?_toArray, List.getElem?_cons_succ, List.getElem?_cons_zero]; rfl) (by kernel_rfl) (by kernel_rfl) (by kernel_rfl) (fun _ _ _ h => h) (by rfl) ?_ (by assumption) ?_; rotate_left; (focus ((intro w hSw; (try have hSw := HF.out _ hSw); (try dsimp only at hSw); go_simp); try exact rfl)); simp only [Act.put, List.setIfInBounds_toArray, List.set_cons_zero, List.set_cons_succ]; refine take_if (i := 21) (oi := _) (v := ?_) (by simp only [List.getElem?_toArray, List.getElem?_cons_succ, List.getElem?_cons_zero]; rfl) (by kernel_rfl) (by kernel_rfl) (by kernel_rfl) (fun _ _ _ h => h) (by rfl) ?_ (by assumption) ?_; rotate_left; (focus ((intro w hSw; (try have hSw := HF.out _ hSw); (try dsimp only at hSw); go_simp); try exact rfl)); simp only [Act.put, List.setIfInBounds_toArray, List.set_cons_zero, List.set_cons_succ])
      refine wpAnyH_ready (rs := [22]) (by kernel_rfl) (by simp) ?_; refine (AllReadyH.cons (o := _) (by simp only [List.getElem?_toArray, List.getElem?_cons_succ, List.getElem?_cons_zero]; rfl) (fun K hK => ?_) AllReadyH.nil)
      go_simp
      refine hK.out _ _ (by repeat (first | with_reducible exact Below.refl _ _ | with_reducible assumption | (with_reducible refine below_drewN ?_ _) | (with_reducible refine Below.drew ?_) | (with_reducible refine Below.alloc ?_ ?_ _; rotate_left; focus (first | with_reducible assumption | omega | (simp; done) | (simp; omega))) | (with_reducible refine Below.setCell ?_ ?_ _; rotate_left; focus (first | with_reducible assumption | omega | (simp; done) | (simp; omega))))) (fun hHeld => ?_)
      clear hK K; (try simp only [Act.put, List.setIfInBounds_toArray, List.set_cons_zero, List.set_cons_succ])
      refine wpAnyH_ready (rs := [23]) (by kernel_rfl) (by simp) ?_; refine (AllReadyH.cons (o := _) (by simp only [List.getElem?_toArray, List.getElem?_cons_succ, List.getElem?_cons_zero]; rfl) (fun K hK => ?_) AllReadyH.nil)
      refine app_at_step Try.underlying31 info_group rfl (by decide) w.heap.size _ q _ (World.ownsRow.alloc (w := wr) hown _) (by unfold maxLen; omega) (by omega) (by simp; omega) wr.heap.size (grp (.slice gA gn gc) pk pa pb bk ba bb glost) (Bk.drew (Bk.new wr 36 _)) rfl (by simp [Value.oneCell']) rfl _ _ rfl rfl rfl ?_
      intro g4 cap4 w4 hown4 hgr4 hat4 hlt4
      have own1 : (wr.alloc (.cells (grp (.slice gA gn gc) pk pa pb bk ba bb glost) 36)).drew.ownsRow w.heap.size 36 8 _ q (grs (L.take q)) := World.ownsRow.alloc (w := wr) hown _
      have hb1 : Below w.heap.size w (wr.alloc (.cells (grp (.slice gA gn gc) pk pa pb bk ba bb glost) 36)).drew := by repeat (first | with_reducible exact Below.refl _ _ | with_reducible assumption | (with_reducible refine below_drewN ?_ _) | (with_reducible refine Below.drew ?_) | (with_reducible refine Below.alloc ?_ ?_ _; rotate_left; focus (first | with_reducible assumption | omega | (simp; done) | (simp; omega))) | (with_reducible refine Below.setCell ?_ ?_ _; rotate_left; focus (first | with_reducible assumption | omega | (simp; done) | (simp; omega))))
      have hb4 := below_own hb1 own1 hgr4 (by simp; omega) (Nat.le_refl _)
      refine hK.out _ _ hb4 (fun hHeld => ?_)
      clear hK K; (try simp only [Act.put, List.setIfInBounds_toArray, List.set_cons_zero, List.set_cons_succ])
      (refine take_if (i := 24) (oi := _) (v := ?_) (by simp only [List.getElem?_toArray, List.getElem?_cons_succ, List.getElem?_cons_zero]; rfl) (by kernel_rfl) (by kernel_rfl) (by kernel_rfl) (fun _ _ _ h => h) (by rfl) ?_ (by assumption) ?_; rotate_left; (focus ((intro w hSw; (try have hSw := HF.out _ hSw); (try dsimp only at hSw); go_simp); try exact rfl)); simp only [Act.put, List.setIfInBounds_toArray, List.set_cons_zero, List.set_cons_succ])
      refine wpAnyH_done (by kernel_rfl) ?_ _
      go_wp2
      go_roundw
      case rel =>
        refine ⟨q + 1, by omega, by go_num, hb4, ?_⟩
        rw [HGS.out]
        exact hown4
      case measure => simp [intOf]; omega
    · obtain rfl : q = n := by omega
      rw [List.take_of_length_le (by rw [HLEN.out]; omega)] at hown
      go_wp2
      go_ret
      exact ⟨_, rfl, hown, hbr⟩
theorem GrsRaw.ext {w w' : World} {n : Nat} {A : Option Addr} {L : List GrH} (h : GrsRaw w w.heap.size A n L) (hb : Below w.heap.size w w') : GrsRaw w' w'.heap.size A n L := ⟨(h.1.below hb).more hb.size, fun g hg => ⟨((h.2 g hg).sts.below hb).more hb.size, (h.2 g hg).n, (h.2 g hg).A, (h.2 g hg).lost⟩⟩
theorem small_le {L : List GrH} (h : Small L) : ∀ g ∈ L, g.n ≤ 1000 := fun g hg => by have := (h g hg).1; omega
theorem raw_lost {w : World} {B n : Nat} {A : Option Addr} {L : List GrH} (h : GrsRaw w B A n L) : ∀ g ∈ L, -9223372036854775808 ≤ g.lost ∧ g.lost ≤ 9223372036854775807 := fun g hg => (h.2 g hg).lost
/-- groups that were read once more -/
theorem grs_in {w w' : World} {v : Value} {base n B : Nat} {A : Option Addr} {L : List GrH} (h : GrsRaw w B A n L) (hs : Small L) (ho : w'.ownsRow base 36 8 v n (grs L)) (hb : Below B w w') (hB : B ≤ w'.heap.size) : ∃ A2 c2, v = .slice A2 n c2 ∧ GrsIn w' w'.heap.size A2 n L := by
  obtain ⟨A2, c2, rfl, _, _, _, h4⟩ := own_form ho
  exact ⟨A2, c2, rfl, h4, fun g hg => (((h.in_ hs).below hb).2 g hg).more hB⟩

theorem tot_len {L : List GrH} (h : ∀ g ∈ L, g.L.length = g.n) : ((L.map GrH.val).flatMap GrC.steps).length = tot L := by
  induction L with
  | nil => rfl
  | cons g L ih =>
    have h1 := h g (by simp)
    have h2 := ih (fun x hx => h x (by simp [hx]))
    simp only [tot, List.map_cons, List.flatMap_cons, List.length_append, List.sum_cons] at *
    rw [h2]
    simp [GrH.val, h1]
end Go.Proofs.Ytmacfoebfpljoaa
