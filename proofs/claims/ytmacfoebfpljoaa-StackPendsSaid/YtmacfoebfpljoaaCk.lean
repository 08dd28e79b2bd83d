/- chain: a taker's step, of a step with a right shape -/
import Derived.Test.YtmacfoebfpljoaaCj
import Derived.Test.YtmacfoebfpljoaaCt
import Derived.Test.YtmacfoebfpljoaaCmp
namespace Go.Proofs.Ytmacfoebfpljoaa
open Go.RowKit

theorem mapB_len (k f t g h i m v : Int) (n n' : Nat) : (mapB k f t g h i m v n n').length ≤ 2 := by
  unfold mapB mapS
  split
  · split
    · simp
    · split <;> simp
  · simp
theorem invS_len (l : List Rg) (h : l.length ≤ 2) : (invS l).length ≤ 2 := by
  unfold invS
  split
  · rw [invM_length]; exact h
  · simp
theorem LinkAt.cons {w : World} {B bt b b' : Nat} {m back over : List Rg} {kept : Bool} {ks : List Lk} {A A' : Option Addr} {n c n' c' : Nat} (h1 : b < B) (hk : Bk w b 63 #[.slice A n c, .slice A' n' c', .bool kept, .pointer (some ⟨b', 0, none⟩)])
    (h2 : MapAt w B A n back) (h3 : MapAt w B A' n' over) (h4 : n = 0 ∨ Off bt A) (h5 : n' = 0 ∨ Off bt A') (h6 : LinkAt w B bt b' m ks) : LinkAt w B bt b m (⟨back, over, kept⟩ :: ks) := ⟨h1, A, n, c, A', n', c', b', hk, h2, h3, h4, h5, h6⟩
theorem stepT_ok {m : List Rg} {ks : List Lk} {x : StC} (hs : x.sh = true) (hr : rightM (invS x.map) = true) {z : StC} {ok : Bool} (hz : shiftB (tellL m ks) x = if ok = true then some z else none) (h0 : ok = false → z = StC.zero) :
    stepT m ks x = (⟨invS x.map, z.map, ok⟩ :: ks, if ok = true then some z else none) := by
  unfold stepT
  rw [if_pos hs]
  simp only
  rw [if_pos hr, hz]
  cases ok with
  | true => rfl
  | false =>
    rw [h0 rfl, zero_map]
    rfl
theorem stepT_no {m : List Rg} {ks : List Lk} {x : StC} (hs : x.sh = true) (hr : rightM (invS x.map) = false) : stepT m ks x = (ks, shiftB (tellL m ks) x) := by
  unfold stepT
  rw [if_pos hs]
  simp only
  rw [if_neg (by simp [hr])]

set_option maxRecDepth 100000 in
set_option maxHeartbeats 4000000 in
theorem tstep_good (m : List Rg) (ks : List Lk) (x : StC) (bt bl : Nat) (A : Option Addr) (n c : Nat) (A' : Option Addr) (n' c' : Nat) (w : World) (hk : Bk w bt 65 #[.pointer (some ⟨bl, 0, none⟩)]) (hl : LinkAt w w.heap.size bt bl m ks) (hin : (StH.mk A n c A' n' c' x).In w w.heap.size) (hs : x.sh = true) :
    Calls Try.prog 24 #[.pointer (some ⟨bt, 0, none⟩), .agg (stp x.k x.f x.t x.g x.h x.i x.m x.v A n c A' n' c')] w (TStep m ks x bt bl w) := by
  have hn1 : n ≤ maxLen := by have : n ≤ 1000000 := hin.n; unfold maxLen; omega
  have hn2 : n' ≤ maxLen := by have : n' ≤ 1000000 := hin.n'; unfold maxLen; omega
  have hsh := fun W (hb : Below w.heap.size w W) => calls_on hb (shape_any x.k x.f x.t x.g x.h x.i x.m x.v A A' n n' c c' W x.sl x.st hn1 hn2 ((hin.rd.below hb).more hb.size) ((hin.rd'.below hb).more hb.size))
  have e1 : x.sl.length = n := hin.len
  have e2 : x.st.length = n' := hin.len'
  have hv : shB x.k x.f x.t x.g x.h x.i x.m x.v n n' = true := by
    rw [← e1, ← e2]
    exact hs
  have hmp := fun W (hb : Below w.heap.size w W) => map_any x.k x.f x.t x.g x.h x.i x.m x.v A A' n n' c c' W x.sl x.st hn1 hn2 ((hin.rd.below hb).more hb.size) ((hin.rd'.below hb).more hb.size)
  have hxm : mapB x.k x.f x.t x.g x.h x.i x.m x.v n n' = x.map := by
    rw [← e1, ← e2]; rfl
  have hml : x.map.length ≤ 2 := by rw [← hxm]; exact mapB_len _ _ _ _ _ _ _ _ _ _
  rw [hv] at hsh
  rw [hxm] at hmp
  have hby := fun W (hb : Below w.heap.size w W) => (by_any (tellL m ks) bl w.heap.size x A n c A' n' c' W ((tells_link hl (Nat.le_refl _)).ext hb) (hin.ext hb) (tellL_bd m ks)).mono fun _ _ => bys_all
  have hst := fun (hr : rightM (invS x.map) = true) (z : StC) (ok : Bool) => stepT_ok (m := m) (ks := ks) hs hr (z := z) (ok := ok)
  have hsn := fun (hr : rightM (invS x.map) = false) => stepT_no (m := m) (ks := ks) hs hr
  have HS := Lib.hid hsh
  have HL := Lib.hid hl
  have HK := Lib.hid hk
  have HMP := Lib.hid hmp
  have HBY := Lib.hid hby
  have HST := Lib.hid hst
  have HSN := Lib.hid hsn
  have hlk := def_lt' hk
  clear hsh hv hs hin hl hby hst hsn hmp hxm e1 e2 hn1 hn2
  have k1 : Bk ((w.alloc (.cells (stp x.k x.f x.t x.g x.h x.i x.m x.v A n c A' n' c') 41)).alloc (.cells (stp 0 0 0 0 0 0 0 0 none 0 0 none 0 0) 41)) w.heap.size 41 (stp x.k x.f x.t x.g x.h x.i x.m x.v A n c A' n' c') := (Bk.new w _ _).alloc _
  have k2 : Bk ((w.alloc (.cells (stp x.k x.f x.t x.g x.h x.i x.m x.v A n c A' n' c') 41)).alloc (.cells (stp 0 0 0 0 0 0 0 0 none 0 0 none 0 0) 41)) (w.heap.size + 1) 41 (stp 0 0 0 0 0 0 0 0 none 0 0 none 0 0) := Bk.made _ _ (by simp)
  have hb0 : Below w.heap.size w ((w.alloc (.cells (stp x.k x.f x.t x.g x.h x.i x.m x.v A n c A' n' c') 41)).alloc (.cells (stp 0 0 0 0 0 0 0 0 none 0 0 none 0 0) 41)) := by repeat (first | with_reducible exact Below.refl _ _ | with_reducible assumption | (with_reducible refine below_drewN ?_ _) | (with_reducible refine Below.drew ?_) | (with_reducible refine Below.alloc ?_ ?_ _; rotate_left; focus (first | with_reducible assumption | omega | (simp; done) | (simp; omega))) | (with_reducible refine Below.setCell ?_ ?_ _; rotate_left; focus (first | with_reducible assumption | omega | (simp; done) | (simp; omega))))
  go_enter Try.func24, Try.ntmps24
  go_upto_region 1 with fail
  generalize hw0 : (w.alloc (.cells (stp x.k x.f x.t x.g x.h x.i x.m x.v A n c A' n' c') 41)).alloc (.cells #[.int .i64 0, .int .i64 0, .int .i64 0, .int .i64 0, .int .i64 0, .int .i64 0, .int .i64 0, .int .i64 0, .slice none 0 0, .slice none 0 0] 41) = w0 at *
  clear hw0
  have p0 := k1.cell 0; have p1 := k1.cell 1; have p2 := k1.cell 2; have p3 := k1.cell 3; have p4 := k1.cell 4; have p5 := k1.cell 5; have p6 := k1.cell 6; have p7 := k1.cell 7; have p8 := k1.cell 8; have p9 := k1.cell 9
  dsimp [stp] at p0 p1 p2 p3 p4 p5 p6 p7 p8 p9
  go_upto_region 3 with (go_at_call 37; (refine (HS.out _ hb0).mono ?_); rintro e w1 ⟨rfl, hb1, hz1, hx1⟩)
  have x1 := k1.ext hx1
  have o1 := k2.ext hx1
  have t1 := hk.ext hb1
  clear k1 k2 hb0 hx1 p0 p1 p2 p3 p4 p5 p6 p7 p8 p9
  have hlo := def_lt' o1
  go_cut [6, 7] (fun u v wx => ∃ (b6 : Nat) (z : StC) (ok : Bool) (A2 : Option Addr) (n2 c2 : Nat) (A2' : Option Addr) (n2' c2' : Nat), u = .pointer (some ⟨b6, 0, none⟩) ∧ v = .bool ok ∧ Below w1.heap.size w1 wx ∧ w1.heap.size ≤ b6 ∧ Bk wx b6 41 (stp z.k z.f z.t z.g z.h z.i z.m z.v A2 n2 c2 A2' n2' c2') ∧ (StH.mk A2 n2 c2 A2' n2' c2' z).In wx wx.heap.size ∧ shiftB (tellL m ks) x = (if ok = true then some z else none) ∧ (ok = false → z = StC.zero) ∧ (∀ a, A2 = some a → w1.heap.size ≤ a.block) ∧ (∀ a, A2' = some a → w1.heap.size ≤ a.block))
  case first =>
    have hF : ∀ w', Below w1.heap.size w1 w' → w'.cell? ⟨w.heap.size, 0, none⟩ = some (.int .i64 x.k) ∧ w'.cell? ⟨w.heap.size, 1, none⟩ = some (.int .i64 x.f) ∧ w'.cell? ⟨w.heap.size, 2, none⟩ = some (.int .i64 x.t) ∧ w'.cell? ⟨w.heap.size, 3, none⟩ = some (.int .i64 x.g) ∧ w'.cell? ⟨w.heap.size, 4, none⟩ = some (.int .i64 x.h) ∧ w'.cell? ⟨w.heap.size, 5, none⟩ = some (.int .i64 x.i) ∧ w'.cell? ⟨w.heap.size, 6, none⟩ = some (.int .i64 x.m) ∧ w'.cell? ⟨w.heap.size, 7, none⟩ = some (.int .i64 x.v) ∧ w'.cell? ⟨w.heap.size, 8, none⟩ = some (.slice A n c) ∧ w'.cell? ⟨w.heap.size, 9, none⟩ = some (.slice A' n' c') ∧ w'.cell? ⟨bt, 0, none⟩ = some (.pointer (some ⟨bl, 0, none⟩)) := fun w' h => ⟨(x1.ext h).cell 0, (x1.ext h).cell 1, (x1.ext h).cell 2, (x1.ext h).cell 3, (x1.ext h).cell 4, (x1.ext h).cell 5, (x1.ext h).cell 6, (x1.ext h).cell 7, (x1.ext h).cell 8, (x1.ext h).cell 9, (t1.ext h).cell 0⟩
    have HF := Lib.hid hF
    clear hF HS HL HK HMP HST HSN
    refine wp_normal ?_
    refine wp_region_held_drew (S := fun w' => Below w1.heap.size w1 w') (by kernel_rfl) (Below.refl _ _).drew (fun hHeld => ?_)
    (refine take_if (i := 0) (oi := _) (v := ?_) (by simp only [List.getElem?_toArray, List.getElem?_cons_zero]; rfl) (by kernel_rfl) (by kernel_rfl) (by kernel_rfl) (fun _ _ _ h => h) (by rfl) ?_ (by assumption) ?_; rotate_left; (focus ((intro w hSw; (try have hSw := HF.out _ hSw); (try dsimp only at hSw); go_simp); try exact rfl)); simp only [Act.put, List.setIfInBounds_toArray, List.set_cons_zero, List.set_cons_succ]; refine take_if (i := 1) (oi := _) (v := ?_) (by simp only [List.getElem?_toArray, List.getElem?_cons_succ, List.getElem?_cons_zero]; rfl) (by kernel_rfl) (by kernel_rfl) (by kernel_rfl) (fun _ _ _ h => h) (by rfl) ?_ (by assumption) ?_; rotate_left; (focus ((intro w hSw; (try have hSw := HF.out _ hSw); (try dsimp only at hSw); go_simp); try exact rfl)); simp only [Act.put, List.setIfInBounds_toArray, List.set_cons_zero, List.set_cons_succ]; refine take_if (i := 2) (oi := _) (v := ?_) (by simp only [List.getElem?_toArray, List.getElem?_cons_succ, List.getElem?_cons_zero]; rfl) (by kernel_rfl) (by kernel_rfl) (by kernel_rfl) (fun _ _ _ h => h) (by rfl) ?_ (by assumption) ?_; rotate_left; (focus ((intro w hSw; (try have hSw := HF.out _ hSw); (try dsimp only at hSw); go_simp); try exact rfl)); simp only [Act.put, List.setIfInBounds_toArray, List.set_cons_zero, List.set_cons_succ]; refine take_if (i := 3) (oi := _) (v := ?_) (by simp only [List.getElem?_toArray, List.getElem?_cons_succ, List.getElem?_cons_zero]; rfl) (by kernel_rfl) (by kernel_rfl) (by kernel_rfl) (fun _ _ _ h => h) (by rfl) ?_ (by assumption) ?_; rotate_left; (focus ((intro w hSw; (try have hSw := HF.out _ hSw); (try dsimp only at hSw); go_simp); try exact rfl)); simp only [Act.put, List.setIfInBounds_toArray, List.set_cons_zero, List.set_cons_succ]; refine take_if (i := 4) (oi := _) (v := ?_) (by simp only [List.getElem?_toArray, List.getElem?_cons_succ, List.getElem?_cons_zero]; rfl) (by kernel_rfl) (by kernel_rfl) (by kernel_rfl) (fun _ _ _ h => h) (by rfl) ?_ (by assumption) ?_; rotate_left; (focus ((intro w hSw; (try have hSw := HF.out _ hSw); (try dsimp only at hSw); go_simp); try exact rfl)); simp only [Act.put, List.setIfInBounds_toArray, List.set_cons_zero, List.set_cons_succ]; refine take_if (i := 5) (oi := _) (v := ?_) (by simp only [List.getElem?_toArray, List.getElem?_cons_succ, List.getElem?_cons_zero]; rfl) (by kernel_rfl) (by kernel_rfl) (by kernel_rfl) (fun _ _ _ h => h) (by rfl) ?_ (by assumption) ?_; rotate_left; (focus ((intro w hSw; (try have hSw := HF.out _ hSw); (try dsimp only at hSw); go_simp); try exact rfl)); simp only [Act.put, List.setIfInBounds_toArray, List.set_cons_zero, List.set_cons_succ])
    refine wpAnyH_ready (rs := [6, 10]) (by kernel_rfl) (by simp) ?_; refine (AllReadyH.cons (o := _) (by simp only [List.getElem?_toArray, List.getElem?_cons_succ, List.getElem?_cons_zero]; rfl) (fun K hK => ?_) (AllReadyH.cons (o := _) (by simp only [List.getElem?_toArray, List.getElem?_cons_succ, List.getElem?_cons_zero]; rfl) (fun K hK => ?_) AllReadyH.nil))
    · go_simp
      go_at_call 38
      refine (HBY.out _ hb1.drew).mono ?_
      rintro e w4 ⟨z, ok, A2, n2, c2, A2', n2', c2', rfl, zin, zs, z0, znew, znew', hb4⟩
      have hx5 : Below w1.heap.size w1 w4 := Below.trans (Below.refl _ _).drew hb4
      have hx5s := hx5.size
      refine hK.out _ _ hx5 (fun hHeld => ?_)
      clear hK K; (try simp only [Act.put, List.setIfInBounds_toArray, List.set_cons_zero, List.set_cons_succ])
      (refine take_if (i := 7) (oi := _) (v := ?_) (by simp only [List.getElem?_toArray, List.getElem?_cons_succ, List.getElem?_cons_zero]; rfl) (by kernel_rfl) (by kernel_rfl) (by kernel_rfl) (fun _ _ _ h => h) (by rfl) ?_ (by assumption) ?_; rotate_left; (focus ((intro w hSw; (try have hSw := HF.out _ hSw); (try dsimp only at hSw); go_simp); try exact rfl)); simp only [Act.put, List.setIfInBounds_toArray, List.set_cons_zero, List.set_cons_succ]; refine take_if (i := 8) (oi := _) (v := ?_) (by simp only [List.getElem?_toArray, List.getElem?_cons_succ, List.getElem?_cons_zero]; rfl) (by kernel_rfl) (by kernel_rfl) (by kernel_rfl) (fun _ _ _ h => h) (by rfl) ?_ (by assumption) ?_; rotate_left; (focus ((intro w hSw; (try have hSw := HF.out _ hSw); (try dsimp only at hSw); go_simp); try exact rfl)); simp only [Act.put, List.setIfInBounds_toArray, List.set_cons_zero, List.set_cons_succ]; refine take_if (i := 9) (oi := _) (v := ?_) (by simp only [List.getElem?_toArray, List.getElem?_cons_succ, List.getElem?_cons_zero]; rfl) (by kernel_rfl) (by kernel_rfl) (by kernel_rfl) (fun _ _ _ h => h) (by rfl) ?_ (by assumption) ?_; rotate_left; (focus ((intro w hSw; (try have hSw := HF.out _ hSw); (try dsimp only at hSw); go_simp); try exact rfl)); simp only [Act.put, List.setIfInBounds_toArray, List.set_cons_zero, List.set_cons_succ])
      refine wpAnyH_ready (rs := [10]) (by kernel_rfl) (by simp) ?_; refine (AllReadyH.cons (o := _) (by simp only [List.getElem?_toArray, List.getElem?_cons_succ, List.getElem?_cons_zero]; rfl) (fun K hK => ?_) AllReadyH.nil)
      go_simp
      refine hK.out _ _ (by repeat (first | with_reducible exact Below.refl _ _ | with_reducible assumption | (with_reducible refine below_drewN ?_ _) | (with_reducible refine Below.drew ?_) | (with_reducible refine Below.alloc ?_ ?_ _; rotate_left; focus (first | with_reducible assumption | omega | (simp; done) | (simp; omega))) | (with_reducible refine Below.setCell ?_ ?_ _; rotate_left; focus (first | with_reducible assumption | omega | (simp; done) | (simp; omega))))) (fun hHeld => ?_)
      clear hK K; (try simp only [Act.put, List.setIfInBounds_toArray, List.set_cons_zero, List.set_cons_succ])
      refine wpAnyH_ready (rs := [11]) (by kernel_rfl) (by simp) ?_; refine (AllReadyH.cons (o := _) (by simp only [List.getElem?_toArray, List.getElem?_cons_succ, List.getElem?_cons_zero]; rfl) (fun K hK => ?_) AllReadyH.nil)
      go_simp
      refine hK.out _ _ (by repeat (first | with_reducible exact Below.refl _ _ | with_reducible assumption | (with_reducible refine below_drewN ?_ _) | (with_reducible refine Below.drew ?_) | (with_reducible refine Below.alloc ?_ ?_ _; rotate_left; focus (first | with_reducible assumption | omega | (simp; done) | (simp; omega))) | (with_reducible refine Below.setCell ?_ ?_ _; rotate_left; focus (first | with_reducible assumption | omega | (simp; done) | (simp; omega))))) (fun hHeld => ?_)
      clear hK K; (try simp only [Act.put, List.setIfInBounds_toArray, List.set_cons_zero, List.set_cons_succ])
      (refine take_if (i := 12) (oi := _) (v := ?_) (by simp only [List.getElem?_toArray, List.getElem?_cons_succ, List.getElem?_cons_zero]; rfl) (by kernel_rfl) (by kernel_rfl) (by kernel_rfl) (fun _ _ _ h => h) (by rfl) ?_ (by assumption) ?_; rotate_left; (focus ((intro w hSw; (try have hSw := HF.out _ hSw); (try dsimp only at hSw); go_simp); try exact rfl)); simp only [Act.put, List.setIfInBounds_toArray, List.set_cons_zero, List.set_cons_succ])
      refine wpAnyH_done (by kernel_rfl) ?_ _
      go_wp2
      go_meet
      exact ⟨_, z, ok, A2, n2, c2, A2', n2', c2', rfl, rfl, hHeld, hx5s, Bk.new w4 _ _, zin.ext ((Below.refl _ _).alloc (Nat.le_refl _) _), zs, fun h => (z0 h).1, znew, znew'⟩
    · go_simp
      refine hK.out _ _ (by repeat (first | with_reducible exact Below.refl _ _ | with_reducible assumption | (with_reducible refine below_drewN ?_ _) | (with_reducible refine Below.drew ?_) | (with_reducible refine Below.alloc ?_ ?_ _; rotate_left; focus (first | with_reducible assumption | omega | (simp; done) | (simp; omega))) | (with_reducible refine Below.setCell ?_ ?_ _; rotate_left; focus (first | with_reducible assumption | omega | (simp; done) | (simp; omega))))) (fun hHeld => ?_)
      clear hK K; (try simp only [Act.put, List.setIfInBounds_toArray, List.set_cons_zero, List.set_cons_succ])
      refine wpAnyH_ready (rs := [6]) (by kernel_rfl) (by simp) ?_; refine (AllReadyH.cons (o := _) (by simp only [List.getElem?_toArray, List.getElem?_cons_succ, List.getElem?_cons_zero]; rfl) (fun K hK => ?_) AllReadyH.nil)
      go_simp
      go_at_call 38
      refine (HBY.out _ (by repeat (first | with_reducible exact Below.refl _ _ | with_reducible assumption | (with_reducible refine below_drewN ?_ _) | (with_reducible refine Below.drew ?_) | (with_reducible refine Below.alloc ?_ ?_ _; rotate_left; focus (first | with_reducible assumption | omega | (simp; done) | (simp; omega))) | (with_reducible refine Below.setCell ?_ ?_ _; rotate_left; focus (first | with_reducible assumption | omega | (simp; done) | (simp; omega)))))).mono ?_
      rintro e w4 ⟨z, ok, A2, n2, c2, A2', n2', c2', rfl, zin, zs, z0, znew, znew', hb4⟩
      have hx5 : Below w1.heap.size w1 w4 := Below.trans (by repeat (first | with_reducible exact Below.refl _ _ | with_reducible assumption | (with_reducible refine below_drewN ?_ _) | (with_reducible refine Below.drew ?_) | (with_reducible refine Below.alloc ?_ ?_ _; rotate_left; focus (first | with_reducible assumption | omega | (simp; done) | (simp; omega))) | (with_reducible refine Below.setCell ?_ ?_ _; rotate_left; focus (first | with_reducible assumption | omega | (simp; done) | (simp; omega))))) (hb4.mono (by simp))
      have k10 : Bk w4 w1.heap.size 41 (stp 0 0 0 0 0 0 0 0 none 0 0 none 0 0) := (Bk.drew (Bk.new w1 41 _)).ext hb4
      have d0 := k10.cell 0; have d1 := k10.cell 1; have d2 := k10.cell 2; have d3 := k10.cell 3; have d4 := k10.cell 4; have d5 := k10.cell 5; have d6 := k10.cell 6; have d7 := k10.cell 7; have d8 := k10.cell 8; have d9 := k10.cell 9
      have cf := k10.frozen; have cl := def_lt' k10
      dsimp [stp] at d0 d1 d2 d3 d4 d5 d6 d7 d8 d9
      refine hK.out _ _ hx5 (fun hHeld => ?_)
      clear hK K; (try simp only [Act.put, List.setIfInBounds_toArray, List.set_cons_zero, List.set_cons_succ])
      (refine take_if (i := 7) (oi := _) (v := ?_) (by simp only [List.getElem?_toArray, List.getElem?_cons_succ, List.getElem?_cons_zero]; rfl) (by kernel_rfl) (by kernel_rfl) (by kernel_rfl) (fun _ _ _ h => h) (by rfl) ?_ (by assumption) ?_; rotate_left; (focus ((intro w hSw; (try have hSw := HF.out _ hSw); (try dsimp only at hSw); go_simp); try exact rfl)); simp only [Act.put, List.setIfInBounds_toArray, List.set_cons_zero, List.set_cons_succ]; refine take_if (i := 8) (oi := _) (v := ?_) (by simp only [List.getElem?_toArray, List.getElem?_cons_succ, List.getElem?_cons_zero]; rfl) (by kernel_rfl) (by kernel_rfl) (by kernel_rfl) (fun _ _ _ h => h) (by rfl) ?_ (by assumption) ?_; rotate_left; (focus ((intro w hSw; (try have hSw := HF.out _ hSw); (try dsimp only at hSw); go_simp); try exact rfl)); simp only [Act.put, List.setIfInBounds_toArray, List.set_cons_zero, List.set_cons_succ]; refine take_if (i := 9) (oi := _) (v := ?_) (by simp only [List.getElem?_toArray, List.getElem?_cons_succ, List.getElem?_cons_zero]; rfl) (by kernel_rfl) (by kernel_rfl) (by kernel_rfl) (fun _ _ _ h => h) (by rfl) ?_ (by assumption) ?_; rotate_left; (focus ((intro w hSw; (try have hSw := HF.out _ hSw); (try dsimp only at hSw); go_simp); try exact rfl)); simp only [Act.put, List.setIfInBounds_toArray, List.set_cons_zero, List.set_cons_succ])
      refine wpAnyH_ready (rs := [11]) (by kernel_rfl) (by simp) ?_; refine (AllReadyH.cons (o := _) (by simp only [List.getElem?_toArray, List.getElem?_cons_succ, List.getElem?_cons_zero]; rfl) (fun K hK => ?_) AllReadyH.nil)
      go_simp
      refine hK.out _ _ (by repeat (first | with_reducible exact Below.refl _ _ | with_reducible assumption | (with_reducible refine below_drewN ?_ _) | (with_reducible refine Below.drew ?_) | (with_reducible refine Below.alloc ?_ ?_ _; rotate_left; focus (first | with_reducible assumption | omega | (simp; done) | (simp; omega))) | (with_reducible refine Below.setCell ?_ ?_ _; rotate_left; focus (first | with_reducible assumption | omega | (simp; done) | (simp; omega))))) (fun hHeld => ?_)
      clear hK K; (try simp only [Act.put, List.setIfInBounds_toArray, List.set_cons_zero, List.set_cons_succ])
      (refine take_if (i := 12) (oi := _) (v := ?_) (by simp only [List.getElem?_toArray, List.getElem?_cons_succ, List.getElem?_cons_zero]; rfl) (by kernel_rfl) (by kernel_rfl) (by kernel_rfl) (fun _ _ _ h => h) (by rfl) ?_ (by assumption) ?_; rotate_left; (focus ((intro w hSw; (try have hSw := HF.out _ hSw); (try dsimp only at hSw); go_simp); try exact rfl)); simp only [Act.put, List.setIfInBounds_toArray, List.set_cons_zero, List.set_cons_succ])
      refine wpAnyH_done (by kernel_rfl) ?_ _
      go_wp2
      go_meet
      have hsz : w4.heap.size ≤ (set10 w4 w1.heap.size z.k z.f z.t z.g z.h z.i z.m z.v A2 n2 c2 A2' n2' c2').heap.size := by rw [set10_size]; exact Nat.le_refl _
      have nn1 : ∀ a, A2 = some a → a.block ≠ w1.heap.size := fun a e => by have := znew a e; simp at this; omega
      have nn2 : ∀ a, A2' = some a → a.block ≠ w1.heap.size := fun a e => by have := znew' a e; simp at this; omega
      exact ⟨_, z, ok, A2, n2, c2, A2', n2', c2', rfl, rfl, hHeld, Nat.le_refl _, stp_set k10 _ _ _ _ _ _ _ _ _ _ _ _ _ _, ⟨(zin.rd.blk (fun a e => set10_heap (nn1 a e) _ _ _ _ _ _ _ _ _ _ _ _ _ _)).more hsz, (zin.rd'.blk (fun a e => set10_heap (nn2 a e) _ _ _ _ _ _ _ _ _ _ _ _ _ _)).more hsz, zin.n, zin.n', zin.A, zin.A'⟩, zs, fun h => (z0 h).1, fun a e => (by have := znew a e; simp at this; omega), fun a e => (by have := znew' a e; simp at this; omega)⟩
  case rest =>
    obtain ⟨b6, z, ok, A2, n2, c2, A2', n2', c2', rfl, rfl, hb5, hle6, k6, zin, zs, z0, nn1, nn2⟩ := hcut
    have hzc := hb5.size
    have x5 := x1.ext hb5
    have o5 := o1.ext hb5
    have t5 := t1.ext hb5
    have hb6 := hb1.trans (hb5.mono hz1)
    have hz5 := hb6.size
    have p0 := x5.cell 0; have p1 := x5.cell 1; have p2 := x5.cell 2; have p3 := x5.cell 3; have p4 := x5.cell 4; have p5 := x5.cell 5; have p6 := x5.cell 6; have p7 := x5.cell 7; have p8 := x5.cell 8; have p9 := x5.cell 9
    dsimp [stp] at p0 p1 p2 p3 p4 p5 p6 p7 p8 p9
    have hne6 : w.heap.size + 1 ≠ b6 := by omega
    have hzm : z.map.length ≤ 2 := mapB_len _ _ _ _ _ _ _ _ _ _
    have e1 : z.sl.length = n2 := zin.len
    have e2 : z.st.length = n2' := zin.len'
    have hzm2 : mapB z.k z.f z.t z.g z.h z.i z.m z.v n2 n2' = z.map := by rw [← e1, ← e2]; rfl
    have hn3 : n2 ≤ maxLen := by have : n2 ≤ 1000000 := zin.n; unfold maxLen; omega
    have hn4 : n2' ≤ maxLen := by have : n2' ≤ 1000000 := zin.n'; unfold maxLen; omega
    have hmz := fun W (hb : Below wc.heap.size wc W) => map_anyn z.k z.f z.t z.g z.h z.i z.m z.v A2 A2' n2 n2' c2 c2' W z.sl z.st hn3 hn4 ((zin.rd.below hb).more hb.size) ((zin.rd'.below hb).more hb.size)
    rw [hzm2] at hmz
    have HMZ := Lib.hid hmz
    have HZI := Lib.hid zin
    have HZS := Lib.hid zs
    have HZ0 := Lib.hid z0
    have hil := invS_len x.map hml
    clear x1 o1 t1 hb1 hz1 hb5 HBY hmz zin zs z0 hzm2 e1 e2 hn3 hn4 HS
    have hri := fun (A4 : Option Addr) (mm c4 : Nat) (W : World) (h : Rd W W.heap.size 3 A4 mm (rgs (invS x.map))) => right_any A4 mm c4 (invS x.map) W (by have := h.rlen; unfold maxLen; omega) (fun _ => h) h.rlen
    cases hrb : rightM (invS x.map) with
    | false =>
      rw [hrb] at hri
      have HRI := Lib.hid hri
      have hres := HSN.out hrb
      have HRES := Lib.hid hres
      clear hri HST HSN hres HMZ HZ0
      go_wp2_with (first
        | (go_at_call 40; (refine (HMP.out _ hb6).mono ?_); rintro e w5 ⟨A3, c3, rfl, r3, a3, b3⟩)
        | (go_at_call 39; (refine (inv_any A3 _ c3 x.map w5 (by unfold maxLen; omega) (fun _ => r3) rfl).mono ?_); rintro e w6 ⟨v4, mm, rfl, ho4, hb4⟩; obtain ⟨A4, c4, rfl, q1, q2, q3, q4⟩ := own_form ho4)
        | (go_at_call 20; (refine (HRI.out A4 mm c4 w6 q4).mono ?_); rintro e w7 ⟨rfl, hb7⟩; have b57 : Below wc.heap.size wc w7 := (b3.trans (hb4.mono b3.size)).trans (hb7.mono (Nat.le_trans b3.size hb4.size)); have o7 := o5.ext b57; have m7 := k6.ext b57; have l7 := def_lt' o7; have f7 := o7.frozen; have r0 := o7.cell 0; have r1 := o7.cell 1; have r2 := o7.cell 2; have r3 := o7.cell 3; have r4 := o7.cell 4; have r5 := o7.cell 5; have r6 := o7.cell 6; have r7 := o7.cell 7; have r8 := o7.cell 8; have r9 := o7.cell 9; have y0 := m7.cell 0; have y1 := m7.cell 1; have y2 := m7.cell 2; have y3 := m7.cell 3; have y4 := m7.cell 4; have y5 := m7.cell 5; have y6 := m7.cell 6; have y7 := m7.cell 7; have y8 := m7.cell 8; have y9 := m7.cell 9; dsimp [stp] at r0 r1 r2 r3 r4 r5 r6 r7 r8 r9 y0 y1 y2 y3 y4 y5 y6 y7 y8 y9))
      have y := stp_set o7 z.k z.f z.t z.g z.h z.i z.m z.v A2 n2 c2 A2' n2' c2'
      have v0 := y.cell 0; have v1 := y.cell 1; have v2 := y.cell 2; have v3 := y.cell 3; have v4 := y.cell 4; have v5 := y.cell 5; have v6 := y.cell 6; have v7 := y.cell 7; have v8 := y.cell 8; have v9 := y.cell 9
      dsimp [stp] at v0 v1 v2 v3 v4 v5 v6 v7 v8 v9
      have hb8 : Below w.heap.size w w7 := hb6.trans (b57.mono hz5)
      have hbe : Below w.heap.size w (set10 w7 (w.heap.size + 1) z.k z.f z.t z.g z.h z.i z.m z.v A2 n2 c2 A2' n2' c2') := by repeat (first | with_reducible exact Below.refl _ _ | with_reducible assumption | (with_reducible refine below_drewN ?_ _) | (with_reducible refine Below.drew ?_) | (with_reducible refine Below.alloc ?_ ?_ _; rotate_left; focus (first | with_reducible assumption | omega | (simp; done) | (simp; omega))) | (with_reducible refine Below.setCell ?_ ?_ _; rotate_left; focus (first | with_reducible assumption | omega | (simp; done) | (simp; omega))))
      have hsz : w7.heap.size ≤ (set10 w7 (w.heap.size + 1) z.k z.f z.t z.g z.h z.i z.m z.v A2 n2 c2 A2' n2' c2').heap.size := by rw [set10_size]; exact Nat.le_refl _
      have zin7 := HZI.out.ext b57
      have zin8 : (StH.mk A2 n2 c2 A2' n2' c2' z).In (set10 w7 (w.heap.size + 1) z.k z.f z.t z.g z.h z.i z.m z.v A2 n2 c2 A2' n2' c2') (set10 w7 (w.heap.size + 1) z.k z.f z.t z.g z.h z.i z.m z.v A2 n2 c2 A2' n2' c2').heap.size :=
        ⟨(zin7.rd.blk (fun a e => set10_heap (by have := nn1 a e; omega) _ _ _ _ _ _ _ _ _ _ _ _ _ _)).more hsz, (zin7.rd'.blk (fun a e => set10_heap (by have := nn2 a e; omega) _ _ _ _ _ _ _ _ _ _ _ _ _ _)).more hsz, zin7.n, zin7.n', zin7.A, zin7.A'⟩
      refine bodyPost_ret (v := .tuple #[.agg (stp z.k z.f z.t z.g z.h z.i z.m z.v A2 n2 c2 A2' n2' c2'), .bool ok]) (by simp [results, Try.results24, go_sem, v0, v1, v2, v3, v4, v5, v6, v7, v8, v9]) rfl ⟨z, ok, A2, n2, c2, A2', n2', c2', bl, rfl, zin8, ?_, gr_of_below hbe, HK.out.ext hbe, ?_⟩
      · rw [HRES.out]; exact HZS.out
      · rw [HRES.out]; exact fun bx _ hlx => hlx.ext hbe
    | true =>
      rw [hrb] at hri
      have HRI := Lib.hid hri
      have hres := HST.out hrb z ok HZS.out HZ0.out
      have HRES := Lib.hid hres
      clear hri HST HSN hres HZ0
      go_upto_region 7 with (first
        | (go_at_call 40; (refine (HMP.out _ hb6).mono ?_); rintro e w5 ⟨A3, c3, rfl, r3, a3, b3⟩)
        | (go_at_call 39; (refine (inv_any A3 _ c3 x.map w5 (by unfold maxLen; omega) (fun _ => r3) rfl).mono ?_); rintro e w6 ⟨v4, mm, rfl, ho4, hb4⟩; obtain ⟨A4, c4, rfl, q1, q2, q3, q4⟩ := own_form ho4)
        | (go_at_call 20; (refine (HRI.out A4 mm c4 w6 q4).mono ?_); rintro e w7 ⟨rfl, hb7⟩))
      have b57 : Below wc.heap.size wc w7 := (b3.trans (hb4.mono b3.size)).trans (hb7.mono (Nat.le_trans b3.size hb4.size))
      have o7 := o5.ext b57
      have m7 := k6.ext b57
      have t7 := t5.ext b57
      have rb7 := (q4.below hb7).more hb7.size
      have nb : ∀ a, A4 = some a → wc.heap.size ≤ a.block := fun a e => by subst e; exact Nat.le_trans b3.size (own_ge ho4 a.block rfl)
      have hmm : mm ≤ 1000 := by have : (invS x.map).length = mm := q4.rlen; omega
      have rb7' : Rd w7 w7.heap.size 3 A4 mm (rgs (invS x.map)) := rb7
      have hb8 : Below w.heap.size w w7 := hb6.trans (b57.mono hz5)
      have hz57 := b57.size
      have zin7 := HZI.out.ext b57
      have hF : ∀ w', Below w7.heap.size w7 w' → w'.cell? ⟨b6, 0, none⟩ = some (.int .i64 z.k) ∧ w'.cell? ⟨b6, 1, none⟩ = some (.int .i64 z.f) ∧ w'.cell? ⟨b6, 2, none⟩ = some (.int .i64 z.t) ∧ w'.cell? ⟨b6, 3, none⟩ = some (.int .i64 z.g) ∧ w'.cell? ⟨b6, 4, none⟩ = some (.int .i64 z.h) ∧ w'.cell? ⟨b6, 5, none⟩ = some (.int .i64 z.i) ∧ w'.cell? ⟨b6, 6, none⟩ = some (.int .i64 z.m) ∧ w'.cell? ⟨b6, 7, none⟩ = some (.int .i64 z.v) ∧ w'.cell? ⟨b6, 8, none⟩ = some (.slice A2 n2 c2) ∧ w'.cell? ⟨b6, 9, none⟩ = some (.slice A2' n2' c2') ∧ w'.cell? ⟨bt, 0, none⟩ = some (.pointer (some ⟨bl, 0, none⟩)) := fun w' h => ⟨(m7.ext h).cell 0, (m7.ext h).cell 1, (m7.ext h).cell 2, (m7.ext h).cell 3, (m7.ext h).cell 4, (m7.ext h).cell 5, (m7.ext h).cell 6, (m7.ext h).cell 7, (m7.ext h).cell 8, (m7.ext h).cell 9, (t7.ext h).cell 0⟩
      have HF := Lib.hid hF
      clear hF r3 a3 b3 ho4 hb4 q1 q2 q3 q4 hb7 rb7 x5 o5 t5 k6 p0 p1 p2 p3 p4 p5 p6 p7 p8 p9
      refine wp_normal ?_
      refine region_L (S := fun w' => Below w7.heap.size w7 w') [13] (by kernel_rfl) (Below.refl _ _).drew (fun hHeld => ?_)
      (refine takeL_if (i := 0) (oi := _) (v := ?_) (by simp only [List.getElem?_toArray, List.getElem?_cons_zero]; rfl) (by kernel_rfl) (by kernel_rfl) (by kernel_rfl) (fun _ _ _ h => h) (by rfl) ?_ (by assumption) ?_; rotate_left; (focus ((intro w hSw; (try have hSw := HF.out _ hSw); (try dsimp only at hSw); go_simp); try exact rfl)); simp only [Act.put, List.setIfInBounds_toArray, List.set_cons_zero, List.set_cons_succ]; refine takeL_if (i := 1) (oi := _) (v := ?_) (by simp only [List.getElem?_toArray, List.getElem?_cons_succ, List.getElem?_cons_zero]; rfl) (by kernel_rfl) (by kernel_rfl) (by kernel_rfl) (fun _ _ _ h => h) (by rfl) ?_ (by assumption) ?_; rotate_left; (focus ((intro w hSw; (try have hSw := HF.out _ hSw); (try dsimp only at hSw); go_simp); try exact rfl)); simp only [Act.put, List.setIfInBounds_toArray, List.set_cons_zero, List.set_cons_succ]; refine takeL_if (i := 2) (oi := _) (v := ?_) (by simp only [List.getElem?_toArray, List.getElem?_cons_succ, List.getElem?_cons_zero]; rfl) (by kernel_rfl) (by kernel_rfl) (by kernel_rfl) (fun _ _ _ h => h) (by rfl) ?_ (by assumption) ?_; rotate_left; (focus ((intro w hSw; (try have hSw := HF.out _ hSw); (try dsimp only at hSw); go_simp); try exact rfl)); simp only [Act.put, List.setIfInBounds_toArray, List.set_cons_zero, List.set_cons_succ]; refine takeL_if (i := 4) (oi := _) (v := ?_) (by simp only [List.getElem?_toArray, List.getElem?_cons_succ, List.getElem?_cons_zero]; rfl) (by kernel_rfl) (by kernel_rfl) (by kernel_rfl) (fun _ _ _ h => h) (by rfl) ?_ (by assumption) ?_; rotate_left; (focus ((intro w hSw; (try have hSw := HF.out _ hSw); (try dsimp only at hSw); go_simp); try exact rfl)); simp only [Act.put, List.setIfInBounds_toArray, List.set_cons_zero, List.set_cons_succ]; refine takeL_if (i := 5) (oi := _) (v := ?_) (by simp only [List.getElem?_toArray, List.getElem?_cons_succ, List.getElem?_cons_zero]; rfl) (by kernel_rfl) (by kernel_rfl) (by kernel_rfl) (fun _ _ _ h => h) (by rfl) ?_ (by assumption) ?_; rotate_left; (focus ((intro w hSw; (try have hSw := HF.out _ hSw); (try dsimp only at hSw); go_simp); try exact rfl)); simp only [Act.put, List.setIfInBounds_toArray, List.set_cons_zero, List.set_cons_succ]; refine takeL_if (i := 6) (oi := _) (v := ?_) (by simp only [List.getElem?_toArray, List.getElem?_cons_succ, List.getElem?_cons_zero]; rfl) (by kernel_rfl) (by kernel_rfl) (by kernel_rfl) (fun _ _ _ h => h) (by rfl) ?_ (by assumption) ?_; rotate_left; (focus ((intro w hSw; (try have hSw := HF.out _ hSw); (try dsimp only at hSw); go_simp); try exact rfl)); simp only [Act.put, List.setIfInBounds_toArray, List.set_cons_zero, List.set_cons_succ]; refine takeL_if (i := 7) (oi := _) (v := ?_) (by simp only [List.getElem?_toArray, List.getElem?_cons_succ, List.getElem?_cons_zero]; rfl) (by kernel_rfl) (by kernel_rfl) (by kernel_rfl) (fun _ _ _ h => h) (by rfl) ?_ (by assumption) ?_; rotate_left; (focus ((intro w hSw; (try have hSw := HF.out _ hSw); (try dsimp only at hSw); go_simp); try exact rfl)); simp only [Act.put, List.setIfInBounds_toArray, List.set_cons_zero, List.set_cons_succ]; refine takeL_if (i := 8) (oi := _) (v := ?_) (by simp only [List.getElem?_toArray, List.getElem?_cons_succ, List.getElem?_cons_zero]; rfl) (by kernel_rfl) (by kernel_rfl) (by kernel_rfl) (fun _ _ _ h => h) (by rfl) ?_ (by assumption) ?_; rotate_left; (focus ((intro w hSw; (try have hSw := HF.out _ hSw); (try dsimp only at hSw); go_simp); try exact rfl)); simp only [Act.put, List.setIfInBounds_toArray, List.set_cons_zero, List.set_cons_succ])
      refine anyL_ready (rs := [3]) (by kernel_rfl) (by simp) ?_; refine (ReadyL.cons (o := _) (by simp only [List.getElem?_toArray, List.getElem?_cons_succ, List.getElem?_cons_zero]; rfl) (fun K hK => ?_) ReadyL.nil)
      go_simp
      go_at_call 40
      refine (HMZ.out _ (b57.drew)).mono ?_
      rintro e w8 ⟨A5, c5, rfl, r5, a5, b5⟩
      have b78 : Below w7.heap.size w7 w8 := Below.trans (Below.refl _ _).drew b5
      have hz78 := b78.size
      refine hK.out _ _ b78 (fun hHeld => ?_)
      clear hK K; (try simp only [Act.put, List.setIfInBounds_toArray, List.set_cons_zero, List.set_cons_succ])
      (refine takeL_if (i := 9) (oi := _) (v := ?_) (by simp only [List.getElem?_toArray, List.getElem?_cons_succ, List.getElem?_cons_zero]; rfl) (by kernel_rfl) (by kernel_rfl) (by kernel_rfl) (fun _ _ _ h => h) (by rfl) ?_ (by assumption) ?_; rotate_left; (focus ((intro w hSw; (try have hSw := HF.out _ hSw); (try dsimp only at hSw); go_simp); try exact rfl)); simp only [Act.put, List.setIfInBounds_toArray, List.set_cons_zero, List.set_cons_succ])
      refine anyL_ready (rs := [10]) (by kernel_rfl) (by simp) ?_; refine (ReadyL.cons (o := _) (by simp only [List.getElem?_toArray, List.getElem?_cons_succ, List.getElem?_cons_zero]; rfl) (fun K hK => ?_) ReadyL.nil)
      go_simp
      have b79 : Below w7.heap.size w7 (w8.alloc (.cells #[.slice A4 mm c4, .slice A5 z.map.length c5, .bool ok, .pointer (some ⟨bl, 0, none⟩)] 63)) := b78.alloc hz78 _
      refine hK.out _ _ b79 (fun hHeld => ?_)
      clear hK K; (try simp only [Act.put, List.setIfInBounds_toArray, List.set_cons_zero, List.set_cons_succ])
      (refine takeL_if (i := 11) (oi := _) (v := ?_) (by simp only [List.getElem?_toArray, List.getElem?_cons_succ, List.getElem?_cons_zero]; rfl) (by kernel_rfl) (by kernel_rfl) (by kernel_rfl) (fun _ _ _ h => h) (by rfl) ?_ (by assumption) ?_; rotate_left; (focus ((intro w hSw; (try have hSw := HF.out _ hSw); (try dsimp only at hSw); go_simp); try exact rfl)); simp only [Act.put, List.setIfInBounds_toArray, List.set_cons_zero, List.set_cons_succ]; refine takeL_if (i := 12) (oi := _) (v := ?_) (by simp only [List.getElem?_toArray, List.getElem?_cons_succ, List.getElem?_cons_zero]; rfl) (by kernel_rfl) (by kernel_rfl) (by kernel_rfl) (fun _ _ _ h => h) (by rfl) ?_ (by assumption) ?_; rotate_left; (focus ((intro w hSw; (try have hSw := HF.out _ hSw); (try dsimp only at hSw); go_simp); try exact rfl)); simp only [Act.put, List.setIfInBounds_toArray, List.set_cons_zero, List.set_cons_succ])
      have kl := Bk.new w8 63 #[.slice A4 mm c4, .slice A5 z.map.length c5, .bool ok, .pointer (some ⟨bl, 0, none⟩)]
      have t9 := t7.ext b79
      have o9 := o7.ext b79
      have m9 := m7.ext b79
      have zin9 := zin7.ext b79
      have r9 := (r5.alloc (Nat.le_refl _) (.cells #[.slice A4 mm c4, .slice A5 z.map.length c5, .bool ok, .pointer (some ⟨bl, 0, none⟩)] 63)).more (B' := (w8.alloc (.cells #[.slice A4 mm c4, .slice A5 z.map.length c5, .bool ok, .pointer (some ⟨bl, 0, none⟩)] 63)).heap.size) (by simp)
      have rb9 := (rb7'.below b79).more b79.size
      have nn5 : ∀ a, A5 = some a → w7.heap.size ≤ a.block := fun a e => a5.2 a e
      have hb9 : Below w.heap.size w (w8.alloc (.cells #[.slice A4 mm c4, .slice A5 z.map.length c5, .bool ok, .pointer (some ⟨bl, 0, none⟩)] 63)) := hb8.trans (b79.mono hb8.size)
      have tc := t9.cell 0
      have tl := def_lt' t9
      have tf := t9.frozen
      dsimp at tc
      refine anyL_late (i := 13) (o := _) (by kernel_rfl) (by kernel_rfl) (by simp only [List.getElem?_toArray, List.getElem?_cons_succ, List.getElem?_cons_zero]; rfl) (fun K hK => ?_)
      go_simp
      refine hK.out _ _ ?_
      clear hK K; (try simp only [Act.put, List.setIfInBounds_toArray, List.set_cons_zero, List.set_cons_succ])
      refine anyL_done (by kernel_rfl) ?_
      have hbt1 : w.heap.size + 1 ≠ bt := by omega
      have hbt6 : b6 ≠ bt := by omega
      have hzw8 : w.heap.size ≤ w8.heap.size := Nat.le_trans hb8.size hz78
      have hbt8 : w8.heap.size ≠ bt := by omega
      have hof5 := Off.of_bk r9 (by decide) t9 (rgs_nop _)
      have hof4 := Off.of_bk rb9 (by decide) t9 (rgs_nop _)
      have hofz := StH.Off.of_bk zin9 t9
      have hlow : wc.heap.size ≤ w7.heap.size := hz57
      have hlc : w.heap.size + 1 < w1.heap.size := hlo
      have hwc1 : w1.heap.size ≤ wc.heap.size := hzc
      clear HF rb7' t7 o7 m7 zin7 r5 a5 b5 b78 b57 hHeld tc tl tf
      generalize w8.alloc (.cells #[.slice A4 mm c4, .slice A5 z.map.length c5, .bool ok, .pointer (some ⟨bl, 0, none⟩)] 63) = w9 at *
      have g10 : w9.grownBy (w9.setCell ⟨bt, 0, none⟩ (.pointer (some ⟨w8.heap.size, 0, none⟩))) (some bt) := gr_set (p := ⟨bt, 0, none⟩) (World.grownBy.refl w9 _) (.inl rfl) _
      have t10 : Bk (w9.setCell ⟨bt, 0, none⟩ (.pointer (some ⟨w8.heap.size, 0, none⟩))) bt 65 #[.pointer (some ⟨w8.heap.size, 0, none⟩)] := t9.set_ 0 _
      have o10 := o9.far (p := ⟨bt, 0, none⟩) hbt1 (.pointer (some ⟨w8.heap.size, 0, none⟩))
      have m10 := m9.far (p := ⟨bt, 0, none⟩) hbt6 (.pointer (some ⟨w8.heap.size, 0, none⟩))
      have l10 := kl.far (p := ⟨bt, 0, none⟩) hbt8 (.pointer (some ⟨w8.heap.size, 0, none⟩))
      have zin10 := zin9.grown g10 hofz (Nat.le_refl _)
      have r10 := r9.grown g10 hof5 (Nat.le_refl _)
      have rb10 := rb9.grown g10 hof4 (Nat.le_refl _)
      have gw : w.grownBy (w9.setCell ⟨bt, 0, none⟩ (.pointer (some ⟨w8.heap.size, 0, none⟩))) (some bt) := (gr_of_below hb9).trans g10
      have hz9 : w9.heap.size ≤ (w9.setCell ⟨bt, 0, none⟩ (.pointer (some ⟨w8.heap.size, 0, none⟩))).heap.size := by simp
      clear g10 t9 o9 m9 kl zin9 r9 rb9 hofz
      go_upto_region 8 with fail
      generalize w9.setCell ⟨bt, 0, none⟩ (.pointer (some ⟨w8.heap.size, 0, none⟩)) = w10 at *
      have l7 := def_lt' o10; have f7 := o10.frozen; have r0 := o10.cell 0; have r1 := o10.cell 1; have r2 := o10.cell 2; have r3 := o10.cell 3; have r4 := o10.cell 4; have r5 := o10.cell 5; have r6 := o10.cell 6; have r7 := o10.cell 7; have r8 := o10.cell 8; have r9 := o10.cell 9; have y0 := m10.cell 0; have y1 := m10.cell 1; have y2 := m10.cell 2; have y3 := m10.cell 3; have y4 := m10.cell 4; have y5 := m10.cell 5; have y6 := m10.cell 6; have y7 := m10.cell 7; have y8 := m10.cell 8; have y9 := m10.cell 9; dsimp [stp] at r0 r1 r2 r3 r4 r5 r6 r7 r8 r9 y0 y1 y2 y3 y4 y5 y6 y7 y8 y9
      go_wp2
      have y := stp_set o10 z.k z.f z.t z.g z.h z.i z.m z.v A2 n2 c2 A2' n2' c2'
      have v0 := y.cell 0; have v1 := y.cell 1; have v2 := y.cell 2; have v3 := y.cell 3; have v4 := y.cell 4; have v5 := y.cell 5; have v6 := y.cell 6; have v7 := y.cell 7; have v8 := y.cell 8; have v9 := y.cell 9
      dsimp [stp] at v0 v1 v2 v3 v4 v5 v6 v7 v8 v9
      have hsz : w10.heap.size ≤ (set10 w10 (w.heap.size + 1) z.k z.f z.t z.g z.h z.i z.m z.v A2 n2 c2 A2' n2' c2').heap.size := by rw [set10_size]; exact Nat.le_refl _
      have hsz9 := Nat.le_trans hz9 hsz
      have gf : w.grownBy (set10 w10 (w.heap.size + 1) z.k z.f z.t z.g z.h z.i z.m z.v A2 n2 c2 A2' n2' c2') (some bt) := set10_gr gw (.inr (by omega)) _ _ _ _ _ _ _ _ _ _ _ _ _ _
      have zinF : (StH.mk A2 n2 c2 A2' n2' c2' z).In (set10 w10 (w.heap.size + 1) z.k z.f z.t z.g z.h z.i z.m z.v A2 n2 c2 A2' n2' c2') (set10 w10 (w.heap.size + 1) z.k z.f z.t z.g z.h z.i z.m z.v A2 n2 c2 A2' n2' c2').heap.size :=
        ⟨(zin10.rd.blk (fun a e => set10_heap (by have := nn1 a e; omega) _ _ _ _ _ _ _ _ _ _ _ _ _ _)).more hsz9, (zin10.rd'.blk (fun a e => set10_heap (by have := nn2 a e; omega) _ _ _ _ _ _ _ _ _ _ _ _ _ _)).more hsz9, zin10.n, zin10.n', zin10.A, zin10.A'⟩
      have rF := (r10.blk (w' := set10 w10 (w.heap.size + 1) z.k z.f z.t z.g z.h z.i z.m z.v A2 n2 c2 A2' n2' c2') (fun a e => set10_heap (by have := nn5 a e; omega) _ _ _ _ _ _ _ _ _ _ _ _ _ _)).more hsz9
      have rbF := (rb10.blk (w' := set10 w10 (w.heap.size + 1) z.k z.f z.t z.g z.h z.i z.m z.v A2 n2 c2 A2' n2' c2') (fun a e => set10_heap (by have := nb a e; omega) _ _ _ _ _ _ _ _ _ _ _ _ _ _)).more hsz9
      have tF := set10_far t10 (Ne.symm hbt1) z.k z.f z.t z.g z.h z.i z.m z.v A2 n2 c2 A2' n2' c2'
      have lF := set10_far (b := w.heap.size + 1) l10 (by omega) z.k z.f z.t z.g z.h z.i z.m z.v A2 n2 c2 A2' n2' c2'
      have hlt := def_lt' lF
      have hm1 : MapAt (set10 w10 (w.heap.size + 1) z.k z.f z.t z.g z.h z.i z.m z.v A2 n2 c2 A2' n2' c2') (set10 w10 (w.heap.size + 1) z.k z.f z.t z.g z.h z.i z.m z.v A2 n2 c2 A2' n2' c2').heap.size A4 mm (invS x.map) := MapAt.mk rbF hmm
      have hm2 : MapAt (set10 w10 (w.heap.size + 1) z.k z.f z.t z.g z.h z.i z.m z.v A2 n2 c2 A2' n2' c2') (set10 w10 (w.heap.size + 1) z.k z.f z.t z.g z.h z.i z.m z.v A2 n2 c2 A2' n2' c2').heap.size A5 z.map.length z.map := MapAt.mk rF (Nat.le_trans hzm (by decide))
      have hlink : ∀ bx, bx < w.heap.size → LinkAt w w.heap.size bx bl m ks → LinkAt (set10 w10 (w.heap.size + 1) z.k z.f z.t z.g z.h z.i z.m z.v A2 n2 c2 A2' n2' c2') (set10 w10 (w.heap.size + 1) z.k z.f z.t z.g z.h z.i z.m z.v A2 n2 c2 A2' n2' c2').heap.size bx w8.heap.size m (⟨invS x.map, z.map, ok⟩ :: ks) := fun bx hbx hlx => LinkAt.cons (back := invS x.map) (over := z.map) (kept := ok) (A := A4) (A' := A5) (n := mm) (c := c4) (n' := z.map.length) (c' := c5) (b' := bl) hlt lF hm1 hm2 (.inr fun a e => by have := nb a e; omega) (.inr fun a e => by have := nn5 a e; omega) ((LinkAt.grown2 hlx HL.out gf HK.out (by decide) (Nat.le_refl _)).more gf.size)
      have HLINK := Lib.hid hlink
      have HGF := Lib.hid gf
      have HTF := Lib.hid tF
      have HZF := Lib.hid zinF
      clear hlink gf tF zinF rF rbF lF hlt r10 rb10 zin10 t10 l10 m10 gw
      refine bodyPost_ret (v := .tuple #[.agg (stp z.k z.f z.t z.g z.h z.i z.m z.v A2 n2 c2 A2' n2' c2'), .bool ok]) (by simp [results, Try.results24, go_sem, v0, v1, v2, v3, v4, v5, v6, v7, v8, v9]) rfl ⟨z, ok, A2, n2, c2, A2', n2', c2', w8.heap.size, rfl, HZF.out, by rw [HRES.out], HGF.out, HTF.out, by rw [HRES.out]; exact HLINK.out⟩

theorem tstep_any (m : List Rg) (ks : List Lk) (x : StC) (bt bl : Nat) (A : Option Addr) (n c : Nat) (A' : Option Addr) (n' c' : Nat) (w : World) (hk : Bk w bt 65 #[.pointer (some ⟨bl, 0, none⟩)]) (hl : LinkAt w w.heap.size bt bl m ks) (hin : (StH.mk A n c A' n' c' x).In w w.heap.size) :
    Calls Try.prog 24 #[.pointer (some ⟨bt, 0, none⟩), .agg (stp x.k x.f x.t x.g x.h x.i x.m x.v A n c A' n' c')] w (TStep m ks x bt bl w) := by
  cases hs : x.sh with
  | false => exact tstep_bad m ks x bt bl A n c A' n' c' w hk hl hin hs
  | true => exact tstep_good m ks x bt bl A n c A' n' c' w hk hl hin hs
end Go.Proofs.Ytmacfoebfpljoaa
