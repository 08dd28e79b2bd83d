/- merged texts: Ck Cov -/
import Derived.Test.YtmacfoebfpljoaaGreatMf7
import Derived.Test.YtmacfoebfpljoaaGreatMf4
namespace Go.Proofs.YtmacfoebfpljoaaGreat
open Go.RowKit
theorem mapB_len (k f t g h i m v : Int) (n n' : Nat) : (mapB k f t g h i m v n n').length ≤ 2 := by
  unfold mapB mapS
  split
  · split
    · simp
    · split <;> simp
  · simp
theorem invS_len (l : List Rg) (h : l.length ≤ 2) : (invS l).length ≤ 2 := by
  unfold invS
  split
  · rw [invM_length]; exact h
  · simp
theorem LinkAt.cons {w : World} {B bt b b' : Nat} {m back over : List Rg} {kept : Bool} {ks : List Lk} {A A' : Option Addr} {n c n' c' : Nat} (h1 : b < B) (hk : Bk w b 291 #[.slice A n c, .slice A' n' c', .bool kept, .pointer (some ⟨b', 0, none⟩)])
    (h2 : MapAt w B A n back) (h3 : MapAt w B A' n' over) (h4 : n = 0 ∨ Off bt A) (h5 : n' = 0 ∨ Off bt A') (h6 : LinkAt w B bt b' m ks) : LinkAt w B bt b m (⟨back, over, kept⟩ :: ks) := ⟨h1, A, n, c, A', n', c', b', hk, h2, h3, h4, h5, h6⟩
theorem stepT_ok {m : List Rg} {ks : List Lk} {x : StC} (hs : x.sh = true) (hr : rightM (invS x.map) = true) {z : StC} {ok : Bool} (hz : shiftB (tellL m ks) x = if ok = true then some z else none) (h0 : ok = false → z = StC.zero) :
    stepT m ks x = (⟨invS x.map, z.map, ok⟩ :: ks, if ok = true then some z else none) := by
  unfold stepT
  rw [if_pos hs]
  simp only
  rw [if_pos hr, hz]
  cases ok with
  | true => rfl
  | false =>
    rw [h0 rfl, zero_map]
    rfl
theorem stepT_no {m : List Rg} {ks : List Lk} {x : StC} (hs : x.sh = true) (hr : rightM (invS x.map) = false) : stepT m ks x = (ks, shiftB (tellL m ks) x) := by
  unfold stepT
  rw [if_pos hs]
  simp only
  rw [if_neg (by simp [hr])]
set_option maxRecDepth 100000 in
set_option maxHeartbeats 4000000 in
theorem tstep_good (m : List Rg) (ks : List Lk) (x : StC) (bt bl : Nat) (A : Option Addr) (n c : Nat) (A' : Option Addr) (n' c' : Nat) (w : World) (hk : Bk w bt 293 #[.pointer (some ⟨bl, 0, none⟩)]) (hl : LinkAt w w.heap.size bt bl m ks) (hin : (StH.mk A n c A' n' c' x).In w w.heap.size) (hs : x.sh = true) :
    Calls Tryz.prog 179 #[.pointer (some ⟨bt, 0, none⟩), .agg (stp x.k x.f x.t x.g x.h x.i x.m x.v A n c A' n' c')] w (TStep m ks x bt bl w) := by
  have hn1 : n ≤ maxLen := by have : n ≤ 1000000 := hin.n; unfold maxLen; omega
  have hn2 : n' ≤ maxLen := by have : n' ≤ 1000000 := hin.n'; unfold maxLen; omega
  have hsh := fun W (hb : Below w.heap.size w W) => calls_on hb (shape_any x.k x.f x.t x.g x.h x.i x.m x.v A A' n n' c c' W x.sl x.st hn1 hn2 ((hin.rd.below hb).more hb.size) ((hin.rd'.below hb).more hb.size))
  have e1 : x.sl.length = n := hin.len
  have e2 : x.st.length = n' := hin.len'
  have hv : shB x.k x.f x.t x.g x.h x.i x.m x.v n n' = true := by
    rw [← e1, ← e2]
    exact hs
  have hmp := fun W (hb : Below w.heap.size w W) => map_any x.k x.f x.t x.g x.h x.i x.m x.v A A' n n' c c' W x.sl x.st hn1 hn2 ((hin.rd.below hb).more hb.size) ((hin.rd'.below hb).more hb.size)
  have hxm : mapB x.k x.f x.t x.g x.h x.i x.m x.v n n' = x.map := by
    rw [← e1, ← e2]; rfl
  have hml : x.map.length ≤ 2 := by rw [← hxm]; exact mapB_len _ _ _ _ _ _ _ _ _ _
  rw [hv] at hsh
  rw [hxm] at hmp
  have hby := fun W (hb : Below w.heap.size w W) => (by_any (tellL m ks) bl w.heap.size x A n c A' n' c' W ((tells_link hl (Nat.le_refl _)).ext hb) (hin.ext hb) (tellL_bd m ks)).mono fun _ _ => bys_all
  have hst := fun (hr : rightM (invS x.map) = true) (z : StC) (ok : Bool) => stepT_ok (m := m) (ks := ks) hs hr (z := z) (ok := ok)
  have hsn := fun (hr : rightM (invS x.map) = false) => stepT_no (m := m) (ks := ks) hs hr
  have HS := Lib.hid hsh
  have HL := Lib.hid hl
  have HK := Lib.hid hk
  have HMP := Lib.hid hmp
  have HBY := Lib.hid hby
  have HST := Lib.hid hst
  have HSN := Lib.hid hsn
  have hlk := def_lt' hk
  clear hsh hv hs hin hl hby hst hsn hmp hxm e1 e2 hn1 hn2
  have k1 : Bk ((w.alloc (.cells (stp x.k x.f x.t x.g x.h x.i x.m x.v A n c A' n' c') 45)).alloc (.cells (stp 0 0 0 0 0 0 0 0 none 0 0 none 0 0) 45)) w.heap.size 45 (stp x.k x.f x.t x.g x.h x.i x.m x.v A n c A' n' c') := (Bk.new w _ _).alloc _
  have k2 : Bk ((w.alloc (.cells (stp x.k x.f x.t x.g x.h x.i x.m x.v A n c A' n' c') 45)).alloc (.cells (stp 0 0 0 0 0 0 0 0 none 0 0 none 0 0) 45)) (w.heap.size + 1) 45 (stp 0 0 0 0 0 0 0 0 none 0 0 none 0 0) := Bk.made _ _ (by simp)
  have hb0 : Below w.heap.size w ((w.alloc (.cells (stp x.k x.f x.t x.g x.h x.i x.m x.v A n c A' n' c') 45)).alloc (.cells (stp 0 0 0 0 0 0 0 0 none 0 0 none 0 0) 45)) := belowA
  go_enter Tryz.func179, Tryz.ntmps179
  go_upto_region 1 with fail
  generalize hw0 : (w.alloc (.cells (stp x.k x.f x.t x.g x.h x.i x.m x.v A n c A' n' c') 45)).alloc (.cells #[.int .i64 0, .int .i64 0, .int .i64 0, .int .i64 0, .int .i64 0, .int .i64 0, .int .i64 0, .int .i64 0, .slice none 0 0, .slice none 0 0] 45) = w0 at *
  clear hw0
  obtain ⟨p0, p1, p2, p3, p4, p5, p6, p7, p8, p9⟩ := bk10 k1
  go_upto_region 3 with (go_at_call 57; (refine (HS.out _ hb0).mono ?_); rintro e w1 ⟨rfl, hb1, hz1, hx1⟩)
  have x1 := k1.ext hx1
  have o1 := k2.ext hx1
  have t1 := hk.ext hb1
  clear k1 k2 hb0 hx1 p0 p1 p2 p3 p4 p5 p6 p7 p8 p9
  have hlo := def_lt' o1
  go_cut [6, 7] (fun u v wx => ∃ (b6 : Nat) (z : StC) (ok : Bool) (A2 : Option Addr) (n2 c2 : Nat) (A2' : Option Addr) (n2' c2' : Nat), u = .pointer (some ⟨b6, 0, none⟩) ∧ v = .bool ok ∧ Below w1.heap.size w1 wx ∧ w1.heap.size ≤ b6 ∧ Bk wx b6 45 (stp z.k z.f z.t z.g z.h z.i z.m z.v A2 n2 c2 A2' n2' c2') ∧ (StH.mk A2 n2 c2 A2' n2' c2' z).In wx wx.heap.size ∧ shiftB (tellL m ks) x = (if ok = true then some z else none) ∧ (ok = false → z = StC.zero) ∧ (∀ a, A2 = some a → w1.heap.size ≤ a.block) ∧ (∀ a, A2' = some a → w1.heap.size ≤ a.block))
  case first =>
    have hF : ∀ w', Below w1.heap.size w1 w' → w'.cell? ⟨w.heap.size, 0, none⟩ = some (.int .i64 x.k) ∧ w'.cell? ⟨w.heap.size, 1, none⟩ = some (.int .i64 x.f) ∧ w'.cell? ⟨w.heap.size, 2, none⟩ = some (.int .i64 x.t) ∧ w'.cell? ⟨w.heap.size, 3, none⟩ = some (.int .i64 x.g) ∧ w'.cell? ⟨w.heap.size, 4, none⟩ = some (.int .i64 x.h) ∧ w'.cell? ⟨w.heap.size, 5, none⟩ = some (.int .i64 x.i) ∧ w'.cell? ⟨w.heap.size, 6, none⟩ = some (.int .i64 x.m) ∧ w'.cell? ⟨w.heap.size, 7, none⟩ = some (.int .i64 x.v) ∧ w'.cell? ⟨w.heap.size, 8, none⟩ = some (.slice A n c) ∧ w'.cell? ⟨w.heap.size, 9, none⟩ = some (.slice A' n' c') ∧ w'.cell? ⟨bt, 0, none⟩ = some (.pointer (some ⟨bl, 0, none⟩)) := fun w' h => ⟨(x1.ext h).cell 0, (x1.ext h).cell 1, (x1.ext h).cell 2, (x1.ext h).cell 3, (x1.ext h).cell 4, (x1.ext h).cell 5, (x1.ext h).cell 6, (x1.ext h).cell 7, (x1.ext h).cell 8, (x1.ext h).cell 9, (t1.ext h).cell 0⟩
    have HF := Lib.hid hF
    clear hF HS HL HK HMP HST HSN
    refine wp_normal ?_
    refine wp_region_held_drew (S := fun w' => Below w1.heap.size w1 w') (by kernel_rfl) (Below.refl _ _).drew (fun hHeld => ?_)
    (refine tkH 0 ?_; refine tkH 1 ?_; refine tkH 2 ?_; refine tkH 3 ?_; refine tkH 4 ?_; refine tkH 5 ?_)
    refine wpAnyH_ready (rs := [6, 10]) (by kernel_rfl) (by simp) ?_; refine (AllReadyH.cons (o := _) (by simp only [List.getElem?_toArray, List.getElem?_cons_succ, List.getElem?_cons_zero]; rfl) (fun K hK => ?_) (AllReadyH.cons (o := _) (by simp only [List.getElem?_toArray, List.getElem?_cons_succ, List.getElem?_cons_zero]; rfl) (fun K hK => ?_) AllReadyH.nil))
    · go_simp
      go_at_call 213
      refine (HBY.out _ hb1.drew).mono ?_
      rintro e w4 ⟨z, ok, A2, n2, c2, A2', n2', c2', rfl, zin, zs, z0, znew, znew', hb4⟩
      have hx5 : Below w1.heap.size w1 w4 := Below.trans (Below.refl _ _).drew hb4
      have hx5s := hx5.size
      refine hK.out _ _ hx5 (fun hHeld => ?_)
      clear hK K; refine puH ?_
      (refine tkH 7 ?_; refine tkH 8 ?_; refine tkH 9 ?_)
      refine nxH 10 (fun K hK => ?_)
      go_simp
      refine hK.out _ _ belowA (fun hHeld => ?_)
      clear hK K; refine puH ?_
      refine nxH 11 (fun K hK => ?_)
      go_simp
      refine hK.out _ _ belowA (fun hHeld => ?_)
      clear hK K; refine puH ?_
      (refine tkH 12 ?_)
      refine wpAnyH_done (by kernel_rfl) ?_ _
      go_wp2
      go_meet
      exact ⟨_, z, ok, A2, n2, c2, A2', n2', c2', rfl, rfl, hHeld, hx5s, Bk.new w4 _ _, zin.ext ((Below.refl _ _).alloc (Nat.le_refl _) _), zs, fun h => (z0 h).1, znew, znew'⟩
    · go_simp
      refine hK.out _ _ belowA (fun hHeld => ?_)
      clear hK K; refine puH ?_
      refine nxH 6 (fun K hK => ?_)
      go_simp
      go_at_call 213
      refine (HBY.out _ belowA).mono ?_
      rintro e w4 ⟨z, ok, A2, n2, c2, A2', n2', c2', rfl, zin, zs, z0, znew, znew', hb4⟩
      have hx5 : Below w1.heap.size w1 w4 := Below.trans belowA (hb4.mono (by simp))
      have k10 : Bk w4 w1.heap.size 45 (stp 0 0 0 0 0 0 0 0 none 0 0 none 0 0) := (Bk.drew (Bk.new w1 45 _)).ext hb4
      have d0 := k10.cell 0; have d1 := k10.cell 1; have d2 := k10.cell 2; have d3 := k10.cell 3; have d4 := k10.cell 4; have d5 := k10.cell 5; have d6 := k10.cell 6; have d7 := k10.cell 7; have d8 := k10.cell 8; have d9 := k10.cell 9
      have cf := k10.frozen; have cl := def_lt' k10
      dsimp [stp] at d0 d1 d2 d3 d4 d5 d6 d7 d8 d9
      refine hK.out _ _ hx5 (fun hHeld => ?_)
      clear hK K; refine puH ?_
      (refine tkH 7 ?_; refine tkH 8 ?_; refine tkH 9 ?_)
      refine nxH 11 (fun K hK => ?_)
      go_simp
      refine hK.out _ _ belowA (fun hHeld => ?_)
      clear hK K; refine puH ?_
      (refine tkH 12 ?_)
      refine wpAnyH_done (by kernel_rfl) ?_ _
      go_wp2
      go_meet
      have hsz : w4.heap.size ≤ (set10 w4 w1.heap.size z.k z.f z.t z.g z.h z.i z.m z.v A2 n2 c2 A2' n2' c2').heap.size := by rw [set10_size]; exact Nat.le_refl _
      have nn1 : ∀ a, A2 = some a → a.block ≠ w1.heap.size := fun a e => by have := znew a e; simp at this; omega
      have nn2 : ∀ a, A2' = some a → a.block ≠ w1.heap.size := fun a e => by have := znew' a e; simp at this; omega
      exact ⟨_, z, ok, A2, n2, c2, A2', n2', c2', rfl, rfl, hHeld, Nat.le_refl _, stp_set k10 _ _ _ _ _ _ _ _ _ _ _ _ _ _, ⟨(zin.rd.blk (fun a e => set10_heap (nn1 a e) _ _ _ _ _ _ _ _ _ _ _ _ _ _)).more hsz, (zin.rd'.blk (fun a e => set10_heap (nn2 a e) _ _ _ _ _ _ _ _ _ _ _ _ _ _)).more hsz, zin.n, zin.n', zin.A, zin.A'⟩, zs, fun h => (z0 h).1, fun a e => (by have := znew a e; simp at this; omega), fun a e => (by have := znew' a e; simp at this; omega)⟩
  case rest =>
    obtain ⟨b6, z, ok, A2, n2, c2, A2', n2', c2', rfl, rfl, hb5, hle6, k6, zin, zs, z0, nn1, nn2⟩ := hcut
    have hzc := hb5.size
    have x5 := x1.ext hb5
    have o5 := o1.ext hb5
    have t5 := t1.ext hb5
    have hb6 := hb1.trans (hb5.mono hz1)
    have hz5 := hb6.size
    obtain ⟨p0, p1, p2, p3, p4, p5, p6, p7, p8, p9⟩ := bk10 x5
    have hne6 : w.heap.size + 1 ≠ b6 := by omega
    have hzm : z.map.length ≤ 2 := mapB_len _ _ _ _ _ _ _ _ _ _
    have e1 : z.sl.length = n2 := zin.len
    have e2 : z.st.length = n2' := zin.len'
    have hzm2 : mapB z.k z.f z.t z.g z.h z.i z.m z.v n2 n2' = z.map := by rw [← e1, ← e2]; rfl
    have hn3 : n2 ≤ maxLen := by have : n2 ≤ 1000000 := zin.n; unfold maxLen; omega
    have hn4 : n2' ≤ maxLen := by have : n2' ≤ 1000000 := zin.n'; unfold maxLen; omega
    have hmz := fun W (hb : Below wc.heap.size wc W) => map_anyn z.k z.f z.t z.g z.h z.i z.m z.v A2 A2' n2 n2' c2 c2' W z.sl z.st hn3 hn4 ((zin.rd.below hb).more hb.size) ((zin.rd'.below hb).more hb.size)
    rw [hzm2] at hmz
    have HMZ := Lib.hid hmz
    have HZI := Lib.hid zin
    have HZS := Lib.hid zs
    have HZ0 := Lib.hid z0
    have hil := invS_len x.map hml
    clear x1 o1 t1 hb1 hz1 hb5 HBY hmz zin zs z0 hzm2 e1 e2 hn3 hn4 HS
    have hri := fun (A4 : Option Addr) (mm c4 : Nat) (W : World) (h : Rd W W.heap.size 3 A4 mm (rgs (invS x.map))) => right_any A4 mm c4 (invS x.map) W (by have := h.rlen; unfold maxLen; omega) (fun _ => h) h.rlen
    cases hrb : rightM (invS x.map) with
    | false =>
      rw [hrb] at hri
      have HRI := Lib.hid hri
      have hres := HSN.out hrb
      have HRES := Lib.hid hres
      clear hri HST HSN hres HMZ HZ0
      go_wp2_with (first
        | (go_at_call 60; (refine (HMP.out _ hb6).mono ?_); rintro e w5 ⟨A3, c3, rfl, r3, a3, b3⟩)
        | (go_at_call 214; (refine (inv_any A3 _ c3 x.map w5 (by unfold maxLen; omega) (fun _ => r3) rfl).mono ?_); rintro e w6 ⟨v4, mm, rfl, ho4, hb4⟩; obtain ⟨A4, c4, rfl, q1, q2, q3, q4⟩ := own_form ho4)
        | (go_at_call 80; (refine (HRI.out A4 mm c4 w6 q4).mono ?_); rintro e w7 ⟨rfl, hb7⟩; have b57 : Below wc.heap.size wc w7 := (b3.trans (hb4.mono b3.size)).trans (hb7.mono (Nat.le_trans b3.size hb4.size)); have o7 := o5.ext b57; have m7 := k6.ext b57; have l7 := def_lt' o7; have f7 := o7.frozen; have r0 := o7.cell 0; have r1 := o7.cell 1; have r2 := o7.cell 2; have r3 := o7.cell 3; have r4 := o7.cell 4; have r5 := o7.cell 5; have r6 := o7.cell 6; have r7 := o7.cell 7; have r8 := o7.cell 8; have r9 := o7.cell 9; have y0 := m7.cell 0; have y1 := m7.cell 1; have y2 := m7.cell 2; have y3 := m7.cell 3; have y4 := m7.cell 4; have y5 := m7.cell 5; have y6 := m7.cell 6; have y7 := m7.cell 7; have y8 := m7.cell 8; have y9 := m7.cell 9; dsimp [stp] at r0 r1 r2 r3 r4 r5 r6 r7 r8 r9 y0 y1 y2 y3 y4 y5 y6 y7 y8 y9))
      have y := stp_set o7 z.k z.f z.t z.g z.h z.i z.m z.v A2 n2 c2 A2' n2' c2'
      obtain ⟨v0, v1, v2, v3, v4, v5, v6, v7, v8, v9⟩ := bk10 y
      have hb8 : Below w.heap.size w w7 := hb6.trans (b57.mono hz5)
      have hbe : Below w.heap.size w (set10 w7 (w.heap.size + 1) z.k z.f z.t z.g z.h z.i z.m z.v A2 n2 c2 A2' n2' c2') := belowA
      have hsz : w7.heap.size ≤ (set10 w7 (w.heap.size + 1) z.k z.f z.t z.g z.h z.i z.m z.v A2 n2 c2 A2' n2' c2').heap.size := by rw [set10_size]; exact Nat.le_refl _
      have zin7 := HZI.out.ext b57
      have zin8 : (StH.mk A2 n2 c2 A2' n2' c2' z).In (set10 w7 (w.heap.size + 1) z.k z.f z.t z.g z.h z.i z.m z.v A2 n2 c2 A2' n2' c2') (set10 w7 (w.heap.size + 1) z.k z.f z.t z.g z.h z.i z.m z.v A2 n2 c2 A2' n2' c2').heap.size :=
        ⟨(zin7.rd.blk (fun a e => set10_heap (by have := nn1 a e; omega) _ _ _ _ _ _ _ _ _ _ _ _ _ _)).more hsz, (zin7.rd'.blk (fun a e => set10_heap (by have := nn2 a e; omega) _ _ _ _ _ _ _ _ _ _ _ _ _ _)).more hsz, zin7.n, zin7.n', zin7.A, zin7.A'⟩
      refine bodyPost_ret (v := .tuple #[.agg (stp z.k z.f z.t z.g z.h z.i z.m z.v A2 n2 c2 A2' n2' c2'), .bool ok]) (by simp [results, Tryz.results179, go_sem, v0, v1, v2, v3, v4, v5, v6, v7, v8, v9]) rfl ⟨z, ok, A2, n2, c2, A2', n2', c2', bl, rfl, zin8, ?_, gr_of_below hbe, HK.out.ext hbe, ?_⟩
      · rw [HRES.out]; exact HZS.out
      · rw [HRES.out]; exact fun bx _ hlx => hlx.ext hbe
    | true =>
      rw [hrb] at hri
      have HRI := Lib.hid hri
      have hres := HST.out hrb z ok HZS.out HZ0.out
      have HRES := Lib.hid hres
      clear hri HST HSN hres HZ0
      go_upto_region 7 with (first
        | (go_at_call 60; (refine (HMP.out _ hb6).mono ?_); rintro e w5 ⟨A3, c3, rfl, r3, a3, b3⟩)
        | (go_at_call 214; (refine (inv_any A3 _ c3 x.map w5 (by unfold maxLen; omega) (fun _ => r3) rfl).mono ?_); rintro e w6 ⟨v4, mm, rfl, ho4, hb4⟩; obtain ⟨A4, c4, rfl, q1, q2, q3, q4⟩ := own_form ho4)
        | (go_at_call 80; (refine (HRI.out A4 mm c4 w6 q4).mono ?_); rintro e w7 ⟨rfl, hb7⟩))
      have b57 : Below wc.heap.size wc w7 := (b3.trans (hb4.mono b3.size)).trans (hb7.mono (Nat.le_trans b3.size hb4.size))
      have o7 := o5.ext b57
      have m7 := k6.ext b57
      have t7 := t5.ext b57
      have rb7 := (q4.below hb7).more hb7.size
      have nb : ∀ a, A4 = some a → wc.heap.size ≤ a.block := fun a e => by subst e; exact Nat.le_trans b3.size (own_ge ho4 a.block rfl)
      have hmm : mm ≤ 1000 := by have : (invS x.map).length = mm := q4.rlen; omega
      have rb7' : Rd w7 w7.heap.size 3 A4 mm (rgs (invS x.map)) := rb7
      have hb8 : Below w.heap.size w w7 := hb6.trans (b57.mono hz5)
      have hz57 := b57.size
      have zin7 := HZI.out.ext b57
      have hF : ∀ w', Below w7.heap.size w7 w' → w'.cell? ⟨b6, 0, none⟩ = some (.int .i64 z.k) ∧ w'.cell? ⟨b6, 1, none⟩ = some (.int .i64 z.f) ∧ w'.cell? ⟨b6, 2, none⟩ = some (.int .i64 z.t) ∧ w'.cell? ⟨b6, 3, none⟩ = some (.int .i64 z.g) ∧ w'.cell? ⟨b6, 4, none⟩ = some (.int .i64 z.h) ∧ w'.cell? ⟨b6, 5, none⟩ = some (.int .i64 z.i) ∧ w'.cell? ⟨b6, 6, none⟩ = some (.int .i64 z.m) ∧ w'.cell? ⟨b6, 7, none⟩ = some (.int .i64 z.v) ∧ w'.cell? ⟨b6, 8, none⟩ = some (.slice A2 n2 c2) ∧ w'.cell? ⟨b6, 9, none⟩ = some (.slice A2' n2' c2') ∧ w'.cell? ⟨bt, 0, none⟩ = some (.pointer (some ⟨bl, 0, none⟩)) := fun w' h => ⟨(m7.ext h).cell 0, (m7.ext h).cell 1, (m7.ext h).cell 2, (m7.ext h).cell 3, (m7.ext h).cell 4, (m7.ext h).cell 5, (m7.ext h).cell 6, (m7.ext h).cell 7, (m7.ext h).cell 8, (m7.ext h).cell 9, (t7.ext h).cell 0⟩
      have HF := Lib.hid hF
      clear hF r3 a3 b3 ho4 hb4 q1 q2 q3 q4 hb7 rb7 x5 o5 t5 k6 p0 p1 p2 p3 p4 p5 p6 p7 p8 p9
      refine wp_normal ?_
      refine region_L (S := fun w' => Below w7.heap.size w7 w') [13] (by kernel_rfl) (Below.refl _ _).drew (fun hHeld => ?_)
      (refine tkL 0 ?_; refine tkL 1 ?_; refine tkL 2 ?_; refine tkL 4 ?_; refine tkL 5 ?_; refine tkL 6 ?_; refine tkL 7 ?_; refine tkL 8 ?_)
      refine nxL 3 (fun K hK => ?_)
      go_simp
      go_at_call 60
      refine (HMZ.out _ (b57.drew)).mono ?_
      rintro e w8 ⟨A5, c5, rfl, r5, a5, b5⟩
      have b78 : Below w7.heap.size w7 w8 := Below.trans (Below.refl _ _).drew b5
      have hz78 := b78.size
      refine hK.out _ _ b78 (fun hHeld => ?_)
      clear hK K; refine puL ?_
      (refine tkL 9 ?_)
      refine nxL 10 (fun K hK => ?_)
      go_simp
      have b79 : Below w7.heap.size w7 (w8.alloc (.cells #[.slice A4 mm c4, .slice A5 z.map.length c5, .bool ok, .pointer (some ⟨bl, 0, none⟩)] 291)) := b78.alloc hz78 _
      refine hK.out _ _ b79 (fun hHeld => ?_)
      clear hK K; refine puL ?_
      (refine tkL 11 ?_; refine tkL 12 ?_)
      have kl := Bk.new w8 291 #[.slice A4 mm c4, .slice A5 z.map.length c5, .bool ok, .pointer (some ⟨bl, 0, none⟩)]
      have t9 := t7.ext b79
      have o9 := o7.ext b79
      have m9 := m7.ext b79
      have zin9 := zin7.ext b79
      have r9 := (r5.alloc (Nat.le_refl _) (.cells #[.slice A4 mm c4, .slice A5 z.map.length c5, .bool ok, .pointer (some ⟨bl, 0, none⟩)] 291)).more (B' := (w8.alloc (.cells #[.slice A4 mm c4, .slice A5 z.map.length c5, .bool ok, .pointer (some ⟨bl, 0, none⟩)] 291)).heap.size) (by simp)
      have rb9 := (rb7'.below b79).more b79.size
      have nn5 : ∀ a, A5 = some a → w7.heap.size ≤ a.block := fun a e => a5.2 a e
      have hb9 : Below w.heap.size w (w8.alloc (.cells #[.slice A4 mm c4, .slice A5 z.map.length c5, .bool ok, .pointer (some ⟨bl, 0, none⟩)] 291)) := hb8.trans (b79.mono hb8.size)
      have tc := t9.cell 0
      have tl := def_lt' t9
      have tf := t9.frozen
      dsimp at tc
      refine ltL 13 (fun K hK => ?_)
      go_simp
      refine hK.out _ _ ?_
      clear hK K; refine puL ?_
      refine anyL_done (by kernel_rfl) ?_
      have hbt1 : w.heap.size + 1 ≠ bt := by omega
      have hbt6 : b6 ≠ bt := by omega
      have hzw8 : w.heap.size ≤ w8.heap.size := Nat.le_trans hb8.size hz78
      have hbt8 : w8.heap.size ≠ bt := by omega
      have hof5 := Off.of_bk r9 (by decide) t9 (rgs_nop _)
      have hof4 := Off.of_bk rb9 (by decide) t9 (rgs_nop _)
      have hofz := StH.Off.of_bk zin9 t9
      have hlow : wc.heap.size ≤ w7.heap.size := hz57
      have hlc : w.heap.size + 1 < w1.heap.size := hlo
      have hwc1 : w1.heap.size ≤ wc.heap.size := hzc
      clear HF rb7' t7 o7 m7 zin7 r5 a5 b5 b78 b57 hHeld tc tl tf
      generalize w8.alloc (.cells #[.slice A4 mm c4, .slice A5 z.map.length c5, .bool ok, .pointer (some ⟨bl, 0, none⟩)] 291) = w9 at *
      have g10 : w9.grownBy (w9.setCell ⟨bt, 0, none⟩ (.pointer (some ⟨w8.heap.size, 0, none⟩))) (some bt) := gr_set (p := ⟨bt, 0, none⟩) (World.grownBy.refl w9 _) (.inl rfl) _
      have t10 : Bk (w9.setCell ⟨bt, 0, none⟩ (.pointer (some ⟨w8.heap.size, 0, none⟩))) bt 293 #[.pointer (some ⟨w8.heap.size, 0, none⟩)] := t9.set_ 0 _
      have o10 := o9.far (p := ⟨bt, 0, none⟩) hbt1 (.pointer (some ⟨w8.heap.size, 0, none⟩))
      have m10 := m9.far (p := ⟨bt, 0, none⟩) hbt6 (.pointer (some ⟨w8.heap.size, 0, none⟩))
      have l10 := kl.far (p := ⟨bt, 0, none⟩) hbt8 (.pointer (some ⟨w8.heap.size, 0, none⟩))
      have zin10 := zin9.grown g10 hofz (Nat.le_refl _)
      have r10 := r9.grown g10 hof5 (Nat.le_refl _)
      have rb10 := rb9.grown g10 hof4 (Nat.le_refl _)
      have gw : w.grownBy (w9.setCell ⟨bt, 0, none⟩ (.pointer (some ⟨w8.heap.size, 0, none⟩))) (some bt) := (gr_of_below hb9).trans g10
      have hz9 : w9.heap.size ≤ (w9.setCell ⟨bt, 0, none⟩ (.pointer (some ⟨w8.heap.size, 0, none⟩))).heap.size := by simp
      clear g10 t9 o9 m9 kl zin9 r9 rb9 hofz
      go_upto_region 8 with fail
      generalize w9.setCell ⟨bt, 0, none⟩ (.pointer (some ⟨w8.heap.size, 0, none⟩)) = w10 at *
      have l7 := def_lt' o10; have f7 := o10.frozen; have r0 := o10.cell 0; have r1 := o10.cell 1; have r2 := o10.cell 2; have r3 := o10.cell 3; have r4 := o10.cell 4; have r5 := o10.cell 5; have r6 := o10.cell 6; have r7 := o10.cell 7; have r8 := o10.cell 8; have r9 := o10.cell 9; have y0 := m10.cell 0; have y1 := m10.cell 1; have y2 := m10.cell 2; have y3 := m10.cell 3; have y4 := m10.cell 4; have y5 := m10.cell 5; have y6 := m10.cell 6; have y7 := m10.cell 7; have y8 := m10.cell 8; have y9 := m10.cell 9; dsimp [stp] at r0 r1 r2 r3 r4 r5 r6 r7 r8 r9 y0 y1 y2 y3 y4 y5 y6 y7 y8 y9
      go_wp2
      have y := stp_set o10 z.k z.f z.t z.g z.h z.i z.m z.v A2 n2 c2 A2' n2' c2'
      obtain ⟨v0, v1, v2, v3, v4, v5, v6, v7, v8, v9⟩ := bk10 y
      have hsz : w10.heap.size ≤ (set10 w10 (w.heap.size + 1) z.k z.f z.t z.g z.h z.i z.m z.v A2 n2 c2 A2' n2' c2').heap.size := by rw [set10_size]; exact Nat.le_refl _
      have hsz9 := Nat.le_trans hz9 hsz
      have gf : w.grownBy (set10 w10 (w.heap.size + 1) z.k z.f z.t z.g z.h z.i z.m z.v A2 n2 c2 A2' n2' c2') (some bt) := set10_gr gw (.inr (by omega)) _ _ _ _ _ _ _ _ _ _ _ _ _ _
      have zinF : (StH.mk A2 n2 c2 A2' n2' c2' z).In (set10 w10 (w.heap.size + 1) z.k z.f z.t z.g z.h z.i z.m z.v A2 n2 c2 A2' n2' c2') (set10 w10 (w.heap.size + 1) z.k z.f z.t z.g z.h z.i z.m z.v A2 n2 c2 A2' n2' c2').heap.size :=
        ⟨(zin10.rd.blk (fun a e => set10_heap (by have := nn1 a e; omega) _ _ _ _ _ _ _ _ _ _ _ _ _ _)).more hsz9, (zin10.rd'.blk (fun a e => set10_heap (by have := nn2 a e; omega) _ _ _ _ _ _ _ _ _ _ _ _ _ _)).more hsz9, zin10.n, zin10.n', zin10.A, zin10.A'⟩
      have rF := (r10.blk (w' := set10 w10 (w.heap.size + 1) z.k z.f z.t z.g z.h z.i z.m z.v A2 n2 c2 A2' n2' c2') (fun a e => set10_heap (by have := nn5 a e; omega) _ _ _ _ _ _ _ _ _ _ _ _ _ _)).more hsz9
      have rbF := (rb10.blk (w' := set10 w10 (w.heap.size + 1) z.k z.f z.t z.g z.h z.i z.m z.v A2 n2 c2 A2' n2' c2') (fun a e => set10_heap (by have := nb a e; omega) _ _ _ _ _ _ _ _ _ _ _ _ _ _)).more hsz9
      have tF := set10_far t10 (Ne.symm hbt1) z.k z.f z.t z.g z.h z.i z.m z.v A2 n2 c2 A2' n2' c2'
      have lF := set10_far (b := w.heap.size + 1) l10 (by omega) z.k z.f z.t z.g z.h z.i z.m z.v A2 n2 c2 A2' n2' c2'
      have hlt := def_lt' lF
      have hm1 : MapAt (set10 w10 (w.heap.size + 1) z.k z.f z.t z.g z.h z.i z.m z.v A2 n2 c2 A2' n2' c2') (set10 w10 (w.heap.size + 1) z.k z.f z.t z.g z.h z.i z.m z.v A2 n2 c2 A2' n2' c2').heap.size A4 mm (invS x.map) := MapAt.mk rbF hmm
      have hm2 : MapAt (set10 w10 (w.heap.size + 1) z.k z.f z.t z.g z.h z.i z.m z.v A2 n2 c2 A2' n2' c2') (set10 w10 (w.heap.size + 1) z.k z.f z.t z.g z.h z.i z.m z.v A2 n2 c2 A2' n2' c2').heap.size A5 z.map.length z.map := MapAt.mk rF (Nat.le_trans hzm (by decide))
      have hlink : ∀ bx, bx < w.heap.size → LinkAt w w.heap.size bx bl m ks → LinkAt (set10 w10 (w.heap.size + 1) z.k z.f z.t z.g z.h z.i z.m z.v A2 n2 c2 A2' n2' c2') (set10 w10 (w.heap.size + 1) z.k z.f z.t z.g z.h z.i z.m z.v A2 n2 c2 A2' n2' c2').heap.size bx w8.heap.size m (⟨invS x.map, z.map, ok⟩ :: ks) := fun bx hbx hlx => LinkAt.cons (back := invS x.map) (over := z.map) (kept := ok) (A := A4) (A' := A5) (n := mm) (c := c4) (n' := z.map.length) (c' := c5) (b' := bl) hlt lF hm1 hm2 (.inr fun a e => by have := nb a e; omega) (.inr fun a e => by have := nn5 a e; omega) ((LinkAt.grown2 hlx HL.out gf HK.out (by decide) (Nat.le_refl _)).more gf.size)
      have HLINK := Lib.hid hlink
      have HGF := Lib.hid gf
      have HTF := Lib.hid tF
      have HZF := Lib.hid zinF
      clear hlink gf tF zinF rF rbF lF hlt r10 rb10 zin10 t10 l10 m10 gw
      refine bodyPost_ret (v := .tuple #[.agg (stp z.k z.f z.t z.g z.h z.i z.m z.v A2 n2 c2 A2' n2' c2'), .bool ok]) (by simp [results, Tryz.results179, go_sem, v0, v1, v2, v3, v4, v5, v6, v7, v8, v9]) rfl ⟨z, ok, A2, n2, c2, A2', n2', c2', w8.heap.size, rfl, HZF.out, by rw [HRES.out], HGF.out, HTF.out, by rw [HRES.out]; exact HLINK.out⟩
theorem tstep_any (m : List Rg) (ks : List Lk) (x : StC) (bt bl : Nat) (A : Option Addr) (n c : Nat) (A' : Option Addr) (n' c' : Nat) (w : World) (hk : Bk w bt 293 #[.pointer (some ⟨bl, 0, none⟩)]) (hl : LinkAt w w.heap.size bt bl m ks) (hin : (StH.mk A n c A' n' c' x).In w w.heap.size) :
    Calls Tryz.prog 179 #[.pointer (some ⟨bt, 0, none⟩), .agg (stp x.k x.f x.t x.g x.h x.i x.m x.v A n c A' n' c')] w (TStep m ks x bt bl w) := by
  cases hs : x.sh with
  | false => exact tstep_bad m ks x bt bl A n c A' n' c' w hk hl hin hs
  | true => exact tstep_good m ks x bt bl A n c A' n' c' w hk hl hin hs
theorem gr_own {a w w1 : World} {row : Option Nat} {base size n : Nat} {e : TypeId} {v : Value} {xs : List Value} (hg : a.grownBy w row) (hown : w.ownsRow base e size v n xs) (hg2 : w.grownBy w1 v.ownBlock) (hB : a.heap.size ≤ base) : a.grownBy w1 row :=
  ⟨hg2.os.trans hg.os, hg2.tape.trans hg.tape, hg2.output.trans hg.output, Nat.le_trans hg.size hg2.size, fun i hi hne => (hg2.block i (Nat.lt_of_lt_of_le hi hg.size) (fun e => by have := own_ge hown i e.symm; omega)).trans (hg.block i hi hne)⟩
theorem gr_sub {a w w1 : World} {row : Option Nat} (hg : a.grownBy w row) (hb : Below w.heap.size w w1) : a.grownBy w1 row := hg.trans (gr_of_below hb)
abbrev set8 (W : World) (b : Nat) (v : Value) (pk pa pb bk ba bb lost : Int) : World := (((((((W.setCell ⟨b, 0, none⟩ v).setCell ⟨b, 1, none⟩ (.int .i64 pk)).setCell ⟨b, 2, none⟩ (.int .i64 pa)).setCell ⟨b, 3, none⟩ (.int .i64 pb)).setCell ⟨b, 4, none⟩ (.int .i64 bk)).setCell ⟨b, 5, none⟩ (.int .i64 ba)).setCell ⟨b, 6, none⟩ (.int .i64 bb)).setCell ⟨b, 7, none⟩ (.int .i64 lost)
theorem grp_set {W : World} {b : Nat} {v0 : Value} {p0 p1 p2 p3 p4 p5 p6 : Int} (hb : Bk W b 76 (grp v0 p0 p1 p2 p3 p4 p5 p6)) (v : Value) (pk pa pb bk ba bb lost : Int) : Bk (set8 W b v pk pa pb bk ba bb lost) b 76 (grp v pk pa pb bk ba bb lost) := by
  have q0 : Bk _ b 76 (grp v p0 p1 p2 p3 p4 p5 p6) := hb.set_ 0 v
  have q1 : Bk _ b 76 (grp v pk p1 p2 p3 p4 p5 p6) := q0.set_ 1 (.int .i64 pk)
  have q2 : Bk _ b 76 (grp v pk pa p2 p3 p4 p5 p6) := q1.set_ 2 (.int .i64 pa)
  have q3 : Bk _ b 76 (grp v pk pa pb p3 p4 p5 p6) := q2.set_ 3 (.int .i64 pb)
  have q4 : Bk _ b 76 (grp v pk pa pb bk p4 p5 p6) := q3.set_ 4 (.int .i64 bk)
  have q5 : Bk _ b 76 (grp v pk pa pb bk ba p5 p6) := q4.set_ 5 (.int .i64 ba)
  have q6 : Bk _ b 76 (grp v pk pa pb bk ba bb p6) := q5.set_ 6 (.int .i64 bb)
  exact q6.set_ 7 (.int .i64 lost)
set_option maxRecDepth 100000 in
set_option maxHeartbeats 4000000 in
theorem over_no (A : Option Addr) (n c : Nat) (L : List GrH) (Am : Option Addr) (nm cm : Nat) (m : List Rg) (w : World) (h : GrsIn w w.heap.size A n L) (hn : n ≤ 1000) (hs : ∀ g ∈ L, g.n ≤ 1000) (hm : MapAt w w.heap.size Am nm m) (hr : rightM m = false) :
    Calls Tryz.prog 135 #[.slice A n c, .slice Am nm cm] w (GrsOut (overC m (L.map GrH.val)) w) := by
  have hri := fun W (hb : Below w.heap.size w W) => calls_on hb (right_any Am nm cm m W (by have := hm.n; unfold maxLen; omega) (fun _ => (hm.rd.below hb).more hb.size) hm.rd.rlen)
  rw [hr] at hri
  have HRI := Lib.hid hri
  have hcp := fun W (hb : Below w.heap.size w W) => copy_any A n c L W (h.ext hb) hn hs
  have HCP := Lib.hid hcp
  have hv : overC m (L.map GrH.val) = L.map GrH.val := by unfold overC; rw [hr]; rfl
  rw [hv]
  clear h hs hm hr hri hcp
  go_enter Tryz.func135, Tryz.ntmps135
  go_wp2_with (first
    | (go_at_call 80; (refine (HRI.out _ (Below.refl _ _)).mono ?_); rintro e w1 ⟨rfl, hb1, hz1, hx1⟩)
    | (go_at_call 75; (refine (HCP.out _ hb1).mono ?_); rintro e w2 ⟨v, L', rfl, ho, hO, hV, hb2⟩))
  go_ret
  exact ⟨v, L', rfl, own_base ho hz1, fun g hg => (hO g hg).base_ hz1, hV, hb1.trans (hb2.mono hz1)⟩
set_option maxRecDepth 100000 in
set_option maxHeartbeats 8000000 in
theorem over_yes (A : Option Addr) (n c : Nat) (L : List GrH) (Am : Option Addr) (nm cm : Nat) (m : List Rg) (w : World) (h : GrsIn w w.heap.size A n L) (hn : n ≤ 1000) (hs : ∀ g ∈ L, g.n ≤ 1000) (hlb : ∀ g ∈ L, -9223372036854775808 ≤ g.lost ∧ g.lost ≤ 9223372036854775807) (hm : MapAt w w.heap.size Am nm m) (hr : rightM m = true) :
    Calls Tryz.prog 135 #[.slice A n c, .slice Am nm cm] w (GrsOut (overC m (L.map GrH.val)) w) := by
  have hri := fun W (hb : Below w.heap.size w W) => calls_on hb (right_any Am nm cm m W (by have := hm.n; unfold maxLen; omega) (fun _ => (hm.rd.below hb).more hb.size) hm.rd.rlen)
  rw [hr] at hri
  have HRI := Lib.hid hri
  have hv : overC m (L.map GrH.val) = (overG m [] (L.map GrH.val)).2 := by unfold overC; rw [hr]; rfl
  rw [hv]
  have hlen := h.len
  have H := Lib.hid h
  have HS := Lib.hid hs
  have HLB := Lib.hid hlb
  have HLEN := Lib.hid hlen
  have HM := Lib.hid hm
  clear h hs hm hr hri hv hlen hlb
  go_enter Tryz.func135, Tryz.ntmps135
  go_upto_region 4 with (first
    | (go_at_call 80; (refine (HRI.out _ (Below.refl _ _)).mono ?_); rintro e w1 ⟨rfl, hb1, hz1, hx1⟩))
  have kt : Bk ((w1.alloc (.cells #[.slice none 0 0, .slice Am nm cm, .bool false, .pointer none] 291)).alloc (.cells #[.pointer (some ⟨w1.heap.size, 0, none⟩)] 293)) (w1.heap.size + 1) 293 #[.pointer (some ⟨w1.heap.size, 0, none⟩)] := Bk.made _ _ (by simp)
  have kl : Bk ((w1.alloc (.cells #[.slice none 0 0, .slice Am nm cm, .bool false, .pointer none] 291)).alloc (.cells #[.pointer (some ⟨w1.heap.size, 0, none⟩)] 293)) w1.heap.size 291 #[.slice none 0 0, .slice Am nm cm, .bool false, .pointer none] := (Bk.new w1 291 _).alloc _
  have hb2 : Below w.heap.size w ((w1.alloc (.cells #[.slice none 0 0, .slice Am nm cm, .bool false, .pointer none] 291)).alloc (.cells #[.pointer (some ⟨w1.heap.size, 0, none⟩)] 293)) := belowA
  have hz2 : w1.heap.size + 1 < ((w1.alloc (.cells #[.slice none 0 0, .slice Am nm cm, .bool false, .pointer none] 291)).alloc (.cells #[.pointer (some ⟨w1.heap.size, 0, none⟩)] 293)).heap.size := by simp
  generalize (w1.alloc (.cells #[.slice none 0 0, .slice Am nm cm, .bool false, .pointer none] 291)).alloc (.cells #[.pointer (some ⟨w1.heap.size, 0, none⟩)] 293) = w2 at *
  have hl0 : LinkAt w2 w2.heap.size (w1.heap.size + 1) w1.heap.size m [] := ⟨by omega, Am, nm, cm, _, kl, (HM.out.below hb2).more hb2.size, (by
    rcases Nat.eq_zero_or_pos nm with h0 | h0
    · exact .inl h0
    · exact .inr (Off.of_rd HM.out.rd h0 (by omega)))⟩
  obtain ⟨bt, hbt⟩ : ∃ bt, bt = w1.heap.size + 1 := ⟨_, rfl⟩
  obtain ⟨bl0, hbl0⟩ : ∃ bl0, bl0 = w1.heap.size := ⟨_, rfl⟩
  rw [← hbt] at kt hl0 ⊢
  rw [← hbl0] at kt hl0
  have hwt : w.heap.size ≤ bt := by omega
  clear kl hz2 HRI HM hx1 hb1 hz1 hbt hbl0
  go_wp2
  go_loopw [6, 26] (fun v j wr => ∃ (q : Nat) (Lo : List GrH) (bl : Nat) (vo : Value), v = vo ∧ q ≤ n ∧ j = .int .i64 q ∧ Hid (Lo.map GrH.val = (overG m [] ((L.map GrH.val).take q)).2) ∧ Below w.heap.size w wr ∧ Bk wr bt 293 #[.pointer (some ⟨bl, 0, none⟩)] ∧ Hid (∀ bx, bx = bt ∨ vo.ownBlock = some bx → LinkAt wr wr.heap.size bx bl m (overG m [] ((L.map GrH.val).take q)).1) ∧ wr.ownsRow w.heap.size 76 8 vo Lo.length (grs Lo) ∧ Hid (∀ g ∈ Lo, g.Own wr w.heap.size)) (fun _ j _ => n - (intOf j).toNat)
  case atStart => exact ⟨0, [], bl0, _, rfl, by omega, rfl, Lib.hid (by simp [overG]), hb2, kt, Lib.hid (fun bx hx => by rcases hx with rfl | hx; (· simpa [overG] using hl0); (· simp [Value.ownBlock] at hx)), World.ownsRow_nil _ _ _ _, Lib.hid (by simp)⟩
  case round =>
    rename World => wo
    obtain ⟨q, Lo, bl, vo, hvo, hq, rfl, hval, hbr, kto, hlk, hown, hLo⟩ := hrel
    have hvo' := hvo.symm
    clear hvo
    subst hvo'
    by_cases hqn : q < n
    · obtain ⟨g, hx⟩ : ∃ g, L[q]? = some g := ⟨_, List.getElem?_eq_getElem (by have := HLEN.out; omega)⟩
      obtain ⟨gin, b, o, rfl, hb, hcc⟩ := (H.out.below hbr).at_ hx
      have hgn := HS.out g (List.mem_of_getElem? hx)
      have hxv : (L.map GrH.val)[q]? = some g.val := by rw [List.getElem?_map, hx]; rfl
      have hsn := overG_snoc (m := m) [] hxv
      have HSN := Lib.hid hsn
      have gin0 := (H.out.2 g (List.mem_of_getElem? hx))
      have glb := HLB.out g (List.mem_of_getElem? hx)
      have hlo : Lo.length = q := by
        have := congrArg List.length hval.out
        simp only [List.length_map, overG_len, List.length_take] at this
        have := HLEN.out
        omega
      have HLO := Lib.hid hlo
      clear hlo hsn hxv kt hl0
      obtain ⟨gA, gn, gc, gL, ⟨pk, pa, pb⟩, ⟨bk, ba, bb⟩, glost⟩ := g
      have d0 := hcc 0 (by omega); have d1 := hcc 1 (by omega); have d2 := hcc 2 (by omega); have d3 := hcc 3 (by omega); have d4 := hcc 4 (by omega); have d5 := hcc 5 (by omega); have d6 := hcc 6 (by omega); have d7 := hcc 7 (by omega)
      dsimp [GrH.cells] at d0 d1 d2 d3 d4 d5 d6 d7 hgn glb
      have e3 : (q : Int) < n := by omega
      have hbw := hbr.size
      have GIN := Lib.hid gin0
      have hglen : gL.length = gn := gin0.sts.len
      generalize hks : (overG m [] ((L.map GrH.val).take q)).1 = ks at *
      have hpy := fun W (hb : Below wo.heap.size wo W) => calls_on hb (pinby_any (tellL m ks) bl wo.heap.size bk ba bb W ((tells_link (hlk.out bt (.inl rfl)) (Nat.le_refl _)).ext hb))
      have HPY := Lib.hid hpy
      have k8 : Bk (wo.alloc (.cells #[.slice gA gn gc, .int .i64 pk, .int .i64 pa, .int .i64 pb, .int .i64 bk, .int .i64 ba, .int .i64 bb, .int .i64 glost] 76)) wo.heap.size 76 (grp (.slice gA gn gc) pk pa pb bk ba bb glost) := Bk.new wo _ _
      have kt8 := kto.alloc (.cells #[.slice gA gn gc, .int .i64 pk, .int .i64 pa, .int .i64 pb, .int .i64 bk, .int .i64 ba, .int .i64 bb, .int .i64 glost] 76)
      have hb8 : Below wo.heap.size wo (wo.alloc (.cells #[.slice gA gn gc, .int .i64 pk, .int .i64 pa, .int .i64 pb, .int .i64 bk, .int .i64 ba, .int .i64 bb, .int .i64 glost] 76)) := belowA
      have hz8 : (wo.alloc (.cells #[.slice gA gn gc, .int .i64 pk, .int .i64 pa, .int .i64 pb, .int .i64 bk, .int .i64 ba, .int .i64 bb, .int .i64 glost] 76)).heap.size = wo.heap.size + 1 := by simp
      have HZ8 := Lib.hid hz8
      clear hx hcc gin gin0 hpy hz8
      go_upto_region 8 with fail
      generalize wo.alloc (.cells #[.slice gA gn gc, .int .i64 pk, .int .i64 pa, .int .i64 pb, .int .i64 bk, .int .i64 ba, .int .i64 bb, .int .i64 glost] 76) = w8 at *
      have hF : ∀ w', Below w8.heap.size w8 w' → w'.cell? ⟨wo.heap.size, 4, none⟩ = some (.int .i64 bk) ∧ w'.cell? ⟨wo.heap.size, 5, none⟩ = some (.int .i64 ba) ∧ w'.cell? ⟨wo.heap.size, 6, none⟩ = some (.int .i64 bb) ∧ w'.cell? ⟨wo.heap.size, 7, none⟩ = some (.int .i64 glost) ∧ w'.cell? ⟨bt, 0, none⟩ = some (.pointer (some ⟨bl, 0, none⟩)) := fun w' h => ⟨(k8.ext h).cell 4, (k8.ext h).cell 5, (k8.ext h).cell 6, (k8.ext h).cell 7, (kt8.ext h).cell 0⟩
      have HF := Lib.hid hF
      clear hF d0 d1 d2 d3 d4 d5 d6 d7
      go_cut [9] (fun u wx => ∃ b9 : Nat, u = .pointer (some ⟨b9, 0, none⟩) ∧ Below w8.heap.size w8 wx ∧ w8.heap.size ≤ b9 ∧ Bk wx b9 76 (grp (.slice none 0 0) 0 0 0 (pinB (tellL m ks) ⟨bk, ba, bb⟩).k (pinB (tellL m ks) ⟨bk, ba, bb⟩).a (pinB (tellL m ks) ⟨bk, ba, bb⟩).b glost))
      case first =>
        refine wp_normal ?_
        refine wp_region_held_drew (S := fun w' => Below w8.heap.size w8 w') (by kernel_rfl) (Below.refl _ _).drew (fun hHeld => ?_)
        (refine tkH 0 ?_; refine tkH 1 ?_; refine tkH 2 ?_; refine tkH 3 ?_; refine tkH 4 ?_; refine tkH 5 ?_; refine tkH 6 ?_; refine tkH 8 ?_; refine tkH 9 ?_)
        refine wpAnyH_ready (rs := [7, 11]) (by kernel_rfl) (by simp) ?_; refine (AllReadyH.cons (o := _) (by simp only [List.getElem?_toArray, List.getElem?_cons_succ, List.getElem?_cons_zero]; rfl) (fun K hK => ?_) (AllReadyH.cons (o := _) (by simp only [List.getElem?_toArray, List.getElem?_cons_succ, List.getElem?_cons_zero]; rfl) (fun K hK => ?_) AllReadyH.nil))
        · go_simp
          go_at_call 177
          refine (HPY.out _ hb8.drew).mono ?_
          rintro e w9 ⟨rfl, hb9, hz9, hx9⟩
          have hx9' : Below w8.heap.size w8 w9 := Below.trans (Below.refl _ _).drew hx9
          have hxs9 := hx9'.size
          refine hK.out _ _ hx9' (fun hHeld => ?_)
          clear hK K; refine puH ?_
          (refine tkH 10 ?_)
          refine nxH 11 (fun K hK => ?_)
          go_simp
          refine hK.out _ _ belowA (fun hHeld => ?_)
          clear hK K; refine puH ?_
          refine nxH 12 (fun K hK => ?_)
          go_simp
          refine hK.out _ _ belowA (fun hHeld => ?_)
          clear hK K; refine puH ?_
          refine wpAnyH_done (by kernel_rfl) ?_ _
          go_wp2
          go_meet
          exact ⟨_, rfl, hHeld, hx9'.size, Bk.new w9 _ _⟩
        · go_simp
          refine hK.out _ _ belowA (fun hHeld => ?_)
          clear hK K; refine puH ?_
          refine nxH 7 (fun K hK => ?_)
          go_simp
          go_at_call 177
          have hA8 : Below w8.heap.size w8 (w8.alloc (.cells #[.slice none 0 0, .int .i64 0, .int .i64 0, .int .i64 0, .int .i64 0, .int .i64 0, .int .i64 0, .int .i64 0] 76)).drew := belowA
          refine (HPY.out _ (hb8.trans (hA8.mono hb8.size))).mono ?_
          rintro e w9 ⟨rfl, hb9, hz9, hx9⟩
          have hx9' : Below w8.heap.size w8 w9 := Below.trans hA8 (hx9.mono (by simp))
          have k10 : Bk w9 w8.heap.size 76 (grp (.slice none 0 0) 0 0 0 0 0 0 0) := (Bk.drew (Bk.new w8 76 _)).ext hx9
          have f10 := k10.frozen; have l10 := def_lt' k10
          have d0 := k10.cell 0; have d1 := k10.cell 1; have d2 := k10.cell 2; have d3 := k10.cell 3; have d4 := k10.cell 4; have d5 := k10.cell 5; have d6 := k10.cell 6; have d7 := k10.cell 7
          dsimp [grp] at d0 d1 d2 d3 d4 d5 d6 d7
          refine hK.out _ _ hx9' (fun hHeld => ?_)
          clear hK K; refine puH ?_
          (refine tkH 10 ?_)
          refine nxH 12 (fun K hK => ?_)
          go_simp
          refine hK.out _ _ belowA (fun hHeld => ?_)
          clear hK K; refine puH ?_
          refine wpAnyH_done (by kernel_rfl) ?_ _
          go_wp2
          go_meet
          exact ⟨_, rfl, hHeld, Nat.le_refl _, grp_set k10 _ _ _ _ _ _ _ _⟩
      case rest =>
        rename World => w9
        obtain ⟨b9, rfl, hb9, hle9, k9⟩ := hcut
        have hb9' : Below wo.heap.size wo w9 := hb8.trans (hb9.mono hb8.size)
        have kt9 := kto.ext hb9'
        have kg9 := k8.ext hb9
        have hlk9 : ∀ bx, bx = bt ∨ bx = b9 ∨ vo.ownBlock = some bx → LinkAt w9 w9.heap.size bx bl m ks := by
          intro bx hx
          rcases hx with hx | rfl | hx
          · exact (hlk.out bx (.inl hx)).ext hb9'
          · exact ((hlk.out bt (.inl rfl)).fresh (by have := HZ8.out; omega)).ext hb9'
          · exact (hlk.out bx (.inr hx)).ext hb9'
        have hne9 : b9 ≠ bt := by have := def_lt' kto; have := hb8.size; omega
        have hne8 : b9 ≠ wo.heap.size := by have := HZ8.out; omega
        have hle9' : wo.heap.size ≤ b9 := by have := HZ8.out; omega
        have hgr9 : wo.grownBy w9 (some bt) := gr_of_below hb9'
        have d0 := kg9.cell 0
        dsimp [grp] at d0
        generalize hP : pinB (tellL m ks) ⟨bk, ba, bb⟩ = P at *
        have gw : IntKind.i64.wrap (glost + ((0 : Nat) : Int)) = glost := by rw [IntWalk.i64_in _ (by omega)]; omega
        have HGW := Lib.hid gw
        clear HPY HF hb9 hb9' k8 kt8 hb8 gw
        go_wp2
        go_loopw [44] (fun j wr => ∃ (p : Nat) (Lp : List StH) (v5 : Value) (bl2 : Nat) (z : Int), p ≤ gn ∧ j = .int .i64 p ∧ Hid (Lp.map StH.x = (runG m ks ((gL.map StH.x).take p)).2.1) ∧ Hid (Lp.length ≤ p) ∧ Hid (z = IntKind.i64.wrap (glost + ((runG m ks ((gL.map StH.x).take p)).2.2 : Nat))) ∧ wo.grownBy wr (some bt) ∧ Bk wr bt 293 #[.pointer (some ⟨bl2, 0, none⟩)] ∧ Hid (∀ bx, bx = bt ∨ bx = b9 ∨ v5.ownBlock = some bx ∨ vo.ownBlock = some bx → LinkAt wr wr.heap.size bx bl2 m (runG m ks ((gL.map StH.x).take p)).1) ∧ Bk wr b9 76 (grp v5 0 0 0 P.k P.a P.b z) ∧ Bk wr wo.heap.size 76 (grp (.slice gA gn gc) pk pa pb bk ba bb glost) ∧ wr.ownsRow wo.heap.size 45 10 v5 Lp.length (sts Lp) ∧ Hid (∀ s ∈ Lp, s.Own wr wo.heap.size)) (fun j _ => gn - (intOf j).toNat)
        case atStart => exact ⟨0, [], _, bl, glost, by omega, rfl, Lib.hid (by simp [runG]), Lib.hid (by simp), Lib.hid (by simp only [List.take_zero, runG]; exact HGW.out.symm), hgr9, kt9, Lib.hid (fun bx hx => by rcases hx with hx | hx | hx | hx; (· simpa [runG] using hlk9 bx (.inl hx)); (· simpa [runG] using hlk9 bx (.inr (.inl hx))); (· simp [Value.ownBlock] at hx); (· simpa [runG] using hlk9 bx (.inr (.inr hx)))), k9, kg9, World.ownsRow_nil _ _ _ _, Lib.hid (by simp)⟩
        case round =>
          obtain ⟨p, Lp, v5, bl2, z, hp, rfl, hpv, hlp, hz, hgr, ktq, hlq, k9q, kgq, hown5, hLp⟩ := hrel
          by_cases hpn : p < gn
          · obtain ⟨s, hxs⟩ : ∃ s, gL[p]? = some s := ⟨_, List.getElem?_eq_getElem (by omega)⟩
            have hbwq : Below w.heap.size w wr := hbr.trans (gr_below hgr hbw (fun k e => by injection e with e; omega))
            obtain ⟨sin, bs, os, rfl, hbs, hcs⟩ := (GIN.out.sts.below hbwq).at_ hxs
            have hxv : (gL.map StH.x)[p]? = some s.x := by rw [List.getElem?_map, hxs]; rfl
            have hsn := runG_snoc (m := m) ks hxv
            have HSN2 := Lib.hid hsn
            obtain ⟨sA, sn, sc, sA', sn', sc', ⟨xk, xf, xt, xg, xh, xi, xm, xv, xsl, xst⟩⟩ := s
            have c0 := hcs 0 (by omega); have c1 := hcs 1 (by omega); have c2 := hcs 2 (by omega); have c3 := hcs 3 (by omega); have c4 := hcs 4 (by omega); have c5 := hcs 5 (by omega); have c6 := hcs 6 (by omega); have c7 := hcs 7 (by omega); have c8 := hcs 8 (by omega); have c9 := hcs 9 (by omega)
            dsimp [StH.cells] at c0 c1 c2 c3 c4 c5 c6 c7 c8 c9
            have e4 : (p : Int) < gn := by omega
            have hbqz := hgr.size
            have SIN := Lib.hid (sin.more (Nat.le_trans hbw hbqz))
            clear hxs hcs hxv hsn sin
            go_wp2_with (go_at_call 179; fail)
            clear c0 c1 c2 c3 c4 c5 c6 c7 c8 c9
            have hownr : wr.ownsRow w.heap.size 76 8 vo Lo.length (grs Lo) := own_grow hown hgr (fun g e => by injection e with e; subst e; exact own_ne hown kto (by decide))
            have hb11 : Below wr.heap.size wr (wr.alloc (.cells #[.int .i64 xk, .int .i64 xf, .int .i64 xt, .int .i64 xg, .int .i64 xh, .int .i64 xi, .int .i64 xm, .int .i64 xv, .slice sA sn sc, .slice sA' sn' sc'] 45)) := belowA
            have kt11 := ktq.alloc (.cells #[.int .i64 xk, .int .i64 xf, .int .i64 xt, .int .i64 xg, .int .i64 xh, .int .i64 xi, .int .i64 xm, .int .i64 xv, .slice sA sn sc, .slice sA' sn' sc'] 45)
            have k911 := k9q.alloc (.cells #[.int .i64 xk, .int .i64 xf, .int .i64 xt, .int .i64 xg, .int .i64 xh, .int .i64 xi, .int .i64 xm, .int .i64 xv, .slice sA sn sc, .slice sA' sn' sc'] 45)
            have kg11 := kgq.alloc (.cells #[.int .i64 xk, .int .i64 xf, .int .i64 xt, .int .i64 xg, .int .i64 xh, .int .i64 xi, .int .i64 xm, .int .i64 xv, .slice sA sn sc, .slice sA' sn' sc'] 45)
            have own11 : (wr.alloc (.cells #[.int .i64 xk, .int .i64 xf, .int .i64 xt, .int .i64 xg, .int .i64 xh, .int .i64 xi, .int .i64 xm, .int .i64 xv, .slice sA sn sc, .slice sA' sn' sc'] 45)).ownsRow wo.heap.size 45 10 v5 Lp.length (sts Lp) := World.ownsRow.alloc (w := wr) hown5 _
            have hgr11 := gr_alloc hgr (.cells #[.int .i64 xk, .int .i64 xf, .int .i64 xt, .int .i64 xg, .int .i64 xh, .int .i64 xi, .int .i64 xm, .int .i64 xv, .slice sA sn sc, .slice sA' sn' sc'] 45)
            have hl11 : ∀ bx, bx = bt ∨ bx = b9 ∨ v5.ownBlock = some bx ∨ vo.ownBlock = some bx → LinkAt (wr.alloc (.cells #[.int .i64 xk, .int .i64 xf, .int .i64 xt, .int .i64 xg, .int .i64 xh, .int .i64 xi, .int .i64 xm, .int .i64 xv, .slice sA sn sc, .slice sA' sn' sc'] 45)) (wr.alloc (.cells #[.int .i64 xk, .int .i64 xf, .int .i64 xt, .int .i64 xg, .int .i64 xh, .int .i64 xi, .int .i64 xm, .int .i64 xv, .slice sA sn sc, .slice sA' sn' sc'] 45)).heap.size bx bl2 m (runG m ks ((gL.map StH.x).take p)).1 ∧ bx < (wr.alloc (.cells #[.int .i64 xk, .int .i64 xf, .int .i64 xt, .int .i64 xg, .int .i64 xh, .int .i64 xi, .int .i64 xm, .int .i64 xv, .slice sA sn sc, .slice sA' sn' sc'] 45)).heap.size := by
              intro bx hx
              refine ⟨(hlq.out bx hx).ext hb11, ?_⟩
              rcases hx with rfl | rfl | hx | hx
              · exact def_lt' kt11
              · exact def_lt' k911
              · exact own_lt own11 bx hx
              · exact Nat.lt_of_lt_of_le (own_lt hownr bx hx) hb11.size
            have hLp11 : ∀ s ∈ Lp, s.Own (wr.alloc (.cells #[.int .i64 xk, .int .i64 xf, .int .i64 xt, .int .i64 xg, .int .i64 xh, .int .i64 xi, .int .i64 xm, .int .i64 xv, .slice sA sn sc, .slice sA' sn' sc'] 45)) wo.heap.size := fun s hs => (hLp.out s hs).below hb11
            refine (tstep_any m (runG m ks ((gL.map StH.x).take p)).1 ⟨xk, xf, xt, xg, xh, xi, xm, xv, xsl, xst⟩ bt bl2 sA sn sc sA' sn' sc' _ kt11 (hl11 bt (.inl rfl)).1 ((SIN.out.more (Nat.le_refl _)).below hb11 |>.more hb11.size)).mono ?_
            rintro e w12 ⟨⟨zk, zf, zt, zg, zh, zi, zm, zv, zsl, zst⟩, ok, A2, n2, c2, A2', n2', c2', bl3, rfl, zin, zs, hg12, kt12, hl12⟩
            have hl12' : ∀ bx, bx = bt ∨ bx = b9 ∨ v5.ownBlock = some bx ∨ vo.ownBlock = some bx → LinkAt w12 w12.heap.size bx bl3 m (stepT m (runG m ks ((gL.map StH.x).take p)).1 ⟨xk, xf, xt, xg, xh, xi, xm, xv, xsl, xst⟩).1 := fun bx hx => hl12 bx (hl11 bx hx).2 (hl11 bx hx).1
            have k912 := k911.grown hg12 (fun e => by injection e with e; exact hne9 e.symm)
            have hnew8 : wo.heap.size ≠ bt := by have := def_lt' kto; omega
            have kg12 := kg11.grown hg12 (fun e => by injection e with e; exact hnew8 e.symm)
            have own12 : w12.ownsRow wo.heap.size 45 10 v5 Lp.length (sts Lp) := own_grow own11 hg12 (fun g e => by injection e with e; subst e; exact own_ne own11 kt11 (by decide))
            have hLp12 : ∀ s ∈ Lp, s.Own w12 wo.heap.size := fun s hs => (hLp11 s hs).grown kt11 hg12 (by decide) (by decide)
            have hgr12 : wo.grownBy w12 (some bt) := hgr11.trans hg12
            have HLP12 := Lib.hid hLp12
            have HL12 := Lib.hid hl12'
            have ZIN := Lib.hid zin
            have ZS := Lib.hid zs
            clear hownr hb11 kt11 k911 kg11 own11 hgr11 hl11 hLp11 hg12 hl12 hl12' zin zs hLp12
            have ks2e : (stepT m (runG m ks ((gL.map StH.x).take p)).1 ⟨xk, xf, xt, xg, xh, xi, xm, xv, xsl, xst⟩).1 = (runG m ks ((gL.map StH.x).take (p + 1))).1 := by rw [HSN2.out]
            rw [ks2e] at HL12
            clear ks2e
            cases ok with
            | true =>
              go_upto_region 14 with fail
              have hb13 : Below w12.heap.size w12 (w12.alloc (.cells #[.int .i64 zk, .int .i64 zf, .int .i64 zt, .int .i64 zg, .int .i64 zh, .int .i64 zi, .int .i64 zm, .int .i64 zv, .slice A2 n2 c2, .slice A2' n2' c2'] 45)) := belowA
              have s13 := Bk.new w12 45 #[.int .i64 zk, .int .i64 zf, .int .i64 zt, .int .i64 zg, .int .i64 zh, .int .i64 zi, .int .i64 zm, .int .i64 zv, .slice A2 n2 c2, .slice A2' n2' c2']
              have k913 := k912.alloc (.cells #[.int .i64 zk, .int .i64 zf, .int .i64 zt, .int .i64 zg, .int .i64 zh, .int .i64 zi, .int .i64 zm, .int .i64 zv, .slice A2 n2 c2, .slice A2' n2' c2'] 45)
              generalize w12.alloc (.cells #[.int .i64 zk, .int .i64 zf, .int .i64 zt, .int .i64 zg, .int .i64 zh, .int .i64 zi, .int .i64 zm, .int .i64 zv, .slice A2 n2 c2, .slice A2' n2' c2'] 45) = w13 at *
              have hF : ∀ w', (Bk w' b9 76 (grp v5 0 0 0 P.k P.a P.b z) ∧ Bk w' w12.heap.size 45 (stp zk zf zt zg zh zi zm zv A2 n2 c2 A2' n2' c2')) → w'.cell? ⟨b9, 0, none⟩ = some v5 ∧ w'.cell? ⟨w12.heap.size, 0, none⟩ = some (.int .i64 zk) ∧ w'.cell? ⟨w12.heap.size, 1, none⟩ = some (.int .i64 zf) ∧ w'.cell? ⟨w12.heap.size, 2, none⟩ = some (.int .i64 zt) ∧ w'.cell? ⟨w12.heap.size, 3, none⟩ = some (.int .i64 zg) ∧ w'.cell? ⟨w12.heap.size, 4, none⟩ = some (.int .i64 zh) ∧ w'.cell? ⟨w12.heap.size, 5, none⟩ = some (.int .i64 zi) ∧ w'.cell? ⟨w12.heap.size, 6, none⟩ = some (.int .i64 zm) ∧ w'.cell? ⟨w12.heap.size, 7, none⟩ = some (.int .i64 zv) ∧ w'.cell? ⟨w12.heap.size, 8, none⟩ = some (.slice A2 n2 c2) ∧ w'.cell? ⟨w12.heap.size, 9, none⟩ = some (.slice A2' n2' c2') := fun w' h => ⟨h.1.cell 0, h.2.cell 0, h.2.cell 1, h.2.cell 2, h.2.cell 3, h.2.cell 4, h.2.cell 5, h.2.cell 6, h.2.cell 7, h.2.cell 8, h.2.cell 9⟩
              have HF := Lib.hid hF
              clear hF
              refine wp_normal ?_
              refine region_L (S := fun w' => Bk w' b9 76 (grp v5 0 0 0 P.k P.a P.b z) ∧ Bk w' w12.heap.size 45 (stp zk zf zt zg zh zi zm zv A2 n2 c2 A2' n2' c2')) [7] (by kernel_rfl) ⟨k913.drew, s13.drew⟩ (fun hHeld => ?_)
              (refine tkL 0 ?_; refine tkL 1 ?_; refine tkL 2 ?_)
              refine nxL 3 (fun K hK => ?_)
              go_simp
              go_at_call 130
              refine (own_any2 ⟨zk, zf, zt, zg, zh, zi, zm, zv, zsl, zst⟩ A2 n2 c2 A2' n2' c2' w13.drew (ZIN.out.ext hb13.drew)).mono ?_
              rintro e w14 ⟨A3, n3, c3, A3', n3', c3', rfl, hso, hb14⟩
              have hb14' : Below w12.heap.size w12 w14 := Below.trans hb13.drew (hb14.mono hb13.size)
              refine hK.out _ _ ⟨k913.drew.ext hb14, s13.drew.ext hb14⟩ (fun hHeld => ?_)
              clear hK K
              refine nxL 4 (fun K hK => ?_)
              go_simp
              refine hK.out _ _ ⟨(k913.drew.ext hb14).alloc _, (s13.drew.ext hb14).alloc _⟩ (fun hHeld => ?_)
              clear hK K; refine puL ?_
              have hA5 := Bk.new w14 45 #[.int .i64 zk, .int .i64 zf, .int .i64 zt, .int .i64 zg, .int .i64 zh, .int .i64 zi, .int .i64 zm, .int .i64 zv, .slice A3 n3 c3, .slice A3' n3' c3']
              have gA9 := (k913.drew.ext hb14).alloc (.cells #[.int .i64 zk, .int .i64 zf, .int .i64 zt, .int .i64 zg, .int .i64 zh, .int .i64 zi, .int .i64 zm, .int .i64 zv, .slice A3 n3 c3, .slice A3' n3' c3'] 45)
              have sA8 := (s13.drew.ext hb14).alloc (.cells #[.int .i64 zk, .int .i64 zf, .int .i64 zt, .int .i64 zg, .int .i64 zh, .int .i64 zi, .int .i64 zm, .int .i64 zv, .slice A3 n3 c3, .slice A3' n3' c3'] 45)
              have hbA : Below w12.heap.size w12 (w14.alloc (.cells #[.int .i64 zk, .int .i64 zf, .int .i64 zt, .int .i64 zg, .int .i64 zh, .int .i64 zi, .int .i64 zm, .int .i64 zv, .slice A3 n3 c3, .slice A3' n3' c3'] 45)) := by have := hb14'.size; exact belowA
              have hsoA : (StH.mk A3 n3 c3 A3' n3' c3' ⟨zk, zf, zt, zg, zh, zi, zm, zv, zsl, zst⟩).Own (w14.alloc (.cells #[.int .i64 zk, .int .i64 zf, .int .i64 zt, .int .i64 zg, .int .i64 zh, .int .i64 zi, .int .i64 zm, .int .i64 zv, .slice A3 n3 c3, .slice A3' n3' c3'] 45)) wo.heap.size := (hso.below ((Below.refl _ _).alloc (Nat.le_refl _) _)).base_ (by have := hgr12.size; have := hb13.size; simp; omega)
              have hownA : (w14.alloc (.cells #[.int .i64 zk, .int .i64 zf, .int .i64 zt, .int .i64 zg, .int .i64 zh, .int .i64 zi, .int .i64 zm, .int .i64 zv, .slice A3 n3 c3, .slice A3' n3' c3'] 45)).ownsRow wo.heap.size 45 10 v5 Lp.length (sts Lp) := own_below own12 hbA
              generalize w14.alloc (.cells #[.int .i64 zk, .int .i64 zf, .int .i64 zt, .int .i64 zg, .int .i64 zh, .int .i64 zi, .int .i64 zm, .int .i64 zv, .slice A3 n3 c3, .slice A3' n3' c3'] 45) = wA at *
              have hgrA : wo.grownBy wA (some bt) := gr_sub hgr12 hbA
              refine nxL 5 (fun K hK => ?_)
              refine app_at_step Tryz.underlying23 info_step rfl (by decide) wo.heap.size _ Lp.length _ hownA (by have := hlp.out; unfold maxLen; omega) (by have := hlp.out; omega) hgrA.size w14.heap.size (stp zk zf zt zg zh zi zm zv A3 n3 c3 A3' n3' c3') hA5 rfl (by simp [Value.oneCell']) rfl _ _ rfl rfl rfl ?_
              intro g4 cap4 w4 hown4 hgr4 hat4 hlt4
              have gB := gA9.grown hgr4 (own_ne hownA gA9 (by decide))
              have sB := sA8.grown hgr4 (fun e => by have := own_lt own12 _ e; omega)
              refine hK.out _ _ ⟨gB, sB⟩ (fun hHeld => ?_)
              clear hK K; refine puL ?_
              (refine tkL 6 ?_)
              have fB := gB.frozen; have lB := def_lt' gB; have cB := gB.cell 0
              dsimp [grp] at cB
              refine ltL 7 (fun K hK => ?_)
              go_simp
              refine hK.out _ _ ?_
              clear hK K; refine puL ?_
              refine anyL_done (by kernel_rfl) ?_
              go_wp2
              go_roundw
              case rel =>
                have ktA := kt12.ext hbA
                have kgA := kg12.ext hbA
                have kt4 := ktA.grown hgr4 (own_ne hownA ktA (by decide))
                have kg4 := kgA.grown hgr4 (own_ne hownA kgA (by decide))
                have gr4 : w4.grownBy (w4.setCell ⟨b9, 0, none⟩ (.slice (some ⟨g4, 0, none⟩) (Lp.length + 1) cap4)) (some b9) := gr_set (World.grownBy.refl _ _) (.inl rfl) _
                have hA : ∀ bx, bx = bt ∨ bx = b9 ∨ v5.ownBlock = some bx ∨ vo.ownBlock = some bx → LinkAt wA wA.heap.size bx bl3 m (runG m ks ((gL.map StH.x).take (p + 1))).1 := fun bx hx => (HL12.out bx hx).ext hbA
                have hA4 : ∀ bx, LinkAt wA wA.heap.size bx bl3 m (runG m ks ((gL.map StH.x).take (p + 1))).1 → LinkAt w4 w4.heap.size bx bl3 m (runG m ks ((gL.map StH.x).take (p + 1))).1 := fun bx hx => LinkAt.app hx hownA (fun g hg => hA g (.inr (.inr (.inl hg)))) (by decide) hgr4
                have hfin : ∀ bx, LinkAt wA wA.heap.size bx bl3 m (runG m ks ((gL.map StH.x).take (p + 1))).1 → LinkAt (w4.setCell ⟨b9, 0, none⟩ (.slice (some ⟨g4, 0, none⟩) (Lp.length + 1) cap4)) (w4.setCell ⟨b9, 0, none⟩ (.slice (some ⟨g4, 0, none⟩) (Lp.length + 1) cap4)).heap.size bx bl3 m (runG m ks ((gL.map StH.x).take (p + 1))).1 := fun bx hx => (LinkAt.grown2 (hA4 bx hx) (hA4 b9 (hA b9 (.inr (.inl rfl)))) gr4 gB (by decide) (Nat.le_refl _)).more gr4.size
                refine ⟨p + 1, Lp ++ [⟨A3, n3, c3, A3', n3', c3', ⟨zk, zf, zt, zg, zh, zi, zm, zv, zsl, zst⟩⟩], _, bl3, z, by omega, by go_num, Lib.hid ?_, Lib.hid ?_, Lib.hid ?_, gr_set (gr_own hgrA hownA hgr4 (Nat.le_refl _)) (.inr hle9') _, kt4.far (Ne.symm hne9) _, Lib.hid ?_, gB.set_ 0 _, kg4.far (Ne.symm hne8) _, ?_, Lib.hid ?_⟩
                · rw [HSN2.out, List.map_append, hpv.out, ZS.out]; rfl
                · have := hlp.out; simp; omega
                · rw [HSN2.out, hz.out, ZS.out]; simp
                · intro bx hx
                  rcases hx with hx | hx | hx | hx
                  · exact hfin bx (hA bx (.inl hx))
                  · exact hfin bx (hA bx (.inr (.inl hx)))
                  · simp [Value.ownBlock] at hx
                    subst hx
                    rcases hat4 with e | e
                    · exact hfin _ (hA _ (.inr (.inr (.inl e))))
                    · exact hfin _ ((hA bt (.inl rfl)).fresh (by omega))
                  · exact hfin bx (hA bx (.inr (.inr (.inr hx))))
                · rw [sts_append, List.length_append]
                  exact ownsRow_setCell_other hown4 (own_ne (b := b9) (t := 76) hown4 gB (by decide)) _
                · intro y hy
                  refine StH.Own.grown (w := w4) (b := b9) ?_ gB gr4 (by decide) (by decide)
                  refine StH.Own.grow (w := wA) ?_ hownA hgr4 (by decide) (by decide)
                  rcases List.mem_append.1 hy with hy | hy
                  · exact (HLP12.out y hy).below hbA
                  · simp at hy; subst hy; exact hsoA
              case measure => simp [intOf]; omega
            | false =>
              go_upto_region 15 with fail
              have hb13 : Below w12.heap.size w12 (w12.alloc (.cells #[.int .i64 zk, .int .i64 zf, .int .i64 zt, .int .i64 zg, .int .i64 zh, .int .i64 zi, .int .i64 zm, .int .i64 zv, .slice A2 n2 c2, .slice A2' n2' c2'] 45)) := belowA
              have k913 := k912.alloc (.cells #[.int .i64 zk, .int .i64 zf, .int .i64 zt, .int .i64 zg, .int .i64 zh, .int .i64 zi, .int .i64 zm, .int .i64 zv, .slice A2 n2 c2, .slice A2' n2' c2'] 45)
              generalize w12.alloc (.cells #[.int .i64 zk, .int .i64 zf, .int .i64 zt, .int .i64 zg, .int .i64 zh, .int .i64 zi, .int .i64 zm, .int .i64 zv, .slice A2 n2 c2, .slice A2' n2' c2'] 45) = w13 at *
              have fB := k913.frozen; have lB := def_lt' k913; have cB := k913.cell 7
              dsimp [grp] at cB
              go_wp2
              go_roundw
              case rel =>
                have gr4 : w13.grownBy (w13.setCell ⟨b9, 7, none⟩ (.int .i64 (wrap64 (z + 1)))) (some b9) := gr_set (World.grownBy.refl _ _) (.inl rfl) _
                have hA : ∀ bx, bx = bt ∨ bx = b9 ∨ v5.ownBlock = some bx ∨ vo.ownBlock = some bx → LinkAt w13 w13.heap.size bx bl3 m (runG m ks ((gL.map StH.x).take (p + 1))).1 := fun bx hx => (HL12.out bx hx).ext hb13
                refine ⟨p + 1, Lp, v5, bl3, wrap64 (z + 1), by omega, by go_num, Lib.hid ?_, Lib.hid ?_, Lib.hid ?_, gr_set (gr_sub hgr12 hb13) (.inr hle9') _, (kt12.ext hb13).far (Ne.symm hne9) _, Lib.hid ?_, k913.set_ 7 _, (kg12.ext hb13).far (Ne.symm hne8) _, ?_, Lib.hid ?_⟩
                · rw [HSN2.out, ZS.out]; simpa using hpv.out
                · have := hlp.out; omega
                · rw [HSN2.out, hz.out, ZS.out]
                  rw [← IntWalk.i64_left]
                  simp only [IntKind.wrap_i64]
                  simp
                  omega
                · intro bx hx
                  exact (LinkAt.grown2 (hA bx hx) (hA b9 (.inr (.inl rfl))) gr4 k913 (by decide) (Nat.le_refl _)).more gr4.size
                · exact ownsRow_setCell_other (own_below own12 hb13) (own_ne (b := b9) (t := 76) (own_below own12 hb13) k913 (by decide)) _
                · intro y hy
                  exact StH.Own.grown (b := b9) ((HLP12.out y hy).below hb13) k913 gr4 (by decide) (by decide)
              case measure => simp [intOf]; omega
          · obtain rfl : gn = p := by omega
            have hall : (gL.map StH.x).take gn = gL.map StH.x := List.take_of_length_le (by rw [List.length_map]; omega)
            rw [hall] at hpv hz hlq
            have hpy2 := fun W (hb : Below wr.heap.size wr W) => calls_on hb (pinby_any (tellL m (runG m ks (gL.map StH.x)).1) bl2 wr.heap.size pk pa pb W ((tells_link (hlq.out bt (.inl rfl)) (Nat.le_refl _)).ext hb))
            obtain ⟨P2, hP2⟩ : ∃ P2, pinB (tellL m (runG m ks (gL.map StH.x)).1) ⟨pk, pa, pb⟩ = P2 := ⟨_, rfl⟩
            rw [hP2] at hpy2
            have HP2 := Lib.hid hP2
            have HPY2 := Lib.hid hpy2
            have hF : ∀ w', Below wr.heap.size wr w' → w'.cell? ⟨wo.heap.size, 1, none⟩ = some (.int .i64 pk) ∧ w'.cell? ⟨wo.heap.size, 2, none⟩ = some (.int .i64 pa) ∧ w'.cell? ⟨wo.heap.size, 3, none⟩ = some (.int .i64 pb) ∧ w'.cell? ⟨bt, 0, none⟩ = some (.pointer (some ⟨bl2, 0, none⟩)) := fun w' h => ⟨(kgq.ext h).cell 1, (kgq.ext h).cell 2, (kgq.ext h).cell 3, (ktq.ext h).cell 0⟩
            have HF := Lib.hid hF
            clear hF hpy2 hP2 hall
            go_upto_region 17 with fail
            refine wp_normal ?_
            refine region_L (S := fun w' => Below wr.heap.size wr w') [9] (by kernel_rfl) (Below.refl _ _).drew (fun hHeld => ?_)
            (refine tkL 0 ?_; refine tkL 1 ?_; refine tkL 2 ?_; refine tkL 3 ?_; refine tkL 4 ?_; refine tkL 5 ?_; refine tkL 6 ?_)
            refine nxL 7 (fun K hK => ?_)
            go_simp
            go_at_call 177
            refine (HPY2.out _ (Below.refl _ _).drew).mono ?_
            rintro e w5 ⟨rfl, hb5, hz5, _⟩
            refine hK.out _ _ hb5 (fun hHeld => ?_)
            clear hK K; refine puL ?_
            (refine tkL 8 ?_)
            have k95 := k9q.ext hb5
            have fB := k95.frozen; have lB := def_lt' k95; have q1 := k95.cell 1; have q2 := k95.cell 2; have q3 := k95.cell 3
            dsimp [grp] at q1 q2 q3
            refine ltL 9 (fun K hK => ?_)
            go_simp
            refine hK.out _ _ ?_
            clear hK K; refine puL ?_
            refine anyL_done (by kernel_rfl) ?_
            have gr6 : w5.grownBy (((w5.setCell ⟨b9, 1, none⟩ (.int .i64 P2.k)).setCell ⟨b9, 2, none⟩ (.int .i64 P2.a)).setCell ⟨b9, 3, none⟩ (.int .i64 P2.b)) (some b9) := gr_set (p := ⟨b9, 3, none⟩) (gr_set (p := ⟨b9, 2, none⟩) (gr_set (p := ⟨b9, 1, none⟩) (World.grownBy.refl _ _) (.inl rfl) _) (.inl rfl) _) (.inl rfl) _
            have k96 : Bk (((w5.setCell ⟨b9, 1, none⟩ (.int .i64 P2.k)).setCell ⟨b9, 2, none⟩ (.int .i64 P2.a)).setCell ⟨b9, 3, none⟩ (.int .i64 P2.b)) b9 76 (grp v5 P2.k P2.a P2.b P.k P.a P.b z) := ((k95.set_ 1 _).set_ 2 _).set_ 3 _
            generalize ((w5.setCell ⟨b9, 1, none⟩ (.int .i64 P2.k)).setCell ⟨b9, 2, none⟩ (.int .i64 P2.a)).setCell ⟨b9, 3, none⟩ (.int .i64 P2.b) = w6 at *
            have hownr : wr.ownsRow w.heap.size 76 8 vo Lo.length (grs Lo) := own_grow hown hgr (fun g e => by injection e with e; subst e; exact own_ne hown kto (by decide))
            have hown6 : w6.ownsRow w.heap.size 76 8 vo Lo.length (grs Lo) := own_grow (own_below hownr hb5) gr6 (fun g e h => by injection e with e; subst e; have := own_lt hown _ h; omega)
            have hnew6 : ∀ s ∈ Lp, s.Own w6 wo.heap.size := fun s hs => ((hLp.out s hs).below hb5).grown k95 gr6 (by decide) (by decide)
            have hown56 : w6.ownsRow wo.heap.size 45 10 v5 Lp.length (sts Lp) := own_grow (own_below hown5 hb5) gr6 (fun g e => by injection e with e; subst e; exact own_ne (own_below hown5 hb5) k95 (by decide))
            have hLo6 : ∀ g ∈ Lo, g.Own w6 w.heap.size := fun g hg => (((hLo.out g hg).grown kto hgr (by decide) (by decide) (by decide)).below hb5).grown k95 gr6 (by decide) (by decide) (by decide)
            have kt6 := (ktq.ext hb5).grown gr6 (fun e => by injection e with e; exact hne9 e)
            have hl6 : ∀ bx, bx = bt ∨ vo.ownBlock = some bx → LinkAt w6 w6.heap.size bx bl2 m (runG m ks (gL.map StH.x)).1 := fun bx hx => (LinkAt.grown2 ((hlq.out bx (by rcases hx with h | h; (· exact .inl h); (· exact .inr (.inr (.inr h))))).ext hb5) ((hlq.out b9 (.inr (.inl rfl))).ext hb5) gr6 k95 (by decide) (Nat.le_refl _)).more gr6.size
            have hbr' : Below w.heap.size w wr := hbr.trans (gr_below hgr hbw (fun k e => by injection e with e; omega))
            have hb6 : Below w.heap.size w w6 := (hbr'.trans (hb5.mono hbr'.size)).trans (gr_below gr6 (Nat.le_trans hbr'.size hb5.size) (fun k e => by injection e with e; omega))
            have hz6 := hb6.size
            obtain ⟨A5, c5', rfl, f1, f2, f3, f4⟩ := own_form hown56
            have c0 := k96.cell 0; have c1 := k96.cell 1; have c2 := k96.cell 2; have c3 := k96.cell 3; have c4 := k96.cell 4; have c5 := k96.cell 5; have c6 := k96.cell 6; have c7 := k96.cell 7
            dsimp [grp] at c0 c1 c2 c3 c4 c5 c6 c7
            have HL6 := Lib.hid hl6
            have HLO6 := Lib.hid hLo6
            have HNEW6 := Lib.hid hnew6
            clear hl6 hLo6 hnew6 hownr q1 q2 q3 fB lB hHeld
            go_wp2_with (at_builtin; ((refine app_one Tryz.underlying78 info_group rfl (by decide) w6 w.heap.size _ Lo.length _ hown6 (by have := HLO.out; unfold maxLen; omega) (by have := HLO.out; omega) hz6 _ rfl (by simp [Value.oneCell']) rfl _ _ rfl rfl rfl ?_); intro g4 cap4 w4 hown4 hgr4 hat4 hlt4))
            have hb4 := below_own hb6 hown6 hgr4 hz6 (Nat.le_refl _)
            go_roundw
            case rel =>
              have kt4 := kt6.grown hgr4 (own_ne hown6 kt6 (by decide))
              have hfin : ∀ bx, LinkAt w6 w6.heap.size bx bl2 m (runG m ks (gL.map StH.x)).1 → LinkAt w4 w4.heap.size bx bl2 m (runG m ks (gL.map StH.x)).1 := fun bx hx => LinkAt.app hx hown6 (fun g hg => HL6.out g (.inr hg)) (by decide) hgr4
              refine ⟨q + 1, Lo ++ [⟨A5, Lp.length, c5', Lp, P2, P, z⟩], bl2, _, rfl, by omega, by go_num, Lib.hid ?_, hb4, kt4, Lib.hid ?_, ?_, Lib.hid ?_⟩
              · rw [HSN.out, List.map_append, hval.out]
                simp only [GrH.val, List.map_cons, List.map_nil]
                rw [hpv.out, hz.out, hP, HP2.out]
              · intro bx hx
                rw [HSN.out]
                rcases hx with hx | hx
                · exact hfin bx (HL6.out bx (.inl hx))
                · simp [Value.ownBlock] at hx
                  subst hx
                  rcases hat4 with e | e
                  · exact hfin _ (HL6.out _ (.inr e))
                  · exact hfin _ ((HL6.out bt (.inl rfl)).fresh (by omega))
              · rw [grs_append, List.length_append]
                exact hown4
              · intro y hy
                refine GrH.Own.grow (w := w6) ?_ hown6 hgr4 (by decide) (by decide) (by decide)
                rcases List.mem_append.1 hy with hy | hy
                · exact HLO6.out y hy
                · simp at hy
                  subst hy
                  exact ⟨own_base hown56 hbw, fun s hs => (HNEW6.out s hs).base_ hbw, by have := hlp.out; show Lp.length ≤ 1000000; omega⟩
            case measure => simp [intOf]; omega
    · obtain rfl : n = q := by omega
      go_wp2
      go_ret
      refine ⟨_, Lo, rfl, hown, hLo.out, ?_, hbr⟩
      rw [hval.out, List.take_of_length_le (by rw [List.length_map, HLEN.out]; omega)]
theorem over_any (A : Option Addr) (n c : Nat) (L : List GrH) (Am : Option Addr) (nm cm : Nat) (m : List Rg) (w : World) (h : GrsIn w w.heap.size A n L) (hn : n ≤ 1000) (hs : ∀ g ∈ L, g.n ≤ 1000) (hlb : ∀ g ∈ L, -9223372036854775808 ≤ g.lost ∧ g.lost ≤ 9223372036854775807) (hm : MapAt w w.heap.size Am nm m) :
    Calls Tryz.prog 135 #[.slice A n c, .slice Am nm cm] w (GrsOut (overC m (L.map GrH.val)) w) := by
  cases hr : rightM m with
  | false => exact over_no A n c L Am nm cm m w h hn hs hm hr
  | true => exact over_yes A n c L Am nm cm m w h hn hs hlb hm hr
/-- groups come out: they read so -/
theorem grs_out {V : List GrC} {w w' : World} {e : Ending} (h : GrsOut V w e w') : ∃ (A : Option Addr) (n c : Nat) (L' : List GrH), e = .returned (.slice A n c) ∧ L'.length = n ∧ w'.ownsRow w.heap.size 76 8 (.slice A n c) n (grs L') ∧ GrsIn w' w'.heap.size A n L' ∧ (∀ g ∈ L', g.Own w' w.heap.size) ∧ L'.map GrH.val = V ∧ Below w.heap.size w w' := by
  obtain ⟨v, L', rfl, ho, hO, hV, hb⟩ := h
  obtain ⟨A, c, rfl, _, _, h3, h4⟩ := own_form ho
  exact ⟨A, L'.length, c, L', rfl, rfl, ho, ⟨h4, fun g hg => (hO g hg).in_⟩, hO, hV, hb⟩
theorem map_one {α β : Type} {f : α → β} {l : List α} {a : β} (h : l.map f = [a]) : ∃ x, l = [x] ∧ f x = a := by
  cases l with
  | nil => cases h
  | cons x l => cases l with
    | nil => exact ⟨x, rfl, by simpa using h⟩
    | cons y l => simp at h
theorem Rd.of_bk {w : World} {b B size n : Nat} {t : TypeId} {cs : Array Value} {xs : List Value} (h : Bk w b t cs) (he : cs.toList = xs) (hl : xs.length = n * size) (hb : b < B) : Rd w B size (some ⟨b, 0, none⟩) n xs := by
  refine ⟨hl, fun _ => ⟨b, 0, rfl, hb, fun j u hu => ?_⟩⟩
  rw [Nat.zero_add, h.cell j, ← he] at *
  simpa using hu
end Go.Proofs.YtmacfoebfpljoaaGreat
