/- route: the document's Add -/
import Derived.Test.YtkkbmcpimglcpaaRtN
import Derived.Test.YtkkbmcpimglcpaaRtO
import Derived.Test.YtkkbmcpimglcpaaCh
import Derived.Laws.OwnMore
namespace Go.Proofs.Ytkkbmcpimglcpaa
open Go.RowKit

theorem info_int : (Try.prog.info? 3).map (fun i => (i.zero, i.size, i.bytes)) = some (some (.int .i64 0), 1, 8) := by kernel_rfl

/-- what holds in the midst of 'Route{Maps: append(append(..), m), Of: append(append(..), of)}' -/
structure RA (W1 : World) (D n : Nat) (vs os : List Value) (Am Ao A : Option Addr) (cm co k c : Nat) (of : Int) (L : Nat → Bool) (r8 r18 r19 r20 r21 r22 r23 r24 r25 r26 r27 r28 r29 r30 r31 r32 : Value) (w : World) : Prop where
  below : Below W1.heap.size W1 w
  f19 : L 1 = true → r19 = .pointer (some ⟨D, 0, none⟩)
  f20 : L 2 = true → r20 = .slice Am n cm
  f22 : L 4 = true → r22 = .slice A k c
  f26 : L 8 = true → r26 = .pointer (some ⟨D, 1, none⟩)
  f27 : L 9 = true → r27 = .slice Ao n co
  f29 : L 11 = true → r29 = .int .i64 of
  ca : Chain W1.heap.size 22 n vs (.slice A k c) (L 0) (L 3) (L 5) (L 6) r18 r21 r23 r24 w
  cb : Chain W1.heap.size 3 n os (.int .i64 of) (L 7) (L 10) (L 12) (L 13) r25 r28 r30 r31 w
  f32 : L 14 = true → r32 = .agg #[r24, r31]
  f8 : L 15 = true → ∃ b8, r8 = .pointer (some ⟨b8, 0, none⟩) ∧ W1.heap.size ≤ b8 ∧ (L 16 = false → Bk w b8 66 #[.slice none 0 0, .slice none 0 0]) ∧ (L 16 = true → Bk w b8 66 #[r24, r31])
  k3 : L 3 = true → L 0 = true
  k6 : L 6 = true → L 3 = true ∧ L 5 = true
  k10 : L 10 = true → L 7 = true
  k13 : L 13 = true → L 10 = true ∧ L 12 = true
  k14 : L 14 = true → L 6 = true ∧ L 13 = true
  k16 : L 16 = true → L 14 = true ∧ L 15 = true

def RAact (A0 : Value) (Am A : Option Addr) (D cm n k c : Nat) (of : Int) (r8 r18 r19 r20 r21 r22 r23 r24 r25 r26 r27 r28 r29 r30 r31 r32 : Value) : Act :=
  { tmps := #[A0, .slice A k c, .int .i64 of, .pointer (some ⟨D, 0, none⟩), undef, undef, .pointer (some ⟨D + 1, 0, none⟩), .int .i64 0, r8, .slice A k c, .bool true, .bool false, undef,
      .pointer (some ⟨D, 0, none⟩), .slice Am n cm, .int .i64 (n : Int), .bool (decide ((5000 : Int) ≤ (n : Int))), undef, r18, r19, r20, r21, r22, r23, r24, r25, r26, r27, r28, r29, r30, r31, r32, undef, undef, undef, undef, undef, undef, undef, undef, undef, undef], defers := [] }

set_option maxRecDepth 100000 in
set_option maxHeartbeats 4000000 in
theorem radd_good (W : World) (Am Ao A : Option Addr) (cm co n k c : Nat) (vs : List Value) (ofs : List Int) (l : List Rg) (of : Int) (hr : rightM l = true) (hrd : Rd W W.heap.size 3 A k (rgs l))
    (hm : Rd W W.heap.size 1 Am n vs) (hmA : Am = none → n = 0) (hm1 : ∀ u ∈ vs, u.oneCell' = true) (ho : Rd W W.heap.size 1 Ao n (ofs.map (Value.int .i64))) (hoA : Ao = none → n = 0) (hn : n < 5000) (hof : of < n) :
    Calls Try.prog 48 #[.agg #[.slice Am n cm, .slice Ao n co], .slice A k c, .int .i64 of] W fun e W' => ∃ v o, e = .returned (.tuple #[.agg #[v, o], .int .i64 0]) ∧
      W'.ownsRow W.heap.size 22 1 v (n + 1) (vs ++ [.slice A k c]) ∧ W'.ownsRow W.heap.size 3 1 o (n + 1) ((if 0 ≤ of then (ofs ++ [of]).set of.toNat n else ofs ++ [of]).map (Value.int .i64)) ∧ Below W.heap.size W W' := by
  have hb0 : Below W.heap.size W ((W.alloc (.cells #[.slice Am n cm, .slice Ao n co] 66)).alloc (.cells #[.slice none 0 0, .slice none 0 0] 66)) := by repeat (first | with_reducible exact Below.refl _ _ | with_reducible assumption | (with_reducible refine below_drewN ?_ _) | (with_reducible refine Below.drew ?_) | (with_reducible refine Below.alloc ?_ ?_ _; rotate_left; focus (first | with_reducible assumption | omega | (simp; done) | (simp; omega))) | (with_reducible refine Below.setCell ?_ ?_ _; rotate_left; focus (first | with_reducible assumption | omega | (simp; done) | (simp; omega))))
  have k30 := (Bk.new W 66 #[.slice Am n cm, .slice Ao n co]).alloc (.cells #[.slice none 0 0, .slice none 0 0] 66)
  have k60 : Bk ((W.alloc (.cells #[.slice Am n cm, .slice Ao n co] 66)).alloc (.cells #[.slice none 0 0, .slice none 0 0] 66)) (W.heap.size + 1) 66 #[.slice none 0 0, .slice none 0 0] := Bk.made _ _ (by simp)
  have hl := hrd.rlen
  have hri := rright_any A k c l _ (by unfold maxLen; have := right_len hr; omega) (fun _ => (hrd.below hb0).more hb0.size) hl
  rw [hr] at hri
  have HRI := Lib.hid hri
  clear hri hl hr
  go_enter Try.func48, Try.ntmps48
  go_wp2_with (go_at_call 11; refine HRI.out.mono ?_; rintro e w1 ⟨rfl, hb1⟩; have k3 := k30.ext hb1; have k6 := k60.ext hb1; have c0 := k3.cell 0; have c1 := k3.cell 1; dsimp at c0 c1; have hb2 := hb0.trans (hb1.mono hb0.size); have hz1 := def_lt' k6)
  have hz2 : W.heap.size ≤ w1.heap.size := by omega
  have hm' := hm.below hb2
  have ho' := ho.below hb2
  go_cut [8] (fun v wx => ∃ b8 r24 r31, v = .pointer (some ⟨b8, 0, none⟩) ∧ w1.heap.size ≤ b8 ∧ Below w1.heap.size w1 wx ∧ Bk wx b8 66 #[r24, r31] ∧ wx.ownsRow w1.heap.size 22 1 r24 (n + 1) (vs ++ [.slice A k c]) ∧ wx.ownsRow w1.heap.size 3 1 r31 (n + 1) (ofs.map (Value.int .i64) ++ [.int .i64 of]))
  case first =>
    refine wp_normal ?_
    refine region_inv (fun L a w => ∃ r8 r18 r19 r20 r21 r22 r23 r24 r25 r26 r27 r28 r29 r30 r31 r32, a = RAact (.agg #[.slice Am n cm, .slice Ao n co]) Am A W.heap.size cm n k c of r8 r18 r19 r20 r21 r22 r23 r24 r25 r26 r27 r28 r29 r30 r31 r32 ∧
      RA w1 W.heap.size n vs (ofs.map (Value.int .i64)) Am Ao A cm co k c of L r8 r18 r19 r20 r21 r22 r23 r24 r25 r26 r27 r28 r29 r30 r31 r32 w) (by kernel_rfl) (by kernel_rfl) ?_ ?_ ?_
    · exact ⟨_, _, _, _, _, _, _, _, _, _, _, _, _, _, _, _, rfl, ⟨(Below.refl _ _).drew, by simp, by simp, by simp, by simp, by simp, by simp, Chain.start _ _ _ _ _ _ _ _ _ _, Chain.start _ _ _ _ _ _ _ _ _ _, by simp, by simp, by simp, by simp, by simp, by simp, by simp, by simp⟩⟩
    · rintro L a w i o ⟨r8, r18, r19, r20, r21, r22, r23, r24, r25, r26, r27, r28, r29, r30, r31, r32, rfl, hI⟩ ho hL hd K hK
      match i, ho with
      | 0, ho =>
        simp only [List.getElem?_toArray, List.getElem?_cons_zero, Option.some.injEq] at ho
        subst ho
        clear hd
        unfold RAact
        have hB := hI.below.size
        have h3 : L 3 = false := by cases hx : L 3 with | false => rfl | true => exact absurd (hI.k3 hx) (by rw [hL]; simp)
        have hc := hI.ca
        rw [h3] at hc
        go_simp
        refine hK.out _ _ ⟨_, _, _, _, _, _, _, _, _, _, _, _, _, _, _, _, rfl, ⟨hI.below.alloc hB _, hI.f19, hI.f20, hI.f22, hI.f26, hI.f27, hI.f29, by have := hc.op0 hB; rw [← h3] at this; exact this, hI.cb.alloc _, hI.f32, fun h => let ⟨b8, e, hb, h1, h2⟩ := hI.f8 h; ⟨b8, e, hb, fun a => (h1 a).alloc _, fun a => (h2 a).alloc _⟩, fun _ => rfl, hI.k6, hI.k10, hI.k13, hI.k14, hI.k16⟩⟩
      | 1, ho =>
        simp only [List.getElem?_toArray, List.getElem?_cons_succ, List.getElem?_cons_zero, Option.some.injEq] at ho
        subst ho
        clear hd
        unfold RAact
        go_simp
        refine hK.out _ _ ⟨_, _, _, _, _, _, _, _, _, _, _, _, _, _, _, _, rfl, ⟨hI.below, fun _ => rfl, hI.f20, hI.f22, hI.f26, hI.f27, hI.f29, hI.ca, hI.cb, hI.f32, hI.f8, hI.k3, hI.k6, hI.k10, hI.k13, hI.k14, hI.k16⟩⟩
      | 2, ho =>
        simp only [List.getElem?_toArray, List.getElem?_cons_succ, List.getElem?_cons_zero, Option.some.injEq] at ho
        subst ho
        simp [Region.binds] at hd
        unfold RAact
        obtain rfl := hI.f19 hd
        have hc0 := (hI.below.cell (p := ⟨W.heap.size, 0, none⟩) (by simp; omega)).trans c0
        go_simp
        refine hK.out _ _ ⟨_, _, _, _, _, _, _, _, _, _, _, _, _, _, _, _, rfl, ⟨hI.below, hI.f19, fun _ => rfl, hI.f22, hI.f26, hI.f27, hI.f29, hI.ca, hI.cb, hI.f32, hI.f8, hI.k3, hI.k6, hI.k10, hI.k13, hI.k14, hI.k16⟩⟩
      | 3, ho =>
        simp only [List.getElem?_toArray, List.getElem?_cons_succ, List.getElem?_cons_zero, Option.some.injEq] at ho
        subst ho
        simp [Region.binds] at hd
        unfold RAact
        have hB := hI.below.size
        have h6 : L 6 = false := by cases hx : L 6 with | false => rfl | true => exact absurd (hI.k6 hx).1 (by rw [hL]; simp)
        obtain ⟨d0, d2⟩ := hd
        obtain rfl := hI.f20 d2
        have hc := hI.ca
        rw [d0, hL, h6] at hc
        have ho0 := hc.h0 rfl rfl
        refine app_rd_step Try.underlying48 info_rgs rfl (by decide) w1.heap.size _ 0 [] ho0 _ Am n cm vs (hm'.below (hI.below.mono hz2)) hmA hm1 (by unfold maxLen; omega) (by omega) hB rfl (.tmp 18) (.tmp 20) rfl rfl rfl ?_
        intro t2 w2 hown2 hgr2 hat2
        rw [Nat.zero_add] at hown2
        have hb3 := below_own hI.below ho0 hgr2 hB (Nat.le_refl _)
        refine hK.out _ _ ⟨_, _, _, _, _, _, _, _, _, _, _, _, _, _, _, _, rfl, ⟨hb3, hI.f19, hI.f20, hI.f22, hI.f26, hI.f27, hI.f29, by have := hc.op3 (by simpa using hown2) hgr2 hat2; show Chain _ _ _ _ _ (L 0) true (L 5) (L 6) _ _ _ _ _; rw [d0, h6]; exact this, hI.cb.grown ho0 hgr2 (by decide), hI.f32, fun h => let ⟨b8, e, hb, h1, h2⟩ := hI.f8 h; ⟨b8, e, hb, fun a => (h1 a).grown hgr2 (own_ne ho0 (h1 a) (by decide)), fun a => (h2 a).grown hgr2 (own_ne ho0 (h2 a) (by decide))⟩, fun _ => d0, fun h => absurd ((show L 6 = true from h).symm.trans h6) (by simp), hI.k10, hI.k13, hI.k14, hI.k16⟩⟩
      | 4, ho =>
        simp only [List.getElem?_toArray, List.getElem?_cons_succ, List.getElem?_cons_zero, Option.some.injEq] at ho
        subst ho
        clear hd
        unfold RAact
        go_simp
        refine hK.out _ _ ⟨_, _, _, _, _, _, _, _, _, _, _, _, _, _, _, _, rfl, ⟨hI.below, hI.f19, hI.f20, fun _ => rfl, hI.f26, hI.f27, hI.f29, hI.ca, hI.cb, hI.f32, hI.f8, hI.k3, hI.k6, hI.k10, hI.k13, hI.k14, hI.k16⟩⟩
      | 5, ho =>
        simp only [List.getElem?_toArray, List.getElem?_cons_succ, List.getElem?_cons_zero, Option.some.injEq] at ho
        subst ho
        simp [Region.binds] at hd
        unfold RAact
        have hB := hI.below.size
        have h6 : L 6 = false := by cases hx : L 6 with | false => rfl | true => exact absurd (hI.k6 hx).2 (by rw [hL]; simp)
        obtain rfl := hI.f22 hd
        have hc := hI.ca
        rw [h6] at hc
        go_simp
        refine hK.out _ _ ⟨_, _, _, _, _, _, _, _, _, _, _, _, _, _, _, _, rfl, ⟨hI.below.alloc hB _, hI.f19, hI.f20, hI.f22, hI.f26, hI.f27, hI.f29, by have := hc.op5; rw [← h6] at this; exact this, hI.cb.alloc _, hI.f32, fun h => let ⟨b8, e, hb, h1, h2⟩ := hI.f8 h; ⟨b8, e, hb, fun a => (h1 a).alloc _, fun a => (h2 a).alloc _⟩, hI.k3, fun h => ⟨(hI.k6 h).1, rfl⟩, hI.k10, hI.k13, hI.k14, hI.k16⟩⟩
      | 6, ho =>
        simp only [List.getElem?_toArray, List.getElem?_cons_succ, List.getElem?_cons_zero, Option.some.injEq] at ho
        subst ho
        simp [Region.binds] at hd
        unfold RAact
        have hB := hI.below.size
        have h14 : L 14 = false := by cases hx : L 14 with | false => rfl | true => exact absurd (hI.k14 hx).1 (by rw [hL]; simp)
        have h16 : L 16 = false := by cases hx : L 16 with | false => rfl | true => exact absurd ((hI.k16 hx).1.symm.trans h14) (by simp)
        obtain ⟨d3, d5, _⟩ := hd
        have hc := hI.ca
        rw [d3, d5, hL] at hc
        have ho0 := hc.h3 rfl rfl
        obtain ⟨b, rfl, hbk, _, _⟩ := hc.h5 rfl rfl
        refine app_at_step Try.underlying48 info_rgs rfl (by decide) w1.heap.size _ n vs ho0 (by unfold maxLen; omega) (by omega) hB b #[.slice A k c] hbk rfl (by simp [Value.oneCell']) rfl (.tmp 21) (.tmp 23) rfl rfl rfl ?_
        intro g cap w2 hown2 hgr2 hat2 hlt2
        have hb3 := below_own hI.below ho0 hgr2 hB (Nat.le_refl _)
        refine hK.out _ _ ⟨_, _, _, _, _, _, _, _, _, _, _, _, _, _, _, _, rfl, ⟨hb3, hI.f19, hI.f20, hI.f22, hI.f26, hI.f27, hI.f29, by have := Chain.op6 (s := r18) (t := r21) (u := .slice (some ⟨b, 0, none⟩) 1 1) (x := .slice A k c) (by simpa using hown2); show Chain _ _ _ _ _ (L 0) (L 3) (L 5) true _ _ _ _ _; rw [hI.k3 d3, d3, d5]; exact this, hI.cb.grown ho0 hgr2 (by decide), fun h => absurd ((show L 14 = true from h).symm.trans h14) (by simp), fun h => let ⟨b8, e, hb, h1, h2⟩ := hI.f8 h; ⟨b8, e, hb, fun a => (h1 a).grown hgr2 (own_ne ho0 (h1 a) (by decide)), fun a => absurd ((show L 16 = true from a).symm.trans h16) (by simp)⟩, hI.k3, fun _ => ⟨d3, d5⟩, hI.k10, hI.k13, fun h => absurd ((show L 14 = true from h).symm.trans h14) (by simp), hI.k16⟩⟩
      | 7, ho =>
        simp only [List.getElem?_toArray, List.getElem?_cons_succ, List.getElem?_cons_zero, Option.some.injEq] at ho
        subst ho
        clear hd
        unfold RAact
        have hB := hI.below.size
        have h10 : L 10 = false := by cases hx : L 10 with | false => rfl | true => exact absurd (hI.k10 hx) (by rw [hL]; simp)
        have hc := hI.cb
        rw [h10] at hc
        go_simp
        refine hK.out _ _ ⟨_, _, _, _, _, _, _, _, _, _, _, _, _, _, _, _, rfl, ⟨hI.below.alloc hB _, hI.f19, hI.f20, hI.f22, hI.f26, hI.f27, hI.f29, hI.ca.alloc _, by have := hc.op0 hB; rw [← h10] at this; exact this, hI.f32, fun h => let ⟨b8, e, hb, h1, h2⟩ := hI.f8 h; ⟨b8, e, hb, fun a => (h1 a).alloc _, fun a => (h2 a).alloc _⟩, hI.k3, hI.k6, fun _ => rfl, hI.k13, hI.k14, hI.k16⟩⟩
      | 8, ho =>
        simp only [List.getElem?_toArray, List.getElem?_cons_succ, List.getElem?_cons_zero, Option.some.injEq] at ho
        subst ho
        clear hd
        unfold RAact
        go_simp
        refine hK.out _ _ ⟨_, _, _, _, _, _, _, _, _, _, _, _, _, _, _, _, rfl, ⟨hI.below, hI.f19, hI.f20, hI.f22, fun _ => rfl, hI.f27, hI.f29, hI.ca, hI.cb, hI.f32, hI.f8, hI.k3, hI.k6, hI.k10, hI.k13, hI.k14, hI.k16⟩⟩
      | 9, ho =>
        simp only [List.getElem?_toArray, List.getElem?_cons_succ, List.getElem?_cons_zero, Option.some.injEq] at ho
        subst ho
        simp [Region.binds] at hd
        unfold RAact
        obtain rfl := hI.f26 hd
        have hc0 := (hI.below.cell (p := ⟨W.heap.size, 1, none⟩) (by simp; omega)).trans c1
        go_simp
        refine hK.out _ _ ⟨_, _, _, _, _, _, _, _, _, _, _, _, _, _, _, _, rfl, ⟨hI.below, hI.f19, hI.f20, hI.f22, hI.f26, fun _ => rfl, hI.f29, hI.ca, hI.cb, hI.f32, hI.f8, hI.k3, hI.k6, hI.k10, hI.k13, hI.k14, hI.k16⟩⟩
      | 10, ho =>
        simp only [List.getElem?_toArray, List.getElem?_cons_succ, List.getElem?_cons_zero, Option.some.injEq] at ho
        subst ho
        simp [Region.binds] at hd
        unfold RAact
        have hB := hI.below.size
        have h13 : L 13 = false := by cases hx : L 13 with | false => rfl | true => exact absurd (hI.k13 hx).1 (by rw [hL]; simp)
        obtain ⟨d0, d2, _⟩ := hd
        obtain rfl := hI.f27 d2
        have hc := hI.cb
        rw [d0, hL, h13] at hc
        have ho0 := hc.h0 rfl rfl
        refine app_rd_step Try.underlying64 info_int rfl (by decide) w1.heap.size _ 0 [] ho0 _ Ao n co _ (ho'.below (hI.below.mono hz2)) hoA (by intro u hu; obtain ⟨y, _, rfl⟩ := List.mem_map.1 hu; rfl) (by unfold maxLen; omega) (by omega) hB rfl (.tmp 25) (.tmp 27) rfl rfl rfl ?_
        intro t2 w2 hown2 hgr2 hat2
        rw [Nat.zero_add] at hown2
        have hb3 := below_own hI.below ho0 hgr2 hB (Nat.le_refl _)
        refine hK.out _ _ ⟨_, _, _, _, _, _, _, _, _, _, _, _, _, _, _, _, rfl, ⟨hb3, hI.f19, hI.f20, hI.f22, hI.f26, hI.f27, hI.f29, hI.ca.grown ho0 hgr2 (by decide), by have := hc.op3 (by simpa using hown2) hgr2 hat2; show Chain _ _ _ _ _ (L 7) true (L 12) (L 13) _ _ _ _ _; rw [d0, h13]; exact this, hI.f32, fun h => let ⟨b8, e, hb, h1, h2⟩ := hI.f8 h; ⟨b8, e, hb, fun a => (h1 a).grown hgr2 (own_ne ho0 (h1 a) (by decide)), fun a => (h2 a).grown hgr2 (own_ne ho0 (h2 a) (by decide))⟩, hI.k3, hI.k6, fun _ => d0, fun h => absurd ((show L 13 = true from h).symm.trans h13) (by simp), hI.k14, hI.k16⟩⟩
      | 11, ho =>
        simp only [List.getElem?_toArray, List.getElem?_cons_succ, List.getElem?_cons_zero, Option.some.injEq] at ho
        subst ho
        clear hd
        unfold RAact
        go_simp
        refine hK.out _ _ ⟨_, _, _, _, _, _, _, _, _, _, _, _, _, _, _, _, rfl, ⟨hI.below, hI.f19, hI.f20, hI.f22, hI.f26, hI.f27, fun _ => rfl, hI.ca, hI.cb, hI.f32, hI.f8, hI.k3, hI.k6, hI.k10, hI.k13, hI.k14, hI.k16⟩⟩
      | 12, ho =>
        simp only [List.getElem?_toArray, List.getElem?_cons_succ, List.getElem?_cons_zero, Option.some.injEq] at ho
        subst ho
        simp [Region.binds] at hd
        unfold RAact
        have hB := hI.below.size
        have h13 : L 13 = false := by cases hx : L 13 with | false => rfl | true => exact absurd (hI.k13 hx).2 (by rw [hL]; simp)
        obtain rfl := hI.f29 hd
        have hc := hI.cb
        rw [h13] at hc
        go_simp
        refine hK.out _ _ ⟨_, _, _, _, _, _, _, _, _, _, _, _, _, _, _, _, rfl, ⟨hI.below.alloc hB _, hI.f19, hI.f20, hI.f22, hI.f26, hI.f27, hI.f29, hI.ca.alloc _, by have := hc.op5; rw [← h13] at this; exact this, hI.f32, fun h => let ⟨b8, e, hb, h1, h2⟩ := hI.f8 h; ⟨b8, e, hb, fun a => (h1 a).alloc _, fun a => (h2 a).alloc _⟩, hI.k3, hI.k6, hI.k10, fun h => ⟨(hI.k13 h).1, rfl⟩, hI.k14, hI.k16⟩⟩
      | 13, ho =>
        simp only [List.getElem?_toArray, List.getElem?_cons_succ, List.getElem?_cons_zero, Option.some.injEq] at ho
        subst ho
        simp [Region.binds] at hd
        unfold RAact
        have hB := hI.below.size
        have h14 : L 14 = false := by cases hx : L 14 with | false => rfl | true => exact absurd (hI.k14 hx).2 (by rw [hL]; simp)
        have h16 : L 16 = false := by cases hx : L 16 with | false => rfl | true => exact absurd ((hI.k16 hx).1.symm.trans h14) (by simp)
        obtain ⟨d3, d5, _⟩ := hd
        have hc := hI.cb
        rw [d3, d5, hL] at hc
        have ho0 := hc.h3 rfl rfl
        obtain ⟨b, rfl, hbk, _, _⟩ := hc.h5 rfl rfl
        refine app_at_step Try.underlying64 info_int rfl (by decide) w1.heap.size _ n _ ho0 (by unfold maxLen; omega) (by omega) hB b #[.int .i64 of] hbk rfl (by simp [Value.oneCell']) rfl (.tmp 28) (.tmp 30) rfl rfl rfl ?_
        intro g cap w2 hown2 hgr2 hat2 hlt2
        have hb3 := below_own hI.below ho0 hgr2 hB (Nat.le_refl _)
        refine hK.out _ _ ⟨_, _, _, _, _, _, _, _, _, _, _, _, _, _, _, _, rfl, ⟨hb3, hI.f19, hI.f20, hI.f22, hI.f26, hI.f27, hI.f29, hI.ca.grown ho0 hgr2 (by decide), by have := Chain.op6 (s := r25) (t := r28) (u := .slice (some ⟨b, 0, none⟩) 1 1) (x := .int .i64 of) (by simpa using hown2); show Chain _ _ _ _ _ (L 7) (L 10) (L 12) true _ _ _ _ _; rw [hI.k10 d3, d3, d5]; exact this, fun h => absurd ((show L 14 = true from h).symm.trans h14) (by simp), fun h => let ⟨b8, e, hb, h1, h2⟩ := hI.f8 h; ⟨b8, e, hb, fun a => (h1 a).grown hgr2 (own_ne ho0 (h1 a) (by decide)), fun a => absurd ((show L 16 = true from a).symm.trans h16) (by simp)⟩, hI.k3, hI.k6, hI.k10, fun _ => ⟨d3, d5⟩, fun h => absurd ((show L 14 = true from h).symm.trans h14) (by simp), hI.k16⟩⟩
      | 14, ho =>
        simp only [List.getElem?_toArray, List.getElem?_cons_succ, List.getElem?_cons_zero, Option.some.injEq] at ho
        subst ho
        simp [Region.binds] at hd
        unfold RAact
        have h16 : L 16 = false := by cases hx : L 16 with | false => rfl | true => exact absurd ((hI.k16 hx).1.symm.trans hL) (by simp)
        obtain ⟨d6, d13⟩ := hd
        obtain ⟨A24, c24, rfl, _⟩ := own_form (hI.ca.h6 d6)
        obtain ⟨A31, c31, rfl, _⟩ := own_form (hI.cb.h6 d13)
        go_simp
        refine hK.out _ _ ⟨_, _, _, _, _, _, _, _, _, _, _, _, _, _, _, _, rfl, ⟨hI.below, hI.f19, hI.f20, hI.f22, hI.f26, hI.f27, hI.f29, hI.ca, hI.cb, fun _ => rfl, hI.f8, hI.k3, hI.k6, hI.k10, hI.k13, fun _ => ⟨d6, d13⟩, fun h => absurd ((show L 16 = true from h).symm.trans h16) (by simp)⟩⟩
      | 15, ho =>
        simp only [List.getElem?_toArray, List.getElem?_cons_succ, List.getElem?_cons_zero, Option.some.injEq] at ho
        subst ho
        clear hd
        unfold RAact
        have hB := hI.below.size
        have h16 : L 16 = false := by cases hx : L 16 with | false => rfl | true => exact absurd ((hI.k16 hx).2.symm.trans hL) (by simp)
        go_simp
        refine hK.out _ _ ⟨_, _, _, _, _, _, _, _, _, _, _, _, _, _, _, _, rfl, ⟨hI.below.alloc hB _, hI.f19, hI.f20, hI.f22, hI.f26, hI.f27, hI.f29, hI.ca.alloc _, hI.cb.alloc _, hI.f32, fun _ => ⟨_, rfl, hB, fun _ => Bk.new _ _ _, fun a => absurd ((show L 16 = true from a).symm.trans h16) (by simp)⟩, hI.k3, hI.k6, hI.k10, hI.k13, hI.k14, fun h => absurd ((show L 16 = true from h).symm.trans h16) (by simp)⟩⟩
      | 16, ho =>
        simp only [List.getElem?_toArray, List.getElem?_cons_succ, List.getElem?_cons_zero, Option.some.injEq] at ho
        subst ho
        simp [Region.binds] at hd
        unfold RAact
        have d15 : L 15 = true := hd.1
        have d14 : L 14 = true := hd.2.1
        obtain ⟨d6, d13⟩ := hI.k14 d14
        obtain ⟨b8, rfl, hb8, hz8, _⟩ := hI.f8 d15
        have hk8 := hz8 hL
        obtain rfl := hI.f32 d14
        obtain ⟨A24, c24, rfl, _⟩ := own_form (hI.ca.h6 d6)
        obtain ⟨A31, c31, rfl, _⟩ := own_form (hI.cb.h6 d13)
        have y0 := hk8.cell 0
        have y1 := hk8.cell 1
        have yf := hk8.frozen
        have yl := def_lt' hk8
        dsimp at y0 y1
        go_simp
        have hk9 := hk8.set_ 0 (.slice A24 (n + 1) c24)
        have hk10 : Bk _ b8 66 #[.slice A24 (n + 1) c24, .slice A31 (n + 1) c31] := hk9.set_ 1 (.slice A31 (n + 1) c31)
        refine hK.out _ _ ⟨_, _, _, _, _, _, _, _, _, _, _, _, _, _, _, _, rfl, ⟨(hI.below.setCell hb8 _).setCell hb8 _, hI.f19, hI.f20, hI.f22, hI.f26, hI.f27, hI.f29, (hI.ca.set_ hk8 (by decide) _).set_ hk9 (by decide) _, (hI.cb.set_ hk8 (by decide) _).set_ hk9 (by decide) _, hI.f32, fun _ => ⟨b8, rfl, hb8, fun a => absurd (show true = false from a) (by simp), fun _ => hk10⟩, hI.k3, hI.k6, hI.k10, hI.k13, hI.k14, fun _ => ⟨d14, d15⟩⟩⟩
      | n + 17, ho =>
        simp at ho
    · rintro L a w ⟨r8, r18, r19, r20, r21, r22, r23, r24, r25, r26, r27, r28, r29, r30, r31, r32, rfl, hI⟩ hall
      obtain ⟨b8, rfl, hb8, _, hk8⟩ := hI.f8 (hall 15 (by decide))
      unfold RAact
      go_wp2_with fail
      go_meet
      exact ⟨b8, r24, r31, rfl, hb8, hI.below, hk8 (hall 16 (by decide)), hI.ca.h6 (hall 6 (by decide)), hI.cb.h6 (hall 13 (by decide))⟩
  case rest =>
    obtain ⟨b8, r24, r31, rfl, hb8, hbw, hk8, hw24, hw31⟩ := hcut
    obtain ⟨g24, c24, rfl, _, hl24⟩ := hw24.form (by omega)
    obtain ⟨g31, c31, rfl, _, hl31⟩ := hw31.form (by omega)
    have q3 := k3.ext hbw
    have q6 := k6.ext hbw
    have hbB : Below W.heap.size W wc := hb2.trans (hbw.mono hz2)
    have a0 := q3.cell 0
    have y0 := hk8.cell 0; have y1 := hk8.cell 1
    have z0 := q6.cell 0; have z1 := q6.cell 1; have zf := q6.frozen
    have yl := def_lt' hk8; have zl := def_lt' q6; have al := def_lt' q3
    dsimp at a0 y0 y1 z0 z1
    by_cases hof0 : 0 ≤ of
    · obtain ⟨κ, rfl⟩ : ∃ κ : Nat, of = κ := ⟨of.toNat, by omega⟩
      have hkn : κ < n := by omega
      have hcell := hw31.cellAt κ (by omega)
      obtain ⟨u, hu⟩ : ∃ u, (ofs.map (Value.int .i64) ++ [.int .i64 (κ : Int)])[κ]? = some u := ⟨_, List.getElem?_eq_getElem (by have := ho.1; simp at this ⊢; omega)⟩
      rw [hu] at hcell
      have hfr := hw31.frozenAt κ
      obtain ⟨hst, hgr⟩ := hw31.stored κ (.int .i64 (n : Int))
      obtain ⟨cs31, hbk31⟩ := own_type hw31 g31 rfl
      have ne8 : b8 ≠ g31 := fun e => own_ne hw31 hk8 (by decide) (by rw [← e]; rfl)
      have ne3 : W.heap.size ≠ g31 := fun e => own_ne hw31 q3 (by decide) (by rw [← e]; rfl)
      have ne6 : W.heap.size + 1 ≠ g31 := fun e => own_ne hw31 q6 (by decide) (by rw [← e]; rfl)
      have t8 := hk8.far (p := ⟨g31, κ, none⟩) ne8 (.int .i64 (n : Int))
      have t3 := q3.far (p := ⟨g31, κ, none⟩) ne3 (.int .i64 (n : Int))
      have t6 := q6.far (p := ⟨g31, κ, none⟩) ne6 (.int .i64 (n : Int))
      have o24 : (wc.setCell ⟨g31, κ, none⟩ (.int .i64 (n : Int))).ownsRow w1.heap.size 22 1 (.slice (some ⟨g24, 0, none⟩) (n + 1) c24) (n + 1) (vs ++ [.slice A k c]) := by
        refine ownsRow_setCell_other hw24 (fun e => ?_) _
        exact own_ne hw24 hbk31 (by decide) e
      have x8 := t8.cell 0; have x81 := t8.cell 1; have x3 := t3.cell 0; have x6 := t6.cell 0; have x61 := t6.cell 1; have x6f := t6.frozen
      have xl8 := def_lt' t8; have xl6 := def_lt' t6
      dsimp at x8 x81 x3 x6 x61
      have e1 : (κ : Int) < (n + 1 : Nat) := by omega
      go_wp2
      have r6 : Bk (((wc.setCell ⟨g31, κ, none⟩ (.int .i64 (n : Int))).setCell ⟨W.heap.size + 1, 0, none⟩ (.slice (some ⟨g24, 0, none⟩) (n + 1) c24)).setCell ⟨W.heap.size + 1, 1, none⟩ (.slice (some ⟨g31, 0, none⟩) (n + 1) c31)) (W.heap.size + 1) 66 #[.slice (some ⟨g24, 0, none⟩) (n + 1) c24, .slice (some ⟨g31, 0, none⟩) (n + 1) c31] := (t6.set_ 0 _).set_ 1 _
      have d0 := r6.cell 0; have d1 := r6.cell 1
      dsimp at d0 d1
      have t6b := t6.set_ 0 (.slice (some ⟨g24, 0, none⟩) (n + 1) c24)
      have p24 := ownsRow_setCell_other (ownsRow_setCell_other o24 (a := ⟨W.heap.size + 1, 0, none⟩) (own_ne o24 t6 (by decide)) (.slice (some ⟨g24, 0, none⟩) (n + 1) c24)) (a := ⟨W.heap.size + 1, 1, none⟩) (own_ne (ownsRow_setCell_other o24 (a := ⟨W.heap.size + 1, 0, none⟩) (own_ne o24 t6 (by decide)) (.slice (some ⟨g24, 0, none⟩) (n + 1) c24)) t6b (by decide)) (.slice (some ⟨g31, 0, none⟩) (n + 1) c31)
      have p31 := ownsRow_setCell_other (ownsRow_setCell_other hst (a := ⟨W.heap.size + 1, 0, none⟩) (own_ne hst t6 (by decide)) (.slice (some ⟨g24, 0, none⟩) (n + 1) c24)) (a := ⟨W.heap.size + 1, 1, none⟩) (own_ne (ownsRow_setCell_other hst (a := ⟨W.heap.size + 1, 0, none⟩) (own_ne hst t6 (by decide)) (.slice (some ⟨g24, 0, none⟩) (n + 1) c24)) t6b (by decide)) (.slice (some ⟨g31, 0, none⟩) (n + 1) c31)
      have hge := own_ge hw31 g31 rfl
      refine bodyPost_ret (v := .tuple #[.agg #[.slice (some ⟨g24, 0, none⟩) (n + 1) c24, .slice (some ⟨g31, 0, none⟩) (n + 1) c31], .int .i64 0]) (by simp [results, Try.results48, go_sem, d0, d1]) rfl ⟨_, _, rfl, own_base p24 hz2, ?_, ?_⟩
      · first | exact own_base p31 hz2 | (rw [if_pos hof0, Int.toNat_natCast, List.map_set, List.map_append]; exact own_base p31 hz2)
      · refine Below.setCell (Below.setCell ?_ (by simp) _) (by simp) _
        exact (hbB.setCell (by simp only; omega) _)
    · go_wp2
      have r6 : Bk ((wc.setCell ⟨W.heap.size + 1, 0, none⟩ (.slice (some ⟨g24, 0, none⟩) (n + 1) c24)).setCell ⟨W.heap.size + 1, 1, none⟩ (.slice (some ⟨g31, 0, none⟩) (n + 1) c31)) (W.heap.size + 1) 66 #[.slice (some ⟨g24, 0, none⟩) (n + 1) c24, .slice (some ⟨g31, 0, none⟩) (n + 1) c31] := (q6.set_ 0 _).set_ 1 _
      have d0 := r6.cell 0; have d1 := r6.cell 1
      dsimp at d0 d1
      have t6b := q6.set_ 0 (.slice (some ⟨g24, 0, none⟩) (n + 1) c24)
      have p24 := ownsRow_setCell_other (ownsRow_setCell_other hw24 (a := ⟨W.heap.size + 1, 0, none⟩) (own_ne hw24 q6 (by decide)) (.slice (some ⟨g24, 0, none⟩) (n + 1) c24)) (a := ⟨W.heap.size + 1, 1, none⟩) (own_ne (ownsRow_setCell_other hw24 (a := ⟨W.heap.size + 1, 0, none⟩) (own_ne hw24 q6 (by decide)) (.slice (some ⟨g24, 0, none⟩) (n + 1) c24)) t6b (by decide)) (.slice (some ⟨g31, 0, none⟩) (n + 1) c31)
      have p31 := ownsRow_setCell_other (ownsRow_setCell_other hw31 (a := ⟨W.heap.size + 1, 0, none⟩) (own_ne hw31 q6 (by decide)) (.slice (some ⟨g24, 0, none⟩) (n + 1) c24)) (a := ⟨W.heap.size + 1, 1, none⟩) (own_ne (ownsRow_setCell_other hw31 (a := ⟨W.heap.size + 1, 0, none⟩) (own_ne hw31 q6 (by decide)) (.slice (some ⟨g24, 0, none⟩) (n + 1) c24)) t6b (by decide)) (.slice (some ⟨g31, 0, none⟩) (n + 1) c31)
      refine bodyPost_ret (v := .tuple #[.agg #[.slice (some ⟨g24, 0, none⟩) (n + 1) c24, .slice (some ⟨g31, 0, none⟩) (n + 1) c31], .int .i64 0]) (by simp [results, Try.results48, go_sem, d0, d1]) rfl ⟨_, _, rfl, own_base p24 hz2, ?_, ?_⟩
      · first | exact own_base p31 hz2 | (rw [if_neg (by omega), List.map_append]; exact own_base p31 hz2)
      · exact Below.setCell (Below.setCell hbB (by simp) _) (by simp) _

set_option maxHeartbeats 1000000 in
theorem radd_bad (W : World) (Am Ao A : Option Addr) (cm co n k c : Nat) (l : List Rg) (of : Int) (hr : rightM l = false) (hk : k ≤ maxLen) (h : k ≤ 1000 → Rd W W.heap.size 3 A k (rgs l)) (hl : l.length = k) :
    Calls Try.prog 48 #[.agg #[.slice Am n cm, .slice Ao n co], .slice A k c, .int .i64 of] W fun e W' => e = .returned (.tuple #[.agg #[.slice Am n cm, .slice Ao n co], .int .i64 1]) ∧ Below W.heap.size W W' := by
  have hb0 : Below W.heap.size W ((W.alloc (.cells #[.slice Am n cm, .slice Ao n co] 66)).alloc (.cells #[.slice none 0 0, .slice none 0 0] 66)) := by repeat (first | with_reducible exact Below.refl _ _ | with_reducible assumption | (with_reducible refine below_drewN ?_ _) | (with_reducible refine Below.drew ?_) | (with_reducible refine Below.alloc ?_ ?_ _; rotate_left; focus (first | with_reducible assumption | omega | (simp; done) | (simp; omega))) | (with_reducible refine Below.setCell ?_ ?_ _; rotate_left; focus (first | with_reducible assumption | omega | (simp; done) | (simp; omega))))
  have k30 := (Bk.new W 66 #[.slice Am n cm, .slice Ao n co]).alloc (.cells #[.slice none 0 0, .slice none 0 0] 66)
  have k60 : Bk ((W.alloc (.cells #[.slice Am n cm, .slice Ao n co] 66)).alloc (.cells #[.slice none 0 0, .slice none 0 0] 66)) (W.heap.size + 1) 66 #[.slice none 0 0, .slice none 0 0] := Bk.made _ _ (by simp)
  have hri := rright_any A k c l _ hk (fun hh => ((h hh).below hb0).more hb0.size) hl
  rw [hr] at hri
  have HRI := Lib.hid hri
  clear hri hl hr h
  go_enter Try.func48, Try.ntmps48
  go_wp2_with (go_at_call 11; refine HRI.out.mono ?_; rintro e w1 ⟨rfl, hb1⟩; have k3 := k30.ext hb1; have k6 := k60.ext hb1; have c0 := k3.cell 0; have c1 := k3.cell 1; have z0 := k6.cell 0; have z1 := k6.cell 1; have zf := k6.frozen; dsimp at c0 c1 z0 z1; have hb2 := hb0.trans (hb1.mono hb0.size); have hz1 := def_lt' k6; have hz3 := def_lt' k3)
  have r6 : Bk ((w1.setCell ⟨W.heap.size + 1, 0, none⟩ (.slice Am n cm)).setCell ⟨W.heap.size + 1, 1, none⟩ (.slice Ao n co)) (W.heap.size + 1) 66 #[.slice Am n cm, .slice Ao n co] := (k6.set_ 0 _).set_ 1 _
  have d0 := r6.cell 0; have d1 := r6.cell 1
  dsimp at d0 d1
  refine bodyPost_ret (v := .tuple #[.agg #[.slice Am n cm, .slice Ao n co], .int .i64 1]) (by simp [results, Try.results48, go_sem, d0, d1]) rfl ⟨rfl, ?_⟩
  exact Below.setCell (Below.setCell hb2 (by simp) _) (by simp) _
end Go.Proofs.Ytkkbmcpimglcpaa
