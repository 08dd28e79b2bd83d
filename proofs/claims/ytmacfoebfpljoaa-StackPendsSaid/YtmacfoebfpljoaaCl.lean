/- chain: Copy -/
import Derived.Test.YtmacfoebfpljoaaCq
import Derived.Test.YtmacfoebfpljoaaK2
import Derived.Test.YtmacfoebfpljoaaCfw
namespace Go.Proofs.Ytmacfoebfpljoaa
open Go.RowKit

theorem info_step : (Try.prog.info? 41).map (fun i => (i.zero, i.size, i.bytes)) = some (some (.agg (stp 0 0 0 0 0 0 0 0 none 0 0 none 0 0)), 10, 112) := by kernel_rfl
/-- groups come out, owned -/
def GrsOut (V : List GrC) (w : World) (e : Ending) (w' : World) : Prop := ∃ v L', e = .returned v ∧ w'.ownsRow w.heap.size 36 8 v L'.length (grs L') ∧ (∀ g ∈ L', g.Own w' w.heap.size) ∧ L'.map GrH.val = V ∧ Below w.heap.size w w'
set_option maxRecDepth 100000 in
set_option maxHeartbeats 8000000 in
theorem copy_any (A : Option Addr) (n c : Nat) (L : List GrH) (w : World) (h : GrsIn w w.heap.size A n L) (hn : n ≤ 1000) (hs : ∀ g ∈ L, g.n ≤ 1000) :
    Calls Try.prog 21 #[.slice A n c] w (GrsOut (L.map GrH.val) w) := by
  have hlen := h.len
  have H := Lib.hid h
  have HS := Lib.hid hs
  have HLEN := Lib.hid hlen
  clear h hs hlen
  go_enter Try.func21, Try.ntmps21
  go_wp2
  go_loopw [3, 11] (fun v j wr => ∃ (q : Nat) (Lo : List GrH), q ≤ n ∧ j = .int .i64 q ∧ Hid (Lo.map GrH.val = (L.take q).map GrH.val) ∧ Below w.heap.size w wr ∧ wr.ownsRow w.heap.size 36 8 v Lo.length (grs Lo) ∧ Hid (∀ g ∈ Lo, g.Own wr w.heap.size)) (fun _ j _ => n - (intOf j).toNat)
  case atStart => exact ⟨0, [], by omega, rfl, Lib.hid (by simp), Below.refl _ _, World.ownsRow_nil _ _ _ _, Lib.hid (by simp)⟩
  case round =>
    rename World => wo
    obtain ⟨q, Lo, hq, rfl, hval, hbr, hown, hLo⟩ := hrel
    by_cases hqn : q < n
    · obtain ⟨g, hx⟩ : ∃ g, L[q]? = some g := ⟨_, List.getElem?_eq_getElem (by have := HLEN.out; omega)⟩
      obtain ⟨gin, b, o, rfl, hb, hcc⟩ := (H.out.below hbr).at_ hx
      have hgn := HS.out g (List.mem_of_getElem? hx)
      have hqv : (L.take (q + 1)).map GrH.val = (L.take q).map GrH.val ++ [g.val] := by rw [List.take_add_one, hx]; simp
      have HQV := Lib.hid hqv
      have gin0 := (H.out.2 g (List.mem_of_getElem? hx))
      have hlo : Lo.length = q := by
        have := congrArg List.length hval.out
        simp only [List.length_map, List.length_take] at this
        have := HLEN.out
        omega
      have HLO := Lib.hid hlo
      clear hlo
      obtain ⟨gA, gn, gc, gL, ⟨pk, pa, pb⟩, ⟨bk, ba, bb⟩, glost⟩ := g
      have d0 := hcc 0 (by omega); have d1 := hcc 1 (by omega); have d2 := hcc 2 (by omega); have d3 := hcc 3 (by omega); have d4 := hcc 4 (by omega); have d5 := hcc 5 (by omega); have d6 := hcc 6 (by omega); have d7 := hcc 7 (by omega)
      dsimp [GrH.cells] at d0 d1 d2 d3 d4 d5 d6 d7 hgn
      have e3 : (q : Int) < n := by omega
      have hbw := hbr.size
      have GIN := Lib.hid gin0
      have hglen : gL.length = gn := gin0.sts.len
      have k6 : Bk ((wo.alloc (.cells #[.slice gA gn gc, .int .i64 pk, .int .i64 pa, .int .i64 pb, .int .i64 bk, .int .i64 ba, .int .i64 bb, .int .i64 glost] 36)).alloc (.cells #[.slice none 0 0, .int .i64 pk, .int .i64 pa, .int .i64 pb, .int .i64 bk, .int .i64 ba, .int .i64 bb, .int .i64 glost] 36)) (wo.heap.size + 1) 36 (grp (.slice none 0 0) pk pa pb bk ba bb glost) := Bk.made _ _ (by simp)
      have hb6 : Below wo.heap.size wo ((wo.alloc (.cells #[.slice gA gn gc, .int .i64 pk, .int .i64 pa, .int .i64 pb, .int .i64 bk, .int .i64 ba, .int .i64 bb, .int .i64 glost] 36)).alloc (.cells #[.slice none 0 0, .int .i64 pk, .int .i64 pa, .int .i64 pb, .int .i64 bk, .int .i64 ba, .int .i64 bb, .int .i64 glost] 36)) := by repeat (first | with_reducible exact Below.refl _ _ | with_reducible assumption | (with_reducible refine below_drewN ?_ _) | (with_reducible refine Below.drew ?_) | (with_reducible refine Below.alloc ?_ ?_ _; rotate_left; focus (first | with_reducible assumption | omega | (simp; done) | (simp; omega))) | (with_reducible refine Below.setCell ?_ ?_ _; rotate_left; focus (first | with_reducible assumption | omega | (simp; done) | (simp; omega))))
      clear hx hcc hqv gin gin0
      go_wp2
      generalize (wo.alloc (.cells #[.slice gA gn gc, .int .i64 pk, .int .i64 pa, .int .i64 pb, .int .i64 bk, .int .i64 ba, .int .i64 bb, .int .i64 glost] 36)).alloc (.cells #[.slice none 0 0, .int .i64 pk, .int .i64 pa, .int .i64 pb, .int .i64 bk, .int .i64 ba, .int .i64 bb, .int .i64 glost] 36) = w0 at *
      go_loopw [20] (fun j wr => ∃ (p : Nat) (Lp : List StH) (v5 : Value), p ≤ gn ∧ j = .int .i64 p ∧ Hid (Lp.map StH.x = (gL.take p).map StH.x) ∧ Below wo.heap.size wo wr ∧ Bk wr (wo.heap.size + 1) 36 (grp v5 pk pa pb bk ba bb glost) ∧ wr.ownsRow wo.heap.size 41 10 v5 Lp.length (sts Lp) ∧ Hid (∀ s ∈ Lp, s.Own wr wo.heap.size)) (fun j _ => gn - (intOf j).toNat)
      case atStart => exact ⟨0, [], _, by omega, rfl, Lib.hid (by simp), hb6, k6, World.ownsRow_nil _ _ _ _, Lib.hid (by simp)⟩
      case round =>
        obtain ⟨p, Lp, v5, hp, rfl, hpv, hbq, k6, hown5, hLp⟩ := hrel
        by_cases hpn : p < gn
        · obtain ⟨s, hxs⟩ : ∃ s, gL[p]? = some s := ⟨_, List.getElem?_eq_getElem (by omega)⟩
          have hbwq : Below w.heap.size w wr := hbr.trans (hbq.mono hbw)
          obtain ⟨sin, bs, os, rfl, hbs, hcs⟩ := (GIN.out.sts.below hbwq).at_ hxs
          have hpv2 : (gL.take (p + 1)).map StH.x = (gL.take p).map StH.x ++ [s.x] := by rw [List.take_add_one, hxs]; simp
          have HPV2 := Lib.hid hpv2
          have hlp : Lp.length = p := by
            have := congrArg List.length hpv.out
            simp only [List.length_map, List.length_take] at this
            omega
          have HLP := Lib.hid hlp
          clear hlp
          obtain ⟨sA, sn, sc, sA', sn', sc', ⟨xk, xf, xt, xg, xh, xi, xm, xv, xsl, xst⟩⟩ := s
          have c0 := hcs 0 (by omega); have c1 := hcs 1 (by omega); have c2 := hcs 2 (by omega); have c3 := hcs 3 (by omega); have c4 := hcs 4 (by omega); have c5 := hcs 5 (by omega); have c6 := hcs 6 (by omega); have c7 := hcs 7 (by omega); have c8 := hcs 8 (by omega); have c9 := hcs 9 (by omega)
          dsimp [StH.cells] at c0 c1 c2 c3 c4 c5 c6 c7 c8 c9
          have e4 : (p : Int) < gn := by omega
          have SIN := Lib.hid sin
          have hbqz := hbq.size
          clear hxs hcs hpv2 sin
          go_upto_region 10 with fail
          have s8 : Bk (wr.alloc (.cells #[.int .i64 xk, .int .i64 xf, .int .i64 xt, .int .i64 xg, .int .i64 xh, .int .i64 xi, .int .i64 xm, .int .i64 xv, .slice sA sn sc, .slice sA' sn' sc'] 41)) wr.heap.size 41 (stp xk xf xt xg xh xi xm xv sA sn sc sA' sn' sc') := Bk.new wr _ _
          have g8 := k6.alloc (.cells #[.int .i64 xk, .int .i64 xf, .int .i64 xt, .int .i64 xg, .int .i64 xh, .int .i64 xi, .int .i64 xm, .int .i64 xv, .slice sA sn sc, .slice sA' sn' sc'] 41)
          have hb8 : Below wr.heap.size wr (wr.alloc (.cells #[.int .i64 xk, .int .i64 xf, .int .i64 xt, .int .i64 xg, .int .i64 xh, .int .i64 xi, .int .i64 xm, .int .i64 xv, .slice sA sn sc, .slice sA' sn' sc'] 41)) := by repeat (first | with_reducible exact Below.refl _ _ | with_reducible assumption | (with_reducible refine below_drewN ?_ _) | (with_reducible refine Below.drew ?_) | (with_reducible refine Below.alloc ?_ ?_ _; rotate_left; focus (first | with_reducible assumption | omega | (simp; done) | (simp; omega))) | (with_reducible refine Below.setCell ?_ ?_ _; rotate_left; focus (first | with_reducible assumption | omega | (simp; done) | (simp; omega))))
          have hz8 : (wr.alloc (.cells #[.int .i64 xk, .int .i64 xf, .int .i64 xt, .int .i64 xg, .int .i64 xh, .int .i64 xi, .int .i64 xm, .int .i64 xv, .slice sA sn sc, .slice sA' sn' sc'] 41)).heap.size = wr.heap.size + 1 := by simp
          generalize wr.alloc (.cells #[.int .i64 xk, .int .i64 xf, .int .i64 xt, .int .i64 xg, .int .i64 xh, .int .i64 xi, .int .i64 xm, .int .i64 xv, .slice sA sn sc, .slice sA' sn' sc'] 41) = w8 at *
          have hF : ∀ w', (Bk w' (wo.heap.size + 1) 36 (grp v5 pk pa pb bk ba bb glost) ∧ Bk w' wr.heap.size 41 (stp xk xf xt xg xh xi xm xv sA sn sc sA' sn' sc')) → w'.cell? ⟨wo.heap.size + 1, 0, none⟩ = some v5 ∧ w'.cell? ⟨wr.heap.size, 0, none⟩ = some (.int .i64 xk) ∧ w'.cell? ⟨wr.heap.size, 1, none⟩ = some (.int .i64 xf) ∧ w'.cell? ⟨wr.heap.size, 2, none⟩ = some (.int .i64 xt) ∧ w'.cell? ⟨wr.heap.size, 3, none⟩ = some (.int .i64 xg) ∧ w'.cell? ⟨wr.heap.size, 4, none⟩ = some (.int .i64 xh) ∧ w'.cell? ⟨wr.heap.size, 5, none⟩ = some (.int .i64 xi) ∧ w'.cell? ⟨wr.heap.size, 6, none⟩ = some (.int .i64 xm) ∧ w'.cell? ⟨wr.heap.size, 7, none⟩ = some (.int .i64 xv) ∧ w'.cell? ⟨wr.heap.size, 8, none⟩ = some (.slice sA sn sc) ∧ w'.cell? ⟨wr.heap.size, 9, none⟩ = some (.slice sA' sn' sc') := fun w' h => ⟨h.1.cell 0, h.2.cell 0, h.2.cell 1, h.2.cell 2, h.2.cell 3, h.2.cell 4, h.2.cell 5, h.2.cell 6, h.2.cell 7, h.2.cell 8, h.2.cell 9⟩
          have HF := Lib.hid hF
          clear hF c0 c1 c2 c3 c4 c5 c6 c7 c8 c9
          refine wp_normal ?_
          refine region_L (S := fun w' => Bk w' (wo.heap.size + 1) 36 (grp v5 pk pa pb bk ba bb glost) ∧ Bk w' wr.heap.size 41 (stp xk xf xt xg xh xi xm xv sA sn sc sA' sn' sc')) [7] (by kernel_rfl) ⟨g8.drew, s8.drew⟩ (fun hHeld => ?_)
          (refine takeL_if (i := 0) (oi := _) (v := ?_) (by simp only [List.getElem?_toArray, List.getElem?_cons_zero]; rfl) (by kernel_rfl) (by kernel_rfl) (by kernel_rfl) (fun _ _ _ h => h) (by rfl) ?_ (by assumption) ?_; rotate_left; (focus ((intro w hSw; (try have hSw := HF.out _ hSw); (try dsimp only at hSw); go_simp); try exact rfl)); simp only [Act.put, List.setIfInBounds_toArray, List.set_cons_zero, List.set_cons_succ]; refine takeL_if (i := 1) (oi := _) (v := ?_) (by simp only [List.getElem?_toArray, List.getElem?_cons_succ, List.getElem?_cons_zero]; rfl) (by kernel_rfl) (by kernel_rfl) (by kernel_rfl) (fun _ _ _ h => h) (by rfl) ?_ (by assumption) ?_; rotate_left; (focus ((intro w hSw; (try have hSw := HF.out _ hSw); (try dsimp only at hSw); go_simp); try exact rfl)); simp only [Act.put, List.setIfInBounds_toArray, List.set_cons_zero, List.set_cons_succ]; refine takeL_if (i := 2) (oi := _) (v := ?_) (by simp only [List.getElem?_toArray, List.getElem?_cons_succ, List.getElem?_cons_zero]; rfl) (by kernel_rfl) (by kernel_rfl) (by kernel_rfl) (fun _ _ _ h => h) (by rfl) ?_ (by assumption) ?_; rotate_left; (focus ((intro w hSw; (try have hSw := HF.out _ hSw); (try dsimp only at hSw); go_simp); try exact rfl)); simp only [Act.put, List.setIfInBounds_toArray, List.set_cons_zero, List.set_cons_succ])
          refine anyL_ready (rs := [3]) (by kernel_rfl) (by simp) ?_; refine (ReadyL.cons (o := _) (by simp only [List.getElem?_toArray, List.getElem?_cons_succ, List.getElem?_cons_zero]; rfl) (fun K hK => ?_) ReadyL.nil)
          go_simp
          go_at_call 25
          refine (own_any2 ⟨xk, xf, xt, xg, xh, xi, xm, xv, xsl, xst⟩ sA sn sc sA' sn' sc' w8.drew ((SIN.out.more (Nat.le_trans hbw hbqz)).ext hb8.drew)).mono ?_
          rintro e w9 ⟨A2, n2, c2, A2', n2', c2', rfl, hso, hb9⟩
          refine hK.out _ _ ⟨g8.drew.ext hb9, s8.drew.ext hb9⟩ (fun hHeld => ?_)
          clear hK K
          have hb9' : Below wr.heap.size wr w9 := Below.trans hb8.drew (hb9.mono hb8.size)
          have hz9 := hb9'.size
          refine anyL_ready (rs := [4]) (by kernel_rfl) (by simp) ?_; refine (ReadyL.cons (o := _) (by simp only [List.getElem?_toArray, List.getElem?_cons_succ, List.getElem?_cons_zero]; rfl) (fun K hK => ?_) ReadyL.nil)
          go_simp
          refine hK.out _ _ ⟨(g8.drew.ext hb9).alloc _, (s8.drew.ext hb9).alloc _⟩ (fun hHeld => ?_)
          clear hK K; (try simp only [Act.put, List.setIfInBounds_toArray, List.set_cons_zero, List.set_cons_succ])
          have hown9 := own_below hown5 hb9'
          have hA5 := Bk.new w9 41 #[.int .i64 xk, .int .i64 xf, .int .i64 xt, .int .i64 xg, .int .i64 xh, .int .i64 xi, .int .i64 xm, .int .i64 xv, .slice A2 n2 c2, .slice A2' n2' c2']
          have gA := (g8.drew.ext hb9).alloc (.cells #[.int .i64 xk, .int .i64 xf, .int .i64 xt, .int .i64 xg, .int .i64 xh, .int .i64 xi, .int .i64 xm, .int .i64 xv, .slice A2 n2 c2, .slice A2' n2' c2'] 41)
          have sA8 := (s8.drew.ext hb9).alloc (.cells #[.int .i64 xk, .int .i64 xf, .int .i64 xt, .int .i64 xg, .int .i64 xh, .int .i64 xi, .int .i64 xm, .int .i64 xv, .slice A2 n2 c2, .slice A2' n2' c2'] 41)
          have hownA : (w9.alloc (.cells #[.int .i64 xk, .int .i64 xf, .int .i64 xt, .int .i64 xg, .int .i64 xh, .int .i64 xi, .int .i64 xm, .int .i64 xv, .slice A2 n2 c2, .slice A2' n2' c2'] 41)).ownsRow wo.heap.size 41 10 v5 Lp.length (sts Lp) := World.ownsRow.alloc hown9 _
          have hbA : Below wr.heap.size wr (w9.alloc (.cells #[.int .i64 xk, .int .i64 xf, .int .i64 xt, .int .i64 xg, .int .i64 xh, .int .i64 xi, .int .i64 xm, .int .i64 xv, .slice A2 n2 c2, .slice A2' n2' c2'] 41)) := by repeat (first | with_reducible exact Below.refl _ _ | with_reducible assumption | (with_reducible refine below_drewN ?_ _) | (with_reducible refine Below.drew ?_) | (with_reducible refine Below.alloc ?_ ?_ _; rotate_left; focus (first | with_reducible assumption | omega | (simp; done) | (simp; omega))) | (with_reducible refine Below.setCell ?_ ?_ _; rotate_left; focus (first | with_reducible assumption | omega | (simp; done) | (simp; omega))))
          have hsoA : (StH.mk A2 n2 c2 A2' n2' c2' ⟨xk, xf, xt, xg, xh, xi, xm, xv, xsl, xst⟩).Own (w9.alloc (.cells #[.int .i64 xk, .int .i64 xf, .int .i64 xt, .int .i64 xg, .int .i64 xh, .int .i64 xi, .int .i64 xm, .int .i64 xv, .slice A2 n2 c2, .slice A2' n2' c2'] 41)) wo.heap.size := (hso.below ((Below.refl _ _).alloc (Nat.le_refl _) _)).base_ (by simp; omega)
          have hzA : (w9.alloc (.cells #[.int .i64 xk, .int .i64 xf, .int .i64 xt, .int .i64 xg, .int .i64 xh, .int .i64 xi, .int .i64 xm, .int .i64 xv, .slice A2 n2 c2, .slice A2' n2' c2'] 41)).heap.size = w9.heap.size + 1 := by simp
          generalize w9.alloc (.cells #[.int .i64 xk, .int .i64 xf, .int .i64 xt, .int .i64 xg, .int .i64 xh, .int .i64 xi, .int .i64 xm, .int .i64 xv, .slice A2 n2 c2, .slice A2' n2' c2'] 41) = wA at *
          refine anyL_ready (rs := [5]) (by kernel_rfl) (by simp) ?_; refine (ReadyL.cons (o := _) (by simp only [List.getElem?_toArray, List.getElem?_cons_succ, List.getElem?_cons_zero]; rfl) (fun K hK => ?_) ReadyL.nil)
          refine app_at_step Try.underlying26 info_step rfl (by decide) wo.heap.size _ Lp.length _ hownA (by have := HLP.out; unfold maxLen; omega) (by have := HLP.out; omega) (by omega) w9.heap.size (stp xk xf xt xg xh xi xm xv A2 n2 c2 A2' n2' c2') hA5 rfl (by simp [Value.oneCell']) rfl _ _ rfl rfl rfl ?_
          intro g4 cap4 w4 hown4 hgr4 hat4 hlt4
          have gB := gA.grown hgr4 (own_ne hownA gA (by decide))
          have sB := sA8.grown hgr4 (fun e => by have := own_lt hown5 _ e; omega)
          refine hK.out _ _ ⟨gB, sB⟩ (fun hHeld => ?_)
          clear hK K; (try simp only [Act.put, List.setIfInBounds_toArray, List.set_cons_zero, List.set_cons_succ])
          (refine takeL_if (i := 6) (oi := _) (v := ?_) (by simp only [List.getElem?_toArray, List.getElem?_cons_succ, List.getElem?_cons_zero]; rfl) (by kernel_rfl) (by kernel_rfl) (by kernel_rfl) (fun _ _ _ h => h) (by rfl) ?_ (by assumption) ?_; rotate_left; (focus ((intro w hSw; (try have hSw := HF.out _ hSw); (try dsimp only at hSw); go_simp); try exact rfl)); simp only [Act.put, List.setIfInBounds_toArray, List.set_cons_zero, List.set_cons_succ])
          have fB := gB.frozen; have lB := def_lt' gB; have cB := gB.cell 0
          dsimp [grp] at cB
          refine anyL_late (i := 7) (o := _) (by kernel_rfl) (by kernel_rfl) (by simp only [List.getElem?_toArray, List.getElem?_cons_succ, List.getElem?_cons_zero]; rfl) (fun K hK => ?_)
          go_simp
          refine hK.out _ _ ?_
          clear hK K; (try simp only [Act.put, List.setIfInBounds_toArray, List.set_cons_zero, List.set_cons_succ])
          refine anyL_done (by kernel_rfl) ?_
          go_wp2
          go_roundw
          case rel =>
            have hbA' : Below wo.heap.size wo wA := hbq.trans (hbA.mono hbqz)
            have hb4 := below_own hbA' hownA hgr4 (by omega) (Nat.le_refl _)
            have gr4 : w4.grownBy (w4.setCell ⟨wo.heap.size + 1, 0, none⟩ (.slice (some ⟨g4, 0, none⟩) (Lp.length + 1) cap4)) (some (wo.heap.size + 1)) := gr_set (World.grownBy.refl _ _) (.inl rfl) _
            refine ⟨p + 1, Lp ++ [⟨A2, n2, c2, A2', n2', c2', ⟨xk, xf, xt, xg, xh, xi, xm, xv, xsl, xst⟩⟩], _, by omega, by go_num, Lib.hid (by rw [HPV2.out, List.map_append, hpv.out]; rfl), hb4.setCell (by simp) _, gB.set_ 0 _, ?_, Lib.hid ?_⟩
            · rw [sts_append, List.length_append]
              exact ownsRow_setCell_other hown4 (own_ne (b := wo.heap.size + 1) (t := 36) hown4 gB (by decide)) _
            · intro y hy
              refine StH.Own.grown (w := w4) (b := wo.heap.size + 1) ?_ gB gr4 (by decide) (by decide)
              refine StH.Own.grow (w := wA) ?_ hownA hgr4 (by decide) (by decide)
              rcases List.mem_append.1 hy with hy | hy
              · exact (hLp.out y hy).below hbA
              · simp at hy; subst hy; exact hsoA
          case measure => simp [intOf]; omega
        · obtain rfl : gn = p := by omega
          have c0 := k6.cell 0; have c1 := k6.cell 1; have c2 := k6.cell 2; have c3 := k6.cell 3; have c4 := k6.cell 4; have c5 := k6.cell 5; have c6 := k6.cell 6; have c7 := k6.cell 7
          dsimp [grp] at c0 c1 c2 c3 c4 c5 c6 c7
          have hown2 := own_below hown hbq
          have hb2 : Below w.heap.size w wr := hbr.trans (hbq.mono hbw)
          have hz2 := hb2.size
          obtain ⟨A5, c5', rfl, f1, f2, f3, f4⟩ := own_form hown5
          go_wp2_with (at_builtin; ((refine app_one Try.underlying31 info_group rfl (by decide) wr w.heap.size _ Lo.length _ hown2 (by have := HLO.out; unfold maxLen; omega) (by have := HLO.out; omega) hz2 _ rfl (by simp [Value.oneCell']) rfl _ _ rfl rfl rfl ?_); intro g4 cap4 w4 hown4 hgr4 hat4 hlt4))
          have hb4 := below_own hb2 hown2 hgr4 hz2 (Nat.le_refl _)
          have hlp : Lp.length = gn := by
            have := congrArg List.length hpv.out
            simp only [List.length_map, List.length_take] at this
            omega
          have hLpv : Lp.map StH.x = gL.map StH.x := by rw [hpv.out, List.take_of_length_le (by omega)]
          have hnew : (GrH.mk A5 Lp.length c5' Lp ⟨pk, pa, pb⟩ ⟨bk, ba, bb⟩ glost).Own wr w.heap.size := ⟨own_base hown5 hbw, fun s hs => (hLp.out s hs).base_ hbw, by rw [hlp]; show gn ≤ 1000000; omega⟩
          go_roundw
          case rel =>
            refine ⟨q + 1, Lo ++ [⟨A5, Lp.length, c5', Lp, ⟨pk, pa, pb⟩, ⟨bk, ba, bb⟩, glost⟩], by omega, by go_num, Lib.hid ?_, hb4, ?_, Lib.hid ?_⟩
            · rw [HQV.out, List.map_append, hval.out]
              simp only [GrH.val, List.map_cons, List.map_nil]
              rw [hLpv]
            · rw [grs_append, List.length_append]
              exact hown4
            · intro y hy
              refine GrH.Own.grow (w := wr) ?_ hown2 hgr4 (by decide) (by decide) (by decide)
              rcases List.mem_append.1 hy with hy | hy
              · exact (hLo.out y hy).below hbq
              · simp at hy; subst hy; exact hnew
          case measure => simp [intOf]; omega
    · obtain rfl : n = q := by omega
      go_wp2
      go_ret
      refine ⟨_, Lo, rfl, hown, hLo.out, ?_, hbr⟩
      rw [hval.out, List.take_of_length_le (by rw [HLEN.out]; omega)]
end Go.Proofs.Ytmacfoebfpljoaa
