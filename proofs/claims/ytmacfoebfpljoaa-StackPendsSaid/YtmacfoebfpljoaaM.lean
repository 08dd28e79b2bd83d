/- smap: Invert -/
import Derived.Test.YtmacfoebfpljoaaE
import Derived.Test.YtmacfoebfpljoaaI
import Derived.Test.YtmacfoebfpljoaaP
namespace Go.Proofs.Ytmacfoebfpljoaa
open Go.RowKit
attribute [local go_sem] Oper.semAt_some

/-- what Invert's boxes hold between two rounds -/
def InvI (l : List Rg) (A : Option Addr) (n c : Nat) (w : World) (bo : Nat) (pre : List (Nat × Int)) (W : World) : Prop :=
  (∃ k, k ≤ n ∧ pre = upto l k ∧ ∃ v, Bk W bo 23 #[v] ∧ W.ownsRow bo 45 3 v k (rgs (invM (l.take k)))) ∧ Below w.heap.size w W ∧
  Bk W w.heap.size 23 #[.slice A n c] ∧ bo < W.heap.size ∧ w.heap.size < bo

set_option maxRecDepth 100000 in
set_option maxHeartbeats 2000000 in
theorem inv_go (A : Option Addr) (n c : Nat) (l : List Rg) (w : World) (hrd : Rd w w.heap.size 3 A n (rgs l)) (hr : rightM l = true) :
    Calls Try.prog 39 #[.slice A n c] w fun e w' => ∃ v, e = .returned v ∧ w'.ownsRow w.heap.size 45 3 v n (rgs (invM l)) ∧ Below w.heap.size w w' := by
  have hl := hrd.rlen
  have hn2 : n ≤ 1000 := by have := right_len hr; omega
  have hri := fun W (hb : Below w.heap.size w W) => right_any A n c l W (by unfold maxLen; omega) (fun hh => (hrd.below hb).more hb.size) hl
  rw [hr] at hri
  have HRI := Lib.hid hri
  have HR := Lib.hid hr
  have HL := Lib.hid hl
  have HRD := Lib.hid hrd
  clear hri hr hl hrd
  refine callsIn_wide.1 (callsIn_of_wp_marks (n := 10) Try.func39 rfl trivial ?_ rfl)
  simp only [Try.ntmps39, List.size_toArray, List.length_cons, List.length_nil, Nat.reduceAdd, Nat.reduceSub, Array.replicate_succ, Array.replicate_zero, List.push_toArray, List.append_toArray, List.nil_append, List.cons_append]
  gi_wp2_with (first
    | (refine ⟨trivial, ?_⟩; gi_at_call 20; refine (callsIn_wide.2 (HRI.out _ (by repeat (first | with_reducible exact Below.refl _ _ | with_reducible assumption | (with_reducible refine below_drewN ?_ _) | (with_reducible refine Below.drew ?_) | (with_reducible refine Below.alloc ?_ ?_ _; rotate_left; focus (first | with_reducible assumption | omega | (simp; done) | (simp; omega))) | (with_reducible refine Below.setCell ?_ ?_ _; rotate_left; focus (first | with_reducible assumption | omega | (simp; done) | (simp; omega))))))).mono ?_; rintro e w1 ⟨rfl, hb1⟩; have k1 := (Bk.new w 23 #[.slice A n c]).ext hb1; have hb2 : Below w.heap.size w w1 := Below.trans (by repeat (first | with_reducible exact Below.refl _ _ | with_reducible assumption | (with_reducible refine below_drewN ?_ _) | (with_reducible refine Below.drew ?_) | (with_reducible refine Below.alloc ?_ ?_ _; rotate_left; focus (first | with_reducible assumption | omega | (simp; done) | (simp; omega))) | (with_reducible refine Below.setCell ?_ ?_ _; rotate_left; focus (first | with_reducible assumption | omega | (simp; done) | (simp; omega))))) (hb1.mono (by simp)); have hz := def_lt' k1; have c1 := k1.cell 0; dsimp at c1)
    | (refine ⟨trivial, ?_⟩; gi_at_call 46; refine (callsIn_wide.2 (ranges_any _ _ _ _)).mono ?_; rintro e w2 ⟨rfl, rfl⟩))
  have kb : Bk ((w1.alloc (.cells #[.slice none 0 0] 23)).alloc (.cells #[.slice A n c] 23)) (w1.heap.size + 1) 23 #[.slice A n c] := Bk.made _ _ (by simp)
  have ko := (Bk.new w1 23 #[.slice none 0 0]).alloc (.cells #[.slice A n c] 23)
  have km := (k1.alloc (.cells #[.slice none 0 0] 23)).alloc (.cells #[.slice A n c] 23)
  have hb3 : Below w.heap.size w ((w1.alloc (.cells #[.slice none 0 0] 23)).alloc (.cells #[.slice A n c] 23)) := (hb2.alloc hb2.size _).alloc (by simp; omega) _
  have hgv := ranges_gives (w1.heap.size + 1) w.heap.size n A c l ((w1.alloc (.cells #[.slice none 0 0] 23)).alloc (.cells #[.slice A n c] 23)) HR.out (by simp; omega) (by simp) (by have := kb.cell 0; exact this) (HRD.out.below hb3)
  refine range_mine (gf := 54) (lb := #[.pointer (some ⟨w1.heap.size + 1, 0, none⟩)]) rfl (enters_of Try.func54 (by kernel_rfl) rfl) hgv (Below.refl _ _) (by simp; omega) (fun _ => rfl) (InvI l A n c w w1.heap.size) (fun _ _ _ => False) ?hI ?hIx ?h0 ?hround ?hdone ?hstop
  case hI =>
    rintro s A' B row ⟨⟨k, hk, hpre, v, g1, g2⟩, g3, g4, g5, g6⟩ hg hr
    exact ⟨⟨k, hk, hpre, v, blk_kept g1 hg hr, own_kept g2 hg hr⟩, below_kept g3 (Nat.le_refl _) (by simp; omega) hg hr, blk_kept g4 hg hr, Nat.lt_of_lt_of_le g5 hg.size, g6⟩
  case hIx =>
    rintro cd s A' B row h hg hr
    exact h
  case h0 => exact ⟨⟨0, by omega, rfl, _, ko, World.ownsRow_nil _ _ _ _⟩, hb3, km, by simp; omega, hz⟩
  case hround =>
    clear kb ko km hgv hb3
    rintro lp pre ⟨i, s⟩ W1 KK hkk
    have HKK := Lib.hid hkk
    clear hkk
    gi_wp2
    refine HKK.out _ ?_
    clear HKK
    rintro W0 W2 ⟨⟨k, hk, hpre, v, g1, g2⟩, g3, g4, g5, g6⟩ hext hpx hM
    subst hpre
    obtain ⟨hkn, hx⟩ := upto_next hpx
    obtain ⟨rfl, rfl⟩ : i = k ∧ s = shiftL (l.take k) := by injection hx; exact ⟨by assumption, by assumption⟩
    clear hx hpx
    have hb2' : Below w.heap.size w W2 := g3.trans (hext.mono g3.size)
    have q1 := g1.ext hext; have q4 := g4.ext hext; have hown := own_below g2 hext
    have z1 := q1.cell 0; have z4 := q4.cell 0; have f1 := q1.frozen
    dsimp at z1 z4
    have hsz := hext.size
    obtain ⟨b, o, rfl, hbB, _⟩ := HRD.out.2 (by omega)
    obtain ⟨r, hx⟩ : ∃ r, l[i]? = some r := ⟨_, List.getElem?_eq_getElem (by have := HL.out; omega)⟩
    obtain ⟨hc0, hc1, hc2, hb⟩ := (HRD.out.below hb2').rg hx
    have hfit := right_fits HR.out r (List.mem_of_getElem? hx)
    have hsb := shift_take_bd HR.out i
    have hsn := invM_snoc hx
    have HS := Lib.hid hsn
    clear hx hsn
    obtain ⟨f1, f2, f3, f4, f7, f8⟩ := hfit
    generalize hs : shiftL (l.take i) = s at *
    have e3 : (i : Int) < n := by omega
    have e4 : IntKind.i64.wrap (r.at_ + s) = r.at_ + s := IntWalk.i64_in _ (by omega)
    gi_wp2
    have hF : ∀ w', Below w1.heap.size W2 w' → w'.cell? ⟨w.heap.size, 0, none⟩ = some (.slice (some ⟨b, o, none⟩) n c) ∧ w'.cell? ⟨b, o + i * 3, none⟩ = some (.int .i64 r.at_) ∧ w'.cell? ⟨b, o + i * 3 + 1, none⟩ = some (.int .i64 r.old) ∧ w'.cell? ⟨b, o + i * 3 + 2, none⟩ = some (.int .i64 r.new) :=
      fun w' hb' => ⟨(hb'.cell (p := ⟨w.heap.size, 0, none⟩) g6).trans z4, (hb'.cell (p := ⟨b, _, none⟩) (Nat.lt_trans hbB g6)).trans hc0, (hb'.cell (p := ⟨b, _, none⟩) (Nat.lt_trans hbB g6)).trans hc1, (hb'.cell (p := ⟨b, _, none⟩) (Nat.lt_trans hbB g6)).trans hc2⟩
    have HF := Lib.hid hF
    clear hF
    have hbo : w1.heap.size ≤ W2.heap.size := by omega
    refine region_round (by rintro ⟨_, _, h⟩; exact h) (by kernel_rfl) (by kernel_rfl) (S := fun w' => Below w1.heap.size W2 w') (Below.drew (Below.refl _ _)) (fun hHeld => ?_)
    (refine take_if (i := 1) (oi := _) (v := ?_) (by simp only [List.getElem?_toArray, List.getElem?_cons_succ, List.getElem?_cons_zero]; rfl) (by kernel_rfl) (by kernel_rfl) (by kernel_rfl) (fun _ _ _ h => h) (by rfl) ?_ (by assumption) ?_; rotate_left; (focus ((intro w hSw; (try have hSw := HF.out _ hSw); (try dsimp only at hSw); go_simp); try exact rfl)); simp only [Act.put, List.setIfInBounds_toArray, List.set_cons_zero, List.set_cons_succ]; refine take_if (i := 2) (oi := _) (v := ?_) (by simp only [List.getElem?_toArray, List.getElem?_cons_succ, List.getElem?_cons_zero]; rfl) (by kernel_rfl) (by kernel_rfl) (by kernel_rfl) (fun _ _ _ h => h) (by rfl) ?_ (by assumption) ?_; rotate_left; (focus ((intro w hSw; (try have hSw := HF.out _ hSw); (try dsimp only at hSw); go_simp); try exact rfl)); simp only [Act.put, List.setIfInBounds_toArray, List.set_cons_zero, List.set_cons_succ]; refine take_if (i := 3) (oi := _) (v := ?_) (by simp only [List.getElem?_toArray, List.getElem?_cons_succ, List.getElem?_cons_zero]; rfl) (by kernel_rfl) (by kernel_rfl) (by kernel_rfl) (fun _ _ _ h => h) (by rfl) ?_ (by assumption) ?_; rotate_left; (focus ((intro w hSw; (try have hSw := HF.out _ hSw); (try dsimp only at hSw); go_simp); try exact rfl)); simp only [Act.put, List.setIfInBounds_toArray, List.set_cons_zero, List.set_cons_succ]; refine take_if (i := 4) (oi := _) (v := ?_) (by simp only [List.getElem?_toArray, List.getElem?_cons_succ, List.getElem?_cons_zero]; rfl) (by kernel_rfl) (by kernel_rfl) (by kernel_rfl) (fun _ _ _ h => h) (by rfl) ?_ (by assumption) ?_; rotate_left; (focus ((intro w hSw; (try have hSw := HF.out _ hSw); (try dsimp only at hSw); go_simp); try exact rfl)); simp only [Act.put, List.setIfInBounds_toArray, List.set_cons_zero, List.set_cons_succ]; refine take_if (i := 5) (oi := _) (v := ?_) (by simp only [List.getElem?_toArray, List.getElem?_cons_succ, List.getElem?_cons_zero]; rfl) (by kernel_rfl) (by kernel_rfl) (by kernel_rfl) (fun _ _ _ h => h) (by rfl) ?_ (by assumption) ?_; rotate_left; (focus ((intro w hSw; (try have hSw := HF.out _ hSw); (try dsimp only at hSw); go_simp); try exact rfl)); simp only [Act.put, List.setIfInBounds_toArray, List.set_cons_zero, List.set_cons_succ]; refine take_if (i := 6) (oi := _) (v := ?_) (by simp only [List.getElem?_toArray, List.getElem?_cons_succ, List.getElem?_cons_zero]; rfl) (by kernel_rfl) (by kernel_rfl) (by kernel_rfl) (fun _ _ _ h => h) (by rfl) ?_ (by assumption) ?_; rotate_left; (focus ((intro w hSw; (try have hSw := HF.out _ hSw); (try dsimp only at hSw); go_simp); try exact rfl)); simp only [Act.put, List.setIfInBounds_toArray, List.set_cons_zero, List.set_cons_succ]; refine take_if (i := 7) (oi := _) (v := ?_) (by simp only [List.getElem?_toArray, List.getElem?_cons_succ, List.getElem?_cons_zero]; rfl) (by kernel_rfl) (by kernel_rfl) (by kernel_rfl) (fun _ _ _ h => h) (by rfl) ?_ (by assumption) ?_; rotate_left; (focus ((intro w hSw; (try have hSw := HF.out _ hSw); (try dsimp only at hSw); go_simp); try exact rfl)); simp only [Act.put, List.setIfInBounds_toArray, List.set_cons_zero, List.set_cons_succ]; refine take_if (i := 8) (oi := _) (v := ?_) (by simp only [List.getElem?_toArray, List.getElem?_cons_succ, List.getElem?_cons_zero]; rfl) (by kernel_rfl) (by kernel_rfl) (by kernel_rfl) (fun _ _ _ h => h) (by rfl) ?_ (by assumption) ?_; rotate_left; (focus ((intro w hSw; (try have hSw := HF.out _ hSw); (try dsimp only at hSw); go_simp); try exact rfl)); simp only [Act.put, List.setIfInBounds_toArray, List.set_cons_zero, List.set_cons_succ]; refine take_if (i := 9) (oi := _) (v := ?_) (by simp only [List.getElem?_toArray, List.getElem?_cons_succ, List.getElem?_cons_zero]; rfl) (by kernel_rfl) (by kernel_rfl) (by kernel_rfl) (fun _ _ _ h => h) (by rfl) ?_ (by assumption) ?_; rotate_left; (focus ((intro w hSw; (try have hSw := HF.out _ hSw); (try dsimp only at hSw); go_simp); try exact rfl)); simp only [Act.put, List.setIfInBounds_toArray, List.set_cons_zero, List.set_cons_succ]; refine take_if (i := 10) (oi := _) (v := ?_) (by simp only [List.getElem?_toArray, List.getElem?_cons_succ, List.getElem?_cons_zero]; rfl) (by kernel_rfl) (by kernel_rfl) (by kernel_rfl) (fun _ _ _ h => h) (by rfl) ?_ (by assumption) ?_; rotate_left; (focus ((intro w hSw; (try have hSw := HF.out _ hSw); (try dsimp only at hSw); go_simp); try exact rfl)); simp only [Act.put, List.setIfInBounds_toArray, List.set_cons_zero, List.set_cons_succ]; refine take_if (i := 11) (oi := _) (v := ?_) (by simp only [List.getElem?_toArray, List.getElem?_cons_succ, List.getElem?_cons_zero]; rfl) (by kernel_rfl) (by kernel_rfl) (by kernel_rfl) (fun _ _ _ h => h) (by rfl) ?_ (by assumption) ?_; rotate_left; (focus ((intro w hSw; (try have hSw := HF.out _ hSw); (try dsimp only at hSw); go_simp); try exact rfl)); simp only [Act.put, List.setIfInBounds_toArray, List.set_cons_zero, List.set_cons_succ]; refine take_if (i := 12) (oi := _) (v := ?_) (by simp only [List.getElem?_toArray, List.getElem?_cons_succ, List.getElem?_cons_zero]; rfl) (by kernel_rfl) (by kernel_rfl) (by kernel_rfl) (fun _ _ _ h => h) (by rfl) ?_ (by assumption) ?_; rotate_left; (focus ((intro w hSw; (try have hSw := HF.out _ hSw); (try dsimp only at hSw); go_simp); try exact rfl)); simp only [Act.put, List.setIfInBounds_toArray, List.set_cons_zero, List.set_cons_succ]; refine take_if (i := 13) (oi := _) (v := ?_) (by simp only [List.getElem?_toArray, List.getElem?_cons_succ, List.getElem?_cons_zero]; rfl) (by kernel_rfl) (by kernel_rfl) (by kernel_rfl) (fun _ _ _ h => h) (by rfl) ?_ (by assumption) ?_; rotate_left; (focus ((intro w hSw; (try have hSw := HF.out _ hSw); (try dsimp only at hSw); go_simp); try exact rfl)); simp only [Act.put, List.setIfInBounds_toArray, List.set_cons_zero, List.set_cons_succ]; refine take_if (i := 14) (oi := _) (v := ?_) (by simp only [List.getElem?_toArray, List.getElem?_cons_succ, List.getElem?_cons_zero]; rfl) (by kernel_rfl) (by kernel_rfl) (by kernel_rfl) (fun _ _ _ h => h) (by rfl) ?_ (by assumption) ?_; rotate_left; (focus ((intro w hSw; (try have hSw := HF.out _ hSw); (try dsimp only at hSw); go_simp); try exact rfl)); simp only [Act.put, List.setIfInBounds_toArray, List.set_cons_zero, List.set_cons_succ]; refine take_if (i := 15) (oi := _) (v := ?_) (by simp only [List.getElem?_toArray, List.getElem?_cons_succ, List.getElem?_cons_zero]; rfl) (by kernel_rfl) (by kernel_rfl) (by kernel_rfl) (fun _ _ _ h => h) (by rfl) ?_ (by assumption) ?_; rotate_left; (focus ((intro w hSw; (try have hSw := HF.out _ hSw); (try dsimp only at hSw); go_simp); try exact rfl)); simp only [Act.put, List.setIfInBounds_toArray, List.set_cons_zero, List.set_cons_succ]; refine take_if (i := 16) (oi := _) (v := ?_) (by simp only [List.getElem?_toArray, List.getElem?_cons_succ, List.getElem?_cons_zero]; rfl) (by kernel_rfl) (by kernel_rfl) (by kernel_rfl) (fun _ _ _ h => h) (by rfl) ?_ (by assumption) ?_; rotate_left; (focus ((intro w hSw; (try have hSw := HF.out _ hSw); (try dsimp only at hSw); go_simp); try exact rfl)); simp only [Act.put, List.setIfInBounds_toArray, List.set_cons_zero, List.set_cons_succ]; refine take_if (i := 17) (oi := _) (v := ?_) (by simp only [List.getElem?_toArray, List.getElem?_cons_succ, List.getElem?_cons_zero]; rfl) (by kernel_rfl) (by kernel_rfl) (by kernel_rfl) (fun _ _ _ h => h) (by rfl) ?_ (by assumption) ?_; rotate_left; (focus ((intro w hSw; (try have hSw := HF.out _ hSw); (try dsimp only at hSw); go_simp); try exact rfl)); simp only [Act.put, List.setIfInBounds_toArray, List.set_cons_zero, List.set_cons_succ]; refine take_if (i := 18) (oi := _) (v := ?_) (by simp only [List.getElem?_toArray, List.getElem?_cons_succ, List.getElem?_cons_zero]; rfl) (by kernel_rfl) (by kernel_rfl) (by kernel_rfl) (fun _ _ _ h => h) (by rfl) ?_ (by assumption) ?_; rotate_left; (focus ((intro w hSw; (try have hSw := HF.out _ hSw); (try dsimp only at hSw); go_simp); try exact rfl)); simp only [Act.put, List.setIfInBounds_toArray, List.set_cons_zero, List.set_cons_succ])
    refine wpAnyH_ready (rs := [0, 19]) (by kernel_rfl) (by simp) ?_; refine (AllReadyH.cons (o := _) (by simp only [List.getElem?_toArray, List.getElem?_cons_zero]; rfl) (fun K hK => ?_) (AllReadyH.cons (o := _) (by simp only [List.getElem?_toArray, List.getElem?_cons_succ, List.getElem?_cons_zero]; rfl) (fun K hK => ?_) AllReadyH.nil))
    · go_simp
      refine hK.out _ _ hHeld (fun hHeld => ?_)
      clear hK K; (try simp only [Act.put, List.setIfInBounds_toArray, List.set_cons_zero, List.set_cons_succ])
      refine wpAnyH_ready (rs := [19]) (by kernel_rfl) (by simp) ?_; refine (AllReadyH.cons (o := _) (by simp only [List.getElem?_toArray, List.getElem?_cons_succ, List.getElem?_cons_zero]; rfl) (fun K hK => ?_) AllReadyH.nil)
      go_simp
      refine hK.out _ _ (by repeat (first | with_reducible exact Below.refl _ _ | with_reducible assumption | (with_reducible refine below_drewN ?_ _) | (with_reducible refine Below.drew ?_) | (with_reducible refine Below.alloc ?_ ?_ _; rotate_left; focus (first | with_reducible assumption | omega | (simp; done) | (simp; omega))) | (with_reducible refine Below.setCell ?_ ?_ _; rotate_left; focus (first | with_reducible assumption | omega | (simp; done) | (simp; omega))))) (fun hHeld => ?_)
      clear hK K; (try simp only [Act.put, List.setIfInBounds_toArray, List.set_cons_zero, List.set_cons_succ])
      refine wpAnyH_ready (rs := [20]) (by kernel_rfl) (by simp) ?_; refine (AllReadyH.cons (o := _) (by simp only [List.getElem?_toArray, List.getElem?_cons_succ, List.getElem?_cons_zero]; rfl) (fun K hK => ?_) AllReadyH.nil)
      refine app_one_step Try.underlying23 info_range rfl (by decide) W2 w1.heap.size v i _ hown (by unfold maxLen; omega) (by omega) hbo _ rfl (by simp [Value.oneCell']) rfl (.tmp 13) (.tmp 32) rfl rfl rfl ?_
      intro g cap w2 hown2 hgr2 hat2 hlt2
      have hgb : Below w1.heap.size W2 w2 := below_own (Below.refl _ _) hown hgr2 hbo (Nat.le_refl _)
      refine hK.out _ _ hgb (fun hHeld => ?_)
      clear hK K; (try simp only [Act.put, List.setIfInBounds_toArray, List.set_cons_zero, List.set_cons_succ])
      refine wpAnyH_ready (rs := [21]) (by kernel_rfl) (by simp) ?_; refine (AllReadyH.cons (o := _) (by simp only [List.getElem?_toArray, List.getElem?_cons_succ, List.getElem?_cons_zero]; rfl) (fun K hK => ?_) AllReadyH.nil)
      have y1 := q1.grown hgr2 (own_ne hown q1 (by decide))
      have y4 := q4.grown hgr2 (own_ne hown q4 (by decide))
      have x1 := y1.cell 0; have x2 := y1.frozen; have x3 := def_lt' y1
      dsimp at x1
      have hne2 : (Value.slice (some ⟨g, 0, none⟩) (i + 1) cap).ownBlock ≠ some w1.heap.size := own_ne hown2 y1 (by decide)
      go_simp
      have hend : Below w1.heap.size W2 (w2.setCell ⟨w1.heap.size, 0, none⟩ (.slice (some ⟨g, 0, none⟩) (i + 1) cap)) := hgb.setCell (Nat.le_refl _) _
      refine hK.out _ _ hend (fun _ => ?_)
      clear hK K; (try simp only [Act.put, List.setIfInBounds_toArray, List.set_cons_zero, List.set_cons_succ])
      refine wpAnyH_done (by kernel_rfl) ?_ _
      refine ⟨((KeepsOthers.of_grownBy hgr2 (own_cells hown)).trans (KeepsOthers.setCell _ _ _)).from _, hend.mono (Nat.le_of_lt g6), (mid_grown hgr2 (own_lt g2)).set_ g5 _, ⟨i + 1, by omega, (by rw [upto_succ, told, hs]), _, y1.set_ 0 _, ?_⟩, hb2'.trans (hend.mono (Nat.le_of_lt g6)), y4.far (Nat.ne_of_lt g6) _, Nat.lt_of_lt_of_le (def_lt' q1) hend.size, g6⟩
      rw [HS.out, rgs_append]
      exact ownsRow_setCell_other hown2 hne2 _
    · go_simp
      refine hK.out _ _ (by repeat (first | with_reducible exact Below.refl _ _ | with_reducible assumption | (with_reducible refine below_drewN ?_ _) | (with_reducible refine Below.drew ?_) | (with_reducible refine Below.alloc ?_ ?_ _; rotate_left; focus (first | with_reducible assumption | omega | (simp; done) | (simp; omega))) | (with_reducible refine Below.setCell ?_ ?_ _; rotate_left; focus (first | with_reducible assumption | omega | (simp; done) | (simp; omega))))) (fun hHeld => ?_)
      clear hK K; (try simp only [Act.put, List.setIfInBounds_toArray, List.set_cons_zero, List.set_cons_succ])
      refine wpAnyH_ready (rs := [0]) (by kernel_rfl) (by simp) ?_; refine (AllReadyH.cons (o := _) (by simp only [List.getElem?_toArray, List.getElem?_cons_zero]; rfl) (fun K hK => ?_) AllReadyH.nil)
      have zb := ((q1.alloc (.cells #[.int .i64 (r.at_ + s), .int .i64 r.new, .int .i64 r.old] 45)).drew).cell 0
      have hbl := def_lt' q1
      dsimp at zb
      go_simp
      refine hK.out _ _ hHeld (fun hHeld => ?_)
      clear hK K; (try simp only [Act.put, List.setIfInBounds_toArray, List.set_cons_zero, List.set_cons_succ])
      refine wpAnyH_ready (rs := [20]) (by kernel_rfl) (by simp) ?_; refine (AllReadyH.cons (o := _) (by simp only [List.getElem?_toArray, List.getElem?_cons_succ, List.getElem?_cons_zero]; rfl) (fun K hK => ?_) AllReadyH.nil)
      refine app_one_step Try.underlying23 info_range rfl (by decide) W2 w1.heap.size v i _ hown (by unfold maxLen; omega) (by omega) hbo _ rfl (by simp [Value.oneCell']) rfl (.tmp 13) (.tmp 32) rfl rfl rfl ?_
      intro g cap w2 hown2 hgr2 hat2 hlt2
      have hgb : Below w1.heap.size W2 w2 := below_own (Below.refl _ _) hown hgr2 hbo (Nat.le_refl _)
      refine hK.out _ _ hgb (fun hHeld => ?_)
      clear hK K; (try simp only [Act.put, List.setIfInBounds_toArray, List.set_cons_zero, List.set_cons_succ])
      refine wpAnyH_ready (rs := [21]) (by kernel_rfl) (by simp) ?_; refine (AllReadyH.cons (o := _) (by simp only [List.getElem?_toArray, List.getElem?_cons_succ, List.getElem?_cons_zero]; rfl) (fun K hK => ?_) AllReadyH.nil)
      have y1 := q1.grown hgr2 (own_ne hown q1 (by decide))
      have y4 := q4.grown hgr2 (own_ne hown q4 (by decide))
      have x1 := y1.cell 0; have x2 := y1.frozen; have x3 := def_lt' y1
      dsimp at x1
      have hne2 : (Value.slice (some ⟨g, 0, none⟩) (i + 1) cap).ownBlock ≠ some w1.heap.size := own_ne hown2 y1 (by decide)
      go_simp
      have hend : Below w1.heap.size W2 (w2.setCell ⟨w1.heap.size, 0, none⟩ (.slice (some ⟨g, 0, none⟩) (i + 1) cap)) := hgb.setCell (Nat.le_refl _) _
      refine hK.out _ _ hend (fun _ => ?_)
      clear hK K; (try simp only [Act.put, List.setIfInBounds_toArray, List.set_cons_zero, List.set_cons_succ])
      refine wpAnyH_done (by kernel_rfl) ?_ _
      refine ⟨((KeepsOthers.of_grownBy hgr2 (own_cells hown)).trans (KeepsOthers.setCell _ _ _)).from _, hend.mono (Nat.le_of_lt g6), (mid_grown hgr2 (own_lt g2)).set_ g5 _, ⟨i + 1, by omega, (by rw [upto_succ, told, hs]), _, y1.set_ 0 _, ?_⟩, hb2'.trans (hend.mono (Nat.le_of_lt g6)), y4.far (Nat.ne_of_lt g6) _, Nat.lt_of_lt_of_le (def_lt' q1) hend.size, g6⟩
      rw [HS.out, rgs_append]
      exact ownsRow_setCell_other hown2 hne2 _
  case hdone =>
    rintro D W hD ⟨⟨k, hk, hpre, v, g1, g2⟩, g3, g4, g5, g6⟩ hHD
    obtain rfl : k = n := by
      have := congrArg List.length hpre
      simp [upto_length] at this
      omega
    have q1 := g1.cell 0
    dsimp at q1
    have HD := Lib.hid hHD
    clear hHD
    gi_wp2
    refine ⟨by simp, .inl ⟨_, _, rfl, run_takeDeferred HD.out, v, by simp [results, Try.results39, go_sem], v, rfl, ?_, ?_⟩⟩
    · have := own_base (own_put g2 HD.out rfl (.deferred none)) (Nat.le_of_lt g6)
      rw [List.take_of_length_le (by rw [HL.out]; omega)] at this
      exact this
    · exact Below.trans g3 (below_putObj (by simp at hD; omega))
  case hstop => exact fun _ _ _ _ _ _ h _ => h.elim
end Go.Proofs.Ytmacfoebfpljoaa
