/- route: Tell, Position -/
import Derived.Test.YtkkbmcpimglcpaaRtG
namespace Go.Proofs.Ytkkbmcpimglcpaa
open Go.RowKit

/-- one map of a route: where to go on, and with which place; or an error -/
def rStep (ms : List (List Rg)) (f : IMap) (side : Int) (i : Nat) (o : Pl) : Except Int (Nat × Pl) :=
  let t := tellS (ms.getD i []) o.pos side
  if t.2 ≠ 0 then .error t.2 else
    let r := recR ms f i t.1.gone t.1.range t.1.off
    if r.2.2 = true then .ok (r.1.toNat + 1, { o with pos := r.2.1 }) else .ok (i + 1, { o with pos := t.1.pos, gone := o.gone || t.1.gone, inside := o.inside || t.1.inside })
def rRun (ms : List (List Rg)) (f : IMap) (side : Int) : Nat → Nat → Pl → Pl × Int
  | 0, _, o => (o, 0)
  | k + 1, i, o => if i < ms.length then (match rStep ms f side i o with | .error e => (Pl.zero, e) | .ok (j, o') => rRun ms f side k j o') else (o, 0)
def rTell (ms : List (List Rg)) (f : IMap) (p side : Int) : Pl × Int := rRun ms f side ms.length 0 { Pl.zero with pos := p }

theorem rStep_up {ms : List (List Rg)} {f : IMap} {side : Int} {i j : Nat} {o o' : Pl} (h : rStep ms f side i o = .ok (j, o')) : i < j := by
  unfold rStep at h
  simp only at h
  split at h
  · cases h
  · split at h
    · rename_i hr
      injection h with h
      injection h with h _
      unfold recR at hr h
      split at hr
      · split at hr
        · rename_i k hk hg
          simp only [hk, hg] at h
          simp at h
          omega
        · cases hr
      · cases hr
    · injection h with h
      injection h with h _
      omega
theorem rRun_enough {ms : List (List Rg)} {f : IMap} {side : Int} : ∀ {a b i : Nat} {o : Pl}, ms.length ≤ i + a → ms.length ≤ i + b → rRun ms f side a i o = rRun ms f side b i o := by
  intro a
  induction a with
  | zero =>
    intro b i o h1 h2
    cases b with
    | zero => rfl
    | succ b => simp only [rRun]; rw [if_neg (by omega)]
  | succ a ih =>
    intro b i o h1 h2
    cases b with
    | zero => simp only [rRun]; rw [if_neg (by omega)]
    | succ b =>
      simp only [rRun]
      split
      · cases hs : rStep ms f side i o with
        | error e => rfl
        | ok q =>
          obtain ⟨j, o'⟩ := q
          have := rStep_up hs
          exact ih (by omega) (by omega)
      · rfl
/-- what is left to be told from map i on -/
theorem rRun_step {ms : List (List Rg)} {f : IMap} {side : Int} {i : Nat} {o : Pl} (hi : i < ms.length) : rRun ms f side (ms.length - i) i o = match rStep ms f side i o with | .error e => (Pl.zero, e) | .ok (j, o') => rRun ms f side (ms.length - j) j o' := by
  obtain ⟨k, hk⟩ : ∃ k, ms.length - i = k + 1 := ⟨ms.length - i - 1, by omega⟩
  rw [hk]
  simp only [rRun]
  rw [if_pos hi]
  cases hs : rStep ms f side i o with
  | error e => rfl
  | ok q =>
    obtain ⟨j, o'⟩ := q
    have := rStep_up hs
    exact rRun_enough (by omega) (by omega)
theorem rRun_end {ms : List (List Rg)} {f : IMap} {side : Int} {i k : Nat} {o : Pl} (hi : ms.length ≤ i) : rRun ms f side k i o = (o, 0) := by
  cases k with
  | zero => rfl
  | succ k => simp only [rRun]; rw [if_neg (by omega)]

theorem recR_ok {ms : List (List Rg)} {f : IMap} {i : Nat} {g : Bool} {a b : Int} (hin : InR ms f) (h : (recR ms f i g a b).2.2 = true) : ∃ κ : Nat, (recR ms f i g a b).1 = κ ∧ i ≤ κ ∧ κ < ms.length := by
  unfold recR at *
  split at h
  · rename_i k hk
    obtain ⟨g1, g2⟩ := hin i k hk
    split at h
    · rename_i hg
      exact ⟨k.toNat, by rw [if_pos hg]; exact (Int.toNat_of_nonneg g1).symm, by omega, by omega⟩
    · cases h
  · cases h

set_option maxRecDepth 100000 in
set_option maxHeartbeats 4000000 in
theorem rtell_route (base R : Nat) (ms : List (List Rg)) (f : IMap) (p side : Int) (W : World) (hR : RouteIs W base R ms f) (hin : InR ms f) (hms : ms.length < 5000) :
    Calls Try.prog 27 #[.pointer (some ⟨R, 0, none⟩), .int .i64 p, .int .i64 side] W fun e W' => e = .returned (.tuple #[(rTell ms f p side).1.val, .int .i64 (rTell ms f p side).2]) ∧ Below W.heap.size W W' := by
  obtain ⟨v, mo, vs, k1, k2, k3, k4, k5⟩ := id hR
  obtain ⟨A', c', rfl, _, _, _, hvs⟩ := own_form k3
  have hlt := def_lt' k1
  have HR := Lib.hid hR
  have K4 := Lib.hid k4
  clear hR k4 k5
  go_enter Try.func27, Try.ntmps27
  go_wp2
  go_loopw [9] (fun i wr => ∃ (k : Nat) (o : Pl), k ≤ ms.length ∧ i = .int .i64 k ∧ Hid (rRun ms f side (ms.length - k) k o = rTell ms f p side) ∧ Below W.heap.size W wr ∧ W.heap.size + 2 ≤ wr.heap.size ∧ Bk wr W.heap.size 25 #[.int .i64 0, .bool false, .bool false, .int .i64 0, .int .i64 0] ∧ Bk wr (W.heap.size + 1) 25 #[.int .i64 o.pos, .bool o.gone, .bool o.inside, .int .i64 0, .int .i64 0] ∧ Hid (o.range = 0 ∧ o.off = 0)) (fun i _ => ms.length - (intOf i).toNat)
  case atStart => exact ⟨0, { Pl.zero with pos := p }, by omega, rfl, rfl, by repeat (first | with_reducible exact Below.refl _ _ | with_reducible assumption | (with_reducible refine below_drewN ?_ _) | (with_reducible refine Below.drew ?_) | (with_reducible refine Below.alloc ?_ ?_ _; rotate_left; focus (first | with_reducible assumption | omega | (simp; done) | (simp; omega))) | (with_reducible refine Below.setCell ?_ ?_ _; rotate_left; focus (first | with_reducible assumption | omega | (simp; done) | (simp; omega)))), by simp, (Bk.new W _ _).alloc _, Bk.made _ _ (by simp), ⟨rfl, rfl⟩⟩
  case round =>
    obtain ⟨k, ⟨o1, o2, o3, o4, o5⟩, hk, rfl, hI, hbr, hz, k6, k8, ho⟩ := hrel
    obtain ⟨rfl, rfl⟩ : o4 = 0 ∧ o5 = 0 := ho.out
    clear ho
    simp only at k8
    have q1 := k1.ext hbr
    have z0 := q1.cell 0
    have zl := def_lt' q1
    dsimp at z0
    have hzz : W.heap.size + 1 < wr.heap.size := by omega
    by_cases hkn : k < ms.length
    · obtain ⟨bb, oo, u, rfl, hbb, hu, huc⟩ := hvs.at1 (k := k) hkn
      obtain ⟨m, hm⟩ : ∃ m, ms[k]? = some m := ⟨_, List.getElem?_eq_getElem hkn⟩
      obtain ⟨Am, nm, cm, g1, g2⟩ := K4.out k m hm
      rw [g1] at hu
      injection hu with hu
      subst hu
      have huc' : wr.cell? ⟨bb, oo + k, none⟩ = some (.slice Am nm cm) := (hbr.cell (p := ⟨bb, oo + k, none⟩) hbb).trans huc
      have hRd := Rd.of_own g2
      have hnm : nm ≤ maxLen := by
        obtain ⟨A2, c2, e, h1, h2, _⟩ := own_form g2
        injection e with _ _ e
        omega
      have htc := fun w' (hb : Below W.heap.size W w') => tell_any Am nm cm m o1 side w' hnm (fun _ => (hRd.below hb).more hb.size) hRd.rlen
      have hst := rRun_step (f := f) (side := side) (o := ⟨o1, o2, o3, 0, 0⟩) hkn
      have hgd : ms.getD k [] = m := by rw [List.getD_eq_getElem?_getD, hm]; rfl
      unfold rStep at hst
      rw [hgd] at hst
      simp only at hst
      obtain ⟨⟨⟨x1, x2, x3, x4, x5⟩, er⟩, hX⟩ : ∃ q, tellS m o1 side = q := ⟨_, rfl⟩
      rw [hX] at hst
      simp only [hX] at htc
      simp only at hst
      have hst2 := hst.symm.trans hI
      have e3 : (k : Int) < ms.length := by omega
      have d0 := k8.cell 0
      dsimp at d0
      have hF : ∀ w', Below wr.heap.size wr w' → w'.cell? ⟨R, 0, none⟩ = some (.slice (some ⟨bb, oo, none⟩) ms.length c') ∧ w'.cell? ⟨bb, oo + k, none⟩ = some (.slice Am nm cm) ∧ w'.cell? ⟨W.heap.size + 1, 0, none⟩ = some (.int .i64 o1) :=
        fun w' hb => ⟨(hb.cell (p := ⟨R, 0, none⟩) zl).trans z0, (hb.cell (p := ⟨bb, oo + k, none⟩) (by simp; omega)).trans huc', (hb.cell (p := ⟨W.heap.size + 1, 0, none⟩) hzz).trans d0⟩
      have HF := Lib.hid hF
      have HT := Lib.hid htc
      have HST := Lib.hid hst2
      clear hst hst2 htc hF hI hgd hX hRd hnm
      go_wp2
      go_cut [10, 11] from 20 to 75 (fun v e wx => ∃ b10 : Nat, v = .pointer (some ⟨b10, 0, none⟩) ∧ e = .int .i64 er ∧ Below wr.heap.size wr wx ∧ wr.heap.size ≤ b10 ∧ Bk wx b10 25 #[.int .i64 x1, .bool x2, .bool x3, .int .i64 x4, .int .i64 x5])
      case first =>
        refine wp_normal ?_
        refine wp_region_held_drew (S := fun w' => Below wr.heap.size wr w') (by kernel_rfl) ((Below.refl _ _).drew) (fun hHeld => ?_)
        (refine take_if (i := 0) (oi := _) (v := ?_) (by simp only [List.getElem?_toArray, List.getElem?_cons_zero]; rfl) (by kernel_rfl) (by kernel_rfl) (by kernel_rfl) (fun _ _ _ h => h) (by rfl) ?_ (by assumption) ?_; rotate_left; (focus ((intro w hSw; (try have hSw := HF.out _ hSw); (try dsimp only at hSw); go_simp); try exact rfl)); simp only [Act.put, List.setIfInBounds_toArray, List.set_cons_zero, List.set_cons_succ]; refine take_if (i := 1) (oi := _) (v := ?_) (by simp only [List.getElem?_toArray, List.getElem?_cons_succ, List.getElem?_cons_zero]; rfl) (by kernel_rfl) (by kernel_rfl) (by kernel_rfl) (fun _ _ _ h => h) (by rfl) ?_ (by assumption) ?_; rotate_left; (focus ((intro w hSw; (try have hSw := HF.out _ hSw); (try dsimp only at hSw); go_simp); try exact rfl)); simp only [Act.put, List.setIfInBounds_toArray, List.set_cons_zero, List.set_cons_succ]; refine take_if (i := 2) (oi := _) (v := ?_) (by simp only [List.getElem?_toArray, List.getElem?_cons_succ, List.getElem?_cons_zero]; rfl) (by kernel_rfl) (by kernel_rfl) (by kernel_rfl) (fun _ _ _ h => h) (by rfl) ?_ (by assumption) ?_; rotate_left; (focus ((intro w hSw; (try have hSw := HF.out _ hSw); (try dsimp only at hSw); go_simp); try exact rfl)); simp only [Act.put, List.setIfInBounds_toArray, List.set_cons_zero, List.set_cons_succ]; refine take_if (i := 3) (oi := _) (v := ?_) (by simp only [List.getElem?_toArray, List.getElem?_cons_succ, List.getElem?_cons_zero]; rfl) (by kernel_rfl) (by kernel_rfl) (by kernel_rfl) (fun _ _ _ h => h) (by rfl) ?_ (by assumption) ?_; rotate_left; (focus ((intro w hSw; (try have hSw := HF.out _ hSw); (try dsimp only at hSw); go_simp); try exact rfl)); simp only [Act.put, List.setIfInBounds_toArray, List.set_cons_zero, List.set_cons_succ]; refine take_if (i := 4) (oi := _) (v := ?_) (by simp only [List.getElem?_toArray, List.getElem?_cons_succ, List.getElem?_cons_zero]; rfl) (by kernel_rfl) (by kernel_rfl) (by kernel_rfl) (fun _ _ _ h => h) (by rfl) ?_ (by assumption) ?_; rotate_left; (focus ((intro w hSw; (try have hSw := HF.out _ hSw); (try dsimp only at hSw); go_simp); try exact rfl)); simp only [Act.put, List.setIfInBounds_toArray, List.set_cons_zero, List.set_cons_succ]; refine take_if (i := 5) (oi := _) (v := ?_) (by simp only [List.getElem?_toArray, List.getElem?_cons_succ, List.getElem?_cons_zero]; rfl) (by kernel_rfl) (by kernel_rfl) (by kernel_rfl) (fun _ _ _ h => h) (by rfl) ?_ (by assumption) ?_; rotate_left; (focus ((intro w hSw; (try have hSw := HF.out _ hSw); (try dsimp only at hSw); go_simp); try exact rfl)); simp only [Act.put, List.setIfInBounds_toArray, List.set_cons_zero, List.set_cons_succ]; refine take_if (i := 6) (oi := _) (v := ?_) (by simp only [List.getElem?_toArray, List.getElem?_cons_succ, List.getElem?_cons_zero]; rfl) (by kernel_rfl) (by kernel_rfl) (by kernel_rfl) (fun _ _ _ h => h) (by rfl) ?_ (by assumption) ?_; rotate_left; (focus ((intro w hSw; (try have hSw := HF.out _ hSw); (try dsimp only at hSw); go_simp); try exact rfl)); simp only [Act.put, List.setIfInBounds_toArray, List.set_cons_zero, List.set_cons_succ]; refine take_if (i := 7) (oi := _) (v := ?_) (by simp only [List.getElem?_toArray, List.getElem?_cons_succ, List.getElem?_cons_zero]; rfl) (by kernel_rfl) (by kernel_rfl) (by kernel_rfl) (fun _ _ _ h => h) (by rfl) ?_ (by assumption) ?_; rotate_left; (focus ((intro w hSw; (try have hSw := HF.out _ hSw); (try dsimp only at hSw); go_simp); try exact rfl)); simp only [Act.put, List.setIfInBounds_toArray, List.set_cons_zero, List.set_cons_succ]; refine take_if (i := 8) (oi := _) (v := ?_) (by simp only [List.getElem?_toArray, List.getElem?_cons_succ, List.getElem?_cons_zero]; rfl) (by kernel_rfl) (by kernel_rfl) (by kernel_rfl) (fun _ _ _ h => h) (by rfl) ?_ (by assumption) ?_; rotate_left; (focus ((intro w hSw; (try have hSw := HF.out _ hSw); (try dsimp only at hSw); go_simp); try exact rfl)); simp only [Act.put, List.setIfInBounds_toArray, List.set_cons_zero, List.set_cons_succ]; refine take_if (i := 9) (oi := _) (v := ?_) (by simp only [List.getElem?_toArray, List.getElem?_cons_succ, List.getElem?_cons_zero]; rfl) (by kernel_rfl) (by kernel_rfl) (by kernel_rfl) (fun _ _ _ h => h) (by rfl) ?_ (by assumption) ?_; rotate_left; (focus ((intro w hSw; (try have hSw := HF.out _ hSw); (try dsimp only at hSw); go_simp); try exact rfl)); simp only [Act.put, List.setIfInBounds_toArray, List.set_cons_zero, List.set_cons_succ])
        refine wpAnyH_ready (rs := [10, 14]) (by kernel_rfl) (by simp) ?_; refine (AllReadyH.cons (o := _) (by simp only [List.getElem?_toArray, List.getElem?_cons_succ, List.getElem?_cons_zero]; rfl) (fun K hK => ?_) (AllReadyH.cons (o := _) (by simp only [List.getElem?_toArray, List.getElem?_cons_succ, List.getElem?_cons_zero]; rfl) (fun K hK => ?_) AllReadyH.nil))
        · go_simp
          go_at_call 10
          refine (HT.out _ hbr.drew).mono ?_
          rintro e w2 ⟨rfl, hb2⟩
          simp only [Pl.val]
          have hb3 : Below wr.heap.size wr w2 := Below.trans ((Below.refl _ _).drew) hb2
          have hb3s := hb3.size
          refine hK.out _ _ hb3 (fun hHeld => ?_)
          clear hK K; (try simp only [Act.put, List.setIfInBounds_toArray, List.set_cons_zero, List.set_cons_succ])
          (refine take_if (i := 11) (oi := _) (v := ?_) (by simp only [List.getElem?_toArray, List.getElem?_cons_succ, List.getElem?_cons_zero]; rfl) (by kernel_rfl) (by kernel_rfl) (by kernel_rfl) (fun _ _ _ h => h) (by rfl) ?_ (by assumption) ?_; rotate_left; (focus ((intro w hSw; (try have hSw := HF.out _ hSw); (try dsimp only at hSw); go_simp); try exact rfl)); simp only [Act.put, List.setIfInBounds_toArray, List.set_cons_zero, List.set_cons_succ]; refine take_if (i := 12) (oi := _) (v := ?_) (by simp only [List.getElem?_toArray, List.getElem?_cons_succ, List.getElem?_cons_zero]; rfl) (by kernel_rfl) (by kernel_rfl) (by kernel_rfl) (fun _ _ _ h => h) (by rfl) ?_ (by assumption) ?_; rotate_left; (focus ((intro w hSw; (try have hSw := HF.out _ hSw); (try dsimp only at hSw); go_simp); try exact rfl)); simp only [Act.put, List.setIfInBounds_toArray, List.set_cons_zero, List.set_cons_succ]; refine take_if (i := 13) (oi := _) (v := ?_) (by simp only [List.getElem?_toArray, List.getElem?_cons_succ, List.getElem?_cons_zero]; rfl) (by kernel_rfl) (by kernel_rfl) (by kernel_rfl) (fun _ _ _ h => h) (by rfl) ?_ (by assumption) ?_; rotate_left; (focus ((intro w hSw; (try have hSw := HF.out _ hSw); (try dsimp only at hSw); go_simp); try exact rfl)); simp only [Act.put, List.setIfInBounds_toArray, List.set_cons_zero, List.set_cons_succ])
          refine wpAnyH_ready (rs := [14]) (by kernel_rfl) (by simp) ?_; refine (AllReadyH.cons (o := _) (by simp only [List.getElem?_toArray, List.getElem?_cons_succ, List.getElem?_cons_zero]; rfl) (fun K hK => ?_) AllReadyH.nil)
          go_simp
          refine hK.out _ _ (by repeat (first | with_reducible exact Below.refl _ _ | with_reducible assumption | (with_reducible refine below_drewN ?_ _) | (with_reducible refine Below.drew ?_) | (with_reducible refine Below.alloc ?_ ?_ _; rotate_left; focus (first | with_reducible assumption | omega | (simp; done) | (simp; omega))) | (with_reducible refine Below.setCell ?_ ?_ _; rotate_left; focus (first | with_reducible assumption | omega | (simp; done) | (simp; omega))))) (fun hHeld => ?_)
          clear hK K; (try simp only [Act.put, List.setIfInBounds_toArray, List.set_cons_zero, List.set_cons_succ])
          refine wpAnyH_ready (rs := [15]) (by kernel_rfl) (by simp) ?_; refine (AllReadyH.cons (o := _) (by simp only [List.getElem?_toArray, List.getElem?_cons_succ, List.getElem?_cons_zero]; rfl) (fun K hK => ?_) AllReadyH.nil)
          go_simp
          refine hK.out _ _ (by repeat (first | with_reducible exact Below.refl _ _ | with_reducible assumption | (with_reducible refine below_drewN ?_ _) | (with_reducible refine Below.drew ?_) | (with_reducible refine Below.alloc ?_ ?_ _; rotate_left; focus (first | with_reducible assumption | omega | (simp; done) | (simp; omega))) | (with_reducible refine Below.setCell ?_ ?_ _; rotate_left; focus (first | with_reducible assumption | omega | (simp; done) | (simp; omega))))) (fun hHeld => ?_)
          clear hK K; (try simp only [Act.put, List.setIfInBounds_toArray, List.set_cons_zero, List.set_cons_succ])
          (refine take_if (i := 16) (oi := _) (v := ?_) (by simp only [List.getElem?_toArray, List.getElem?_cons_succ, List.getElem?_cons_zero]; rfl) (by kernel_rfl) (by kernel_rfl) (by kernel_rfl) (fun _ _ _ h => h) (by rfl) ?_ (by assumption) ?_; rotate_left; (focus ((intro w hSw; (try have hSw := HF.out _ hSw); (try dsimp only at hSw); go_simp); try exact rfl)); simp only [Act.put, List.setIfInBounds_toArray, List.set_cons_zero, List.set_cons_succ])
          refine wpAnyH_done (by kernel_rfl) ?_ _
          go_wp2
          go_meet
          exact ⟨_, rfl, rfl, hHeld, hb3s, Bk.new w2 _ _⟩
        · go_simp
          refine hK.out _ _ (by repeat (first | with_reducible exact Below.refl _ _ | with_reducible assumption | (with_reducible refine below_drewN ?_ _) | (with_reducible refine Below.drew ?_) | (with_reducible refine Below.alloc ?_ ?_ _; rotate_left; focus (first | with_reducible assumption | omega | (simp; done) | (simp; omega))) | (with_reducible refine Below.setCell ?_ ?_ _; rotate_left; focus (first | with_reducible assumption | omega | (simp; done) | (simp; omega))))) (fun hHeld => ?_)
          clear hK K; (try simp only [Act.put, List.setIfInBounds_toArray, List.set_cons_zero, List.set_cons_succ])
          refine wpAnyH_ready (rs := [10]) (by kernel_rfl) (by simp) ?_; refine (AllReadyH.cons (o := _) (by simp only [List.getElem?_toArray, List.getElem?_cons_succ, List.getElem?_cons_zero]; rfl) (fun K hK => ?_) AllReadyH.nil)
          go_simp
          go_at_call 10
          refine (HT.out _ (hbr.trans (by repeat (first | with_reducible exact Below.refl _ _ | with_reducible assumption | (with_reducible refine below_drewN ?_ _) | (with_reducible refine Below.drew ?_) | (with_reducible refine Below.alloc ?_ ?_ _; rotate_left; focus (first | with_reducible assumption | omega | (simp; done) | (simp; omega))) | (with_reducible refine Below.setCell ?_ ?_ _; rotate_left; focus (first | with_reducible assumption | omega | (simp; done) | (simp; omega))))))).mono ?_
          rintro e w2 ⟨rfl, hb2⟩
          simp only [Pl.val]
          have hb3 : Below wr.heap.size wr w2 := Below.trans (by repeat (first | with_reducible exact Below.refl _ _ | with_reducible assumption | (with_reducible refine below_drewN ?_ _) | (with_reducible refine Below.drew ?_) | (with_reducible refine Below.alloc ?_ ?_ _; rotate_left; focus (first | with_reducible assumption | omega | (simp; done) | (simp; omega))) | (with_reducible refine Below.setCell ?_ ?_ _; rotate_left; focus (first | with_reducible assumption | omega | (simp; done) | (simp; omega))))) (hb2.mono (by simp))
          have k10 : Bk w2 wr.heap.size 25 #[.int .i64 0, .bool false, .bool false, .int .i64 0, .int .i64 0] := (Bk.drew (Bk.new wr 25 #[.int .i64 0, .bool false, .bool false, .int .i64 0, .int .i64 0])).ext hb2
          have c0 := k10.cell 0; have c1 := k10.cell 1; have c2 := k10.cell 2; have c3 := k10.cell 3; have c4 := k10.cell 4
          have cf := k10.frozen; have cl := def_lt' k10
          dsimp at c0 c1 c2 c3 c4
          refine hK.out _ _ hb3 (fun hHeld => ?_)
          clear hK K; (try simp only [Act.put, List.setIfInBounds_toArray, List.set_cons_zero, List.set_cons_succ])
          (refine take_if (i := 11) (oi := _) (v := ?_) (by simp only [List.getElem?_toArray, List.getElem?_cons_succ, List.getElem?_cons_zero]; rfl) (by kernel_rfl) (by kernel_rfl) (by kernel_rfl) (fun _ _ _ h => h) (by rfl) ?_ (by assumption) ?_; rotate_left; (focus ((intro w hSw; (try have hSw := HF.out _ hSw); (try dsimp only at hSw); go_simp); try exact rfl)); simp only [Act.put, List.setIfInBounds_toArray, List.set_cons_zero, List.set_cons_succ]; refine take_if (i := 12) (oi := _) (v := ?_) (by simp only [List.getElem?_toArray, List.getElem?_cons_succ, List.getElem?_cons_zero]; rfl) (by kernel_rfl) (by kernel_rfl) (by kernel_rfl) (fun _ _ _ h => h) (by rfl) ?_ (by assumption) ?_; rotate_left; (focus ((intro w hSw; (try have hSw := HF.out _ hSw); (try dsimp only at hSw); go_simp); try exact rfl)); simp only [Act.put, List.setIfInBounds_toArray, List.set_cons_zero, List.set_cons_succ]; refine take_if (i := 13) (oi := _) (v := ?_) (by simp only [List.getElem?_toArray, List.getElem?_cons_succ, List.getElem?_cons_zero]; rfl) (by kernel_rfl) (by kernel_rfl) (by kernel_rfl) (fun _ _ _ h => h) (by rfl) ?_ (by assumption) ?_; rotate_left; (focus ((intro w hSw; (try have hSw := HF.out _ hSw); (try dsimp only at hSw); go_simp); try exact rfl)); simp only [Act.put, List.setIfInBounds_toArray, List.set_cons_zero, List.set_cons_succ])
          refine wpAnyH_ready (rs := [15]) (by kernel_rfl) (by simp) ?_; refine (AllReadyH.cons (o := _) (by simp only [List.getElem?_toArray, List.getElem?_cons_succ, List.getElem?_cons_zero]; rfl) (fun K hK => ?_) AllReadyH.nil)
          go_simp
          refine hK.out _ _ (by repeat (first | with_reducible exact Below.refl _ _ | with_reducible assumption | (with_reducible refine below_drewN ?_ _) | (with_reducible refine Below.drew ?_) | (with_reducible refine Below.alloc ?_ ?_ _; rotate_left; focus (first | with_reducible assumption | omega | (simp; done) | (simp; omega))) | (with_reducible refine Below.setCell ?_ ?_ _; rotate_left; focus (first | with_reducible assumption | omega | (simp; done) | (simp; omega))))) (fun hHeld => ?_)
          clear hK K; (try simp only [Act.put, List.setIfInBounds_toArray, List.set_cons_zero, List.set_cons_succ])
          (refine take_if (i := 16) (oi := _) (v := ?_) (by simp only [List.getElem?_toArray, List.getElem?_cons_succ, List.getElem?_cons_zero]; rfl) (by kernel_rfl) (by kernel_rfl) (by kernel_rfl) (fun _ _ _ h => h) (by rfl) ?_ (by assumption) ?_; rotate_left; (focus ((intro w hSw; (try have hSw := HF.out _ hSw); (try dsimp only at hSw); go_simp); try exact rfl)); simp only [Act.put, List.setIfInBounds_toArray, List.set_cons_zero, List.set_cons_succ])
          refine wpAnyH_done (by kernel_rfl) ?_ _
          go_wp2
          go_meet
          exact ⟨_, rfl, rfl, hHeld, Nat.le_refl _, ((((k10.set_ 0 (.int .i64 x1)).set_ 1 (.bool x2)).set_ 2 (.bool x3)).set_ 3 (.int .i64 x4)).set_ 4 (.int .i64 x5)⟩
      case rest =>
        obtain ⟨b10, rfl, rfl, hb3, hb10, q10⟩ := hcut
        have q8 := k8.ext hb3
        have q6 := k6.ext hb3
        have hbx : Below W.heap.size W wc := hbr.trans (hb3.mono (by omega))
        have hsx := hb3.size
        have hlx := def_lt' q10
        have a0 := q10.cell 0; have a1 := q10.cell 1; have a2 := q10.cell 2; have a3 := q10.cell 3; have a4 := q10.cell 4
        dsimp at a0 a1 a2 a3 a4
        by_cases her : er = 0
        · subst her
          have hst := HST.out
          rw [if_neg (by simp)] at hst
          have hrc := recovered_any base R ms f k x1 x4 x5 x2 x3 wc (HR.out.ext hbx) hin hkn
          have hok := recR_ok (i := k) (g := x2) (a := x4) (b := x5) hin
          obtain ⟨⟨r1, r2, r3⟩, hr⟩ : ∃ q, recR ms f k x2 x4 x5 = q := ⟨_, rfl⟩
          rw [hr] at hst hrc hok
          simp only at hst hrc hok
          have HRC := Lib.hid hrc
          have b0 := q8.cell 0; have b1 := q8.cell 1; have b2 := q8.cell 2; have b3 := q8.cell 3; have b4 := q8.cell 4
          dsimp at b0 b1 b2 b3 b4
          have hl8 := def_lt' q8
          cases r3 with
          | true =>
            obtain ⟨κ, rfl, h1, h2⟩ := hok rfl
            rw [if_pos rfl] at hst
            simp only [Int.toNat_natCast] at hst
            have HN := Lib.hid hst
            clear hst hrc hok HST hr
            go_wp2_with (go_at_call 44; refine HRC.out.mono ?_; rintro e w4 ⟨rfl, hb4⟩; have s8 := q8.ext hb4; have s6 := q6.ext hb4; have t0 := s8.cell 0; have tf := s8.frozen; have tl := def_lt' s8; have hb4s := hb4.size; dsimp at t0)
            go_roundw
            case rel => exact ⟨κ + 1, ⟨r2, o2, o3, 0, 0⟩, by omega, by go_num, HN.out, Below.setCell (hbx.trans (hb4.mono (by omega))) (by simp) _, by rw [size_set]; omega, s6.far (by simp) _, s8.set_ 0 _, ⟨rfl, rfl⟩⟩
            case measure => simp [intOf]; omega
          | false =>
            rw [if_neg (by simp)] at hst
            simp only at hst
            have HN := Lib.hid hst
            clear hst hrc hok HST hr
            cases o2 <;> cases o3
            all_goals
              go_wp2_with (go_at_call 44; refine HRC.out.mono ?_; rintro e w4 ⟨rfl, hb4⟩; have s8 := q8.ext hb4; have s6 := q6.ext hb4; have s10 := q10.ext hb4; have t0 := s8.cell 0; have t1 := s8.cell 1; have t2 := s8.cell 2; have y0 := s10.cell 0; have y1 := s10.cell 1; have y2 := s10.cell 2; have tf := s8.frozen; have tl := def_lt' s8; have yl := def_lt' s10; have hb4s := hb4.size; dsimp at t0 t1 t2 y0 y1 y2)
              go_roundw
              case rel => exact ⟨k + 1, _, by omega, by go_num, HN.out, Below.setCell (Below.setCell (Below.setCell (hbx.trans (hb4.mono (by omega))) (by simp) _) (by simp) _) (by simp) _, by rw [size_set, size_set, size_set]; omega, ((s6.far (by simp) _).far (by simp) _).far (by simp) _, ((s8.set_ 0 _).set_ 1 _).set_ 2 _, ⟨rfl, rfl⟩⟩
              case measure => simp [intOf]; omega
        · have hst := HST.out
          rw [if_pos her] at hst
          simp only at hst
          have HE := Lib.hid hst
          have b0 := q6.cell 0; have b1 := q6.cell 1; have b2 := q6.cell 2; have b3 := q6.cell 3; have b4 := q6.cell 4
          have bf := q6.frozen
          dsimp at b0 b1 b2 b3 b4
          clear hst HST
          go_wp2
          have r6 : Bk _ W.heap.size 25 #[.int .i64 0, .bool false, .bool false, .int .i64 0, .int .i64 0] := ((((q6.set_ 0 (.int .i64 0)).set_ 1 (.bool false)).set_ 2 (.bool false)).set_ 3 (.int .i64 0)).set_ 4 (.int .i64 0)
          have b0 := r6.cell 0; have b1 := r6.cell 1; have b2 := r6.cell 2; have b3 := r6.cell 3; have b4 := r6.cell 4
          dsimp at b0 b1 b2 b3 b4
          refine bodyPost_ret (v := .tuple #[(rTell ms f p side).1.val, .int .i64 (rTell ms f p side).2]) ?_ rfl ⟨rfl, by repeat (first | with_reducible exact Below.refl _ _ | with_reducible assumption | (with_reducible refine below_drewN ?_ _) | (with_reducible refine Below.drew ?_) | (with_reducible refine Below.alloc ?_ ?_ _; rotate_left; focus (first | with_reducible assumption | omega | (simp; done) | (simp; omega))) | (with_reducible refine Below.setCell ?_ ?_ _; rotate_left; focus (first | with_reducible assumption | omega | (simp; done) | (simp; omega))))⟩
          rw [← HE.out]
          simp [results, Try.results27, go_sem, Pl.val, Pl.zero, b0, b1, b2, b3, b4]
    · obtain rfl : k = ms.length := by omega
      have hI2 := hI.out
      rw [rRun_end (Nat.le_refl _)] at hI2
      have HE := Lib.hid hI2
      have d0 := k8.cell 0; have d1 := k8.cell 1; have d2 := k8.cell 2; have d3 := k8.cell 3; have d4 := k8.cell 4
      have b0 := k6.cell 0; have b1 := k6.cell 1; have b2 := k6.cell 2; have b3 := k6.cell 3; have b4 := k6.cell 4
      have bf := k6.frozen
      dsimp at b0 b1 b2 b3 b4 d0 d1 d2 d3 d4
      clear hI hI2
      go_wp2
      have r6 : Bk _ W.heap.size 25 #[.int .i64 o1, .bool o2, .bool o3, .int .i64 0, .int .i64 0] := ((((k6.set_ 0 (.int .i64 o1)).set_ 1 (.bool o2)).set_ 2 (.bool o3)).set_ 3 (.int .i64 0)).set_ 4 (.int .i64 0)
      have b0 := r6.cell 0; have b1 := r6.cell 1; have b2 := r6.cell 2; have b3 := r6.cell 3; have b4 := r6.cell 4
      dsimp at b0 b1 b2 b3 b4
      refine bodyPost_ret (v := .tuple #[(rTell ms f p side).1.val, .int .i64 (rTell ms f p side).2]) ?_ rfl ⟨rfl, by repeat (first | with_reducible exact Below.refl _ _ | with_reducible assumption | (with_reducible refine below_drewN ?_ _) | (with_reducible refine Below.drew ?_) | (with_reducible refine Below.alloc ?_ ?_ _; rotate_left; focus (first | with_reducible assumption | omega | (simp; done) | (simp; omega))) | (with_reducible refine Below.setCell ?_ ?_ _; rotate_left; focus (first | with_reducible assumption | omega | (simp; done) | (simp; omega))))⟩
      rw [← HE.out]
      simp [results, Try.results27, go_sem, Pl.val, b0, b1, b2, b3, b4]

set_option maxHeartbeats 1000000 in
theorem position_route (base R : Nat) (ms : List (List Rg)) (f : IMap) (p side : Int) (W : World) (hR : RouteIs W base R ms f) (hin : InR ms f) (hms : ms.length < 5000) :
    Calls Try.prog 31 #[.pointer (some ⟨R, 0, none⟩), .int .i64 p, .int .i64 side] W fun e W' => e = .returned (.int .i64 (rTell ms f p side).1.pos) ∧ Below W.heap.size W W' := by
  have ht := rtell_route base R ms f p side W hR hin hms
  obtain ⟨⟨⟨x1, x2, x3, x4, x5⟩, er⟩, hX⟩ : ∃ q, rTell ms f p side = q := ⟨_, rfl⟩
  rw [hX] at ht ⊢
  simp only [Pl.val] at ht
  have HT := Lib.hid ht
  clear ht hR
  go_enter Try.func31, Try.ntmps31
  go_wp2_with (go_at_call 27; refine HT.out.mono ?_; rintro e w1 ⟨rfl, hb1⟩)
  go_ret
  exact ⟨rfl, hb1.alloc hb1.size _⟩
end Go.Proofs.Ytkkbmcpimglcpaa
