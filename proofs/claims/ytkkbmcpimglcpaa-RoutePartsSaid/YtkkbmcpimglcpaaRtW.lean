/- route: the document's Tell -/
import Derived.Test.YtkkbmcpimglcpaaRtV
import Derived.Test.YtkkbmcpimglcpaaG
namespace Go.Proofs.Ytkkbmcpimglcpaa
open Go.RowKit

/-- one map of the document's route is told as the program's -/
theorem dstep {ms : List (List Rg)} {f : IMap} {k : Nat} {m : List Rg} {o1 side : Int} {o2 o3 : Bool} {x : Pl} (hm : ms[k]? = some m) (hr : rightM m = true) (hp0 : 0 ≤ o1) (hp1 : o1 ≤ 1099511627776) (hx : tellM m o1 side = x) (hmok : MirOk f ms.length) (hml : ∀ m ∈ ms, rightM m = true) :
    (∃ (κ : Nat) (mk : List Rg) (r : Nat), x.gone = true ∧ f k = some (κ : Int) ∧ k < κ ∧ κ < ms.length ∧ ms[κ]? = some mk ∧ recD mk x.range x.off = r ∧ rStep ms f side k ⟨o1, o2, o3, 0, 0⟩ = .ok (κ + 1, ⟨r, o2, o3, 0, 0⟩)) ∨
    (∃ (κ : Nat) (mk : List Rg), x.gone = true ∧ f k = some (κ : Int) ∧ k < κ ∧ κ < ms.length ∧ ms[κ]? = some mk ∧ recD mk x.range x.off < 0 ∧ rStep ms f side k ⟨o1, o2, o3, 0, 0⟩ = .ok (k + 1, ⟨x.pos, o2 || x.gone, o3 || x.inside, 0, 0⟩)) ∨
    (x.gone = false ∧ rStep ms f side k ⟨o1, o2, o3, 0, 0⟩ = .ok (k + 1, ⟨x.pos, o2 || x.gone, o3 || x.inside, 0, 0⟩)) ∨
    (x.gone = true ∧ (f k).getD (-1) ≤ k ∧ rStep ms f side k ⟨o1, o2, o3, 0, 0⟩ = .ok (k + 1, ⟨x.pos, o2 || x.gone, o3 || x.inside, 0, 0⟩)) := by
  have hgd : ms.getD k [] = m := by rw [List.getD_eq_getElem?_getD, hm]; rfl
  have ht : tellS m o1 side = (x, 0) := by unfold tellS; rw [if_pos hr, if_pos ⟨hp0, hp1⟩, hx]
  have hs : rStep ms f side k ⟨o1, o2, o3, 0, 0⟩ = if (recR ms f k x.gone x.range x.off).2.2 = true then .ok ((recR ms f k x.gone x.range x.off).1.toNat + 1, ⟨(recR ms f k x.gone x.range x.off).2.1, o2, o3, 0, 0⟩) else .ok (k + 1, ⟨x.pos, o2 || x.gone, o3 || x.inside, 0, 0⟩) := by
    unfold rStep
    rw [hgd]
    simp only [ht]
    simp
  rw [hs]
  cases hg : x.gone with
  | false =>
    right; right; left
    have : (recR ms f k false x.range x.off).2.2 = false := by unfold recR; cases f k <;> simp
    refine ⟨rfl, ?_⟩
    rw [if_neg (by rw [this]; simp)]
  | true =>
    by_cases hf : (f k).getD (-1) ≤ k
    · right; right; right
      refine ⟨rfl, hf, ?_⟩
      have : (recR ms f k true x.range x.off).2.2 = false := by
        unfold recR
        cases hfk : f k with
        | none => rfl
        | some v =>
          rw [hfk] at hf
          have := hmok k v hfk
          simp at hf
          simp only
          rw [if_neg (by omega)]
      rw [if_neg (by rw [this]; simp)]
    · cases hfk : f k with
      | none => exact absurd (by rw [hfk]; show (-1 : Int) ≤ k; omega) hf
      | some v =>
        rw [hfk] at hf
        simp at hf
        have := hmok k v hfk
        obtain ⟨κ, rfl⟩ : ∃ κ : Nat, v = κ := ⟨v.toNat, by omega⟩
        obtain ⟨mk, hmk⟩ : ∃ mk, ms[κ]? = some mk := ⟨_, List.getElem?_eq_getElem (by omega)⟩
        have hmd : ms.getD κ [] = mk := by rw [List.getD_eq_getElem?_getD, hmk]; rfl
        have hag := rec_agree x.range x.off (hml mk (List.mem_of_getElem? hmk))
        have hrr : recR ms f k true x.range x.off = ((κ : Int), recS mk x.range x.off) := by
          unfold recR
          rw [hfk]
          simp only
          rw [if_pos ⟨trivial, by omega⟩, Int.toNat_natCast, hmd]
        rw [hrr]
        simp only
        rw [hag.1, hag.2]
        by_cases hd : 0 ≤ recD mk x.range x.off
        · left
          refine ⟨κ, mk, (recD mk x.range x.off).toNat, trivial, rfl, by omega, by omega, hmk, by omega, ?_⟩
          rw [if_pos (decide_eq_true hd), Int.toNat_natCast, show max (recD mk x.range x.off) 0 = (((recD mk x.range x.off).toNat : Nat) : Int) by omega]
        · right; left
          refine ⟨κ, mk, trivial, rfl, by omega, by omega, hmk, by omega, ?_⟩
          rw [if_neg (by simpa using hd)]

/-- what the document's Tell answers -/
def dTell (ms : List (List Rg)) (f : IMap) (p side : Int) : Pl × Bool := ((rTell ms f p side).1, decide ((rTell ms f p side).2 = 0))

set_option maxRecDepth 100000 in
set_option maxHeartbeats 8000000 in
theorem dtell_route (w : World) (ms : List (List Rg)) (f : IMap) (Am Ao : Option Addr) (cm co : Nat) (p side : Int) (hx : RefIs w w.heap.size Am Ao ms.length ms (ofsOf f ms.length)) (hmok : MirOk f ms.length) (hms : ms.length < 5000) (hml : ∀ m ∈ ms, rightM m = true) :
    Calls Try.prog 36 #[.agg #[.slice Am ms.length cm, .slice Ao ms.length co], .int .i64 p, .int .i64 side] w fun e w' => e = .returned (.tuple #[(dTell ms f p side).1.val, .bool (dTell ms f p side).2]) ∧ Below w.heap.size w w' := by
  have hb0 : Below w.heap.size w (w.alloc (.cells #[.slice Am ms.length cm, .slice Ao ms.length co] 66)) := (Below.refl _ _).alloc (Nat.le_refl _) _
  have kb := Bk.new w 66 #[.slice Am ms.length cm, .slice Ao ms.length co]
  have z0 := kb.cell 0; have z1 := kb.cell 1
  dsimp at z0 z1
  have hx0 := (hx.below hb0).more hb0.size
  have hsz : (w.alloc (.cells #[.slice Am ms.length cm, .slice Ao ms.length co] 66)).heap.size = w.heap.size + 1 := by simp
  clear hx
  go_enter Try.func36, Try.ntmps36
  go_wp2
  generalize w.alloc (.cells #[.slice Am ms.length cm, .slice Ao ms.length co] 66) = w0 at *
  have hF : ∀ w', Below w0.heap.size w0 w' → w'.cell? ⟨w.heap.size, 0, none⟩ = some (.slice Am ms.length cm) ∧ w'.cell? ⟨w.heap.size, 1, none⟩ = some (.slice Ao ms.length co) :=
    fun w' hb => ⟨(hb.cell (p := ⟨w.heap.size, 0, none⟩) (by simp; omega)).trans z0, (hb.cell (p := ⟨w.heap.size, 1, none⟩) (by simp; omega)).trans z1⟩
  have HFO := Lib.hid hF
  clear hF
  go_loopw [9] (fun i wr => ∃ (k : Nat) (o : Pl), k ≤ ms.length ∧ i = .int .i64 k ∧ Hid (rRun ms f side (ms.length - k) k o = rTell ms f p side) ∧ Below w0.heap.size w0 wr ∧ w0.heap.size + 2 ≤ wr.heap.size ∧ Bk wr (w.heap.size + 1) 30 #[.int .i64 0, .bool false, .bool false, .int .i64 0, .int .i64 0] ∧ Bk wr (w.heap.size + 1 + 1) 30 #[.int .i64 o.pos, .bool o.gone, .bool o.inside, .int .i64 0, .int .i64 0] ∧ Hid (o.range = 0 ∧ o.off = 0)) (fun i _ => ms.length - (intOf i).toNat)
  case atStart => exact ⟨0, { Pl.zero with pos := p }, by omega, rfl, rfl, by repeat (first | with_reducible exact Below.refl _ _ | with_reducible assumption | (with_reducible refine below_drewN ?_ _) | (with_reducible refine Below.drew ?_) | (with_reducible refine Below.alloc ?_ ?_ _; rotate_left; focus (first | with_reducible assumption | omega | (simp; done) | (simp; omega))) | (with_reducible refine Below.setCell ?_ ?_ _; rotate_left; focus (first | with_reducible assumption | omega | (simp; done) | (simp; omega)))), by simp, by rw [← hsz]; exact (Bk.new w0 _ _).alloc _, Bk.made _ _ (by simp; omega), ⟨rfl, rfl⟩⟩
  case round =>
    obtain ⟨k, ⟨o1, o2, o3, o4, o5⟩, hk, rfl, hI, hbr, hz, k6, k8, ho⟩ := hrel
    obtain ⟨rfl, rfl⟩ : o4 = 0 ∧ o5 = 0 := ho.out
    clear ho
    simp only at k8
    have c0 := (HFO.out _ hbr).1
    have c1 := (HFO.out _ hbr).2
    have d0 := k8.cell 0; have d1 := k8.cell 1; have d2 := k8.cell 2; have d3 := k8.cell 3; have d4 := k8.cell 4
    have b0 := k6.cell 0; have b1 := k6.cell 1; have b2 := k6.cell 2; have b3 := k6.cell 3; have b4 := k6.cell 4
    have bf := k6.frozen
    dsimp at b0 b1 b2 b3 b4 d0 d1 d2 d3 d4
    by_cases hkn : k < ms.length
    · obtain ⟨m, hm⟩ : ∃ m, ms[k]? = some m := ⟨_, List.getElem?_eq_getElem hkn⟩
      have hmr := hml m (List.mem_of_getElem? hm)
      have hst := rRun_step (f := f) (side := side) (o := ⟨o1, o2, o3, 0, 0⟩) hkn
      rw [hI.out] at hst
      have e3 : (k : Int) < ms.length := by omega
      by_cases hp : 0 ≤ o1 ∧ o1 ≤ 1099511627776
      · obtain ⟨b, o, A, c, rfl, hb, hc, hrd⟩ := hx0.at_ hm
        obtain ⟨b', o', rfl, hb', hc'⟩ := hx0.of_ (ofsOf_get f hkn)
        obtain ⟨hp1, hp2⟩ := hp
        obtain ⟨⟨x1, x2, x3, x4, x5⟩, hX⟩ : ∃ x, tellM m o1 side = x := ⟨_, rfl⟩
        have hds := dstep (f := f) (o2 := o2) (o3 := o3) hm hmr hp1 hp2 hX hmok hml
        have htc := fun W (hb : Below w0.heap.size w0 W) => rtell_any A m.length c m o1 side W ((hrd.below hb).more hb.size) hmr hp1 hp2
        rw [hX] at htc
        simp only [Pl.val] at htc
        simp only at hds
        have hF : ∀ w', Below wr.heap.size wr w' → (w'.cell? ⟨w.heap.size, 0, none⟩ = some (.slice (some ⟨b, o, none⟩) ms.length cm) ∧ w'.cell? ⟨w.heap.size, 1, none⟩ = some (.slice (some ⟨b', o', none⟩) ms.length co)) ∧ w'.cell? ⟨b, o + k, none⟩ = some (.slice A m.length c) ∧ w'.cell? ⟨b', o' + k, none⟩ = some (.int .i64 ((f k).getD (-1))) ∧ w'.cell? ⟨w.heap.size + 1 + 1, 0, none⟩ = some (.int .i64 o1) :=
          fun w' hb2 => ⟨HFO.out _ (hbr.trans (hb2.mono (by omega))), ((hbr.trans (hb2.mono (by omega))).cell (p := ⟨b, o + k, none⟩) hb).trans hc, ((hbr.trans (hb2.mono (by omega))).cell (p := ⟨b', o' + k, none⟩) hb').trans hc', (hb2.cell (p := ⟨w.heap.size + 1 + 1, 0, none⟩) (by simp; omega)).trans d0⟩
        have HF := Lib.hid hF
        have HT := Lib.hid htc
        have HDS := Lib.hid hds
        have HST := Lib.hid hst
        have HX0 := Lib.hid hx0
        clear hF htc hds hst hI hX hrd hx0
        go_wp2
        go_cut [10] from 28 to 90 (fun v wx => ∃ b10 : Nat, v = .pointer (some ⟨b10, 0, none⟩) ∧ Below wr.heap.size wr wx ∧ wr.heap.size ≤ b10 ∧ Bk wx b10 30 #[.int .i64 x1, .bool x2, .bool x3, .int .i64 x4, .int .i64 x5])
        case first =>
          refine wp_normal ?_
          refine wp_region_held_drew (S := fun w' => Below wr.heap.size wr w') (by kernel_rfl) ((Below.refl _ _).drew) (fun hHeld => ?_)
          (refine take_if (i := 0) (oi := _) (v := ?_) (by simp only [List.getElem?_toArray, List.getElem?_cons_zero]; rfl) (by kernel_rfl) (by kernel_rfl) (by kernel_rfl) (fun _ _ _ h => h) (by rfl) ?_ (by assumption) ?_; rotate_left; (focus ((intro w hSw; (try have hSw := HF.out _ hSw); (try dsimp only at hSw); go_simp); try exact rfl)); simp only [Act.put, List.setIfInBounds_toArray, List.set_cons_zero, List.set_cons_succ]; refine take_if (i := 1) (oi := _) (v := ?_) (by simp only [List.getElem?_toArray, List.getElem?_cons_succ, List.getElem?_cons_zero]; rfl) (by kernel_rfl) (by kernel_rfl) (by kernel_rfl) (fun _ _ _ h => h) (by rfl) ?_ (by assumption) ?_; rotate_left; (focus ((intro w hSw; (try have hSw := HF.out _ hSw); (try dsimp only at hSw); go_simp); try exact rfl)); simp only [Act.put, List.setIfInBounds_toArray, List.set_cons_zero, List.set_cons_succ]; refine take_if (i := 2) (oi := _) (v := ?_) (by simp only [List.getElem?_toArray, List.getElem?_cons_succ, List.getElem?_cons_zero]; rfl) (by kernel_rfl) (by kernel_rfl) (by kernel_rfl) (fun _ _ _ h => h) (by rfl) ?_ (by assumption) ?_; rotate_left; (focus ((intro w hSw; (try have hSw := HF.out _ hSw); (try dsimp only at hSw); go_simp); try exact rfl)); simp only [Act.put, List.setIfInBounds_toArray, List.set_cons_zero, List.set_cons_succ]; refine take_if (i := 3) (oi := _) (v := ?_) (by simp only [List.getElem?_toArray, List.getElem?_cons_succ, List.getElem?_cons_zero]; rfl) (by kernel_rfl) (by kernel_rfl) (by kernel_rfl) (fun _ _ _ h => h) (by rfl) ?_ (by assumption) ?_; rotate_left; (focus ((intro w hSw; (try have hSw := HF.out _ hSw); (try dsimp only at hSw); go_simp); try exact rfl)); simp only [Act.put, List.setIfInBounds_toArray, List.set_cons_zero, List.set_cons_succ]; refine take_if (i := 4) (oi := _) (v := ?_) (by simp only [List.getElem?_toArray, List.getElem?_cons_succ, List.getElem?_cons_zero]; rfl) (by kernel_rfl) (by kernel_rfl) (by kernel_rfl) (fun _ _ _ h => h) (by rfl) ?_ (by assumption) ?_; rotate_left; (focus ((intro w hSw; (try have hSw := HF.out _ hSw); (try dsimp only at hSw); go_simp); try exact rfl)); simp only [Act.put, List.setIfInBounds_toArray, List.set_cons_zero, List.set_cons_succ]; refine take_if (i := 5) (oi := _) (v := ?_) (by simp only [List.getElem?_toArray, List.getElem?_cons_succ, List.getElem?_cons_zero]; rfl) (by kernel_rfl) (by kernel_rfl) (by kernel_rfl) (fun _ _ _ h => h) (by rfl) ?_ (by assumption) ?_; rotate_left; (focus ((intro w hSw; (try have hSw := HF.out _ hSw); (try dsimp only at hSw); go_simp); try exact rfl)); simp only [Act.put, List.setIfInBounds_toArray, List.set_cons_zero, List.set_cons_succ]; refine take_if (i := 6) (oi := _) (v := ?_) (by simp only [List.getElem?_toArray, List.getElem?_cons_succ, List.getElem?_cons_zero]; rfl) (by kernel_rfl) (by kernel_rfl) (by kernel_rfl) (fun _ _ _ h => h) (by rfl) ?_ (by assumption) ?_; rotate_left; (focus ((intro w hSw; (try have hSw := HF.out _ hSw); (try dsimp only at hSw); go_simp); try exact rfl)); simp only [Act.put, List.setIfInBounds_toArray, List.set_cons_zero, List.set_cons_succ]; refine take_if (i := 7) (oi := _) (v := ?_) (by simp only [List.getElem?_toArray, List.getElem?_cons_succ, List.getElem?_cons_zero]; rfl) (by kernel_rfl) (by kernel_rfl) (by kernel_rfl) (fun _ _ _ h => h) (by rfl) ?_ (by assumption) ?_; rotate_left; (focus ((intro w hSw; (try have hSw := HF.out _ hSw); (try dsimp only at hSw); go_simp); try exact rfl)); simp only [Act.put, List.setIfInBounds_toArray, List.set_cons_zero, List.set_cons_succ])
          refine wpAnyH_ready (rs := [8, 9]) (by kernel_rfl) (by simp) ?_; refine (AllReadyH.cons (o := _) (by simp only [List.getElem?_toArray, List.getElem?_cons_succ, List.getElem?_cons_zero]; rfl) (fun K hK => ?_) (AllReadyH.cons (o := _) (by simp only [List.getElem?_toArray, List.getElem?_cons_succ, List.getElem?_cons_zero]; rfl) (fun K hK => ?_) AllReadyH.nil))
          · go_simp
            go_at_call 13
            refine (HT.out _ hbr.drew).mono ?_
            rintro e w2 ⟨rfl, hb2⟩
            have hb3 : Below wr.heap.size wr w2 := Below.trans ((Below.refl _ _).drew) hb2
            have hb3s := hb3.size
            refine hK.out _ _ hb3 (fun hHeld => ?_)
            clear hK K; (try simp only [Act.put, List.setIfInBounds_toArray, List.set_cons_zero, List.set_cons_succ])
            refine wpAnyH_ready (rs := [9]) (by kernel_rfl) (by simp) ?_; refine (AllReadyH.cons (o := _) (by simp only [List.getElem?_toArray, List.getElem?_cons_succ, List.getElem?_cons_zero]; rfl) (fun K hK => ?_) AllReadyH.nil)
            go_simp
            refine hK.out _ _ (by repeat (first | with_reducible exact Below.refl _ _ | with_reducible assumption | (with_reducible refine below_drewN ?_ _) | (with_reducible refine Below.drew ?_) | (with_reducible refine Below.alloc ?_ ?_ _; rotate_left; focus (first | with_reducible assumption | omega | (simp; done) | (simp; omega))) | (with_reducible refine Below.setCell ?_ ?_ _; rotate_left; focus (first | with_reducible assumption | omega | (simp; done) | (simp; omega))))) (fun hHeld => ?_)
            clear hK K; (try simp only [Act.put, List.setIfInBounds_toArray, List.set_cons_zero, List.set_cons_succ])
            refine wpAnyH_ready (rs := [10]) (by kernel_rfl) (by simp) ?_; refine (AllReadyH.cons (o := _) (by simp only [List.getElem?_toArray, List.getElem?_cons_succ, List.getElem?_cons_zero]; rfl) (fun K hK => ?_) AllReadyH.nil)
            go_simp
            refine hK.out _ _ (by repeat (first | with_reducible exact Below.refl _ _ | with_reducible assumption | (with_reducible refine below_drewN ?_ _) | (with_reducible refine Below.drew ?_) | (with_reducible refine Below.alloc ?_ ?_ _; rotate_left; focus (first | with_reducible assumption | omega | (simp; done) | (simp; omega))) | (with_reducible refine Below.setCell ?_ ?_ _; rotate_left; focus (first | with_reducible assumption | omega | (simp; done) | (simp; omega))))) (fun hHeld => ?_)
            clear hK K; (try simp only [Act.put, List.setIfInBounds_toArray, List.set_cons_zero, List.set_cons_succ])
            refine wpAnyH_done (by kernel_rfl) ?_ _
            go_wp2
            go_meet
            exact ⟨_, rfl, hHeld, hb3s, Bk.new w2 _ _⟩
          · go_simp
            refine hK.out _ _ (by repeat (first | with_reducible exact Below.refl _ _ | with_reducible assumption | (with_reducible refine below_drewN ?_ _) | (with_reducible refine Below.drew ?_) | (with_reducible refine Below.alloc ?_ ?_ _; rotate_left; focus (first | with_reducible assumption | omega | (simp; done) | (simp; omega))) | (with_reducible refine Below.setCell ?_ ?_ _; rotate_left; focus (first | with_reducible assumption | omega | (simp; done) | (simp; omega))))) (fun hHeld => ?_)
            clear hK K; (try simp only [Act.put, List.setIfInBounds_toArray, List.set_cons_zero, List.set_cons_succ])
            refine wpAnyH_ready (rs := [8]) (by kernel_rfl) (by simp) ?_; refine (AllReadyH.cons (o := _) (by simp only [List.getElem?_toArray, List.getElem?_cons_succ, List.getElem?_cons_zero]; rfl) (fun K hK => ?_) AllReadyH.nil)
            go_simp
            go_at_call 13
            refine (HT.out _ (hbr.trans (by repeat (first | with_reducible exact Below.refl _ _ | with_reducible assumption | (with_reducible refine below_drewN ?_ _) | (with_reducible refine Below.drew ?_) | (with_reducible refine Below.alloc ?_ ?_ _; rotate_left; focus (first | with_reducible assumption | omega | (simp; done) | (simp; omega))) | (with_reducible refine Below.setCell ?_ ?_ _; rotate_left; focus (first | with_reducible assumption | omega | (simp; done) | (simp; omega))))))).mono ?_
            rintro e w2 ⟨rfl, hb2⟩
            have hb3 : Below wr.heap.size wr w2 := Below.trans (by repeat (first | with_reducible exact Below.refl _ _ | with_reducible assumption | (with_reducible refine below_drewN ?_ _) | (with_reducible refine Below.drew ?_) | (with_reducible refine Below.alloc ?_ ?_ _; rotate_left; focus (first | with_reducible assumption | omega | (simp; done) | (simp; omega))) | (with_reducible refine Below.setCell ?_ ?_ _; rotate_left; focus (first | with_reducible assumption | omega | (simp; done) | (simp; omega))))) (hb2.mono (by simp))
            have k10 : Bk w2 wr.heap.size 30 #[.int .i64 0, .bool false, .bool false, .int .i64 0, .int .i64 0] := (Bk.drew (Bk.new wr 30 #[.int .i64 0, .bool false, .bool false, .int .i64 0, .int .i64 0])).ext hb2
            have c0 := k10.cell 0; have c1 := k10.cell 1; have c2 := k10.cell 2; have c3 := k10.cell 3; have c4 := k10.cell 4
            have cf := k10.frozen; have cl := def_lt' k10
            dsimp at c0 c1 c2 c3 c4
            refine hK.out _ _ hb3 (fun hHeld => ?_)
            clear hK K; (try simp only [Act.put, List.setIfInBounds_toArray, List.set_cons_zero, List.set_cons_succ])
            refine wpAnyH_ready (rs := [10]) (by kernel_rfl) (by simp) ?_; refine (AllReadyH.cons (o := _) (by simp only [List.getElem?_toArray, List.getElem?_cons_succ, List.getElem?_cons_zero]; rfl) (fun K hK => ?_) AllReadyH.nil)
            go_simp
            refine hK.out _ _ (by repeat (first | with_reducible exact Below.refl _ _ | with_reducible assumption | (with_reducible refine below_drewN ?_ _) | (with_reducible refine Below.drew ?_) | (with_reducible refine Below.alloc ?_ ?_ _; rotate_left; focus (first | with_reducible assumption | omega | (simp; done) | (simp; omega))) | (with_reducible refine Below.setCell ?_ ?_ _; rotate_left; focus (first | with_reducible assumption | omega | (simp; done) | (simp; omega))))) (fun hHeld => ?_)
            clear hK K; (try simp only [Act.put, List.setIfInBounds_toArray, List.set_cons_zero, List.set_cons_succ])
            refine wpAnyH_done (by kernel_rfl) ?_ _
            go_wp2
            go_meet
            exact ⟨_, rfl, hHeld, Nat.le_refl _, ((((k10.set_ 0 (.int .i64 x1)).set_ 1 (.bool x2)).set_ 2 (.bool x3)).set_ 3 (.int .i64 x4)).set_ 4 (.int .i64 x5)⟩
        case rest =>
          obtain ⟨b10, rfl, hb3, hb10, q10⟩ := hcut
          have q8 := k8.ext hb3
          have q6 := k6.ext hb3
          have hbx : Below w0.heap.size w0 wc := hbr.trans (hb3.mono (by omega))
          have hsx := hb3.size
          have hl8 := def_lt' q8
          have hlx := def_lt' q10
          clear b0 b1 b2 b3 b4 bf d0 d1 d2 d3 d4
          have a0 := q10.cell 0; have a1 := q10.cell 1; have a2 := q10.cell 2; have a3 := q10.cell 3; have a4 := q10.cell 4
          have t0 := q8.cell 0; have t1 := q8.cell 1; have t2 := q8.cell 2; have tf := q8.frozen
          dsimp at a0 a1 a2 a3 a4 t0 t1 t2
          obtain ⟨⟨e0, e1⟩, e2, e4, e5⟩ := HF.out _ hb3
          rcases HDS.out with ⟨κ, mk, r, rfl, hfk, h1, h2, hmk, hrd, hS⟩ | ⟨κ, mk, rfl, hfk, h1, h2, hmk, hrd, hS⟩ | ⟨rfl, hS⟩ | ⟨rfl, hfk, hS⟩
          · obtain ⟨bκ, oκ, Aκ, cκ, eκ, hbκ, hcκ, hrκ⟩ := HX0.out.at_ hmk
            injection eκ with eκ
            injection eκ with eκ1 eκ2
            subst eκ1 eκ2
            rw [hfk] at e4
            simp only [Option.getD_some] at e4
            have hrr := fun W (hb : Below w0.heap.size w0 W) => rrec_any Aκ mk.length cκ mk x4 x5 W ((hrκ.below hb).more hb.size) (hml mk (List.mem_of_getElem? hmk))
            have eκ3 := (hbx.cell (p := ⟨b, o + κ, none⟩) hb).trans hcκ
            have lb : b < wc.heap.size := by omega
            have lb' : b' < wc.heap.size := by omega
            have lw : w.heap.size < wc.heap.size := by omega
            have hF : ∀ w', Below wc.heap.size wc w' → (w'.cell? ⟨w.heap.size, 0, none⟩ = some (.slice (some ⟨b, o, none⟩) ms.length cm) ∧ w'.cell? ⟨w.heap.size, 1, none⟩ = some (.slice (some ⟨b', o', none⟩) ms.length co)) ∧ w'.cell? ⟨b, o + κ, none⟩ = some (.slice Aκ mk.length cκ) ∧ w'.cell? ⟨b', o' + k, none⟩ = some (.int .i64 κ) ∧ w'.cell? ⟨b10, 3, none⟩ = some (.int .i64 x4) ∧ w'.cell? ⟨b10, 4, none⟩ = some (.int .i64 x5) :=
              fun w' hb2 => ⟨⟨(hb2.cell (p := ⟨w.heap.size, 0, none⟩) lw).trans e0, (hb2.cell (p := ⟨w.heap.size, 1, none⟩) lw).trans e1⟩, (hb2.cell (p := ⟨b, o + κ, none⟩) lb).trans eκ3, (hb2.cell (p := ⟨b', o' + k, none⟩) lb').trans e4, (hb2.cell (p := ⟨b10, 3, none⟩) hlx).trans a3, (hb2.cell (p := ⟨b10, 4, none⟩) hlx).trans a4⟩
            clear HF
            have HF := Lib.hid hF
            have HRR := Lib.hid hrr
            have e6 : (k : Int) < κ := by omega
            have e7 : (κ : Int) < ms.length := by omega
            have HRE := Lib.hid hrd
            have hst := HST.out
            rw [hS] at hst
            simp only at hst
            have HN := Lib.hid hst.symm
            clear hF hrr HST HDS hrd hst hS hcκ hfk
            go_wp2
            refine wp_normal ?_
            refine wp_region_held_drew (S := fun w' => Below wc.heap.size wc w') (by kernel_rfl) ((Below.refl _ _).drew) (fun hHeld => ?_)
            (refine take_if (i := 0) (oi := _) (v := ?_) (by simp only [List.getElem?_toArray, List.getElem?_cons_zero]; rfl) (by kernel_rfl) (by kernel_rfl) (by kernel_rfl) (fun _ _ _ h => h) (by rfl) ?_ (by assumption) ?_; rotate_left; (focus ((intro w hSw; (try have hSw := HF.out _ hSw); (try dsimp only at hSw); go_simp); try exact rfl)); simp only [Act.put, List.setIfInBounds_toArray, List.set_cons_zero, List.set_cons_succ]; refine take_if (i := 1) (oi := _) (v := ?_) (by simp only [List.getElem?_toArray, List.getElem?_cons_succ, List.getElem?_cons_zero]; rfl) (by kernel_rfl) (by kernel_rfl) (by kernel_rfl) (fun _ _ _ h => h) (by rfl) ?_ (by assumption) ?_; rotate_left; (focus ((intro w hSw; (try have hSw := HF.out _ hSw); (try dsimp only at hSw); go_simp); try exact rfl)); simp only [Act.put, List.setIfInBounds_toArray, List.set_cons_zero, List.set_cons_succ]; refine take_if (i := 2) (oi := _) (v := ?_) (by simp only [List.getElem?_toArray, List.getElem?_cons_succ, List.getElem?_cons_zero]; rfl) (by kernel_rfl) (by kernel_rfl) (by kernel_rfl) (fun _ _ _ h => h) (by rfl) ?_ (by assumption) ?_; rotate_left; (focus ((intro w hSw; (try have hSw := HF.out _ hSw); (try dsimp only at hSw); go_simp); try exact rfl)); simp only [Act.put, List.setIfInBounds_toArray, List.set_cons_zero, List.set_cons_succ]; refine take_if (i := 3) (oi := _) (v := ?_) (by simp only [List.getElem?_toArray, List.getElem?_cons_succ, List.getElem?_cons_zero]; rfl) (by kernel_rfl) (by kernel_rfl) (by kernel_rfl) (fun _ _ _ h => h) (by rfl) ?_ (by assumption) ?_; rotate_left; (focus ((intro w hSw; (try have hSw := HF.out _ hSw); (try dsimp only at hSw); go_simp); try exact rfl)); simp only [Act.put, List.setIfInBounds_toArray, List.set_cons_zero, List.set_cons_succ]; refine take_if (i := 4) (oi := _) (v := ?_) (by simp only [List.getElem?_toArray, List.getElem?_cons_succ, List.getElem?_cons_zero]; rfl) (by kernel_rfl) (by kernel_rfl) (by kernel_rfl) (fun _ _ _ h => h) (by rfl) ?_ (by assumption) ?_; rotate_left; (focus ((intro w hSw; (try have hSw := HF.out _ hSw); (try dsimp only at hSw); go_simp); try exact rfl)); simp only [Act.put, List.setIfInBounds_toArray, List.set_cons_zero, List.set_cons_succ]; refine take_if (i := 5) (oi := _) (v := ?_) (by simp only [List.getElem?_toArray, List.getElem?_cons_succ, List.getElem?_cons_zero]; rfl) (by kernel_rfl) (by kernel_rfl) (by kernel_rfl) (fun _ _ _ h => h) (by rfl) ?_ (by assumption) ?_; rotate_left; (focus ((intro w hSw; (try have hSw := HF.out _ hSw); (try dsimp only at hSw); go_simp); try exact rfl)); simp only [Act.put, List.setIfInBounds_toArray, List.set_cons_zero, List.set_cons_succ]; refine take_if (i := 6) (oi := _) (v := ?_) (by simp only [List.getElem?_toArray, List.getElem?_cons_succ, List.getElem?_cons_zero]; rfl) (by kernel_rfl) (by kernel_rfl) (by kernel_rfl) (fun _ _ _ h => h) (by rfl) ?_ (by assumption) ?_; rotate_left; (focus ((intro w hSw; (try have hSw := HF.out _ hSw); (try dsimp only at hSw); go_simp); try exact rfl)); simp only [Act.put, List.setIfInBounds_toArray, List.set_cons_zero, List.set_cons_succ]; refine take_if (i := 7) (oi := _) (v := ?_) (by simp only [List.getElem?_toArray, List.getElem?_cons_succ, List.getElem?_cons_zero]; rfl) (by kernel_rfl) (by kernel_rfl) (by kernel_rfl) (fun _ _ _ h => h) (by rfl) ?_ (by assumption) ?_; rotate_left; (focus ((intro w hSw; (try have hSw := HF.out _ hSw); (try dsimp only at hSw); go_simp); try exact rfl)); simp only [Act.put, List.setIfInBounds_toArray, List.set_cons_zero, List.set_cons_succ]; refine take_if (i := 8) (oi := _) (v := ?_) (by simp only [List.getElem?_toArray, List.getElem?_cons_succ, List.getElem?_cons_zero]; rfl) (by kernel_rfl) (by kernel_rfl) (by kernel_rfl) (fun _ _ _ h => h) (by rfl) ?_ (by assumption) ?_; rotate_left; (focus ((intro w hSw; (try have hSw := HF.out _ hSw); (try dsimp only at hSw); go_simp); try exact rfl)); simp only [Act.put, List.setIfInBounds_toArray, List.set_cons_zero, List.set_cons_succ]; refine take_if (i := 9) (oi := _) (v := ?_) (by simp only [List.getElem?_toArray, List.getElem?_cons_succ, List.getElem?_cons_zero]; rfl) (by kernel_rfl) (by kernel_rfl) (by kernel_rfl) (fun _ _ _ h => h) (by rfl) ?_ (by assumption) ?_; rotate_left; (focus ((intro w hSw; (try have hSw := HF.out _ hSw); (try dsimp only at hSw); go_simp); try exact rfl)); simp only [Act.put, List.setIfInBounds_toArray, List.set_cons_zero, List.set_cons_succ]; refine take_if (i := 10) (oi := _) (v := ?_) (by simp only [List.getElem?_toArray, List.getElem?_cons_succ, List.getElem?_cons_zero]; rfl) (by kernel_rfl) (by kernel_rfl) (by kernel_rfl) (fun _ _ _ h => h) (by rfl) ?_ (by assumption) ?_; rotate_left; (focus ((intro w hSw; (try have hSw := HF.out _ hSw); (try dsimp only at hSw); go_simp); try exact rfl)); simp only [Act.put, List.setIfInBounds_toArray, List.set_cons_zero, List.set_cons_succ]; refine take_if (i := 11) (oi := _) (v := ?_) (by simp only [List.getElem?_toArray, List.getElem?_cons_succ, List.getElem?_cons_zero]; rfl) (by kernel_rfl) (by kernel_rfl) (by kernel_rfl) (fun _ _ _ h => h) (by rfl) ?_ (by assumption) ?_; rotate_left; (focus ((intro w hSw; (try have hSw := HF.out _ hSw); (try dsimp only at hSw); go_simp); try exact rfl)); simp only [Act.put, List.setIfInBounds_toArray, List.set_cons_zero, List.set_cons_succ]; refine take_if (i := 12) (oi := _) (v := ?_) (by simp only [List.getElem?_toArray, List.getElem?_cons_succ, List.getElem?_cons_zero]; rfl) (by kernel_rfl) (by kernel_rfl) (by kernel_rfl) (fun _ _ _ h => h) (by rfl) ?_ (by assumption) ?_; rotate_left; (focus ((intro w hSw; (try have hSw := HF.out _ hSw); (try dsimp only at hSw); go_simp); try exact rfl)); simp only [Act.put, List.setIfInBounds_toArray, List.set_cons_zero, List.set_cons_succ])
            refine wpAnyH_ready (rs := [13]) (by kernel_rfl) (by simp) ?_; refine (AllReadyH.cons (o := _) (by simp only [List.getElem?_toArray, List.getElem?_cons_succ, List.getElem?_cons_zero]; rfl) (fun K hK => ?_) AllReadyH.nil)
            go_simp
            go_at_call 20
            refine (HRR.out _ hbx.drew).mono ?_
            rintro e w4 ⟨rfl, hb4⟩
            have hb4' : Below wc.heap.size wc w4 := Below.trans ((Below.refl _ _).drew) hb4
            refine hK.out _ _ hb4' (fun hHeld => ?_)
            clear hK K; (try simp only [Act.put, List.setIfInBounds_toArray, List.set_cons_zero, List.set_cons_succ])
            (refine take_if (i := 14) (oi := _) (v := ?_) (by simp only [List.getElem?_toArray, List.getElem?_cons_succ, List.getElem?_cons_zero]; rfl) (by kernel_rfl) (by kernel_rfl) (by kernel_rfl) (fun _ _ _ h => h) (by rfl) ?_ (by assumption) ?_; rotate_left; (focus ((intro w hSw; (try have hSw := HF.out _ hSw); (try dsimp only at hSw); go_simp); try exact rfl)); simp only [Act.put, List.setIfInBounds_toArray, List.set_cons_zero, List.set_cons_succ])
            refine wpAnyH_done (by kernel_rfl) ?_ _
            have hbz : Below w0.heap.size w0 w4 := hbx.trans (hb4'.mono (by omega))
            have hb4s := hb4'.size
            have s8 := q8.ext hb4'
            have s6 := q6.ext hb4'
            have s10 := q10.ext hb4'
            have t0 := s8.cell 0; have t1 := s8.cell 1; have t2 := s8.cell 2; have y0 := s10.cell 0; have y1 := s10.cell 1; have y2 := s10.cell 2; have tf := s8.frozen; have tl := def_lt' s8; have yl := def_lt' s10
            dsimp at t0 t1 t2 y0 y1 y2
            have g := HF.out _ hb4'
            have g0 := g.1.1; have g1 := g.1.2; have g2 := g.2.2.1
            rw [HRE.out]
            have ne1 : w.heap.size + 1 + 1 ≠ b' := by omega
            have ne2 : w.heap.size + 1 + 1 ≠ w.heap.size := by omega
            have v0 : (w4.setCell ⟨w.heap.size + 1 + 1, 0, none⟩ (.int .i64 r)).cell? ⟨w.heap.size, 1, none⟩ = some (.slice (some ⟨b', o', none⟩) ms.length co) := (World.cell?_setCell_far _ _ _ _ ne2).trans g1
            have v1 : (w4.setCell ⟨w.heap.size + 1 + 1, 0, none⟩ (.int .i64 r)).cell? ⟨b', o' + k, none⟩ = some (.int .i64 κ) := (World.cell?_setCell_far _ _ _ _ ne1).trans g2
            go_wp2
            go_roundw
            case rel => exact ⟨κ + 1, ⟨r, o2, o3, 0, 0⟩, by omega, by go_num, HN.out, Below.setCell hbz (by simp; omega) _, by rw [size_set]; omega, s6.far (by simp) _, s8.set_ 0 _, ⟨rfl, rfl⟩⟩
            case measure => simp [intOf]; omega
          · obtain ⟨bκ, oκ, Aκ, cκ, eκ, hbκ, hcκ, hrκ⟩ := HX0.out.at_ hmk
            injection eκ with eκ
            injection eκ with eκ1 eκ2
            subst eκ1 eκ2
            rw [hfk] at e4
            simp only [Option.getD_some] at e4
            have hrr := fun W (hb : Below w0.heap.size w0 W) => rrec_any Aκ mk.length cκ mk x4 x5 W ((hrκ.below hb).more hb.size) (hml mk (List.mem_of_getElem? hmk))
            have eκ3 := (hbx.cell (p := ⟨b, o + κ, none⟩) hb).trans hcκ
            have lb : b < wc.heap.size := by omega
            have lb' : b' < wc.heap.size := by omega
            have lw : w.heap.size < wc.heap.size := by omega
            have hF : ∀ w', Below wc.heap.size wc w' → (w'.cell? ⟨w.heap.size, 0, none⟩ = some (.slice (some ⟨b, o, none⟩) ms.length cm) ∧ w'.cell? ⟨w.heap.size, 1, none⟩ = some (.slice (some ⟨b', o', none⟩) ms.length co)) ∧ w'.cell? ⟨b, o + κ, none⟩ = some (.slice Aκ mk.length cκ) ∧ w'.cell? ⟨b', o' + k, none⟩ = some (.int .i64 κ) ∧ w'.cell? ⟨b10, 3, none⟩ = some (.int .i64 x4) ∧ w'.cell? ⟨b10, 4, none⟩ = some (.int .i64 x5) :=
              fun w' hb2 => ⟨⟨(hb2.cell (p := ⟨w.heap.size, 0, none⟩) lw).trans e0, (hb2.cell (p := ⟨w.heap.size, 1, none⟩) lw).trans e1⟩, (hb2.cell (p := ⟨b, o + κ, none⟩) lb).trans eκ3, (hb2.cell (p := ⟨b', o' + k, none⟩) lb').trans e4, (hb2.cell (p := ⟨b10, 3, none⟩) hlx).trans a3, (hb2.cell (p := ⟨b10, 4, none⟩) hlx).trans a4⟩
            clear HF
            have HF := Lib.hid hF
            have HRR := Lib.hid hrr
            have e6 : (k : Int) < κ := by omega
            have e7 : (κ : Int) < ms.length := by omega
            have HRE := Lib.hid hrd
            have hst := HST.out
            rw [hS] at hst
            simp only at hst
            have HN := Lib.hid hst.symm
            clear hF hrr HST HDS hrd hst hS hcκ hfk
            go_wp2
            refine wp_normal ?_
            refine wp_region_held_drew (S := fun w' => Below wc.heap.size wc w') (by kernel_rfl) ((Below.refl _ _).drew) (fun hHeld => ?_)
            (refine take_if (i := 0) (oi := _) (v := ?_) (by simp only [List.getElem?_toArray, List.getElem?_cons_zero]; rfl) (by kernel_rfl) (by kernel_rfl) (by kernel_rfl) (fun _ _ _ h => h) (by rfl) ?_ (by assumption) ?_; rotate_left; (focus ((intro w hSw; (try have hSw := HF.out _ hSw); (try dsimp only at hSw); go_simp); try exact rfl)); simp only [Act.put, List.setIfInBounds_toArray, List.set_cons_zero, List.set_cons_succ]; refine take_if (i := 1) (oi := _) (v := ?_) (by simp only [List.getElem?_toArray, List.getElem?_cons_succ, List.getElem?_cons_zero]; rfl) (by kernel_rfl) (by kernel_rfl) (by kernel_rfl) (fun _ _ _ h => h) (by rfl) ?_ (by assumption) ?_; rotate_left; (focus ((intro w hSw; (try have hSw := HF.out _ hSw); (try dsimp only at hSw); go_simp); try exact rfl)); simp only [Act.put, List.setIfInBounds_toArray, List.set_cons_zero, List.set_cons_succ]; refine take_if (i := 2) (oi := _) (v := ?_) (by simp only [List.getElem?_toArray, List.getElem?_cons_succ, List.getElem?_cons_zero]; rfl) (by kernel_rfl) (by kernel_rfl) (by kernel_rfl) (fun _ _ _ h => h) (by rfl) ?_ (by assumption) ?_; rotate_left; (focus ((intro w hSw; (try have hSw := HF.out _ hSw); (try dsimp only at hSw); go_simp); try exact rfl)); simp only [Act.put, List.setIfInBounds_toArray, List.set_cons_zero, List.set_cons_succ]; refine take_if (i := 3) (oi := _) (v := ?_) (by simp only [List.getElem?_toArray, List.getElem?_cons_succ, List.getElem?_cons_zero]; rfl) (by kernel_rfl) (by kernel_rfl) (by kernel_rfl) (fun _ _ _ h => h) (by rfl) ?_ (by assumption) ?_; rotate_left; (focus ((intro w hSw; (try have hSw := HF.out _ hSw); (try dsimp only at hSw); go_simp); try exact rfl)); simp only [Act.put, List.setIfInBounds_toArray, List.set_cons_zero, List.set_cons_succ]; refine take_if (i := 4) (oi := _) (v := ?_) (by simp only [List.getElem?_toArray, List.getElem?_cons_succ, List.getElem?_cons_zero]; rfl) (by kernel_rfl) (by kernel_rfl) (by kernel_rfl) (fun _ _ _ h => h) (by rfl) ?_ (by assumption) ?_; rotate_left; (focus ((intro w hSw; (try have hSw := HF.out _ hSw); (try dsimp only at hSw); go_simp); try exact rfl)); simp only [Act.put, List.setIfInBounds_toArray, List.set_cons_zero, List.set_cons_succ]; refine take_if (i := 5) (oi := _) (v := ?_) (by simp only [List.getElem?_toArray, List.getElem?_cons_succ, List.getElem?_cons_zero]; rfl) (by kernel_rfl) (by kernel_rfl) (by kernel_rfl) (fun _ _ _ h => h) (by rfl) ?_ (by assumption) ?_; rotate_left; (focus ((intro w hSw; (try have hSw := HF.out _ hSw); (try dsimp only at hSw); go_simp); try exact rfl)); simp only [Act.put, List.setIfInBounds_toArray, List.set_cons_zero, List.set_cons_succ]; refine take_if (i := 6) (oi := _) (v := ?_) (by simp only [List.getElem?_toArray, List.getElem?_cons_succ, List.getElem?_cons_zero]; rfl) (by kernel_rfl) (by kernel_rfl) (by kernel_rfl) (fun _ _ _ h => h) (by rfl) ?_ (by assumption) ?_; rotate_left; (focus ((intro w hSw; (try have hSw := HF.out _ hSw); (try dsimp only at hSw); go_simp); try exact rfl)); simp only [Act.put, List.setIfInBounds_toArray, List.set_cons_zero, List.set_cons_succ]; refine take_if (i := 7) (oi := _) (v := ?_) (by simp only [List.getElem?_toArray, List.getElem?_cons_succ, List.getElem?_cons_zero]; rfl) (by kernel_rfl) (by kernel_rfl) (by kernel_rfl) (fun _ _ _ h => h) (by rfl) ?_ (by assumption) ?_; rotate_left; (focus ((intro w hSw; (try have hSw := HF.out _ hSw); (try dsimp only at hSw); go_simp); try exact rfl)); simp only [Act.put, List.setIfInBounds_toArray, List.set_cons_zero, List.set_cons_succ]; refine take_if (i := 8) (oi := _) (v := ?_) (by simp only [List.getElem?_toArray, List.getElem?_cons_succ, List.getElem?_cons_zero]; rfl) (by kernel_rfl) (by kernel_rfl) (by kernel_rfl) (fun _ _ _ h => h) (by rfl) ?_ (by assumption) ?_; rotate_left; (focus ((intro w hSw; (try have hSw := HF.out _ hSw); (try dsimp only at hSw); go_simp); try exact rfl)); simp only [Act.put, List.setIfInBounds_toArray, List.set_cons_zero, List.set_cons_succ]; refine take_if (i := 9) (oi := _) (v := ?_) (by simp only [List.getElem?_toArray, List.getElem?_cons_succ, List.getElem?_cons_zero]; rfl) (by kernel_rfl) (by kernel_rfl) (by kernel_rfl) (fun _ _ _ h => h) (by rfl) ?_ (by assumption) ?_; rotate_left; (focus ((intro w hSw; (try have hSw := HF.out _ hSw); (try dsimp only at hSw); go_simp); try exact rfl)); simp only [Act.put, List.setIfInBounds_toArray, List.set_cons_zero, List.set_cons_succ]; refine take_if (i := 10) (oi := _) (v := ?_) (by simp only [List.getElem?_toArray, List.getElem?_cons_succ, List.getElem?_cons_zero]; rfl) (by kernel_rfl) (by kernel_rfl) (by kernel_rfl) (fun _ _ _ h => h) (by rfl) ?_ (by assumption) ?_; rotate_left; (focus ((intro w hSw; (try have hSw := HF.out _ hSw); (try dsimp only at hSw); go_simp); try exact rfl)); simp only [Act.put, List.setIfInBounds_toArray, List.set_cons_zero, List.set_cons_succ]; refine take_if (i := 11) (oi := _) (v := ?_) (by simp only [List.getElem?_toArray, List.getElem?_cons_succ, List.getElem?_cons_zero]; rfl) (by kernel_rfl) (by kernel_rfl) (by kernel_rfl) (fun _ _ _ h => h) (by rfl) ?_ (by assumption) ?_; rotate_left; (focus ((intro w hSw; (try have hSw := HF.out _ hSw); (try dsimp only at hSw); go_simp); try exact rfl)); simp only [Act.put, List.setIfInBounds_toArray, List.set_cons_zero, List.set_cons_succ]; refine take_if (i := 12) (oi := _) (v := ?_) (by simp only [List.getElem?_toArray, List.getElem?_cons_succ, List.getElem?_cons_zero]; rfl) (by kernel_rfl) (by kernel_rfl) (by kernel_rfl) (fun _ _ _ h => h) (by rfl) ?_ (by assumption) ?_; rotate_left; (focus ((intro w hSw; (try have hSw := HF.out _ hSw); (try dsimp only at hSw); go_simp); try exact rfl)); simp only [Act.put, List.setIfInBounds_toArray, List.set_cons_zero, List.set_cons_succ])
            refine wpAnyH_ready (rs := [13]) (by kernel_rfl) (by simp) ?_; refine (AllReadyH.cons (o := _) (by simp only [List.getElem?_toArray, List.getElem?_cons_succ, List.getElem?_cons_zero]; rfl) (fun K hK => ?_) AllReadyH.nil)
            go_simp
            go_at_call 20
            refine (HRR.out _ hbx.drew).mono ?_
            rintro e w4 ⟨rfl, hb4⟩
            have hb4' : Below wc.heap.size wc w4 := Below.trans ((Below.refl _ _).drew) hb4
            refine hK.out _ _ hb4' (fun hHeld => ?_)
            clear hK K; (try simp only [Act.put, List.setIfInBounds_toArray, List.set_cons_zero, List.set_cons_succ])
            (refine take_if (i := 14) (oi := _) (v := ?_) (by simp only [List.getElem?_toArray, List.getElem?_cons_succ, List.getElem?_cons_zero]; rfl) (by kernel_rfl) (by kernel_rfl) (by kernel_rfl) (fun _ _ _ h => h) (by rfl) ?_ (by assumption) ?_; rotate_left; (focus ((intro w hSw; (try have hSw := HF.out _ hSw); (try dsimp only at hSw); go_simp); try exact rfl)); simp only [Act.put, List.setIfInBounds_toArray, List.set_cons_zero, List.set_cons_succ])
            refine wpAnyH_done (by kernel_rfl) ?_ _
            have hbz : Below w0.heap.size w0 w4 := hbx.trans (hb4'.mono (by omega))
            have hb4s := hb4'.size
            have s8 := q8.ext hb4'
            have s6 := q6.ext hb4'
            have s10 := q10.ext hb4'
            have t0 := s8.cell 0; have t1 := s8.cell 1; have t2 := s8.cell 2; have y0 := s10.cell 0; have y1 := s10.cell 1; have y2 := s10.cell 2; have tf := s8.frozen; have tl := def_lt' s8; have yl := def_lt' s10
            dsimp at t0 t1 t2 y0 y1 y2
            have g := HF.out _ hb4'
            have g0 := g.1.1; have g1 := g.1.2; have g2 := g.2.2.1
            have hrn := HRE.out
            cases o2 <;> cases o3 <;> cases x3
            all_goals
              go_wp2
              go_roundw
              case rel => exact ⟨k + 1, _, by omega, by go_num, HN.out, Below.setCell (Below.setCell (Below.setCell hbz (by simp; omega) _) (by simp; omega) _) (by simp; omega) _, by rw [size_set, size_set, size_set]; omega, ((s6.far (by simp) _).far (by simp) _).far (by simp) _, ((s8.set_ 0 _).set_ 1 _).set_ 2 _, ⟨rfl, rfl⟩⟩
              case measure => simp [intOf]; omega
          · have hst := HST.out
            rw [hS] at hst
            simp only at hst
            have HN := Lib.hid hst.symm
            clear HST HDS hst hS
            cases o2 <;> cases o3 <;> cases x3
            all_goals
              go_wp2
              go_roundw
              case rel => exact ⟨k + 1, _, by omega, by go_num, HN.out, Below.setCell (Below.setCell (Below.setCell hbx (by simp; omega) _) (by simp; omega) _) (by simp; omega) _, by rw [size_set, size_set, size_set]; omega, ((q6.far (by simp) _).far (by simp) _).far (by simp) _, ((q8.set_ 0 _).set_ 1 _).set_ 2 _, ⟨rfl, rfl⟩⟩
              case measure => simp [intOf]; omega
          · have hst := HST.out
            rw [hS] at hst
            simp only at hst
            have HN := Lib.hid hst.symm
            clear HST HDS hst hS
            generalize (f k).getD (-1) = gk at *
            cases o2 <;> cases o3 <;> cases x3
            all_goals
              go_wp2
              go_roundw
              case rel => exact ⟨k + 1, _, by omega, by go_num, HN.out, Below.setCell (Below.setCell (Below.setCell hbx (by simp; omega) _) (by simp; omega) _) (by simp; omega) _, by rw [size_set, size_set, size_set]; omega, ((q6.far (by simp) _).far (by simp) _).far (by simp) _, ((q8.set_ 0 _).set_ 1 _).set_ 2 _, ⟨rfl, rfl⟩⟩
              case measure => simp [intOf]; omega
      · have he : rTell ms f p side = (Pl.zero, 3) := by
          rw [hst]
          unfold rStep
          have hgd : ms.getD k [] = m := by rw [List.getD_eq_getElem?_getD, hm]; rfl
          rw [hgd]
          have ht : tellS m o1 side = (Pl.zero, 3) := by unfold tellS; rw [if_pos hmr, if_neg hp]
          simp [ht]
        have HE := Lib.hid he
        clear hst he hI
        have hp' : o1 < 0 ∨ (0 ≤ o1 ∧ 1099511627776 < o1) := by omega
        rcases hp' with hp' | ⟨hp1, hp2⟩
        all_goals
          go_wp2
          have r6 : Bk _ (w.heap.size + 1) 30 #[.int .i64 0, .bool false, .bool false, .int .i64 0, .int .i64 0] := ((((k6.set_ 0 (.int .i64 0)).set_ 1 (.bool false)).set_ 2 (.bool false)).set_ 3 (.int .i64 0)).set_ 4 (.int .i64 0)
          have b0 := r6.cell 0; have b1 := r6.cell 1; have b2 := r6.cell 2; have b3 := r6.cell 3; have b4 := r6.cell 4
          dsimp at b0 b1 b2 b3 b4
          refine bodyPost_ret (v := .tuple #[(dTell ms f p side).1.val, .bool (dTell ms f p side).2]) ?_ rfl ⟨rfl, hb0.trans (Below.mono (B := w0.heap.size) (by repeat (first | with_reducible exact Below.refl _ _ | with_reducible assumption | (with_reducible refine below_drewN ?_ _) | (with_reducible refine Below.drew ?_) | (with_reducible refine Below.alloc ?_ ?_ _; rotate_left; focus (first | with_reducible assumption | omega | (simp; done) | (simp; omega))) | (with_reducible refine Below.setCell ?_ ?_ _; rotate_left; focus (first | with_reducible assumption | omega | (simp; done) | (simp; omega))))) (by omega))⟩
          unfold dTell
          rw [HE.out]
          simp [results, Try.results36, go_sem, Pl.val, Pl.zero, b0, b1, b2, b3, b4]
    · obtain rfl : k = ms.length := by omega
      have hI2 := hI.out
      rw [rRun_end (Nat.le_refl _)] at hI2
      have HE := Lib.hid hI2
      clear hI hI2
      go_wp2
      have r6 : Bk _ (w.heap.size + 1) 30 #[.int .i64 o1, .bool o2, .bool o3, .int .i64 0, .int .i64 0] := ((((k6.set_ 0 (.int .i64 o1)).set_ 1 (.bool o2)).set_ 2 (.bool o3)).set_ 3 (.int .i64 0)).set_ 4 (.int .i64 0)
      have b0 := r6.cell 0; have b1 := r6.cell 1; have b2 := r6.cell 2; have b3 := r6.cell 3; have b4 := r6.cell 4
      dsimp at b0 b1 b2 b3 b4
      refine bodyPost_ret (v := .tuple #[(dTell ms f p side).1.val, .bool (dTell ms f p side).2]) ?_ rfl ⟨rfl, hb0.trans (Below.mono (B := w0.heap.size) (by repeat (first | with_reducible exact Below.refl _ _ | with_reducible assumption | (with_reducible refine below_drewN ?_ _) | (with_reducible refine Below.drew ?_) | (with_reducible refine Below.alloc ?_ ?_ _; rotate_left; focus (first | with_reducible assumption | omega | (simp; done) | (simp; omega))) | (with_reducible refine Below.setCell ?_ ?_ _; rotate_left; focus (first | with_reducible assumption | omega | (simp; done) | (simp; omega))))) (by omega))⟩
      unfold dTell
      rw [← HE.out]
      simp [results, Try.results36, go_sem, Pl.val, b0, b1, b2, b3, b4]
end Go.Proofs.Ytkkbmcpimglcpaa
