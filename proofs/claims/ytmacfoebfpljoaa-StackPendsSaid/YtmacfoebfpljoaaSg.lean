/- stack: trim, Push -/
import Derived.Test.YtmacfoebfpljoaaSe
namespace Go.Proofs.Ytmacfoebfpljoaa
open Go.RowKit

set_option maxHeartbeats 400000 in
theorem clone_grs (A : Option Addr) (n c : Nat) (L : List GrH) (w : World) (h : Rd w w.heap.size 8 A n (grs L)) (hA : A = none → n = 0) (hn : n ≤ 1000000) :
    Calls Try.prog 45 #[.slice A n c] w (Cloned 36 8 n (grs L) w) := by
  cases A with
  | none =>
    obtain rfl : n = 0 := hA rfl
    clear hA
    have heq := fun w' => Lib.run_eql_slice_nil (P := Try.prog) w' 31 36 none 0 c 0 0 Try.underlying31
    go_enter Try.func45, Try.ntmps45
    go_wp2
    go_ret
    exact cloned_nil _ _ _ _ _ rfl h.1
  | some a =>
    have heq := fun w' => Lib.run_eql_slice_nil (P := Try.prog) w' 31 36 (some a) n c 0 0 Try.underlying31
    go_enter Try.func45, Try.ntmps45
    go_wp2_with (at_builtin; ((with_reducible refine app_rd Try.underlying31 info_group rfl (by decide) _ w.heap.size _ 0 [] (own_empty w _ _ _ (Nat.le_refl _)) _ (some a) n c (grs L) (h.alloc (Nat.le_refl _) _) (by simp) (grs_one L) (by unfold maxLen; omega) (by omega) (by simp) rfl _ _ rfl rfl rfl ?_); intro v' w1 hown hgr hat))
    go_ret
    refine ⟨v', rfl, by simpa using hown, ((Below.refl _ w).alloc (Nat.le_refl _) _).grown hgr (by simp) (by intro k hk; simp [Value.ownBlock] at hk; omega)⟩

theorem grs_drop (L : List GrH) (q : Nat) : (((grs L).drop (q * 8)).take ((L.length - q) * 8)) = grs (L.drop q) := by
  have h : (grs L).drop (q * 8) = grs (L.drop q) := by
    induction q generalizing L with
    | zero => simp
    | succ q ih =>
      cases L with
      | nil => simp [grs]
      | cons g L =>
        have e : grs (g :: L) = g.cells ++ grs L := by simp [grs]
        rw [e, List.drop_succ_cons, ← ih L, List.drop_append, List.drop_eq_nil_of_le (by simp [GrH.cells]; omega), List.nil_append]
        congr 1
        simp [GrH.cells]
        omega
  rw [h, List.take_of_length_le]
  rw [grs_len, List.length_drop]
  omega
/-- how many of the oldest groups go -/
def trimV (d : Int) : List GrC → Nat
  | [] => 0
  | g :: V => if 0 < V.length ∧ (d < V.length + 1 ∨ 2000 < totC (g :: V)) then trimV d V + 1 else 0
theorem trimV_le (d : Int) (V : List GrC) : trimV d V ≤ V.length := by
  induction V with
  | nil => simp [trimV]
  | cons g V ih =>
    unfold trimV
    split
    · simp; omega
    · simp
theorem trimV_go {d : Int} {V : List GrC} (h1 : 1 < V.length) (h2 : d < V.length ∨ 2000 < totC V) : trimV d V = trimV d (V.drop 1) + 1 := by
  cases V with
  | nil => simp at h1
  | cons g V =>
    show trimV d (g :: V) = trimV d V + 1
    rw [trimV, if_pos ⟨by simpa using h1, by simpa using h2⟩]
theorem trimV_stop {d : Int} {V : List GrC} (h : ¬ (1 < V.length ∧ (d < V.length ∨ 2000 < totC V))) : trimV d V = 0 := by
  cases V with
  | nil => rfl
  | cons g V =>
    rw [trimV, if_neg]
    rintro ⟨h1, h2⟩
    exact h ⟨by simpa using h1, by simpa using h2⟩

set_option maxRecDepth 100000 in
set_option maxHeartbeats 8000000 in
theorem trim_any (base bs : Nat) (lv mv : Value) (depth : Int) (L : List GrH) (Ms : List MpH) (w : World) (h : StkAt w base bs lv mv depth L Ms) :
    Calls Try.prog 29 #[.pointer (some ⟨bs, 0, none⟩)] w fun e w' => e = .returned (.int .i64 (trimV depth (L.map GrH.val) : Nat)) ∧ StkOut base bs lv mv depth ((L.map GrH.val).drop (trimV depth (L.map GrH.val))) (Ms.map MpH.l) w w' := by
  obtain ⟨A1, c1, rfl, hnc1, hcm1, hA1, r1⟩ := own_form h.l
  have HS := Lib.hid h
  have hnL := h.nL
  have c0 := h.k.cell 0; have c1' := h.k.cell 1
  dsimp at c0 c1'
  have HR1 := Lib.hid r1
  have HA1 := Lib.hid hA1
  clear h r1 hA1
  go_enter Try.func29, Try.ntmps29
  go_wp2
  go_loopw [3] (fun j wr => ∃ q : Nat, q ≤ L.length ∧ j = .int .i64 q ∧ Hid (trimV depth (L.map GrH.val) = q + trimV depth ((L.map GrH.val).drop q)) ∧ Below w.heap.size w wr) (fun j _ => L.length - (intOf j).toNat)
  case atStart => exact ⟨0, by omega, rfl, Lib.hid (by simp), Below.refl _ _⟩
  case round =>
    obtain ⟨q, hq, rfl, hI, hbr⟩ := hrel
    have k2 := HS.out.k.ext hbr
    have z0 := k2.cell 0; have z1 := k2.cell 1
    dsimp at z0 z1
    have ew : IntKind.i64.wrap ((L.length : Int) - q) = ((L.length - q : Nat) : Int) := by rw [IntWalk.i64_in _ (by omega)]; omega
    have hbz := hbr.size
    go_upto_region 2 with fail
    go_cut [35] (fun u wx => ∃ b : Bool, u = .bool b ∧ Below w.heap.size w wx ∧ Hid (b = true ↔ (1 < L.length - q ∧ (depth < ((L.length - q : Nat) : Int) ∨ 2000 < totC ((L.map GrH.val).drop q)))))
    case first =>
      by_cases h1 : 1 < L.length - q
      · have t1 : (1 : Int) < ((L.length - q : Nat) : Int) := by omega
        by_cases h2 : depth < ((L.length - q : Nat) : Int)
        · go_quiet (fail)
          go_wp2
          go_meet
          exact ⟨true, rfl, below_drewN hbr _, Lib.hid ⟨fun _ => ⟨h1, .inl h2⟩, fun _ => rfl⟩⟩
        · obtain ⟨b1, o1, rfl, hb1, -⟩ := HR1.out.2 (by omega)
          have hr2 := HR1.out.cut (k := q) (m := L.length) hq (Nat.le_refl _)
          have hgs := grs_drop L q
          rw [hgs] at hr2
          have hst := fun W (hb : Below w.heap.size w W) => calls_on hb (steps_any (some ⟨b1, o1 + q * 8, none⟩) (L.length - q) (c1 - q) (L.drop q) W ⟨(hr2.below hb).more hb.size, fun g hg => ((HS.out.g g (List.mem_of_mem_drop hg)).in_.ext hb)⟩ (by omega) (fun g hg => HS.out.bd.n HS.out.g g (List.mem_of_mem_drop hg)))
          rw [List.map_drop] at hst
          have HST := Lib.hid hst
          have hF : ∀ W, Below w.heap.size w W → W.cell? ⟨bs, 0, none⟩ = some (.int .i64 depth) ∧ W.cell? ⟨bs, 1, none⟩ = some (.slice (some ⟨b1, o1, none⟩) L.length c1) := fun W hb => ⟨(HS.out.k.ext hb).cell 0, (HS.out.k.ext hb).cell 1⟩
          have HF := Lib.hid hF
          have hcq : ¬ c1 = q := by omega
          clear hst hF hr2 hgs
          refine wp_normal ?_
          refine wp_region_held_drew (S := fun w' => Below w.heap.size w w') (by kernel_rfl) hbr.drew (fun hHeld => ?_)
          (refine take_if (i := 0) (oi := _) (v := ?_) (by simp only [List.getElem?_toArray, List.getElem?_cons_zero]; rfl) (by kernel_rfl) (by kernel_rfl) (by kernel_rfl) (fun _ _ _ h => h) (by rfl) ?_ (by assumption) ?_; rotate_left; (focus ((intro w hSw; (try have hSw := HF.out _ hSw); (try dsimp only at hSw); go_simp); try exact rfl)); simp only [Act.put, List.setIfInBounds_toArray, List.set_cons_zero, List.set_cons_succ]; refine take_if (i := 1) (oi := _) (v := ?_) (by simp only [List.getElem?_toArray, List.getElem?_cons_succ, List.getElem?_cons_zero]; rfl) (by kernel_rfl) (by kernel_rfl) (by kernel_rfl) (fun _ _ _ h => h) (by rfl) ?_ (by assumption) ?_; rotate_left; (focus ((intro w hSw; (try have hSw := HF.out _ hSw); (try dsimp only at hSw); go_simp); try exact rfl)); simp only [Act.put, List.setIfInBounds_toArray, List.set_cons_zero, List.set_cons_succ]; refine take_if (i := 2) (oi := _) (v := ?_) (by simp only [List.getElem?_toArray, List.getElem?_cons_succ, List.getElem?_cons_zero]; rfl) (by kernel_rfl) (by kernel_rfl) (by kernel_rfl) (fun _ _ _ h => h) (by rfl) ?_ (by assumption) ?_; rotate_left; (focus ((intro w hSw; (try have hSw := HF.out _ hSw); (try dsimp only at hSw); go_simp); try exact rfl)); simp only [Act.put, List.setIfInBounds_toArray, List.set_cons_zero, List.set_cons_succ]; refine take_if (i := 3) (oi := _) (v := ?_) (by simp only [List.getElem?_toArray, List.getElem?_cons_succ, List.getElem?_cons_zero]; rfl) (by kernel_rfl) (by kernel_rfl) (by kernel_rfl) (fun _ _ _ h => h) (by rfl) ?_ (by assumption) ?_; rotate_left; (focus ((intro w hSw; (try have hSw := HF.out _ hSw); (try dsimp only at hSw); go_simp); try exact rfl)); simp only [Act.put, List.setIfInBounds_toArray, List.set_cons_zero, List.set_cons_succ]; refine take_if (i := 4) (oi := _) (v := ?_) (by simp only [List.getElem?_toArray, List.getElem?_cons_succ, List.getElem?_cons_zero]; rfl) (by kernel_rfl) (by kernel_rfl) (by kernel_rfl) (fun _ _ _ h => h) (by rfl) ?_ (by assumption) ?_; rotate_left; (focus ((intro w hSw; (try have hSw := HF.out _ hSw); (try dsimp only at hSw); go_simp); try exact rfl)); simp only [Act.put, List.setIfInBounds_toArray, List.set_cons_zero, List.set_cons_succ]; refine take_if (i := 5) (oi := _) (v := ?_) (by simp only [List.getElem?_toArray, List.getElem?_cons_succ, List.getElem?_cons_zero]; rfl) (by kernel_rfl) (by kernel_rfl) (by kernel_rfl) (fun _ _ _ h => h) (by rfl) ?_ (by assumption) ?_; rotate_left; (focus ((intro w hSw; (try have hSw := HF.out _ hSw); (try dsimp only at hSw); go_simp); try exact rfl)); simp only [Act.put, List.setIfInBounds_toArray, List.set_cons_zero, List.set_cons_succ]; refine take_if (i := 6) (oi := _) (v := ?_) (by simp only [List.getElem?_toArray, List.getElem?_cons_succ, List.getElem?_cons_zero]; rfl) (by kernel_rfl) (by kernel_rfl) (by kernel_rfl) (fun _ _ _ h => h) (by rfl) ?_ (by assumption) ?_; rotate_left; (focus ((intro w hSw; (try have hSw := HF.out _ hSw); (try dsimp only at hSw); go_simp); try exact rfl)); simp only [Act.put, List.setIfInBounds_toArray, List.set_cons_zero, List.set_cons_succ]; refine take_if (i := 7) (oi := _) (v := ?_) (by simp only [List.getElem?_toArray, List.getElem?_cons_succ, List.getElem?_cons_zero]; rfl) (by kernel_rfl) (by kernel_rfl) (by kernel_rfl) (fun _ _ _ h => h) (by rfl) ?_ (by assumption) ?_; rotate_left; (focus ((intro w hSw; (try have hSw := HF.out _ hSw); (try dsimp only at hSw); go_simp); try exact rfl)); simp only [Act.put, List.setIfInBounds_toArray, List.set_cons_zero, List.set_cons_succ]; refine take_if (i := 8) (oi := _) (v := ?_) (by simp only [List.getElem?_toArray, List.getElem?_cons_succ, List.getElem?_cons_zero]; rfl) (by kernel_rfl) (by kernel_rfl) (by kernel_rfl) (fun _ _ _ h => h) (by rfl) ?_ (by assumption) ?_; rotate_left; (focus ((intro w hSw; (try have hSw := HF.out _ hSw); (try dsimp only at hSw); go_simp); try exact rfl)); simp only [Act.put, List.setIfInBounds_toArray, List.set_cons_zero, List.set_cons_succ]; refine take_if (i := 9) (oi := _) (v := ?_) (by simp only [List.getElem?_toArray, List.getElem?_cons_succ, List.getElem?_cons_zero]; rfl) (by kernel_rfl) (by kernel_rfl) (by kernel_rfl) (fun _ _ _ h => h) (by rfl) ?_ (by assumption) ?_; rotate_left; (focus ((intro w hSw; (try have hSw := HF.out _ hSw); (try dsimp only at hSw); go_simp); try exact rfl)); simp only [Act.put, List.setIfInBounds_toArray, List.set_cons_zero, List.set_cons_succ]; refine take_if (i := 10) (oi := _) (v := ?_) (by simp only [List.getElem?_toArray, List.getElem?_cons_succ, List.getElem?_cons_zero]; rfl) (by kernel_rfl) (by kernel_rfl) (by kernel_rfl) (fun _ _ _ h => h) (by rfl) ?_ (by assumption) ?_; rotate_left; (focus ((intro w hSw; (try have hSw := HF.out _ hSw); (try dsimp only at hSw); go_simp); try exact rfl)); simp only [Act.put, List.setIfInBounds_toArray, List.set_cons_zero, List.set_cons_succ]; refine take_if (i := 11) (oi := _) (v := ?_) (by simp only [List.getElem?_toArray, List.getElem?_cons_succ, List.getElem?_cons_zero]; rfl) (by kernel_rfl) (by kernel_rfl) (by kernel_rfl) (fun _ _ _ h => h) (by rfl) ?_ (by assumption) ?_; rotate_left; (focus ((intro w hSw; (try have hSw := HF.out _ hSw); (try dsimp only at hSw); go_simp); try exact rfl)); simp only [Act.put, List.setIfInBounds_toArray, List.set_cons_zero, List.set_cons_succ]; refine take_if (i := 12) (oi := _) (v := ?_) (by simp only [List.getElem?_toArray, List.getElem?_cons_succ, List.getElem?_cons_zero]; rfl) (by kernel_rfl) (by kernel_rfl) (by kernel_rfl) (fun _ _ _ h => h) (by rfl) ?_ (by assumption) ?_; rotate_left; (focus ((intro w hSw; (try have hSw := HF.out _ hSw); (try dsimp only at hSw); go_simp); try exact rfl)); simp only [Act.put, List.setIfInBounds_toArray, List.set_cons_zero, List.set_cons_succ]; refine take_if (i := 13) (oi := _) (v := ?_) (by simp only [List.getElem?_toArray, List.getElem?_cons_succ, List.getElem?_cons_zero]; rfl) (by kernel_rfl) (by kernel_rfl) (by kernel_rfl) (fun _ _ _ h => h) (by rfl) ?_ (by assumption) ?_; rotate_left; (focus ((intro w hSw; (try have hSw := HF.out _ hSw); (try dsimp only at hSw); go_simp); try exact rfl)); simp only [Act.put, List.setIfInBounds_toArray, List.set_cons_zero, List.set_cons_succ]; refine take_if (i := 14) (oi := _) (v := ?_) (by simp only [List.getElem?_toArray, List.getElem?_cons_succ, List.getElem?_cons_zero]; rfl) (by kernel_rfl) (by kernel_rfl) (by kernel_rfl) (fun _ _ _ h => h) (by rfl) ?_ (by assumption) ?_; rotate_left; (focus ((intro w hSw; (try have hSw := HF.out _ hSw); (try dsimp only at hSw); go_simp); try exact rfl)); simp only [Act.put, List.setIfInBounds_toArray, List.set_cons_zero, List.set_cons_succ]; refine take_if (i := 15) (oi := _) (v := ?_) (by simp only [List.getElem?_toArray, List.getElem?_cons_succ, List.getElem?_cons_zero]; rfl) (by kernel_rfl) (by kernel_rfl) (by kernel_rfl) (fun _ _ _ h => h) (by rfl) ?_ (by assumption) ?_; rotate_left; (focus ((intro w hSw; (try have hSw := HF.out _ hSw); (try dsimp only at hSw); go_simp); try exact rfl)); simp only [Act.put, List.setIfInBounds_toArray, List.set_cons_zero, List.set_cons_succ]; refine take_if (i := 16) (oi := _) (v := ?_) (by simp only [List.getElem?_toArray, List.getElem?_cons_succ, List.getElem?_cons_zero]; rfl) (by kernel_rfl) (by kernel_rfl) (by kernel_rfl) (fun _ _ _ h => h) (by rfl) ?_ (by assumption) ?_; rotate_left; (focus ((intro w hSw; (try have hSw := HF.out _ hSw); (try dsimp only at hSw); go_simp); try exact rfl)); simp only [Act.put, List.setIfInBounds_toArray, List.set_cons_zero, List.set_cons_succ]; refine take_if (i := 17) (oi := _) (v := ?_) (by simp only [List.getElem?_toArray, List.getElem?_cons_succ, List.getElem?_cons_zero]; rfl) (by kernel_rfl) (by kernel_rfl) (by kernel_rfl) (fun _ _ _ h => h) (by rfl) ?_ (by assumption) ?_; rotate_left; (focus ((intro w hSw; (try have hSw := HF.out _ hSw); (try dsimp only at hSw); go_simp); try exact rfl)); simp only [Act.put, List.setIfInBounds_toArray, List.set_cons_zero, List.set_cons_succ]; refine take_if (i := 18) (oi := _) (v := ?_) (by simp only [List.getElem?_toArray, List.getElem?_cons_succ, List.getElem?_cons_zero]; rfl) (by kernel_rfl) (by kernel_rfl) (by kernel_rfl) (fun _ _ _ h => h) (by rfl) ?_ (by assumption) ?_; rotate_left; (focus ((intro w hSw; (try have hSw := HF.out _ hSw); (try dsimp only at hSw); go_simp); try exact rfl)); simp only [Act.put, List.setIfInBounds_toArray, List.set_cons_zero, List.set_cons_succ]; refine take_if (i := 19) (oi := _) (v := ?_) (by simp only [List.getElem?_toArray, List.getElem?_cons_succ, List.getElem?_cons_zero]; rfl) (by kernel_rfl) (by kernel_rfl) (by kernel_rfl) (fun _ _ _ h => h) (by rfl) ?_ (by assumption) ?_; rotate_left; (focus ((intro w hSw; (try have hSw := HF.out _ hSw); (try dsimp only at hSw); go_simp); try exact rfl)); simp only [Act.put, List.setIfInBounds_toArray, List.set_cons_zero, List.set_cons_succ]; refine take_if (i := 20) (oi := _) (v := ?_) (by simp only [List.getElem?_toArray, List.getElem?_cons_succ, List.getElem?_cons_zero]; rfl) (by kernel_rfl) (by kernel_rfl) (by kernel_rfl) (fun _ _ _ h => h) (by rfl) ?_ (by assumption) ?_; rotate_left; (focus ((intro w hSw; (try have hSw := HF.out _ hSw); (try dsimp only at hSw); go_simp); try exact rfl)); simp only [Act.put, List.setIfInBounds_toArray, List.set_cons_zero, List.set_cons_succ]; refine take_if (i := 21) (oi := _) (v := ?_) (by simp only [List.getElem?_toArray, List.getElem?_cons_succ, List.getElem?_cons_zero]; rfl) (by kernel_rfl) (by kernel_rfl) (by kernel_rfl) (fun _ _ _ h => h) (by rfl) ?_ (by assumption) ?_; rotate_left; (focus ((intro w hSw; (try have hSw := HF.out _ hSw); (try dsimp only at hSw); go_simp); try exact rfl)); simp only [Act.put, List.setIfInBounds_toArray, List.set_cons_zero, List.set_cons_succ]; refine take_if (i := 22) (oi := _) (v := ?_) (by simp only [List.getElem?_toArray, List.getElem?_cons_succ, List.getElem?_cons_zero]; rfl) (by kernel_rfl) (by kernel_rfl) (by kernel_rfl) (fun _ _ _ h => h) (by rfl) ?_ (by assumption) ?_; rotate_left; (focus ((intro w hSw; (try have hSw := HF.out _ hSw); (try dsimp only at hSw); go_simp); try exact rfl)); simp only [Act.put, List.setIfInBounds_toArray, List.set_cons_zero, List.set_cons_succ]; refine take_if (i := 23) (oi := _) (v := ?_) (by simp only [List.getElem?_toArray, List.getElem?_cons_succ, List.getElem?_cons_zero]; rfl) (by kernel_rfl) (by kernel_rfl) (by kernel_rfl) (fun _ _ _ h => h) (by rfl) ?_ (by assumption) ?_; rotate_left; (focus ((intro w hSw; (try have hSw := HF.out _ hSw); (try dsimp only at hSw); go_simp); try exact rfl)); simp only [Act.put, List.setIfInBounds_toArray, List.set_cons_zero, List.set_cons_succ]; refine take_if (i := 24) (oi := _) (v := ?_) (by simp only [List.getElem?_toArray, List.getElem?_cons_succ, List.getElem?_cons_zero]; rfl) (by kernel_rfl) (by kernel_rfl) (by kernel_rfl) (fun _ _ _ h => h) (by rfl) ?_ (by assumption) ?_; rotate_left; (focus ((intro w hSw; (try have hSw := HF.out _ hSw); (try dsimp only at hSw); go_simp); try exact rfl)); simp only [Act.put, List.setIfInBounds_toArray, List.set_cons_zero, List.set_cons_succ]; refine take_if (i := 25) (oi := _) (v := ?_) (by simp only [List.getElem?_toArray, List.getElem?_cons_succ, List.getElem?_cons_zero]; rfl) (by kernel_rfl) (by kernel_rfl) (by kernel_rfl) (fun _ _ _ h => h) (by rfl) ?_ (by assumption) ?_; rotate_left; (focus ((intro w hSw; (try have hSw := HF.out _ hSw); (try dsimp only at hSw); go_simp); try exact rfl)); simp only [Act.put, List.setIfInBounds_toArray, List.set_cons_zero, List.set_cons_succ]; refine take_if (i := 26) (oi := _) (v := ?_) (by simp only [List.getElem?_toArray, List.getElem?_cons_succ, List.getElem?_cons_zero]; rfl) (by kernel_rfl) (by kernel_rfl) (by kernel_rfl) (fun _ _ _ h => h) (by rfl) ?_ (by assumption) ?_; rotate_left; (focus ((intro w hSw; (try have hSw := HF.out _ hSw); (try dsimp only at hSw); go_simp); try exact rfl)); simp only [Act.put, List.setIfInBounds_toArray, List.set_cons_zero, List.set_cons_succ]; refine take_if (i := 27) (oi := _) (v := ?_) (by simp only [List.getElem?_toArray, List.getElem?_cons_succ, List.getElem?_cons_zero]; rfl) (by kernel_rfl) (by kernel_rfl) (by kernel_rfl) (fun _ _ _ h => h) (by rfl) ?_ (by assumption) ?_; rotate_left; (focus ((intro w hSw; (try have hSw := HF.out _ hSw); (try dsimp only at hSw); go_simp); try exact rfl)); simp only [Act.put, List.setIfInBounds_toArray, List.set_cons_zero, List.set_cons_succ])
          refine wpAnyH_ready (rs := [28]) (by kernel_rfl) (by simp) ?_; refine (AllReadyH.cons (o := _) (by simp only [List.getElem?_toArray, List.getElem?_cons_succ, List.getElem?_cons_zero]; rfl) (fun K hK => ?_) AllReadyH.nil)
          go_simp
          go_at_call 44
          refine (HST.out _ hbr.drew).mono ?_
          rintro e w3 ⟨rfl, hb3, hz3, hx3⟩
          refine hK.out _ _ hb3 (fun hHeld => ?_)
          clear hK K; (try simp only [Act.put, List.setIfInBounds_toArray, List.set_cons_zero, List.set_cons_succ])
          (refine take_if (i := 29) (oi := _) (v := ?_) (by simp only [List.getElem?_toArray, List.getElem?_cons_succ, List.getElem?_cons_zero]; rfl) (by kernel_rfl) (by kernel_rfl) (by kernel_rfl) (fun _ _ _ h => h) (by rfl) ?_ (by assumption) ?_; rotate_left; (focus ((intro w hSw; (try have hSw := HF.out _ hSw); (try dsimp only at hSw); go_simp); try exact rfl)); simp only [Act.put, List.setIfInBounds_toArray, List.set_cons_zero, List.set_cons_succ]; refine take_if (i := 30) (oi := _) (v := ?_) (by simp only [List.getElem?_toArray, List.getElem?_cons_succ, List.getElem?_cons_zero]; rfl) (by kernel_rfl) (by kernel_rfl) (by kernel_rfl) (fun _ _ _ h => h) (by rfl) ?_ (by assumption) ?_; rotate_left; (focus ((intro w hSw; (try have hSw := HF.out _ hSw); (try dsimp only at hSw); go_simp); try exact rfl)); simp only [Act.put, List.setIfInBounds_toArray, List.set_cons_zero, List.set_cons_succ]; refine take_if (i := 31) (oi := _) (v := ?_) (by simp only [List.getElem?_toArray, List.getElem?_cons_succ, List.getElem?_cons_zero]; rfl) (by kernel_rfl) (by kernel_rfl) (by kernel_rfl) (fun _ _ _ h => h) (by rfl) ?_ (by assumption) ?_; rotate_left; (focus ((intro w hSw; (try have hSw := HF.out _ hSw); (try dsimp only at hSw); go_simp); try exact rfl)); simp only [Act.put, List.setIfInBounds_toArray, List.set_cons_zero, List.set_cons_succ])
          refine wpAnyH_done (by kernel_rfl) ?_ _
          go_wp2
          go_meet
          refine ⟨_, rfl, hb3, Lib.hid ?_⟩
          rw [decide_eq_true_eq]
          constructor
          · intro h; exact ⟨h1, .inr (by omega)⟩
          · rintro ⟨_, h | h⟩
            · omega
            · omega
      · have t1 : ¬ (1 : Int) < ((L.length - q : Nat) : Int) := by omega
        go_quiet (fail)
        go_wp2
        go_meet
        exact ⟨false, rfl, below_drewN hbr _, Lib.hid ⟨fun h => (by cases h), fun h => absurd h.1 h1⟩⟩
    case rest =>
      obtain ⟨b, rfl, hb, hiff⟩ := hcut
      rename World => w3
      have k3 := HS.out.k.ext hb
      have x0 := k3.cell 0; have x1 := k3.cell 1; have x2 := k3.cell 2; have xf := k3.frozen; have xl := def_lt' k3
      dsimp at x0 x1 x2
      cases b with
      | true =>
        obtain ⟨h1, h2⟩ := hiff.out.1 rfl
        go_wp2
        go_roundw
        case rel =>
          refine ⟨q + 1, by omega, by go_num, Lib.hid ?_, hb⟩
          have hg := trimV_go (d := depth) (V := (L.map GrH.val).drop q) (by simpa using h1) (by simpa using h2)
          rw [hI.out, hg, List.drop_drop]
          omega
        case measure => simp [intOf]; omega
      | false =>
        have hst : trimV depth (L.map GrH.val) = q := by
          rw [hI.out, trimV_stop]
          · omega
          · intro h
            have := hiff.out.2 (by simpa using h)
            cases this
        have hfin : ∀ (A' : Option Addr) (c' : Nat), Rd w w.heap.size 8 A' (L.length - q) (grs (L.drop q)) → (A' = none → L.length - q = 0) →
            Calls Try.prog 45 #[.slice A' (L.length - q) c'] w3 (Cloned 36 8 (L.length - q) (grs (L.drop q)) w3) := fun A' c' hr hA => clone_grs A' (L.length - q) c' (L.drop q) w3 ((hr.below hb).more hb.size) hA (by omega)
        have HFIN := Lib.hid hfin
        have HST := Lib.hid hst
        have hr2 := HR1.out
        have hbs : base ≤ w.heap.size := Nat.le_of_lt (Nat.lt_of_le_of_lt HS.out.le (def_lt' HS.out.k))
        clear hfin hst hiff hI z0 z1 k2 hbr hbz ew
        rcases HS.out.l.2 with ⟨e0, -⟩ | ⟨g, cap, cur, e0, -⟩
        · injection e0 with e1 e2 e3
          subst e1 e3
          obtain rfl : q = 0 := by omega
          have hcl := HFIN.out none 0 (by rw [List.drop_zero]; have := hr2; rwa [Nat.sub_zero]) (fun _ => by omega)
          have HCL := Lib.hid hcl
          clear hcl hr2
          have x1' : w3.cell? ⟨bs, 1, none⟩ = some (.slice none 0 0) := by rw [x1, e2]
          clear x1
          rw [show L.length - 0 = 0 by omega] at HCL
          go_wp2_with (go_at_call 45; fail)
          refine HCL.out.mono ?_
          rintro e w4 ⟨v4, rfl, o4, hb4⟩
          obtain ⟨A4, c4, rfl, -, -, -, -⟩ := own_form o4
          clear HCL
          have k4 := k3.ext hb4
          have y0 := k4.cell 0; have y1 := k4.cell 1; have y2 := k4.cell 2; have yf := k4.frozen; have yl := def_lt' k4
          dsimp at y0 y1 y2
          go_wp2
          have gr4 : w4.grownBy (w4.setCell ⟨bs, 1, none⟩ (.slice A4 0 c4)) (some bs) := gr_set (p := ⟨bs, 1, none⟩) (World.grownBy.refl _ _) (.inl rfl) _
          have hb04 : Below w.heap.size w w4 := hb.trans (hb4.mono hb.size)
          have hz3 := hb.size
          have hz4 := hb4.size
          go_ret
          refine ⟨by rw [HST.out]; rfl, .slice A4 0 c4, mv, L.drop 0, Ms, ⟨k4.set_ 1 _, HS.out.le, ?_, ?_, ?_, ?_, ?_, HS.out.nM, ?_⟩, ?_, rfl, ?_, ?_, ?_⟩
          · have h1 := own_base o4 (Nat.le_trans hbs hz3)
            rw [List.length_drop, Nat.sub_zero, e2]
            exact own_grow h1 gr4 (fun g e => by injection e with e; subst e; exact own_ne h1 k4 (by decide))
          · intro x hx
            exact ((HS.out.g x (List.mem_of_mem_drop hx)).below hb04).grown k4 gr4 (by decide) (by decide) (by decide)
          · have h1 := own_below HS.out.m hb04
            exact own_grow h1 gr4 (fun g e => by injection e with e; subst e; exact own_ne h1 k4 (by decide))
          · intro x hx
            have h1 := own_below (HS.out.ms x hx).1 hb04
            exact ⟨own_grow h1 gr4 (fun g e => by injection e with e; subst e; exact own_ne h1 k4 (by decide)), (HS.out.ms x hx).2⟩
          · rw [List.length_drop]; omega
          · intro x hx
            rw [List.map_drop] at hx
            exact HS.out.bd x (List.mem_of_mem_drop hx)
          · rw [List.map_drop, HST.out]
          · exact (Stir.of_below hb04).fresh (Stir.of_gr gr4 (X := fun i => i = bs) (fun i e => by injection e with e; exact e.symm)) (fun i hi => .inl (.inl hi))
          · intro i hi
            have := own_ge o4 i hi
            exact .inr (by omega)
          · exact fun i hi => .inl hi
        · injection e0 with e1 e2 e3
          subst e1 e3
          by_cases hcq : c1 = q
          · have hLq : L.length = q := by omega
            have hcl := HFIN.out (some ⟨g, 0, none⟩) 0 (by
              rw [hLq, Nat.sub_self, ← hLq, List.drop_length]
              exact Rd.nil_ _ _ _ _) (fun h => by cases h)
            have HCL := Lib.hid hcl
            have hqc : q ≤ c1 := by omega
            have hcc : c1 - q = 0 := by omega
            clear hcl hr2 hLq
            go_wp2_with (go_at_call 45; fail)
            refine HCL.out.mono ?_
            rintro e w4 ⟨v4, rfl, o4, hb4⟩
            obtain ⟨A4, c4, rfl, -, -, -, -⟩ := own_form o4
            clear HCL
            have k4 := k3.ext hb4
            have y0 := k4.cell 0; have y1 := k4.cell 1; have y2 := k4.cell 2; have yf := k4.frozen; have yl := def_lt' k4
            dsimp at y0 y1 y2
            go_wp2
            have gr4 : w4.grownBy (w4.setCell ⟨bs, 1, none⟩ (.slice A4 (L.length - q) c4)) (some bs) := gr_set (p := ⟨bs, 1, none⟩) (World.grownBy.refl _ _) (.inl rfl) _
            have hb04 : Below w.heap.size w w4 := hb.trans (hb4.mono hb.size)
            have hz3 := hb.size
            have hz4 := hb4.size
            go_ret
            refine ⟨by rw [HST.out]; rfl, .slice A4 (L.length - q) c4, mv, L.drop q, Ms, ⟨k4.set_ 1 _, HS.out.le, ?_, ?_, ?_, ?_, ?_, HS.out.nM, ?_⟩, ?_, rfl, ?_, ?_, ?_⟩
            · have h1 := own_base o4 (Nat.le_trans hbs hz3)
              rw [List.length_drop]
              exact own_grow h1 gr4 (fun g e => by injection e with e; subst e; exact own_ne h1 k4 (by decide))
            · intro x hx
              exact ((HS.out.g x (List.mem_of_mem_drop hx)).below hb04).grown k4 gr4 (by decide) (by decide) (by decide)
            · have h1 := own_below HS.out.m hb04
              exact own_grow h1 gr4 (fun g e => by injection e with e; subst e; exact own_ne h1 k4 (by decide))
            · intro x hx
              have h1 := own_below (HS.out.ms x hx).1 hb04
              exact ⟨own_grow h1 gr4 (fun g e => by injection e with e; subst e; exact own_ne h1 k4 (by decide)), (HS.out.ms x hx).2⟩
            · rw [List.length_drop]; omega
            · intro x hx
              rw [List.map_drop] at hx
              exact HS.out.bd x (List.mem_of_mem_drop hx)
            · rw [List.map_drop, HST.out]
            · exact (Stir.of_below hb04).fresh (Stir.of_gr gr4 (X := fun i => i = bs) (fun i e => by injection e with e; exact e.symm)) (fun i hi => .inl (.inl hi))
            · intro i hi
              have := own_ge o4 i hi
              exact .inr (by omega)
            · exact fun i hi => .inl hi
          · have hcut := hr2.cut (k := q) (m := L.length) hq (Nat.le_refl _)
            rw [grs_drop] at hcut
            rw [Nat.zero_add] at hcut
            have hcl := HFIN.out _ (c1 - q) hcut (fun h => by cases h)
            have HCL := Lib.hid hcl
            have hqc : q ≤ c1 := by omega
            clear hcut hcl hr2
            go_wp2_with (go_at_call 45; fail)
            refine HCL.out.mono ?_
            rintro e w4 ⟨v4, rfl, o4, hb4⟩
            obtain ⟨A4, c4, rfl, -, -, -, -⟩ := own_form o4
            clear HCL
            have k4 := k3.ext hb4
            have y0 := k4.cell 0; have y1 := k4.cell 1; have y2 := k4.cell 2; have yf := k4.frozen; have yl := def_lt' k4
            dsimp at y0 y1 y2
            go_wp2
            have gr4 : w4.grownBy (w4.setCell ⟨bs, 1, none⟩ (.slice A4 (L.length - q) c4)) (some bs) := gr_set (p := ⟨bs, 1, none⟩) (World.grownBy.refl _ _) (.inl rfl) _
            have hb04 : Below w.heap.size w w4 := hb.trans (hb4.mono hb.size)
            have hz3 := hb.size
            have hz4 := hb4.size
            go_ret
            refine ⟨by rw [HST.out]; rfl, .slice A4 (L.length - q) c4, mv, L.drop q, Ms, ⟨k4.set_ 1 _, HS.out.le, ?_, ?_, ?_, ?_, ?_, HS.out.nM, ?_⟩, ?_, rfl, ?_, ?_, ?_⟩
            · have h1 := own_base o4 (Nat.le_trans hbs hz3)
              rw [List.length_drop]
              exact own_grow h1 gr4 (fun g e => by injection e with e; subst e; exact own_ne h1 k4 (by decide))
            · intro x hx
              exact ((HS.out.g x (List.mem_of_mem_drop hx)).below hb04).grown k4 gr4 (by decide) (by decide) (by decide)
            · have h1 := own_below HS.out.m hb04
              exact own_grow h1 gr4 (fun g e => by injection e with e; subst e; exact own_ne h1 k4 (by decide))
            · intro x hx
              have h1 := own_below (HS.out.ms x hx).1 hb04
              exact ⟨own_grow h1 gr4 (fun g e => by injection e with e; subst e; exact own_ne h1 k4 (by decide)), (HS.out.ms x hx).2⟩
            · rw [List.length_drop]; omega
            · intro x hx
              rw [List.map_drop] at hx
              exact HS.out.bd x (List.mem_of_mem_drop hx)
            · rw [List.map_drop, HST.out]
            · exact (Stir.of_below hb04).fresh (Stir.of_gr gr4 (X := fun i => i = bs) (fun i e => by injection e with e; exact e.symm)) (fun i hi => .inl (.inl hi))
            · intro i hi
              have := own_ge o4 i hi
              exact .inr (by omega)
            · exact fun i hi => .inl hi
end Go.Proofs.Ytmacfoebfpljoaa

/- stack: Push -/
namespace Go.Proofs.Ytmacfoebfpljoaa
open Go.RowKit

section
variable {P : Program}
/-- append of a slice that reads as a list onto an owned row: at a step of a region that draws -/
theorem app_rd_step {ops : Array Oper} {o : Oper} {a : Act} {K : Act → World → Prop} {Q : Exit → Act → World → Prop} {E : Prop} {t e : TypeId} {z : Value} {size bytes : Nat}
    (ht : P.underlying t = some (.slice e)) (hinfo : (P.info? e).map (fun i => (i.zero, i.size, i.bytes)) = some (some z, size, bytes)) (hzs : z.cells.size = size) (hsz : 0 < size)
    {w : World} (base : Nat) (v : Value) (n : Nat) (xs : List Value) (hown : w.ownsRow base e size v n xs)
    (B : Nat) (A : Option Addr) (m c : Nat) (news : List Value) (hr : Rd w B size A m news) (hA : A = none → m = 0) (h1 : ∀ u ∈ news, u.oneCell' = true)
    (hn : n + m ≤ maxLen) (hby : (n + m) * bytes ≤ 140737488355328) (hb : base ≤ w.heap.size)
    (hgd : o.guard = none) (s x : Operand) (ho : o.op = .call { callee := .builtin .append, args := #[s, x], argTypes := #[t, t] })
    (hs : a.eval s = v) (hx : a.eval x = .slice A m c)
    (h : ∀ v' w', w'.ownsRow base e size v' (n + m) (xs ++ news) → w.grownBy w' v.ownBlock → (v'.ownBlock = v.ownBlock ∨ v'.ownBlock = some w.heap.size) → K (a.put o.dst v') w') :
    if Region.wanted o (yielded ops a.tmps) = true then Oper.wp P o a w K Q else E := by
  have hw : Region.wanted o (yielded ops a.tmps) = true := by simp [Region.wanted, hgd]
  rw [if_pos hw]
  obtain ⟨i0, hi, hz0, hz1, hz2⟩ := info_parts hinfo
  rcases A with _ | ad
  · obtain rfl := hA rfl
    have hnews : news = [] := List.eq_nil_of_length_eq_zero (by simpa using hr.1)
    subst hnews
    unfold Oper.wp execOp
    simp only [ho, resolve, invoke, builtin, Sem.run_bind, Sem.run_pure, Result.andThen_ok, List.map_toArray, List.map_cons, List.map_nil, hs, hx, run_append_of_nil w base t o.type e i0 size ht hi v n xs hown c]
    exact h v w (by simpa using hown) (World.grownBy.refl w _) (.inl rfl)
  · have hnews : ∀ j u, news[j]? = some u → w.cell? (ad.add j) = some u := by
      intro j u hu
      rcases Nat.eq_zero_or_pos m with h0 | h0
      · subst h0
        have hnews : news = [] := List.eq_nil_of_length_eq_zero (by simpa using hr.1)
        subst hnews
        simp at hu
      · obtain ⟨b, o', e', _, hc⟩ := hr.2 h0
        injection e' with e'
        subst e'
        rw [add_flat]
        exact hc j u hu
    obtain ⟨v', w', hrun, h2, h3, _, h5⟩ := run_append_own_at (P := P) w base t o.type e i0 z size bytes ht hi hz0 hz1 hz2 hzs hsz v n xs hown ad m c news hr.1 hnews h1 hn hby hb
    unfold Oper.wp execOp
    simp only [ho, resolve, invoke, builtin, Sem.run_bind, Sem.run_pure, Result.andThen_ok, List.map_toArray, List.map_cons, List.map_nil, hs, hx, hrun]
    exact h v' w' h2 h3 h5
end

/-- a group alone, in a slice made for it -/
theorem one_in {w : World} {b : Nat} {g : GrH} (hk : Bk w b 36 g.cells.toArray) (hg : g.In w w.heap.size) : GrsIn w w.heap.size (some ⟨b, 0, none⟩) 1 [g] :=
  ⟨Rd.of_bk hk (by simp [grs]) rfl (def_lt' hk), fun x hx => by simp at hx; subst hx; exact hg⟩

set_option maxRecDepth 100000 in
set_option maxHeartbeats 8000000 in
theorem push_any (base bs : Nat) (lv mv : Value) (depth : Int) (L : List GrH) (Ms : List MpH) (g : GrH) (w : World) (h : StkAt w base bs lv mv depth L Ms) (hg : ∀ w', Stir (fun i => i = bs ∨ lv.ownBlock = some i ∨ mv.ownBlock = some i) w w' → g.In w' w'.heap.size) (hgn : g.n ≤ 1000) (hgl : -9223372036854775808 ≤ g.lost ∧ g.lost ≤ 9223372036854775807) (hL : L.length ≤ 299) :
    Calls Try.prog 14 #[.pointer (some ⟨bs, 0, none⟩), encG g] w fun e w' => e = .returned (.int .i64 (trimV depth (foldV (Ms.map MpH.l) (L.map GrH.val) ++ [g.val]) : Nat)) ∧ StkOut base bs lv mv depth ((foldV (Ms.map MpH.l) (L.map GrH.val) ++ [g.val]).drop (trimV depth (foldV (Ms.map MpH.l) (L.map GrH.val) ++ [g.val]))) [] w w' := by
  have hlt := def_lt' h.k
  have hbz : base ≤ w.heap.size := Nat.le_of_lt (Nat.lt_of_le_of_lt h.le hlt)
  have hb1 : Below w.heap.size w (w.alloc (.cells #[.slice g.A g.n g.c, .int .i64 g.pin.k, .int .i64 g.pin.a, .int .i64 g.pin.b, .int .i64 g.back.k, .int .i64 g.back.a, .int .i64 g.back.b, .int .i64 g.lost] 36)) := by repeat (first | with_reducible exact Below.refl _ _ | with_reducible assumption | (with_reducible refine below_drewN ?_ _) | (with_reducible refine Below.drew ?_) | (with_reducible refine Below.alloc ?_ ?_ _; rotate_left; focus (first | with_reducible assumption | omega | (simp; done) | (simp; omega))) | (with_reducible refine Below.setCell ?_ ?_ _; rotate_left; focus (first | with_reducible assumption | omega | (simp; done) | (simp; omega))))
  have kg := Bk.new w 36 #[.slice g.A g.n g.c, .int .i64 g.pin.k, .int .i64 g.pin.a, .int .i64 g.pin.b, .int .i64 g.back.k, .int .i64 g.back.a, .int .i64 g.back.b, .int .i64 g.lost]
  have h1 := h.below hb1
  have hfo := fold_any base bs lv mv depth L Ms _ h1
  have HFO := Lib.hid hfo
  have HG := Lib.hid hg
  have hll := own_lt h.l
  have hml := own_lt h.m
  have HV := Lib.hid (foldV_len (Ms.map MpH.l) (L.map GrH.val))
  have HBD := Lib.hid (h.bd.foldV (Ms.map MpH.l))
  have hmL : (L.map GrH.val).length = L.length := List.length_map _
  clear h hfo hg
  go_enter Try.func14, Try.ntmps14
  go_wp2_with (go_at_call 28; fail)
  have hto1 := hlt
  generalize w.alloc (.cells #[.slice g.A g.n g.c, .int .i64 g.pin.k, .int .i64 g.pin.a, .int .i64 g.pin.b, .int .i64 g.back.k, .int .i64 g.back.a, .int .i64 g.back.b, .int .i64 g.lost] 36) = w1 at *
  refine HFO.out.mono ?_
  rintro e w2 ⟨⟨v, rfl⟩, lv1, mv1, L1, Ms1, hs2, hV1, hM1, hto⟩
  obtain rfl : Ms1 = [] := by simpa using hM1
  have hL1 : L1.length ≤ 299 := by
    have := congrArg List.length hV1
    rw [List.length_map, HV.out, hmL] at this
    omega
  have hnX : ¬ (w.heap.size = bs ∨ lv.ownBlock = some w.heap.size ∨ mv.ownBlock = some w.heap.size) := by
    rintro (h | h | h)
    · omega
    · have := hll _ h; omega
    · have := hml _ h; omega
  have kg2 : Bk w2 w.heap.size 36 #[.slice g.A g.n g.c, .int .i64 g.pin.k, .int .i64 g.pin.a, .int .i64 g.pin.b, .int .i64 g.back.k, .int .i64 g.back.a, .int .i64 g.back.b, .int .i64 g.lost] := (hto.1.block _ (def_lt' kg) hnX).trans kg
  have hst2 : Stir (fun i => i = bs ∨ lv.ownBlock = some i ∨ mv.ownBlock = some i) w w2 := (Stir.of_below hb1).trans hto.1
  have hto2 : StkTo bs lv mv lv1 mv1 w w2 := ⟨hst2, fun i hi => by
    rcases hto.2.1 i hi with h | h
    · exact .inl h
    · exact .inr (Nat.le_trans hb1.size h), fun i hi => by
    rcases hto.2.2 i hi with h | h
    · exact .inl h
    · exact .inr (Nat.le_trans hb1.size h)⟩
  have hlv1 : lv1.ownBlock ≠ some w.heap.size := fun e => by
    rcases hto.2.1 _ e with h | h
    · have := hll _ h; omega
    · have := def_lt' kg; omega
  have hgin := HG.out w2 hst2
  have HGI := Lib.hid hgin
  have k2 := hs2.k
  have hbz2 : base ≤ w2.heap.size := Nat.le_trans hbz hst2.size
  have hne : bs ≠ w.heap.size := by omega
  have hF : ∀ W, (Bk W bs 75 #[.int .i64 depth, lv1, mv1] ∧ Bk W w.heap.size 36 #[.slice g.A g.n g.c, .int .i64 g.pin.k, .int .i64 g.pin.a, .int .i64 g.pin.b, .int .i64 g.back.k, .int .i64 g.back.a, .int .i64 g.back.b, .int .i64 g.lost]) → W.cell? ⟨bs, 1, none⟩ = some lv1 ∧ W.cell? ⟨w.heap.size, 0, none⟩ = some (.slice g.A g.n g.c) ∧ W.cell? ⟨w.heap.size, 1, none⟩ = some (.int .i64 g.pin.k) ∧ W.cell? ⟨w.heap.size, 2, none⟩ = some (.int .i64 g.pin.a) ∧ W.cell? ⟨w.heap.size, 3, none⟩ = some (.int .i64 g.pin.b) ∧ W.cell? ⟨w.heap.size, 4, none⟩ = some (.int .i64 g.back.k) ∧ W.cell? ⟨w.heap.size, 5, none⟩ = some (.int .i64 g.back.a) ∧ W.cell? ⟨w.heap.size, 6, none⟩ = some (.int .i64 g.back.b) ∧ W.cell? ⟨w.heap.size, 7, none⟩ = some (.int .i64 g.lost) := fun W h => ⟨h.1.cell 1, h.2.cell 0, h.2.cell 1, h.2.cell 2, h.2.cell 3, h.2.cell 4, h.2.cell 5, h.2.cell 6, h.2.cell 7⟩
  have HF := Lib.hid hF
  have HS2 := Lib.hid hs2
  have HTO := Lib.hid hto2
  clear hF hgin hto hto2 hst2 hs2 HFO h1 kg hM1 hnX
  go_upto_region 4 with fail
  refine wp_normal ?_
  refine region_L (S := fun W => Bk W bs 75 #[.int .i64 depth, lv1, mv1] ∧ Bk W w.heap.size 36 #[.slice g.A g.n g.c, .int .i64 g.pin.k, .int .i64 g.pin.a, .int .i64 g.pin.b, .int .i64 g.back.k, .int .i64 g.back.a, .int .i64 g.back.b, .int .i64 g.lost]) [11] (by kernel_rfl) ⟨k2.drew, kg2.drew⟩ (fun hHeld => ?_)
  (refine takeL_if (i := 0) (oi := _) (v := ?_) (by simp only [List.getElem?_toArray, List.getElem?_cons_zero]; rfl) (by kernel_rfl) (by kernel_rfl) (by kernel_rfl) (fun _ _ _ h => h) (by rfl) ?_ (by assumption) ?_; rotate_left; (focus ((intro w hSw; (try have hSw := HF.out _ hSw); (try dsimp only at hSw); go_simp); try exact rfl)); simp only [Act.put, List.setIfInBounds_toArray, List.set_cons_zero, List.set_cons_succ]; refine takeL_if (i := 1) (oi := _) (v := ?_) (by simp only [List.getElem?_toArray, List.getElem?_cons_succ, List.getElem?_cons_zero]; rfl) (by kernel_rfl) (by kernel_rfl) (by kernel_rfl) (fun _ _ _ h => h) (by rfl) ?_ (by assumption) ?_; rotate_left; (focus ((intro w hSw; (try have hSw := HF.out _ hSw); (try dsimp only at hSw); go_simp); try exact rfl)); simp only [Act.put, List.setIfInBounds_toArray, List.set_cons_zero, List.set_cons_succ]; refine takeL_if (i := 2) (oi := _) (v := ?_) (by simp only [List.getElem?_toArray, List.getElem?_cons_succ, List.getElem?_cons_zero]; rfl) (by kernel_rfl) (by kernel_rfl) (by kernel_rfl) (fun _ _ _ h => h) (by rfl) ?_ (by assumption) ?_; rotate_left; (focus ((intro w hSw; (try have hSw := HF.out _ hSw); (try dsimp only at hSw); go_simp); try exact rfl)); simp only [Act.put, List.setIfInBounds_toArray, List.set_cons_zero, List.set_cons_succ]; refine takeL_if (i := 3) (oi := _) (v := ?_) (by simp only [List.getElem?_toArray, List.getElem?_cons_succ, List.getElem?_cons_zero]; rfl) (by kernel_rfl) (by kernel_rfl) (by kernel_rfl) (fun _ _ _ h => h) (by rfl) ?_ (by assumption) ?_; rotate_left; (focus ((intro w hSw; (try have hSw := HF.out _ hSw); (try dsimp only at hSw); go_simp); try exact rfl)); simp only [Act.put, List.setIfInBounds_toArray, List.set_cons_zero, List.set_cons_succ]; refine takeL_if (i := 4) (oi := _) (v := ?_) (by simp only [List.getElem?_toArray, List.getElem?_cons_succ, List.getElem?_cons_zero]; rfl) (by kernel_rfl) (by kernel_rfl) (by kernel_rfl) (fun _ _ _ h => h) (by rfl) ?_ (by assumption) ?_; rotate_left; (focus ((intro w hSw; (try have hSw := HF.out _ hSw); (try dsimp only at hSw); go_simp); try exact rfl)); simp only [Act.put, List.setIfInBounds_toArray, List.set_cons_zero, List.set_cons_succ]; refine takeL_if (i := 5) (oi := _) (v := ?_) (by simp only [List.getElem?_toArray, List.getElem?_cons_succ, List.getElem?_cons_zero]; rfl) (by kernel_rfl) (by kernel_rfl) (by kernel_rfl) (fun _ _ _ h => h) (by rfl) ?_ (by assumption) ?_; rotate_left; (focus ((intro w hSw; (try have hSw := HF.out _ hSw); (try dsimp only at hSw); go_simp); try exact rfl)); simp only [Act.put, List.setIfInBounds_toArray, List.set_cons_zero, List.set_cons_succ])
  have hbA : Below w2.heap.size w2 (w2.alloc (.cells #[.slice g.A g.n g.c, .int .i64 g.pin.k, .int .i64 g.pin.a, .int .i64 g.pin.b, .int .i64 g.back.k, .int .i64 g.back.a, .int .i64 g.back.b, .int .i64 g.lost] 36)).drew := by repeat (first | with_reducible exact Below.refl _ _ | with_reducible assumption | (with_reducible refine below_drewN ?_ _) | (with_reducible refine Below.drew ?_) | (with_reducible refine Below.alloc ?_ ?_ _; rotate_left; focus (first | with_reducible assumption | omega | (simp; done) | (simp; omega))) | (with_reducible refine Below.setCell ?_ ?_ _; rotate_left; focus (first | with_reducible assumption | omega | (simp; done) | (simp; omega))))
  have kA : Bk (w2.alloc (.cells #[.slice g.A g.n g.c, .int .i64 g.pin.k, .int .i64 g.pin.a, .int .i64 g.pin.b, .int .i64 g.back.k, .int .i64 g.back.a, .int .i64 g.back.b, .int .i64 g.lost] 36)).drew w2.heap.size 36 g.cells.toArray := Bk.drew (Bk.new w2 _ _)
  refine anyL_ready (rs := [6]) (by kernel_rfl) (by simp) ?_; refine (ReadyL.cons (o := _) (by simp only [List.getElem?_toArray, List.getElem?_cons_succ, List.getElem?_cons_zero]; rfl) (fun K hK => ?_) ReadyL.nil)
  go_simp
  refine hK.out _ _ ⟨k2.drew.alloc _, kg2.drew.alloc _⟩ (fun hHeld => ?_)
  clear hK K; (try simp only [Act.put, List.setIfInBounds_toArray, List.set_cons_zero, List.set_cons_succ])
  refine anyL_ready (rs := [7]) (by kernel_rfl) (by simp) ?_; refine (ReadyL.cons (o := _) (by simp only [List.getElem?_toArray, List.getElem?_cons_succ, List.getElem?_cons_zero]; rfl) (fun K hK => ?_) ReadyL.nil)
  go_simp
  go_at_call 21
  generalize (w2.alloc (.cells #[.slice g.A g.n g.c, .int .i64 g.pin.k, .int .i64 g.pin.a, .int .i64 g.pin.b, .int .i64 g.back.k, .int .i64 g.back.a, .int .i64 g.back.b, .int .i64 g.lost] 36)).drew = w3 at *
  have hz3 := hbA.size
  refine (copy_any (some ⟨w2.heap.size, 0, none⟩) 1 1 [g] w3 (one_in kA (HGI.out.ext hbA)) (by omega) (fun x hx => by simp at hx; subst hx; exact hgn)).mono ?_
  intro e w4 ho4
  obtain ⟨A4, n4, c4, L4, rfl, hl4, o4, -, hO4, hV4, hb4⟩ := grs_out ho4
  obtain ⟨g4, rfl, hg4⟩ := map_one hV4
  obtain rfl : n4 = 1 := hl4.symm
  have hb24 : Below w2.heap.size w2 w4 := hbA.trans (hb4.mono hz3)
  have k4 := k2.ext hb24
  have hown4 := own_below HS2.out.l hb24
  obtain ⟨_, _, e4, -, -, hA4, hrd4⟩ := own_form o4
  injection e4 with e5 e6 e7
  subst e5 e7
  refine hK.out _ _ ⟨k4, kg2.ext hb24⟩ (fun hHeld => ?_)
  clear hK K; (try simp only [Act.put, List.setIfInBounds_toArray, List.set_cons_zero, List.set_cons_succ])
  refine anyL_ready (rs := [8]) (by kernel_rfl) (by simp) ?_; refine (ReadyL.cons (o := _) (by simp only [List.getElem?_toArray, List.getElem?_cons_succ, List.getElem?_cons_zero]; rfl) (fun K hK => ?_) ReadyL.nil)
  refine app_rd_step Try.underlying31 info_group rfl (by decide) base lv1 L1.length _ hown4 w4.heap.size A4 1 c4 (grs [g4]) hrd4 (fun h => (hA4 h).1) (grs_one _) (by unfold maxLen; omega) (by omega) (Nat.le_trans hbz2 hb24.size) rfl (.tmp 13) (.tmp 16) rfl rfl rfl ?_
  intro v5 w5 hown5 hgr5 hat5
  obtain ⟨A5, c5, rfl, -, -, -, -⟩ := own_form hown5
  have k5 := k4.grown hgr5 (own_ne hown4 k4 (by decide))
  have kg5 := (kg2.ext hb24).grown hgr5 hlv1
  refine hK.out _ _ ⟨k5, kg5⟩ (fun hHeld => ?_)
  clear hK K; (try simp only [Act.put, List.setIfInBounds_toArray, List.set_cons_zero, List.set_cons_succ])
  (refine takeL_if (i := 9) (oi := _) (v := ?_) (by simp only [List.getElem?_toArray, List.getElem?_cons_succ, List.getElem?_cons_zero]; rfl) (by kernel_rfl) (by kernel_rfl) (by kernel_rfl) (fun _ _ _ h => h) (by rfl) ?_ (by assumption) ?_; rotate_left; (focus ((intro w hSw; (try have hSw := HF.out _ hSw); (try dsimp only at hSw); go_simp); try exact rfl)); simp only [Act.put, List.setIfInBounds_toArray, List.set_cons_zero, List.set_cons_succ]; refine takeL_if (i := 10) (oi := _) (v := ?_) (by simp only [List.getElem?_toArray, List.getElem?_cons_succ, List.getElem?_cons_zero]; rfl) (by kernel_rfl) (by kernel_rfl) (by kernel_rfl) (fun _ _ _ h => h) (by rfl) ?_ (by assumption) ?_; rotate_left; (focus ((intro w hSw; (try have hSw := HF.out _ hSw); (try dsimp only at hSw); go_simp); try exact rfl)); simp only [Act.put, List.setIfInBounds_toArray, List.set_cons_zero, List.set_cons_succ])
  have x0 := k5.cell 0; have x1 := k5.cell 1; have x2 := k5.cell 2; have xf := k5.frozen; have xl := def_lt' k5
  dsimp at x0 x1 x2
  refine anyL_late (i := 11) (o := _) (by kernel_rfl) (by kernel_rfl) (by simp only [List.getElem?_toArray, List.getElem?_cons_succ, List.getElem?_cons_zero]; rfl) (fun K hK => ?_)
  go_simp
  refine hK.out _ _ ?_
  clear hK K; (try simp only [Act.put, List.setIfInBounds_toArray, List.set_cons_zero, List.set_cons_succ])
  refine anyL_done (by kernel_rfl) ?_
  have gr6 : w5.grownBy (w5.setCell ⟨bs, 1, none⟩ (.slice A5 (L1.length + 1) c5)) (some bs) := gr_set (p := ⟨bs, 1, none⟩) (World.grownBy.refl _ _) (.inl rfl) _
  have k6 : Bk (w5.setCell ⟨bs, 1, none⟩ (.slice A5 (L1.length + 1) c5)) bs 75 #[.int .i64 depth, .slice A5 (L1.length + 1) c5, mv1] := k5.set_ 1 _
  generalize w5.setCell ⟨bs, 1, none⟩ (.slice A5 (L1.length + 1) c5) = w6 at *
  have hbz4 : base ≤ w4.heap.size := Nat.le_trans hbz2 hb24.size
  have hs6 : StkAt w6 base bs (.slice A5 (L1.length + 1) c5) mv1 depth (L1 ++ [g4]) [] := by
    refine ⟨k6, HS2.out.le, ?_, ?_, ?_, fun m hm => (by cases hm), ?_, (by simp), ?_⟩
    · rw [grs_append, List.length_append]
      exact own_grow hown5 gr6 (fun g e => by injection e with e; subst e; exact own_ne hown5 k5 (by decide))
    · intro x hx
      refine GrH.Own.grown (w := w5) ?_ k5 gr6 (by decide) (by decide) (by decide)
      refine GrH.Own.grow (w := w4) ?_ hown4 hgr5 (by decide) (by decide) (by decide)
      rcases List.mem_append.1 hx with hx | hx
      · exact (HS2.out.g x hx).below hb24
      · simp at hx
        subst hx
        exact (hO4 x (by simp)).base_ (Nat.le_trans hbz2 hz3)
    · have h1 := own_below HS2.out.m hb24
      have h2 := own_grow h1 hgr5 (own_type h1 hown4 (by decide))
      exact own_grow h2 gr6 (fun g e => by injection e with e; subst e; exact own_ne h2 k5 (by decide))
    · rw [List.length_append]; simp; omega
    · intro x hx
      rw [List.map_append] at hx
      rcases List.mem_append.1 hx with hx | hx
      · exact HS2.out.bd x hx
      · simp at hx
        subst hx
        rw [hg4]
        have hgl4 : g.L.length = g.n := HGI.out.sts.len
        exact ⟨by simp [GrH.val]; omega, hgl⟩
  have hto6 : StkTo bs lv1 mv1 (.slice A5 (L1.length + 1) c5) mv1 w2 w6 := by
    refine ⟨((Stir.of_below hb24).trans ((Stir.of_gr hgr5 (fun i e => .inr (.inl e))))).trans (Stir.of_gr gr6 (fun i e => by injection e with e; exact .inl e.symm)), fun i hi => ?_, fun i hi => .inl hi⟩
    rcases hat5 with e | e
    · rw [e] at hi; exact .inl hi
    · rw [e] at hi
      injection hi with hi
      have := hb24.size
      exact .inr (by omega)
  have htr := trim_any base bs _ mv1 depth _ [] w6 hs6
  rw [List.map_append, hV1, List.map_cons, List.map_nil, hg4] at htr
  have HTR := Lib.hid htr
  clear htr hs6 hown5 hown4 hgr5 x0 x1 x2
  go_wp2_with (go_at_call 29; fail)
  refine HTR.out.mono ?_
  rintro e w7 ⟨rfl, lv7, mv7, L7, Ms7, s7, V7, M7, t7⟩
  go_wp2
  go_ret
  exact ⟨rfl, lv7, mv7, L7, Ms7, s7, V7, M7, (HTO.out.trans hto6).trans t7⟩
end Go.Proofs.Ytmacfoebfpljoaa
