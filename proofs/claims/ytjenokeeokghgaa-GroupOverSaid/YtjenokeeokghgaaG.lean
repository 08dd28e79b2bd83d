/- smap: the document's Tell -/
import Derived.Test.YtjenokeeokghgaaF
import Derived.Deep.RegionLaw
namespace Go.Proofs.Ytjenokeeokghgaa
open Go.RowKit

theorem rightB_iff {r : Rg} {p side : Int} : rightB r p side = true ↔ ((0 < r.old ∧ p = r.at_ + r.old) ∨ (¬ (0 < r.old ∧ p = r.at_) ∧ ¬ (0 < r.old ∧ p = r.at_ + r.old) ∧ 0 ≤ side)) := by
  unfold rightB; split <;> simp <;> omega
theorem goneB_iff {r : Rg} {p side : Int} : goneB r p side = true ↔ ((side < 0 ∧ r.at_ < p) ∨ (0 ≤ side ∧ p < r.at_ + r.old)) := by
  unfold goneB; split <;> simp <;> omega
theorem wv {a o n i s p side : Int} (R G I : Bool) (hR : rightB ⟨a, o, n⟩ p side = R) (hG : goneB ⟨a, o, n⟩ p side = G) (hI : decide (a < p ∧ p < a + o) = I) :
    withinS ⟨a, o, n⟩ i s p side = ⟨a + s + (if R then n else 0), G, I, if G then i else 0, if G then p - a else 0⟩ := by subst hR hG hI; rfl
theorem Bk.at_ {W : World} {b : Nat} (t : TypeId) (cs : Array Value) (h : W.heap.size = b) : Bk (W.alloc (.cells cs t)) b t cs := by subst h; exact Bk.new W t cs

set_option maxRecDepth 100000 in
set_option maxHeartbeats 20000000 in
theorem rtell_any (A : Option Addr) (n c : Nat) (l : List Rg) (p side : Int) (w : World) (hrd : Rd w w.heap.size 3 A n (rgs l)) (hr : rightM l = true) (hp0 : 0 ≤ p) (hp1 : p ≤ 1099511627776) :
    Calls Try.prog 42 #[.slice A n c, .int .i64 p, .int .i64 side] w fun e w' => e = .returned (tellM l p side).val ∧ Below w.heap.size w w' := by
  have hl := hrd.rlen
  have hn2 : n ≤ 1000 := by have := right_len hr; omega
  have hsh := fun (m : Nat) (hm : m ≤ n) W (hb : Below w.heap.size w W) => rshift_any A n c m l W ((hrd.below hb).more hb.size) hr hm
  have HSH := Lib.hid hsh
  have HR := Lib.hid hr
  have HL := Lib.hid hl
  clear hsh hr hl
  have hv : ∀ x y z u v, Pl.mk x y z u v = tellM l p side → Value.agg #[.int .i64 x, .bool y, .bool z, .int .i64 u, .int .i64 v] = (tellM l p side).val := fun x y z u v h => by rw [← h]; rfl
  have HV := Lib.hid hv
  clear hv
  go_enter Try.func42, Try.ntmps42
  go_wp2
  go_loopw [7] (fun i wr => ∃ k : Nat, k ≤ n ∧ i = .int .i64 k ∧ Hid (tellFrom p side k (shiftL (l.take k)) (l.drop k) = tellM l p side) ∧ ∃ q, wr = (w.alloc (.cells #[.int .i64 0, .bool false, .bool false, .int .i64 0, .int .i64 0] 79)).drewN q) (fun i _ => n - (intOf i).toNat)
  case atStart => exact ⟨0, by omega, rfl, rfl, 0, rfl⟩
  case round =>
    obtain ⟨k, hk, rfl, hI, q, rfl⟩ := hrel
    by_cases hkn : k < n
    · obtain ⟨b, o, rfl, hbB, _⟩ := hrd.2 (by omega)
      obtain ⟨r, hx⟩ : ∃ r, l[k]? = some r := ⟨_, List.getElem?_eq_getElem (by have := HL.out; omega)⟩
      obtain ⟨hc0, hc1, hc2, hb⟩ := hrd.rg hx
      have hfit := right_fits HR.out r (List.mem_of_getElem? hx)
      have hsb := shift_take_bd HR.out k
      have hsn := shiftL_snoc hx
      have hdr := drop_cons hx
      have hI' := hI.out
      rw [hdr] at hI'
      have HI := Lib.hid hI'
      have HS := Lib.hid hsn
      clear hx hsn hdr hI hI'
      obtain ⟨f1, f2, f3, f4, f5, f6⟩ := hfit
      have e1 : IntKind.i64.wrap (r.at_ + r.old) = r.at_ + r.old := IntWalk.i64_in _ (by omega)
      have e3 : (k : Int) < n := by omega
      by_cases h1 : r.at_ + r.old < p
      · have HN := Lib.hid ((tellFrom_step h1).symm.trans HI.out)
        clear HI
        go_wp2
        go_quiet (fail)
        go_wp2
        go_roundw
        case rel => exact ⟨k + 1, by omega, by go_num, Lib.hid (by rw [HS.out]; exact HN.out), q + _, rfl⟩
        case measure => simp [intOf]; omega
      · have e4 : ((k : Int) == n) = false := by simp; omega
        by_cases h2 : r.at_ ≤ p
        · have HN := Lib.hid ((tellFrom_in h1 h2).symm.trans HI.out)
          obtain ⟨a, o1, nn⟩ := r
          simp only at f1 f2 f3 f4 f5 f6 h1 h2 hc0 hc1 hc2 e1
          generalize hs : shiftL (l.take k) = s at *
          have e5 : IntKind.i64.wrap (p + s) = p + s := IntWalk.i64_in _ (by omega)
          have e6 : IntKind.i64.wrap (a + s) = a + s := IntWalk.i64_in _ (by omega)
          have e7 : IntKind.i64.wrap (a + s + nn) = a + s + nn := IntWalk.i64_in _ (by omega)
          have e8 : IntKind.i64.wrap (p - a) = p - a := IntWalk.i64_in _ (by omega)
          have e9 : IntKind.i64.wrap (p - 1) = p - 1 := IntWalk.i64_in _ (by omega)
          have hc : (o1 = 0 ∧ p = a ∧ (p == a) = true ∧ (p == a + o1) = true) ∨ (0 < o1 ∧ p = a ∧ (p == a) = true ∧ (p == a + o1) = false) ∨ (0 < o1 ∧ p = a + o1 ∧ (p == a) = false ∧ (p == a + o1) = true) ∨ (0 < o1 ∧ a < p ∧ p < a + o1 ∧ (p == a) = false ∧ (p == a + o1) = false) := by
            simp only [beq_iff_eq, beq_eq_false_iff_ne]; omega
          have hd : side < 0 ∨ 0 ≤ side := by omega
          clear HI HS hsb
          go_wp2
          go_quiet (fail)
          go_wp2_with (go_at_call 46; refine (HSH.out k (by omega) _ (by repeat (first | with_reducible exact Below.refl _ _ | with_reducible assumption | (with_reducible refine below_drewN ?_ _) | (with_reducible refine Below.drew ?_) | (with_reducible refine Below.alloc ?_ ?_ _; rotate_left; focus (first | with_reducible assumption | omega | (simp; done) | (simp; omega))) | (with_reducible refine Below.setCell ?_ ?_ _; rotate_left; focus (first | with_reducible assumption | omega | (simp; done) | (simp; omega)))))).mono ?_; rw [hs]; rintro e w1 ⟨rfl, q1, rfl⟩)
          go_cut [67] (fun v wx => v = .int .i64 (a + s) ∧ Below w.heap.size w wx ∧ Bk wx w.heap.size 79 #[.int .i64 0, .bool false, .bool false, .int .i64 0, .int .i64 0] ∧ Bk wx (w.heap.size + 1) 79 #[.int .i64 (a + s), .bool false, .bool false, .int .i64 0, .int .i64 0] ∧ Bk wx (w.heap.size + 1 + 1) 51 #[.int .i64 a, .int .i64 o1, .int .i64 nn])
          case first =>
            go_region_law (go_simp; go_at_call 46; refine (HSH.out k (by omega) _ (by repeat (first | with_reducible exact Below.refl _ _ | with_reducible assumption | (with_reducible refine below_drewN ?_ _) | (with_reducible refine Below.drew ?_) | (with_reducible refine Below.alloc ?_ ?_ _; rotate_left; focus (first | with_reducible assumption | omega | (simp; done) | (simp; omega))) | (with_reducible refine Below.setCell ?_ ?_ _; rotate_left; focus (first | with_reducible assumption | omega | (simp; done) | (simp; omega)))))).mono ?_; rw [hs]; rintro e w1 ⟨rfl, q2, rfl⟩)
            all_goals
              go_wp2_with fail
              go_meet
              refine ⟨rfl, ?_, ((((((Bk.new w _ _).drewN _).alloc _).alloc _).drewN _).far (by simp) _), (((Bk.at_ _ _ (by simp)).alloc _).drewN _).set_ 0 _, ((Bk.at_ _ _ (by simp)).drewN _).far (by simp) _⟩
              repeat (first | with_reducible exact Below.refl _ _ | with_reducible assumption | (with_reducible refine below_drewN ?_ _) | (with_reducible refine Below.drew ?_) | (with_reducible refine Below.alloc ?_ ?_ _; rotate_left; focus (first | with_reducible assumption | omega | (simp; done) | (simp; omega))) | (with_reducible refine Below.setCell ?_ ?_ _; rotate_left; focus (first | with_reducible assumption | omega | (simp; done) | (simp; omega))))
          case rest =>
          obtain ⟨rfl, hb1, r6, r8, r9⟩ := hcut
          have c60 := r6.cell 0; have c61 := r6.cell 1; have c62 := r6.cell 2; have c63 := r6.cell 3; have c64 := r6.cell 4; have f6 := r6.frozen
          have c80 := r8.cell 0; have c81 := r8.cell 1; have c82 := r8.cell 2; have c83 := r8.cell 3; have c84 := r8.cell 4; have f8 := r8.frozen
          have c90 := r9.cell 0; have c91 := r9.cell 1; have c92 := r9.cell 2
          dsimp at c60 c61 c62 c63 c64 c80 c81 c82 c83 c84 c90 c91 c92
          have z2 := def_lt' r9
          rcases hc with ⟨c1, c2, t1, t2⟩ | ⟨c1, c2, t1, t2⟩ | ⟨c1, c2, t1, t2⟩ | ⟨c1, c2, c3, t1, t2⟩ <;> rcases hd with hd | hd
          all_goals
            have C2 := Lib.hid c2
            have C1 := Lib.hid c1
            first | (have c0 : o1 ≤ 0 := (by omega); have ho : (o1 == 0) = true := beq_iff_eq.2 (by omega)) | (have c0 : 0 < o1 := (by omega); have ho : (o1 == 0) = false := beq_eq_false_iff_ne.2 (by omega))
            clear c1
          all_goals
            first | (have hR : rightB ⟨a, o1, nn⟩ p side = true := rightB_iff.2 (by simp only; omega)) | (have hR : rightB ⟨a, o1, nn⟩ p side = false := Bool.eq_false_iff.2 (fun h => by have := rightB_iff.1 h; simp only at this; omega))
            first | (have hG : goneB ⟨a, o1, nn⟩ p side = true := goneB_iff.2 (by simp only; omega)) | (have hG : goneB ⟨a, o1, nn⟩ p side = false := Bool.eq_false_iff.2 (fun h => by have := goneB_iff.1 h; simp only at this; omega))
            first | (have hJ : decide (a < p ∧ p < a + o1) = true := decide_eq_true (by omega)) | (have hJ : decide (a < p ∧ p < a + o1) = false := decide_eq_false (by omega))
            have HV2 := (wv (i := k) (s := s) _ _ _ hR hG hJ).symm.trans HN.out
            clear hR hG hJ
          all_goals first
            | (have hx : p ≤ a := by omega
               first | (have hy : a + o1 ≤ p := by omega) | (have hy : p < a + o1 := by omega)
               have hz : p - 1 < a := by omega
               clear c2
               go_wp2)
            | (have hx : a < p := by omega
               have hy : p < a + o1 := by omega
               have hz : a ≤ p - 1 := by omega
               have hz2 : p - 1 < a + o1 := by omega
               clear c2
               go_wp2)
            | (have hx : a < p := by omega
               have hy : a + o1 ≤ p := by omega
               have hz : a ≤ p - 1 := by omega
               have hz2 : p - 1 < a + o1 := by omega
               clear c2
               go_wp2)
          all_goals
            have d2 := C2.out
            first | subst d2 | skip
            refine bodyPost_ret ?_ rfl ⟨rfl, ?_⟩
            · simp [results, Try.results42, go_sem, c60, c61, c62, c63, c64]
              exact HV.out _ _ _ _ _ (by rw [← HV2]; simp <;> omega)
            · repeat (first | with_reducible exact Below.refl _ _ | with_reducible assumption | (with_reducible refine below_drewN ?_ _) | (with_reducible refine Below.drew ?_) | (with_reducible refine Below.alloc ?_ ?_ _; rotate_left; focus (first | with_reducible assumption | omega | (simp; done) | (simp; omega))) | (with_reducible refine Below.setCell ?_ ?_ _; rotate_left; focus (first | with_reducible assumption | omega | (simp; done) | (simp; omega))))
        · have HN := Lib.hid ((tellFrom_out h1 h2).symm.trans HI.out)
          have e5 : IntKind.i64.wrap (p + shiftL (l.take k)) = p + shiftL (l.take k) := IntWalk.i64_in _ (by omega)
          clear HI
          go_wp2
          go_quiet (fail)
          go_wp2_with (go_at_call 46; refine (HSH.out k (by omega) _ (by repeat (first | with_reducible exact Below.refl _ _ | with_reducible assumption | (with_reducible refine below_drewN ?_ _) | (with_reducible refine Below.drew ?_) | (with_reducible refine Below.alloc ?_ ?_ _; rotate_left; focus (first | with_reducible assumption | omega | (simp; done) | (simp; omega))) | (with_reducible refine Below.setCell ?_ ?_ _; rotate_left; focus (first | with_reducible assumption | omega | (simp; done) | (simp; omega)))))).mono ?_; rintro e w1 ⟨rfl, q1, rfl⟩)
          refine bodyPost_ret (v := (tellM l p side).val) ?_ rfl ⟨rfl, ?_⟩
          · rw [← HN.out]
            simp [results, Try.results42, go_sem, Pl.val]
          · repeat (first | with_reducible exact Below.refl _ _ | with_reducible assumption | (with_reducible refine below_drewN ?_ _) | (with_reducible refine Below.drew ?_) | (with_reducible refine Below.alloc ?_ ?_ _; rotate_left; focus (first | with_reducible assumption | omega | (simp; done) | (simp; omega))) | (with_reducible refine Below.setCell ?_ ?_ _; rotate_left; focus (first | with_reducible assumption | omega | (simp; done) | (simp; omega))))
    · obtain rfl : n = k := by omega
      have e0 : tellM l p side = ⟨p + shiftL (l.take n), false, false, 0, 0⟩ := by
        rw [← hI.out, List.drop_of_length_le (by rw [HL.out]; omega)]; rfl
      have hsb := shift_take_bd HR.out n
      have e1 : IntKind.i64.wrap (p + shiftL (l.take n)) = p + shiftL (l.take n) := IntWalk.i64_in _ (by omega)
      clear hI
      have e3 : decide ((n : Int) < n) = false := by simp
      have e4 : ((n : Int) == n) = true := by simp
      go_wp2
      go_quiet (fail)
      go_wp2_with (go_at_call 46; refine (HSH.out n (by omega) _ (by repeat (first | with_reducible exact Below.refl _ _ | with_reducible assumption | (with_reducible refine below_drewN ?_ _) | (with_reducible refine Below.drew ?_) | (with_reducible refine Below.alloc ?_ ?_ _; rotate_left; focus (first | with_reducible assumption | omega | (simp; done) | (simp; omega))) | (with_reducible refine Below.setCell ?_ ?_ _; rotate_left; focus (first | with_reducible assumption | omega | (simp; done) | (simp; omega)))))).mono ?_; rintro e w1 ⟨rfl, q1, rfl⟩)
      refine bodyPost_ret (v := (tellM l p side).val) ?_ rfl ⟨rfl, ?_⟩
      · rw [e0]
        simp [results, Try.results42, go_sem, Pl.val]
      · repeat (first | with_reducible exact Below.refl _ _ | with_reducible assumption | (with_reducible refine below_drewN ?_ _) | (with_reducible refine Below.drew ?_) | (with_reducible refine Below.alloc ?_ ?_ _; rotate_left; focus (first | with_reducible assumption | omega | (simp; done) | (simp; omega))) | (with_reducible refine Below.setCell ?_ ?_ _; rotate_left; focus (first | with_reducible assumption | omega | (simp; done) | (simp; omega))))
end Go.Proofs.Ytjenokeeokghgaa
