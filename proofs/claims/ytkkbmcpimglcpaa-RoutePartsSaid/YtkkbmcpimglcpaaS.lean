/- smap: the document's Recover -/
import Derived.Test.YtkkbmcpimglcpaaO
namespace Go.Proofs.Ytkkbmcpimglcpaa
open Go.RowKit

/-- the document's answer: -1 is none -/
def recD (l : List Rg) (at_ off : Int) : Int := match recM l at_ off with | some x => x | none => -1

set_option maxRecDepth 100000 in
set_option maxHeartbeats 2000000 in
theorem rrec_any (A : Option Addr) (n c : Nat) (l : List Rg) (at_ off : Int) (w : World) (hrd : Rd w w.heap.size 3 A n (rgs l)) (hr : rightM l = true) :
    Calls Try.prog 20 #[.slice A n c, .int .i64 at_, .int .i64 off] w fun e w' => e = .returned (.int .i64 (recD l at_ off)) ∧ Below w.heap.size w w' := by
  have hl := hrd.rlen
  have hn2 : n ≤ 1000 := by have := right_len hr; omega
  have hri := rright_any A n c l w (by unfold maxLen; omega) (fun _ => hrd) hl
  rw [hr] at hri
  have HRI := Lib.hid hri
  have hsh := fun (m : Nat) (hm : m ≤ n) W (hb : Below w.heap.size w W) => rshift_any A n c m l W ((hrd.below hb).more hb.size) hr hm
  have HSH := Lib.hid hsh
  have HR := Lib.hid hr
  have HL := Lib.hid hl
  clear hri hsh hr hl
  by_cases h0 : 0 ≤ at_ ∧ at_ < n
  · obtain ⟨k, rfl⟩ : ∃ k : Nat, at_ = k := ⟨at_.toNat, by omega⟩
    have hkn : k < n := by omega
    obtain ⟨b, o, rfl, hbB, _⟩ := hrd.2 (by omega)
    obtain ⟨r, hx⟩ : ∃ r, l[k]? = some r := ⟨_, List.getElem?_eq_getElem (by have := HL.out; omega)⟩
    obtain ⟨f1, f2, f3, f4, f5, f6⟩ := right_fits HR.out r (List.mem_of_getElem? hx)
    have hsb := shift_take_bd HR.out k
    have hcall := fun W hb => HSH.out k (by omega) W hb
    have e3 : (k : Int) < n := by omega
    have hcells := fun W (hb : Below w.heap.size w W) => (hrd.below hb).rg hx
    have HCL := Lib.hid hcells
    clear hcells
    have hval : recD l k off = if 0 ≤ off ∧ off ≤ r.new then r.at_ + shiftL (l.take k) + off else -1 := by
      unfold recD recM
      rw [if_pos (by omega), Int.toNat_natCast, hx, Option.bind_some]
      by_cases hh : 0 ≤ off ∧ off ≤ r.new
      · rw [if_pos hh, if_pos hh]
      · rw [if_neg hh, if_neg hh]
    generalize hs : shiftL (l.take k) = s at *
    have HC := Lib.hid hcall
    have HV := Lib.hid hval
    clear hcall hval hx hs
    by_cases h2 : off < 0
    · have h4 : ¬ (0 ≤ off ∧ off ≤ r.new) := by omega
      have hv := HV.out
      rw [if_neg h4] at hv
      have HVV := Lib.hid hv
      clear hv h4
      go_enter Try.func20, Try.ntmps20
      go_wp2_with (go_at_call 11; refine HRI.out.mono ?_; rintro e w1 ⟨rfl, hb1⟩)
      go_ret
      exact ⟨ret_int HVV.out.symm, hb1⟩
    · by_cases h3 : off ≤ r.new
      · have h4 : 0 ≤ off ∧ off ≤ r.new := by omega
        have hv := HV.out
        rw [if_pos h4] at hv
        have HVV := Lib.hid hv
        clear hv
        obtain ⟨h4, _⟩ := h4
        have e5 : IntKind.i64.wrap (r.at_ + s) = r.at_ + s := IntWalk.i64_in _ (by omega)
        have e6 : IntKind.i64.wrap (r.at_ + s + off) = r.at_ + s + off := IntWalk.i64_in _ (by omega)
        go_enter Try.func20, Try.ntmps20
        go_wp2_with (go_at_call 11; refine HRI.out.mono ?_; rintro e w1 ⟨rfl, hb1⟩; obtain ⟨hc0, hc1, hc2, _⟩ := HCL.out _ hb1)
        have hF : ∀ w', Below w.heap.size w1 w' → w'.cell? ⟨b, o + k * 3, none⟩ = some (.int .i64 r.at_) := fun w' hb' => (hb'.cell (p := ⟨b, _, none⟩) hbB).trans hc0
        have HF := Lib.hid hF
        clear hF
        refine wp_normal ?_
        refine wp_region_held_drew (S := fun w' => Below w.heap.size w1 w') (by kernel_rfl) (by repeat (first | with_reducible exact Below.refl _ _ | with_reducible assumption | (with_reducible refine below_drewN ?_ _) | (with_reducible refine Below.drew ?_) | (with_reducible refine Below.alloc ?_ ?_ _; rotate_left; focus (first | with_reducible assumption | omega | (simp; done) | (simp; omega))) | (with_reducible refine Below.setCell ?_ ?_ _; rotate_left; focus (first | with_reducible assumption | omega | (simp; done) | (simp; omega))))) (fun hHeld => ?_)
        (refine take_if (i := 0) (oi := _) (v := ?_) (by simp only [List.getElem?_toArray, List.getElem?_cons_zero]; rfl) (by kernel_rfl) (by kernel_rfl) (by kernel_rfl) (fun _ _ _ h => h) (by rfl) ?_ (by assumption) ?_; rotate_left; (focus ((intro w hSw; (try have hSw := HF.out _ hSw); (try dsimp only at hSw); go_simp); try exact rfl)); simp only [Act.put, List.setIfInBounds_toArray, List.set_cons_zero, List.set_cons_succ]; refine take_if (i := 1) (oi := _) (v := ?_) (by simp only [List.getElem?_toArray, List.getElem?_cons_succ, List.getElem?_cons_zero]; rfl) (by kernel_rfl) (by kernel_rfl) (by kernel_rfl) (fun _ _ _ h => h) (by rfl) ?_ (by assumption) ?_; rotate_left; (focus ((intro w hSw; (try have hSw := HF.out _ hSw); (try dsimp only at hSw); go_simp); try exact rfl)); simp only [Act.put, List.setIfInBounds_toArray, List.set_cons_zero, List.set_cons_succ]; refine take_if (i := 2) (oi := _) (v := ?_) (by simp only [List.getElem?_toArray, List.getElem?_cons_succ, List.getElem?_cons_zero]; rfl) (by kernel_rfl) (by kernel_rfl) (by kernel_rfl) (fun _ _ _ h => h) (by rfl) ?_ (by assumption) ?_; rotate_left; (focus ((intro w hSw; (try have hSw := HF.out _ hSw); (try dsimp only at hSw); go_simp); try exact rfl)); simp only [Act.put, List.setIfInBounds_toArray, List.set_cons_zero, List.set_cons_succ]; refine take_if (i := 3) (oi := _) (v := ?_) (by simp only [List.getElem?_toArray, List.getElem?_cons_succ, List.getElem?_cons_zero]; rfl) (by kernel_rfl) (by kernel_rfl) (by kernel_rfl) (fun _ _ _ h => h) (by rfl) ?_ (by assumption) ?_; rotate_left; (focus ((intro w hSw; (try have hSw := HF.out _ hSw); (try dsimp only at hSw); go_simp); try exact rfl)); simp only [Act.put, List.setIfInBounds_toArray, List.set_cons_zero, List.set_cons_succ]; refine take_if (i := 4) (oi := _) (v := ?_) (by simp only [List.getElem?_toArray, List.getElem?_cons_succ, List.getElem?_cons_zero]; rfl) (by kernel_rfl) (by kernel_rfl) (by kernel_rfl) (fun _ _ _ h => h) (by rfl) ?_ (by assumption) ?_; rotate_left; (focus ((intro w hSw; (try have hSw := HF.out _ hSw); (try dsimp only at hSw); go_simp); try exact rfl)); simp only [Act.put, List.setIfInBounds_toArray, List.set_cons_zero, List.set_cons_succ]; refine take_if (i := 5) (oi := _) (v := ?_) (by simp only [List.getElem?_toArray, List.getElem?_cons_succ, List.getElem?_cons_zero]; rfl) (by kernel_rfl) (by kernel_rfl) (by kernel_rfl) (fun _ _ _ h => h) (by rfl) ?_ (by assumption) ?_; rotate_left; (focus ((intro w hSw; (try have hSw := HF.out _ hSw); (try dsimp only at hSw); go_simp); try exact rfl)); simp only [Act.put, List.setIfInBounds_toArray, List.set_cons_zero, List.set_cons_succ]; refine take_if (i := 6) (oi := _) (v := ?_) (by simp only [List.getElem?_toArray, List.getElem?_cons_succ, List.getElem?_cons_zero]; rfl) (by kernel_rfl) (by kernel_rfl) (by kernel_rfl) (fun _ _ _ h => h) (by rfl) ?_ (by assumption) ?_; rotate_left; (focus ((intro w hSw; (try have hSw := HF.out _ hSw); (try dsimp only at hSw); go_simp); try exact rfl)); simp only [Act.put, List.setIfInBounds_toArray, List.set_cons_zero, List.set_cons_succ]; refine take_if (i := 9) (oi := _) (v := ?_) (by simp only [List.getElem?_toArray, List.getElem?_cons_succ, List.getElem?_cons_zero]; rfl) (by kernel_rfl) (by kernel_rfl) (by kernel_rfl) (fun _ _ _ h => h) (by rfl) ?_ (by assumption) ?_; rotate_left; (focus ((intro w hSw; (try have hSw := HF.out _ hSw); (try dsimp only at hSw); go_simp); try exact rfl)); simp only [Act.put, List.setIfInBounds_toArray, List.set_cons_zero, List.set_cons_succ])
        refine wpAnyH_ready (rs := [7]) (by kernel_rfl) (by simp) ?_; refine (AllReadyH.cons (o := _) (by simp only [List.getElem?_toArray, List.getElem?_cons_succ, List.getElem?_cons_zero]; rfl) (fun K hK => ?_) AllReadyH.nil)
        go_simp
        go_at_call 16
        refine (HC.out _ hb1.drew).mono ?_
        rintro e w2 ⟨rfl, q, rfl⟩
        refine hK.out _ _ (by repeat (first | with_reducible exact Below.refl _ _ | with_reducible assumption | (with_reducible refine below_drewN ?_ _) | (with_reducible refine Below.drew ?_) | (with_reducible refine Below.alloc ?_ ?_ _; rotate_left; focus (first | with_reducible assumption | omega | (simp; done) | (simp; omega))) | (with_reducible refine Below.setCell ?_ ?_ _; rotate_left; focus (first | with_reducible assumption | omega | (simp; done) | (simp; omega))))) (fun hHeld => ?_)
        clear hK K; (try simp only [Act.put, List.setIfInBounds_toArray, List.set_cons_zero, List.set_cons_succ])
        (refine take_if (i := 8) (oi := _) (v := ?_) (by simp only [List.getElem?_toArray, List.getElem?_cons_succ, List.getElem?_cons_zero]; rfl) (by kernel_rfl) (by kernel_rfl) (by kernel_rfl) (fun _ _ _ h => h) (by rfl) ?_ (by assumption) ?_; rotate_left; (focus ((intro w hSw; (try have hSw := HF.out _ hSw); (try dsimp only at hSw); go_simp); try exact rfl)); simp only [Act.put, List.setIfInBounds_toArray, List.set_cons_zero, List.set_cons_succ]; refine take_if (i := 10) (oi := _) (v := ?_) (by simp only [List.getElem?_toArray, List.getElem?_cons_succ, List.getElem?_cons_zero]; rfl) (by kernel_rfl) (by kernel_rfl) (by kernel_rfl) (fun _ _ _ h => h) (by rfl) ?_ (by assumption) ?_; rotate_left; (focus ((intro w hSw; (try have hSw := HF.out _ hSw); (try dsimp only at hSw); go_simp); try exact rfl)); simp only [Act.put, List.setIfInBounds_toArray, List.set_cons_zero, List.set_cons_succ]; refine take_if (i := 11) (oi := _) (v := ?_) (by simp only [List.getElem?_toArray, List.getElem?_cons_succ, List.getElem?_cons_zero]; rfl) (by kernel_rfl) (by kernel_rfl) (by kernel_rfl) (fun _ _ _ h => h) (by rfl) ?_ (by assumption) ?_; rotate_left; (focus ((intro w hSw; (try have hSw := HF.out _ hSw); (try dsimp only at hSw); go_simp); try exact rfl)); simp only [Act.put, List.setIfInBounds_toArray, List.set_cons_zero, List.set_cons_succ])
        refine wpAnyH_done (by kernel_rfl) ?_ _
        go_wp2
        go_ret
        exact ⟨ret_int HVV.out.symm, hb1.trans (hHeld.mono (Nat.le_refl _))⟩
      · have h4 : ¬ (0 ≤ off ∧ off ≤ r.new) := by omega
        have hv := HV.out
        rw [if_neg h4] at hv
        have HVV := Lib.hid hv
        clear hv h4
        go_enter Try.func20, Try.ntmps20
        go_wp2_with (go_at_call 11; refine HRI.out.mono ?_; rintro e w1 ⟨rfl, hb1⟩; obtain ⟨hc0, hc1, hc2, _⟩ := HCL.out _ hb1)
        go_ret
        exact ⟨ret_int HVV.out.symm, hb1⟩
  · have hval : recD l at_ off = -1 := by
      unfold recD recM
      by_cases h1 : 0 ≤ at_
      · rw [if_pos h1, List.getElem?_eq_none (by have := HL.out; omega)]; rfl
      · rw [if_neg h1]
    have HV := Lib.hid hval
    clear hval
    have hc : at_ < 0 ∨ (0 ≤ at_ ∧ (n : Int) ≤ at_) := by omega
    clear h0
    rcases hc with hc | ⟨hc, hd⟩
    all_goals
      go_enter Try.func20, Try.ntmps20
      go_wp2_with (go_at_call 11; refine HRI.out.mono ?_; rintro e w1 ⟨rfl, hb1⟩)
      go_ret
      exact ⟨ret_int HV.out.symm, hb1⟩
end Go.Proofs.Ytkkbmcpimglcpaa
