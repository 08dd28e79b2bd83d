/- route: the document's route in memory; At; Free -/
import Derived.Test.YtkkbmcpimglcpaaRtF
namespace Go.Proofs.Ytkkbmcpimglcpaa
open Go.RowKit

/-- the document's route, as it reads below block B: its maps, and of each the number of its mirror -/
structure RefIs (W : World) (B : Nat) (Am Ao : Option Addr) (n : Nat) (ms : List (List Rg)) (ofs : List Int) : Prop where
  len : ms.length = n
  rows : ∃ vs, Rd W B 1 Am n vs ∧ ∀ (i : Nat) (m : List Rg), ms[i]? = some m → ∃ A c, vs[i]? = some (.slice A m.length c) ∧ Rd W B 3 A m.length (rgs m)
  ofl : ofs.length = n
  ofr : Rd W B 1 Ao n (ofs.map (Value.int .i64))
theorem RefIs.below {W W' : World} {B : Nat} {Am Ao : Option Addr} {n : Nat} {ms : List (List Rg)} {ofs : List Int} (h : RefIs W B Am Ao n ms ofs) (hb : Below B W W') : RefIs W' B Am Ao n ms ofs := by
  obtain ⟨h1, ⟨vs, h2, h3⟩, h4, h5⟩ := h
  exact ⟨h1, ⟨vs, h2.below hb, fun i m hi => by obtain ⟨A, c, e1, e2⟩ := h3 i m hi; exact ⟨A, c, e1, e2.below hb⟩⟩, h4, h5.below hb⟩
theorem RefIs.more {W : World} {B B' : Nat} {Am Ao : Option Addr} {n : Nat} {ms : List (List Rg)} {ofs : List Int} (h : RefIs W B Am Ao n ms ofs) (hb : B ≤ B') : RefIs W B' Am Ao n ms ofs := by
  obtain ⟨h1, ⟨vs, h2, h3⟩, h4, h5⟩ := h
  exact ⟨h1, ⟨vs, h2.more hb, fun i m hi => by obtain ⟨A, c, e1, e2⟩ := h3 i m hi; exact ⟨A, c, e1, e2.more hb⟩⟩, h4, h5.more hb⟩
section
variable {W : World} {B : Nat} {Am Ao : Option Addr} {n : Nat} {ms : List (List Rg)} {ofs : List Int}
/-- map k of it, as cells -/
theorem RefIs.at_ (h : RefIs W B Am Ao n ms ofs) {k : Nat} {m : List Rg} (hk : ms[k]? = some m) : ∃ b o A c, Am = some ⟨b, o, none⟩ ∧ b < B ∧ W.cell? ⟨b, o + k, none⟩ = some (.slice A m.length c) ∧ Rd W B 3 A m.length (rgs m) := by
  obtain ⟨vs, h2, h3⟩ := h.rows
  have hkn : k < n := by have := (List.getElem?_eq_some_iff.1 hk).1; have := h.len; omega
  obtain ⟨A, c, e1, e2⟩ := h3 k m hk
  obtain ⟨b, o, u, e, hb, hu, hc⟩ := h2.at1 hkn
  rw [e1] at hu
  injection hu with hu
  subst hu
  exact ⟨b, o, A, c, e, hb, hc, e2⟩
theorem RefIs.of_ (h : RefIs W B Am Ao n ms ofs) {k : Nat} {x : Int} (hk : ofs[k]? = some x) : ∃ b o, Ao = some ⟨b, o, none⟩ ∧ b < B ∧ W.cell? ⟨b, o + k, none⟩ = some (.int .i64 x) := by
  have hkn : k < n := by have := (List.getElem?_eq_some_iff.1 hk).1; have := h.ofl; omega
  obtain ⟨b, o, u, e, hb, hu, hc⟩ := h.ofr.at1 hkn
  rw [List.getElem?_map, hk] at hu
  injection hu with hu
  subst hu
  exact ⟨b, o, e, hb, hc⟩
end

def freeR (n : Nat) (ofs : List Int) (k : Int) : Bool := decide (0 ≤ k ∧ k < n) && decide (ofs.getD k.toNat 0 < 0)

set_option maxHeartbeats 1000000 in
theorem free_any (W : World) (Am Ao : Option Addr) (cm co n : Nat) (ms : List (List Rg)) (ofs : List Int) (k : Int) (h : RefIs W W.heap.size Am Ao n ms ofs) :
    Calls Try.prog 47 #[.agg #[.slice Am n cm, .slice Ao n co], .int .i64 k] W fun e W' => e = .returned (.bool (freeR n ofs k)) ∧ Below W.heap.size W W' := by
  by_cases h1 : 0 ≤ k
  · by_cases h2 : k < n
    · obtain ⟨κ, rfl⟩ : ∃ κ : Nat, k = κ := ⟨k.toNat, by omega⟩
      obtain ⟨x, hx⟩ : ∃ x, ofs[κ]? = some x := ⟨_, List.getElem?_eq_getElem (by have := h.ofl; omega)⟩
      obtain ⟨b, o, rfl, hb, hc⟩ := h.of_ hx
      have hval : freeR n ofs κ = decide (x < 0) := by
        unfold freeR
        rw [decide_eq_true ⟨h1, h2⟩, Int.toNat_natCast, List.getD_eq_getElem?_getD, hx]; rfl
      have HV := Lib.hid hval
      clear hval hx h
      go_enter Try.func47, Try.ntmps47
      go_wp2
      all_goals
        go_ret
        exact ⟨ret_bool (by rw [HV.out]; first | done | (simp; done) | (simp; omega)), by repeat (first | with_reducible exact Below.refl _ _ | with_reducible assumption | (with_reducible refine below_drewN ?_ _) | (with_reducible refine Below.drew ?_) | (with_reducible refine Below.alloc ?_ ?_ _; rotate_left; focus (first | with_reducible assumption | omega | (simp; done) | (simp; omega))) | (with_reducible refine Below.setCell ?_ ?_ _; rotate_left; focus (first | with_reducible assumption | omega | (simp; done) | (simp; omega))))⟩
    · have hval : freeR n ofs k = false := by unfold freeR; rw [decide_eq_false (by omega)]; rfl
      rw [hval]
      clear hval h
      go_enter Try.func47, Try.ntmps47
      go_wp2
      go_ret
      exact ⟨rfl, by repeat (first | with_reducible exact Below.refl _ _ | with_reducible assumption | (with_reducible refine below_drewN ?_ _) | (with_reducible refine Below.drew ?_) | (with_reducible refine Below.alloc ?_ ?_ _; rotate_left; focus (first | with_reducible assumption | omega | (simp; done) | (simp; omega))) | (with_reducible refine Below.setCell ?_ ?_ _; rotate_left; focus (first | with_reducible assumption | omega | (simp; done) | (simp; omega))))⟩
  · have hval : freeR n ofs k = false := by unfold freeR; rw [decide_eq_false (by omega)]; rfl
    rw [hval]
    clear hval h
    go_enter Try.func47, Try.ntmps47
    go_wp2
    go_ret
    exact ⟨rfl, by repeat (first | with_reducible exact Below.refl _ _ | with_reducible assumption | (with_reducible refine below_drewN ?_ _) | (with_reducible refine Below.drew ?_) | (with_reducible refine Below.alloc ?_ ?_ _; rotate_left; focus (first | with_reducible assumption | omega | (simp; done) | (simp; omega))) | (with_reducible refine Below.setCell ?_ ?_ _; rotate_left; focus (first | with_reducible assumption | omega | (simp; done) | (simp; omega))))⟩
end Go.Proofs.Ytkkbmcpimglcpaa
