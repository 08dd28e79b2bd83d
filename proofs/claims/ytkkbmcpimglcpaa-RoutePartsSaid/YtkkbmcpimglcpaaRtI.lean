/- route: the law's example; few; the law's maps in memory -/
import Derived.Test.YtkkbmcpimglcpaaRtP
namespace Go.Proofs.Ytkkbmcpimglcpaa
open Go.RowKit

theorem own_one (W : World) (base : Nat) (t : TypeId) (cs : Array Value) (hb : base ≤ W.heap.size) : (W.alloc (.cells cs t)).ownsRow base t cs.size (.slice (some ⟨W.heap.size, 0, none⟩) 1 1) 1 cs.toList :=
  ⟨by simp, .inr ⟨W.heap.size, 1, cs, rfl, hb, heap_alloc_new W _, by omega, by unfold maxLen; omega, by simp, by rw [Nat.one_mul, List.take_of_length_le (by simp)]⟩⟩

theorem route_new {W : World} {base R : Nat} (f : IMap) (hf : ∀ k, f k = none) (h : Bk W R 51 #[.slice none 0 0, .map none]) (hb : base ≤ R) : RouteIs W base R [] f :=
  ⟨_, none, [], h, hb, World.ownsRow_nil _ _ _ _, fun i m hi => by simp at hi, .inl ⟨rfl, hf⟩⟩

theorem exr_1 : (rTell [[⟨5, 2, 0⟩]] (fun _ => none) 6 1).1.pos = 5 := by decide
theorem exr_2 : (rTell ([[⟨5, 2, 0⟩]] ++ [[⟨5, 0, 2⟩]]) (upd (upd (fun _ => none) 0 (([[⟨5, 2, 0⟩]] : List (List Rg)).length : Nat)) (([[⟨5, 2, 0⟩]] : List (List Rg)).length : Nat) 0) 6 1).1.pos = 6 := by decide

theorem inr_ex : InR ([[⟨5, 2, 0⟩]] ++ [[⟨5, 0, 2⟩]]) (upd (upd (fun _ => none) 0 (([[⟨5, 2, 0⟩]] : List (List Rg)).length : Nat)) (([[⟨5, 2, 0⟩]] : List (List Rg)).length : Nat) 0) := by
  intro k v h
  unfold upd at h
  simp only [List.length_cons, List.length_nil, List.length_append] at h ⊢
  split at h
  · injection h with h; omega
  · split at h
    · injection h with h; omega
    · cases h

set_option maxRecDepth 100000 in
set_option maxHeartbeats 2000000 in
theorem live24_any (w : World) : Calls Try.prog 24 #[] w fun e w' => e = .returned (.bool true) ∧ Below w.heap.size w w' := by
  have b0 : Below w.heap.size w (w.alloc (.cells #[.slice none 0 0, .map none] 51)) := (Below.refl _ _).alloc (Nat.le_refl _) _
  have r00 : RouteIs (w.alloc (.cells #[.slice none 0 0, .map none] 51)) w.heap.size w.heap.size [] (fun _ => none) := route_new _ (fun _ => rfl) (Bk.new w _ _) (Nat.le_refl _)
  have r0 := r00.ext (W' := (w.alloc (.cells #[.slice none 0 0, .map none] 51)).alloc (.cells #[.int .i64 5, .int .i64 2, .int .i64 0] 42)) ((Below.refl _ _).alloc (Nat.le_refl _) _)
  have b1 : Below w.heap.size w ((w.alloc (.cells #[.slice none 0 0, .map none] 51)).alloc (.cells #[.int .i64 5, .int .i64 2, .int .i64 0] 42)) := by repeat (first | with_reducible exact Below.refl _ _ | with_reducible assumption | (with_reducible refine below_drewN ?_ _) | (with_reducible refine Below.drew ?_) | (with_reducible refine Below.alloc ?_ ?_ _; rotate_left; focus (first | with_reducible assumption | omega | (simp; done) | (simp; omega))) | (with_reducible refine Below.setCell ?_ ?_ _; rotate_left; focus (first | with_reducible assumption | omega | (simp; done) | (simp; omega))))
  have ha := add_good w.heap.size w.heap.size [] (fun _ => none) (some ⟨w.heap.size + 1, 0, none⟩) 1 1 [⟨5, 2, 0⟩] _ r0 b1.size (rd_row (l := [⟨5, 2, 0⟩]) (Bk.made _ _ (by simp)) rfl) (by simp) (by decide) (by simp)
  have hp1 := fun w' (hR : RouteIs w' w.heap.size w.heap.size [[⟨5, 2, 0⟩]] (fun _ => none)) => position_route w.heap.size w.heap.size _ _ 6 1 w' hR (fun _ _ h => by cases h) (by simp)
  rw [exr_1] at hp1
  have hmi := fun w' (hR : RouteIs w' w.heap.size w.heap.size [[⟨5, 2, 0⟩]] (fun _ => none)) (hz : w.heap.size ≤ w'.heap.size) => mirror_good w.heap.size w.heap.size _ _ (some ⟨w'.heap.size, 0, none⟩) 1 1 [⟨5, 0, 2⟩] 0 (w'.alloc (.cells #[.int .i64 5, .int .i64 0, .int .i64 2] 42))
    (hR.ext ((Below.refl _ _).alloc (Nat.le_refl _) _)) (by simp; omega) (.inr ⟨1, own_one w' w.heap.size 42 #[.int .i64 5, .int .i64 0, .int .i64 2] hz⟩) (by simp) (by decide) (by simp) (by omega) (by simp) rfl
  have hp2 := fun w' (hR : RouteIs w' w.heap.size w.heap.size ([[⟨5, 2, 0⟩]] ++ [[⟨5, 0, 2⟩]]) _) => position_route w.heap.size w.heap.size _ _ 6 1 w' hR inr_ex (by simp)
  rw [exr_2] at hp2
  have HA := Lib.hid ha
  clear ha r0 r00
  go_enter Try.func24, Try.ntmps24
  go_wp2_with (first
    | (go_at_call 25; refine (HA.out).mono ?_; rintro e w2 ⟨rfl, r2, b2, z2, kr2⟩; have hb2 := b1.trans b2; have hz2 := hb2.size)
    | (go_at_call 31; have hst := hz6; refine (hp2 _ r6).mono ?_; rintro e w7 ⟨rfl, hb7⟩; have r7 := r6.ext hb7; have hb7' := hb6.trans (hb7.mono hb6.size))
    | (go_at_call 31; refine (hp1 _ r2).mono ?_; rintro e w3 ⟨rfl, hb3⟩; have r3 := r2.ext hb3; have hb3' := hb2.trans (hb3.mono hb2.size); have hz3 := hb3'.size)
    | (go_at_call 26; refine (hmi _ r3 hz3).mono ?_; rintro e w6 ⟨rfl, r6, b6, z6, kr6⟩; have hb6 := (hb3'.alloc hz3 _).trans b6; have hz6 := hb6.size)
    | (go_at_call 29; refine (len_any _ _ _ _ _ r7).mono ?_; rintro e w8 ⟨rfl, rfl⟩))
  go_ret
  exact ⟨rfl, hb7'⟩
end Go.Proofs.Ytkkbmcpimglcpaa
