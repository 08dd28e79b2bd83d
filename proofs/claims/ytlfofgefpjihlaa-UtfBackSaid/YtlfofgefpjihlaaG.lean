/- utf: Next whole; the reference's guess -/
import Derived.Test.YtlfofgefpjihlaaF
namespace Go.Proofs.Ytlfofgefpjihlaa
open Go.RowKit

def nextS (bs : List Int) (at_ : Nat) : Int × Nat × Int :=
  match bs.drop at_ with
  | [] => (0, 0, 3)
  | x :: t => if many x = 0 ∨ t.length + 1 < many x then (0, 0, 11) else nextOf (many x) x (t.take (many x - 1))

theorem drop_get {bs : List Int} {k : Nat} {x : Int} (h : bs[k]? = some x) : bs.drop k = x :: bs.drop (k + 1) := by
  obtain ⟨hlt, rfl⟩ := List.getElem?_eq_some_iff.1 h
  exact List.drop_eq_getElem_cons hlt

theorem Rd.byte {w : World} {B b o N : Nat} {bs : List Int} {k : Nat} {x : Int} (hr : Rd w B 1 (some ⟨b, o, none⟩) N (u8s bs)) (hx : bs[k]? = some x) : w.cell? ⟨b, o + k, none⟩ = some (.int .u8 x) ∧ b < B := by
  have hl : k < N := by
    have := hr.1; simp at this
    obtain ⟨hlt, _⟩ := List.getElem?_eq_some_iff.1 hx
    omega
  obtain ⟨b', o', e, hb, hc⟩ := hr.2 (by omega)
  injection e with e; injection e with e1 e2
  subst e1; subst e2
  exact ⟨hc k _ (by rw [List.getElem?_map, hx]; rfl), hb⟩

theorem next_any (A : Option Addr) (N c : Nat) (at_ : Nat) (bs : List Int) (w : World) (hN : N ≤ 1000000) (hlt : at_ < N) (hc : N ≤ c) (hr : Rd w w.heap.size 1 A N (u8s bs)) (hb : ∀ x ∈ bs, 0 ≤ x ∧ x ≤ 255) :
    Calls Try.prog 13 #[.slice A N c, .int .i64 at_] w (NextSays (nextS bs at_) w) := by
  obtain ⟨b, o, rfl, hbB, hcell⟩ := hr.2 (by omega)
  have hl : bs.length = N := by simpa using hr.1
  have hx : bs[at_]? = some (bs[at_]'(by omega)) := List.getElem?_eq_getElem (by omega)
  generalize (bs[at_]'(by omega)) = x at hx
  have hd := drop_get hx
  have hdl : (bs.drop (at_ + 1)).length = N - (at_ + 1) := by rw [List.length_drop, hl]
  unfold nextS
  rw [hd]
  simp only
  by_cases h : many x = 0 ∨ (bs.drop (at_ + 1)).length + 1 < many x
  · rw [if_pos h]
    refine (next_none b o N c at_ x w hN hlt (hr.byte hx).1 (by omega)).mono ?_
    rintro e w' ⟨rfl, rfl⟩
    exact ⟨rfl, Below.refl _ _⟩
  · rw [if_neg h]
    exact next_go b o N c at_ (many x) bs x w hN hlt hc hr hb hx rfl (by omega) (by omega)

theorem guess_bd (r : Int) (u : List Int) (hr : -240 ≤ r ∧ r ≤ 255) (hu : ∀ c ∈ u, 0 ≤ c ∧ c ≤ 255) (hl : u.length ≤ 3) : -100000000 ≤ guessF r u ∧ guessF r u ≤ 100000000 := by
  match u, hl with
  | [], _ => simp [guessF]; omega
  | [a], _ => have := hu a (by simp); simp [guessF]; omega
  | [a, b], _ => have := hu a (by simp); have := hu b (by simp); simp [guessF]; omega
  | [a, b, c], _ => have := hu a (by simp); have := hu b (by simp); have := hu c (by simp); simp [guessF]; omega

set_option maxHeartbeats 1000000 in
theorem guess_any (b o : Nat) (N c : Nat) (at_ n : Nat) (bs : List Int) (x : Int) (w : World) (hN : N ≤ 1000000) (hr : Rd w w.heap.size 1 (some ⟨b, o, none⟩) N (u8s bs)) (hb : ∀ x ∈ bs, 0 ≤ x ∧ x ≤ 255)
    (hx : bs[at_]? = some x) (h1 : 1 ≤ n) (h4 : n ≤ 4) (h2 : at_ + n ≤ N) :
    Calls Try.prog 26 #[.slice (some ⟨b, o, none⟩) N c, .int .i64 at_, .int .i64 n] w fun e w' => e = .returned (.int .i64 (guessF (x - headOf n) ((bs.drop (at_ + 1)).take (n - 1)))) ∧ w = w' := by
  have hx0 := hb x (List.mem_of_getElem? hx)
  have hcx := (hr.byte hx).1
  have hl : bs.length = N := by simpa using hr.1
  clear hx
  have hh : 0 ≤ headOf n ∧ headOf n ≤ 240 := by obtain rfl | rfl | rfl | rfl : n = 1 ∨ n = 2 ∨ n = 3 ∨ n = 4 := by omega
                                                all_goals (simp [headOf])
  by_cases q1 : n = 1
  · subst q1
    go_enter Try.func26, Try.ntmps26
    go_wp2
    go_ret
    exact ⟨ret_int (by simp [guessF, headOf]), rfl⟩
  have t1 : ((n : Int) == 1) = false := by simp; omega
  obtain ⟨h0, hh0⟩ : ∃ h0, headOf n = h0 := ⟨_, rfl⟩
  rw [hh0]
  have key : ∀ k, k ≤ n - 1 → -100000000 ≤ guessF (x - h0) ((bs.drop (at_ + 1)).take k) ∧ guessF (x - h0) ((bs.drop (at_ + 1)).take k) ≤ 100000000 := fun k hk =>
    guess_bd _ _ (by omega) (fun c hc => hb c (List.mem_of_mem_drop (List.mem_of_mem_take hc))) (by rw [List.length_take]; omega)
  have K := Lib.hid key
  clear key
  have hq : (n = 2 ∧ ((n : Int) == 2) = true ∧ h0 = 192) ∨ (n = 3 ∧ ((n : Int) == 2) = false ∧ ((n : Int) == 3) = true ∧ h0 = 224) ∨ (n = 4 ∧ ((n : Int) == 2) = false ∧ ((n : Int) == 3) = false ∧ h0 = 240) := by
    obtain rfl | rfl | rfl : n = 2 ∨ n = 3 ∨ n = 4 := by omega
    all_goals (simp [headOf] at hh0 ⊢; omega)
  clear hh hh0
  obtain ⟨hq1, hq2, rfl⟩ | ⟨hq1, hq2, hq3, rfl⟩ | ⟨hq1, hq2, hq3, rfl⟩ := hq
  all_goals
    clear hq1
    go_enter Try.func26, Try.ntmps26
    go_wp2
    go_loop [7, 8] (fun v i => ∃ k : Nat, k + 1 ≤ n ∧ i = .int .i64 ((k : Int) + 1) ∧ v = .int .i64 (guessF (x - _) ((bs.drop (at_ + 1)).take k))) (fun _ i => n - (intOf i).toNat)
    case atStart => exact ⟨0, by omega, rfl, rfl⟩
    case round =>
      obtain ⟨k, hk, rfl, rfl⟩ := hrel
      by_cases hkn : k + 1 < n
      · have hy : at_ + 1 + k < bs.length := by omega
        obtain ⟨y, hyy⟩ : ∃ y, y = bs[at_ + 1 + k] := ⟨_, rfl⟩
        have hcy := (hr.byte (k := at_ + 1 + k) (x := y) (by rw [hyy]; exact List.getElem?_eq_getElem hy)).1
        have hcy : w.cell? ⟨b, o + (at_ + (k + 1)), none⟩ = some (.int .u8 y) := by rw [← hcy]; congr 2; omega
        have hyb : 0 ≤ y ∧ y ≤ 255 := by rw [hyy]; exact hb _ (List.getElem_mem _)
        have hfb := K.out k (by omega)
        have htk : (bs.drop (at_ + 1)).take (k + 1) = (bs.drop (at_ + 1)).take k ++ [y] := by
          rw [List.take_add_one, List.getElem?_drop, List.getElem?_eq_getElem hy, hyy]; rfl
        have HTK := Lib.hid htk
        clear htk hyy
        go_wp2
        go_round
        case rel => exact ⟨k + 1, by omega, by go_num, by rw [HTK.out, guessF_snoc]⟩
        case measure => simp [intOf]; omega
      · go_wp2
        go_ret
        exact ⟨ret_int (by rw [show n - 1 = k by omega]), rfl⟩
theorem guess_at (i : Int) (b o : Nat) (N c : Nat) (at_ n : Nat) (bs : List Int) (x : Int) (w : World) (hN : N ≤ 1000000) (hr : Rd w w.heap.size 1 (some ⟨b, o, none⟩) N (u8s bs)) (hb : ∀ x ∈ bs, 0 ≤ x ∧ x ≤ 255)
    (hx : bs[at_]? = some x) (h1 : 1 ≤ n) (h4 : n ≤ 4) (h2 : at_ + n ≤ N) (hi : i = (n : Int)) :
    Calls Try.prog 26 #[.slice (some ⟨b, o, none⟩) N c, .int .i64 at_, .int .i64 i] w fun e w' => e = .returned (.int .i64 (guessF (x - headOf n) ((bs.drop (at_ + 1)).take (n - 1)))) ∧ w = w' := by
  subst hi
  exact guess_any b o N c at_ n bs x w hN hr hb hx h1 h4 h2
theorem headOf_bd (n : Nat) : 0 ≤ headOf n ∧ headOf n ≤ 240 := by
  unfold headOf; split <;> omega
end Go.Proofs.Ytlfofgefpjihlaa
