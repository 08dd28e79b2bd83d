/- utf: Next -/
import Derived.Test.YtlfofgefpjihlaaD
import Derived.Deep.DeepCutAuto
namespace Go.Proofs.Ytlfofgefpjihlaa
open Go.RowKit

theorem or_i32 (r c : Int) (h0 : 0 ≤ r) (h1 : r ≤ 16777216) (hc : 0 ≤ c) (hc2 : c ≤ 63) : bits .or .i32 (r * 64) c = r * 64 + c := by
  obtain ⟨a, rfl⟩ := Int.eq_ofNat_of_zero_le h0
  obtain ⟨b, rfl⟩ := Int.eq_ofNat_of_zero_le hc
  show IntKind.i32.wrap ((BitVec.ofInt 32 ((a : Int) * 64) ||| BitVec.ofInt 32 (b : Int)).toNat : Int) = _
  rw [show ((a : Int) * 64) = ((a * 64 : Nat) : Int) from by omega, BitVec.ofInt_natCast, BitVec.ofInt_natCast, BitVec.toNat_or, BitVec.toNat_ofNat, BitVec.toNat_ofNat,
    Nat.mod_eq_of_lt (by omega), Nat.mod_eq_of_lt (by omega)]
  have : a * 64 ||| b = a * 64 + b := by
    have := Nat.shiftLeft_add_eq_or_of_lt (a := a) (b := b) (i := 6) (by omega)
    rw [Nat.shiftLeft_eq] at this
    exact this.symm
  rw [this, IntKind.wrap_i32]
  omega
set_option maxHeartbeats 400000 in
theorem goes_any (c r : Int) (bk : Nat) (w : World) (hc : w.cell? ⟨bk, 0, none⟩ = some (.int .i32 r)) (hf : w.frozen? ⟨bk, 0, none⟩ = false) (h0 : 0 ≤ r) (h1 : r ≤ 16777216) (c0 : 0 ≤ c) (c1 : c ≤ 255) :
    Calls Try.prog 25 #[.int .u8 c, .pointer (some ⟨bk, 0, none⟩)] w fun e w' => e = .returned (.bool (c / 64 == 2)) ∧ w.setCell ⟨bk, 0, none⟩ (.int .i32 (r * 64 + c % 64)) = w' := by
  have e1 := or_i32 r (c % 64) h0 h1 (by omega) (by omega)
  go_enter Try.func25, Try.ntmps25
  go_wp2
  go_ret
  exact ⟨rfl, rfl⟩

set_option maxHeartbeats 400000 in
theorem next_out (A : Option Addr) (n c : Nat) (at_ : Int) (w : World) (hn : n ≤ 1000000) (h : at_ < 0 ∨ (n : Int) ≤ at_) :
    Calls Try.prog 13 #[.slice A n c, .int .i64 at_] w fun e w' => e = .returned (.tuple #[.int .i32 0, .int .i64 0, .int .i64 3]) ∧ w = w' := by
  rcases h with h | h
  · go_enter Try.func13, Try.ntmps13
    go_wp2
    go_ret3
    exact ⟨rfl, rfl⟩
  · go_enter Try.func13, Try.ntmps13
    go_wp2
    all_goals go_ret3
    all_goals exact ⟨rfl, rfl⟩

set_option maxHeartbeats 400000 in
theorem next_none (b o : Nat) (n c : Nat) (at_ : Nat) (x : Int) (w : World) (hn : n ≤ 1000000) (h : at_ < n) (hx : w.cell? ⟨b, o + at_, none⟩ = some (.int .u8 x)) (hm : many x = 0 ∨ n - at_ < many x) :
    Calls Try.prog 13 #[.slice (some ⟨b, o, none⟩) n c, .int .i64 at_] w fun e w' => e = .returned (.tuple #[.int .i32 0, .int .i64 0, .int .i64 11]) ∧ w = w' := by
  have hm' : (many x : Int) = 0 ∨ ((n : Int) - at_) < many x := by omega
  obtain ⟨m, hmm⟩ : ∃ m, m = many x := ⟨_, rfl⟩
  rw [← hmm] at hm'
  have HM := Lib.hid hmm
  clear hmm hm
  rcases hm' with h1 | h1
  all_goals
    go_enter Try.func13, Try.ntmps13
    go_wp2_with (go_at_call 23; refine (many_any _ _).mono ?_; rw [← HM.out]; rintro e w' ⟨rfl, rfl⟩)
    all_goals go_ret3
    all_goals exact ⟨rfl, rfl⟩

/-- what the bytes behind the first one make -/
def foldC (r : Int) (l : List Int) : Int := l.foldl (fun r c => r * 64 + c % 64) r
theorem foldC_snoc (r : Int) (l : List Int) (c : Int) : foldC r (l ++ [c]) = foldC r l * 64 + c % 64 := by simp [foldC]
theorem foldC_bd' : ∀ (l : List Int) (r : Int) (k : Nat), 0 ≤ r → r ≤ 128 * 64 ^ k - 1 → 0 ≤ foldC r l ∧ foldC r l ≤ 128 * 64 ^ (k + l.length) - 1 := by
  intro l
  induction l with
  | nil => intro r k h0 h1; exact ⟨h0, h1⟩
  | cons c l ih =>
    intro r k h0 h1
    have := ih (r * 64 + c % 64) (k + 1) (by omega) (by rw [Int.pow_succ]; omega)
    rw [show k + (c :: l).length = k + 1 + l.length from by simp; omega]
    exact this
theorem foldC_bd (r : Int) (h : 0 ≤ r ∧ r ≤ 127) (l : List Int) (hl : l.length ≤ 2) : 0 ≤ foldC r l ∧ foldC r l ≤ 524287 := by
  have := foldC_bd' l r 0 h.1 (by simp; omega)
  obtain h | h | h : l.length = 0 ∨ l.length = 1 ∨ l.length = 2 := by omega
  all_goals (rw [h] at this; simp at this; omega)
/-- what Next tells of n bytes from c on -/
def nextOf (n : Nat) (c : Int) (t : List Int) : Int × Nat × Int :=
  if t.all (fun x => x / 64 == 2) then (if len (foldC (c - headOf n) t) = n then (foldC (c - headOf n) t, n, 0) else (0, 0, 11)) else (0, 0, 11)

theorem nextOf_all {n : Nat} {x : Int} {t : List Int} (h : t.all (fun x => x / 64 == 2) = true) : nextOf n x t = if len (foldC (x - headOf n) t) = n then (foldC (x - headOf n) t, n, 0) else (0, 0, 11) := by
  unfold nextOf; rw [if_pos h]
theorem next_bad {n : Nat} {x y : Int} {t : List Int} {k m : Nat} (h : t.take (k + 1) = t.take k ++ [y]) (hy : (y / 64 == 2) = false) (hm : k < m) : nextOf n x (t.take m) = (0, 0, 11) := by
  unfold nextOf
  rw [if_neg]
  intro ha
  have : y ∈ t.take (k + 1) := by rw [h]; simp
  have hmem : y ∈ t.take m := (List.take_subset_take_left t (show k + 1 ≤ m by omega)) this
  rw [List.all_eq_true] at ha
  have := ha y hmem
  simp [hy] at this

theorem andNot_head : ∀ (n : Fin 5) (c : Fin 256), many c.val = n.val → 1 ≤ n.val → bits .andNot .u8 (c.val : Int) (headOf n.val) = c.val - headOf n.val := by decide +kernel

def NextSays (p : Int × Nat × Int) (w : World) (e : Ending) (w' : World) : Prop :=
  e = .returned (.tuple #[.int .i32 p.1, .int .i64 p.2.1, .int .i64 p.2.2]) ∧ Below w.heap.size w w'

set_option maxHeartbeats 1000000 in
theorem next_go (b o : Nat) (N c : Nat) (at_ n : Nat) (bs : List Int) (x : Int) (w : World) (hN : N ≤ 1000000) (hlt : at_ < N) (hc : N ≤ c) (hr : Rd w w.heap.size 1 (some ⟨b, o, none⟩) N (u8s bs)) (hb : ∀ x ∈ bs, 0 ≤ x ∧ x ≤ 255)
    (hx : bs[at_]? = some x) (hm : many x = n) (h1 : 1 ≤ n) (h2 : n ≤ N - at_) :
    Calls Try.prog 13 #[.slice (some ⟨b, o, none⟩) N c, .int .i64 at_] w (NextSays (nextOf n x ((bs.drop (at_ + 1)).take (n - 1))) w) := by
  have hn4 : n ≤ 4 := by subst hm; unfold many; repeat' split
                         all_goals omega
  have hx0 := hb x (List.mem_of_getElem? hx)
  have hcx : w.cell? ⟨b, o + at_, none⟩ = some (.int .u8 x) := by
    obtain ⟨b', o', u, e, _, hu, hcu⟩ := hr.at1 hlt
    injection e with e; injection e with e1 e2
    subst e1; subst e2
    rw [List.getElem?_map, hx] at hu
    simp at hu; subst hu; exact hcu
  have hh : bits .andNot .u8 x (headOf n) = x - headOf n := by
    have := andNot_head ⟨n, by omega⟩ ⟨x.toNat, by omega⟩
    simp only at this
    rw [show ((x.toNat : Nat) : Int) = x from by omega] at this
    exact this hm h1
  have hcx' : ∀ O, (w.alloc O).cell? ⟨b, o + at_, none⟩ = some (.int .u8 x) := fun O => (World.cell?_alloc_lt w O _ (by obtain ⟨_, _, e, hlt, _⟩ := hr.2 (by omega); injection e with e; injection e with e1; subst e1; exact hlt)).trans hcx
  have HM := Lib.hid hm
  clear hm hx
  have t1 : ((n : Int) == 0) = false := by simp; omega
  have t2 : decide ((N : Int) - (at_ : Int) < (n : Int)) = false := by simp; omega
  have t3 : decide ((at_ : Int) < 0) = false := by simp
  obtain ⟨m, hmn⟩ : ∃ m, n - 1 = m := ⟨_, rfl⟩
  rw [hmn]
  have e5 : at_ + n - (at_ + 1) = m := by omega
  have hm1 : m + 1 ≤ n := by omega
  have hm2 : n ≤ m + 1 := by omega
  clear hmn
  have hlen : bs.length = N := by simpa using hr.1
  have hB : b < w.heap.size := by obtain ⟨_, _, e, hlt, _⟩ := hr.2 (by omega); injection e with e; injection e with e1; subst e1; exact hlt
  have hx1 : 0 ≤ x - headOf n ∧ x - headOf n ≤ 127 := by
    have := HM.out
    unfold many at this
    obtain rfl | rfl | rfl | rfl : n = 1 ∨ n = 2 ∨ n = 3 ∨ n = 4 := by omega
    all_goals (simp only [headOf]; split at this; omega; try omega)
    all_goals (split at this; try omega; try omega)
    all_goals (split at this; try omega; try omega)
    all_goals (split at this; try omega; try omega)
  have e6 : IntKind.i32.wrap (x - headOf n) = x - headOf n := IntWalk.i32_in _ (by omega)
  by_cases hcc : c = at_ + 1
  all_goals
    go_enter Try.func13, Try.ntmps13
    go_wp2_with (go_at_call 23; refine (many_any _ _).mono ?_; rw [HM.out]; rintro e w' ⟨rfl, rfl⟩)
    go_cut [8] (fun s8 wx => s8 = .pointer (some ⟨w.heap.size, 0, none⟩) ∧ wx.cell? ⟨w.heap.size, 0, none⟩ = some (.int .i32 (x - headOf n)) ∧ wx.frozen? ⟨w.heap.size, 0, none⟩ = false ∧ Below w.heap.size w wx)
    case first =>
      go_region_law (go_simp; go_at_call 24; refine (head_any n _ h1 hn4).mono ?_; rintro e w' ⟨rfl, rfl⟩)
      all_goals (go_wp2_with fail; go_meet; exact ⟨rfl, by simp, by simp, ((Below.refl _ _).alloc (Nat.le_refl _) _).drew⟩)
    clear hh hcx hcx'
    case rest =>
    obtain ⟨rfl, hc0, hf0, hb0⟩ := hcut
    go_wp2
    simp only [e5]
    go_loopw [52] (fun i wr => ∃ k : Nat, k ≤ m ∧ i = .int .i64 k ∧ wr.cell? ⟨w.heap.size, 0, none⟩ = some (.int .i32 (foldC (x - headOf n) ((bs.drop (at_ + 1)).take k))) ∧ wr.frozen? ⟨w.heap.size, 0, none⟩ = false ∧ Below w.heap.size w wr ∧ ((bs.drop (at_ + 1)).take k).all (fun x => x / 64 == 2) = true) (fun i _ => n - (intOf i).toNat)
    case atStart => exact ⟨0, Nat.zero_le _, rfl, by simpa [foldC] using hc0, hf0, hb0, by simp⟩
    case round =>
      obtain ⟨k, hk, rfl, hcr, hfr, hbr, hall⟩ := hrel
      by_cases hkn : k < m
      · first
          | (exfalso; omega)
          | (
            have hy : at_ + 1 + k < bs.length := by omega
            have hcy : wr.cell? ⟨b, o + (at_ + 1) + k, none⟩ = some (.int .u8 bs[at_ + 1 + k]) := by
              refine (hbr.cell (p := ⟨b, _, none⟩) hB).trans ?_
              obtain ⟨b', o', u, e, _, hu, hcu⟩ := hr.at1 (k := at_ + 1 + k) (by omega)
              injection e with e; injection e with e1 e2
              subst e1; subst e2
              rw [List.getElem?_map, List.getElem?_eq_getElem hy] at hu
              simp at hu; subst hu
              rw [Nat.add_assoc, Nat.add_assoc] at *; exact hcu
            obtain ⟨y, hyy⟩ : ∃ y, y = bs[at_ + 1 + k] := ⟨_, rfl⟩
            rw [← hyy] at hcy
            have hyb : 0 ≤ y ∧ y ≤ 255 := by rw [hyy]; exact hb _ (List.getElem_mem _)
            have hfb := foldC_bd (x - headOf n) hx1 ((bs.drop (at_ + 1)).take k) (by rw [List.length_take]; omega)
            have htk : (bs.drop (at_ + 1)).take (k + 1) = (bs.drop (at_ + 1)).take k ++ [y] := by
              rw [List.take_add_one, List.getElem?_drop, List.getElem?_eq_getElem hy, hyy]; rfl
            have HTK := Lib.hid htk
            have HY := Lib.hid hyy
            clear htk hyy
            go_wp2_with (go_at_call 25; refine (goes_any y _ w.heap.size _ hcr hfr hfb.1 (by omega) hyb.1 hyb.2).mono ?_; rintro e w' ⟨rfl, rfl⟩)
            · go_ret3
              have h3 : (y / 64 == 2) = false := by simpa using ‹(!(y / 64 == 2)) = true›
              exact ⟨by rw [next_bad HTK.out h3 (by omega)]; rfl, hbr.setCell (Nat.le_refl _) _⟩
            · go_roundw
              case rel =>
                have h3 : (y / 64 == 2) = true := by simpa using ‹(!(y / 64 == 2)) = false›
                refine ⟨k + 1, by omega, by go_num, ?_, ?_, hbr.setCell (Nat.le_refl _) _, ?_⟩
                · rw [HTK.out, foldC_snoc]; exact World.cell?_setCell_same' _ _ _ (by rw [hcr]; rfl)
                · rw [World.frozen?_setCell]; exact hfr
                · rw [HTK.out, List.all_append, hall]; simp [h3]
              case measure => simp [intOf]; omega)
      · obtain rfl : m = k := by omega
        have HE := nextOf_all (n := n) (x := x) hall
        have hlb := len_le (foldC (x - headOf n) ((bs.drop (at_ + 1)).take m))
        generalize foldC (x - headOf n) ((bs.drop (at_ + 1)).take m) = r at *
        have HH := Lib.hid HE
        clear HE hall
        generalize hln : len r = ln at *
        have HL := Lib.hid hln
        clear hln
        by_cases hll : ln = n
        · subst hll
          go_wp2_with (go_at_call 11; refine (len_any _ _).mono ?_; rw [HL.out]; rintro e w' ⟨rfl, rfl⟩)
          go_ret3
          exact ⟨by rw [HH.out]; simp, hbr⟩
        · have hl2 : ((ln : Int) != n) = true := by simp; omega
          go_wp2_with (go_at_call 11; refine (len_any _ _).mono ?_; rw [HL.out]; rintro e w' ⟨rfl, rfl⟩)
          go_ret3
          exact ⟨by rw [HH.out, if_neg hll]; rfl, hbr⟩
end Go.Proofs.Ytlfofgefpjihlaa
