/- utf: Decode, both; Count -/
import Derived.Test.YtlfofgefpjihlaaH
import Derived.Test.YtlfofgefpjihlaaU
namespace Go.Proofs.Ytlfofgefpjihlaa
open Go.RowKit

abbrev i32s (l : List Int) : List Value := l.map (Value.int .i32)
theorem info_i32 : (Try.prog.info? 21).map (fun i => (i.zero, i.size, i.bytes)) = some (some (.int .i32 0), 1, 4) := by kernel_rfl

theorem nextS_ok {bs : List Int} {at_ : Nat} (h0 : ∀ x ∈ bs, 0 ≤ x ∧ x ≤ 255) (h : (nextS bs at_).2.2 = 0) :
    right (nextS bs at_).1 = true ∧ (nextS bs at_).2.1 = (enc (nextS bs at_).1).length ∧ 1 ≤ (nextS bs at_).2.1 ∧ at_ + (nextS bs at_).2.1 ≤ bs.length ∧ enc (nextS bs at_).1 = (bs.drop at_).take (nextS bs at_).2.1 := by
  unfold nextS at *
  cases hd : bs.drop at_ with
  | nil => rw [hd] at h; simp at h
  | cons x t =>
    rw [hd] at h
    simp only at h ⊢
    have hm : ∀ c ∈ x :: t, 0 ≤ c ∧ c ≤ 255 := fun c hc => h0 c (List.mem_of_mem_drop (hd ▸ hc))
    have hx := hm x (by simp)
    have hl : bs.length = at_ + (t.length + 1) := by
      have := congrArg List.length hd
      rw [List.length_drop] at this
      simp at this
      omega
    by_cases hc : many x = 0 ∨ t.length + 1 < many x
    · rw [if_pos hc] at h; simp at h
    · rw [if_neg hc] at h ⊢
      have hlen := list_lt (t := t) (n := many x - 1) (by omega)
      unfold nextOf at h
      by_cases ha : (t.take (many x - 1)).all (fun x => x / 64 == 2) = true
      · rw [if_pos ha] at h
        by_cases hn : len (foldC (x - headOf (many x)) (t.take (many x - 1))) = many x
        · rw [nextOf_all ha, if_pos hn]
          have hr := len_pos hn (by omega)
          have he := dec_enc (n := many x) (u := t.take (many x - 1)) hx.1 (by omega) (many_le x) rfl hlen (by simpa using ha) hn
          refine ⟨hr, by rw [he]; simp only [List.length_cons, hlen]; omega, by simp only; omega, by simp only; omega, ?_⟩
          simp only
          rw [he]
          obtain ⟨m, hm⟩ : ∃ m, many x = m + 1 := ⟨many x - 1, by omega⟩
          rw [hm]; simp
        · rw [if_neg hn] at h; simp at h
      · rw [if_neg ha] at h; simp at h

theorem nextS_err {bs : List Int} {at_ : Nat} (hlt : at_ < bs.length) : (nextS bs at_).2.2 = 0 ∨ (nextS bs at_).2.2 = 11 := by
  unfold nextS
  rw [List.drop_eq_getElem_cons hlt]
  simp only
  split
  · exact .inr rfl
  · unfold nextOf
    repeat' split
    all_goals first | exact .inl rfl | exact .inr rfl

def dec (bs : List Int) : Nat → Nat → List Int → List Int × Nat × Int
  | 0, _, acc => (acc, 0, 0)
  | f + 1, k, acc => if k < bs.length then (if (nextS bs k).2.2 = 0 then dec bs f (k + (nextS bs k).2.1) (acc ++ [(nextS bs k).1]) else ([], k, (nextS bs k).2.2)) else (acc, 0, 0)
def decS (bs : List Int) : List Int × Nat × Int := dec bs (bs.length + 1) 0 []

theorem dec_ok {bs : List Int} {f k : Nat} {acc : List Int} (hk : k < bs.length) (h : (nextS bs k).2.2 = 0) : dec bs (f + 1) k acc = dec bs f (k + (nextS bs k).2.1) (acc ++ [(nextS bs k).1]) := by
  rw [dec, if_pos hk, if_pos h]
theorem dec_err {bs : List Int} {f k : Nat} {acc : List Int} (hk : k < bs.length) (h : (nextS bs k).2.2 ≠ 0) : dec bs (f + 1) k acc = ([], k, (nextS bs k).2.2) := by
  rw [dec, if_pos hk, if_neg h]
theorem dec_end {bs : List Int} {f k : Nat} {acc : List Int} (hk : ¬ k < bs.length) : dec bs f k acc = (acc, 0, 0) := by
  cases f with
  | zero => rfl
  | succ f => rw [dec, if_neg hk]

def DecSays (p : List Int × Nat × Int) (w : World) (e : Ending) (w' : World) : Prop :=
  ∃ v, e = .returned (.tuple #[v, .int .i64 p.2.1, .int .i64 p.2.2]) ∧ w'.ownsRow w.heap.size 21 1 v p.1.length (i32s p.1) ∧ Below w.heap.size w w'

set_option maxHeartbeats 1000000 in
theorem decode_any (A : Option Addr) (N c : Nat) (bs : List Int) (w : World) (hN : N ≤ 100000) (hc : N ≤ c) (hr : Rd w w.heap.size 1 A N (u8s bs)) (hb : ∀ x ∈ bs, 0 ≤ x ∧ x ≤ 255) :
    Calls Try.prog 16 #[.slice A N c] w (DecSays (decS bs) w) := by
  have hl : bs.length = N := by simpa using hr.1
  have HL := Lib.hid hl
  have HB := Lib.hid hb
  clear hl hb
  go_enter Try.func16, Try.ntmps16
  go_wp2
  go_loopw [5, 6] (fun v i wr => ∃ (k f : Nat) (acc : List Int), k ≤ N ∧ i = .int .i64 k ∧ N + 1 ≤ k + f ∧ acc.length ≤ k ∧ Hid (dec bs f k acc = decS bs) ∧ wr.ownsRow w.heap.size 21 1 v acc.length (i32s acc) ∧ Below w.heap.size w wr) (fun _ i _ => N - (intOf i).toNat)
  case atStart => exact ⟨0, N + 1, [], by omega, rfl, by omega, by simp, by rw [← HL.out]; exact rfl, World.ownsRow_nil _ _ _ _, Below.refl _ _⟩
  case round =>
    obtain ⟨k, f, acc, hk, rfl, hf, hak, hD, hown, hbr⟩ := hrel
    by_cases hkN : k < N
    · have hne := next_any A N c k bs wr (by omega) hkN hc ((hr.below hbr).more hbr.size) HB.out
      have her := nextS_err (bs := bs) (at_ := k) (by have := HL.out; omega)
      have hok := nextS_ok (bs := bs) (at_ := k) HB.out
      have hd1 := dec_ok (bs := bs) (f := f - 1) (k := k) (acc := acc) (by have := HL.out; omega)
      have hd2 := dec_err (bs := bs) (f := f - 1) (k := k) (acc := acc) (by have := HL.out; omega)
      rw [show f - 1 + 1 = f by omega] at hd1 hd2
      generalize nextS bs k = p at *
      obtain ⟨r, n, er⟩ := p
      have HNE := Lib.hid hne
      have HD1 := Lib.hid hd1
      have HD2 := Lib.hid hd2
      have HOK := Lib.hid hok
      clear hne hd1 hd2 hok
      rcases her with her | her
      · simp only at her
        subst her
        have hnn : 1 ≤ n ∧ k + n ≤ N := by have := HOK.out rfl; have := HL.out; simp only at *; omega
        have hbw := hbr.size
        go_wp2_with (first | (go_at_call 13; refine HNE.out.mono ?_; rintro e w1 ⟨rfl, hb1⟩; have hown1 := own_below hown hb1; have hbr1 := hbr.trans (hb1.mono hbr.size); have hbw1 := hbr1.size) | (at_builtin; ((with_reducible refine app_one Try.underlying36 info_i32 rfl (by decide) _ w.heap.size _ acc.length _ hown1 (by unfold maxLen; omega) (by omega) hbw1 _ rfl (by simp [Value.oneCell']) rfl _ _ rfl rfl rfl ?_); intro g cap w2 hown2 hgr2 _ _)))
        have hbr2 := below_own hbr1 hown1 hgr2 hbw1 (Nat.le_refl _)
        clear hown hown1 hgr2
        go_roundw
        case rel => exact ⟨k + n, f - 1, acc ++ [r], by omega, by go_num, by omega, by simp; omega, (HD1.out (by simp)).symm.trans hD, by simpa [i32s] using hown2, hbr2⟩
        case measure => simp [intOf]; omega
      · simp only at her
        subst her
        go_wp2_with (go_at_call 13; refine HNE.out.mono ?_; rintro e w1 ⟨rfl, hb1⟩)
        refine bodyPost_ret (results_tmp3 rfl _ _ _) rfl ?_
        have hd := (HD2.out (by simp)).symm.trans hD
        rw [← hd]
        exact ⟨_, rfl, World.ownsRow_nil _ _ _ _, hbr.trans (hb1.mono hbr.size)⟩
    · go_wp2
      refine bodyPost_ret (results_tmp3 rfl _ _ _) rfl ?_
      have hd := (dec_end (f := f) (acc := acc) (by rw [HL.out]; exact hkN)).symm.trans hD
      rw [← hd]
      exact ⟨_, rfl, hown, hbr⟩
end Go.Proofs.Ytlfofgefpjihlaa
