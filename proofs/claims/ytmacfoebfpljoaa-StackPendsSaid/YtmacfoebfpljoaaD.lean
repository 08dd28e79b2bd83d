/- smap: ranges, and what it gives -/
import Derived.Test.YtmacfoebfpljoaaC
import Derived.Test.YtmacfoebfpljoaaR
namespace Go.Proofs.Ytmacfoebfpljoaa
open Go.RowKit
attribute [local go_sem] Oper.semAt_some

set_option maxHeartbeats 400000 in
theorem ranges_any (A : Option Addr) (n c : Nat) (w : World) :
    Calls Try.prog 46 #[.slice A n c] w fun e w' => e = .returned (.func (.func 54) #[] #[.pointer (some ⟨w.heap.size, 0, none⟩)]) ∧ w.alloc (.cells #[.slice A n c] 23) = w' := by
  go_enter Try.func46, Try.ntmps46
  go_wp2
  go_ret
  exact ⟨rfl, rfl⟩

/-- what ranges tells: the number of each range, and the shift there -/
def told (l : List Rg) (k : Nat) : Nat × Int := (k, shiftL (l.take k))
def upto (l : List Rg) (k : Nat) : List (Nat × Int) := (List.range k).map (told l)
theorem upto_succ (l : List Rg) (k : Nat) : upto l (k + 1) = upto l k ++ [told l k] := by simp [upto, List.range_succ]
theorem upto_length (l : List Rg) (k : Nat) : (upto l k).length = k := by simp [upto]
abbrev encR (x : Nat × Int) : Array Value := #[.int .i64 (x.1 : Int), .int .i64 x.2]

theorem upto_take (l : List Rg) {k n : Nat} (h : k ≤ n) : upto l k <+: upto l n := by
  obtain ⟨d, rfl⟩ : ∃ d, n = k + d := ⟨n - k, by omega⟩
  refine ⟨((List.range d).map (fun i => k + i)).map (told l), ?_⟩
  rw [upto, upto, ← List.map_append, List.range_add]

set_option maxRecDepth 100000 in
set_option maxHeartbeats 2000000 in
theorem ranges_gives (Bs n₀ n : Nat) (A : Option Addr) (c : Nat) (m : List Rg) (w : World) (hr : rightM m = true) (hn₀ : n₀ ≤ w.heap.size) (hBl : Bs < w.heap.size) (hBs : w.cell? ⟨Bs, 0, none⟩ = some (.slice A n c)) (hrd : Rd w n₀ 3 A n (rgs m)) :
    Gives Try.prog 54 #[.pointer (some ⟨Bs, 0, none⟩)] encR n₀ (upto m n) w := by
  intro l J Jx W hW hJ hJx hY h0
  have hBs' := (hW.cell (p := ⟨Bs, 0, none⟩) hBl).trans hBs
  have hrd' := hrd.below (hW.mono hn₀)
  have hn₀' : n₀ ≤ W.heap.size := Nat.le_trans hn₀ hW.size
  clear hBs hrd hn₀ hBl hW
  have hl := hrd'.rlen
  have hn2 : n ≤ 1000 := by have := right_len hr; omega
  have HR := Lib.hid hr
  have HL := Lib.hid hl
  have HJ := Lib.hid hJ
  have HJx := Lib.hid hJx
  clear hr hl hJ hJx
  refine callsIn_of_wp Try.func54 rfl trivial ?_ rfl
  simp only [Try.ntmps54, List.size_toArray, List.length_cons, List.length_nil, Nat.reduceAdd, Nat.reduceSub, Array.replicate_succ, Array.replicate_zero, List.push_toArray, List.append_toArray, List.nil_append, List.cons_append]
  gi_wp2
  gi_loopw [3, 8] (fun v i wr => ∃ k : Nat, k ≤ n ∧ i = .int .i64 k ∧ v = .int .i64 (shiftL (m.take k)) ∧ J (upto m k) wr ∧ Below n₀ W wr) (fun _ i _ => n - (intOf i).toNat)
  case atStart => exact ⟨0, by omega, rfl, rfl, h0, Below.refl _ _⟩
  case round =>
    obtain ⟨k, hk, rfl, rfl, hJs, hbr⟩ := hrel
    by_cases hkn : k < n
    · obtain ⟨b, o, rfl, hbB, _⟩ := hrd'.2 (by omega)
      obtain ⟨r, hx⟩ : ∃ r, m[k]? = some r := ⟨_, List.getElem?_eq_getElem (by have := HL.out; omega)⟩
      obtain ⟨hc0, hc1, hc2, hb⟩ := (hrd'.below hbr).rg hx
      obtain ⟨f1, f2, f3, f4, f5, f6⟩ := right_fits HR.out r (List.mem_of_getElem? hx)
      have hsb := shift_take_bd HR.out k
      have hsn := shiftL_snoc hx
      have HS := Lib.hid hsn
      clear hx hsn
      have hbw := hbr.size
      obtain ⟨fn, tmps, assign, body, hy, hR⟩ := hY _ (told m k) wr (wr.alloc (.cells #[.int .i64 r.at_, .int .i64 r.old, .int .i64 r.new] 45)) hJs (by rw [← upto_succ]; exact upto_take m (by omega)) ((Below.refl _ _).alloc (Nat.le_refl _) _)
      dsimp only [told, encR] at hy
      have HRR := Lib.hid hR
      clear hR
      gi_wp2
      refine HRR.out.mono ?_
      rintro e W3 (⟨rfl, hJ3, hb3, hm3⟩ | ⟨rfl, hJx3⟩)
      · have hbox := fun i => cells_mid (i := i) hm3
        have hc0' : W3.cell? ⟨wr.heap.size, 0, none⟩ = some (.int .i64 r.at_) := by rw [hbox]; rfl
        have hc1' : W3.cell? ⟨wr.heap.size, 1, none⟩ = some (.int .i64 r.old) := by rw [hbox]; rfl
        have hc2' : W3.cell? ⟨wr.heap.size, 2, none⟩ = some (.int .i64 r.new) := by rw [hbox]; rfl
        clear hbox hm3
        rw [← upto_succ] at hJ3
        gi_wp2
        go_roundw
        case rel => exact ⟨k + 1, by omega, by go_num, by rw [HS.out], hJ3, (hbr.alloc (by omega) _).trans hb3⟩
        case measure => simp [intOf]; omega
      · rw [← upto_succ] at hJx3
        gi_wp2
        refine bodyPost_ret (results_none rfl _ _ _) rfl ?_
        exact ⟨⟨_, rfl⟩, .inr ⟨_, upto_take m (by omega), hJx3⟩⟩
    · obtain rfl : n = k := by omega
      gi_wp2
      go_end0
      exact ⟨⟨_, rfl⟩, .inl hJs⟩
end Go.Proofs.Ytmacfoebfpljoaa
