/- chain: steps that say the same are the same (the document's answer) -/
import Derived.Test.YtmacfoebfpljoaaCraw
namespace Go.Proofs.Ytmacfoebfpljoaa
open Go.RowKit

set_option maxRecDepth 100000 in
set_option maxHeartbeats 4000000 in
theorem rtoks_same (A A' : Option Addr) (n c c' : Nat) (l : List Tok) (w : World) (hn : n ≤ maxLen) (hrd : Rd w w.heap.size 12 A n (toks l)) (hrd' : Rd w w.heap.size 12 A' n (toks l)) :
    Calls Try.prog 26 #[.slice A n c, .slice A' n c'] w fun e w' => e = .returned (.bool true) ∧ Below w.heap.size w w' := by
  have hl := hrd.tlen
  have HL := Lib.hid hl
  clear hl
  unfold maxLen at hn
  go_enter Try.func26, Try.ntmps26
  go_wp2
  go_loopw [5] (fun i wr => ∃ k : Nat, k ≤ n ∧ i = .int .i64 k ∧ Below w.heap.size w wr) (fun i _ => n - (intOf i).toNat)
  case atStart => exact ⟨0, by omega, rfl, Below.refl _ _⟩
  case round =>
    obtain ⟨k, hk, rfl, hbr⟩ := hrel
    by_cases hkn : k < n
    · obtain ⟨r, hx⟩ : ∃ r, l[k]? = some r := ⟨_, List.getElem?_eq_getElem (by have := HL.out; omega)⟩
      obtain ⟨b, o, rfl, hb, hcc⟩ := (hrd.below hbr).el Tok.cells (fun _ => rfl) HL.out hx
      obtain ⟨b', o', rfl, hb', hdd⟩ := (hrd'.below hbr).el Tok.cells (fun _ => rfl) HL.out hx
      have e3 : (k : Int) < n := by omega
      have hc0 := hcc 0 (by omega); have hd0 := hdd 0 (by omega)
      have hc1 := hcc 1 (by omega); have hd1 := hdd 1 (by omega)
      have hc2 := hcc 2 (by omega); have hd2 := hdd 2 (by omega)
      have hc3 := hcc 3 (by omega); have hd3 := hdd 3 (by omega)
      have hc4 := hcc 4 (by omega); have hd4 := hdd 4 (by omega)
      have hc5 := hcc 5 (by omega); have hd5 := hdd 5 (by omega)
      have hc6 := hcc 6 (by omega); have hd6 := hdd 6 (by omega)
      have hc7 := hcc 7 (by omega); have hd7 := hdd 7 (by omega)
      have hc8 := hcc 8 (by omega); have hd8 := hdd 8 (by omega)
      have hc9 := hcc 9 (by omega); have hd9 := hdd 9 (by omega)
      have hc10 := hcc 10 (by omega); have hd10 := hdd 10 (by omega)
      have hc11 := hcc 11 (by omega); have hd11 := hdd 11 (by omega)
      clear hx hcc hdd
      have hq := fun w => eq_tok r r w
      rw [decide_eq_true rfl] at hq
      obtain ⟨a0, a1, a2, a3, ⟨m0, m1, m2, m3, m4, m5, m6, m7⟩⟩ := r
      dsimp [Tok.cells, Mk.cells] at hc0 hd0 hc1 hd1 hc2 hd2 hc3 hd3 hc4 hd4 hc5 hd5 hc6 hd6 hc7 hd7 hc8 hd8 hc9 hd9 hc10 hd10 hc11 hd11 hq
      go_wp2
      go_quiet (fail)
      go_wp2
      go_roundw
      case rel => exact ⟨k + 1, by omega, by go_num, below_drewN hbr _⟩
      case measure => simp [intOf]; omega
    · obtain rfl : n = k := by omega
      go_wp2
      go_ret
      exact ⟨rfl, hbr⟩

set_option maxRecDepth 100000 in
set_option maxHeartbeats 4000000 in
theorem rmks_same (A A' : Option Addr) (n c c' : Nat) (l : List Mk) (w : World) (hn : n ≤ maxLen) (hrd : Rd w w.heap.size 8 A n (mks l)) (hrd' : Rd w w.heap.size 8 A' n (mks l)) :
    Calls Try.prog 27 #[.slice A n c, .slice A' n c'] w fun e w' => e = .returned (.bool true) ∧ Below w.heap.size w w' := by
  have hl := hrd.mlen
  have HL := Lib.hid hl
  clear hl
  unfold maxLen at hn
  go_enter Try.func27, Try.ntmps27
  go_wp2
  go_loopw [5] (fun i wr => ∃ k : Nat, k ≤ n ∧ i = .int .i64 k ∧ Below w.heap.size w wr) (fun i _ => n - (intOf i).toNat)
  case atStart => exact ⟨0, by omega, rfl, Below.refl _ _⟩
  case round =>
    obtain ⟨k, hk, rfl, hbr⟩ := hrel
    by_cases hkn : k < n
    · obtain ⟨r, hx⟩ : ∃ r, l[k]? = some r := ⟨_, List.getElem?_eq_getElem (by have := HL.out; omega)⟩
      obtain ⟨b, o, rfl, hb, hcc⟩ := (hrd.below hbr).el Mk.cells (fun _ => rfl) HL.out hx
      obtain ⟨b', o', rfl, hb', hdd⟩ := (hrd'.below hbr).el Mk.cells (fun _ => rfl) HL.out hx
      have e3 : (k : Int) < n := by omega
      have hc0 := hcc 0 (by omega); have hd0 := hdd 0 (by omega)
      have hc1 := hcc 1 (by omega); have hd1 := hdd 1 (by omega)
      have hc2 := hcc 2 (by omega); have hd2 := hdd 2 (by omega)
      have hc3 := hcc 3 (by omega); have hd3 := hdd 3 (by omega)
      have hc4 := hcc 4 (by omega); have hd4 := hdd 4 (by omega)
      have hc5 := hcc 5 (by omega); have hd5 := hdd 5 (by omega)
      have hc6 := hcc 6 (by omega); have hd6 := hdd 6 (by omega)
      have hc7 := hcc 7 (by omega); have hd7 := hdd 7 (by omega)
      clear hx hcc hdd
      have hq := fun w => eq_mk 9998 r r w
      rw [decide_eq_true rfl] at hq
      obtain ⟨m0, m1, m2, m3, m4, m5, m6, m7⟩ := r
      dsimp [Mk.cells] at hc0 hd0 hc1 hd1 hc2 hd2 hc3 hd3 hc4 hd4 hc5 hd5 hc6 hd6 hc7 hd7 hq
      go_wp2
      go_quiet (fail)
      go_wp2
      go_roundw
      case rel => exact ⟨k + 1, by omega, by go_num, below_drewN hbr _⟩
      case measure => simp [intOf]; omega
    · obtain rfl : n = k := by omega
      go_wp2
      go_ret
      exact ⟨rfl, hbr⟩

set_option maxRecDepth 100000 in
set_option maxHeartbeats 4000000 in
theorem rsame_eq (x : StC) (A A' A2 A2' : Option Addr) (n n' c c' c2 c2' : Nat) (w : World) (h : (StH.mk A n c A' n' c' x).In w w.heap.size) (h2 : (StH.mk A2 n c2 A2' n' c2' x).In w w.heap.size) :
    Calls Try.prog 10 #[.agg #[.int .i64 x.k, .int .i64 x.f, .int .i64 x.t, .int .i64 x.g, .int .i64 x.h, .int .i64 x.i, .int .i64 x.m, .int .i64 x.v, .slice A n c, .slice A' n' c'], .agg #[.int .i64 x.k, .int .i64 x.f, .int .i64 x.t, .int .i64 x.g, .int .i64 x.h, .int .i64 x.i, .int .i64 x.m, .int .i64 x.v, .slice A2 n c2, .slice A2' n' c2']] w fun e w' => e = .returned (.bool true) ∧ Below w.heap.size w w' := by
  have h1 := fun W (hb : Below w.heap.size w W) => calls_on hb (rtoks_same A A2 n c c2 x.sl W (by have : n ≤ 1000000 := h.n; unfold maxLen; omega) ((h.rd.below hb).more hb.size) ((h2.rd.below hb).more hb.size))
  have h3 := fun W (hb : Below w.heap.size w W) => calls_on hb (rmks_same A' A2' n' c' c2' x.st W (by have : n' ≤ 1000000 := h.n'; unfold maxLen; omega) ((h.rd'.below hb).more hb.size) ((h2.rd'.below hb).more hb.size))
  have H1 := Lib.hid h1
  have H3 := Lib.hid h3
  obtain ⟨xk, xf, xt, xg, xh, xi, xm, xv, sl, st⟩ := x
  have k1 : Bk ((w.alloc (.cells #[.int .i64 xk, .int .i64 xf, .int .i64 xt, .int .i64 xg, .int .i64 xh, .int .i64 xi, .int .i64 xm, .int .i64 xv, .slice A n c, .slice A' n' c'] 41)).alloc (.cells #[.int .i64 xk, .int .i64 xf, .int .i64 xt, .int .i64 xg, .int .i64 xh, .int .i64 xi, .int .i64 xm, .int .i64 xv, .slice A2 n c2, .slice A2' n' c2'] 41)) w.heap.size 41 #[.int .i64 xk, .int .i64 xf, .int .i64 xt, .int .i64 xg, .int .i64 xh, .int .i64 xi, .int .i64 xm, .int .i64 xv, .slice A n c, .slice A' n' c'] := (Bk.new w 41 _).alloc _
  have k2 : Bk ((w.alloc (.cells #[.int .i64 xk, .int .i64 xf, .int .i64 xt, .int .i64 xg, .int .i64 xh, .int .i64 xi, .int .i64 xm, .int .i64 xv, .slice A n c, .slice A' n' c'] 41)).alloc (.cells #[.int .i64 xk, .int .i64 xf, .int .i64 xt, .int .i64 xg, .int .i64 xh, .int .i64 xi, .int .i64 xm, .int .i64 xv, .slice A2 n c2, .slice A2' n' c2'] 41)) (w.heap.size + 1) 41 #[.int .i64 xk, .int .i64 xf, .int .i64 xt, .int .i64 xg, .int .i64 xh, .int .i64 xi, .int .i64 xm, .int .i64 xv, .slice A2 n c2, .slice A2' n' c2'] := Bk.made 41 _ (by simp)
  simp only at *
  clear h h2 h1 h3
  go_enter Try.func10, Try.ntmps10
  go_wp2_with (first
    | (go_at_call 26; (refine (H1.out _ (by repeat (first | with_reducible exact Below.refl _ _ | with_reducible assumption | (with_reducible refine below_drewN ?_ _) | (with_reducible refine Below.drew ?_) | (with_reducible refine Below.alloc ?_ ?_ _; rotate_left; focus (first | with_reducible assumption | omega | (simp; done) | (simp; omega))) | (with_reducible refine Below.setCell ?_ ?_ _; rotate_left; focus (first | with_reducible assumption | omega | (simp; done) | (simp; omega)))))).mono ?_); rintro e w1 ⟨rfl, hb1, hz1, hx1⟩; have j1 := k1.ext hx1; have j2 := k2.ext hx1; have p8 := j1.cell 8; have p9 := j1.cell 9; have q8 := j2.cell 8; have q9 := j2.cell 9; dsimp at p8 p9 q8 q9)
    | (go_at_call 27; (refine (H3.out _ hb1).mono ?_); rintro e w2 ⟨rfl, hb2, hz2, hx2⟩))
  go_ret
  exact ⟨rfl, hb2⟩
end Go.Proofs.Ytmacfoebfpljoaa
