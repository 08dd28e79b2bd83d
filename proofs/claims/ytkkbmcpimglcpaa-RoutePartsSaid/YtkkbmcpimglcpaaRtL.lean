/- route: RouteBack -/
import Derived.Test.YtkkbmcpimglcpaaRtJ
namespace Go.Proofs.Ytkkbmcpimglcpaa
open Go.RowKit

def goods (L : List Mp) : List (List Rg) := (L.map Mp.l).filter goodM
theorem goods_append (a b : List Mp) : goods (a ++ b) = goods a ++ goods b := by simp [goods]
theorem goods_one (x : Mp) : goods [x] = if goodM x.l then [x.l] else [] := by simp [goods, List.filter_cons]
theorem goods_snoc {L : List Mp} {k : Nat} {x : Mp} (h : L[k]? = some x) : goods (L.take (k + 1)) = goods (L.take k) ++ (if goodM x.l then [x.l] else []) := by
  rw [List.take_add_one, h, Option.toList_some, goods_append, goods_one]
theorem goods_cons {L : List Mp} {k : Nat} {x : Mp} (h : L[k]? = some x) : goods (L.drop k) = (if goodM x.l then [x.l] else []) ++ goods (L.drop (k + 1)) := by
  rw [drop_cons h, show x :: L.drop (k + 1) = [x] ++ L.drop (k + 1) from rfl, goods_append, goods_one]
theorem goods_split (L : List Mp) (k : Nat) : (goods (L.take k)).length + (goods (L.drop k)).length = (goods L).length := by
  rw [← List.length_append, ← goods_append, List.take_append_drop]
theorem goods_good (L : List Mp) : ∀ m ∈ goods L, goodM m = true := by
  intro m hm
  exact (List.mem_filter.1 hm).2
theorem goods_le (L : List Mp) : (goods L).length ≤ L.length := by
  unfold goods
  have := List.length_filter_le goodM (L.map Mp.l)
  simpa using this
theorem fM_zero (N : Nat) (k : Int) : fM N 0 k = none := by unfold fM; rw [if_neg (by omega)]

/-- what a law's maps are asked for in the midst of it -/
theorem Mp.has {w : World} {x : Mp} (h : x.In w w.heap.size) : Has x.A x.n x.c x.l w := ⟨h.2.1, h.1⟩

set_option maxRecDepth 100000 in
set_option maxHeartbeats 4000000 in
theorem rback_early (A : Option Addr) (n c : Nat) (L : List Mp) (p side : Int) (w : World) (h : MpsIn w w.heap.size A n L) (hc : fewB L = false ∨ (fewB L = true ∧ p < 0) ∨ (fewB L = true ∧ 0 ≤ p ∧ 1073741824 < p)) :
    Calls Try.prog 6 #[.slice A n c, .int .i64 p, .int .i64 side] w fun e w' => e = .returned (.bool true) ∧ Below w.heap.size w w' := by
  have hfw := few_any A n c L w h
  have HF := Lib.hid hfw
  clear hfw h
  rcases hc with hc | ⟨hc, h1⟩ | ⟨hc, h0, h1⟩
  all_goals
    rw [hc] at HF
    clear hc
    go_enter Try.func6, Try.ntmps6
    go_wp2_with (first
      | (go_at_call 23; refine HF.out.mono ?_; rintro e w1 ⟨rfl, hb1⟩)
      | (go_at_call 24; refine (live24_any _).mono ?_; rintro e w2 ⟨rfl, hb2⟩))
    go_ret
    exact ⟨rfl, hb1.trans (hb2.mono hb1.size)⟩

set_option maxRecDepth 100000 in
set_option maxHeartbeats 8000000 in
theorem rback_main (A : Option Addr) (n c : Nat) (L : List Mp) (p side : Int) (w : World) (h : MpsIn w w.heap.size A n L) (hf : fewB L = true) (hp0 : 0 ≤ p) (hp1 : p ≤ 1073741824) :
    Calls Try.prog 6 #[.slice A n c, .int .i64 p, .int .i64 side] w fun e w' => e = .returned (.bool true) ∧ Below w.heap.size w w' := by
  have hfw := few_any A n c L w h
  rw [hf] at hfw
  have hl := h.len
  have hn := (fewB_spec hf).1
  rw [hl] at hn
  obtain ⟨N, hN⟩ : ∃ N, (goods L).length = N := ⟨_, rfl⟩
  have hN30 : N ≤ 30 := by have := goods_le L; omega
  have HF := Lib.hid hfw
  have HL := Lib.hid hl
  have H := Lib.hid h
  clear hfw hl h hf
  go_enter Try.func6, Try.ntmps6
  go_wp2_with (go_at_call 23; refine HF.out.mono ?_; rintro e w1 ⟨rfl, hb1⟩; have hz1 := hb1.size)
  go_loopw [8, 9] (fun v i wr => ∃ k : Nat, k ≤ n ∧ i = .int .i64 k ∧ v = .int .i64 ((goods (L.take k)).length : Nat) ∧ RouteIs wr w.heap.size w1.heap.size (goods (L.take k)) (fM N 0) ∧ Below w.heap.size w wr ∧ w.heap.size ≤ wr.heap.size) (fun _ i _ => n - (intOf i).toNat)
  case atStart => exact ⟨0, by omega, rfl, rfl, route_new _ (fM_zero N) (Bk.new w1 _ _) hz1, by repeat (first | with_reducible exact Below.refl _ _ | with_reducible assumption | (with_reducible refine below_drewN ?_ _) | (with_reducible refine Below.drew ?_) | (with_reducible refine Below.alloc ?_ ?_ _; rotate_left; focus (first | with_reducible assumption | omega | (simp; done) | (simp; omega))) | (with_reducible refine Below.setCell ?_ ?_ _; rotate_left; focus (first | with_reducible assumption | omega | (simp; done) | (simp; omega)))), by simp; omega⟩
  case round =>
    obtain ⟨k, hk, rfl, rfl, hRI, hbr, hzr⟩ := hrel
    by_cases hkn : k < n
    · obtain ⟨x, hx⟩ : ∃ x, L[k]? = some x := ⟨_, List.getElem?_eq_getElem (by have := HL.out; omega)⟩
      obtain ⟨b, o, rfl, hb, hc0, hc1, hin⟩ := H.out.at_ hx
      have hc0' : wr.cell? ⟨b, o + k * 2, none⟩ = some (.slice x.A x.n x.c) := (hbr.cell (p := ⟨b, o + k * 2, none⟩) hb).trans hc0
      have hsn := goods_snoc hx
      have hlen : (goods (L.take k)).length ≤ 30 := by have := goods_split L k; omega
      have e3 : (k : Int) < n := by omega
      have hx' := Mp.has hin
      have hA := hin.2.2
      have HS := Lib.hid hsn
      have HX := Lib.hid hx'
      have HA := Lib.hid hA
      clear hsn hx' hA hx hin
      cases hr : rightM x.l with
      | false =>
        have hg : goodM x.l = false := by unfold goodM; rw [hr]; rfl
        have hrr := HX.out.rright hbr
        rw [hr] at hrr
        have HRR := Lib.hid hrr
        rw [hg] at HS
        clear hrr hg hr
        go_wp2_with (go_at_call 11; ((with_reducible refine HRR.out.mono ?_); rintro e w2 ⟨rfl, hb2, hz2, hx2⟩))
        go_roundw
        case rel => exact ⟨k + 1, by omega, by go_num, by rw [HS.out]; simp, by rw [HS.out]; simpa using hRI.ext hx2, hb2, hz2⟩
        case measure => simp [intOf]; omega
      | true =>
        have hrr := fun W (hb : Below w.heap.size w W) => HX.out.rright hb
        rw [hr] at hrr
        have HRR := Lib.hid hrr
        have hri := fun W (hb : Below w.heap.size w W) => HX.out.rinv hb hr
        have HRI := Lib.hid hri
        have hxl : (n : Int) ≤ 30 := by omega
        cases hg2 : rightM (invM x.l) with
        | false =>
          have hg : goodM x.l = false := by unfold goodM; rw [hr, hg2]; rfl
          rw [hg] at HS
          clear hrr hri hg
          go_wp2_with (first
            | (go_at_call 11; ((with_reducible refine (HRR.out _ (by repeat (first | with_reducible exact Below.refl _ _ | with_reducible assumption | (with_reducible refine below_drewN ?_ _) | (with_reducible refine Below.drew ?_) | (with_reducible refine Below.alloc ?_ ?_ _; rotate_left; focus (first | with_reducible assumption | omega | (simp; done) | (simp; omega))) | (with_reducible refine Below.setCell ?_ ?_ _; rotate_left; focus (first | with_reducible assumption | omega | (simp; done) | (simp; omega)))))).mono ?_); rintro e w2 ⟨rfl, hb2, hz2, hx2⟩; have hc2 := (hb2.cell (p := ⟨b, o + k * 2, none⟩) hb).trans hc0))
            | (go_at_call 22; ((with_reducible refine (HRI.out _ (by repeat (first | with_reducible exact Below.refl _ _ | with_reducible assumption | (with_reducible refine below_drewN ?_ _) | (with_reducible refine Below.drew ?_) | (with_reducible refine Below.alloc ?_ ?_ _; rotate_left; focus (first | with_reducible assumption | omega | (simp; done) | (simp; omega))) | (with_reducible refine Below.setCell ?_ ?_ _; rotate_left; focus (first | with_reducible assumption | omega | (simp; done) | (simp; omega)))))).mono ?_); rintro e w3 ⟨A3, c3, rfl, H3, hb3, hz3, hx3⟩; have h4 := H3.rright (Below.refl _ _); rw [hg2] at h4))
            | (go_at_call 11; ((with_reducible refine h4.mono ?_); rintro e w4 ⟨rfl, hb4, hz4, hx4⟩)))
          go_roundw
          case rel => exact ⟨k + 1, by omega, by go_num, by rw [HS.out]; simp, by rw [HS.out]; simpa using ((hRI.ext hx2).ext hx3).ext hx4, hb3.trans (hx4.mono hz3), by omega⟩
          case measure => simp [intOf]; omega
        | true =>
          have hg : goodM x.l = true := by unfold goodM; rw [hr, hg2]; rfl
          rw [hg, if_pos rfl] at HS
          have HR1 := Lib.hid hr
          clear hrr hri hg hr
          go_wp2_with (first
            | (go_at_call 11; ((with_reducible refine (HRR.out _ (by repeat (first | with_reducible exact Below.refl _ _ | with_reducible assumption | (with_reducible refine below_drewN ?_ _) | (with_reducible refine Below.drew ?_) | (with_reducible refine Below.alloc ?_ ?_ _; rotate_left; focus (first | with_reducible assumption | omega | (simp; done) | (simp; omega))) | (with_reducible refine Below.setCell ?_ ?_ _; rotate_left; focus (first | with_reducible assumption | omega | (simp; done) | (simp; omega)))))).mono ?_); rintro e w2 ⟨rfl, hb2, hz2, hx2⟩; have hc2 := (hb2.cell (p := ⟨b, o + k * 2, none⟩) hb).trans hc0))
            | (go_at_call 22; ((with_reducible refine (HRI.out _ (by repeat (first | with_reducible exact Below.refl _ _ | with_reducible assumption | (with_reducible refine below_drewN ?_ _) | (with_reducible refine Below.drew ?_) | (with_reducible refine Below.alloc ?_ ?_ _; rotate_left; focus (first | with_reducible assumption | omega | (simp; done) | (simp; omega))) | (with_reducible refine Below.setCell ?_ ?_ _; rotate_left; focus (first | with_reducible assumption | omega | (simp; done) | (simp; omega)))))).mono ?_); rintro e w3 ⟨A3, c3, rfl, H3, hb3, hz3, hx3⟩; have h4 := H3.rright (Below.refl _ _); rw [hg2] at h4))
            | (go_at_call 11; ((with_reducible refine h4.mono ?_); rintro e w4 ⟨rfl, hb4, hz4, hx4⟩; have hb4' := hb3.trans (hx4.mono hz3); have hc4 := (hb4'.cell (p := ⟨b, o + k * 2, none⟩) hb).trans hc0; have hr4 := ((hRI.ext hx2).ext hx3).ext hx4; have hz4' : w.heap.size ≤ w4.heap.size := (by omega)))
            | (go_at_call 25; refine (add_good w.heap.size w1.heap.size _ _ x.A x.n x.c x.l w4 hr4 hz4' (HX.out.at_ hb4') HA.out HR1.out (by omega)).mono ?_; rintro e w5 ⟨rfl, r5, b5, z5, kr5⟩))
          go_roundw
          case rel => exact ⟨k + 1, by omega, by go_num, by rw [HS.out]; simp, by rw [HS.out]; exact r5, hb4'.trans b5, by omega⟩
          case measure => simp [intOf]; omega
    · obtain rfl : n = k := by omega
      rw [List.take_of_length_le (by rw [HL.out]; omega), hN]
      rw [List.take_of_length_le (by rw [HL.out]; omega)] at hRI
      have hdr : goods (L.drop n) = [] := by rw [List.drop_of_length_le (by rw [HL.out]; omega)]; rfl
      have hin0 : RouteIs wr w.heap.size w1.heap.size (goods L ++ (goods (L.drop n)).reverse.map invM) (fM N (goods (L.drop n)).length) := by rw [hdr]; simpa using hRI
      have htk : (goods (L.take n)).length = N := by rw [List.take_of_length_le (by rw [HL.out]; omega)]; exact hN
      clear hRI hk hdr
      go_wp2
      go_loopw [10, 11] (fun v i wq => ∃ j : Nat, j ≤ n ∧ i = .int .i64 ((j : Int) - 1) ∧ v = .int .i64 ((goods (L.take j)).length : Nat) ∧ RouteIs wq w.heap.size w1.heap.size (goods L ++ (goods (L.drop j)).reverse.map invM) (fM N (goods (L.drop j)).length) ∧ Below w.heap.size w wq ∧ w.heap.size ≤ wq.heap.size) (fun _ i _ => (intOf i + 1).toNat)
      case atStart => exact ⟨n, by omega, rfl, by rw [htk], hin0, hbr, hzr⟩
      case round =>
        obtain ⟨j, hj, rfl, rfl, hRQ, hbq, hzq⟩ := hrel
        clear hin0 htk
        rcases Nat.eq_zero_or_pos j with rfl | hj0
        · have hms : RouteIs wr w.heap.size w1.heap.size (there (goods L)) (fM (goods L).length (goods L).length) := by
            have := hRQ
            rw [List.drop_zero, ← hN] at this
            exact this
          have ht := rtell_route _ _ _ _ p side _ hms (inR_fM _) (by rw [there_len]; omega)
          rcases tell_there (goods_good L) p side with he | he
          all_goals
            rw [he] at ht
            simp only [Pl.val, Pl.zero] at ht
            have HT := Lib.hid ht
            clear ht he hms hRQ
            go_wp2_with (first
              | (go_at_call 27; refine HT.out.mono ?_; rintro e w2 ⟨rfl, hb2⟩; have hb2' := hbq.trans (hb2.mono hzq); have hz2 := hb2'.size)
              | (go_at_call 24; refine (live24_any _).mono ?_; rintro e w3 ⟨rfl, hb3⟩; have hb3' := (hb2'.alloc hz2 _).trans (hb3.mono (by simp; omega))))
            go_ret
            exact ⟨rfl, hb3'⟩
        · obtain ⟨k, rfl⟩ : ∃ k, j = k + 1 := ⟨j - 1, by omega⟩
          obtain ⟨x, hx⟩ : ∃ x, L[k]? = some x := ⟨_, List.getElem?_eq_getElem (by have := HL.out; omega)⟩
          obtain ⟨b, o, rfl, hb, hc0, hc1, hin⟩ := H.out.at_ hx
          have hc0' : wr.cell? ⟨b, o + k * 2, none⟩ = some (.slice x.A x.n x.c) := (hbq.cell (p := ⟨b, o + k * 2, none⟩) hb).trans hc0
          have hsn := goods_snoc hx
          have hcn := goods_cons hx
          have hsp := goods_split L (k + 1)
          have e2 : ((k + 1 : Nat) : Int) - 1 = k := by omega
          have e3 : (k : Int) < n := by omega
          have hx' := Mp.has hin
          rw [e2]
          have HS := Lib.hid hsn
          have HCN := Lib.hid hcn
          have HX := Lib.hid hx'
          clear hsn hcn hx' hx hin e2
          cases hr : rightM x.l with
          | false =>
            have hg : goodM x.l = false := by unfold goodM; rw [hr]; rfl
            have hrr := HX.out.rright hbq
            rw [hr] at hrr
            have HRR := Lib.hid hrr
            rw [hg] at HS HCN
            clear hrr hg hr
            go_wp2_with (go_at_call 11; ((with_reducible refine HRR.out.mono ?_); rintro e w2 ⟨rfl, hb2, hz2, hx2⟩))
            go_roundw
            case rel => exact ⟨k, by omega, by go_num, by rw [HS.out]; simp, by rw [HCN.out]; simpa using hRQ.ext hx2, hb2, hz2⟩
            case measure => (simp [intOf]; try omega)
          | true =>
            have hrr := fun W (hb : Below w.heap.size w W) => HX.out.rright hb
            rw [hr] at hrr
            have HRR := Lib.hid hrr
            have hri := fun W (hb : Below w.heap.size w W) => HX.out.rinv hb hr
            have HRI := Lib.hid hri
            cases hg2 : rightM (invM x.l) with
            | false =>
              have hg : goodM x.l = false := by unfold goodM; rw [hr, hg2]; rfl
              rw [hg] at HS HCN
              clear hrr hri hg
              go_wp2_with (first
                | (go_at_call 11; ((with_reducible refine (HRR.out _ (by repeat (first | with_reducible exact Below.refl _ _ | with_reducible assumption | (with_reducible refine below_drewN ?_ _) | (with_reducible refine Below.drew ?_) | (with_reducible refine Below.alloc ?_ ?_ _; rotate_left; focus (first | with_reducible assumption | omega | (simp; done) | (simp; omega))) | (with_reducible refine Below.setCell ?_ ?_ _; rotate_left; focus (first | with_reducible assumption | omega | (simp; done) | (simp; omega)))))).mono ?_); rintro e w2 ⟨rfl, hb2, hz2, hx2⟩; have hc2 := (hb2.cell (p := ⟨b, o + k * 2, none⟩) hb).trans hc0))
                | (go_at_call 22; ((with_reducible refine (HRI.out _ (by repeat (first | with_reducible exact Below.refl _ _ | with_reducible assumption | (with_reducible refine below_drewN ?_ _) | (with_reducible refine Below.drew ?_) | (with_reducible refine Below.alloc ?_ ?_ _; rotate_left; focus (first | with_reducible assumption | omega | (simp; done) | (simp; omega))) | (with_reducible refine Below.setCell ?_ ?_ _; rotate_left; focus (first | with_reducible assumption | omega | (simp; done) | (simp; omega)))))).mono ?_); rintro e w3 ⟨A3, c3, rfl, H3, hb3, hz3, hx3⟩; have h4 := H3.rright (Below.refl _ _); rw [hg2] at h4))
                | (go_at_call 11; ((with_reducible refine h4.mono ?_); rintro e w4 ⟨rfl, hb4, hz4, hx4⟩)))
              go_roundw
              case rel => exact ⟨k, by omega, by go_num, by rw [HS.out]; simp, by rw [HCN.out]; simpa using ((hRQ.ext hx2).ext hx3).ext hx4, hb3.trans (hx4.mono hz3), by omega⟩
              case measure => (simp [intOf]; try omega)
            | true =>
              have hg : goodM x.l = true := by unfold goodM; rw [hr, hg2]; rfl
              rw [hg, if_pos rfl] at HS HCN
              have HG2 := Lib.hid hg2
              have HR1 := Lib.hid hr
              have hT := congrArg List.length HS.out
              have hU := congrArg List.length HCN.out
              simp at hT hU
              have hmi := fun A5 c5 w5 (hR5 : RouteIs w5 w.heap.size w1.heap.size (goods L ++ (goods (L.drop (k + 1))).reverse.map invM) (fM N (goods (L.drop (k + 1))).length)) (hz5 : w.heap.size ≤ w5.heap.size) (ho : w5.ownsRow w.heap.size 42 3 (.slice A5 x.n c5) x.n (rgs (invM x.l))) (hA5 : A5 = none → x.n = 0) =>
                mirror_good w.heap.size w1.heap.size _ _ A5 x.n c5 (invM x.l) ((goods (L.take k)).length : Int) w5 hR5 hz5 (.inr ⟨c5, ho⟩) hA5 hg2 (by simp; omega) (by omega) (by simp; omega) (by unfold fM; rw [if_neg (by omega)])
              have hfm : upd (upd (fM N (goods (L.drop (k + 1))).length) ((goods (L.take k)).length : Int) ((goods L ++ (goods (L.drop (k + 1))).reverse.map invM).length : Nat)) ((goods L ++ (goods (L.drop (k + 1))).reverse.map invM).length : Nat) ((goods (L.take k)).length : Int) = fM N (goods (L.drop k)).length := by
                have e1 : ((goods (L.take k)).length : Int) = (N : Int) - 1 - ((goods (L.drop (k + 1))).length : Nat) := by omega
                have e2 : (goods L ++ (goods (L.drop (k + 1))).reverse.map invM).length = N + (goods (L.drop (k + 1))).length := by simp [hN]
                rw [e1, e2, fM_next, hU]
              simp only [hfm] at hmi
              have HMI := Lib.hid hmi
              clear hrr hri hg hr hmi hfm hU
              go_wp2_with (first
                | (go_at_call 22; have hst := hz4'; refine (rinv_any x.A x.n x.c x.l w4 (HX.out.at_ hb4') HR1.out).mono ?_; rintro e w5 ⟨v5, rfl, ho5, hb5⟩; obtain ⟨A5, c5, rfl, hle5, hmx5, hA5, _⟩ := own_form ho5; have r5 := hr4.ext hb5; have hz5 : w.heap.size ≤ w5.heap.size := (by have := hb5.size; omega); have ho6 := own_base ho5 hz4')
                | (go_at_call 11; ((with_reducible refine (HRR.out _ (by repeat (first | with_reducible exact Below.refl _ _ | with_reducible assumption | (with_reducible refine below_drewN ?_ _) | (with_reducible refine Below.drew ?_) | (with_reducible refine Below.alloc ?_ ?_ _; rotate_left; focus (first | with_reducible assumption | omega | (simp; done) | (simp; omega))) | (with_reducible refine Below.setCell ?_ ?_ _; rotate_left; focus (first | with_reducible assumption | omega | (simp; done) | (simp; omega)))))).mono ?_); rintro e w2 ⟨rfl, hb2, hz2, hx2⟩; have hc2 := (hb2.cell (p := ⟨b, o + k * 2, none⟩) hb).trans hc0))
                | (go_at_call 22; ((with_reducible refine (HRI.out _ (by repeat (first | with_reducible exact Below.refl _ _ | with_reducible assumption | (with_reducible refine below_drewN ?_ _) | (with_reducible refine Below.drew ?_) | (with_reducible refine Below.alloc ?_ ?_ _; rotate_left; focus (first | with_reducible assumption | omega | (simp; done) | (simp; omega))) | (with_reducible refine Below.setCell ?_ ?_ _; rotate_left; focus (first | with_reducible assumption | omega | (simp; done) | (simp; omega)))))).mono ?_); rintro e w3 ⟨A3, c3, rfl, H3, hb3, hz3, hx3⟩; have h4 := H3.rright (Below.refl _ _); rw [hg2] at h4))
                | (go_at_call 11; ((with_reducible refine h4.mono ?_); rintro e w4 ⟨rfl, hb4, hz4, hx4⟩; have hb4' := hb3.trans (hx4.mono hz3); have hc4 := (hb4'.cell (p := ⟨b, o + k * 2, none⟩) hb).trans hc0; have hr4 := ((hRQ.ext hx2).ext hx3).ext hx4; have hz4' : w.heap.size ≤ w4.heap.size := (by omega)))
                | (go_at_call 26; ((with_reducible refine (HMI.out A5 c5 w5 r5 hz5 ho6 (fun e => (hA5 e).1)).mono ?_)); rintro e w6 ⟨rfl, r6, b6, z6, kr6⟩))
              go_roundw
              case rel => exact ⟨k, by omega, by go_num, rfl, by rw [HCN.out]; simpa [HCN.out] using r6, (hb4'.trans (hb5.mono hz4')).trans b6, by omega⟩
              case measure => (simp [intOf]; try omega)
end Go.Proofs.Ytkkbmcpimglcpaa
