/- merged texts: Csa RsS RsT Sm Sn Z Y Cop Rg So -/
import Derived.Test.YtmacfoebfpljoaaGreatMp7
import Derived.Test.YtmacfoebfpljoaaGreatMp19
import Derived.Test.YtmacfoebfpljoaaGreatMp4
import Derived.Test.YtmacfoebfpljoaaGreatMp10
import Derived.Test.YtmacfoebfpljoaaGreatMp1
import Derived.Test.YtmacfoebfpljoaaGreatRows
import Derived.ProofKit
import Derived.OpenShut
import Derived.ShutString
import Derived.ChangeOld
import Derived.Deep.Slices
import Derived.Deep.Strs
namespace Go.Proofs.YtmacfoebfpljoaaGreat
open Go.RowKit
set_option maxRecDepth 100000 in
set_option maxHeartbeats 4000000 in
theorem rtoks_same (A A' : Option Addr) (n c c' : Nat) (l : List Tok) (w : World) (hn : n ≤ maxLen) (hrd : Rd w w.heap.size 12 A n (toks l)) (hrd' : Rd w w.heap.size 12 A' n (toks l)) :
    Calls Tryz.prog 14 #[.slice A n c, .slice A' n c'] w fun e w' => e = .returned (.bool true) ∧ Below w.heap.size w w' := by
  have hl := hrd.tlen
  have HL := Lib.hid hl
  clear hl
  unfold maxLen at hn
  go_enter Tryz.func14, Tryz.ntmps14
  go_wp2
  go_loopw [5] (fun i wr => ∃ k : Nat, k ≤ n ∧ i = .int .i64 k ∧ Below w.heap.size w wr) (fun i _ => n - (intOf i).toNat)
  case atStart => exact ⟨0, by omega, rfl, Below.refl _ _⟩
  case round =>
    obtain ⟨k, hk, rfl, hbr⟩ := hrel
    by_cases hkn : k < n
    · obtain ⟨r, hx⟩ : ∃ r, l[k]? = some r := ⟨_, List.getElem?_eq_getElem (by have := HL.out; omega)⟩
      obtain ⟨b, o, rfl, hb, hcc⟩ := (hrd.below hbr).el Tok.cells (fun _ => rfl) HL.out hx
      obtain ⟨b', o', rfl, hb', hdd⟩ := (hrd'.below hbr).el Tok.cells (fun _ => rfl) HL.out hx
      have e3 : (k : Int) < n := by omega
      have hc0 := hcc 0 (by omega); have hd0 := hdd 0 (by omega)
      have hc1 := hcc 1 (by omega); have hd1 := hdd 1 (by omega)
      have hc2 := hcc 2 (by omega); have hd2 := hdd 2 (by omega)
      have hc3 := hcc 3 (by omega); have hd3 := hdd 3 (by omega)
      have hc4 := hcc 4 (by omega); have hd4 := hdd 4 (by omega)
      have hc5 := hcc 5 (by omega); have hd5 := hdd 5 (by omega)
      have hc6 := hcc 6 (by omega); have hd6 := hdd 6 (by omega)
      have hc7 := hcc 7 (by omega); have hd7 := hdd 7 (by omega)
      have hc8 := hcc 8 (by omega); have hd8 := hdd 8 (by omega)
      have hc9 := hcc 9 (by omega); have hd9 := hdd 9 (by omega)
      have hc10 := hcc 10 (by omega); have hd10 := hdd 10 (by omega)
      have hc11 := hcc 11 (by omega); have hd11 := hdd 11 (by omega)
      clear hx hcc hdd
      have hq := fun w => eq_tok r r w
      rw [decide_eq_true rfl] at hq
      obtain ⟨a0, a1, a2, a3, ⟨m0, m1, m2, m3, m4, m5, m6, m7⟩⟩ := r
      dsimp [Tok.cells, Mk.cells] at hc0 hd0 hc1 hd1 hc2 hd2 hc3 hd3 hc4 hd4 hc5 hd5 hc6 hd6 hc7 hd7 hc8 hd8 hc9 hd9 hc10 hd10 hc11 hd11 hq
      go_wp2
      go_quiet (fail)
      go_wp2
      go_roundw
      case rel => exact ⟨k + 1, by omega, by go_num, below_drewN hbr _⟩
      case measure => simp [intOf]; omega
    · obtain rfl : n = k := by omega
      go_wp2
      go_ret
      exact ⟨rfl, hbr⟩
set_option maxRecDepth 100000 in
set_option maxHeartbeats 4000000 in
theorem rmks_same (A A' : Option Addr) (n c c' : Nat) (l : List Mk) (w : World) (hn : n ≤ maxLen) (hrd : Rd w w.heap.size 8 A n (mks l)) (hrd' : Rd w w.heap.size 8 A' n (mks l)) :
    Calls Tryz.prog 180 #[.slice A n c, .slice A' n c'] w fun e w' => e = .returned (.bool true) ∧ Below w.heap.size w w' := by
  have hl := hrd.mlen
  have HL := Lib.hid hl
  clear hl
  unfold maxLen at hn
  go_enter Tryz.func180, Tryz.ntmps180
  go_wp2
  go_loopw [5] (fun i wr => ∃ k : Nat, k ≤ n ∧ i = .int .i64 k ∧ Below w.heap.size w wr) (fun i _ => n - (intOf i).toNat)
  case atStart => exact ⟨0, by omega, rfl, Below.refl _ _⟩
  case round =>
    obtain ⟨k, hk, rfl, hbr⟩ := hrel
    by_cases hkn : k < n
    · obtain ⟨r, hx⟩ : ∃ r, l[k]? = some r := ⟨_, List.getElem?_eq_getElem (by have := HL.out; omega)⟩
      obtain ⟨b, o, rfl, hb, hcc⟩ := (hrd.below hbr).el Mk.cells (fun _ => rfl) HL.out hx
      obtain ⟨b', o', rfl, hb', hdd⟩ := (hrd'.below hbr).el Mk.cells (fun _ => rfl) HL.out hx
      have e3 : (k : Int) < n := by omega
      have hc0 := hcc 0 (by omega); have hd0 := hdd 0 (by omega)
      have hc1 := hcc 1 (by omega); have hd1 := hdd 1 (by omega)
      have hc2 := hcc 2 (by omega); have hd2 := hdd 2 (by omega)
      have hc3 := hcc 3 (by omega); have hd3 := hdd 3 (by omega)
      have hc4 := hcc 4 (by omega); have hd4 := hdd 4 (by omega)
      have hc5 := hcc 5 (by omega); have hd5 := hdd 5 (by omega)
      have hc6 := hcc 6 (by omega); have hd6 := hdd 6 (by omega)
      have hc7 := hcc 7 (by omega); have hd7 := hdd 7 (by omega)
      clear hx hcc hdd
      have hq := fun w => eq_mk 9998 r r w
      rw [decide_eq_true rfl] at hq
      obtain ⟨m0, m1, m2, m3, m4, m5, m6, m7⟩ := r
      dsimp [Mk.cells] at hc0 hd0 hc1 hd1 hc2 hd2 hc3 hd3 hc4 hd4 hc5 hd5 hc6 hd6 hc7 hd7 hq
      go_wp2
      go_quiet (fail)
      go_wp2
      go_roundw
      case rel => exact ⟨k + 1, by omega, by go_num, below_drewN hbr _⟩
      case measure => simp [intOf]; omega
    · obtain rfl : n = k := by omega
      go_wp2
      go_ret
      exact ⟨rfl, hbr⟩
set_option maxRecDepth 100000 in
set_option maxHeartbeats 4000000 in
theorem rsame_eq (x : StC) (A A' A2 A2' : Option Addr) (n n' c c' c2 c2' : Nat) (w : World) (h : (StH.mk A n c A' n' c' x).In w w.heap.size) (h2 : (StH.mk A2 n c2 A2' n' c2' x).In w w.heap.size) :
    Calls Tryz.prog 138 #[.agg #[.int .i64 x.k, .int .i64 x.f, .int .i64 x.t, .int .i64 x.g, .int .i64 x.h, .int .i64 x.i, .int .i64 x.m, .int .i64 x.v, .slice A n c, .slice A' n' c'], .agg #[.int .i64 x.k, .int .i64 x.f, .int .i64 x.t, .int .i64 x.g, .int .i64 x.h, .int .i64 x.i, .int .i64 x.m, .int .i64 x.v, .slice A2 n c2, .slice A2' n' c2']] w fun e w' => e = .returned (.bool true) ∧ Below w.heap.size w w' := by
  have h1 := fun W (hb : Below w.heap.size w W) => calls_on hb (rtoks_same A A2 n c c2 x.sl W (by have : n ≤ 1000000 := h.n; unfold maxLen; omega) ((h.rd.below hb).more hb.size) ((h2.rd.below hb).more hb.size))
  have h3 := fun W (hb : Below w.heap.size w W) => calls_on hb (rmks_same A' A2' n' c' c2' x.st W (by have : n' ≤ 1000000 := h.n'; unfold maxLen; omega) ((h.rd'.below hb).more hb.size) ((h2.rd'.below hb).more hb.size))
  have H1 := Lib.hid h1
  have H3 := Lib.hid h3
  obtain ⟨xk, xf, xt, xg, xh, xi, xm, xv, sl, st⟩ := x
  have k1 : Bk ((w.alloc (.cells #[.int .i64 xk, .int .i64 xf, .int .i64 xt, .int .i64 xg, .int .i64 xh, .int .i64 xi, .int .i64 xm, .int .i64 xv, .slice A n c, .slice A' n' c'] 45)).alloc (.cells #[.int .i64 xk, .int .i64 xf, .int .i64 xt, .int .i64 xg, .int .i64 xh, .int .i64 xi, .int .i64 xm, .int .i64 xv, .slice A2 n c2, .slice A2' n' c2'] 45)) w.heap.size 45 #[.int .i64 xk, .int .i64 xf, .int .i64 xt, .int .i64 xg, .int .i64 xh, .int .i64 xi, .int .i64 xm, .int .i64 xv, .slice A n c, .slice A' n' c'] := (Bk.new w 45 _).alloc _
  have k2 : Bk ((w.alloc (.cells #[.int .i64 xk, .int .i64 xf, .int .i64 xt, .int .i64 xg, .int .i64 xh, .int .i64 xi, .int .i64 xm, .int .i64 xv, .slice A n c, .slice A' n' c'] 45)).alloc (.cells #[.int .i64 xk, .int .i64 xf, .int .i64 xt, .int .i64 xg, .int .i64 xh, .int .i64 xi, .int .i64 xm, .int .i64 xv, .slice A2 n c2, .slice A2' n' c2'] 45)) (w.heap.size + 1) 45 #[.int .i64 xk, .int .i64 xf, .int .i64 xt, .int .i64 xg, .int .i64 xh, .int .i64 xi, .int .i64 xm, .int .i64 xv, .slice A2 n c2, .slice A2' n' c2'] := Bk.made 45 _ (by simp)
  simp only at *
  clear h h2 h1 h3
  go_enter Tryz.func138, Tryz.ntmps138
  go_wp2_with (first
    | (go_at_call 14; (refine (H1.out _ belowA).mono ?_); rintro e w1 ⟨rfl, hb1, hz1, hx1⟩; have j1 := k1.ext hx1; have j2 := k2.ext hx1; have p8 := j1.cell 8; have p9 := j1.cell 9; have q8 := j2.cell 8; have q9 := j2.cell 9; dsimp at p8 p9 q8 q9)
    | (go_at_call 180; (refine (H3.out _ hb1).mono ?_); rintro e w2 ⟨rfl, hb2, hz2, hx2⟩))
  go_ret
  exact ⟨rfl, hb2⟩
end Go.Proofs.YtmacfoebfpljoaaGreat
namespace Go.Proofs.YtmacfoebfpljoaaGreat
open Go.RowKit
set_option linter.unusedVariables false
set_option maxRecDepth 100000 in
set_option maxHeartbeats 4000000 in
theorem ours_any (A : Option Addr) (n c : Nat) (L : List GrH) (w : World) (h : GrsIn w w.heap.size A n L) (hn : n ≤ 1000) :
    Calls Tryz.prog 43 #[.slice A n c] w fun e w' => ∃ v, e = .returned v ∧ w'.ownsRow w.heap.size 93 8 v n (grs L) ∧ Below w.heap.size w w' := by
  have hlen := h.len
  have H := Lib.hid h
  have HLEN := Lib.hid hlen
  clear h hlen
  go_enter Tryz.func43, Tryz.ntmps43
  go_wp2
  go_loopw [3, 4] (fun v j wr => ∃ q : Nat, q ≤ n ∧ j = .int .i64 q ∧ Below w.heap.size w wr ∧ wr.ownsRow w.heap.size 93 8 v q (grs (L.take q))) (fun _ j _ => n - (intOf j).toNat)
  case atStart => exact ⟨0, by omega, rfl, Below.refl _ _, World.ownsRow_nil _ _ _ _⟩
  case round =>
    obtain ⟨q, hq, rfl, hbr, hown⟩ := hrel
    by_cases hqn : q < n
    · obtain ⟨g, hx⟩ : ∃ g, L[q]? = some g := ⟨_, List.getElem?_eq_getElem (by have := HLEN.out; omega)⟩
      obtain ⟨gin, b, o, rfl, hb, hcc⟩ := GrsIn.at_ H.out hx
      have hgs := grs_snoc hx
      have HGS := Lib.hid hgs
      have HB0 := hbr.size
      have hF : ∀ w', Below w.heap.size w w' → w'.cell? ⟨b, o + q * 8, none⟩ = some (.slice g.A g.n g.c) ∧ w'.cell? ⟨b, o + q * 8 + 1, none⟩ = some (.int .i64 g.pin.k) ∧ w'.cell? ⟨b, o + q * 8 + 2, none⟩ = some (.int .i64 g.pin.a) ∧ w'.cell? ⟨b, o + q * 8 + 3, none⟩ = some (.int .i64 g.pin.b) ∧ w'.cell? ⟨b, o + q * 8 + 4, none⟩ = some (.int .i64 g.back.k) ∧ w'.cell? ⟨b, o + q * 8 + 5, none⟩ = some (.int .i64 g.back.a) ∧ w'.cell? ⟨b, o + q * 8 + 6, none⟩ = some (.int .i64 g.back.b) ∧ w'.cell? ⟨b, o + q * 8 + 7, none⟩ = some (.int .i64 g.lost) := fun w' hb' => ⟨(hb'.cell (by simpa using hb)).trans (hcc 0 (by omega)), (hb'.cell (by simpa using hb)).trans (hcc 1 (by omega)), (hb'.cell (by simpa using hb)).trans (hcc 2 (by omega)), (hb'.cell (by simpa using hb)).trans (hcc 3 (by omega)), (hb'.cell (by simpa using hb)).trans (hcc 4 (by omega)), (hb'.cell (by simpa using hb)).trans (hcc 5 (by omega)), (hb'.cell (by simpa using hb)).trans (hcc 6 (by omega)), (hb'.cell (by simpa using hb)).trans (hcc 7 (by omega))⟩
      have HF := Lib.hid hF
      obtain ⟨gA, gn, gc, gL, ⟨pk, pa, pb⟩, ⟨bk, ba, bb⟩, glost⟩ := g
      dsimp only at HF
      have e3 : (q : Int) < n := by omega
      clear hx hcc hF gin hgs
      go_upto_region 5 with fail
      refine wp_normal ?_
      refine wp_region_held_drew (S := fun w' => Below w.heap.size w w') (by kernel_rfl) hbr.drew (fun hHeld => ?_)
      (refine tkH 0 ?_; refine tkH 1 ?_; refine tkH 2 ?_; refine tkH 3 ?_; refine tkH 4 ?_; refine tkH 5 ?_; refine tkH 6 ?_; refine tkH 7 ?_; refine tkH 8 ?_; refine tkH 9 ?_; refine tkH 10 ?_; refine tkH 11 ?_; refine tkH 12 ?_; refine tkH 13 ?_; refine tkH 14 ?_; refine tkH 15 ?_; refine tkH 16 ?_; refine tkH 17 ?_; refine tkH 18 ?_; refine tkH 19 ?_; refine tkH 20 ?_; refine tkH 21 ?_)
      refine nxH 22 (fun K hK => ?_)
      go_simp
      refine hK.out _ _ belowA (fun hHeld => ?_)
      clear hK K; refine puH ?_
      refine nxH 23 (fun K hK => ?_)
      refine app_at_step Tryz.underlying85 info_groupR rfl (by decide) w.heap.size _ q _ (World.ownsRow.alloc (w := wr) hown _) (by unfold maxLen; omega) (by omega) (by simp; omega) wr.heap.size (grp (.slice gA gn gc) pk pa pb bk ba bb glost) (Bk.drew (Bk.new wr 93 _)) rfl (by simp [Value.oneCell']) rfl _ _ rfl rfl rfl ?_
      intro g4 cap4 w4 hown4 hgr4 hat4 hlt4
      have own1 : (wr.alloc (.cells (grp (.slice gA gn gc) pk pa pb bk ba bb glost) 93)).drew.ownsRow w.heap.size 93 8 _ q (grs (L.take q)) := World.ownsRow.alloc (w := wr) hown _
      have hb1 : Below w.heap.size w (wr.alloc (.cells (grp (.slice gA gn gc) pk pa pb bk ba bb glost) 93)).drew := belowA
      have hb4 := below_own hb1 own1 hgr4 (by simp; omega) (Nat.le_refl _)
      refine hK.out _ _ hb4 (fun hHeld => ?_)
      clear hK K; refine puH ?_
      (refine tkH 24 ?_)
      refine wpAnyH_done (by kernel_rfl) ?_ _
      go_wp2
      go_roundw
      case rel =>
        refine ⟨q + 1, by omega, by go_num, hb4, ?_⟩
        rw [HGS.out]
        exact hown4
      case measure => simp [intOf]; omega
    · obtain rfl : q = n := by omega
      rw [List.take_of_length_le (by rw [HLEN.out]; omega)] at hown
      go_wp2
      go_ret
      exact ⟨_, rfl, hown, hbr⟩
theorem eq_pn (a b c x y z : Int) (w : World) : (Op.equalIn 10000 91 (.agg #[.int .i64 a, .int .i64 b, .int .i64 c]) (.agg #[.int .i64 x, .int .i64 y, .int .i64 z])).run Tryz.prog w = .ok (decide (a = x ∧ b = y ∧ c = z)) w := by
  have u1 := Tryz.underlying3
  have a1 := Tryz.isAgg3
  have z1 := Tryz.sizeOf3
  have hS : Tryz.prog.underlying 91 = some (.struct (Tryz.prog.fieldsOf 91)) := by kernel_rfl
  have hp : Tryz.prog.stoodInHeld 91 = false := by kernel_rfl
  rw [show (10000 : Nat) = 9999 + 1 from rfl, run_equalIn_agg w 9999 91 _ _ hS hp]
  simp only [Program.fieldsOf, Tryz.underlying91]
  go_simp
  clear u1 z1 hS hp
  repeat' split
  all_goals simp_all
@[go_sem] theorem eq_pn_at (a b c : Int) (w : World) : (Op.equalIn 10000 91 (.agg #[.int .i64 a, .int .i64 b, .int .i64 c]) (.agg #[.int .i64 a, .int .i64 b, .int .i64 c])).run Tryz.prog w = .ok true w := by
  rw [eq_pn]; simp
@[go_sem] theorem guard_pn : Tryz.prog.eqGuardType Tryz.prog.depth 91 = false := by kernel_rfl
theorem map_at {α β : Type} {f : α → β} {L L' : List α} {k : Nat} {x x' : α} (he : L.map f = L'.map f) (hx : L[k]? = some x) (hx' : L'[k]? = some x') : f x = f x' := by
  have h := congrArg (·[k]?) he
  simp only [List.getElem?_map, hx, hx', Option.map_some] at h
  exact Option.some.inj h
set_option maxRecDepth 100000 in
set_option maxHeartbeats 4000000 in
theorem rlist_same (A A' : Option Addr) (n c c' : Nat) (L L' : List StH) (w : World) (h : StsIn w w.heap.size A n L) (h' : StsIn w w.heap.size A' n L') (he : L.map StH.x = L'.map StH.x) (hn : n ≤ 1000) :
    Calls Tryz.prog 88 #[.slice A n c, .slice A' n c'] w fun e w' => e = .returned (.bool true) ∧ Below w.heap.size w w' := by
  have hl := h.len
  have hl' := h'.len
  have HL := Lib.hid hl
  have HL' := Lib.hid hl'
  have H := Lib.hid h
  have H' := Lib.hid h'
  have HE := Lib.hid he
  clear hl hl' h h' he
  go_enter Tryz.func88, Tryz.ntmps88
  go_wp2
  go_loopw [5] (fun i wr => ∃ k : Nat, k ≤ n ∧ i = .int .i64 k ∧ Below w.heap.size w wr) (fun i _ => n - (intOf i).toNat)
  case atStart => exact ⟨0, by omega, rfl, Below.refl _ _⟩
  case round =>
    obtain ⟨k, hk, rfl, hbr⟩ := hrel
    by_cases hkn : k < n
    · obtain ⟨r, hx⟩ : ∃ r, L[k]? = some r := ⟨_, List.getElem?_eq_getElem (by have := HL.out; omega)⟩
      obtain ⟨s, hy⟩ : ∃ s, L'[k]? = some s := ⟨_, List.getElem?_eq_getElem (by have := HL'.out; omega)⟩
      have hxs := map_at HE.out hx hy
      obtain ⟨hin, b, o, rfl, hb, hcc⟩ := H.out.at_ hx
      obtain ⟨hin', b', o', rfl, hb', hdd⟩ := H'.out.at_ hy
      have e3 : (k : Int) < n := by omega
      clear hx hy
      obtain ⟨rA, rn, rc, rA', rn', rc', rx⟩ := r
      obtain ⟨sA, sn, sc, sA', sn', sc', sx⟩ := s
      dsimp only at hxs
      subst hxs
      have hrn : sn = rn := by have h1 := hin.rd.tlen; have h2 := hin'.rd.tlen; dsimp only at h1 h2; omega
      have hrn' : sn' = rn' := by have h1 := hin.rd'.mlen; have h2 := hin'.rd'.mlen; dsimp only at h1 h2; omega
      subst hrn
      subst hrn'
      have HSM := Lib.hid (show ∀ W, Below w.heap.size w W → Calls Tryz.prog 138 _ W fun e w' => e = .returned (.bool true) ∧ Below W.heap.size W w' from fun W hb => rsame_eq rx rA rA' sA sA' sn sn' rc rc' sc sc' W (hin.ext hb) (hin'.ext hb))
      have hF : ∀ w', Below w.heap.size w w' → w'.cell? ⟨b, o + k * 10, none⟩ = some (.int .i64 rx.k) ∧ w'.cell? ⟨b, o + k * 10 + 1, none⟩ = some (.int .i64 rx.f) ∧ w'.cell? ⟨b, o + k * 10 + 2, none⟩ = some (.int .i64 rx.t) ∧ w'.cell? ⟨b, o + k * 10 + 3, none⟩ = some (.int .i64 rx.g) ∧ w'.cell? ⟨b, o + k * 10 + 4, none⟩ = some (.int .i64 rx.h) ∧ w'.cell? ⟨b, o + k * 10 + 5, none⟩ = some (.int .i64 rx.i) ∧ w'.cell? ⟨b, o + k * 10 + 6, none⟩ = some (.int .i64 rx.m) ∧ w'.cell? ⟨b, o + k * 10 + 7, none⟩ = some (.int .i64 rx.v) ∧ w'.cell? ⟨b, o + k * 10 + 8, none⟩ = some (.slice rA sn rc) ∧ w'.cell? ⟨b, o + k * 10 + 9, none⟩ = some (.slice rA' sn' rc') ∧ w'.cell? ⟨b', o' + k * 10, none⟩ = some (.int .i64 rx.k) ∧ w'.cell? ⟨b', o' + k * 10 + 1, none⟩ = some (.int .i64 rx.f) ∧ w'.cell? ⟨b', o' + k * 10 + 2, none⟩ = some (.int .i64 rx.t) ∧ w'.cell? ⟨b', o' + k * 10 + 3, none⟩ = some (.int .i64 rx.g) ∧ w'.cell? ⟨b', o' + k * 10 + 4, none⟩ = some (.int .i64 rx.h) ∧ w'.cell? ⟨b', o' + k * 10 + 5, none⟩ = some (.int .i64 rx.i) ∧ w'.cell? ⟨b', o' + k * 10 + 6, none⟩ = some (.int .i64 rx.m) ∧ w'.cell? ⟨b', o' + k * 10 + 7, none⟩ = some (.int .i64 rx.v) ∧ w'.cell? ⟨b', o' + k * 10 + 8, none⟩ = some (.slice sA sn sc) ∧ w'.cell? ⟨b', o' + k * 10 + 9, none⟩ = some (.slice sA' sn' sc') := fun w' hb2 => ⟨(hb2.cell (by simpa using hb)).trans (hcc 0 (by omega)), (hb2.cell (by simpa using hb)).trans (hcc 1 (by omega)), (hb2.cell (by simpa using hb)).trans (hcc 2 (by omega)), (hb2.cell (by simpa using hb)).trans (hcc 3 (by omega)), (hb2.cell (by simpa using hb)).trans (hcc 4 (by omega)), (hb2.cell (by simpa using hb)).trans (hcc 5 (by omega)), (hb2.cell (by simpa using hb)).trans (hcc 6 (by omega)), (hb2.cell (by simpa using hb)).trans (hcc 7 (by omega)), (hb2.cell (by simpa using hb)).trans (hcc 8 (by omega)), (hb2.cell (by simpa using hb)).trans (hcc 9 (by omega)), (hb2.cell (by simpa using hb')).trans (hdd 0 (by omega)), (hb2.cell (by simpa using hb')).trans (hdd 1 (by omega)), (hb2.cell (by simpa using hb')).trans (hdd 2 (by omega)), (hb2.cell (by simpa using hb')).trans (hdd 3 (by omega)), (hb2.cell (by simpa using hb')).trans (hdd 4 (by omega)), (hb2.cell (by simpa using hb')).trans (hdd 5 (by omega)), (hb2.cell (by simpa using hb')).trans (hdd 6 (by omega)), (hb2.cell (by simpa using hb')).trans (hdd 7 (by omega)), (hb2.cell (by simpa using hb')).trans (hdd 8 (by omega)), (hb2.cell (by simpa using hb')).trans (hdd 9 (by omega))⟩
      have HF := Lib.hid hF
      clear hF hcc hdd hin hin'
      go_upto_region 6 with fail
      refine wp_normal ?_
      refine wp_region_held_drew (S := fun w' => Below w.heap.size w w') (by kernel_rfl) hbr.drew (fun hHeld => ?_)
      (refine tkH 0 ?_; refine tkH 1 ?_; refine tkH 2 ?_; refine tkH 3 ?_; refine tkH 4 ?_; refine tkH 5 ?_; refine tkH 6 ?_; refine tkH 7 ?_)
      refine nxH 8 (fun K hK => ?_)
      go_simp
      go_at_call 138
      refine (HSM.out _ (by first | exact hHeld | exact hbr.drew)).mono ?_
      rintro e w4 ⟨rfl, hb4⟩
      have hb5 : Below w.heap.size w w4 := hbr.drew.trans (hb4.mono hbr.drew.size)
      refine hK.out _ _ hb5 (fun hHeld => ?_)
      clear hK K; refine puH ?_
      (refine tkH 9 ?_)
      refine wpAnyH_done (by kernel_rfl) ?_ _
      go_wp2
      go_roundw
      case rel => exact ⟨k + 1, by omega, by go_num, hb5⟩
      case measure => simp [intOf]; omega
    · obtain rfl : n = k := by omega
      go_wp2
      go_ret
      exact ⟨rfl, hbr⟩
set_option maxRecDepth 100000 in
set_option maxHeartbeats 4000000 in
theorem rgroups_same (A A' : Option Addr) (n c c' : Nat) (L L' : List GrH) (w : World) (h : GrsIn w w.heap.size A n L) (h' : GrsIn w w.heap.size A' n L') (he : L.map GrH.val = L'.map GrH.val) (hn : n ≤ 1000) (hs : ∀ g ∈ L, g.n ≤ 1000) :
    Calls Tryz.prog 42 #[.slice A n c, .slice A' n c'] w fun e w' => e = .returned (.bool true) ∧ Below w.heap.size w w' := by
  have hl := h.len
  have hl' := h'.len
  have HL := Lib.hid hl
  have HL' := Lib.hid hl'
  have H := Lib.hid h
  have H' := Lib.hid h'
  have HE := Lib.hid he
  have HS := Lib.hid hs
  clear hl hl' h h' he hs
  go_enter Tryz.func42, Tryz.ntmps42
  go_wp2
  go_loopw [5] (fun i wr => ∃ k : Nat, k ≤ n ∧ i = .int .i64 k ∧ Below w.heap.size w wr) (fun i _ => n - (intOf i).toNat)
  case atStart => exact ⟨0, by omega, rfl, Below.refl _ _⟩
  case round =>
    obtain ⟨k, hk, rfl, hbr⟩ := hrel
    by_cases hkn : k < n
    · obtain ⟨r, hx⟩ : ∃ r, L[k]? = some r := ⟨_, List.getElem?_eq_getElem (by have := HL.out; omega)⟩
      obtain ⟨s, hy⟩ : ∃ s, L'[k]? = some s := ⟨_, List.getElem?_eq_getElem (by have := HL'.out; omega)⟩
      have hxs := map_at HE.out hx hy
      have hr1 := HS.out r (List.mem_of_getElem? hx)
      obtain ⟨hin, b, o, rfl, hb, hcc⟩ := H.out.at_ hx
      obtain ⟨hin', b', o', rfl, hb', hdd⟩ := H'.out.at_ hy
      have e3 : (k : Int) < n := by omega
      clear hx hy
      obtain ⟨gA, gn, gc, gL, p, bk, lost⟩ := r
      obtain ⟨sA, sn, sc, sL, p', bk', lost'⟩ := s
      simp only [GrH.val, GrC.mk.injEq] at hxs
      obtain ⟨hxL, rfl, rfl, rfl⟩ := hxs
      have hrn : sn = gn := by have h1 := hin.sts.len; have h2 := hin'.sts.len; have h3 := congrArg List.length hxL; simp only [List.length_map] at h3; dsimp only at h1 h2; omega
      subst hrn
      have hF : ∀ w', Below w.heap.size w w' → w'.cell? ⟨b, o + k * 8, none⟩ = some (.slice gA sn gc) ∧ w'.cell? ⟨b, o + k * 8 + 1, none⟩ = some (.int .i64 p.k) ∧ w'.cell? ⟨b, o + k * 8 + 2, none⟩ = some (.int .i64 p.a) ∧ w'.cell? ⟨b, o + k * 8 + 3, none⟩ = some (.int .i64 p.b) ∧ w'.cell? ⟨b, o + k * 8 + 4, none⟩ = some (.int .i64 bk.k) ∧ w'.cell? ⟨b, o + k * 8 + 5, none⟩ = some (.int .i64 bk.a) ∧ w'.cell? ⟨b, o + k * 8 + 6, none⟩ = some (.int .i64 bk.b) ∧ w'.cell? ⟨b, o + k * 8 + 7, none⟩ = some (.int .i64 lost) ∧ w'.cell? ⟨b', o' + k * 8, none⟩ = some (.slice sA sn sc) ∧ w'.cell? ⟨b', o' + k * 8 + 1, none⟩ = some (.int .i64 p.k) ∧ w'.cell? ⟨b', o' + k * 8 + 2, none⟩ = some (.int .i64 p.a) ∧ w'.cell? ⟨b', o' + k * 8 + 3, none⟩ = some (.int .i64 p.b) ∧ w'.cell? ⟨b', o' + k * 8 + 4, none⟩ = some (.int .i64 bk.k) ∧ w'.cell? ⟨b', o' + k * 8 + 5, none⟩ = some (.int .i64 bk.a) ∧ w'.cell? ⟨b', o' + k * 8 + 6, none⟩ = some (.int .i64 bk.b) ∧ w'.cell? ⟨b', o' + k * 8 + 7, none⟩ = some (.int .i64 lost) := fun w' hb2 => ⟨(hb2.cell (by simpa using hb)).trans (hcc 0 (by omega)), (hb2.cell (by simpa using hb)).trans (hcc 1 (by omega)), (hb2.cell (by simpa using hb)).trans (hcc 2 (by omega)), (hb2.cell (by simpa using hb)).trans (hcc 3 (by omega)), (hb2.cell (by simpa using hb)).trans (hcc 4 (by omega)), (hb2.cell (by simpa using hb)).trans (hcc 5 (by omega)), (hb2.cell (by simpa using hb)).trans (hcc 6 (by omega)), (hb2.cell (by simpa using hb)).trans (hcc 7 (by omega)), (hb2.cell (by simpa using hb')).trans (hdd 0 (by omega)), (hb2.cell (by simpa using hb')).trans (hdd 1 (by omega)), (hb2.cell (by simpa using hb')).trans (hdd 2 (by omega)), (hb2.cell (by simpa using hb')).trans (hdd 3 (by omega)), (hb2.cell (by simpa using hb')).trans (hdd 4 (by omega)), (hb2.cell (by simpa using hb')).trans (hdd 5 (by omega)), (hb2.cell (by simpa using hb')).trans (hdd 6 (by omega)), (hb2.cell (by simpa using hb')).trans (hdd 7 (by omega))⟩
      have HSM := Lib.hid (show ∀ W, Below w.heap.size w W → Calls Tryz.prog 88 _ W fun e w' => e = .returned (.bool true) ∧ Below W.heap.size W w' from fun W hb => rlist_same gA sA sn gc sc gL sL W (hin.ext hb).sts (hin'.ext hb).sts hxL hr1)
      have HF := Lib.hid hF
      clear hF hcc hdd hin hin' hxL hr1
      obtain ⟨pk, pa, pb⟩ := p
      obtain ⟨qk, qa, qb⟩ := bk
      dsimp only at HF
      go_upto_region 6 with fail
      refine wp_normal ?_
      refine wp_region_held_drew (S := fun w' => Below w.heap.size w w') (by kernel_rfl) hbr.drew (fun hHeld => ?_)
      (refine tkH 0 ?_; refine tkH 1 ?_; refine tkH 2 ?_; refine tkH 3 ?_; refine tkH 4 ?_; refine tkH 5 ?_; refine tkH 6 ?_; refine tkH 7 ?_; refine tkH 8 ?_; refine tkH 9 ?_; refine tkH 10 ?_; refine tkH 11 ?_; refine tkH 12 ?_; refine tkH 13 ?_; refine tkH 14 ?_; refine tkH 15 ?_; refine tkH 16 ?_; refine tkH 17 ?_; refine tkH 18 ?_; refine tkH 19 ?_; refine tkH 20 ?_; refine tkH 21 ?_; refine tkH 22 ?_; refine tkH 23 ?_; refine tkH 24 ?_; refine tkH 25 ?_; refine tkH 26 ?_; refine tkH 27 ?_; refine tkH 28 ?_; refine tkH 29 ?_; refine tkH 30 ?_; refine tkH 31 ?_; refine tkH 32 ?_; refine tkH 33 ?_; refine tkH 34 ?_; refine tkH 35 ?_; refine tkH 36 ?_; refine tkH 37 ?_; refine tkH 38 ?_; refine tkH 39 ?_; refine tkH 40 ?_; refine tkH 41 ?_; refine tkH 42 ?_; refine tkH 43 ?_; refine tkH 44 ?_; refine tkH 45 ?_; refine tkH 46 ?_; refine tkH 47 ?_)
      refine nxH 48 (fun K hK => ?_)
      go_simp
      go_at_call 88
      refine (HSM.out _ (by first | exact hHeld | exact hbr.drew)).mono ?_
      rintro e w4 ⟨rfl, hb4⟩
      have hb5 : Below w.heap.size w w4 := hbr.drew.trans (hb4.mono hbr.drew.size)
      refine hK.out _ _ hb5 (fun hHeld => ?_)
      clear hK K; refine puH ?_
      (refine tkH 49 ?_; refine tkH 50 ?_)
      refine wpAnyH_done (by kernel_rfl) ?_ _
      go_wp2
      go_roundw
      case rel => exact ⟨k + 1, by omega, by go_num, hb5⟩
      case measure => simp [intOf]; omega
    · obtain rfl : n = k := by omega
      go_wp2
      go_ret
      exact ⟨rfl, hbr⟩
/-- steps ahead of the newest group's, the oldest group first -/
def extV (xs : List StC) (V : List GrC) : List GrC := (V.reverse.modify 0 (extC xs)).reverse
theorem extV_snoc (xs : List StC) (D : List GrC) (g : GrC) : extV xs (D ++ [g]) = D ++ [extC xs g] := by simp [extV]
theorem grs_set (D : List GrH) (g g' : GrH) (u : Value) (h : g'.cells = g.cells.set 0 u) : (grs (D ++ [g])).set (D.length * 8) u = grs (D ++ [g']) := by
  rw [grs_append, grs_append, ← grs_len, List.set_append, if_neg (Nat.lt_irrefl _)]
  simp [grs, h]
set_option maxRecDepth 100000 in
set_option maxHeartbeats 4000000 in
theorem extend_none (base bs : Nat) (lv mv : Value) (depth : Int) (Ms : List MpH) (A : Option Addr) (n c : Nat) (w : World) (h : StkAt w base bs lv mv depth [] Ms) :
    Calls Tryz.prog 27 #[.pointer (some ⟨bs, 0, none⟩), .slice A n c] w fun e w' => e = .returned (.tuple #[.int .i64 0, .int .i64 14]) ∧ Below w.heap.size w w' := by
  obtain ⟨A1, c1, rfl, -, -, -, -⟩ := own_form h.l
  have c0 : w.cell? ⟨bs, 1, none⟩ = some (.slice A1 0 c1) := h.k.cell 1
  have hlt := def_lt' h.k
  clear h
  go_enter Tryz.func27, Tryz.ntmps27
  go_wp2
  exact bodyPost_ret (v := .tuple #[.int .i64 0, .int .i64 14]) (by simp [results, Tryz.results27, go_sem]) rfl ⟨rfl, Below.refl _ _⟩
set_option maxRecDepth 100000 in
set_option maxHeartbeats 8000000 in
theorem extend_any (base bs : Nat) (lv mv : Value) (depth : Int) (L : List GrH) (Ms : List MpH) (A : Option Addr) (n c : Nat) (X : List StH) (w : World) (h : StkAt w base bs lv mv depth L Ms) (hX : ∀ w', Stir (fun i => i = bs ∨ lv.ownBlock = some i ∨ mv.ownBlock = some i) w w' → StsIn w' w'.heap.size A n X) (hA : A = none → n = 0) (hn : n ≤ 1000) (hL : L ≠ []) (hbd : ∀ g ∈ foldV (Ms.map MpH.l) (L.map GrH.val), n + g.steps.length ≤ 1000) :
    Calls Tryz.prog 27 #[.pointer (some ⟨bs, 0, none⟩), .slice A n c] w fun e w' => e = .returned (.tuple #[.int .i64 (trimV depth (extV (X.map StH.x) (foldV (Ms.map MpH.l) (L.map GrH.val))) : Nat), .int .i64 0]) ∧ StkOut base bs lv mv depth ((extV (X.map StH.x) (foldV (Ms.map MpH.l) (L.map GrH.val))).drop (trimV depth (extV (X.map StH.x) (foldV (Ms.map MpH.l) (L.map GrH.val))))) [] w w' := by
  have hlt := def_lt' h.k
  have hbz : base ≤ w.heap.size := Nat.le_of_lt (Nat.lt_of_le_of_lt h.le hlt)
  have hfo := fold_any base bs lv mv depth L Ms w h
  have HFO := Lib.hid hfo
  have HX := Lib.hid hX
  have HA := Lib.hid hA
  have HBD := Lib.hid hbd
  have HV := Lib.hid (foldV_len (Ms.map MpH.l) (L.map GrH.val))
  have hmL : (L.map GrH.val).length = L.length := List.length_map _
  have hpos : 0 < L.length := List.length_pos_iff.2 hL
  obtain ⟨A1, c1, rfl, -, -, -, -⟩ := own_form h.l
  have c0 : w.cell? ⟨bs, 1, none⟩ = some (.slice A1 L.length c1) := h.k.cell 1
  have e1 : ((L.length : Int) == 0) = false := beq_false_of_ne (by omega)
  clear h hfo hX hA hbd hL
  go_enter Tryz.func27, Tryz.ntmps27
  go_wp2_with (go_at_call 28; fail)
  refine HFO.out.mono ?_
  rintro e w2 ⟨⟨v, rfl⟩, lv1, mv1, L1, Ms1, hs2, hV1, hM1, hto⟩
  obtain rfl : Ms1 = [] := by simpa using hM1
  have hL1 : L1.length = L.length := by
    have := congrArg List.length hV1
    rw [List.length_map, HV.out, hmL] at this
    omega
  obtain ⟨D, g1, rfl⟩ : ∃ D g1, L1 = D ++ [g1] := ⟨L1.dropLast, L1.getLast (by intro h; subst h; simp at hL1; omega), (List.dropLast_concat_getLast _).symm⟩
  have hin2 := HX.out w2 hto.1
  have hz2 := hto.1.size
  obtain ⟨gb, cap, rfl⟩ : ∃ gb cap, lv1 = .slice (some ⟨gb, 0, none⟩) (D.length + 1) cap := by
    rcases hs2.l.2 with ⟨_, h0⟩ | ⟨g, cap, cur, h0, _⟩
    · simp at h0
    · exact ⟨g, cap, by rw [h0]; simp⟩
  clear e1 c0 hpos hM1 HFO
  have HS2 := Lib.hid hs2
  have HTO := Lib.hid hto
  have HIN2 := Lib.hid hin2
  have k2 := hs2.k
  clear hs2 hto hin2
  go_wp2_with (go_at_call 75; fail)
  have hb3 : Below w2.heap.size w2 (w2.alloc (.cells #[.slice A n c, .int .i64 0, .int .i64 0, .int .i64 0, .int .i64 0, .int .i64 0, .int .i64 0, .int .i64 0] 76)) := belowA
  have k3 : Bk (w2.alloc (.cells #[.slice A n c, .int .i64 0, .int .i64 0, .int .i64 0, .int .i64 0, .int .i64 0, .int .i64 0, .int .i64 0] 76)) w2.heap.size 76 (GrH.mk A n c X ⟨0, 0, 0⟩ ⟨0, 0, 0⟩ 0).cells.toArray := Bk.new w2 _ _
  generalize w2.alloc (.cells #[.slice A n c, .int .i64 0, .int .i64 0, .int .i64 0, .int .i64 0, .int .i64 0, .int .i64 0, .int .i64 0] 76) = w3 at *
  have hz3 := hb3.size
  refine (copy_any (some ⟨w2.heap.size, 0, none⟩) 1 1 [⟨A, n, c, X, ⟨0, 0, 0⟩, ⟨0, 0, 0⟩, 0⟩] w3 (one_in k3 ⟨HIN2.out.ext hb3, by show n ≤ 1000000; omega, HA.out⟩) (by omega) (fun x hx => by simp at hx; subst hx; exact hn)).mono ?_
  intro e w4 ho4
  obtain ⟨A4, n4, c4, L4, rfl, hl4, o4, hi4, hO4, hV4, hb4⟩ := grs_out ho4
  obtain ⟨g4, rfl, hg4⟩ := map_one hV4
  obtain rfl : n4 = 1 := hl4.symm
  have hb24 : Below w2.heap.size w2 w4 := hb3.trans (hb4.mono hz3)
  have hz4 := hb24.size
  have k4 := k2.ext hb24
  have hln : (D ++ [g1]).length = D.length + 1 := by simp
  have hown2 := HS2.out.l
  rw [hln] at hown2
  have hown4 := own_below hown2 hb24
  obtain ⟨g4in, b4, o4', hA4, hlt4, hcc4⟩ := hi4.at_ (k := 0) (g := g4) rfl
  subst hA4
  obtain ⟨A4', n4', c4', L4', p4, q4, lost4⟩ := g4
  simp only [GrH.val, GrC.mk.injEq] at hg4
  obtain ⟨hx4, rfl, rfl, rfl⟩ := hg4
  have hn4 : n4' = n := by
    have h1 := congrArg List.length hx4
    have h2 := g4in.sts.len
    have h3 := HIN2.out.len
    simp only [List.length_map] at h1
    dsimp only at h2
    omega
  subst hn4
  have hG1 := HS2.out.g g1 (by simp)
  have hgn1 : n4' + g1.n ≤ 1000 := by
    have h1 := HBD.out g1.val (by rw [← hV1]; simp)
    have h2 := hG1.in_.sts.len
    simp only [GrH.val, List.length_map] at h1
    omega
  have hr0 := Rd.of_own hown4
  have e0 : (D ++ [g1])[D.length]? = some g1 := by simp
  have hcc := (show GrsIn w4 w4.heap.size (some ⟨gb, 0, none⟩) (D.length + 1) (D ++ [g1]) from ⟨hr0, fun g hg => ((HS2.out.g g hg).below hb24).in_⟩).at_ e0
  obtain ⟨-, _, _, eg, -, hcc⟩ := hcc
  injection eg with eg
  injection eg with eg1 eg2
  subst eg1 eg2
  have x0 : w4.cell? ⟨gb, D.length * 8, none⟩ = some (.slice g1.A g1.n g1.c) := by have h1 := hcc 0 (by omega); simpa [GrH.cells] using h1
  have d0 : w4.cell? ⟨b4, o4', none⟩ = some (.slice A4' n4' c4') := by have h1 := hcc4 0 (by omega); simpa [GrH.cells] using h1
  have xf := World.ownsRow.frozenAt hown4 (D.length * 8)
  have y1 : w4.cell? ⟨bs, 1, none⟩ = some (.slice (some ⟨gb, 0, none⟩) (D.length + 1) cap) := k4.cell 1
  have e3 : IntKind.i64.wrap (D.length : Int) = (D.length : Int) := IntWalk.i64_in _ (by have := HS2.out.nL; simp at this; omega)
  have HO4 := Lib.hid hO4
  have HX4 := Lib.hid hx4
  have HOWN4 := Lib.hid hown4
  have HG1 := Lib.hid hG1
  have HG4 := Lib.hid g4in
  have HV1 := Lib.hid hV1
  have HV4 := Lib.hid hV4
  clear hO4 hx4 hown4 hG1 g4in hcc hcc4 hr0 e0 hown2 hV1 hL1 o4 hi4 ho4 hmL hl4 hV4 hln
  have hF : ∀ W, Bk W bs 157 #[.int .i64 depth, .slice (some ⟨gb, 0, none⟩) (D.length + 1) cap, mv1] → W.cell? ⟨bs, 1, none⟩ = some (.slice (some ⟨gb, 0, none⟩) (D.length + 1) cap) := fun W h => h.cell 1
  have HF := Lib.hid hF
  have hpos : (D.length : Int) < (D.length : Int) + 1 := by omega
  clear hF
  go_upto_region 7 with fail
  refine wp_normal ?_
  refine wp_region_held_drew (S := fun W => Bk W bs 157 #[.int .i64 depth, .slice (some ⟨gb, 0, none⟩) (D.length + 1) cap, mv1]) (by kernel_rfl) k4.drew (fun hHeld => ?_)
  (refine tkH 0 ?_; refine tkH 1 ?_; refine tkH 2 ?_; refine tkH 3 ?_; refine tkH 4 ?_; refine tkH 5 ?_; refine tkH 6 ?_; refine tkH 7 ?_; refine tkH 8 ?_; refine tkH 9 ?_; refine tkH 10 ?_; refine tkH 11 ?_)
  refine wpAnyH_done (by kernel_rfl) ?_ _
  go_wp2_with (go_at_call 76; fail)
  have hb45 : Below w4.heap.size w4 (w4.alloc (.cells #[.slice A4' n4' c4', .slice g1.A g1.n g1.c] 23)).drew := belowA
  have k5 : Bk (w4.alloc (.cells #[.slice A4' n4' c4', .slice g1.A g1.n g1.c] 23)).drew w4.heap.size 23 #[.slice A4' n4' c4', .slice g1.A g1.n g1.c] := (Bk.new w4 _ _).drew
  generalize (w4.alloc (.cells #[.slice A4' n4' c4', .slice g1.A g1.n g1.c] 23)).drew = w5 at *
  have hb25 : Below w2.heap.size w2 w5 := hb24.trans (hb45.mono hz4)
  have hz5 := hb45.size
  have hg4' := HG4.out.ext hb45
  have hg1' := (HG1.out.below hb25).in_
  refine (concat_step w4.heap.size A4' g1.A n4' c4' g1.n g1.c L4' g1.L w5 k5 hg4'.sts.1 hg1'.sts.1 hg4'.A hg1'.A hn (by omega)).mono ?_
  rintro e w6 ⟨v6, rfl, hown6, hb6⟩
  obtain ⟨A6, c6, rfl, -, -, -, -⟩ := own_form hown6
  have hb46 : Below w4.heap.size w4 w6 := hb45.trans (hb6.mono hz5)
  have hb26 : Below w2.heap.size w2 w6 := hb24.trans (hb46.mono hz4)
  have hz6 := hb46.size
  have k6 := k4.ext hb46
  have hr6 := own_below HOWN4.out hb46
  have hgbl := own_lt hr6 gb rfl
  have f6 := World.ownsRow.frozenAt hr6 (D.length * 8)
  have st6 := World.ownsRow.stored hr6 (D.length * 8) (.slice A6 (n4' + g1.n) c6)
  have hgsz : w6.cell? ⟨gb, D.length * 8, none⟩ = some (.slice g1.A g1.n g1.c) := (hb46.cell (p := ⟨gb, D.length * 8, none⟩) (by have := own_lt HOWN4.out gb rfl; simpa using this)).trans x0
  have HR6 := Lib.hid hr6
  have HOWN6 := Lib.hid hown6
  have HST6 := Lib.hid st6
  clear hr6 hown6 st6 hg4' hg1'
  have hbz5 : base ≤ w5.heap.size := Nat.le_trans hbz (Nat.le_trans hz2 (Nat.le_trans hz4 hz5))
  have hln6 : ∀ x : GrH, (D ++ [x]).length = D.length + 1 := fun x => by simp
  have hs7 : StkAt (w6.setCell ⟨gb, D.length * 8, none⟩ (.slice A6 (n4' + g1.n) c6)) base bs (.slice (some ⟨gb, 0, none⟩) (D.length + 1) cap) mv1 depth (D ++ [⟨A6, n4' + g1.n, c6, L4' ++ g1.L, g1.pin, g1.back, g1.lost⟩]) [] := by
    have st6 := HST6.out
    refine ⟨k6.grown st6.2 (own_ne HR6.out k6 (by decide)), HS2.out.le, ?_, ?_, ?_, fun m hm => (by cases hm), ?_, (by simp), ?_⟩
    · rw [hln6, ← grs_set D g1 _ (.slice A6 (n4' + g1.n) c6) rfl]
      exact st6.1
    · intro x hx
      rcases List.mem_append.1 hx with hx | hx
      · exact GrH.Own.grow (w := w6) ((HS2.out.g x (by simp [hx])).below hb26) HR6.out st6.2 (by decide) (by decide) (by decide)
      · simp only [List.mem_singleton] at hx
        subst hx
        refine ⟨?_, ?_, by show n4' + g1.n ≤ 1000000; omega⟩
        · have h1 := own_base HOWN6.out hbz5
          rw [← sts_append] at h1
          exact own_grow h1 st6.2 (own_type h1 HR6.out (by decide))
        · intro s hs
          rcases List.mem_append.1 hs with hs | hs
          · exact StH.Own.grow (w := w6) ((((HO4.out _ (List.mem_singleton_self _)).l s hs).base_ (Nat.le_trans hbz (Nat.le_trans hz2 hz3))).below hb46) HR6.out st6.2 (by decide) (by decide)
          · exact StH.Own.grow (w := w6) ((HG1.out.l s hs).below hb26) HR6.out st6.2 (by decide) (by decide)
    · have h1 := own_below HS2.out.m hb26
      exact own_grow h1 st6.2 (own_type h1 HR6.out (by decide))
    · have h1 := HS2.out.nL
      rw [hln6] at h1 ⊢
      exact h1
    · intro x hx
      rw [List.map_append] at hx
      rcases List.mem_append.1 hx with hx | hx
      · exact HS2.out.bd x (by rw [List.map_append]; exact List.mem_append.2 (.inl hx))
      · simp only [List.map_cons, List.map_nil, List.mem_singleton] at hx
        subst hx
        have h1 := HS2.out.bd g1.val (by simp)
        have h2 := congrArg List.length HX4.out
        have h3 := HIN2.out.len
        have h4 := HG1.out.in_.sts.len
        simp only [List.length_map] at h2
        refine ⟨?_, h1.2⟩
        show ((L4' ++ g1.L).map StH.x).length ≤ 1000
        rw [List.length_map, List.length_append]
        omega
  have hto7 : StkTo bs (.slice (some ⟨gb, 0, none⟩) (D.length + 1) cap) mv1 (.slice (some ⟨gb, 0, none⟩) (D.length + 1) cap) mv1 w2 (w6.setCell ⟨gb, D.length * 8, none⟩ (.slice A6 (n4' + g1.n) c6)) :=
    ⟨(Stir.of_below hb26).trans (Stir.of_gr HST6.out.2 (fun i e => .inr (.inl e))), fun i hi => .inl hi, fun i hi => .inl hi⟩
  have hval : (D ++ [(⟨A6, n4' + g1.n, c6, L4' ++ g1.L, g1.pin, g1.back, g1.lost⟩ : GrH)]).map GrH.val = extV (X.map StH.x) (foldV (Ms.map MpH.l) (L.map GrH.val)) := by
    rw [← HV1.out, List.map_append, List.map_append, List.map_cons, List.map_nil, List.map_cons, List.map_nil, extV_snoc]
    congr 2
    simp only [GrH.val, extC, List.map_append, HX4.out]
  have htr := trim_any base bs _ mv1 depth _ [] _ hs7
  rw [hval] at htr
  have HTR := Lib.hid htr
  have HTO7 := Lib.hid hto7
  clear htr hs7 hto7 hval hln6
  go_wp2_with (go_at_call 77; fail)
  generalize w6.setCell ⟨gb, D.length * 8, none⟩ (.slice A6 (n4' + g1.n) c6) = w7 at *
  refine HTR.out.mono ?_
  rintro e w8 ⟨rfl, lv8, mv8, L8, Ms8, s8, V8, M8, t8⟩
  go_wp2
  exact bodyPost_ret (v := .tuple #[.int .i64 (trimV depth (extV (X.map StH.x) (foldV (Ms.map MpH.l) (L.map GrH.val))) : Nat), .int .i64 0]) (by simp [results, Tryz.results27, go_sem]) rfl ⟨rfl, lv8, mv8, L8, Ms8, s8, V8, M8, (HTO.out.trans HTO7.out).trans t8⟩
set_option maxRecDepth 100000 in
set_option maxHeartbeats 8000000 in
theorem scopy_any (base bs : Nat) (lv mv : Value) (depth : Int) (L : List GrH) (Ms : List MpH) (w : World) (h : StkAt w base bs lv mv depth L Ms) :
    Calls Tryz.prog 36 #[.pointer (some ⟨bs, 0, none⟩)] w fun e w' => ∃ bs' lv' mv' L' Ms', e = .returned (.pointer (some ⟨bs', 0, none⟩)) ∧ StkAt w' w.heap.size bs' lv' mv' depth L' Ms' ∧ L'.map GrH.val = L.map GrH.val ∧ Ms'.map MpH.l = Ms.map MpH.l ∧ Below w.heap.size w w' := by
  have hlt := def_lt' h.k
  have HS := Lib.hid h
  obtain ⟨A1, c1, rfl, -, -, hA1, r1⟩ := own_form h.l
  obtain ⟨A2, c2, rfl, -, -, hA2, r2⟩ := own_form h.m
  have k0 := h.k
  have hcp := fun W (hb : Below w.heap.size w W) => copy_any A1 L.length c1 L W ((show GrsIn w w.heap.size A1 L.length L from ⟨r1, fun g hg => (h.g g hg).in_⟩).ext hb) (by have := h.nL; omega) (h.bd.n h.g)
  have HCP := Lib.hid hcp
  have HR2 := Lib.hid r2
  have hnM := h.nM
  clear h hcp r1 r2
  have hF : ∀ W, Below w.heap.size w W → W.cell? ⟨bs, 0, none⟩ = some (.int .i64 depth) ∧ W.cell? ⟨bs, 1, none⟩ = some (.slice A1 L.length c1) ∧ W.cell? ⟨bs, 2, none⟩ = some (.slice A2 Ms.length c2) := fun W h => ⟨(k0.ext h).cell 0, (k0.ext h).cell 1, (k0.ext h).cell 2⟩
  have HF := Lib.hid hF
  clear hF
  go_enter Tryz.func36, Tryz.ntmps36
  go_upto_region 3 with fail
  refine wp_normal ?_
  refine wp_region_held_drew (S := fun W => Below w.heap.size w W) (by kernel_rfl) ((Below.refl _ _).drew) (fun hHeld => ?_)
  (refine tkH 0 ?_; refine tkH 1 ?_; refine tkH 2 ?_; refine tkH 3 ?_; refine tkH 4 ?_; refine tkH 5 ?_; refine tkH 6 ?_; refine tkH 7 ?_)
  refine nxH 8 (fun K hK => ?_)
  go_simp
  go_at_call 75
  refine (HCP.out _ ((Below.refl _ _).drew)).mono ?_
  intro e w1 ho1
  obtain ⟨A3, n3, c3, L3, rfl, hl3, o3, hi3, hO3, hV3, hb3⟩ := grs_out ho1
  have hn3 : n3 = L.length := by have h1 := congrArg List.length hV3; simp only [List.length_map] at h1; omega
  subst hn3
  have hb1 : Below w.heap.size w w1 := ((Below.refl _ w).drew).trans hb3
  have hz1 := hb1.size
  refine hK.out _ _ hb1 (fun hHeld => ?_)
  clear hK K; refine puH ?_
  (refine tkH 9 ?_)
  refine nxH 10 (fun K hK => ?_)
  go_simp
  refine hK.out _ _ (hb1.alloc hz1 _) (fun hHeld => ?_)
  clear hK K; refine puH ?_
  (refine tkH 11 ?_)
  refine wpAnyH_done (by kernel_rfl) ?_ _
  have hs2 : StkAt (w1.alloc (.cells #[.int .i64 depth, .slice A3 L.length c3, .slice none 0 0] 157)) w.heap.size w1.heap.size (.slice A3 L.length c3) (.slice none 0 0) depth L3 [] := by
    have hba : Below w1.heap.size w1 (w1.alloc (.cells #[.int .i64 depth, .slice A3 L.length c3, .slice none 0 0] 157)) := belowA
    refine ⟨Bk.new w1 _ _, hz1, ?_, fun g hg => (hO3 g hg).below hba, World.ownsRow_nil _ _ _ _, fun m hm => (by cases hm), ?_, (by simp), ?_⟩
    · rw [hl3]
      exact own_below o3 hba
    · rw [hl3]
      exact HS.out.nL
    · rw [hV3]
      exact HS.out.bd
  have hb2 : Below w.heap.size w (w1.alloc (.cells #[.int .i64 depth, .slice A3 L.length c3, .slice none 0 0] 157)) := hb1.alloc hz1 _
  obtain ⟨P, hP⟩ : ∃ P, P = w1.heap.size := ⟨_, rfl⟩
  rw [← hP] at hs2 ⊢
  generalize w1.alloc (.cells #[.int .i64 depth, .slice A3 L.length c3, .slice none 0 0] 157) = w2 at *
  have HV3 := Lib.hid hV3
  have y2 := (HF.out w2 hb2).2.2
  clear hO3 hV3 ho1 hl3 o3 hi3 hP hz1 hb1 hb3 hHeld
  go_wp2
  go_loopw [24] (fun j wr => ∃ (q : Nat) (A4 : Option Addr) (c4 : Nat) (N : List MpH), q ≤ Ms.length ∧ N.length = q ∧ j = .int .i64 q ∧ Below w.heap.size w wr ∧ StkAt wr w.heap.size P (.slice A3 L.length c3) (.slice A4 N.length c4) depth L3 N ∧ Hid (N.map MpH.l = (Ms.take q).map MpH.l)) (fun j _ => Ms.length - (intOf j).toNat)
  case atStart => exact ⟨0, none, 0, [], by omega, rfl, rfl, hb2, hs2, Lib.hid (by simp)⟩
  case round =>
    obtain ⟨q, A4, c4, N, hq, hN, rfl, hbr, hsr, hNl⟩ := hrel
    clear hs2 y2
    by_cases hqn : q < Ms.length
    · obtain ⟨m, hx⟩ : ∃ m, Ms[q]? = some m := ⟨_, List.getElem?_eq_getElem (by omega)⟩
      obtain ⟨b, o, rfl, hb, hc⟩ := mp_at HR2.out hx
      have d0 : wr.cell? ⟨b, o + q, none⟩ = some (.slice m.A m.n m.c) := (hbr.cell (by simpa using hb)).trans hc
      have hms := HS.out.ms m (List.mem_of_getElem? hx)
      have e3 : (q : Int) < Ms.length := by omega
      have hsn : (Ms.take (q + 1)).map MpH.l = (N ++ [m]).map MpH.l := by
        rw [List.take_add_one, hx, List.map_append, List.map_append, hNl.out]
        rfl
      have HSN := Lib.hid hsn
      have hrm : Rd wr wr.heap.size 3 m.A m.n (rgs m.l) := ((Rd.of_own hms.1).below hbr).more hbr.size
      have hmA : m.A = none → m.n = 0 := own_none hms.1
      have hnm := hms.2
      have HRM := Lib.hid hrm
      have HMA := Lib.hid hmA
      have HS2 := Lib.hid hsr
      have HN := Lib.hid hN
      have hN5 : N.length ≤ 499 := by omega
      have hbz := hbr.size
      have k2 := hsr.k
      clear hsn hx hms hrm hmA hsr hN HF hc HCP k0
      have hF : ∀ W, Bk W P 157 #[.int .i64 depth, .slice A3 L.length c3, .slice A4 N.length c4] → W.cell? ⟨P, 2, none⟩ = some (.slice A4 N.length c4) := fun W h => h.cell 2
      have HF := Lib.hid hF
      clear hF
      obtain ⟨mA, mn, mc, ml⟩ := m
      dsimp only at d0 hnm HRM HMA
      go_upto_region 7 with fail
      refine wp_normal ?_
      refine region_L (S := fun W => Bk W P 157 #[.int .i64 depth, .slice A3 L.length c3, .slice A4 N.length c4]) [11] (by kernel_rfl) k2.drew (fun hHeld => ?_)
      (refine tkL 0 ?_; refine tkL 1 ?_; refine tkL 2 ?_; refine tkL 3 ?_; refine tkL 4 ?_; refine tkL 5 ?_)
      refine nxL 6 (fun K hK => ?_)
      go_simp
      go_at_call 81
      refine (clone_rgs mA mn mc ml wr.drew HRM.out HMA.out (by omega)).mono ?_
      rintro e w4 ⟨v4, rfl, o4, hb4'⟩
      obtain ⟨A5, c5', rfl, -, -, hA4, hrd4⟩ := own_form o4
      have hb4 : Below wr.heap.size wr w4 := Below.trans (Below.refl _ _).drew hb4'
      have k4 := k2.ext hb4
      refine hK.out _ _ k4 (fun hHeld => ?_)
      clear hK K; refine puL ?_
      refine nxL 7 (fun K hK => ?_)
      go_simp
      refine hK.out _ _ (k4.alloc _) (fun hHeld => ?_)
      clear hK K; refine puL ?_
      have hbA : Below w4.heap.size w4 (w4.alloc (.cells #[.slice A5 mn c5'] 94)) := belowA
      have kA := Bk.new w4 94 #[.slice A5 mn c5']
      have k4A := k4.alloc (.cells #[.slice A5 mn c5'] 94)
      generalize w4.alloc (.cells #[.slice A5 mn c5'] 94) = wA at *
      have hb2A : Below wr.heap.size wr wA := hb4.trans (hbA.mono hb4.size)
      have hzA := hb2A.size
      have hownA := own_below HS2.out.m hb2A
      refine nxL 8 (fun K hK => ?_)
      refine app_at_step Tryz.underlying86 info_rgs rfl (by decide) w.heap.size _ N.length _ hownA (by unfold maxLen; omega) (by omega) (Nat.le_trans hbz hzA) w4.heap.size #[.slice A5 mn c5'] kA rfl (by simp [Value.oneCell']) rfl (.tmp 32) (.tmp 35) rfl rfl rfl ?_
      intro g5 c5 w5 hown5 hgr5 hat5 hlt5
      have k5 := k4A.grown hgr5 (own_ne hownA k4A (by decide))
      refine hK.out _ _ k5 (fun hHeld => ?_)
      clear hK K; refine puL ?_
      (refine tkL 9 ?_; refine tkL 10 ?_)
      have x0 := k5.cell 0; have x1 := k5.cell 1; have x2 := k5.cell 2; have xf := k5.frozen; have xl := def_lt' k5
      dsimp at x0 x1 x2
      refine ltL 11 (fun K hK => ?_)
      go_simp
      refine hK.out _ _ ?_
      clear hK K; refine puL ?_
      refine anyL_done (by kernel_rfl) ?_
      have gr6 : w5.grownBy (w5.setCell ⟨P, 2, none⟩ (.slice (some ⟨g5, 0, none⟩) (N.length + 1) c5)) (some P) := gr_set (p := ⟨P, 2, none⟩) (World.grownBy.refl _ _) (.inl rfl) _
      have k6 : Bk (w5.setCell ⟨P, 2, none⟩ (.slice (some ⟨g5, 0, none⟩) (N.length + 1) c5)) P 157 #[.int .i64 depth, .slice A3 L.length c3, .slice (some ⟨g5, 0, none⟩) (N.length + 1) c5] := k5.set_ 2 _
      generalize w5.setCell ⟨P, 2, none⟩ (.slice (some ⟨g5, 0, none⟩) (N.length + 1) c5) = w6 at *
      have keep : ∀ {e size n v xs}, wA.ownsRow w.heap.size e size v n xs → e ≠ 94 → e ≠ 157 → w6.ownsRow w.heap.size e size v n xs := fun h1 hne hne2 =>
        own_grow (own_grow h1 hgr5 (own_type h1 hownA hne)) gr6 (fun g e => by injection e with e; subst e; exact own_ne (own_grow h1 hgr5 (own_type h1 hownA hne)) k5 hne2)
      have hs6 : StkAt w6 w.heap.size P (.slice A3 L.length c3) (.slice (some ⟨g5, 0, none⟩) (N.length + 1) c5) depth L3 (N ++ [⟨A5, mn, c5', ml⟩]) := by
        refine ⟨k6, HS2.out.le, keep (own_below HS2.out.l hb2A) (by decide) (by decide), ?_, ?_, ?_, HS2.out.nL, ?_, HS2.out.bd⟩
        · intro x hx
          exact (((HS2.out.g x hx).below hb2A).grow hownA hgr5 (by decide) (by decide) (by decide)).grown k5 gr6 (by decide) (by decide) (by decide)
        · rw [List.map_append, List.length_append]
          exact own_grow hown5 gr6 (fun g e => by injection e with e; subst e; exact own_ne hown5 k5 (by decide))
        · intro x hx
          rcases List.mem_append.1 hx with hx | hx
          · exact ⟨keep (own_below (HS2.out.ms x hx).1 hb2A) (by decide) (by decide), (HS2.out.ms x hx).2⟩
          · simp at hx
            subst hx
            exact ⟨keep (own_base (own_below o4 hbA) (by simpa using hbz)) (by decide) (by decide), hnm⟩
        · rw [List.length_append]; simp; omega
      have hb6 : Below w.heap.size w w6 := by
        have h1 := hbr.trans (hb2A.mono hbz)
        have h2 := below_own h1 hownA hgr5 (Nat.le_trans hbz hzA) (Nat.le_refl _)
        exact h2.grown gr6 h2.size (fun k e => by injection e with e; subst e; exact HS2.out.le)
      clear x0 x1 x2 keep hown5 hownA hgr5
      go_wp2
      go_roundw
      case rel =>
        refine ⟨q + 1, some ⟨g5, 0, none⟩, c5, N ++ [⟨A5, mn, c5', ml⟩], by omega, by simp [HN.out], by go_num, hb6, ?_, Lib.hid ?_⟩
        · rw [List.length_append]
          exact hs6
        · rw [HSN.out, List.map_append, List.map_append]
          rfl
      case measure => simp [intOf]; omega
    · obtain rfl : Ms.length = q := by omega
      go_wp2
      go_ret
      refine ⟨P, _, _, L3, N, rfl, hsr, HV3.out, ?_, hbr⟩
      rw [hNl.out, List.take_length]
end Go.Proofs.YtmacfoebfpljoaaGreat
namespace Go.Proofs.YtmacfoebfpljoaaGreat
open Go.ChangeShapes Go.WideShapes Go.ChangeAt Go.RowKit
theorem own : ownKnob Tryz.prog.godebug = none := by kernel_rfl
theorem laidOut : laidOutB Tryz.prog = true := by kernel_rfl
theorem block_lt {w : World} {a : Addr} {v : Value} (h : w.cell? a = some v) : a.block < w.heap.size := by
  unfold World.cell? at h
  rcases Nat.lt_or_ge a.block w.heap.size with hlt | hge
  · exact hlt
  · rw [Array.getElem?_eq_none hge] at h; simp at h
/-- cells that lie from an address on, as a slice that is read -/
theorem rd_of_cells {w : World} {x : Addr} {n size : Nat} {xs : List Value} (hl : xs.length = n * size) (hs : 0 < size) (h : ∀ i u, xs[i]? = some u → w.cell? (x.add i) = some u) : Rd w w.heap.size size (some x) n xs := by
  refine ⟨hl, fun hn => ?_⟩
  have hpos : 0 < xs.length := by rw [hl]; exact Nat.mul_pos hn hs
  obtain ⟨u, hu⟩ : ∃ u, xs[0]? = some u := ⟨_, List.getElem?_eq_getElem hpos⟩
  have h0 := h 0 u hu
  obtain ⟨b, o, sp⟩ := x
  have hsp : sp = none := by simpa [Addr.add] using World.cell?_spot h0
  subst hsp
  refine ⟨b, o, rfl, ?_, fun j u hu => ?_⟩
  · have := block_lt h0
    rwa [add_flat] at this
  · rw [← add_flat]; exact h j u hu
/-- a slice of integers that came in -/
theorem open_row {H : Type} {enc : TypeId × Value → H} {W : World} {b : Nat} {sp : Nat → Bool} {hd : Bool} {T E : TypeId} {k : IntKind} {a : Option Addr} {len cap : Nat} {d : DataW H} {p : List MemPlace}
    (hT : Tryz.prog.underlying T = some (.slice E)) (hE : Tryz.prog.underlying E = some (.int k)) (hc : Tryz.prog.cellsOf E = 1) (h : DataW.Trod enc Tryz.prog W b sp hd T (.slice a len cap) d p) :
    ∃ zs : List Int, Rd W W.heap.size 1 a len (zs.map (Value.int k)) ∧ len ≤ cap ∧ cap ≤ maxLen ∧ (a = none → len = 0) ∧ ∀ n ∈ zs, (Lit.int k n).wf = true := by
  obtain ⟨fuel, hf⟩ := h
  rcases open_ints hT hE hc hf with ⟨hcs, _⟩ | ⟨x, l, c, zs, hcs, _, hl, hm, hz, _, hcell, hwz⟩
  · simp [Value.cells] at hcs
    obtain ⟨rfl, rfl, rfl⟩ := hcs
    exact ⟨[], Rd.nil_ _ _ _ _, by omega, by unfold maxLen; omega, fun _ => rfl, by simp⟩
  · simp [Value.cells] at hcs
    obtain ⟨rfl, rfl, rfl⟩ := hcs
    have hz' : len ≤ zs.length := by
      have : zs.length = if sp x.block = true then cap else len := by simpa using hz
      rw [this]; split <;> omega
    refine ⟨zs.take len, rd_of_cells (by simp; omega) (by omega) ?_, hl, hm, by simp, fun n hn => hwz n (List.mem_of_mem_take hn)⟩
    intro i u hu
    rw [List.getElem?_map] at hu
    cases hz' : (zs.take len)[i]? with
    | none => rw [hz'] at hu; simp at hu
    | some z =>
      rw [hz'] at hu
      simp at hu
      subst hu
      rw [List.getElem?_take] at hz'
      split at hz'
      · obtain ⟨hlt, rfl⟩ := List.getElem?_eq_some_iff.1 hz'
        rw [hcell i hlt, List.getD_eq_getElem?_getD, List.getElem?_eq_getElem hlt]; rfl
      · simp at hz'
end Go.Proofs.YtmacfoebfpljoaaGreat
namespace Go.Proofs.YtmacfoebfpljoaaGreat
open Go.ChangeShapes Go.WideShapes Go.ChangeAt Go.RowKit
theorem flat_len {α : Type} (R : α → List Value) {s : Nat} (hR : ∀ x, (R x).length = s) (l : List α) : (l.flatMap R).length = l.length * s := by
  induction l with
  | nil => simp
  | cons x l ih => simp only [List.flatMap_cons, List.length_append, ih, hR, List.length_cons, Nat.add_mul]; omega
theorem flat_get {α : Type} (R : α → List Value) {s : Nat} (hR : ∀ x, (R x).length = s) {l : List α} {k i : Nat} (hi : i < s) : (l.flatMap R)[k * s + i]? = (l[k]?).bind fun x => (R x)[i]? := by
  induction l generalizing k with
  | nil => simp
  | cons x l ih =>
    rw [List.flatMap_cons]
    cases k with
    | zero => rw [List.getElem?_append_left (by rw [hR]; omega)]; simp
    | succ k =>
      rw [List.getElem?_append_right (by rw [hR, Nat.add_mul]; omega), hR, show (k + 1) * s + i - s = k * s + i by rw [Nat.add_mul]; omega, ih]
      simp
theorem open_els {H : Type} {enc : TypeId × Value → H} {W : World} {b : Nat} {sp : Nat → Bool} {hd : Bool} {T E : TypeId} {a : Option Addr} {len cap : Nat} {d : DataW H} {pl : List MemPlace}
    {α : Type} [Inhabited α] (R : α → List Value) (p : α → Prop) {s : Nat} (hT : Tryz.prog.underlying T = some (.slice E)) (hc : Tryz.prog.cellsOf E = s) (hs : 0 < s) (hR : ∀ x, (R x).length = s)
    (h : ∃ fuel, DataW.trod enc Tryz.prog W b sp hd fuel T [.slice a len cap] = some (d, pl))
    (hel : ∀ n cs y, DataW.trod enc Tryz.prog W b sp hd n E cs = some y → ∃ x, cs = R x ∧ p x) :
    ∃ l : List α, l.length = len ∧ Rd W W.heap.size s a len (l.flatMap R) ∧ len ≤ cap ∧ cap ≤ maxLen ∧ (a = none → len = 0) ∧ ∀ x ∈ l, p x := by
  obtain ⟨fuel, hf⟩ := h
  rcases Deep.open_slice hT hf with ⟨hcs, _⟩ | ⟨x, l, c, m, n, D, Pl, hcs, _, hl, hm, hmm, _, hx⟩
  · simp at hcs
    obtain ⟨rfl, rfl, rfl⟩ := hcs
    exact ⟨[], rfl, Rd.nil_ _ _ _ _, by omega, by unfold maxLen; omega, fun _ => rfl, by simp⟩
  · simp at hcs
    obtain ⟨rfl, rfl, rfl⟩ := hcs
    have hlm : len ≤ m := by rw [hmm]; split <;> omega
    obtain ⟨f, hf⟩ := Deep.choose_lt (α := α) (n := len) (p := fun i y => (∀ j, j < s → W.cell? ((x.add (i * s)).add j) = (R y)[j]?) ∧ p y) (fun i hi => by
      obtain ⟨cs', h1, h2⟩ := hx i (by omega)
      rw [hc] at h1
      obtain ⟨_, _, hcell⟩ := World.cells?_some h1
      obtain ⟨y, rfl, hy⟩ := hel _ _ _ h2
      exact ⟨y, hcell, hy⟩)
    refine ⟨(List.range len).map f, by simp, rd_of_cells (by rw [flat_len R hR]; simp) hs ?_, hl, hm, by simp, ?_⟩
    · intro j u hu
      have e1 : j = j / s * s + j % s := by rw [Nat.mul_comm]; exact (Nat.div_add_mod j s).symm
      have h1 : j % s < s := Nat.mod_lt _ hs
      rw [e1, flat_get R hR h1] at hu
      obtain ⟨y, hy, hu⟩ := Option.bind_eq_some_iff.1 hu
      rw [List.getElem?_map] at hy
      obtain ⟨i, hi, rfl⟩ := Option.map_eq_some_iff.1 hy
      obtain ⟨hlt, hi⟩ := List.getElem?_eq_some_iff.1 hi
      simp at hlt hi
      subst hi
      have := (hf _ hlt).1 _ h1
      rw [Deep.add_add, ← e1] at this
      rw [this, hu]
    · intro y hy
      obtain ⟨i, hi, rfl⟩ := List.mem_map.1 hy
      exact (hf i (List.mem_range.1 hi)).2
end Go.Proofs.YtmacfoebfpljoaaGreat
namespace Go.Proofs.YtmacfoebfpljoaaGreat
open Go.ChangeShapes Go.WideShapes Go.ChangeAt Go.RowKit
section
variable {H : Type} {enc : TypeId × Value → H} {W : World} {b : Nat} {sp : Nat → Bool} {hd : Bool}
theorem arr_at {T e : TypeId} {n fuel : Nat} {cs : List Value} {y : DataW H × List MemPlace} (hT : Tryz.prog.underlying T = some (.array n e)) (hc : Tryz.prog.cellsOf e = 1) (h : DataW.trod enc Tryz.prog W b sp hd fuel T cs = some y) :
    cs.length = Tryz.prog.cellsOf T ∧ ∀ i, i < n → ∃ m z, DataW.trod enc Tryz.prog W b sp hd m e ((cs.drop i).take 1) = some z := by
  obtain ⟨xs, m, _, _, hl, hlen, hf⟩ := DataW.trod_array hT h
  refine ⟨hl, fun i hi => ?_⟩
  have := hf i hi
  rw [hc, Nat.mul_one, List.getElem?_eq_getElem (by omega)] at this
  exact ⟨m, _, this⟩
theorem str_at {T : TypeId} {fs : Array Field} {fuel : Nat} {cs : List Value} {y : DataW H × List MemPlace} (hT : Tryz.prog.underlying T = some (.struct fs)) (h : DataW.trod enc Tryz.prog W b sp hd fuel T cs = some y) :
    cs.length = Tryz.prog.cellsOf T ∧ ∀ (i : Nat) (ty : TypeId) (off : Nat), fs[i]?.map (fun f => (f.type, f.offset)) = some (ty, off) → ∃ m z, DataW.trod enc Tryz.prog W b sp hd m ty ((cs.drop off).take (Tryz.prog.cellsOf ty)) = some z := by
  obtain ⟨xs, m, _, _, hl, hlen, hf⟩ := DataW.trod_struct hT h
  refine ⟨hl, fun i ty off hi => ?_⟩
  obtain ⟨f, hf1, hf2⟩ := Option.map_eq_some_iff.1 hi
  injection hf2 with h1 h2
  subst h1 h2
  have hlt := (Array.getElem?_eq_some_iff.1 hf1).1
  have := hf i f hf1
  rw [List.getElem?_eq_getElem (by omega)] at this
  exact ⟨m, _, this⟩
theorem open_mk (n : Nat) (cs : List Value) (y : DataW H × List MemPlace) (h : DataW.trod enc Tryz.prog W b sp hd n 124 cs = some y) : ∃ x : Mk, cs = x.cells ∧ True := by
  have hc : Tryz.prog.cellsOf 122 = 1 := by kernel_rfl
  have hc8 : Tryz.prog.cellsOf 124 = 8 := by kernel_rfl
  obtain ⟨hl, hf⟩ := arr_at (n := 8) (e := 122) (by kernel_rfl) hc h
  rw [hc8] at hl
  match cs, hl with
  | [v0, v1, v2, v3, v4, v5, v6, v7], _ =>
    obtain ⟨_, _, g0⟩ := hf 0 (by omega)
    obtain ⟨_, _, g1⟩ := hf 1 (by omega)
    obtain ⟨_, _, g2⟩ := hf 2 (by omega)
    obtain ⟨_, _, g3⟩ := hf 3 (by omega)
    obtain ⟨_, _, g4⟩ := hf 4 (by omega)
    obtain ⟨_, _, g5⟩ := hf 5 (by omega)
    obtain ⟨_, _, g6⟩ := hf 6 (by omega)
    obtain ⟨_, _, g7⟩ := hf 7 (by omega)
    simp only [List.drop_succ_cons, List.drop_zero, List.take_succ_cons, List.take_zero] at g0 g1 g2 g3 g4 g5 g6 g7
    obtain ⟨x0, e0, _, _⟩ := DataW.trod_int Tryz.underlying122 g0
    obtain ⟨x1, e1, _, _⟩ := DataW.trod_int Tryz.underlying122 g1
    obtain ⟨x2, e2, _, _⟩ := DataW.trod_int Tryz.underlying122 g2
    obtain ⟨x3, e3, _, _⟩ := DataW.trod_int Tryz.underlying122 g3
    obtain ⟨x4, e4, _, _⟩ := DataW.trod_int Tryz.underlying122 g4
    obtain ⟨x5, e5, _, _⟩ := DataW.trod_int Tryz.underlying122 g5
    obtain ⟨x6, e6, _, _⟩ := DataW.trod_int Tryz.underlying122 g6
    obtain ⟨x7, e7, _, _⟩ := DataW.trod_int Tryz.underlying122 g7
    injection e0 with e0; injection e1 with e1; injection e2 with e2; injection e3 with e3; injection e4 with e4; injection e5 with e5; injection e6 with e6; injection e7 with e7
    subst e0 e1 e2 e3 e4 e5 e6 e7
    exact ⟨⟨x0, x1, x2, x3, x4, x5, x6, x7⟩, rfl, trivial⟩
set_option maxRecDepth 100000 in
theorem open_tok (n : Nat) (cs : List Value) (y : DataW H × List MemPlace) (h : DataW.trod enc Tryz.prog W b sp hd n 126 cs = some y) : ∃ x : Tok, cs = x.cells ∧ True := by
  have hc : Tryz.prog.cellsOf 3 = 1 := by kernel_rfl
  have hc3 : Tryz.prog.cellsOf 21 = 1 := by kernel_rfl
  have hc8 : Tryz.prog.cellsOf 124 = 8 := by kernel_rfl
  have hc12 : Tryz.prog.cellsOf 126 = 12 := by kernel_rfl
  obtain ⟨hl, hf⟩ := str_at Tryz.underlying126 h
  rw [hc12] at hl
  match cs, hl with
  | [v0, v1, v2, v3, u0, u1, u2, u3, u4, u5, u6, u7], _ =>
    obtain ⟨_, _, g0⟩ := hf 0 3 0 rfl
    obtain ⟨_, _, g1⟩ := hf 1 3 1 rfl
    obtain ⟨_, _, g2⟩ := hf 2 3 2 rfl
    obtain ⟨_, _, g3⟩ := hf 3 21 3 rfl
    obtain ⟨_, _, g4⟩ := hf 4 124 4 rfl
    simp only [hc, hc3, hc8, List.drop_succ_cons, List.drop_zero, List.take_succ_cons, List.take_zero] at g0 g1 g2 g3 g4
    obtain ⟨x0, e0, _, _⟩ := DataW.trod_int Tryz.underlying3 g0
    obtain ⟨x1, e1, _, _⟩ := DataW.trod_int Tryz.underlying3 g1
    obtain ⟨x2, e2, _, _⟩ := DataW.trod_int Tryz.underlying3 g2
    obtain ⟨x3, e3, _, _⟩ := DataW.trod_int Tryz.underlying21 g3
    obtain ⟨m, e4, _⟩ := open_mk _ _ _ g4
    injection e0 with e0; injection e1 with e1; injection e2 with e2; injection e3 with e3
    subst e0 e1 e2 e3
    refine ⟨⟨x0, x1, x2, x3, m⟩, ?_, trivial⟩
    rw [Tok.cells, ← e4]
end
section
variable {H : Type} {enc : TypeId × Value → H} {W : World} {b : Nat} {sp : Nat → Bool} {hd : Bool} {a : Option Addr} {len cap : Nat} {d : DataW H} {pl : List MemPlace}
theorem open_toks (h : ∃ fuel, DataW.trod enc Tryz.prog W b sp hd fuel 22 [.slice a len cap] = some (d, pl)) : ∃ l : List Tok, l.length = len ∧ Rd W W.heap.size 12 a len (toks l) ∧ len ≤ cap ∧ cap ≤ maxLen ∧ (a = none → len = 0) := by
  obtain ⟨l, h1, h2, h3, h4, h5, _⟩ := open_els (s := 12) Tok.cells (fun _ => True) Tryz.underlying22 (by kernel_rfl) (by omega) (fun _ => rfl) h open_tok
  exact ⟨l, h1, h2, h3, h4, h5⟩
theorem open_mks (h : ∃ fuel, DataW.trod enc Tryz.prog W b sp hd fuel 43 [.slice a len cap] = some (d, pl)) : ∃ l : List Mk, l.length = len ∧ Rd W W.heap.size 8 a len (mks l) ∧ len ≤ cap ∧ cap ≤ maxLen ∧ (a = none → len = 0) := by
  obtain ⟨l, h1, h2, h3, h4, h5, _⟩ := open_els (s := 8) Mk.cells (fun _ => True) Tryz.underlying43 (by kernel_rfl) (by omega) (fun _ => rfl) h open_mk
  exact ⟨l, h1, h2, h3, h4, h5⟩
end
theorem i64_bd {x : Int} (h : (Lit.int .i64 x).wf = true) : -9223372036854775808 ≤ x ∧ x ≤ 9223372036854775807 := by
  have hmin : IntKind.i64.min = -9223372036854775808 := rfl
  have hmax : IntKind.i64.max = 9223372036854775807 := rfl
  simp only [Lit.wf, Bool.and_eq_true, decide_eq_true_eq] at h
  omega
theorem arr_of {cs : Array Value} {l : List Value} (h : cs.toList = l) : cs = l.toArray := by
  subst h; rfl
section
variable {H : Type} {enc : TypeId × Value → H} {W : World} {b : Nat} {sp : Nat → Bool} {hd : Bool}
theorem slice_at {T E : TypeId} {fuel : Nat} {v : Value} {y : DataW H × List MemPlace} (hT : Tryz.prog.underlying T = some (.slice E)) (h : DataW.trod enc Tryz.prog W b sp hd fuel T [v] = some y) : ∃ a len cap, v = .slice a len cap := by
  rcases Deep.open_slice hT h with ⟨hcs, _⟩ | ⟨x, l, c, m, n, D, Pl, hcs, _⟩
  · simp at hcs; exact ⟨_, _, _, hcs⟩
  · simp at hcs; exact ⟨_, _, _, hcs⟩
set_option maxRecDepth 100000 in
theorem open_step (n : Nat) (cs : List Value) (y : DataW H × List MemPlace) (h : DataW.trod enc Tryz.prog W b sp hd n 45 cs = some y) : ∃ s : StH, cs = s.cells ∧ s.Raw W W.heap.size := by
  have hc : Tryz.prog.cellsOf 3 = 1 := by kernel_rfl
  have hc1 : Tryz.prog.cellsOf 22 = 1 := by kernel_rfl
  have hc2 : Tryz.prog.cellsOf 43 = 1 := by kernel_rfl
  have hc10 : Tryz.prog.cellsOf 45 = 10 := by kernel_rfl
  obtain ⟨hl, hf⟩ := str_at Tryz.underlying45 h
  rw [hc10] at hl
  match cs, hl with
  | [v0, v1, v2, v3, v4, v5, v6, v7, v8, v9], _ =>
    obtain ⟨_, _, g0⟩ := hf 0 3 0 rfl
    obtain ⟨_, _, g1⟩ := hf 1 3 1 rfl
    obtain ⟨_, _, g2⟩ := hf 2 3 2 rfl
    obtain ⟨_, _, g3⟩ := hf 3 3 3 rfl
    obtain ⟨_, _, g4⟩ := hf 4 3 4 rfl
    obtain ⟨_, _, g5⟩ := hf 5 3 5 rfl
    obtain ⟨_, _, g6⟩ := hf 6 3 6 rfl
    obtain ⟨_, _, g7⟩ := hf 7 3 7 rfl
    obtain ⟨_, ⟨_, _⟩, g8⟩ := hf 8 22 8 rfl
    obtain ⟨_, ⟨_, _⟩, g9⟩ := hf 9 43 9 rfl
    simp only [hc, hc1, hc2, List.drop_succ_cons, List.drop_zero, List.take_succ_cons, List.take_zero] at g0 g1 g2 g3 g4 g5 g6 g7 g8 g9
    obtain ⟨x0, e0, _, _⟩ := DataW.trod_int Tryz.underlying3 g0
    obtain ⟨x1, e1, _, _⟩ := DataW.trod_int Tryz.underlying3 g1
    obtain ⟨x2, e2, _, _⟩ := DataW.trod_int Tryz.underlying3 g2
    obtain ⟨x3, e3, _, _⟩ := DataW.trod_int Tryz.underlying3 g3
    obtain ⟨x4, e4, _, _⟩ := DataW.trod_int Tryz.underlying3 g4
    obtain ⟨x5, e5, _, _⟩ := DataW.trod_int Tryz.underlying3 g5
    obtain ⟨x6, e6, _, _⟩ := DataW.trod_int Tryz.underlying3 g6
    obtain ⟨x7, e7, _, _⟩ := DataW.trod_int Tryz.underlying3 g7
    injection e0 with e0; injection e1 with e1; injection e2 with e2; injection e3 with e3; injection e4 with e4; injection e5 with e5; injection e6 with e6; injection e7 with e7
    subst e0 e1 e2 e3 e4 e5 e6 e7
    obtain ⟨A, n, c, rfl⟩ := slice_at Tryz.underlying22 g8
    obtain ⟨A', n', c', rfl⟩ := slice_at Tryz.underlying43 g9
    obtain ⟨sl, _, p2, p3, p4, p5⟩ := open_toks ⟨_, g8⟩
    obtain ⟨st, _, q2, q3, q4, q5⟩ := open_mks ⟨_, g9⟩
    exact ⟨⟨A, n, c, A', n', c', ⟨x0, x1, x2, x3, x4, x5, x6, x7, sl, st⟩⟩, rfl, ⟨p2, q2, by show n ≤ maxLen; omega, by show n' ≤ maxLen; omega, p5, q5⟩⟩
theorem open_pin {fuel : Nat} {cs : List Value} {y : DataW H × List MemPlace} (h : DataW.trod enc Tryz.prog W b sp hd fuel 91 cs = some y) : ∃ p : Pn, cs = [.int .i64 p.k, .int .i64 p.a, .int .i64 p.b] := by
  have hc : Tryz.prog.cellsOf 3 = 1 := by kernel_rfl
  have hc3 : Tryz.prog.cellsOf 91 = 3 := by kernel_rfl
  obtain ⟨y0, y1, y2, m, _, hl, g0, g1, g2⟩ := Deep.trod_struct3 Tryz.underlying91 h
  simp only [hc, hc3] at hl g0 g1 g2
  match cs, hl with
  | [v0, v1, v2], _ =>
    simp at g0 g1 g2
    obtain ⟨x0, e0, _, _⟩ := DataW.trod_int Tryz.underlying3 g0
    obtain ⟨x1, e1, _, _⟩ := DataW.trod_int Tryz.underlying3 g1
    obtain ⟨x2, e2, _, _⟩ := DataW.trod_int Tryz.underlying3 g2
    injection e0 with e0; injection e1 with e1; injection e2 with e2
    subst e0 e1 e2
    exact ⟨⟨x0, x1, x2⟩, rfl⟩
theorem open_sts {a : Option Addr} {len cap : Nat} {d : DataW H} {pl : List MemPlace} (h : ∃ fuel, DataW.trod enc Tryz.prog W b sp hd fuel 23 [.slice a len cap] = some (d, pl)) : ∃ L : List StH, StsRaw W W.heap.size a len L ∧ len ≤ cap ∧ cap ≤ maxLen ∧ (a = none → len = 0) := by
  obtain ⟨l, h1, h2, h3, h4, h5, h6⟩ := open_els (s := 10) StH.cells (fun s => s.Raw W W.heap.size) Tryz.underlying23 (by kernel_rfl) (by omega) (fun _ => rfl) h open_step
  exact ⟨l, ⟨h2, h6⟩, h3, h4, h5⟩
set_option maxRecDepth 100000 in
theorem open_group (n : Nat) (cs : List Value) (y : DataW H × List MemPlace) (h : DataW.trod enc Tryz.prog W b sp hd n 93 cs = some y) : ∃ g : GrH, cs = g.cells ∧ g.Raw W W.heap.size := by
  have hc : Tryz.prog.cellsOf 3 = 1 := by kernel_rfl
  have hc1 : Tryz.prog.cellsOf 23 = 1 := by kernel_rfl
  have hc3 : Tryz.prog.cellsOf 91 = 3 := by kernel_rfl
  have hc8 : Tryz.prog.cellsOf 93 = 8 := by kernel_rfl
  obtain ⟨hl, hf⟩ := str_at Tryz.underlying93 h
  rw [hc8] at hl
  match cs, hl with
  | [v0, v1, v2, v3, v4, v5, v6, v7], _ =>
    obtain ⟨_, ⟨_, _⟩, g0⟩ := hf 0 23 0 rfl
    obtain ⟨_, _, g1⟩ := hf 1 91 1 rfl
    obtain ⟨_, _, g4⟩ := hf 2 91 4 rfl
    obtain ⟨_, _, g7⟩ := hf 3 3 7 rfl
    simp only [hc, hc1, hc3, List.drop_succ_cons, List.drop_zero, List.take_succ_cons, List.take_zero] at g0 g1 g4 g7
    obtain ⟨A, n, c, rfl⟩ := slice_at Tryz.underlying23 g0
    obtain ⟨L, q1, q2, q3, q4⟩ := open_sts ⟨_, g0⟩
    obtain ⟨p, e1⟩ := open_pin g1
    obtain ⟨p', e4⟩ := open_pin g4
    obtain ⟨x7, e7, _, w7⟩ := DataW.trod_int Tryz.underlying3 g7
    injection e1 with e1 e2; injection e2 with e2 e3; injection e3 with e3
    injection e4 with e4 e5; injection e5 with e5 e6; injection e6 with e6
    injection e7 with e7
    subst e1 e2 e3 e4 e5 e6 e7
    exact ⟨⟨A, n, c, L, p, p', x7⟩, rfl, ⟨q1, by show n ≤ maxLen; omega, q4, i64_bd w7⟩⟩
theorem open_grs {a : Option Addr} {len cap : Nat} {d : DataW H} {pl : List MemPlace} (h : ∃ fuel, DataW.trod enc Tryz.prog W b sp hd fuel 85 [.slice a len cap] = some (d, pl)) : ∃ L : List GrH, GrsRaw W W.heap.size a len L ∧ len ≤ cap ∧ cap ≤ maxLen ∧ (a = none → len = 0) := by
  obtain ⟨l, h1, h2, h3, h4, h5, h6⟩ := open_els (s := 8) GrH.cells (fun s => s.Raw W W.heap.size) Tryz.underlying85 (by kernel_rfl) (by omega) (fun _ => rfl) h open_group
  exact ⟨l, ⟨h2, h6⟩, h3, h4, h5⟩
end
end Go.Proofs.YtmacfoebfpljoaaGreat
namespace Go.Proofs.YtmacfoebfpljoaaGreat
open Go.ChangeShapes Go.WideShapes Go.ChangeAt Go.RowKit
instance : Inhabited Rg := ⟨⟨0, 0, 0⟩⟩
theorem open_rg {H : Type} {enc : TypeId × Value → H} {W : World} {b : Nat} {sp : Nat → Bool} {hd : Bool} (n : Nat) (cs : List Value) (y : DataW H × List MemPlace)
    (h : DataW.trod enc Tryz.prog W b sp hd n 155 cs = some y) : ∃ r : Rg, cs = r.cells ∧ True := by
  have hc : Tryz.prog.cellsOf 3 = 1 := by kernel_rfl
  have hc3 : Tryz.prog.cellsOf 155 = 3 := by kernel_rfl
  obtain ⟨y0, y1, y2, m, _, hl, g0, g1, g2⟩ := Deep.trod_struct3 Tryz.underlying155 h
  simp only [hc, hc3] at hl g0 g1 g2
  match cs, hl with
  | [v0, v1, v2], _ =>
    simp at g0 g1 g2
    obtain ⟨x0, e0, _, _⟩ := DataW.trod_int Tryz.underlying3 g0
    obtain ⟨x1, e1, _, _⟩ := DataW.trod_int Tryz.underlying3 g1
    obtain ⟨x2, e2, _, _⟩ := DataW.trod_int Tryz.underlying3 g2
    injection e0 with e0; injection e1 with e1; injection e2 with e2
    subst e0 e1 e2
    exact ⟨⟨x0, x1, x2⟩, rfl, trivial⟩
theorem open_rgs {H : Type} {enc : TypeId × Value → H} {W : World} {b : Nat} {sp : Nat → Bool} {hd : Bool} {a : Option Addr} {len cap : Nat} {d : DataW H} {pl : List MemPlace}
    (h : ∃ fuel, DataW.trod enc Tryz.prog W b sp hd fuel 94 [.slice a len cap] = some (d, pl)) :
    ∃ l : List Rg, l.length = len ∧ Rd W W.heap.size 3 a len (rgs l) ∧ len ≤ cap ∧ cap ≤ maxLen ∧ (a = none → len = 0) := by
  obtain ⟨l, h1, h2, h3, h4, h5, _⟩ := open_els (s := 3) Rg.cells (fun _ => True) Tryz.underlying94 (by kernel_rfl) (by omega) (fun _ => rfl) h open_rg
  exact ⟨l, h1, h2, h3, h4, h5⟩
end Go.Proofs.YtmacfoebfpljoaaGreat
namespace Go.Proofs.YtmacfoebfpljoaaGreat
open Go.RowKit
set_option linter.unusedVariables false
/-- a deed as it lies -/
structure DeedH where
  k : Int
  g : GrH
  A : Option Addr
  n : Nat
  c : Nat
  m : List Rg
deriving Inhabited
def DeedH.cells (d : DeedH) : List Value := .int .i64 d.k :: (d.g.cells ++ [.slice d.A d.n d.c])
structure DeedH.Raw (w : World) (B : Nat) (d : DeedH) : Prop where
  g : d.g.Raw w B
  m : Rd w B 3 d.A d.n (rgs d.m)
  A : d.A = none → d.n = 0
  n : d.n ≤ maxLen
def deeds (L : List DeedH) : List Value := L.flatMap DeedH.cells
theorem deeds_len (L : List DeedH) : (deeds L).length = L.length * 10 := by
  induction L with
  | nil => rfl
  | cons r l ih => simp only [deeds, List.flatMap_cons, List.length_append] at *; rw [ih]; simp [DeedH.cells, GrH.cells]; omega
def DeedsRaw (w : World) (B : Nat) (A : Option Addr) (n : Nat) (L : List DeedH) : Prop := Rd w B 10 A n (deeds L) ∧ ∀ d ∈ L, d.Raw w B
section
variable {w w' : World} {B B' n : Nat} {A : Option Addr} {L : List DeedH} {d : DeedH}
theorem DeedH.Raw.below (h : d.Raw w B) (hb : Below B w w') : d.Raw w' B := ⟨h.g.below hb, h.m.below hb, h.A, h.n⟩
theorem DeedH.Raw.more (h : d.Raw w B) (hb : B ≤ B') : d.Raw w B' := ⟨h.g.more hb, h.m.more hb, h.A, h.n⟩
theorem DeedsRaw.below (h : DeedsRaw w B A n L) (hb : Below B w w') : DeedsRaw w' B A n L := ⟨h.1.below hb, fun x hx => (h.2 x hx).below hb⟩
theorem DeedsRaw.more (h : DeedsRaw w B A n L) (hb : B ≤ B') : DeedsRaw w B' A n L := ⟨h.1.more hb, fun x hx => (h.2 x hx).more hb⟩
theorem DeedsRaw.len (h : DeedsRaw w B A n L) : L.length = n := by
  have := h.1.1
  rw [deeds_len] at this
  omega
theorem DeedsRaw.at_ {k : Nat} (h : DeedsRaw w B A n L) (hx : L[k]? = some d) : d.Raw w B ∧ ∃ b o, A = some ⟨b, o, none⟩ ∧ b < B ∧ ∀ i, i < 10 → w.cell? ⟨b, o + k * 10 + i, none⟩ = d.cells[i]? :=
  ⟨h.2 d (List.mem_of_getElem? hx), h.1.el DeedH.cells (fun _ => rfl) h.len hx⟩
end
/-- how many steps the deeds have -/
def totD (L : List DeedH) : Nat := (L.map fun d => d.g.n).sum
theorem totD_snoc {L : List DeedH} {q : Nat} {d : DeedH} (hx : L[q]? = some d) : totD (L.take (q + 1)) = totD (L.take q) + d.g.n := by
  unfold totD
  rw [List.take_add_one, hx]
  simp
def SmallD (L : List DeedH) : Prop := ∀ d ∈ L, d.g.n ≤ 20 ∧ SmallS d.g.L ∧ d.n ≤ 20
theorem smalld_take {L : List DeedH} {q : Nat} {d : DeedH} (h : SmallD (L.take q)) (hx : L[q]? = some d) (h1 : d.g.n ≤ 20) (h2 : SmallS d.g.L) (h3 : d.n ≤ 20) : SmallD (L.take (q + 1)) := by
  intro s hs
  rw [List.take_add_one, hx] at hs
  rcases List.mem_append.1 hs with hs | hs
  · exact h s hs
  · simp at hs
    subst hs
    exact ⟨h1, h2, h3⟩
section
variable {H : Type} {enc : TypeId × Value → H} {W : World} {b : Nat} {sp : Nat → Bool} {hd : Bool}
set_option maxRecDepth 100000 in
theorem open_deed (n : Nat) (cs : List Value) (y : DataW H × List MemPlace) (h : DataW.trod enc Tryz.prog W b sp hd n 96 cs = some y) : ∃ d : DeedH, cs = d.cells ∧ d.Raw W W.heap.size := by
  have hc : Tryz.prog.cellsOf 3 = 1 := by kernel_rfl
  have hc1 : Tryz.prog.cellsOf 94 = 1 := by kernel_rfl
  have hc8 : Tryz.prog.cellsOf 93 = 8 := by kernel_rfl
  have hc10 : Tryz.prog.cellsOf 96 = 10 := by kernel_rfl
  obtain ⟨hl, hf⟩ := str_at Tryz.underlying96 h
  rw [hc10] at hl
  match cs, hl with
  | [v0, v1, v2, v3, v4, v5, v6, v7, v8, v9], _ =>
    obtain ⟨_, _, g0⟩ := hf 0 3 0 rfl
    obtain ⟨_, _, g1⟩ := hf 1 93 1 rfl
    obtain ⟨_, ⟨_, _⟩, g9⟩ := hf 2 94 9 rfl
    simp only [hc, hc1, hc8, List.drop_succ_cons, List.drop_zero, List.take_succ_cons, List.take_zero] at g0 g1 g9
    obtain ⟨x0, e0, _, _⟩ := DataW.trod_int Tryz.underlying3 g0
    injection e0 with e0
    subst e0
    obtain ⟨g, eg, hg⟩ := open_group _ _ _ g1
    obtain ⟨A, n, c, rfl⟩ := slice_at Tryz.underlying94 g9
    obtain ⟨m, q1, q2, q3, q4, q5⟩ := open_rgs ⟨_, g9⟩
    refine ⟨⟨x0, g, A, n, c, m⟩, ?_, ⟨hg, q2, q5, by show n ≤ maxLen; omega⟩⟩
    show _ = _ :: (g.cells ++ _)
    rw [← eg]
    rfl
theorem open_deeds {a : Option Addr} {len cap : Nat} {d : DataW H} {pl : List MemPlace} (h : ∃ fuel, DataW.trod enc Tryz.prog W b sp hd fuel 67 [.slice a len cap] = some (d, pl)) : ∃ L : List DeedH, DeedsRaw W W.heap.size a len L ∧ len ≤ cap ∧ cap ≤ maxLen ∧ (a = none → len = 0) := by
  obtain ⟨l, h1, h2, h3, h4, h5, h6⟩ := open_els (s := 10) DeedH.cells (fun s => s.Raw W W.heap.size) Tryz.underlying67 (by kernel_rfl) (by omega) (fun _ => rfl) h open_deed
  exact ⟨l, ⟨h2, h6⟩, h3, h4, h5⟩
end
set_option maxRecDepth 100000 in
set_option maxHeartbeats 8000000 in
theorem few37_any (A : Option Addr) (n c : Nat) (L : List DeedH) (w : World) (h : DeedsRaw w w.heap.size A n L) (hn : n ≤ maxLen) :
    Calls Tryz.prog 39 #[.slice A n c] w (SaysIf (n ≤ 16 ∧ SmallD L ∧ totD L ≤ 24) w) := by
  have hlen := h.len
  have H := Lib.hid h
  have HLEN := Lib.hid hlen
  clear h hlen
  unfold maxLen at hn
  go_enter Tryz.func39, Tryz.ntmps39
  go_wp2
  go_loopw [3, 4] (fun t j wr => ∃ q s : Nat, q ≤ n ∧ q ≤ 16 ∧ s ≤ 20 * q ∧ j = .int .i64 q ∧ t = .int .i64 s ∧ Hid (SmallD (L.take q)) ∧ Hid (s = totD (L.take q)) ∧ Below w.heap.size w wr) (fun _ j _ => n - (intOf j).toNat)
  case atStart => exact ⟨0, 0, by omega, by omega, by omega, rfl, rfl, Lib.hid (fun s hs => by simp at hs), Lib.hid (by simp [totD]), Below.refl _ _⟩
  case round =>
    obtain ⟨q, s, hq, hq16, hs, rfl, rfl, hsm, hst, hbr⟩ := hrel
    by_cases hqn : q < n
    · have e1 : (q : Int) < n := by omega
      by_cases h16 : q < 16
      · have e2 : (q : Int) < 16 := by omega
        obtain ⟨d, hx⟩ : ∃ d, L[q]? = some d := ⟨_, List.getElem?_eq_getElem (by have := HLEN.out; omega)⟩
        obtain ⟨din, b, o, rfl, hb, hcc⟩ := DeedsRaw.at_ (H.out.below hbr) hx
        have hg := (din.g.sts.more hbr.size)
        have hfw := few27_any d.g.A d.g.n d.g.c d.g.L wr hg din.g.n
        have htd := totD_snoc hx
        have HX := Lib.hid hx
        have HTD := Lib.hid htd
        have HFW := Lib.hid hfw
        obtain ⟨dk, ⟨gA, gn, gc, gL, ⟨pk, pa, pb⟩, ⟨bk, ba, bb⟩, glost⟩, mA, mn, mc, ml⟩ := d
        have c1 : wr.cell? ⟨b, o + q * 10 + 1, none⟩ = some (.slice gA gn gc) := by have h1 := hcc 1 (by omega); simpa [DeedH.cells, GrH.cells] using h1
        have c9 : wr.cell? ⟨b, o + q * 10 + 9, none⟩ = some (.slice mA mn mc) := by have h1 := hcc 9 (by omega); simpa [DeedH.cells, GrH.cells] using h1
        have hmn : mn ≤ maxLen := din.n
        unfold maxLen at hmn
        have hB1 := (H.out.1.below hbr)
        have hF : ∀ w', Below wr.heap.size wr w' → w'.cell? ⟨b, o + q * 10 + 1, none⟩ = some (.slice gA gn gc) ∧ w'.cell? ⟨b, o + q * 10 + 9, none⟩ = some (.slice mA mn mc) := fun w' hb' => ⟨(hb'.cell (Nat.lt_of_lt_of_le hb hbr.size)).trans c1, (hb'.cell (Nat.lt_of_lt_of_le hb hbr.size)).trans c9⟩
        have HF := Lib.hid hF
        clear hx hcc din hg hfw htd hB1 hF
        go_wp2_with (go_at_call 9; fail)
        refine HFW.out.mono ?_
        rintro e w1 ⟨v, rfl, hv, hb1⟩
        have d1 := (HF.out w1 hb1).1
        have d9 := (HF.out w1 hb1).2
        clear c1 c9
        cases v with
        | false =>
          go_wp2
          go_ret
          exact ⟨false, rfl, fun h => (by cases h), hbr.trans (hb1.mono hbr.size)⟩
        | true =>
          obtain ⟨hv1, hv2⟩ := hv rfl
          have HV2 := Lib.hid hv2
          clear hv hv2
          by_cases h20 : mn ≤ 20
          · have e4 : ¬ (20 : Int) < mn := by omega
            have e5 : IntKind.i64.wrap ((s : Int) + gn) = ((s + gn : Nat) : Int) := by rw [IntWalk.i64_in _ (by omega)]; omega
            go_wp2
            go_roundw
            case rel => exact ⟨q + 1, s + gn, by omega, by omega, by omega, by go_num, by go_num, Lib.hid (smalld_take hsm.out HX.out hv1 HV2.out h20), Lib.hid (by rw [HTD.out, hst.out]), hbr.trans (hb1.mono hbr.size)⟩
            case measure => simp [intOf]; omega
          · have e4 : (20 : Int) < mn := by omega
            go_wp2
            go_ret
            exact ⟨false, rfl, fun h => (by cases h), hbr.trans (hb1.mono hbr.size)⟩
      · obtain rfl : q = 16 := by omega
        have e3 : ¬ (n : Int) ≤ 16 := by omega
        go_wp2
        go_ret
        exact ⟨false, rfl, fun h => (by cases h), hbr⟩
    · obtain rfl : q = n := by omega
      have e3 : (q : Int) ≤ 16 := by omega
      have hsm' := hsm.out
      have hst' := hst.out
      rw [List.take_of_length_le (by rw [HLEN.out]; omega)] at hsm' hst'
      have HSM := Lib.hid hsm'
      have HST := Lib.hid hst'
      clear hsm' hst'
      by_cases h24 : s ≤ 24
      · have e5 : (s : Int) ≤ 24 := by omega
        go_wp2
        go_ret
        exact ⟨true, rfl, fun _ => ⟨by omega, HSM.out, by rw [← HST.out]; exact h24⟩, hbr⟩
      · have e5 : ¬ (s : Int) ≤ 24 := by omega
        go_wp2
        go_ret
        exact ⟨false, rfl, fun h => (by cases h), hbr⟩
end Go.Proofs.YtmacfoebfpljoaaGreat
