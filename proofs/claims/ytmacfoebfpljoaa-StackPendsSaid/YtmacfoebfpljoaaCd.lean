/- chain: where a position comes to over a link with one ahead -/
import Derived.Test.YtmacfoebfpljoaaCc
import Derived.Test.YtmacfoebfpljoaaN
import Derived.Test.YtmacfoebfpljoaaK1
import Derived.BigRegion
namespace Go.Proofs.Ytmacfoebfpljoaa
open Go.RowKit

/-- what is told behind the link ahead -/
def contL (kk : Bool) (over : List Rg) (g i : Bool) (q : Pl × Int) (s : Int) : Pl × Int :=
  if q.2 ≠ 0 ∨ kk = false then (⟨q.1.pos, decide (q.2 = 0) && (q.1.gone || g), decide (q.2 = 0) && (q.1.inside || i), q.1.range, q.1.off⟩, q.2)
  else if (tellS over q.1.pos s).2 ≠ 0 then (Pl.zero, (tellS over q.1.pos s).2) else (⟨(tellS over q.1.pos s).1.pos, g || q.1.gone || (tellS over q.1.pos s).1.gone, i || q.1.inside || (tellS over q.1.pos s).1.inside, 0, 0⟩, 0)
theorem tellL_bad {m : List Rg} {k : Lk} {ks : List Lk} {p s er : Int} {P : Pl} (h : tellS k.back p s = (P, er)) (he : er ≠ 0) : tellL m (k :: ks) p s = (Pl.zero, er) := by
  simp only [tellL]
  rw [h]
  exact if_pos he
theorem tellL_rec {m : List Rg} {k : Lk} {ks : List Lk} {p s x : Int} {P : Pl} (h : tellS k.back p s = (P, 0)) (hg : P.gone = true) (hk : k.kept = true) (hr : recS k.over P.range P.off = (x, true)) : tellL m (k :: ks) p s = (⟨x, false, false, 0, 0⟩, 0) := by
  simp only [tellL]
  rw [h]
  simp [hg, hk, recO, hr]
theorem tellL_cont {m : List Rg} {k : Lk} {ks : List Lk} {p s : Int} {P : Pl} (h : tellS k.back p s = (P, 0)) (hn : P.gone = false ∨ k.kept = false ∨ (recS k.over P.range P.off).2 = false) : tellL m (k :: ks) p s = contL k.kept k.over P.gone P.inside (tellL m ks P.pos s) s := by
  have hm : (if (P.gone && k.kept) = true then recO k.over P.range P.off else none) = none := by
    rcases hn with hn | hn | hn
    · rw [hn]; rfl
    · rw [hn, Bool.and_false]; rfl
    · split
      · simp [recO, hn]
      · rfl
  simp only [tellL]
  rw [h]
  simp only
  rw [hm]
  simp only [contL, ne_eq, not_true_eq_false, if_false]

theorem tellsays_agg {X : Pl × Int} {w w' : World} {e : Ending} (h : TellSays X w e w') : ∃ q : Pl, ∃ er : Int, Hid (X = (q, er)) ∧ e = .returned (.tuple #[.agg #[.int .i64 q.pos, .bool q.gone, .bool q.inside, .int .i64 q.range, .int .i64 q.off], .int .i64 er]) ∧ Below w.heap.size w w' :=
  ⟨X.1, X.2, Lib.hid rfl, h.1, h.2⟩

theorem place_set {W : World} {b : Nat} {cs : Array Value} (h : Bk W b 79 cs) (a : Int) (g i : Bool) (r o : Int) (hc : cs.size = 5 := by rfl) : Bk (((((W.setCell ⟨b, 0, none⟩ (.int .i64 a)).setCell ⟨b, 1, none⟩ (.bool g)).setCell ⟨b, 2, none⟩ (.bool i)).setCell ⟨b, 3, none⟩ (.int .i64 r)).setCell ⟨b, 4, none⟩ (.int .i64 o)) b 79 #[.int .i64 a, .bool g, .bool i, .int .i64 r, .int .i64 o] := by
  obtain ⟨l⟩ := cs
  match l, hc with
  | [_, _, _, _, _], _ => exact ((((h.set_ 0 _).set_ 1 _).set_ 2 _).set_ 3 _).set_ 4 _

set_option maxRecDepth 100000 in
set_option maxHeartbeats 2000000 in
/-- the map back says an error -/
theorem ltell_bad (bt b : Nat) (m : List Rg) (k : Lk) (ks : List Lk) (p s er : Int) (P : Pl) (w : World) (h : LinkAt w w.heap.size bt b m (k :: ks)) (hX : tellS k.back p s = (P, er)) (he : er ≠ 0) :
    Calls Try.prog 23 #[.pointer (some ⟨b, 0, none⟩), .int .i64 p, .int .i64 s] w (TellSays (tellL m (k :: ks) p s) w) := by
  rw [tellL_bad hX he]
  obtain ⟨hlt, A, n, c, A', n', c', b', hk, hm, _⟩ := h
  have ht := fun W (hb : Below w.heap.size w W) => tell_any A n c k.back p s W (by have := hm.n; unfold maxLen; omega) (fun _ => (hm.rd.below hb).more hb.size) hm.rd.rlen
  rw [hX] at ht
  have HT := Lib.hid ht
  have HLT := def_lt' hk
  have c0 := hk.cell 0; have c3 := hk.cell 3
  have t1 : (er == 0) = false := by simpa using he
  dsimp at c0 c3
  clear ht hm hk hX
  go_enter Try.func23, Try.ntmps23
  go_wp2_with (go_at_call 35; (refine (HT.out _ (by repeat (first | with_reducible exact Below.refl _ _ | with_reducible assumption | (with_reducible refine below_drewN ?_ _) | (with_reducible refine Below.drew ?_) | (with_reducible refine Below.alloc ?_ ?_ _; rotate_left; focus (first | with_reducible assumption | omega | (simp; done) | (simp; omega))) | (with_reducible refine Below.setCell ?_ ?_ _; rotate_left; focus (first | with_reducible assumption | omega | (simp; done) | (simp; omega)))))).mono ?_); rintro e w1 ⟨rfl, hb1⟩; simp only [Pl.val]; have kb := (Bk.new w 79 #[.int .i64 0, .bool false, .bool false, .int .i64 0, .int .i64 0]).ext hb1; have lb := def_lt' kb; have fb := kb.frozen; have d0 := kb.cell 0; have d1 := kb.cell 1; have d2 := kb.cell 2; have d3 := kb.cell 3; have d4 := kb.cell 4; dsimp at d0 d1 d2 d3 d4)
  have y := (place_set kb 0 false false 0 0).alloc (.cells #[.int .i64 P.pos, .bool P.gone, .bool P.inside, .int .i64 P.range, .int .i64 P.off] 79)
  have hbe : Below w.heap.size w w1 := Below.trans (by repeat (first | with_reducible exact Below.refl _ _ | with_reducible assumption | (with_reducible refine below_drewN ?_ _) | (with_reducible refine Below.drew ?_) | (with_reducible refine Below.alloc ?_ ?_ _; rotate_left; focus (first | with_reducible assumption | omega | (simp; done) | (simp; omega))) | (with_reducible refine Below.setCell ?_ ?_ _; rotate_left; focus (first | with_reducible assumption | omega | (simp; done) | (simp; omega))))) (hb1.mono (by simp))
  have q0 := y.cell 0; have q1 := y.cell 1; have q2 := y.cell 2; have q3 := y.cell 3; have q4 := y.cell 4
  dsimp at q0 q1 q2 q3 q4
  refine bodyPost_ret (v := .tuple #[.agg #[.int .i64 0, .bool false, .bool false, .int .i64 0, .int .i64 0], .int .i64 er]) (by simp [results, Try.results23, go_sem, q0, q1, q2, q3, q4]) rfl ⟨rfl, ?_⟩
  have hz := hbe.size
  repeat (first | with_reducible exact Below.refl _ _ | with_reducible assumption | (with_reducible refine below_drewN ?_ _) | (with_reducible refine Below.drew ?_) | (with_reducible refine Below.alloc ?_ ?_ _; rotate_left; focus (first | with_reducible assumption | omega | (simp; done) | (simp; omega))) | (with_reducible refine Below.setCell ?_ ?_ _; rotate_left; focus (first | with_reducible assumption | omega | (simp; done) | (simp; omega))))

set_option maxRecDepth 100000 in
set_option maxHeartbeats 4000000 in
theorem ltell_go (bt b : Nat) (m : List Rg) (k : Lk) (ks : List Lk) (p s : Int) (P : Pl) (w : World) (h : LinkAt w w.heap.size bt b m (k :: ks)) (hX : tellS k.back p s = (P, 0))
    (ih : ∀ (b : Nat) (p s : Int) (w : World), LinkAt w w.heap.size bt b m ks → Calls Try.prog 23 #[.pointer (some ⟨b, 0, none⟩), .int .i64 p, .int .i64 s] w (TellSays (tellL m ks p s) w)) :
    Calls Try.prog 23 #[.pointer (some ⟨b, 0, none⟩), .int .i64 p, .int .i64 s] w (TellSays (tellL m (k :: ks) p s) w) := by
  have hrc := fun x => tellL_rec (m := m) (ks := ks) (x := x) hX
  have hco := tellL_cont (m := m) (ks := ks) hX
  obtain ⟨hlt, A, n, c, A', n', c', b', hk, hm, hm', _, _, h3⟩ := h
  have ht := fun W (hb : Below w.heap.size w W) => calls_on hb (tell_any A n c k.back p s W (by have := hm.n; unfold maxLen; omega) (fun _ => (hm.rd.below hb).more hb.size) hm.rd.rlen)
  rw [hX] at ht
  have hto := fun W (x : Int) (hb : Below w.heap.size w W) => (tell_any A' n' c' k.over x s W (by have := hm'.n; unfold maxLen; omega) (fun _ => (hm'.rd.below hb).more hb.size) hm'.rd.rlen)
  have hr := fun W (hb : Below w.heap.size w W) => calls_on hb (rec_any A' n' c' k.over P.range P.off W (by have := hm'.n; unfold maxLen; omega) (fun _ => (hm'.rd.below hb).more hb.size) hm'.rd.rlen)
  have hi := fun W (hb : Below w.heap.size w W) => calls_on hb (ih b' P.pos s W (h3.ext hb))
  generalize tellL m (k :: ks) p s = G at *
  generalize tellL m ks P.pos s = Q at *
  obtain ⟨kb, kov, kk⟩ := k
  simp only at *
  generalize hR : recS kov P.range P.off = R at *
  obtain ⟨px, pg, pi, pr, po⟩ := P
  obtain ⟨⟨qx, qg, qi, qr, qo⟩, qe⟩ := Q
  obtain ⟨rx, rb⟩ := R
  simp only [Pl.val] at *
  have HT := Lib.hid ht
  have HTO := Lib.hid hto
  have HR := Lib.hid hr
  have HI := Lib.hid hi
  have HRC := Lib.hid hrc
  have HCO := Lib.hid hco
  have HLT := def_lt' hk
  have HK := Lib.hid hk
  clear ht hto hr hi hrc hco hm hm' h3 ih hX hR
  have c0 := hk.cell 0; have c1 := hk.cell 1; have c2 := hk.cell 2; have c3 := hk.cell 3
  dsimp at c0 c1 c2 c3
  clear hk
  go_enter Try.func23, Try.ntmps23
  go_upto_region 8 with (go_at_call 35; (refine (HT.out _ (by repeat (first | with_reducible exact Below.refl _ _ | with_reducible assumption | (with_reducible refine below_drewN ?_ _) | (with_reducible refine Below.drew ?_) | (with_reducible refine Below.alloc ?_ ?_ _; rotate_left; focus (first | with_reducible assumption | omega | (simp; done) | (simp; omega))) | (with_reducible refine Below.setCell ?_ ?_ _; rotate_left; focus (first | with_reducible assumption | omega | (simp; done) | (simp; omega)))))).mono ?_); rintro e w1 ⟨rfl, hb1, hz1, hx1⟩)
  have kr := ((Bk.new w 79 #[.int .i64 0, .bool false, .bool false, .int .i64 0, .int .i64 0]).ext hx1).alloc (.cells #[.int .i64 px, .bool pg, .bool pi, .int .i64 pr, .int .i64 po] 79)
  have kp := Bk.new w1 79 #[.int .i64 px, .bool pg, .bool pi, .int .i64 pr, .int .i64 po]
  have hb2 : Below w.heap.size w (w1.alloc (.cells #[.int .i64 px, .bool pg, .bool pi, .int .i64 pr, .int .i64 po] 79)) := by repeat (first | with_reducible exact Below.refl _ _ | with_reducible assumption | (with_reducible refine below_drewN ?_ _) | (with_reducible refine Below.drew ?_) | (with_reducible refine Below.alloc ?_ ?_ _; rotate_left; focus (first | with_reducible assumption | omega | (simp; done) | (simp; omega))) | (with_reducible refine Below.setCell ?_ ?_ _; rotate_left; focus (first | with_reducible assumption | omega | (simp; done) | (simp; omega))))
  generalize w1.alloc (.cells #[.int .i64 px, .bool pg, .bool pi, .int .i64 pr, .int .i64 po] 79) = w2 at *
  have l2 := (hb2.cell (p := ⟨b, 2, none⟩) HLT).trans c2
  have p1 := kp.cell 1
  dsimp at p1
  go_cut [56] (fun v wx => v = .bool (pg && kk) ∧ wx = w2)
  case first =>
    cases pg <;> cases kk <;> (go_wp2; go_meet; exact ⟨rfl, rfl⟩)
  case rest =>
    obtain ⟨rfl, rfl⟩ := hcut
    go_upto_if 56 with fail
    go_cut [12] (fun v wx => (pg = false ∨ kk = false ∨ rb = false) ∧ Below w.heap.size w wx ∧ Bk wx w.heap.size 79 #[.int .i64 0, .bool false, .bool false, .int .i64 0, .int .i64 0] ∧ Bk wx w1.heap.size 79 #[.int .i64 px, .bool pg, .bool pi, .int .i64 pr, .int .i64 po])
    case first =>
      cases hpk : (pg && kk) with
      | false =>
        go_wp2
        go_meet
        refine ⟨?_, hb2, kr, kp⟩
        rcases Bool.and_eq_false_iff.1 hpk with h | h
        · exact .inl h
        · exact .inr (.inl h)
      | true =>
        obtain ⟨rfl, rfl⟩ : pg = true ∧ kk = true := by simpa using hpk
        have hz2 := hb2.size
        have l1 := (hb2.cell (p := ⟨b, 1, none⟩) HLT).trans c1
        have p3 := kp.cell 3; have p4 := kp.cell 4
        dsimp at p3 p4
        have hlc := Nat.lt_of_lt_of_le HLT hz2
        have hlp := def_lt' kp
        have hF : ∀ w', Below wc.heap.size wc w' → w'.cell? ⟨b, 1, none⟩ = some (.slice A' n' c') ∧ w'.cell? ⟨w1.heap.size, 3, none⟩ = some (.int .i64 pr) ∧ w'.cell? ⟨w1.heap.size, 4, none⟩ = some (.int .i64 po) := fun w' hb => ⟨(hb.cell (p := ⟨b, 1, none⟩) hlc).trans l1, (hb.cell (p := ⟨w1.heap.size, 3, none⟩) hlp).trans p3, (hb.cell (p := ⟨w1.heap.size, 4, none⟩) hlp).trans p4⟩
        have HF := Lib.hid hF
        clear hF
        go_wp2
        refine wp_normal ?_
        refine wp_region_held_drew (S := fun w' => Below wc.heap.size wc w') (by kernel_rfl) (Below.refl _ _).drew (fun hHeld => ?_)
        (refine take_if (i := 0) (oi := _) (v := ?_) (by simp only [List.getElem?_toArray, List.getElem?_cons_zero]; rfl) (by kernel_rfl) (by kernel_rfl) (by kernel_rfl) (fun _ _ _ h => h) (by rfl) ?_ (by assumption) ?_; rotate_left; (focus ((intro w hSw; (try have hSw := HF.out _ hSw); (try dsimp only at hSw); go_simp); try exact rfl)); simp only [Act.put, List.setIfInBounds_toArray, List.set_cons_zero, List.set_cons_succ]; refine take_if (i := 1) (oi := _) (v := ?_) (by simp only [List.getElem?_toArray, List.getElem?_cons_succ, List.getElem?_cons_zero]; rfl) (by kernel_rfl) (by kernel_rfl) (by kernel_rfl) (fun _ _ _ h => h) (by rfl) ?_ (by assumption) ?_; rotate_left; (focus ((intro w hSw; (try have hSw := HF.out _ hSw); (try dsimp only at hSw); go_simp); try exact rfl)); simp only [Act.put, List.setIfInBounds_toArray, List.set_cons_zero, List.set_cons_succ]; refine take_if (i := 2) (oi := _) (v := ?_) (by simp only [List.getElem?_toArray, List.getElem?_cons_succ, List.getElem?_cons_zero]; rfl) (by kernel_rfl) (by kernel_rfl) (by kernel_rfl) (fun _ _ _ h => h) (by rfl) ?_ (by assumption) ?_; rotate_left; (focus ((intro w hSw; (try have hSw := HF.out _ hSw); (try dsimp only at hSw); go_simp); try exact rfl)); simp only [Act.put, List.setIfInBounds_toArray, List.set_cons_zero, List.set_cons_succ]; refine take_if (i := 3) (oi := _) (v := ?_) (by simp only [List.getElem?_toArray, List.getElem?_cons_succ, List.getElem?_cons_zero]; rfl) (by kernel_rfl) (by kernel_rfl) (by kernel_rfl) (fun _ _ _ h => h) (by rfl) ?_ (by assumption) ?_; rotate_left; (focus ((intro w hSw; (try have hSw := HF.out _ hSw); (try dsimp only at hSw); go_simp); try exact rfl)); simp only [Act.put, List.setIfInBounds_toArray, List.set_cons_zero, List.set_cons_succ]; refine take_if (i := 4) (oi := _) (v := ?_) (by simp only [List.getElem?_toArray, List.getElem?_cons_succ, List.getElem?_cons_zero]; rfl) (by kernel_rfl) (by kernel_rfl) (by kernel_rfl) (fun _ _ _ h => h) (by rfl) ?_ (by assumption) ?_; rotate_left; (focus ((intro w hSw; (try have hSw := HF.out _ hSw); (try dsimp only at hSw); go_simp); try exact rfl)); simp only [Act.put, List.setIfInBounds_toArray, List.set_cons_zero, List.set_cons_succ]; refine take_if (i := 5) (oi := _) (v := ?_) (by simp only [List.getElem?_toArray, List.getElem?_cons_succ, List.getElem?_cons_zero]; rfl) (by kernel_rfl) (by kernel_rfl) (by kernel_rfl) (fun _ _ _ h => h) (by rfl) ?_ (by assumption) ?_; rotate_left; (focus ((intro w hSw; (try have hSw := HF.out _ hSw); (try dsimp only at hSw); go_simp); try exact rfl)); simp only [Act.put, List.setIfInBounds_toArray, List.set_cons_zero, List.set_cons_succ]; refine take_if (i := 6) (oi := _) (v := ?_) (by simp only [List.getElem?_toArray, List.getElem?_cons_succ, List.getElem?_cons_zero]; rfl) (by kernel_rfl) (by kernel_rfl) (by kernel_rfl) (fun _ _ _ h => h) (by rfl) ?_ (by assumption) ?_; rotate_left; (focus ((intro w hSw; (try have hSw := HF.out _ hSw); (try dsimp only at hSw); go_simp); try exact rfl)); simp only [Act.put, List.setIfInBounds_toArray, List.set_cons_zero, List.set_cons_succ]; refine take_if (i := 7) (oi := _) (v := ?_) (by simp only [List.getElem?_toArray, List.getElem?_cons_succ, List.getElem?_cons_zero]; rfl) (by kernel_rfl) (by kernel_rfl) (by kernel_rfl) (fun _ _ _ h => h) (by rfl) ?_ (by assumption) ?_; rotate_left; (focus ((intro w hSw; (try have hSw := HF.out _ hSw); (try dsimp only at hSw); go_simp); try exact rfl)); simp only [Act.put, List.setIfInBounds_toArray, List.set_cons_zero, List.set_cons_succ])
        refine wpAnyH_ready (rs := [8]) (by kernel_rfl) (by simp) ?_; refine (AllReadyH.cons (o := _) (by simp only [List.getElem?_toArray, List.getElem?_cons_succ, List.getElem?_cons_zero]; rfl) (fun K hK => ?_) AllReadyH.nil)
        go_simp
        go_at_call 36
        refine (HR.out _ hb2.drew).mono ?_
        rintro e w4 ⟨rfl, hb4, hz4, hx4⟩
        have hx5 : Below wc.heap.size wc w4 := Below.trans (Below.refl _ _).drew hx4
        refine hK.out _ _ hx5 (fun hHeld => ?_)
        clear hK K; (try simp only [Act.put, List.setIfInBounds_toArray, List.set_cons_zero, List.set_cons_succ])
        (refine take_if (i := 9) (oi := _) (v := ?_) (by simp only [List.getElem?_toArray, List.getElem?_cons_succ, List.getElem?_cons_zero]; rfl) (by kernel_rfl) (by kernel_rfl) (by kernel_rfl) (fun _ _ _ h => h) (by rfl) ?_ (by assumption) ?_; rotate_left; (focus ((intro w hSw; (try have hSw := HF.out _ hSw); (try dsimp only at hSw); go_simp); try exact rfl)); simp only [Act.put, List.setIfInBounds_toArray, List.set_cons_zero, List.set_cons_succ]; refine take_if (i := 10) (oi := _) (v := ?_) (by simp only [List.getElem?_toArray, List.getElem?_cons_succ, List.getElem?_cons_zero]; rfl) (by kernel_rfl) (by kernel_rfl) (by kernel_rfl) (fun _ _ _ h => h) (by rfl) ?_ (by assumption) ?_; rotate_left; (focus ((intro w hSw; (try have hSw := HF.out _ hSw); (try dsimp only at hSw); go_simp); try exact rfl)); simp only [Act.put, List.setIfInBounds_toArray, List.set_cons_zero, List.set_cons_succ]; refine take_if (i := 11) (oi := _) (v := ?_) (by simp only [List.getElem?_toArray, List.getElem?_cons_succ, List.getElem?_cons_zero]; rfl) (by kernel_rfl) (by kernel_rfl) (by kernel_rfl) (fun _ _ _ h => h) (by rfl) ?_ (by assumption) ?_; rotate_left; (focus ((intro w hSw; (try have hSw := HF.out _ hSw); (try dsimp only at hSw); go_simp); try exact rfl)); simp only [Act.put, List.setIfInBounds_toArray, List.set_cons_zero, List.set_cons_succ]; refine take_if (i := 12) (oi := _) (v := ?_) (by simp only [List.getElem?_toArray, List.getElem?_cons_succ, List.getElem?_cons_zero]; rfl) (by kernel_rfl) (by kernel_rfl) (by kernel_rfl) (fun _ _ _ h => h) (by rfl) ?_ (by assumption) ?_; rotate_left; (focus ((intro w hSw; (try have hSw := HF.out _ hSw); (try dsimp only at hSw); go_simp); try exact rfl)); simp only [Act.put, List.setIfInBounds_toArray, List.set_cons_zero, List.set_cons_succ]; refine take_if (i := 13) (oi := _) (v := ?_) (by simp only [List.getElem?_toArray, List.getElem?_cons_succ, List.getElem?_cons_zero]; rfl) (by kernel_rfl) (by kernel_rfl) (by kernel_rfl) (fun _ _ _ h => h) (by rfl) ?_ (by assumption) ?_; rotate_left; (focus ((intro w hSw; (try have hSw := HF.out _ hSw); (try dsimp only at hSw); go_simp); try exact rfl)); simp only [Act.put, List.setIfInBounds_toArray, List.set_cons_zero, List.set_cons_succ])
        refine wpAnyH_done (by kernel_rfl) ?_ _
        have kr4 := kr.ext hx5
        have kp4 := kp.ext hx5
        cases rb with
        | false =>
          go_wp2
          go_meet
          exact ⟨by simp, hb4, kr4, kp4⟩
        | true =>
          have hG := HRC.out rx (by simp) (by simp) (by simp)
          have lr := def_lt' kr4
          have fr := kr4.frozen
          have d0 := kr4.cell 0; have d1 := kr4.cell 1; have d2 := kr4.cell 2; have d3 := kr4.cell 3; have d4 := kr4.cell 4
          dsimp at d0 d1 d2 d3 d4
          go_wp2
          have y := place_set kr4 rx false false 0 0
          have q0 := y.cell 0; have q1 := y.cell 1; have q2 := y.cell 2; have q3 := y.cell 3; have q4 := y.cell 4
          dsimp at q0 q1 q2 q3 q4
          refine bodyPost_ret (v := .tuple #[.agg #[.int .i64 rx, .bool false, .bool false, .int .i64 0, .int .i64 0], .int .i64 0]) (by simp [results, Try.results23, go_sem, q0, q1, q2, q3, q4]) rfl ⟨?_, ?_⟩
          · rw [hG]; rfl
          · repeat (first | with_reducible exact Below.refl _ _ | with_reducible assumption | (with_reducible refine below_drewN ?_ _) | (with_reducible refine Below.drew ?_) | (with_reducible refine Below.alloc ?_ ?_ _; rotate_left; focus (first | with_reducible assumption | omega | (simp; done) | (simp; omega))) | (with_reducible refine Below.setCell ?_ ?_ _; rotate_left; focus (first | with_reducible assumption | omega | (simp; done) | (simp; omega))))
    case rest =>
      obtain ⟨hor, hb3, kr3, kp3⟩ := hcut
      have hco := HCO.out hor
      have HCO2 := Lib.hid hco
      clear hco hor HCO HRC HR HT hb1 hx1 hz1 kr kp l2 p1
      have hz3 := hb3.size
      have l3 := (hb3.cell (p := ⟨b, 3, none⟩) HLT).trans c3
      have p0 := kp3.cell 0
      dsimp at p0
      have hlc := Nat.lt_of_lt_of_le HLT hz3
      have hlp := def_lt' kp3
      have hF : ∀ w', Below wc.heap.size wc w' → w'.cell? ⟨b, 3, none⟩ = some (.pointer (some ⟨b', 0, none⟩)) ∧ w'.cell? ⟨w1.heap.size, 0, none⟩ = some (.int .i64 px) := fun w' hb => ⟨(hb.cell (p := ⟨b, 3, none⟩) hlc).trans l3, (hb.cell (p := ⟨w1.heap.size, 0, none⟩) hlp).trans p0⟩
      have HF := Lib.hid hF
      clear hF
      go_upto_region 12 with fail
      go_cut [14, 11] (fun v e wx => ∃ b14 : Nat, v = .pointer (some ⟨b14, 0, none⟩) ∧ e = .int .i64 qe ∧ Below wc.heap.size wc wx ∧ wc.heap.size ≤ b14 ∧ Bk wx b14 79 #[.int .i64 qx, .bool qg, .bool qi, .int .i64 qr, .int .i64 qo])
      case first =>
        refine wp_normal ?_
        refine wp_region_held_drew (S := fun w' => Below wc.heap.size wc w') (by kernel_rfl) ((Below.refl _ _).drew) (fun hHeld => ?_)
        (refine take_if (i := 0) (oi := _) (v := ?_) (by simp only [List.getElem?_toArray, List.getElem?_cons_zero]; rfl) (by kernel_rfl) (by kernel_rfl) (by kernel_rfl) (fun _ _ _ h => h) (by rfl) ?_ (by assumption) ?_; rotate_left; (focus ((intro w hSw; (try have hSw := HF.out _ hSw); (try dsimp only at hSw); go_simp); try exact rfl)); simp only [Act.put, List.setIfInBounds_toArray, List.set_cons_zero, List.set_cons_succ]; refine take_if (i := 1) (oi := _) (v := ?_) (by simp only [List.getElem?_toArray, List.getElem?_cons_succ, List.getElem?_cons_zero]; rfl) (by kernel_rfl) (by kernel_rfl) (by kernel_rfl) (fun _ _ _ h => h) (by rfl) ?_ (by assumption) ?_; rotate_left; (focus ((intro w hSw; (try have hSw := HF.out _ hSw); (try dsimp only at hSw); go_simp); try exact rfl)); simp only [Act.put, List.setIfInBounds_toArray, List.set_cons_zero, List.set_cons_succ]; refine take_if (i := 2) (oi := _) (v := ?_) (by simp only [List.getElem?_toArray, List.getElem?_cons_succ, List.getElem?_cons_zero]; rfl) (by kernel_rfl) (by kernel_rfl) (by kernel_rfl) (fun _ _ _ h => h) (by rfl) ?_ (by assumption) ?_; rotate_left; (focus ((intro w hSw; (try have hSw := HF.out _ hSw); (try dsimp only at hSw); go_simp); try exact rfl)); simp only [Act.put, List.setIfInBounds_toArray, List.set_cons_zero, List.set_cons_succ]; refine take_if (i := 3) (oi := _) (v := ?_) (by simp only [List.getElem?_toArray, List.getElem?_cons_succ, List.getElem?_cons_zero]; rfl) (by kernel_rfl) (by kernel_rfl) (by kernel_rfl) (fun _ _ _ h => h) (by rfl) ?_ (by assumption) ?_; rotate_left; (focus ((intro w hSw; (try have hSw := HF.out _ hSw); (try dsimp only at hSw); go_simp); try exact rfl)); simp only [Act.put, List.setIfInBounds_toArray, List.set_cons_zero, List.set_cons_succ]; refine take_if (i := 4) (oi := _) (v := ?_) (by simp only [List.getElem?_toArray, List.getElem?_cons_succ, List.getElem?_cons_zero]; rfl) (by kernel_rfl) (by kernel_rfl) (by kernel_rfl) (fun _ _ _ h => h) (by rfl) ?_ (by assumption) ?_; rotate_left; (focus ((intro w hSw; (try have hSw := HF.out _ hSw); (try dsimp only at hSw); go_simp); try exact rfl)); simp only [Act.put, List.setIfInBounds_toArray, List.set_cons_zero, List.set_cons_succ]; refine take_if (i := 5) (oi := _) (v := ?_) (by simp only [List.getElem?_toArray, List.getElem?_cons_succ, List.getElem?_cons_zero]; rfl) (by kernel_rfl) (by kernel_rfl) (by kernel_rfl) (fun _ _ _ h => h) (by rfl) ?_ (by assumption) ?_; rotate_left; (focus ((intro w hSw; (try have hSw := HF.out _ hSw); (try dsimp only at hSw); go_simp); try exact rfl)); simp only [Act.put, List.setIfInBounds_toArray, List.set_cons_zero, List.set_cons_succ]; refine take_if (i := 6) (oi := _) (v := ?_) (by simp only [List.getElem?_toArray, List.getElem?_cons_succ, List.getElem?_cons_zero]; rfl) (by kernel_rfl) (by kernel_rfl) (by kernel_rfl) (fun _ _ _ h => h) (by rfl) ?_ (by assumption) ?_; rotate_left; (focus ((intro w hSw; (try have hSw := HF.out _ hSw); (try dsimp only at hSw); go_simp); try exact rfl)); simp only [Act.put, List.setIfInBounds_toArray, List.set_cons_zero, List.set_cons_succ])
        refine wpAnyH_ready (rs := [7, 11]) (by kernel_rfl) (by simp) ?_; refine (AllReadyH.cons (o := _) (by simp only [List.getElem?_toArray, List.getElem?_cons_succ, List.getElem?_cons_zero]; rfl) (fun K hK => ?_) (AllReadyH.cons (o := _) (by simp only [List.getElem?_toArray, List.getElem?_cons_succ, List.getElem?_cons_zero]; rfl) (fun K hK => ?_) AllReadyH.nil))
        · go_simp
          go_at_call 23
          refine (HI.out _ hb3.drew).mono ?_
          rintro e w4 ⟨rfl, hb4, hz4, hx4⟩
          have hx5 : Below wc.heap.size wc w4 := Below.trans (Below.refl _ _).drew hx4
          have hx5s := hx5.size
          refine hK.out _ _ hx5 (fun hHeld => ?_)
          clear hK K; (try simp only [Act.put, List.setIfInBounds_toArray, List.set_cons_zero, List.set_cons_succ])
          (refine take_if (i := 8) (oi := _) (v := ?_) (by simp only [List.getElem?_toArray, List.getElem?_cons_succ, List.getElem?_cons_zero]; rfl) (by kernel_rfl) (by kernel_rfl) (by kernel_rfl) (fun _ _ _ h => h) (by rfl) ?_ (by assumption) ?_; rotate_left; (focus ((intro w hSw; (try have hSw := HF.out _ hSw); (try dsimp only at hSw); go_simp); try exact rfl)); simp only [Act.put, List.setIfInBounds_toArray, List.set_cons_zero, List.set_cons_succ]; refine take_if (i := 9) (oi := _) (v := ?_) (by simp only [List.getElem?_toArray, List.getElem?_cons_succ, List.getElem?_cons_zero]; rfl) (by kernel_rfl) (by kernel_rfl) (by kernel_rfl) (fun _ _ _ h => h) (by rfl) ?_ (by assumption) ?_; rotate_left; (focus ((intro w hSw; (try have hSw := HF.out _ hSw); (try dsimp only at hSw); go_simp); try exact rfl)); simp only [Act.put, List.setIfInBounds_toArray, List.set_cons_zero, List.set_cons_succ]; refine take_if (i := 10) (oi := _) (v := ?_) (by simp only [List.getElem?_toArray, List.getElem?_cons_succ, List.getElem?_cons_zero]; rfl) (by kernel_rfl) (by kernel_rfl) (by kernel_rfl) (fun _ _ _ h => h) (by rfl) ?_ (by assumption) ?_; rotate_left; (focus ((intro w hSw; (try have hSw := HF.out _ hSw); (try dsimp only at hSw); go_simp); try exact rfl)); simp only [Act.put, List.setIfInBounds_toArray, List.set_cons_zero, List.set_cons_succ])
          refine wpAnyH_ready (rs := [11]) (by kernel_rfl) (by simp) ?_; refine (AllReadyH.cons (o := _) (by simp only [List.getElem?_toArray, List.getElem?_cons_succ, List.getElem?_cons_zero]; rfl) (fun K hK => ?_) AllReadyH.nil)
          go_simp
          refine hK.out _ _ (by repeat (first | with_reducible exact Below.refl _ _ | with_reducible assumption | (with_reducible refine below_drewN ?_ _) | (with_reducible refine Below.drew ?_) | (with_reducible refine Below.alloc ?_ ?_ _; rotate_left; focus (first | with_reducible assumption | omega | (simp; done) | (simp; omega))) | (with_reducible refine Below.setCell ?_ ?_ _; rotate_left; focus (first | with_reducible assumption | omega | (simp; done) | (simp; omega))))) (fun hHeld => ?_)
          clear hK K; (try simp only [Act.put, List.setIfInBounds_toArray, List.set_cons_zero, List.set_cons_succ])
          refine wpAnyH_ready (rs := [12]) (by kernel_rfl) (by simp) ?_; refine (AllReadyH.cons (o := _) (by simp only [List.getElem?_toArray, List.getElem?_cons_succ, List.getElem?_cons_zero]; rfl) (fun K hK => ?_) AllReadyH.nil)
          go_simp
          refine hK.out _ _ (by repeat (first | with_reducible exact Below.refl _ _ | with_reducible assumption | (with_reducible refine below_drewN ?_ _) | (with_reducible refine Below.drew ?_) | (with_reducible refine Below.alloc ?_ ?_ _; rotate_left; focus (first | with_reducible assumption | omega | (simp; done) | (simp; omega))) | (with_reducible refine Below.setCell ?_ ?_ _; rotate_left; focus (first | with_reducible assumption | omega | (simp; done) | (simp; omega))))) (fun hHeld => ?_)
          clear hK K; (try simp only [Act.put, List.setIfInBounds_toArray, List.set_cons_zero, List.set_cons_succ])
          (refine take_if (i := 13) (oi := _) (v := ?_) (by simp only [List.getElem?_toArray, List.getElem?_cons_succ, List.getElem?_cons_zero]; rfl) (by kernel_rfl) (by kernel_rfl) (by kernel_rfl) (fun _ _ _ h => h) (by rfl) ?_ (by assumption) ?_; rotate_left; (focus ((intro w hSw; (try have hSw := HF.out _ hSw); (try dsimp only at hSw); go_simp); try exact rfl)); simp only [Act.put, List.setIfInBounds_toArray, List.set_cons_zero, List.set_cons_succ])
          refine wpAnyH_done (by kernel_rfl) ?_ _
          go_wp2
          go_meet
          exact ⟨_, rfl, rfl, hHeld, hx5s, Bk.new w4 _ _⟩
        · go_simp
          refine hK.out _ _ (by repeat (first | with_reducible exact Below.refl _ _ | with_reducible assumption | (with_reducible refine below_drewN ?_ _) | (with_reducible refine Below.drew ?_) | (with_reducible refine Below.alloc ?_ ?_ _; rotate_left; focus (first | with_reducible assumption | omega | (simp; done) | (simp; omega))) | (with_reducible refine Below.setCell ?_ ?_ _; rotate_left; focus (first | with_reducible assumption | omega | (simp; done) | (simp; omega))))) (fun hHeld => ?_)
          clear hK K; (try simp only [Act.put, List.setIfInBounds_toArray, List.set_cons_zero, List.set_cons_succ])
          refine wpAnyH_ready (rs := [7]) (by kernel_rfl) (by simp) ?_; refine (AllReadyH.cons (o := _) (by simp only [List.getElem?_toArray, List.getElem?_cons_succ, List.getElem?_cons_zero]; rfl) (fun K hK => ?_) AllReadyH.nil)
          go_simp
          go_at_call 23
          refine (HI.out _ (by repeat (first | with_reducible exact Below.refl _ _ | with_reducible assumption | (with_reducible refine below_drewN ?_ _) | (with_reducible refine Below.drew ?_) | (with_reducible refine Below.alloc ?_ ?_ _; rotate_left; focus (first | with_reducible assumption | omega | (simp; done) | (simp; omega))) | (with_reducible refine Below.setCell ?_ ?_ _; rotate_left; focus (first | with_reducible assumption | omega | (simp; done) | (simp; omega)))))).mono ?_
          rintro e w4 ⟨rfl, hb4, hz4, hx4⟩
          have hx5 : Below wc.heap.size wc w4 := Below.trans (by repeat (first | with_reducible exact Below.refl _ _ | with_reducible assumption | (with_reducible refine below_drewN ?_ _) | (with_reducible refine Below.drew ?_) | (with_reducible refine Below.alloc ?_ ?_ _; rotate_left; focus (first | with_reducible assumption | omega | (simp; done) | (simp; omega))) | (with_reducible refine Below.setCell ?_ ?_ _; rotate_left; focus (first | with_reducible assumption | omega | (simp; done) | (simp; omega))))) (hx4.mono (by simp))
          have k10 := (Bk.drew (Bk.new wc 79 #[.int .i64 0, .bool false, .bool false, .int .i64 0, .int .i64 0])).ext hx4
          have d0 := k10.cell 0; have d1 := k10.cell 1; have d2 := k10.cell 2; have d3 := k10.cell 3; have d4 := k10.cell 4
          have cf := k10.frozen; have cl := def_lt' k10
          dsimp at d0 d1 d2 d3 d4
          refine hK.out _ _ hx5 (fun hHeld => ?_)
          clear hK K; (try simp only [Act.put, List.setIfInBounds_toArray, List.set_cons_zero, List.set_cons_succ])
          (refine take_if (i := 8) (oi := _) (v := ?_) (by simp only [List.getElem?_toArray, List.getElem?_cons_succ, List.getElem?_cons_zero]; rfl) (by kernel_rfl) (by kernel_rfl) (by kernel_rfl) (fun _ _ _ h => h) (by rfl) ?_ (by assumption) ?_; rotate_left; (focus ((intro w hSw; (try have hSw := HF.out _ hSw); (try dsimp only at hSw); go_simp); try exact rfl)); simp only [Act.put, List.setIfInBounds_toArray, List.set_cons_zero, List.set_cons_succ]; refine take_if (i := 9) (oi := _) (v := ?_) (by simp only [List.getElem?_toArray, List.getElem?_cons_succ, List.getElem?_cons_zero]; rfl) (by kernel_rfl) (by kernel_rfl) (by kernel_rfl) (fun _ _ _ h => h) (by rfl) ?_ (by assumption) ?_; rotate_left; (focus ((intro w hSw; (try have hSw := HF.out _ hSw); (try dsimp only at hSw); go_simp); try exact rfl)); simp only [Act.put, List.setIfInBounds_toArray, List.set_cons_zero, List.set_cons_succ]; refine take_if (i := 10) (oi := _) (v := ?_) (by simp only [List.getElem?_toArray, List.getElem?_cons_succ, List.getElem?_cons_zero]; rfl) (by kernel_rfl) (by kernel_rfl) (by kernel_rfl) (fun _ _ _ h => h) (by rfl) ?_ (by assumption) ?_; rotate_left; (focus ((intro w hSw; (try have hSw := HF.out _ hSw); (try dsimp only at hSw); go_simp); try exact rfl)); simp only [Act.put, List.setIfInBounds_toArray, List.set_cons_zero, List.set_cons_succ])
          refine wpAnyH_ready (rs := [12]) (by kernel_rfl) (by simp) ?_; refine (AllReadyH.cons (o := _) (by simp only [List.getElem?_toArray, List.getElem?_cons_succ, List.getElem?_cons_zero]; rfl) (fun K hK => ?_) AllReadyH.nil)
          go_simp
          refine hK.out _ _ (by repeat (first | with_reducible exact Below.refl _ _ | with_reducible assumption | (with_reducible refine below_drewN ?_ _) | (with_reducible refine Below.drew ?_) | (with_reducible refine Below.alloc ?_ ?_ _; rotate_left; focus (first | with_reducible assumption | omega | (simp; done) | (simp; omega))) | (with_reducible refine Below.setCell ?_ ?_ _; rotate_left; focus (first | with_reducible assumption | omega | (simp; done) | (simp; omega))))) (fun hHeld => ?_)
          clear hK K; (try simp only [Act.put, List.setIfInBounds_toArray, List.set_cons_zero, List.set_cons_succ])
          (refine take_if (i := 13) (oi := _) (v := ?_) (by simp only [List.getElem?_toArray, List.getElem?_cons_succ, List.getElem?_cons_zero]; rfl) (by kernel_rfl) (by kernel_rfl) (by kernel_rfl) (fun _ _ _ h => h) (by rfl) ?_ (by assumption) ?_; rotate_left; (focus ((intro w hSw; (try have hSw := HF.out _ hSw); (try dsimp only at hSw); go_simp); try exact rfl)); simp only [Act.put, List.setIfInBounds_toArray, List.set_cons_zero, List.set_cons_succ])
          refine wpAnyH_done (by kernel_rfl) ?_ _
          go_wp2
          go_meet
          exact ⟨_, rfl, rfl, hHeld, Nat.le_refl _, place_set k10 qx qg qi qr qo⟩
      case rest =>
        obtain ⟨b14, rfl, rfl, hb5, hle, kq⟩ := hcut
        have kr4 := kr3.ext hb5
        have kp4 := kp3.ext hb5
        have hb6 := hb3.trans (hb5.mono hz3)
        have l2 := (hb6.cell (p := ⟨b, 2, none⟩) HLT).trans c2
        have l1 := (hb6.cell (p := ⟨b, 1, none⟩) HLT).trans c1
        have hne1 : b14 ≠ w.heap.size := by have := def_lt' kr3; omega
        have hne2 : b14 ≠ w1.heap.size := by omega
        have hz6 := hb6.size
        have hlr := def_lt' kr4
        have hlp4 := def_lt' kp4
        have hlq := def_lt' kq
        have frq := kq.frozen
        have frr := kr4.frozen
        have hge14 : w.heap.size ≤ b14 := by omega
        have g0 := kp4.cell 0; have g1 := kp4.cell 1; have g2 := kp4.cell 2
        have q0 := kq.cell 0; have q1 := kq.cell 1; have q2 := kq.cell 2; have q3 := kq.cell 3; have q4 := kq.cell 4
        have r0 := kr4.cell 0; have r1 := kr4.cell 1; have r2 := kr4.cell 2; have r3 := kr4.cell 3; have r4 := kr4.cell 4
        dsimp at g0 g1 g2 q0 q1 q2 q3 q4 r0 r1 r2 r3 r4
        clear HF HI hb5 kr3 kp3 hb3 l3 p0 c0 c1 c2 c3 hz3 hlc hlp
        by_cases he : qe = 0
        rotate_left
        · have t1 : (qe == 0) = false := by simpa using he
          have hG : G = (⟨qx, false, false, qr, qo⟩, qe) := by
            rw [HCO2.out]
            simp [contL, he]
          have HG := Lib.hid hG
          clear hG HCO2 HTO
          go_upto_region 14 with fail
          go_region
          go_wp2
          have y := place_set (W := (wc.setCell ⟨b14, 1, none⟩ (.bool false)).setCell ⟨b14, 2, none⟩ (.bool false)) ((kr4.far (p := ⟨b14, 1, none⟩) (by simp; omega) (.bool false)).far (p := ⟨b14, 2, none⟩) (by simp; omega) (.bool false)) qx false false qr qo
          have q0 := y.cell 0; have q1 := y.cell 1; have q2 := y.cell 2; have q3 := y.cell 3; have q4 := y.cell 4
          dsimp at q0 q1 q2 q3 q4
          refine bodyPost_ret (v := .tuple #[.agg #[.int .i64 qx, .bool false, .bool false, .int .i64 qr, .int .i64 qo], .int .i64 qe]) (by simp [results, Try.results23, go_sem, q0, q1, q2, q3, q4]) rfl ⟨?_, ?_⟩
          · rw [HG.out]; rfl
          · repeat (first | with_reducible exact Below.refl _ _ | with_reducible assumption | (with_reducible refine below_drewN ?_ _) | (with_reducible refine Below.drew ?_) | (with_reducible refine Below.alloc ?_ ?_ _; rotate_left; focus (first | with_reducible assumption | omega | (simp; done) | (simp; omega))) | (with_reducible refine Below.setCell ?_ ?_ _; rotate_left; focus (first | with_reducible assumption | omega | (simp; done) | (simp; omega))))
        · subst he
          cases kk with
          | false =>
            have hG : G = (⟨qx, qg || pg, qi || pi, qr, qo⟩, 0) := by
              rw [HCO2.out]
              simp [contL]
            clear HCO2 HTO
            cases qg <;> cases qi
            · simp only [Bool.false_or] at hG
              have HG := Lib.hid hG
              clear hG
              go_upto_region 14 with fail
              go_region
              go_wp2
              have y := place_set (W := (wc.setCell ⟨b14, 1, none⟩ (.bool pg)).setCell ⟨b14, 2, none⟩ (.bool pi)) ((kr4.far (p := ⟨b14, 1, none⟩) (by simp; omega) (.bool pg)).far (p := ⟨b14, 2, none⟩) (by simp; omega) (.bool pi)) qx pg pi qr qo
              have q0 := y.cell 0; have q1 := y.cell 1; have q2 := y.cell 2; have q3 := y.cell 3; have q4 := y.cell 4
              dsimp at q0 q1 q2 q3 q4
              refine bodyPost_ret (v := .tuple #[.agg #[.int .i64 qx, .bool pg, .bool pi, .int .i64 qr, .int .i64 qo], .int .i64 0]) (by simp [results, Try.results23, go_sem, q0, q1, q2, q3, q4]) rfl ⟨?_, ?_⟩
              · rw [HG.out]; rfl
              · repeat (first | with_reducible exact Below.refl _ _ | with_reducible assumption | (with_reducible refine below_drewN ?_ _) | (with_reducible refine Below.drew ?_) | (with_reducible refine Below.alloc ?_ ?_ _; rotate_left; focus (first | with_reducible assumption | omega | (simp; done) | (simp; omega))) | (with_reducible refine Below.setCell ?_ ?_ _; rotate_left; focus (first | with_reducible assumption | omega | (simp; done) | (simp; omega))))
            · simp only [Bool.false_or, Bool.true_or] at hG
              have HG := Lib.hid hG
              clear hG
              go_upto_region 14 with fail
              go_region
              go_wp2
              have y := place_set (W := (wc.setCell ⟨b14, 1, none⟩ (.bool pg)).setCell ⟨b14, 2, none⟩ (.bool true)) ((kr4.far (p := ⟨b14, 1, none⟩) (by simp; omega) (.bool pg)).far (p := ⟨b14, 2, none⟩) (by simp; omega) (.bool true)) qx pg true qr qo
              have q0 := y.cell 0; have q1 := y.cell 1; have q2 := y.cell 2; have q3 := y.cell 3; have q4 := y.cell 4
              dsimp at q0 q1 q2 q3 q4
              refine bodyPost_ret (v := .tuple #[.agg #[.int .i64 qx, .bool pg, .bool true, .int .i64 qr, .int .i64 qo], .int .i64 0]) (by simp [results, Try.results23, go_sem, q0, q1, q2, q3, q4]) rfl ⟨?_, ?_⟩
              · rw [HG.out]; rfl
              · repeat (first | with_reducible exact Below.refl _ _ | with_reducible assumption | (with_reducible refine below_drewN ?_ _) | (with_reducible refine Below.drew ?_) | (with_reducible refine Below.alloc ?_ ?_ _; rotate_left; focus (first | with_reducible assumption | omega | (simp; done) | (simp; omega))) | (with_reducible refine Below.setCell ?_ ?_ _; rotate_left; focus (first | with_reducible assumption | omega | (simp; done) | (simp; omega))))
            · simp only [Bool.false_or, Bool.true_or] at hG
              have HG := Lib.hid hG
              clear hG
              go_upto_region 14 with fail
              go_region
              go_wp2
              have y := place_set (W := (wc.setCell ⟨b14, 1, none⟩ (.bool true)).setCell ⟨b14, 2, none⟩ (.bool pi)) ((kr4.far (p := ⟨b14, 1, none⟩) (by simp; omega) (.bool true)).far (p := ⟨b14, 2, none⟩) (by simp; omega) (.bool pi)) qx true pi qr qo
              have q0 := y.cell 0; have q1 := y.cell 1; have q2 := y.cell 2; have q3 := y.cell 3; have q4 := y.cell 4
              dsimp at q0 q1 q2 q3 q4
              refine bodyPost_ret (v := .tuple #[.agg #[.int .i64 qx, .bool true, .bool pi, .int .i64 qr, .int .i64 qo], .int .i64 0]) (by simp [results, Try.results23, go_sem, q0, q1, q2, q3, q4]) rfl ⟨?_, ?_⟩
              · rw [HG.out]; rfl
              · repeat (first | with_reducible exact Below.refl _ _ | with_reducible assumption | (with_reducible refine below_drewN ?_ _) | (with_reducible refine Below.drew ?_) | (with_reducible refine Below.alloc ?_ ?_ _; rotate_left; focus (first | with_reducible assumption | omega | (simp; done) | (simp; omega))) | (with_reducible refine Below.setCell ?_ ?_ _; rotate_left; focus (first | with_reducible assumption | omega | (simp; done) | (simp; omega))))
            · simp only [Bool.true_or] at hG
              have HG := Lib.hid hG
              clear hG
              go_upto_region 14 with fail
              go_region
              go_wp2
              have y := place_set (W := (wc.setCell ⟨b14, 1, none⟩ (.bool true)).setCell ⟨b14, 2, none⟩ (.bool true)) ((kr4.far (p := ⟨b14, 1, none⟩) (by simp; omega) (.bool true)).far (p := ⟨b14, 2, none⟩) (by simp; omega) (.bool true)) qx true true qr qo
              have q0 := y.cell 0; have q1 := y.cell 1; have q2 := y.cell 2; have q3 := y.cell 3; have q4 := y.cell 4
              dsimp at q0 q1 q2 q3 q4
              refine bodyPost_ret (v := .tuple #[.agg #[.int .i64 qx, .bool true, .bool true, .int .i64 qr, .int .i64 qo], .int .i64 0]) (by simp [results, Try.results23, go_sem, q0, q1, q2, q3, q4]) rfl ⟨?_, ?_⟩
              · rw [HG.out]; rfl
              · repeat (first | with_reducible exact Below.refl _ _ | with_reducible assumption | (with_reducible refine below_drewN ?_ _) | (with_reducible refine Below.drew ?_) | (with_reducible refine Below.alloc ?_ ?_ _; rotate_left; focus (first | with_reducible assumption | omega | (simp; done) | (simp; omega))) | (with_reducible refine Below.setCell ?_ ?_ _; rotate_left; focus (first | with_reducible assumption | omega | (simp; done) | (simp; omega))))
          | true =>
            obtain ⟨⟨⟨xx, xg, xi, xr, xo⟩, xe⟩, hY⟩ : ∃ y, tellS kov qx s = y := ⟨_, rfl⟩
            have hto := fun W (hb : Below w.heap.size w W) => calls_on hb (HTO.out W qx hb)
            rw [hY] at hto
            simp only [Pl.val] at hto
            have hG : G = (if xe ≠ 0 then (Pl.zero, xe) else (⟨xx, pg || qg || xg, pi || qi || xi, 0, 0⟩, 0)) := by
              rw [HCO2.out]
              simp only [contL, hY]
              simp
            have HG := Lib.hid hG
            have HT2 := Lib.hid hto
            have hF : ∀ w', Below wc.heap.size wc w' → w'.cell? ⟨b, 1, none⟩ = some (.slice A' n' c') ∧ w'.cell? ⟨b14, 0, none⟩ = some (.int .i64 qx) := fun w' hb => ⟨(hb.cell (p := ⟨b, 1, none⟩) (by simp; omega)).trans l1, (hb.cell (p := ⟨b14, 0, none⟩) hlq).trans q0⟩
            have HF := Lib.hid hF
            clear hF hG hto hY HCO2 HTO
            go_upto_region 16 with fail
            go_cut [15, 11] (fun v e wx => ∃ b15 : Nat, v = .pointer (some ⟨b15, 0, none⟩) ∧ e = .int .i64 xe ∧ Below wc.heap.size wc wx ∧ wc.heap.size ≤ b15 ∧ Bk wx b15 79 #[.int .i64 xx, .bool xg, .bool xi, .int .i64 xr, .int .i64 xo])
            case first =>
              refine wp_normal ?_
              refine wp_region_held_drew (S := fun w' => Below wc.heap.size wc w') (by kernel_rfl) ((Below.refl _ _).drew) (fun hHeld => ?_)
              (refine take_if (i := 0) (oi := _) (v := ?_) (by simp only [List.getElem?_toArray, List.getElem?_cons_zero]; rfl) (by kernel_rfl) (by kernel_rfl) (by kernel_rfl) (fun _ _ _ h => h) (by rfl) ?_ (by assumption) ?_; rotate_left; (focus ((intro w hSw; (try have hSw := HF.out _ hSw); (try dsimp only at hSw); go_simp); try exact rfl)); simp only [Act.put, List.setIfInBounds_toArray, List.set_cons_zero, List.set_cons_succ]; refine take_if (i := 1) (oi := _) (v := ?_) (by simp only [List.getElem?_toArray, List.getElem?_cons_succ, List.getElem?_cons_zero]; rfl) (by kernel_rfl) (by kernel_rfl) (by kernel_rfl) (fun _ _ _ h => h) (by rfl) ?_ (by assumption) ?_; rotate_left; (focus ((intro w hSw; (try have hSw := HF.out _ hSw); (try dsimp only at hSw); go_simp); try exact rfl)); simp only [Act.put, List.setIfInBounds_toArray, List.set_cons_zero, List.set_cons_succ]; refine take_if (i := 2) (oi := _) (v := ?_) (by simp only [List.getElem?_toArray, List.getElem?_cons_succ, List.getElem?_cons_zero]; rfl) (by kernel_rfl) (by kernel_rfl) (by kernel_rfl) (fun _ _ _ h => h) (by rfl) ?_ (by assumption) ?_; rotate_left; (focus ((intro w hSw; (try have hSw := HF.out _ hSw); (try dsimp only at hSw); go_simp); try exact rfl)); simp only [Act.put, List.setIfInBounds_toArray, List.set_cons_zero, List.set_cons_succ]; refine take_if (i := 3) (oi := _) (v := ?_) (by simp only [List.getElem?_toArray, List.getElem?_cons_succ, List.getElem?_cons_zero]; rfl) (by kernel_rfl) (by kernel_rfl) (by kernel_rfl) (fun _ _ _ h => h) (by rfl) ?_ (by assumption) ?_; rotate_left; (focus ((intro w hSw; (try have hSw := HF.out _ hSw); (try dsimp only at hSw); go_simp); try exact rfl)); simp only [Act.put, List.setIfInBounds_toArray, List.set_cons_zero, List.set_cons_succ]; refine take_if (i := 4) (oi := _) (v := ?_) (by simp only [List.getElem?_toArray, List.getElem?_cons_succ, List.getElem?_cons_zero]; rfl) (by kernel_rfl) (by kernel_rfl) (by kernel_rfl) (fun _ _ _ h => h) (by rfl) ?_ (by assumption) ?_; rotate_left; (focus ((intro w hSw; (try have hSw := HF.out _ hSw); (try dsimp only at hSw); go_simp); try exact rfl)); simp only [Act.put, List.setIfInBounds_toArray, List.set_cons_zero, List.set_cons_succ]; refine take_if (i := 5) (oi := _) (v := ?_) (by simp only [List.getElem?_toArray, List.getElem?_cons_succ, List.getElem?_cons_zero]; rfl) (by kernel_rfl) (by kernel_rfl) (by kernel_rfl) (fun _ _ _ h => h) (by rfl) ?_ (by assumption) ?_; rotate_left; (focus ((intro w hSw; (try have hSw := HF.out _ hSw); (try dsimp only at hSw); go_simp); try exact rfl)); simp only [Act.put, List.setIfInBounds_toArray, List.set_cons_zero, List.set_cons_succ]; refine take_if (i := 6) (oi := _) (v := ?_) (by simp only [List.getElem?_toArray, List.getElem?_cons_succ, List.getElem?_cons_zero]; rfl) (by kernel_rfl) (by kernel_rfl) (by kernel_rfl) (fun _ _ _ h => h) (by rfl) ?_ (by assumption) ?_; rotate_left; (focus ((intro w hSw; (try have hSw := HF.out _ hSw); (try dsimp only at hSw); go_simp); try exact rfl)); simp only [Act.put, List.setIfInBounds_toArray, List.set_cons_zero, List.set_cons_succ])
              refine wpAnyH_ready (rs := [7, 11]) (by kernel_rfl) (by simp) ?_; refine (AllReadyH.cons (o := _) (by simp only [List.getElem?_toArray, List.getElem?_cons_succ, List.getElem?_cons_zero]; rfl) (fun K hK => ?_) (AllReadyH.cons (o := _) (by simp only [List.getElem?_toArray, List.getElem?_cons_succ, List.getElem?_cons_zero]; rfl) (fun K hK => ?_) AllReadyH.nil))
              · go_simp
                go_at_call 35
                refine (HT2.out _ hb6.drew).mono ?_
                rintro e w4 ⟨rfl, hb4, hz4, hx4⟩
                have hx5 : Below wc.heap.size wc w4 := Below.trans (Below.refl _ _).drew hx4
                have hx5s := hx5.size
                refine hK.out _ _ hx5 (fun hHeld => ?_)
                clear hK K; (try simp only [Act.put, List.setIfInBounds_toArray, List.set_cons_zero, List.set_cons_succ])
                (refine take_if (i := 8) (oi := _) (v := ?_) (by simp only [List.getElem?_toArray, List.getElem?_cons_succ, List.getElem?_cons_zero]; rfl) (by kernel_rfl) (by kernel_rfl) (by kernel_rfl) (fun _ _ _ h => h) (by rfl) ?_ (by assumption) ?_; rotate_left; (focus ((intro w hSw; (try have hSw := HF.out _ hSw); (try dsimp only at hSw); go_simp); try exact rfl)); simp only [Act.put, List.setIfInBounds_toArray, List.set_cons_zero, List.set_cons_succ]; refine take_if (i := 9) (oi := _) (v := ?_) (by simp only [List.getElem?_toArray, List.getElem?_cons_succ, List.getElem?_cons_zero]; rfl) (by kernel_rfl) (by kernel_rfl) (by kernel_rfl) (fun _ _ _ h => h) (by rfl) ?_ (by assumption) ?_; rotate_left; (focus ((intro w hSw; (try have hSw := HF.out _ hSw); (try dsimp only at hSw); go_simp); try exact rfl)); simp only [Act.put, List.setIfInBounds_toArray, List.set_cons_zero, List.set_cons_succ]; refine take_if (i := 10) (oi := _) (v := ?_) (by simp only [List.getElem?_toArray, List.getElem?_cons_succ, List.getElem?_cons_zero]; rfl) (by kernel_rfl) (by kernel_rfl) (by kernel_rfl) (fun _ _ _ h => h) (by rfl) ?_ (by assumption) ?_; rotate_left; (focus ((intro w hSw; (try have hSw := HF.out _ hSw); (try dsimp only at hSw); go_simp); try exact rfl)); simp only [Act.put, List.setIfInBounds_toArray, List.set_cons_zero, List.set_cons_succ])
                refine wpAnyH_ready (rs := [11]) (by kernel_rfl) (by simp) ?_; refine (AllReadyH.cons (o := _) (by simp only [List.getElem?_toArray, List.getElem?_cons_succ, List.getElem?_cons_zero]; rfl) (fun K hK => ?_) AllReadyH.nil)
                go_simp
                refine hK.out _ _ (by repeat (first | with_reducible exact Below.refl _ _ | with_reducible assumption | (with_reducible refine below_drewN ?_ _) | (with_reducible refine Below.drew ?_) | (with_reducible refine Below.alloc ?_ ?_ _; rotate_left; focus (first | with_reducible assumption | omega | (simp; done) | (simp; omega))) | (with_reducible refine Below.setCell ?_ ?_ _; rotate_left; focus (first | with_reducible assumption | omega | (simp; done) | (simp; omega))))) (fun hHeld => ?_)
                clear hK K; (try simp only [Act.put, List.setIfInBounds_toArray, List.set_cons_zero, List.set_cons_succ])
                refine wpAnyH_ready (rs := [12]) (by kernel_rfl) (by simp) ?_; refine (AllReadyH.cons (o := _) (by simp only [List.getElem?_toArray, List.getElem?_cons_succ, List.getElem?_cons_zero]; rfl) (fun K hK => ?_) AllReadyH.nil)
                go_simp
                refine hK.out _ _ (by repeat (first | with_reducible exact Below.refl _ _ | with_reducible assumption | (with_reducible refine below_drewN ?_ _) | (with_reducible refine Below.drew ?_) | (with_reducible refine Below.alloc ?_ ?_ _; rotate_left; focus (first | with_reducible assumption | omega | (simp; done) | (simp; omega))) | (with_reducible refine Below.setCell ?_ ?_ _; rotate_left; focus (first | with_reducible assumption | omega | (simp; done) | (simp; omega))))) (fun hHeld => ?_)
                clear hK K; (try simp only [Act.put, List.setIfInBounds_toArray, List.set_cons_zero, List.set_cons_succ])
                (refine take_if (i := 13) (oi := _) (v := ?_) (by simp only [List.getElem?_toArray, List.getElem?_cons_succ, List.getElem?_cons_zero]; rfl) (by kernel_rfl) (by kernel_rfl) (by kernel_rfl) (fun _ _ _ h => h) (by rfl) ?_ (by assumption) ?_; rotate_left; (focus ((intro w hSw; (try have hSw := HF.out _ hSw); (try dsimp only at hSw); go_simp); try exact rfl)); simp only [Act.put, List.setIfInBounds_toArray, List.set_cons_zero, List.set_cons_succ])
                refine wpAnyH_done (by kernel_rfl) ?_ _
                go_wp2
                go_meet
                exact ⟨_, rfl, rfl, hHeld, hx5s, Bk.new w4 _ _⟩
              · go_simp
                refine hK.out _ _ (by repeat (first | with_reducible exact Below.refl _ _ | with_reducible assumption | (with_reducible refine below_drewN ?_ _) | (with_reducible refine Below.drew ?_) | (with_reducible refine Below.alloc ?_ ?_ _; rotate_left; focus (first | with_reducible assumption | omega | (simp; done) | (simp; omega))) | (with_reducible refine Below.setCell ?_ ?_ _; rotate_left; focus (first | with_reducible assumption | omega | (simp; done) | (simp; omega))))) (fun hHeld => ?_)
                clear hK K; (try simp only [Act.put, List.setIfInBounds_toArray, List.set_cons_zero, List.set_cons_succ])
                refine wpAnyH_ready (rs := [7]) (by kernel_rfl) (by simp) ?_; refine (AllReadyH.cons (o := _) (by simp only [List.getElem?_toArray, List.getElem?_cons_succ, List.getElem?_cons_zero]; rfl) (fun K hK => ?_) AllReadyH.nil)
                go_simp
                go_at_call 35
                refine (HT2.out _ (by repeat (first | with_reducible exact Below.refl _ _ | with_reducible assumption | (with_reducible refine below_drewN ?_ _) | (with_reducible refine Below.drew ?_) | (with_reducible refine Below.alloc ?_ ?_ _; rotate_left; focus (first | with_reducible assumption | omega | (simp; done) | (simp; omega))) | (with_reducible refine Below.setCell ?_ ?_ _; rotate_left; focus (first | with_reducible assumption | omega | (simp; done) | (simp; omega)))))).mono ?_
                rintro e w4 ⟨rfl, hb4, hz4, hx4⟩
                have hx5 : Below wc.heap.size wc w4 := Below.trans (by repeat (first | with_reducible exact Below.refl _ _ | with_reducible assumption | (with_reducible refine below_drewN ?_ _) | (with_reducible refine Below.drew ?_) | (with_reducible refine Below.alloc ?_ ?_ _; rotate_left; focus (first | with_reducible assumption | omega | (simp; done) | (simp; omega))) | (with_reducible refine Below.setCell ?_ ?_ _; rotate_left; focus (first | with_reducible assumption | omega | (simp; done) | (simp; omega))))) (hx4.mono (by simp))
                have k10 := (Bk.drew (Bk.new wc 79 #[.int .i64 0, .bool false, .bool false, .int .i64 0, .int .i64 0])).ext hx4
                have d0 := k10.cell 0; have d1 := k10.cell 1; have d2 := k10.cell 2; have d3 := k10.cell 3; have d4 := k10.cell 4
                have cf := k10.frozen; have cl := def_lt' k10
                dsimp at d0 d1 d2 d3 d4
                refine hK.out _ _ hx5 (fun hHeld => ?_)
                clear hK K; (try simp only [Act.put, List.setIfInBounds_toArray, List.set_cons_zero, List.set_cons_succ])
                (refine take_if (i := 8) (oi := _) (v := ?_) (by simp only [List.getElem?_toArray, List.getElem?_cons_succ, List.getElem?_cons_zero]; rfl) (by kernel_rfl) (by kernel_rfl) (by kernel_rfl) (fun _ _ _ h => h) (by rfl) ?_ (by assumption) ?_; rotate_left; (focus ((intro w hSw; (try have hSw := HF.out _ hSw); (try dsimp only at hSw); go_simp); try exact rfl)); simp only [Act.put, List.setIfInBounds_toArray, List.set_cons_zero, List.set_cons_succ]; refine take_if (i := 9) (oi := _) (v := ?_) (by simp only [List.getElem?_toArray, List.getElem?_cons_succ, List.getElem?_cons_zero]; rfl) (by kernel_rfl) (by kernel_rfl) (by kernel_rfl) (fun _ _ _ h => h) (by rfl) ?_ (by assumption) ?_; rotate_left; (focus ((intro w hSw; (try have hSw := HF.out _ hSw); (try dsimp only at hSw); go_simp); try exact rfl)); simp only [Act.put, List.setIfInBounds_toArray, List.set_cons_zero, List.set_cons_succ]; refine take_if (i := 10) (oi := _) (v := ?_) (by simp only [List.getElem?_toArray, List.getElem?_cons_succ, List.getElem?_cons_zero]; rfl) (by kernel_rfl) (by kernel_rfl) (by kernel_rfl) (fun _ _ _ h => h) (by rfl) ?_ (by assumption) ?_; rotate_left; (focus ((intro w hSw; (try have hSw := HF.out _ hSw); (try dsimp only at hSw); go_simp); try exact rfl)); simp only [Act.put, List.setIfInBounds_toArray, List.set_cons_zero, List.set_cons_succ])
                refine wpAnyH_ready (rs := [12]) (by kernel_rfl) (by simp) ?_; refine (AllReadyH.cons (o := _) (by simp only [List.getElem?_toArray, List.getElem?_cons_succ, List.getElem?_cons_zero]; rfl) (fun K hK => ?_) AllReadyH.nil)
                go_simp
                refine hK.out _ _ (by repeat (first | with_reducible exact Below.refl _ _ | with_reducible assumption | (with_reducible refine below_drewN ?_ _) | (with_reducible refine Below.drew ?_) | (with_reducible refine Below.alloc ?_ ?_ _; rotate_left; focus (first | with_reducible assumption | omega | (simp; done) | (simp; omega))) | (with_reducible refine Below.setCell ?_ ?_ _; rotate_left; focus (first | with_reducible assumption | omega | (simp; done) | (simp; omega))))) (fun hHeld => ?_)
                clear hK K; (try simp only [Act.put, List.setIfInBounds_toArray, List.set_cons_zero, List.set_cons_succ])
                (refine take_if (i := 13) (oi := _) (v := ?_) (by simp only [List.getElem?_toArray, List.getElem?_cons_succ, List.getElem?_cons_zero]; rfl) (by kernel_rfl) (by kernel_rfl) (by kernel_rfl) (fun _ _ _ h => h) (by rfl) ?_ (by assumption) ?_; rotate_left; (focus ((intro w hSw; (try have hSw := HF.out _ hSw); (try dsimp only at hSw); go_simp); try exact rfl)); simp only [Act.put, List.setIfInBounds_toArray, List.set_cons_zero, List.set_cons_succ])
                refine wpAnyH_done (by kernel_rfl) ?_ _
                go_wp2
                go_meet
                exact ⟨_, rfl, rfl, hHeld, Nat.le_refl _, place_set k10 xx xg xi xr xo⟩
            case rest =>
              obtain ⟨b15, rfl, rfl, hb7, hle7, kx⟩ := hcut
              have kr5 := kr4.ext hb7
              have kp5 := kp4.ext hb7
              have kq5 := kq.ext hb7
              have hb8 := hb6.trans (hb7.mono hz6)
              have hz8 := hb8.size
              clear HF HT2 hb7 kr4 kp4 kq hb6 g0 g1 g2 q0 q1 q2 q3 q4 r0 r1 r2 r3 r4 hlr hlp4 hlq frq frr
              have hlr := def_lt' kr5
              have frr := kr5.frozen
              have g1 := kp5.cell 1; have g2 := kp5.cell 2
              have q1 := kq5.cell 1; have q2 := kq5.cell 2
              have r0 := kr5.cell 0; have r1 := kr5.cell 1; have r2 := kr5.cell 2; have r3 := kr5.cell 3; have r4 := kr5.cell 4
              have x0 := kx.cell 0; have x1 := kx.cell 1; have x2 := kx.cell 2
              dsimp at g1 g2 q1 q2 r0 r1 r2 r3 r4 x0 x1 x2
              by_cases hxe : xe = 0
              rotate_left
              · have t1 : (xe == 0) = false := by simpa using hxe
                have hG := HG.out
                rw [if_pos hxe] at hG
                have HG2 := Lib.hid hG
                clear hG HG
                go_wp2
                have y := place_set kr5 0 false false 0 0
                have q0 := y.cell 0; have q1 := y.cell 1; have q2 := y.cell 2; have q3 := y.cell 3; have q4 := y.cell 4
                dsimp at q0 q1 q2 q3 q4
                refine bodyPost_ret (v := .tuple #[.agg #[.int .i64 0, .bool false, .bool false, .int .i64 0, .int .i64 0], .int .i64 xe]) (by simp [results, Try.results23, go_sem, q0, q1, q2, q3, q4]) rfl ⟨?_, ?_⟩
                · rw [HG2.out]; rfl
                · repeat (first | with_reducible exact Below.refl _ _ | with_reducible assumption | (with_reducible refine below_drewN ?_ _) | (with_reducible refine Below.drew ?_) | (with_reducible refine Below.alloc ?_ ?_ _; rotate_left; focus (first | with_reducible assumption | omega | (simp; done) | (simp; omega))) | (with_reducible refine Below.setCell ?_ ?_ _; rotate_left; focus (first | with_reducible assumption | omega | (simp; done) | (simp; omega))))
              · subst hxe
                have hG := HG.out
                rw [if_neg (by simp)] at hG
                have HG2 := Lib.hid hG
                clear hG HG
                go_upto_region 19 with fail
                cases pg <;> cases qg <;> cases pi <;> cases qi
                · go_wp2
                  have y := place_set kr5 xx xg xi 0 0
                  have q0 := y.cell 0; have q1 := y.cell 1; have q2 := y.cell 2; have q3 := y.cell 3; have q4 := y.cell 4
                  dsimp at q0 q1 q2 q3 q4
                  refine bodyPost_ret (v := .tuple #[.agg #[.int .i64 xx, .bool xg, .bool xi, .int .i64 0, .int .i64 0], .int .i64 0]) (by simp [results, Try.results23, go_sem, q0, q1, q2, q3, q4]) rfl ⟨?_, ?_⟩
                  · rw [HG2.out]; rfl
                  · repeat (first | with_reducible exact Below.refl _ _ | with_reducible assumption | (with_reducible refine below_drewN ?_ _) | (with_reducible refine Below.drew ?_) | (with_reducible refine Below.alloc ?_ ?_ _; rotate_left; focus (first | with_reducible assumption | omega | (simp; done) | (simp; omega))) | (with_reducible refine Below.setCell ?_ ?_ _; rotate_left; focus (first | with_reducible assumption | omega | (simp; done) | (simp; omega))))
                · go_wp2
                  have y := place_set kr5 xx xg true 0 0
                  have q0 := y.cell 0; have q1 := y.cell 1; have q2 := y.cell 2; have q3 := y.cell 3; have q4 := y.cell 4
                  dsimp at q0 q1 q2 q3 q4
                  refine bodyPost_ret (v := .tuple #[.agg #[.int .i64 xx, .bool xg, .bool true, .int .i64 0, .int .i64 0], .int .i64 0]) (by simp [results, Try.results23, go_sem, q0, q1, q2, q3, q4]) rfl ⟨?_, ?_⟩
                  · rw [HG2.out]; rfl
                  · repeat (first | with_reducible exact Below.refl _ _ | with_reducible assumption | (with_reducible refine below_drewN ?_ _) | (with_reducible refine Below.drew ?_) | (with_reducible refine Below.alloc ?_ ?_ _; rotate_left; focus (first | with_reducible assumption | omega | (simp; done) | (simp; omega))) | (with_reducible refine Below.setCell ?_ ?_ _; rotate_left; focus (first | with_reducible assumption | omega | (simp; done) | (simp; omega))))
                · go_wp2
                  have y := place_set kr5 xx xg true 0 0
                  have q0 := y.cell 0; have q1 := y.cell 1; have q2 := y.cell 2; have q3 := y.cell 3; have q4 := y.cell 4
                  dsimp at q0 q1 q2 q3 q4
                  refine bodyPost_ret (v := .tuple #[.agg #[.int .i64 xx, .bool xg, .bool true, .int .i64 0, .int .i64 0], .int .i64 0]) (by simp [results, Try.results23, go_sem, q0, q1, q2, q3, q4]) rfl ⟨?_, ?_⟩
                  · rw [HG2.out]; rfl
                  · repeat (first | with_reducible exact Below.refl _ _ | with_reducible assumption | (with_reducible refine below_drewN ?_ _) | (with_reducible refine Below.drew ?_) | (with_reducible refine Below.alloc ?_ ?_ _; rotate_left; focus (first | with_reducible assumption | omega | (simp; done) | (simp; omega))) | (with_reducible refine Below.setCell ?_ ?_ _; rotate_left; focus (first | with_reducible assumption | omega | (simp; done) | (simp; omega))))
                · go_wp2
                  have y := place_set kr5 xx xg true 0 0
                  have q0 := y.cell 0; have q1 := y.cell 1; have q2 := y.cell 2; have q3 := y.cell 3; have q4 := y.cell 4
                  dsimp at q0 q1 q2 q3 q4
                  refine bodyPost_ret (v := .tuple #[.agg #[.int .i64 xx, .bool xg, .bool true, .int .i64 0, .int .i64 0], .int .i64 0]) (by simp [results, Try.results23, go_sem, q0, q1, q2, q3, q4]) rfl ⟨?_, ?_⟩
                  · rw [HG2.out]; rfl
                  · repeat (first | with_reducible exact Below.refl _ _ | with_reducible assumption | (with_reducible refine below_drewN ?_ _) | (with_reducible refine Below.drew ?_) | (with_reducible refine Below.alloc ?_ ?_ _; rotate_left; focus (first | with_reducible assumption | omega | (simp; done) | (simp; omega))) | (with_reducible refine Below.setCell ?_ ?_ _; rotate_left; focus (first | with_reducible assumption | omega | (simp; done) | (simp; omega))))
                · go_wp2
                  have y := place_set kr5 xx true xi 0 0
                  have q0 := y.cell 0; have q1 := y.cell 1; have q2 := y.cell 2; have q3 := y.cell 3; have q4 := y.cell 4
                  dsimp at q0 q1 q2 q3 q4
                  refine bodyPost_ret (v := .tuple #[.agg #[.int .i64 xx, .bool true, .bool xi, .int .i64 0, .int .i64 0], .int .i64 0]) (by simp [results, Try.results23, go_sem, q0, q1, q2, q3, q4]) rfl ⟨?_, ?_⟩
                  · rw [HG2.out]; rfl
                  · repeat (first | with_reducible exact Below.refl _ _ | with_reducible assumption | (with_reducible refine below_drewN ?_ _) | (with_reducible refine Below.drew ?_) | (with_reducible refine Below.alloc ?_ ?_ _; rotate_left; focus (first | with_reducible assumption | omega | (simp; done) | (simp; omega))) | (with_reducible refine Below.setCell ?_ ?_ _; rotate_left; focus (first | with_reducible assumption | omega | (simp; done) | (simp; omega))))
                · go_wp2
                  have y := place_set kr5 xx true true 0 0
                  have q0 := y.cell 0; have q1 := y.cell 1; have q2 := y.cell 2; have q3 := y.cell 3; have q4 := y.cell 4
                  dsimp at q0 q1 q2 q3 q4
                  refine bodyPost_ret (v := .tuple #[.agg #[.int .i64 xx, .bool true, .bool true, .int .i64 0, .int .i64 0], .int .i64 0]) (by simp [results, Try.results23, go_sem, q0, q1, q2, q3, q4]) rfl ⟨?_, ?_⟩
                  · rw [HG2.out]; rfl
                  · repeat (first | with_reducible exact Below.refl _ _ | with_reducible assumption | (with_reducible refine below_drewN ?_ _) | (with_reducible refine Below.drew ?_) | (with_reducible refine Below.alloc ?_ ?_ _; rotate_left; focus (first | with_reducible assumption | omega | (simp; done) | (simp; omega))) | (with_reducible refine Below.setCell ?_ ?_ _; rotate_left; focus (first | with_reducible assumption | omega | (simp; done) | (simp; omega))))
                · go_wp2
                  have y := place_set kr5 xx true true 0 0
                  have q0 := y.cell 0; have q1 := y.cell 1; have q2 := y.cell 2; have q3 := y.cell 3; have q4 := y.cell 4
                  dsimp at q0 q1 q2 q3 q4
                  refine bodyPost_ret (v := .tuple #[.agg #[.int .i64 xx, .bool true, .bool true, .int .i64 0, .int .i64 0], .int .i64 0]) (by simp [results, Try.results23, go_sem, q0, q1, q2, q3, q4]) rfl ⟨?_, ?_⟩
                  · rw [HG2.out]; rfl
                  · repeat (first | with_reducible exact Below.refl _ _ | with_reducible assumption | (with_reducible refine below_drewN ?_ _) | (with_reducible refine Below.drew ?_) | (with_reducible refine Below.alloc ?_ ?_ _; rotate_left; focus (first | with_reducible assumption | omega | (simp; done) | (simp; omega))) | (with_reducible refine Below.setCell ?_ ?_ _; rotate_left; focus (first | with_reducible assumption | omega | (simp; done) | (simp; omega))))
                · go_wp2
                  have y := place_set kr5 xx true true 0 0
                  have q0 := y.cell 0; have q1 := y.cell 1; have q2 := y.cell 2; have q3 := y.cell 3; have q4 := y.cell 4
                  dsimp at q0 q1 q2 q3 q4
                  refine bodyPost_ret (v := .tuple #[.agg #[.int .i64 xx, .bool true, .bool true, .int .i64 0, .int .i64 0], .int .i64 0]) (by simp [results, Try.results23, go_sem, q0, q1, q2, q3, q4]) rfl ⟨?_, ?_⟩
                  · rw [HG2.out]; rfl
                  · repeat (first | with_reducible exact Below.refl _ _ | with_reducible assumption | (with_reducible refine below_drewN ?_ _) | (with_reducible refine Below.drew ?_) | (with_reducible refine Below.alloc ?_ ?_ _; rotate_left; focus (first | with_reducible assumption | omega | (simp; done) | (simp; omega))) | (with_reducible refine Below.setCell ?_ ?_ _; rotate_left; focus (first | with_reducible assumption | omega | (simp; done) | (simp; omega))))
                · go_wp2
                  have y := place_set kr5 xx true xi 0 0
                  have q0 := y.cell 0; have q1 := y.cell 1; have q2 := y.cell 2; have q3 := y.cell 3; have q4 := y.cell 4
                  dsimp at q0 q1 q2 q3 q4
                  refine bodyPost_ret (v := .tuple #[.agg #[.int .i64 xx, .bool true, .bool xi, .int .i64 0, .int .i64 0], .int .i64 0]) (by simp [results, Try.results23, go_sem, q0, q1, q2, q3, q4]) rfl ⟨?_, ?_⟩
                  · rw [HG2.out]; rfl
                  · repeat (first | with_reducible exact Below.refl _ _ | with_reducible assumption | (with_reducible refine below_drewN ?_ _) | (with_reducible refine Below.drew ?_) | (with_reducible refine Below.alloc ?_ ?_ _; rotate_left; focus (first | with_reducible assumption | omega | (simp; done) | (simp; omega))) | (with_reducible refine Below.setCell ?_ ?_ _; rotate_left; focus (first | with_reducible assumption | omega | (simp; done) | (simp; omega))))
                · go_wp2
                  have y := place_set kr5 xx true true 0 0
                  have q0 := y.cell 0; have q1 := y.cell 1; have q2 := y.cell 2; have q3 := y.cell 3; have q4 := y.cell 4
                  dsimp at q0 q1 q2 q3 q4
                  refine bodyPost_ret (v := .tuple #[.agg #[.int .i64 xx, .bool true, .bool true, .int .i64 0, .int .i64 0], .int .i64 0]) (by simp [results, Try.results23, go_sem, q0, q1, q2, q3, q4]) rfl ⟨?_, ?_⟩
                  · rw [HG2.out]; rfl
                  · repeat (first | with_reducible exact Below.refl _ _ | with_reducible assumption | (with_reducible refine below_drewN ?_ _) | (with_reducible refine Below.drew ?_) | (with_reducible refine Below.alloc ?_ ?_ _; rotate_left; focus (first | with_reducible assumption | omega | (simp; done) | (simp; omega))) | (with_reducible refine Below.setCell ?_ ?_ _; rotate_left; focus (first | with_reducible assumption | omega | (simp; done) | (simp; omega))))
                · go_wp2
                  have y := place_set kr5 xx true true 0 0
                  have q0 := y.cell 0; have q1 := y.cell 1; have q2 := y.cell 2; have q3 := y.cell 3; have q4 := y.cell 4
                  dsimp at q0 q1 q2 q3 q4
                  refine bodyPost_ret (v := .tuple #[.agg #[.int .i64 xx, .bool true, .bool true, .int .i64 0, .int .i64 0], .int .i64 0]) (by simp [results, Try.results23, go_sem, q0, q1, q2, q3, q4]) rfl ⟨?_, ?_⟩
                  · rw [HG2.out]; rfl
                  · repeat (first | with_reducible exact Below.refl _ _ | with_reducible assumption | (with_reducible refine below_drewN ?_ _) | (with_reducible refine Below.drew ?_) | (with_reducible refine Below.alloc ?_ ?_ _; rotate_left; focus (first | with_reducible assumption | omega | (simp; done) | (simp; omega))) | (with_reducible refine Below.setCell ?_ ?_ _; rotate_left; focus (first | with_reducible assumption | omega | (simp; done) | (simp; omega))))
                · go_wp2
                  have y := place_set kr5 xx true true 0 0
                  have q0 := y.cell 0; have q1 := y.cell 1; have q2 := y.cell 2; have q3 := y.cell 3; have q4 := y.cell 4
                  dsimp at q0 q1 q2 q3 q4
                  refine bodyPost_ret (v := .tuple #[.agg #[.int .i64 xx, .bool true, .bool true, .int .i64 0, .int .i64 0], .int .i64 0]) (by simp [results, Try.results23, go_sem, q0, q1, q2, q3, q4]) rfl ⟨?_, ?_⟩
                  · rw [HG2.out]; rfl
                  · repeat (first | with_reducible exact Below.refl _ _ | with_reducible assumption | (with_reducible refine below_drewN ?_ _) | (with_reducible refine Below.drew ?_) | (with_reducible refine Below.alloc ?_ ?_ _; rotate_left; focus (first | with_reducible assumption | omega | (simp; done) | (simp; omega))) | (with_reducible refine Below.setCell ?_ ?_ _; rotate_left; focus (first | with_reducible assumption | omega | (simp; done) | (simp; omega))))
                · go_wp2
                  have y := place_set kr5 xx true xi 0 0
                  have q0 := y.cell 0; have q1 := y.cell 1; have q2 := y.cell 2; have q3 := y.cell 3; have q4 := y.cell 4
                  dsimp at q0 q1 q2 q3 q4
                  refine bodyPost_ret (v := .tuple #[.agg #[.int .i64 xx, .bool true, .bool xi, .int .i64 0, .int .i64 0], .int .i64 0]) (by simp [results, Try.results23, go_sem, q0, q1, q2, q3, q4]) rfl ⟨?_, ?_⟩
                  · rw [HG2.out]; rfl
                  · repeat (first | with_reducible exact Below.refl _ _ | with_reducible assumption | (with_reducible refine below_drewN ?_ _) | (with_reducible refine Below.drew ?_) | (with_reducible refine Below.alloc ?_ ?_ _; rotate_left; focus (first | with_reducible assumption | omega | (simp; done) | (simp; omega))) | (with_reducible refine Below.setCell ?_ ?_ _; rotate_left; focus (first | with_reducible assumption | omega | (simp; done) | (simp; omega))))
                · go_wp2
                  have y := place_set kr5 xx true true 0 0
                  have q0 := y.cell 0; have q1 := y.cell 1; have q2 := y.cell 2; have q3 := y.cell 3; have q4 := y.cell 4
                  dsimp at q0 q1 q2 q3 q4
                  refine bodyPost_ret (v := .tuple #[.agg #[.int .i64 xx, .bool true, .bool true, .int .i64 0, .int .i64 0], .int .i64 0]) (by simp [results, Try.results23, go_sem, q0, q1, q2, q3, q4]) rfl ⟨?_, ?_⟩
                  · rw [HG2.out]; rfl
                  · repeat (first | with_reducible exact Below.refl _ _ | with_reducible assumption | (with_reducible refine below_drewN ?_ _) | (with_reducible refine Below.drew ?_) | (with_reducible refine Below.alloc ?_ ?_ _; rotate_left; focus (first | with_reducible assumption | omega | (simp; done) | (simp; omega))) | (with_reducible refine Below.setCell ?_ ?_ _; rotate_left; focus (first | with_reducible assumption | omega | (simp; done) | (simp; omega))))
                · go_wp2
                  have y := place_set kr5 xx true true 0 0
                  have q0 := y.cell 0; have q1 := y.cell 1; have q2 := y.cell 2; have q3 := y.cell 3; have q4 := y.cell 4
                  dsimp at q0 q1 q2 q3 q4
                  refine bodyPost_ret (v := .tuple #[.agg #[.int .i64 xx, .bool true, .bool true, .int .i64 0, .int .i64 0], .int .i64 0]) (by simp [results, Try.results23, go_sem, q0, q1, q2, q3, q4]) rfl ⟨?_, ?_⟩
                  · rw [HG2.out]; rfl
                  · repeat (first | with_reducible exact Below.refl _ _ | with_reducible assumption | (with_reducible refine below_drewN ?_ _) | (with_reducible refine Below.drew ?_) | (with_reducible refine Below.alloc ?_ ?_ _; rotate_left; focus (first | with_reducible assumption | omega | (simp; done) | (simp; omega))) | (with_reducible refine Below.setCell ?_ ?_ _; rotate_left; focus (first | with_reducible assumption | omega | (simp; done) | (simp; omega))))
                · go_wp2
                  have y := place_set kr5 xx true true 0 0
                  have q0 := y.cell 0; have q1 := y.cell 1; have q2 := y.cell 2; have q3 := y.cell 3; have q4 := y.cell 4
                  dsimp at q0 q1 q2 q3 q4
                  refine bodyPost_ret (v := .tuple #[.agg #[.int .i64 xx, .bool true, .bool true, .int .i64 0, .int .i64 0], .int .i64 0]) (by simp [results, Try.results23, go_sem, q0, q1, q2, q3, q4]) rfl ⟨?_, ?_⟩
                  · rw [HG2.out]; rfl
                  · repeat (first | with_reducible exact Below.refl _ _ | with_reducible assumption | (with_reducible refine below_drewN ?_ _) | (with_reducible refine Below.drew ?_) | (with_reducible refine Below.alloc ?_ ?_ _; rotate_left; focus (first | with_reducible assumption | omega | (simp; done) | (simp; omega))) | (with_reducible refine Below.setCell ?_ ?_ _; rotate_left; focus (first | with_reducible assumption | omega | (simp; done) | (simp; omega))))

theorem ltell_any (bt : Nat) (m : List Rg) (ks : List Lk) : ∀ (b : Nat) (p s : Int) (w : World), LinkAt w w.heap.size bt b m ks → Calls Try.prog 23 #[.pointer (some ⟨b, 0, none⟩), .int .i64 p, .int .i64 s] w (TellSays (tellL m ks p s) w) := by
  induction ks with
  | nil => exact fun b p s w h => ltell_nil bt b m p s w h
  | cons k ks ih =>
    intro b p s w h
    rcases hX : tellS k.back p s with ⟨P, er⟩
    by_cases he : er = 0
    · subst he
      exact ltell_go bt b m k ks p s P w h hX ih
    · exact ltell_bad bt b m k ks p s er P w h hX he
end Go.Proofs.Ytmacfoebfpljoaa
