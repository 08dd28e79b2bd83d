/- merged texts: RsA RsB RsC RsD RsE Csa RsS RsT -/
import Derived.Test.YtmacfoebfpljoaaGreatMf18
import Derived.Test.YtmacfoebfpljoaaGreatMf10
import Derived.Test.YtmacfoebfpljoaaGreatMf4
import Derived.Test.YtmacfoebfpljoaaGreatMf7
namespace Go.Proofs.YtmacfoebfpljoaaGreat
open Go.RowKit
set_option linter.unusedVariables false
theorem totC_overG {m : List Rg} : ∀ (L : List GrC) (ks : List Lk), totC (overG m ks L).2 ≤ totC L := by
  intro L
  induction L with
  | nil => intro ks; simp [overG]
  | cons g L ih =>
    intro ks
    have h1 := ih (runG m ks g.steps).1
    have h2 := runG_count (m := m) ks g.steps
    simp only [overG]
    rw [totC_cons, totC_cons]
    simp only
    omega
theorem totC_over (m : List Rg) (V : List GrC) : totC (overC m V) ≤ totC V := by
  unfold overC
  split
  · exact totC_overG _ _
  · exact Nat.le_refl _
theorem totC_fold (ms : List (List Rg)) (V : List GrC) : totC (foldC ms V) ≤ totC V := by
  unfold foldC
  induction ms generalizing V with
  | nil => exact Nat.le_refl _
  | cons m ms ih => exact Nat.le_trans (ih (overC m V)) (totC_over m V)
theorem totC_rev (V : List GrC) : totC V.reverse = totC V := by simp [totC, List.sum_reverse]
theorem Av.wide {Y Y' : Nat → Prop} {w : World} {size n : Nat} {A : Option Addr} {xs : List Value} (ha : Av Y A n) (h : Rd w w.heap.size size A n xs) (hY : ∀ i, Y' i → Y i ∨ w.heap.size ≤ i) : Av Y' A n := by
  intro hn a e hy
  obtain ⟨b, o, e2, hb, -⟩ := h.2 hn
  rw [e] at e2
  injection e2 with e2
  subst e2
  rcases hY _ hy with h1 | h1
  · exact ha hn _ e h1
  · simp only at h1; omega
theorem Rd.stir {Y : Nat → Prop} {w w' : World} {size n : Nat} {A : Option Addr} {xs : List Value} (h : Rd w w.heap.size size A n xs) (hs : Stir Y w w') (ha : Av Y A n) : Rd w' w'.heap.size size A n xs := by
  refine ⟨h.1, fun hn => ?_⟩
  obtain ⟨b, o, e, hb, hc⟩ := h.2 hn
  exact ⟨b, o, e, Nat.lt_of_lt_of_le hb hs.size, fun j u hu => (World.cell?_of_block (a := ⟨b, o + j, none⟩) (hs.block b hb (ha hn _ e))).trans (hc j u hu)⟩
section
variable {Y Y' : Nat → Prop} {w w' : World}
theorem StH.In.stir {s : StH} (h : s.In w w.heap.size) (hs : Stir Y w w') (ha : s.Av Y) : s.In w' w'.heap.size := ⟨h.rd.stir hs ha.1, h.rd'.stir hs ha.2, h.n, h.n', h.A, h.A'⟩
theorem StH.Av.wide {s : StH} (ha : s.Av Y) (h : s.In w w.heap.size) (hY : ∀ i, Y' i → Y i ∨ w.heap.size ≤ i) : s.Av Y' := ⟨Go.Proofs.YtmacfoebfpljoaaGreat.Av.wide ha.1 h.rd hY, Go.Proofs.YtmacfoebfpljoaaGreat.Av.wide ha.2 h.rd' hY⟩
theorem GrsX.stir {A : Option Addr} {n : Nat} {L : List GrH} (h : GrsX w Y A n L) (hs : Stir Y w w') : GrsX w' Y A n L :=
  ⟨⟨h.in_.1.stir hs h.av, fun g hg => ⟨⟨(h.in_.2 g hg).sts.1.stir hs (h.avg g hg), fun s hss => ((h.in_.2 g hg).sts.2 s hss).stir hs ((h.sml g hg).2 s hss).2.2⟩, (h.in_.2 g hg).n, (h.in_.2 g hg).A⟩⟩, h.no, h.sml, h.av, h.avg⟩
theorem GrsX.wide {A : Option Addr} {n : Nat} {L : List GrH} (h : GrsX w Y A n L) (hY : ∀ i, Y' i → Y i ∨ w.heap.size ≤ i) : GrsX w Y' A n L :=
  ⟨h.in_, h.no, fun g hg => ⟨(h.sml g hg).1, fun s hss => ⟨((h.sml g hg).2 s hss).1, ((h.sml g hg).2 s hss).2.1, ((h.sml g hg).2 s hss).2.2.wide ((h.in_.2 g hg).sts.2 s hss) hY⟩⟩, h.av.wide h.in_.1 hY, fun g hg => (h.avg g hg).wide (h.in_.2 g hg).sts.1 hY⟩
theorem GrsX.ext {A : Option Addr} {n : Nat} {L : List GrH} (h : GrsX w Y A n L) (hb : Below w.heap.size w w') : GrsX w' Y A n L := h.stir (Stir.of_below hb)
end
/-- maps that read, off some blocks -/
structure MapsX (w : World) (Y : Nat → Prop) (A : Option Addr) (n : Nat) (l : List (List Rg)) : Prop where
  len : l.length = n
  no : A = none → n = 0
  av : Av Y A n
  rows : ∃ vs, Rd w w.heap.size 1 A n vs ∧ ∀ (i : Nat) (m : List Rg), l[i]? = some m → ∃ A c, vs[i]? = some (.slice A m.length c) ∧ Rd w w.heap.size 3 A m.length (rgs m) ∧ Av Y A m.length
section
variable {Y Y' : Nat → Prop} {w w' : World} {A : Option Addr} {n : Nat} {l : List (List Rg)}
theorem MapsX.stir (h : MapsX w Y A n l) (hs : Stir Y w w') : MapsX w' Y A n l := by
  obtain ⟨h1, h2, h3, vs, h4, h5⟩ := h
  exact ⟨h1, h2, h3, vs, h4.stir hs h3, fun i m hi => by obtain ⟨A, c, e1, e2, e3⟩ := h5 i m hi; exact ⟨A, c, e1, e2.stir hs e3, e3⟩⟩
theorem MapsX.wide (h : MapsX w Y A n l) (hY : ∀ i, Y' i → Y i ∨ w.heap.size ≤ i) : MapsX w Y' A n l := by
  obtain ⟨h1, h2, h3, vs, h4, h5⟩ := h
  exact ⟨h1, h2, h3.wide h4 hY, vs, h4, fun i m hi => by obtain ⟨A, c, e1, e2, e3⟩ := h5 i m hi; exact ⟨A, c, e1, e2, e3.wide e2 hY⟩⟩
theorem MapsX.in_ (h : MapsX w Y A n l) : MapsIn w w.heap.size A n l := by
  obtain ⟨h1, h2, h3, vs, h4, h5⟩ := h
  exact ⟨h1, vs, h4, fun i m hi => by obtain ⟨A, c, e1, e2, e3⟩ := h5 i m hi; exact ⟨A, c, e1, e2⟩⟩
theorem MapsX.nil_ (w : World) (Y : Nat → Prop) : MapsX w Y none 0 [] := ⟨rfl, fun _ => rfl, fun h => absurd h (by omega), [], Rd.nil_ _ _ _ _, fun _ _ h => by cases h⟩
end
/-- the document's stack, as it reads, off some blocks -/
structure RStk (w : World) (Y : Nat → Prop) (A : Option Addr) (n : Nat) (A' : Option Addr) (n' : Nat) (V : List GrC) (Ms : List (List Rg)) : Prop where
  l : ∃ L, GrsX w Y A n L ∧ L.map GrH.val = V
  m : MapsX w Y A' n' Ms
  nL : n ≤ 300
  nM : n' ≤ 500
  tot : totC V ≤ 1000
  bd : BdC V
  ml : ∀ m ∈ Ms, m.length ≤ 1000
section
variable {w w' : World} {Y Y' : Nat → Prop} {A A' : Option Addr} {n n' : Nat} {V : List GrC} {Ms : List (List Rg)}
theorem RStk.stir (h : RStk w Y A n A' n' V Ms) (hs : Stir Y w w') : RStk w' Y A n A' n' V Ms := by
  obtain ⟨⟨L, h1, h2⟩, h3, h4, h5, h6, h7, h8⟩ := h
  exact ⟨⟨L, h1.stir hs, h2⟩, h3.stir hs, h4, h5, h6, h7, h8⟩
theorem RStk.wide (h : RStk w Y A n A' n' V Ms) (hY : ∀ i, Y' i → Y i ∨ w.heap.size ≤ i) : RStk w Y' A n A' n' V Ms := by
  obtain ⟨⟨L, h1, h2⟩, h3, h4, h5, h6, h7, h8⟩ := h
  exact ⟨⟨L, h1.wide hY, h2⟩, h3.wide hY, h4, h5, h6, h7, h8⟩
theorem RStk.ext (h : RStk w Y A n A' n' V Ms) (hb : Below w.heap.size w w') : RStk w' Y A n A' n' V Ms := h.stir (Stir.of_below hb)
theorem RStk.len (h : RStk w Y A n A' n' V Ms) : V.length = n := by
  obtain ⟨⟨L, h1, h2⟩, -⟩ := h
  rw [← h2, List.length_map]
  exact h1.in_.len
end
set_option maxRecDepth 100000 in
set_option maxHeartbeats 2000000 in
theorem rsteps_any (A : Option Addr) (n c : Nat) (L : List GrH) (w : World) (h : GrsIn w w.heap.size A n L) (hn : n ≤ 1000) (ht : totC (L.map GrH.val) ≤ 1000000) :
    Calls Tryz.prog 41 #[.slice A n c] w fun e w' => e = .returned (.int .i64 (totC (L.map GrH.val))) ∧ Below w.heap.size w w' := by
  have hlen := h.len
  have H := Lib.hid h
  have HLEN := Lib.hid hlen
  have HT := Lib.hid ht
  clear h hlen ht
  go_enter Tryz.func41, Tryz.ntmps41
  go_wp2
  go_loopw [3, 4] (fun s j wr => ∃ (q t : Nat), q ≤ n ∧ j = .int .i64 q ∧ s = .int .i64 t ∧ Hid (t = totC ((L.map GrH.val).take q)) ∧ Below w.heap.size w wr) (fun _ j _ => n - (intOf j).toNat)
  case atStart => exact ⟨0, 0, by omega, rfl, rfl, Lib.hid (by simp [totC]), Below.refl _ _⟩
  case round =>
    obtain ⟨q, t, hq, rfl, rfl, htt, hbr⟩ := hrel
    by_cases hqn : q < n
    · obtain ⟨g, hx⟩ : ∃ g, L[q]? = some g := ⟨_, List.getElem?_eq_getElem (by have := HLEN.out; omega)⟩
      obtain ⟨gin, b, o, rfl, hb, hcc⟩ := (H.out.below hbr).at_ hx
      have hxv : (L.map GrH.val)[q]? = some g.val := by rw [List.getElem?_map, hx]; rfl
      have hat := totC_at hxv
      have hgl : g.val.steps.length = g.n := by simp only [GrH.val, List.length_map]; exact gin.sts.len
      have d0 := hcc 0 (by omega)
      dsimp [GrH.cells] at d0
      have e3 : (q : Int) < n := by omega
      have htn : totC ((L.map GrH.val).take (q + 1)) = t + g.n := by
        rw [List.take_add_one, hxv, Option.toList_some, totC_append, ← htt.out, totC_cons, hgl]
        simp [totC]
      have ht2 : t + g.n ≤ 1000000 := by
        have := HT.out
        have := htt.out
        omega
      have e4 : IntKind.i64.wrap ((t : Int) + g.n) = ((t + g.n : Nat) : Int) := by rw [IntWalk.i64_in _ (by omega)]; omega
      have HTN := Lib.hid htn
      clear hx hcc gin hxv hat hgl htn
      go_wp2
      go_roundw
      case rel => exact ⟨q + 1, t + g.n, by omega, by go_num, by go_num, Lib.hid HTN.out.symm, hbr⟩
      case measure => simp [intOf]; omega
    · obtain rfl : n = q := by omega
      go_wp2
      go_ret
      refine ⟨?_, hbr⟩
      rw [htt.out, List.take_of_length_le (by rw [List.length_map, HLEN.out]; omega)]
      rfl
set_option maxRecDepth 100000 in
set_option maxHeartbeats 2000000 in
theorem rgroups_any (depth : Int) (A : Option Addr) (n c : Nat) (A' : Option Addr) (n' c' : Nat) (V : List GrC) (Ms : List (List Rg)) (w : World) (Y : Nat → Prop) (hY : ∀ i, Y i → i < w.heap.size) (hc : n ≤ c) (h : RStk w Y A n A' n' V Ms) :
    Calls Tryz.prog 44 #[.agg #[.int .i64 depth, .slice A n c, .slice A' n' c']] w (ROut Y (foldC Ms V) w) := by
  have hMl := h.m.len
  have k1 := Bk.new w 88 #[.int .i64 depth, .slice A n c, .slice A' n' c']
  have hb1 : Below w.heap.size w (w.alloc (.cells #[.int .i64 depth, .slice A n c, .slice A' n' c'] 88)) := belowA
  have H := Lib.hid h
  have HML := Lib.hid hMl
  have hnL := h.nL
  have hnM := h.nM
  have hlen := h.len
  have HLEN := Lib.hid hlen
  clear h hMl hlen
  go_enter Tryz.func44, Tryz.ntmps44
  go_upto_region 1 with fail
  generalize w.alloc (.cells #[.int .i64 depth, .slice A n c, .slice A' n' c'] 88) = w0 at *
  have c1 := k1.cell 1
  dsimp at c1
  go_wp2
  go_loopw [3, 4] (fun v j wr => ∃ (q : Nat) (A2 : Option Addr) (c2 : Nat) (Lq : List GrH), v = .slice A2 n c2 ∧ n ≤ c2 ∧ q ≤ n' ∧ j = .int .i64 q ∧ Below w0.heap.size w0 wr ∧ Hid (GrsX wr Y A2 n Lq ∧ Lq.map GrH.val = foldC (Ms.take q) V)) (fun _ j _ => n' - (intOf j).toNat)
  case atStart =>
    obtain ⟨L, h1, h3⟩ := H.out.l
    exact ⟨0, A, c, L, rfl, hc, by omega, rfl, Below.refl _ _, Lib.hid ⟨(h1.ext hb1), by rw [h3]; rfl⟩⟩
  case round =>
    obtain ⟨q, A2, c2, Lq, rfl, hc2, hq, rfl, hbr, hI⟩ := hrel
    have x1 := k1.ext hbr
    have d2 := x1.cell 2
    dsimp at d2
    have hbw := hb1.trans (hbr.mono hb1.size)
    by_cases hqn : q < n'
    · obtain ⟨m, hm⟩ : ∃ m, Ms[q]? = some m := ⟨_, List.getElem?_eq_getElem (by have := HML.out; omega)⟩
      obtain ⟨b, o, Am, cm, rfl, hb, hc, hrd⟩ := H.out.m.in_.at_ hm
      have hmo := H.out.ml m (List.mem_of_getElem? hm)
      have hcw := (hbw.cell (p := ⟨b, o + q, none⟩) hb).trans hc
      obtain ⟨hg, hV⟩ := hI.out
      have hfs : foldC (Ms.take (q + 1)) V = overC m (foldC (Ms.take q) V) := by rw [List.take_add_one, hm, Option.toList_some, foldC_snoc]
      have htt := totC_fold (Ms.take q) V
      have hov := rover_any A2 n c2 Lq Am m.length cm m wr Y (fun i hi => Nat.lt_of_lt_of_le (hY i hi) hbw.size) hc2 hg (by omega) (by rw [hV]; have := H.out.tot; omega) (BdC.lb (by rw [hV]; exact H.out.bd.fold _)) hmo ((hrd.below hbw).more hbw.size)
      rw [hV] at hov
      have HOV := Lib.hid hov
      have HFS := Lib.hid hfs
      have e3 : (q : Int) < n' := by omega
      have hfl := foldC_len (Ms.take q) V
      have HFL := Lib.hid hfl
      clear hm hc hrd hg hV hfs htt hov hI hfl
      go_wp2_with (go_at_call 89; fail)
      refine HOV.out.mono ?_
      rintro e w5 ⟨A5, n5, c5, L5, rfl, hc5, hg5, hV5, hb5⟩
      have hn5 : n5 = n := by
        have h1 := congrArg List.length hV5
        rw [overC_len, List.length_map, HFL.out, HLEN.out] at h1
        have h2 := hg5.in_.len
        omega
      subst hn5
      have HI5 := Lib.hid (show GrsX w5 Y A5 n5 L5 ∧ L5.map GrH.val = foldC (Ms.take (q + 1)) V from ⟨hg5, by rw [hV5, HFS.out]⟩)
      have hb9 := hbr.trans (hb5.mono hbr.size)
      clear hg5 hV5 HOV
      go_wp2
      go_roundw
      case rel => exact ⟨q + 1, A5, c5, L5, rfl, hc5, by omega, by go_num, hb9, HI5⟩
      case measure => simp [intOf]; omega
    · obtain rfl : n' = q := by omega
      go_wp2
      go_ret
      obtain ⟨hg, hV⟩ := hI.out
      rw [List.take_of_length_le (by rw [HML.out]; omega)] at hV
      exact ⟨A2, n, c2, Lq, rfl, hc2, hg, hV, hbw⟩
/-- a stack comes out -/
def StkR (Y : Nat → Prop) (depth : Int) (V : List GrC) (Ms : List (List Rg)) (w : World) (v : Value) (w' : World) : Prop := ∃ A n c A' n' c', v = .agg #[.int .i64 depth, .slice A n c, .slice A' n' c'] ∧ n ≤ c ∧ RStk w' Y A n A' n' V Ms ∧ Below w.heap.size w w'
set_option maxRecDepth 100000 in
set_option maxHeartbeats 2000000 in
theorem rfold_any (depth : Int) (A : Option Addr) (n c : Nat) (A' : Option Addr) (n' c' : Nat) (V : List GrC) (Ms : List (List Rg)) (w : World) (Y : Nat → Prop) (hY : ∀ i, Y i → i < w.heap.size) (hc : n ≤ c) (h : RStk w Y A n A' n' V Ms) :
    Calls Tryz.prog 45 #[.agg #[.int .i64 depth, .slice A n c, .slice A' n' c']] w fun e w' => ∃ v, e = .returned v ∧ StkR Y depth (foldC Ms V) [] w v w' := by
  have hb1 : Below w.heap.size w ((w.alloc (.cells #[.int .i64 depth, .slice A n c, .slice A' n' c'] 88)).alloc (.cells #[.int .i64 0, .slice none 0 0, .slice none 0 0] 88)) := belowA
  have k1 : Bk ((w.alloc (.cells #[.int .i64 depth, .slice A n c, .slice A' n' c'] 88)).alloc (.cells #[.int .i64 0, .slice none 0 0, .slice none 0 0] 88)) w.heap.size 88 #[.int .i64 depth, .slice A n c, .slice A' n' c'] := (Bk.new w _ _).alloc _
  have k2 : Bk ((w.alloc (.cells #[.int .i64 depth, .slice A n c, .slice A' n' c'] 88)).alloc (.cells #[.int .i64 0, .slice none 0 0, .slice none 0 0] 88)) (w.heap.size + 1) 88 #[.int .i64 0, .slice none 0 0, .slice none 0 0] := Bk.made _ _ (by simp)
  have hgr := fun W (hW : Below w.heap.size w W) (hz : w.heap.size + 2 ≤ W.heap.size) => rgroups_any depth A n c A' n' c' V Ms W (fun i => Y i ∨ i = w.heap.size + 1) (fun i hi => by rcases hi with hi | hi; (· have := hY i hi; omega); (· omega)) hc ((h.wide (fun i hi => by rcases hi with hi | hi; (· exact .inl hi); (· exact .inr (by omega)))).ext hW)
  have HGR := Lib.hid hgr
  have H := Lib.hid h
  have hlen := h.len
  have HLEN := Lib.hid hlen
  clear h hgr hlen
  go_enter Tryz.func45, Tryz.ntmps45
  go_upto_region 1 with fail
  generalize (w.alloc (.cells #[.int .i64 depth, .slice A n c, .slice A' n' c'] 88)).alloc (.cells #[.int .i64 0, .slice none 0 0, .slice none 0 0] 88) = w0 at *
  have hF : ∀ W, Below w0.heap.size w0 W → W.cell? ⟨w.heap.size, 0, none⟩ = some (.int .i64 depth) ∧ W.cell? ⟨w.heap.size, 1, none⟩ = some (.slice A n c) ∧ W.cell? ⟨w.heap.size, 2, none⟩ = some (.slice A' n' c') := fun W hW => ⟨(k1.ext hW).cell 0, (k1.ext hW).cell 1, (k1.ext hW).cell 2⟩
  have HF := Lib.hid hF
  clear hF
  refine wp_normal ?_
  refine region_L (S := fun W => Below w0.heap.size w0 W) [5] (by kernel_rfl) (Below.refl _ _).drew (fun hHeld => ?_)
  (refine tkD 0 ?_; refine tkD 1 ?_; refine tkD 2 ?_)
  refine nxL 3 (fun K hK => ?_)
  go_simp
  go_at_call 44
  refine (HGR.out _ hb1.drew (by have := def_lt' k2; show w.heap.size + 2 ≤ w0.heap.size; omega)).mono ?_
  rintro e w4 ⟨A4, n4, c4, L4, rfl, hc4, hg4, hV4, hb4⟩
  have hb4' : Below w0.heap.size w0 w4 := Below.trans (Below.refl _ _).drew hb4
  refine hK.out _ _ hb4' (fun hHeld => ?_)
  clear hK K; refine puL ?_
  (refine tkD 4 ?_)
  have y2 := k2.ext hb4'
  have f0 := y2.cell 0; have f1 := y2.cell 1; have f2 := y2.cell 2; have ff := y2.frozen; have fl := def_lt' y2
  dsimp at f0 f1 f2
  refine ltL 5 (fun K hK => ?_)
  go_simp
  refine hK.out _ _ ?_
  clear hK K; refine puL ?_
  refine anyL_done (by kernel_rfl) ?_
  have hn4 : n4 = n := by
    have h1 := congrArg List.length hV4
    rw [foldC_len, List.length_map, HLEN.out] at h1
    have h2 := hg4.in_.len
    omega
  subst hn4
  have hb9 : Below w.heap.size w w4 := hb1.trans (hb4'.mono hb1.size)
  have hz9 := hb9.size
  have hbe : Below w.heap.size w (((w4.setCell ⟨w.heap.size + 1, 0, none⟩ (.int .i64 depth)).setCell ⟨w.heap.size + 1, 1, none⟩ (.slice A4 n4 c4)).setCell ⟨w.heap.size + 1, 2, none⟩ (.slice none 0 0)) := belowA
  have hst : Stir (fun i => Y i ∨ i = w.heap.size + 1) w4 (((w4.setCell ⟨w.heap.size + 1, 0, none⟩ (.int .i64 depth)).setCell ⟨w.heap.size + 1, 1, none⟩ (.slice A4 n4 c4)).setCell ⟨w.heap.size + 1, 2, none⟩ (.slice none 0 0)) := Stir.of_gr (row := some (w.heap.size + 1)) (gr_set (p := ⟨w.heap.size + 1, 2, none⟩) (gr_set (p := ⟨w.heap.size + 1, 1, none⟩) (gr_set (p := ⟨w.heap.size + 1, 0, none⟩) (World.grownBy.refl _ _) (.inl rfl) _) (.inl rfl) _) (.inl rfl) _) (fun i e => by injection e with e; exact .inr e.symm)
  have k9 : Bk (((w4.setCell ⟨w.heap.size + 1, 0, none⟩ (.int .i64 depth)).setCell ⟨w.heap.size + 1, 1, none⟩ (.slice A4 n4 c4)).setCell ⟨w.heap.size + 1, 2, none⟩ (.slice none 0 0)) (w.heap.size + 1) 88 #[.int .i64 depth, .slice A4 n4 c4, .slice none 0 0] := ((y2.set_ 0 _).set_ 1 _).set_ 2 _
  have hg9 := (hg4.stir hst).wide (Y' := Y) (fun i hi => .inl (.inl hi))
  have HG9 := Lib.hid hg9
  have HV4 := Lib.hid hV4
  clear hg4 hg9 hV4 hst
  go_wp2
  generalize ((w4.setCell ⟨w.heap.size + 1, 0, none⟩ (.int .i64 depth)).setCell ⟨w.heap.size + 1, 1, none⟩ (.slice A4 n4 c4)).setCell ⟨w.heap.size + 1, 2, none⟩ (.slice none 0 0) = w9 at *
  have q0 := k9.cell 0; have q1 := k9.cell 1; have q2 := k9.cell 2
  dsimp at q0 q1 q2
  have ht := totC_fold Ms V
  exact bodyPost_ret (v := .agg #[.int .i64 depth, .slice A4 n4 c4, .slice none 0 0]) (by simp [results, Tryz.results45, go_sem, q0, q1, q2]) rfl ⟨_, rfl, A4, n4, c4, none, 0, 0, rfl, hc4, ⟨⟨L4, HG9.out, HV4.out⟩, MapsX.nil_ _ _, H.out.nL, by omega, by have := H.out.tot; omega, H.out.bd.fold _, by simp⟩, hbe⟩
/-- what is trimmed where there are few steps -/
theorem trimV_is (D : Nat) (hD : 1 ≤ D) : ∀ (U : List GrC), totC U ≤ 2000 → trimV D U = U.length - D := by
  intro U
  induction U with
  | nil => intro _; rw [trimV_stop (by simp)]; simp
  | cons g U ih =>
    intro ht
    rw [totC_cons] at ht
    by_cases h : D < (g :: U).length
    · rw [trimV_go (by omega) (.inl (by omega))]
      simp only [List.drop_succ_cons, List.drop_zero]
      rw [ih (by omega)]
      simp at h ⊢
      omega
    · rw [trimV_stop (by rw [totC_cons]; omega)]
      omega
theorem grs_take : ∀ (L : List GrH) (k : Nat), grs (L.take k) = (grs L).take (k * 8) := by
  intro L
  induction L with
  | nil => intro k; simp [grs]
  | cons g L ih =>
    intro k
    cases k with
    | zero => simp [grs]
    | succ k =>
      have h1 : grs (g :: L) = g.cells ++ grs L := rfl
      have h2 : grs ((g :: L).take (k + 1)) = g.cells ++ grs (L.take k) := rfl
      have h3 : g.cells.length = 8 := rfl
      rw [h1, h2, ih, List.take_append, h3, List.take_of_length_le (l := g.cells) (by rw [h3]; omega), show (k + 1) * 8 - 8 = k * 8 by omega]
theorem Rd.take_ {w : World} {B size n k : Nat} {A : Option Addr} {xs : List Value} (h : Rd w B size A n xs) (hk : k ≤ n) : Rd w B size A k (xs.take (k * size)) := by
  have h1 := h.1
  refine ⟨by rw [List.length_take, h1]; exact Nat.min_eq_left (Nat.mul_le_mul_right _ hk), fun h0 => ?_⟩
  obtain ⟨b, o, e, hb, hc⟩ := h.2 (by omega)
  refine ⟨b, o, e, hb, fun j u hu => hc j u ?_⟩
  rw [List.getElem?_take] at hu
  split at hu
  · exact hu
  · cases hu
theorem GrsX.take_ {w : World} {Y : Nat → Prop} {A : Option Addr} {n k : Nat} {L : List GrH} (h : GrsX w Y A n L) (hk : k ≤ n) : GrsX w Y A k (L.take k) :=
  ⟨⟨by rw [grs_take]; exact h.in_.1.take_ hk, fun g hg => h.in_.2 g (List.mem_of_mem_take hg)⟩, fun e => by have := h.no e; omega, fun g hg => h.sml g (List.mem_of_mem_take hg), fun h0 => h.av (by omega), fun g hg => h.avg g (List.mem_of_mem_take hg)⟩
set_option maxRecDepth 100000 in
set_option maxHeartbeats 4000000 in
theorem rtrim_any (D : Nat) (hD : 1 ≤ D) (hD2 : D ≤ 1000) (A : Option Addr) (n c : Nat) (A' : Option Addr) (n' c' : Nat) (V : List GrC) (Ms : List (List Rg)) (w : World) (Y : Nat → Prop) (hc : n ≤ c) (h : RStk w Y A n A' n' V Ms) :
    Calls Tryz.prog 137 #[.agg #[.int .i64 D, .slice A n c, .slice A' n' c']] w fun e w' => ∃ c2, e = .returned (.tuple #[.agg #[.int .i64 D, .slice A (n - (n - D)) c2, .slice A' n' c'], .int .i64 ((n - D : Nat) : Int)]) ∧ n - (n - D) ≤ c2 ∧ RStk w' Y A (n - (n - D)) A' n' (V.take (n - (n - D))) Ms ∧ Below w.heap.size w w' := by
  have hb1 : Below w.heap.size w ((w.alloc (.cells #[.int .i64 D, .slice A n c, .slice A' n' c'] 88)).alloc (.cells #[.int .i64 0, .slice none 0 0, .slice none 0 0] 88)) := belowA
  have k1 : Bk ((w.alloc (.cells #[.int .i64 D, .slice A n c, .slice A' n' c'] 88)).alloc (.cells #[.int .i64 0, .slice none 0 0, .slice none 0 0] 88)) w.heap.size 88 #[.int .i64 D, .slice A n c, .slice A' n' c'] := (Bk.new w _ _).alloc _
  have k2 : Bk ((w.alloc (.cells #[.int .i64 D, .slice A n c, .slice A' n' c'] 88)).alloc (.cells #[.int .i64 0, .slice none 0 0, .slice none 0 0] 88)) (w.heap.size + 1) 88 #[.int .i64 0, .slice none 0 0, .slice none 0 0] := Bk.made _ _ (by simp)
  have hnL := h.nL
  have H := Lib.hid h
  clear h
  go_enter Tryz.func137, Tryz.ntmps137
  go_upto_region 1 with fail
  generalize (w.alloc (.cells #[.int .i64 D, .slice A n c, .slice A' n' c'] 88)).alloc (.cells #[.int .i64 0, .slice none 0 0, .slice none 0 0] 88) = w0 at *
  go_wp2
  go_loopw [4] (fun v wr => ∃ (k m : Nat), k ≤ n - D ∧ k + m = n ∧ v = .int .i64 k ∧ Hid (Below w.heap.size w wr) ∧ w.heap.size + 2 ≤ wr.heap.size ∧ Bk wr w.heap.size 88 #[.int .i64 D, .slice A m c, .slice A' n' c'] ∧ Bk wr (w.heap.size + 1) 88 #[.int .i64 0, .slice none 0 0, .slice none 0 0]) (fun v _ => n - (intOf v).toNat)
  case atStart => exact ⟨0, n, by omega, by omega, rfl, Lib.hid hb1, def_lt' k2, k1, k2⟩
  case round =>
    obtain ⟨k, m, hk, hkm, rfl, hbr, hz, x1, x2⟩ := hrel
    have c0 := x1.cell 0; have c1 := x1.cell 1; have c2 := x1.cell 2; have f1 := x1.frozen; have l1 := def_lt' x1
    dsimp at c0 c1 c2
    by_cases hmD : D < m
    · have e1 : (1 : Int) < m := by omega
      have e2 : (D : Int) < m := by omega
      have e3 : IntKind.i64.wrap ((m : Int) - 1) = ((m - 1 : Nat) : Int) := by rw [IntWalk.i64_in _ (by omega)]; omega
      have e4 : m - 1 ≤ c := by omega
      have hbw := hbr.out
      have y1 : Bk (wr.setCell ⟨w.heap.size, 1, none⟩ (.slice A (m - 1) c)) w.heap.size 88 #[.int .i64 D, .slice A (m - 1) c, .slice A' n' c'] := x1.set_ 1 _
      have y2 := x2.far (p := ⟨w.heap.size, 1, none⟩) (by simp) (.slice A (m - 1) c)
      have hbn : Below w.heap.size w (wr.setCell ⟨w.heap.size, 1, none⟩ (.slice A (m - 1) c)) := belowA
      have hzn : w.heap.size + 2 ≤ (wr.setCell ⟨w.heap.size, 1, none⟩ (.slice A (m - 1) c)).heap.size := by simp; omega
      go_wp2
      go_roundw
      case rel => exact ⟨k + 1, m - 1, by omega, by omega, by go_num, Lib.hid hbn, hzn, y1, y2⟩
      case measure => simp [intOf]; omega
    · have hkk : k = n - D := by omega
      have hmm : n - (n - D) = m := by omega
      have hbw := hbr.out
      have HMM := Lib.hid hmm
      obtain ⟨L, hL, hV⟩ := H.out.l
      have hL2 := (hL.ext hbw).take_ (k := m) (by omega)
      have hVm : (L.take m).map GrH.val = V.take m := by rw [List.map_take, hV]
      have htm : totC (V.take m) ≤ 1000 := Nat.le_trans (totC_take V m) H.out.tot
      have hst := rsteps_any A m c (L.take m) wr hL2.in_ (by omega) (by rw [hVm]; omega)
      rw [hVm] at hst
      have e2 : ¬ (D : Int) < m := by omega
      have e3 : ¬ (2000 : Int) < totC (V.take m) := by omega
      have y1 : Bk (((wr.setCell ⟨w.heap.size + 1, 0, none⟩ (.int .i64 D)).setCell ⟨w.heap.size + 1, 1, none⟩ (.slice A m c)).setCell ⟨w.heap.size + 1, 2, none⟩ (.slice A' n' c')) (w.heap.size + 1) 88 #[.int .i64 D, .slice A m c, .slice A' n' c'] := ((x2.set_ 0 _).set_ 1 _).set_ 2 _
      have hbe : ∀ W, Below wr.heap.size wr W → Bk W w.heap.size 88 #[.int .i64 D, .slice A m c, .slice A' n' c'] ∧ Bk W (w.heap.size + 1) 88 #[.int .i64 0, .slice none 0 0, .slice none 0 0] ∧ Below w.heap.size w W := fun W hW => ⟨x1.ext hW, x2.ext hW, hbw.trans (hW.mono hbw.size)⟩
      have HBE := Lib.hid hbe
      have fin : ∀ W, Below wr.heap.size wr W → RStk (((W.setCell ⟨w.heap.size + 1, 0, none⟩ (.int .i64 D)).setCell ⟨w.heap.size + 1, 1, none⟩ (.slice A m c)).setCell ⟨w.heap.size + 1, 2, none⟩ (.slice A' n' c')) Y A m A' n' (V.take m) Ms ∧ Below w.heap.size w (((W.setCell ⟨w.heap.size + 1, 0, none⟩ (.int .i64 D)).setCell ⟨w.heap.size + 1, 1, none⟩ (.slice A m c)).setCell ⟨w.heap.size + 1, 2, none⟩ (.slice A' n' c')) ∧ Bk (((W.setCell ⟨w.heap.size + 1, 0, none⟩ (.int .i64 D)).setCell ⟨w.heap.size + 1, 1, none⟩ (.slice A m c)).setCell ⟨w.heap.size + 1, 2, none⟩ (.slice A' n' c')) (w.heap.size + 1) 88 #[.int .i64 D, .slice A m c, .slice A' n' c'] := by
        intro W hW
        obtain ⟨-, z2, hb⟩ := hbe W hW
        have hz := hb.size
        have hbe' : Below w.heap.size w (((W.setCell ⟨w.heap.size + 1, 0, none⟩ (.int .i64 D)).setCell ⟨w.heap.size + 1, 1, none⟩ (.slice A m c)).setCell ⟨w.heap.size + 1, 2, none⟩ (.slice A' n' c')) := belowA
        refine ⟨?_, hbe', ((z2.set_ 0 _).set_ 1 _).set_ 2 _⟩
        have hw := H.out.ext hbe'
        refine ⟨⟨L.take m, (hL.ext hbe').take_ (by omega), hVm⟩, hw.m, by omega, hw.nM, htm, fun g hg => hw.bd g (List.mem_of_mem_take hg), hw.ml⟩
      have FIN := Lib.hid fin
      have HST := Lib.hid hst
      have HKK := Lib.hid hkk
      have HMC : m ≤ c := by omega
      have g0 := x2.cell 0; have g1 := x2.cell 1; have g2 := x2.cell 2; have ff := x2.frozen
      dsimp at g0 g1 g2
      clear hbe fin hst hL hL2 hV hVm hk hkm hkk hmm hmD y1
      by_cases hm1 : 1 < m
      · have e1 : (1 : Int) < m := by omega
        go_wp2_with (go_at_call 41; (refine HST.out.mono ?_); rintro e w5 ⟨rfl, hb5⟩; obtain ⟨y1, y2, hb6⟩ := HBE.out w5 hb5; have c0 := y1.cell 0; have c1 := y1.cell 1; have c2 := y1.cell 2; have f1 := y1.frozen; have l1 := def_lt' y1; have g0 := y2.cell 0; have g1 := y2.cell 1; have g2 := y2.cell 2; have ff := y2.frozen; have l2 := def_lt' y2; dsimp at c0 c1 c2 g0 g1 g2)
        obtain ⟨hr9, hb9, k9⟩ := FIN.out w5 hb5
        have q0 := k9.cell 0; have q1 := k9.cell 1; have q2 := k9.cell 2
        dsimp at q0 q1 q2
        exact bodyPost_ret (v := .tuple #[.agg #[.int .i64 D, .slice A m c, .slice A' n' c'], .int .i64 k]) (by simp [results, Tryz.results137, go_sem, q0, q1, q2]) rfl ⟨c, by rw [HKK.out, HMM.out], by omega, by rw [HMM.out]; exact hr9, hb9⟩
      · have e1 : ¬ (1 : Int) < m := by omega
        have l2 := def_lt' x2
        go_wp2
        obtain ⟨hr9, hb9, k9⟩ := FIN.out wr (Below.refl _ _)
        have q0 := k9.cell 0; have q1 := k9.cell 1; have q2 := k9.cell 2
        dsimp at q0 q1 q2
        exact bodyPost_ret (v := .tuple #[.agg #[.int .i64 D, .slice A m c, .slice A' n' c'], .int .i64 k]) (by simp [results, Tryz.results137, go_sem, q0, q1, q2]) rfl ⟨c, by rw [HKK.out, HMM.out], by omega, by rw [HMM.out]; exact hr9, hb9⟩
/-- a group that reads, off some blocks -/
structure GrX (w : World) (Y : Nat → Prop) (g : GrH) : Prop where
  in_ : g.In w w.heap.size
  n : g.n ≤ 1000
  sml : ∀ s ∈ g.L, s.n ≤ 20000 ∧ s.n' ≤ 20000 ∧ s.Av Y
  av : Av Y g.A g.n
  lost : -9223372036854775808 ≤ g.lost ∧ g.lost ≤ 9223372036854775807
section
variable {Y Y' : Nat → Prop} {w w' : World} {g : GrH}
theorem GrX.stir (h : GrX w Y g) (hs : Stir Y w w') : GrX w' Y g :=
  ⟨⟨⟨h.in_.sts.1.stir hs h.av, fun s hss => (h.in_.sts.2 s hss).stir hs (h.sml s hss).2.2⟩, h.in_.n, h.in_.A⟩, h.n, h.sml, h.av, h.lost⟩
theorem GrX.wide (h : GrX w Y g) (hY : ∀ i, Y' i → Y i ∨ w.heap.size ≤ i) : GrX w Y' g :=
  ⟨h.in_, h.n, fun s hss => ⟨(h.sml s hss).1, (h.sml s hss).2.1, (h.sml s hss).2.2.wide (h.in_.sts.2 s hss) hY⟩, h.av.wide h.in_.sts.1 hY, h.lost⟩
theorem GrX.ext (h : GrX w Y g) (hb : Below w.heap.size w w') : GrX w' Y g := h.stir (Stir.of_below hb)
theorem GrsX.cons {L : List GrH} {A2 : Option Addr} {n2 : Nat} (hg : GrX w Y g) (hL : ∀ x ∈ L, x.In w w.heap.size ∧ (x.n ≤ 1000 ∧ ∀ s ∈ x.L, s.n ≤ 20000 ∧ s.n' ≤ 20000 ∧ s.Av Y) ∧ Av Y x.A x.n) (hr : Rd w w.heap.size 8 A2 n2 (grs (g :: L))) (hno : A2 = none → n2 = 0) (hav : Av Y A2 n2) : GrsX w Y A2 n2 (g :: L) := by
  refine ⟨⟨hr, ?_⟩, hno, ?_, hav, ?_⟩
  · intro x hx
    rcases List.mem_cons.1 hx with rfl | hx
    · exact hg.in_
    · exact (hL x hx).1
  · intro x hx
    rcases List.mem_cons.1 hx with rfl | hx
    · exact ⟨hg.n, hg.sml⟩
    · exact (hL x hx).2.1
  · intro x hx
    rcases List.mem_cons.1 hx with rfl | hx
    · exact hg.av
    · exact (hL x hx).2.2
theorem GrsX.each {A : Option Addr} {n : Nat} {L : List GrH} (h : GrsX w Y A n L) : ∀ x ∈ L, x.In w w.heap.size ∧ (x.n ≤ 1000 ∧ ∀ s ∈ x.L, s.n ≤ 20000 ∧ s.n' ≤ 20000 ∧ s.Av Y) ∧ Av Y x.A x.n := fun x hx => ⟨h.in_.2 x hx, h.sml x hx, h.avg x hx⟩
end
set_option maxRecDepth 100000 in
set_option maxHeartbeats 4000000 in
theorem rpush_any (D : Nat) (hD : 1 ≤ D) (hD2 : D ≤ 1000) (A : Option Addr) (n c : Nat) (A' : Option Addr) (n' c' : Nat) (V : List GrC) (Ms : List (List Rg)) (g : GrH) (w : World) (Y : Nat → Prop) (hY : ∀ i, Y i → i < w.heap.size) (hc : n ≤ c) (h : RStk w Y A n A' n' V Ms) (hg : GrX w Y g) (htot : totC V + g.L.length ≤ 1000) (hn : n + 1 ≤ 300) :
    Calls Tryz.prog 83 #[.agg #[.int .i64 D, .slice A n c, .slice A' n' c'], .agg g.cells.toArray] w fun e w' => ∃ A2 c2 A3 n3 c3, e = .returned (.tuple #[.agg #[.int .i64 D, .slice A2 (n + 1 - (n + 1 - D)) c2, .slice A3 n3 c3], .int .i64 ((n + 1 - D : Nat) : Int)]) ∧ n + 1 - (n + 1 - D) ≤ c2 ∧ RStk w' Y A2 (n + 1 - (n + 1 - D)) A3 n3 ((g.val :: foldC Ms V).take (n + 1 - (n + 1 - D))) [] ∧ Below w.heap.size w w' := by
  obtain ⟨gA, gn, gc, gL, ⟨pk, pa, pb⟩, ⟨bk, ba, bb⟩, glost⟩ := g
  simp only [GrH.cells] at *
  have hb0 : Below w.heap.size w (((w.alloc (.cells #[.int .i64 D, .slice A n c, .slice A' n' c'] 88)).alloc (.cells (grp (.slice gA gn gc) pk pa pb bk ba bb glost) 93)).alloc (.cells #[.int .i64 0, .slice none 0 0, .slice none 0 0] 88)) := belowA
  have k2 : Bk (((w.alloc (.cells #[.int .i64 D, .slice A n c, .slice A' n' c'] 88)).alloc (.cells (grp (.slice gA gn gc) pk pa pb bk ba bb glost) 93)).alloc (.cells #[.int .i64 0, .slice none 0 0, .slice none 0 0] 88)) w.heap.size 88 #[.int .i64 D, .slice A n c, .slice A' n' c'] := ((Bk.new w _ _).alloc _).alloc _
  have k3 : Bk (((w.alloc (.cells #[.int .i64 D, .slice A n c, .slice A' n' c'] 88)).alloc (.cells (grp (.slice gA gn gc) pk pa pb bk ba bb glost) 93)).alloc (.cells #[.int .i64 0, .slice none 0 0, .slice none 0 0] 88)) (w.heap.size + 1) 93 (grp (.slice gA gn gc) pk pa pb bk ba bb glost) := (Bk.made _ _ (by simp)).alloc _
  have k4 : Bk (((w.alloc (.cells #[.int .i64 D, .slice A n c, .slice A' n' c'] 88)).alloc (.cells (grp (.slice gA gn gc) pk pa pb bk ba bb glost) 93)).alloc (.cells #[.int .i64 0, .slice none 0 0, .slice none 0 0] 88)) (w.heap.size + 1 + 1) 88 #[.int .i64 0, .slice none 0 0, .slice none 0 0] := Bk.made _ _ (by simp)
  obtain ⟨Y2, hY2⟩ : ∃ Y2 : Nat → Prop, Y2 = fun i => Y i ∨ (w.heap.size ≤ i ∧ i < w.heap.size + 3) := ⟨_, rfl⟩
  have hw2 : ∀ i, Y2 i → Y i ∨ w.heap.size ≤ i := fun i hi => by rw [hY2] at hi; rcases hi with hi | hi; (· exact .inl hi); (· exact .inr hi.1)
  have hl2 : ∀ i, Y2 i → i < w.heap.size + 3 := fun i hi => by rw [hY2] at hi; rcases hi with hi | hi; (· have := hY i hi; omega); (· exact hi.2)
  have hy2 : ∀ i, w.heap.size ≤ i → i < w.heap.size + 3 → Y2 i := fun i h1 h2 => by rw [hY2]; exact .inr ⟨h1, h2⟩
  have hy1 : ∀ i, Y i → Y2 i := fun i hi => by rw [hY2]; exact .inl hi
  have hs0 := (h.wide hw2).ext hb0
  have hg0 := (hg.wide hw2).ext hb0
  have hlen := h.len
  have htotV := totC_fold Ms V
  have H := Lib.hid h
  have HL2 := Lib.hid hl2
  have HY2 := Lib.hid hy2
  have HY1 := Lib.hid hy1
  clear hY2 hw2
  go_enter Tryz.func83, Tryz.ntmps83
  go_upto_region 1 with fail
  generalize hwE : ((w.alloc (.cells #[.int .i64 D, .slice A n c, .slice A' n' c'] 88)).alloc (.cells #[.slice gA gn gc, .int .i64 pk, .int .i64 pa, .int .i64 pb, .int .i64 bk, .int .i64 ba, .int .i64 bb, .int .i64 glost] 93)).alloc (.cells #[.int .i64 0, .slice none 0 0, .slice none 0 0] 88) = w0 at *
  clear hwE
  have hz0 : w.heap.size + 3 ≤ w0.heap.size := by have := def_lt' k4; omega
  have hfo := rfold_any D A n c A' n' c' V Ms w0 Y2 (fun i hi => by have := hl2 i hi; omega) hc hs0
  have HFO := Lib.hid hfo
  have c0 := k2.cell 0; have c1 := k2.cell 1; have c2 := k2.cell 2
  dsimp at c0 c1 c2
  clear hfo hs0 h hg hl2 hy2 hy1
  go_upto_region 2 with (go_at_call 45; (refine HFO.out.mono ?_); rintro e w1 ⟨v, rfl, A4, n4, c4, A5, n5, c5, rfl, hc4, hs4, hb1⟩; have y2 := k2.ext hb1; have f0 := y2.cell 0; have f1 := y2.cell 1; have f2 := y2.cell 2; have ff := y2.frozen; have fl := def_lt' y2; dsimp at f0 f1 f2)
  obtain ⟨g, hgE⟩ : ∃ g : GrH, g = ⟨gA, gn, gc, gL, ⟨pk, pa, pb⟩, ⟨bk, ba, bb⟩, glost⟩ := ⟨_, rfl⟩
  rw [← hgE] at hg0
  have hgc : g.cells = [.slice gA gn gc, .int .i64 pk, .int .i64 pa, .int .i64 pb, .int .i64 bk, .int .i64 ba, .int .i64 bb, .int .i64 glost] := by rw [hgE]; rfl
  have hgl : g.L.length = gL.length := by rw [hgE]
  have y2 := k2.ext hb1
  have hbw1 := hb0.trans (hb1.mono hb0.size)
  have hz1 := hbw1.size
  have hzz1 := hb1.size
  have st1 : Stir Y2 w1 (((w1.setCell ⟨w.heap.size, 0, none⟩ (.int .i64 D)).setCell ⟨w.heap.size, 1, none⟩ (.slice A4 n4 c4)).setCell ⟨w.heap.size, 2, none⟩ (.slice A5 n5 c5)) := Stir.of_gr (row := some w.heap.size) (gr_set (p := ⟨w.heap.size, 2, none⟩) (gr_set (p := ⟨w.heap.size, 1, none⟩) (gr_set (p := ⟨w.heap.size, 0, none⟩) (World.grownBy.refl _ _) (.inl rfl) _) (.inl rfl) _) (.inl rfl) _) (fun i e => by injection e with e; subst e; exact HY2.out _ (Nat.le_refl _) (by omega))
  have z2 : Bk (((w1.setCell ⟨w.heap.size, 0, none⟩ (.int .i64 D)).setCell ⟨w.heap.size, 1, none⟩ (.slice A4 n4 c4)).setCell ⟨w.heap.size, 2, none⟩ (.slice A5 n5 c5)) w.heap.size 88 #[.int .i64 D, .slice A4 n4 c4, .slice A5 n5 c5] := ((y2.set_ 0 _).set_ 1 _).set_ 2 _
  have z3 := (((k3.ext hb1).far (p := ⟨w.heap.size, 0, none⟩) (by simp) (.int .i64 D)).far (p := ⟨w.heap.size, 1, none⟩) (by simp) (.slice A4 n4 c4)).far (p := ⟨w.heap.size, 2, none⟩) (by simp) (.slice A5 n5 c5)
  have z4 := (((k4.ext hb1).far (p := ⟨w.heap.size, 0, none⟩) (by simp <;> omega) (.int .i64 D)).far (p := ⟨w.heap.size, 1, none⟩) (by simp <;> omega) (.slice A4 n4 c4)).far (p := ⟨w.heap.size, 2, none⟩) (by simp <;> omega) (.slice A5 n5 c5)
  have hb2 : Below w.heap.size w (((w1.setCell ⟨w.heap.size, 0, none⟩ (.int .i64 D)).setCell ⟨w.heap.size, 1, none⟩ (.slice A4 n4 c4)).setCell ⟨w.heap.size, 2, none⟩ (.slice A5 n5 c5)) := belowA
  have hs5 := hs4.stir st1
  have hg5 := (hg0.ext hb1).stir st1
  have hzs : w.heap.size + 3 ≤ (((w1.setCell ⟨w.heap.size, 0, none⟩ (.int .i64 D)).setCell ⟨w.heap.size, 1, none⟩ (.slice A4 n4 c4)).setCell ⟨w.heap.size, 2, none⟩ (.slice A5 n5 c5)).heap.size := by simp; omega
  generalize ((w1.setCell ⟨w.heap.size, 0, none⟩ (.int .i64 D)).setCell ⟨w.heap.size, 1, none⟩ (.slice A4 n4 c4)).setCell ⟨w.heap.size, 2, none⟩ (.slice A5 n5 c5) = w2 at *
  obtain ⟨L4, hL4, hV4⟩ := hs5.l
  have hn4 : n4 = n := by
    have h1 := hs4.len
    rw [foldC_len, hlen] at h1
    exact h1.symm
  subst hn4
  have HS5 := Lib.hid hs5
  have HG5 := Lib.hid hg5
  have HL4 := Lib.hid hL4
  have HV4 := Lib.hid hV4
  have HGE := Lib.hid hgE
  have HGC := Lib.hid hgc
  have HGL := Lib.hid hgl
  have hlit : (w2.alloc (.cells (grp (.slice gA gn gc) pk pa pb bk ba bb glost) 93)).ownsRow w2.heap.size 93 8 (.slice (some ⟨w2.heap.size, 0, none⟩) 1 1) 1 (grp (.slice gA gn gc) pk pa pb bk ba bb glost).toList := own_lit' _ 8 _ 1 rfl (Nat.le_refl _) (by unfold maxLen; omega) rfl
  have hrd : Rd (w2.alloc (.cells (grp (.slice gA gn gc) pk pa pb bk ba bb glost) 93)) w2.heap.size 8 A4 n4 (grs L4) := hL4.in_.1.alloc (Nat.le_refl _) _
  have hno4 := hL4.no
  have u2 := z2.alloc (.cells (grp (.slice gA gn gc) pk pa pb bk ba bb glost) 93)
  have c0 := z3.cell 0; have c1 := z3.cell 1; have c2 := z3.cell 2; have c3 := z3.cell 3; have c4' := z3.cell 4; have c5' := z3.cell 5; have c6' := z3.cell 6; have c7 := z3.cell 7; have d1 := z2.cell 1
  dsimp [grp] at c0 c1 c2 c3 c4' c5' c6' c7 d1
  have hn300 := hs4.nL
  have hlt2 := def_lt' z2
  clear hgc hgl hgE hs5 hg5 hL4 hV4 hs4 hg0 f0 f1 f2 ff fl HFO
  go_upto_region 3 with (at_builtin; go_loud ((refine app_rd Tryz.underlying85 info_groupR rfl (by decide) (w2.alloc (.cells (grp (.slice gA gn gc) pk pa pb bk ba bb glost) 93)) w2.heap.size _ 1 _ hlit w2.heap.size A4 n4 c4 (grs L4) hrd hno4 (grs_one L4) (by unfold maxLen; omega) (by omega) (by simp) rfl _ _ rfl rfl rfl ?_); intro v6 w6 hown6 hgr6 hat6; obtain ⟨A6, c6, rfl, hc6, -, hA6, hr6⟩ := own_form hown6; have u6 := u2.grown hgr6 (by simp [Value.ownBlock]; omega); have f6 := u6.frozen; have l6 := def_lt' u6; have e1 := u6.cell 1; dsimp at e1))
  rw [Nat.add_comm 1 n4] at hown6 hc6 ⊢
  have hA : Below w2.heap.size w2 (w2.alloc (.cells (grp (.slice gA gn gc) pk pa pb bk ba bb glost) 93)) := belowA
  have gs7 : w6.grownBy (w6.setCell ⟨w.heap.size, 1, none⟩ (.slice A6 (n4 + 1) c6)) (some w.heap.size) := gr_set (p := ⟨w.heap.size, 1, none⟩) (World.grownBy.refl _ _) (.inl rfl) _
  have st7 : Stir Y2 w2 (w6.setCell ⟨w.heap.size, 1, none⟩ (.slice A6 (n4 + 1) c6)) := ((Stir.of_below hA).fresh (Stir.of_gr (X := fun i => i = w2.heap.size) hgr6 (fun i e => by simp [Value.ownBlock] at e; exact e.symm)) (fun i e => .inr (by have : i = w2.heap.size := e; omega))).trans (Stir.of_gr gs7 (fun i e => by injection e with e; subst e; exact HY2.out _ (Nat.le_refl _) (by omega)))
  have hown7 : (w6.setCell ⟨w.heap.size, 1, none⟩ (.slice A6 (n4 + 1) c6)).ownsRow w2.heap.size 93 8 (.slice A6 (n4 + 1) c6) (n4 + 1) ((grp (.slice gA gn gc) pk pa pb bk ba bb glost).toList ++ grs L4) := own_grow hown6 gs7 (fun x e => by injection e with e; subst e; exact own_ne hown6 u6 (by decide))
  have u7 : Bk (w6.setCell ⟨w.heap.size, 1, none⟩ (.slice A6 (n4 + 1) c6)) w.heap.size 88 #[.int .i64 D, .slice A6 (n4 + 1) c6, .slice A5 n5 c5] := u6.set_ 1 _
  have t7 := ((z4.alloc (.cells (grp (.slice gA gn gc) pk pa pb bk ba bb glost) 93)).grown hgr6 (by simp [Value.ownBlock]; omega)).far (p := ⟨w.heap.size, 1, none⟩) (by simp <;> omega) (.slice A6 (n4 + 1) c6)
  have hb6 : Below w.heap.size w w6 := (hb2.trans (hA.mono (by omega))).trans (gr_below hgr6 (by simp; omega) (fun k e => by simp [Value.ownBlock] at e; omega))
  have hb7 : Below w.heap.size w (w6.setCell ⟨w.heap.size, 1, none⟩ (.slice A6 (n4 + 1) c6)) := belowA
  generalize w6.setCell ⟨w.heap.size, 1, none⟩ (.slice A6 (n4 + 1) c6) = w7 at *
  have hz7 := hb7.size
  have hly : ∀ i, Y2 i → i < w2.heap.size := fun i hi => by have := HL2.out i hi; omega
  have hgrs : (grp (.slice gA gn gc) pk pa pb bk ba bb glost).toList ++ grs L4 = grs (g :: L4) := by
    show _ = g.cells ++ grs L4
    rw [HGC.out]
  rw [hgrs] at hown7
  have hx7 : GrsX w7 Y2 A6 (n4 + 1) (g :: L4) := GrsX.cons (HG5.out.stir st7) (fun x hx => (HL4.out.stir st7).each x hx) (Rd.of_own hown7) (own_none hown7) (av_own hown7 hly)
  have hgn : g.val.steps.length = gL.length := by simp only [GrH.val, List.length_map]; exact HGL.out
  have hgn2 : gL.length ≤ 1000 := by
    have h1 := HG5.out.in_.sts.len
    have h2 := HG5.out.n
    rw [HGL.out] at h1
    omega
  have hs7 : RStk w7 Y2 A6 (n4 + 1) A5 n5 (g.val :: foldC Ms V) [] := by
    refine ⟨⟨g :: L4, hx7, by rw [List.map_cons, HV4.out]⟩, (HS5.out.stir st7).m, by omega, HS5.out.nM, by rw [totC_cons, hgn]; omega, ?_, HS5.out.ml⟩
    intro x hx
    rcases List.mem_cons.1 hx with rfl | hx
    · exact ⟨by rw [hgn]; exact hgn2, HG5.out.lost⟩
    · exact HS5.out.bd x hx
  have htr := rtrim_any D hD hD2 A6 (n4 + 1) c6 A5 n5 c5 (g.val :: foldC Ms V) [] w7 Y2 hc6 hs7
  have HTR := Lib.hid htr
  have hzz7 : w.heap.size + 3 ≤ w7.heap.size := by have := st7.size; omega
  have c0 := u7.cell 0; have c1 := u7.cell 1; have c2 := u7.cell 2
  dsimp at c0 c1 c2
  clear hx7 hs7 htr hown7 hgrs hown6 hgr6 hr6 st7 gs7 hrd hlit hA hgn hgn2 c3 c4' c5' c6' c7 d1 hb6
  go_upto_region 3 with fail
  go_wp2_with (go_at_call 137; (refine HTR.out.mono ?_); rintro e w8 ⟨c8, rfl, hc8, hs8, hb8⟩; have t8 := t7.ext hb8; have q0 := t8.cell 0; have q1 := t8.cell 1; have q2 := t8.cell 2; have f8 := t8.frozen; have l8 := def_lt' t8; dsimp at q0 q1 q2)
  have st9 : Stir Y2 w8 (((w8.setCell ⟨w.heap.size + 1 + 1, 0, none⟩ (.int .i64 D)).setCell ⟨w.heap.size + 1 + 1, 1, none⟩ (.slice A6 (n4 + 1 - (n4 + 1 - D)) c8)).setCell ⟨w.heap.size + 1 + 1, 2, none⟩ (.slice A5 n5 c5)) := Stir.of_gr (row := some (w.heap.size + 1 + 1)) (gr_set (p := ⟨w.heap.size + 1 + 1, 2, none⟩) (gr_set (p := ⟨w.heap.size + 1 + 1, 1, none⟩) (gr_set (p := ⟨w.heap.size + 1 + 1, 0, none⟩) (World.grownBy.refl _ _) (.inl rfl) _) (.inl rfl) _) (.inl rfl) _) (fun i e => by injection e with e; subst e; exact HY2.out _ (by omega) (by omega))
  have hs9 := (hs8.stir st9).wide (Y' := Y) (fun i hi => .inl (HY1.out i hi))
  have k9 : Bk (((w8.setCell ⟨w.heap.size + 1 + 1, 0, none⟩ (.int .i64 D)).setCell ⟨w.heap.size + 1 + 1, 1, none⟩ (.slice A6 (n4 + 1 - (n4 + 1 - D)) c8)).setCell ⟨w.heap.size + 1 + 1, 2, none⟩ (.slice A5 n5 c5)) (w.heap.size + 1 + 1) 88 #[.int .i64 D, .slice A6 (n4 + 1 - (n4 + 1 - D)) c8, .slice A5 n5 c5] := ((t8.set_ 0 _).set_ 1 _).set_ 2 _
  have hb8' := hb7.trans (hb8.mono hz7)
  have hz8 := hb8'.size
  have hbe : Below w.heap.size w (((w8.setCell ⟨w.heap.size + 1 + 1, 0, none⟩ (.int .i64 D)).setCell ⟨w.heap.size + 1 + 1, 1, none⟩ (.slice A6 (n4 + 1 - (n4 + 1 - D)) c8)).setCell ⟨w.heap.size + 1 + 1, 2, none⟩ (.slice A5 n5 c5)) := belowA
  clear q0 q1 q2
  generalize ((w8.setCell ⟨w.heap.size + 1 + 1, 0, none⟩ (.int .i64 D)).setCell ⟨w.heap.size + 1 + 1, 1, none⟩ (.slice A6 (n4 + 1 - (n4 + 1 - D)) c8)).setCell ⟨w.heap.size + 1 + 1, 2, none⟩ (.slice A5 n5 c5) = w9 at *
  have q0 := k9.cell 0; have q1 := k9.cell 1; have q2 := k9.cell 2
  dsimp at q0 q1 q2
  exact bodyPost_ret (v := .tuple #[.agg #[.int .i64 D, .slice A6 (n4 + 1 - (n4 + 1 - D)) c8, .slice A5 n5 c5], .int .i64 ((n4 + 1 - D : Nat) : Int)]) (by simp [results, Tryz.results83, go_sem, q0, q1, q2]) rfl ⟨A6, c8, A5, n5, c5, rfl, hc8, by rw [← HGE.out]; exact hs9, hbe⟩
theorem maps_cells {w : World} {Y : Nat → Prop} {A : Option Addr} {n : Nat} {l : List (List Rg)} (h : MapsX w Y A n l) : ∃ vs, Rd w w.heap.size 1 A n vs ∧ (∀ u ∈ vs, u.oneCell' = true) ∧ ∀ (i : Nat) (m : List Rg), l[i]? = some m → ∃ A c, vs[i]? = some (.slice A m.length c) ∧ Rd w w.heap.size 3 A m.length (rgs m) ∧ Av Y A m.length := by
  obtain ⟨h1, h2, h3, vs, h4, h5⟩ := h
  exact ⟨vs, h4, refis_one h1 (by have := h4.1; omega) (fun i m hi => by obtain ⟨A, c, e1, _⟩ := h5 i m hi; exact ⟨A, c, e1, trivial⟩), h5⟩
set_option maxRecDepth 100000 in
set_option maxHeartbeats 4000000 in
theorem rnote_any (D : Nat) (A : Option Addr) (n c : Nat) (A' : Option Addr) (n' c' : Nat) (V : List GrC) (Ms : List (List Rg)) (Am : Option Addr) (cm : Nat) (m : List Rg) (w : World) (Y : Nat → Prop) (hY : ∀ i, Y i → i < w.heap.size) (h : RStk w Y A n A' n' V Ms) (hm : Rd w w.heap.size 3 Am m.length (rgs m)) (hma : Av Y Am m.length) (hml : m.length ≤ 1000) (hn : n' ≤ 499) :
    Calls Tryz.prog 87 #[.agg #[.int .i64 D, .slice A n c, .slice A' n' c'], .slice Am m.length cm] w fun e w' => ∃ A3 c3, e = .returned (.agg #[.int .i64 D, .slice A n c, .slice A3 (n' + 1) c3]) ∧ RStk w' Y A n A3 (n' + 1) V (Ms ++ [m]) ∧ Below w.heap.size w w' := by
  have hb0 : Below w.heap.size w ((w.alloc (.cells #[.int .i64 D, .slice A n c, .slice A' n' c'] 88)).alloc (.cells #[.int .i64 0, .slice none 0 0, .slice none 0 0] 88)) := belowA
  have k2 : Bk ((w.alloc (.cells #[.int .i64 D, .slice A n c, .slice A' n' c'] 88)).alloc (.cells #[.int .i64 0, .slice none 0 0, .slice none 0 0] 88)) w.heap.size 88 #[.int .i64 D, .slice A n c, .slice A' n' c'] := (Bk.new w _ _).alloc _
  have k4 : Bk ((w.alloc (.cells #[.int .i64 D, .slice A n c, .slice A' n' c'] 88)).alloc (.cells #[.int .i64 0, .slice none 0 0, .slice none 0 0] 88)) (w.heap.size + 1) 88 #[.int .i64 0, .slice none 0 0, .slice none 0 0] := Bk.made _ _ (by simp)
  obtain ⟨Y2, hY2⟩ : ∃ Y2 : Nat → Prop, Y2 = fun i => Y i ∨ (w.heap.size ≤ i ∧ i < w.heap.size + 2) := ⟨_, rfl⟩
  have hw2 : ∀ i, Y2 i → Y i ∨ w.heap.size ≤ i := fun i hi => by rw [hY2] at hi; rcases hi with hi | hi; (· exact .inl hi); (· exact .inr hi.1)
  have hl2 : ∀ i, Y2 i → i < w.heap.size + 2 := fun i hi => by rw [hY2] at hi; rcases hi with hi | hi; (· have := hY i hi; omega); (· exact hi.2)
  have hy2 : ∀ i, w.heap.size ≤ i → i < w.heap.size + 2 → Y2 i := fun i h1 h2 => by rw [hY2]; exact .inr ⟨h1, h2⟩
  have hy1 : ∀ i, Y i → Y2 i := fun i hi => by rw [hY2]; exact .inl hi
  have hs0 := (h.wide hw2).ext hb0
  have hm0 := hm.stir (Y := Y) (Stir.of_below hb0) hma
  have hma2 := hma.wide hm hw2
  have HM0 := Lib.hid hm0
  have HMA := Lib.hid hma2
  have HL2 := Lib.hid hl2
  have HY2 := Lib.hid hy2
  have HY1 := Lib.hid hy1
  have HS0 := Lib.hid hs0
  clear hY2 hw2 hm hma h hm0 hma2 hl2 hy2 hy1
  go_enter Tryz.func87, Tryz.ntmps87
  go_upto_region 1 with fail
  generalize hwE : (w.alloc (.cells #[.int .i64 D, .slice A n c, .slice A' n' c'] 88)).alloc (.cells #[.int .i64 0, .slice none 0 0, .slice none 0 0] 88) = w0 at *
  clear hwE
  have hz0 : w.heap.size + 2 ≤ w0.heap.size := by have := def_lt' k4; omega
  have e1 : ((n' : Int) == 500) = false := beq_false_of_ne (by omega)
  have c0 := k2.cell 0; have c1 := k2.cell 1; have c2 := k2.cell 2; have l2 := def_lt' k2
  dsimp at c0 c1 c2
  obtain ⟨vs, hvs, hv1, hvr⟩ := maps_cells hs0.m
  have hvl : vs.length = n' := by have := hvs.1; omega
  have HVR := Lib.hid hvr
  have HVS := Lib.hid hvs
  have HVL := Lib.hid hvl
  have hno := hs0.m.no
  have hlit := own_empty w0 w0.heap.size 94 1 (Nat.le_refl _)
  have hrd : Rd (w0.alloc (.cells #[] 94)) w0.heap.size 1 A' n' vs := hvs.alloc (Nat.le_refl _) _
  have hA0 : Below w0.heap.size w0 (w0.alloc (.cells #[] 94)) := belowA
  have k2A := k2.alloc (.cells #[] 94)
  clear hvr hvs hvl hs0
  go_upto_region 3 with fail
  go_upto_region 4 with (first
    | (at_builtin; ((refine app_rd Tryz.underlying86 info_rgs rfl (by decide) (w0.alloc (.cells #[] 94)) w0.heap.size _ 0 _ hlit w0.heap.size A' n' c' vs hrd hno hv1 (by unfold maxLen; omega) (by omega) (by simp) rfl _ _ rfl rfl rfl ?_); intro v6 w6 hown6 hgr6 hat6; rw [Nat.zero_add, List.nil_append] at hown6; have hz6 := hgr6.size; have hz6' : w0.heap.size ≤ w6.heap.size := by simp at hz6; omega))
    | (at_builtin; go_loud ((refine app_one Tryz.underlying86 info_rgs rfl (by decide) w6 w0.heap.size _ n' _ hown6 (by unfold maxLen; omega) (by omega) hz6' _ rfl (by simp [Value.oneCell']) rfl _ _ rfl rfl rfl ?_); intro g7 c7 w7 hown7 hgr7 hat7 hlt7; have k26 := k2A.grown hgr6 (by simp [Value.ownBlock]; omega); have k27 := k26.grown hgr7 (own_ne hown6 k26 (by decide)); have f7 := k27.frozen; have l7 := def_lt' k27; have d2 := k27.cell 2; dsimp at d2)))
  have gs8 : w7.grownBy (w7.setCell ⟨w.heap.size, 2, none⟩ (.slice (some ⟨g7, 0, none⟩) (n' + 1) c7)) (some w.heap.size) := gr_set (p := ⟨w.heap.size, 2, none⟩) (World.grownBy.refl _ _) (.inl rfl) _
  have st8 : Stir Y2 w0 (w7.setCell ⟨w.heap.size, 2, none⟩ (.slice (some ⟨g7, 0, none⟩) (n' + 1) c7)) := (((Stir.of_below hA0).fresh (Stir.of_gr (X := fun i => i = w0.heap.size) hgr6 (fun i e => by simp [Value.ownBlock] at e; exact e.symm)) (fun i e => .inr (by have : i = w0.heap.size := e; omega))).fresh (Stir.of_gr (X := fun i => v6.ownBlock = some i) hgr7 (fun i e => e)) (fun i e => .inr (own_ge hown6 i e))).trans (Stir.of_gr gs8 (fun i e => by injection e with e; subst e; exact HY2.out _ (Nat.le_refl _) (by omega)))
  have hown8 : (w7.setCell ⟨w.heap.size, 2, none⟩ (.slice (some ⟨g7, 0, none⟩) (n' + 1) c7)).ownsRow w0.heap.size 94 1 (.slice (some ⟨g7, 0, none⟩) (n' + 1) c7) (n' + 1) (vs ++ #[Value.slice Am m.length cm].toList) := own_grow hown7 gs8 (fun x e => by injection e with e; subst e; exact own_ne hown7 k27 (by decide))
  have u8 : Bk (w7.setCell ⟨w.heap.size, 2, none⟩ (.slice (some ⟨g7, 0, none⟩) (n' + 1) c7)) w.heap.size 88 #[.int .i64 D, .slice A n c, .slice (some ⟨g7, 0, none⟩) (n' + 1) c7] := k27.set_ 2 _
  have t8 := (((k4.alloc (.cells #[] 94)).grown hgr6 (by simp [Value.ownBlock]; omega)).grown hgr7 (fun e => by have := own_ge hown6 _ e; omega)).far (p := ⟨w.heap.size, 2, none⟩) (by simp <;> omega) (.slice (some ⟨g7, 0, none⟩) (n' + 1) c7)
  have hb7 : Below w.heap.size w w7 := ((hb0.trans (hA0.mono (by omega))).trans (gr_below hgr6 (by simp; omega) (fun k e => by simp [Value.ownBlock] at e; omega))).trans (gr_below hgr7 (by omega) (fun k e => by have := own_ge hown6 _ e; omega))
  have hb8 : Below w.heap.size w (w7.setCell ⟨w.heap.size, 2, none⟩ (.slice (some ⟨g7, 0, none⟩) (n' + 1) c7)) := belowA
  have hzz8 : w0.heap.size ≤ (w7.setCell ⟨w.heap.size, 2, none⟩ (.slice (some ⟨g7, 0, none⟩) (n' + 1) c7)).heap.size := st8.size
  generalize w7.setCell ⟨w.heap.size, 2, none⟩ (.slice (some ⟨g7, 0, none⟩) (n' + 1) c7) = w8 at *
  have hx8 : MapsX w8 Y2 (some ⟨g7, 0, none⟩) (n' + 1) (Ms ++ [m]) := by
    refine ⟨by rw [List.length_append, HS0.out.m.len]; rfl, fun e => (by cases e), av_own hown8 (fun i hi => by have := HL2.out i hi; omega), _, Rd.of_own hown8, fun i x hi => ?_⟩
    have hln := HS0.out.m.len
    by_cases hin : i < n'
    · rw [List.getElem?_append_left (by omega)] at hi
      obtain ⟨A, c, e1, e2, e3⟩ := HVR.out i x hi
      exact ⟨A, c, by rw [List.getElem?_append_left (by have := HVL.out; omega)]; exact e1, e2.stir st8 e3, e3⟩
    · have hlt := (List.getElem?_eq_some_iff.1 hi).1
      simp only [List.length_append, List.length_cons, List.length_nil] at hlt
      have hi' : i = n' := by omega
      subst hi'
      rw [List.getElem?_append_right (by omega), hln, Nat.sub_self] at hi
      simp only [List.getElem?_cons_zero, Option.some.injEq] at hi
      subst hi
      refine ⟨Am, cm, ?_, HM0.out.stir st8 HMA.out, HMA.out⟩
      rw [List.getElem?_append_right (by have := HVL.out; omega), HVL.out, Nat.sub_self]
      rfl
  have hs8 : RStk w8 Y2 A n (some ⟨g7, 0, none⟩) (n' + 1) V (Ms ++ [m]) := by
    have h8 := HS0.out.stir st8
    refine ⟨h8.l, hx8, h8.nL, by omega, h8.tot, h8.bd, ?_⟩
    intro x hx
    rcases List.mem_append.1 hx with hx | hx
    · exact h8.ml x hx
    · simp only [List.mem_singleton] at hx
      subst hx
      exact hml
  have c0 := u8.cell 0; have c1 := u8.cell 1; have c2 := u8.cell 2
  have q0 := t8.cell 0; have q1 := t8.cell 1; have q2 := t8.cell 2; have f8 := t8.frozen; have l8 := def_lt' t8
  dsimp at c0 c1 c2 q0 q1 q2
  have st9 : Stir Y2 w8 (((w8.setCell ⟨w.heap.size + 1, 0, none⟩ (.int .i64 D)).setCell ⟨w.heap.size + 1, 1, none⟩ (.slice A n c)).setCell ⟨w.heap.size + 1, 2, none⟩ (.slice (some ⟨g7, 0, none⟩) (n' + 1) c7)) := Stir.of_gr (row := some (w.heap.size + 1)) (gr_set (p := ⟨w.heap.size + 1, 2, none⟩) (gr_set (p := ⟨w.heap.size + 1, 1, none⟩) (gr_set (p := ⟨w.heap.size + 1, 0, none⟩) (World.grownBy.refl _ _) (.inl rfl) _) (.inl rfl) _) (.inl rfl) _) (fun i e => by injection e with e; subst e; exact HY2.out _ (by omega) (by omega))
  have hs9 := (hs8.stir st9).wide (Y' := Y) (fun i hi => .inl (HY1.out i hi))
  have k9 : Bk (((w8.setCell ⟨w.heap.size + 1, 0, none⟩ (.int .i64 D)).setCell ⟨w.heap.size + 1, 1, none⟩ (.slice A n c)).setCell ⟨w.heap.size + 1, 2, none⟩ (.slice (some ⟨g7, 0, none⟩) (n' + 1) c7)) (w.heap.size + 1) 88 #[.int .i64 D, .slice A n c, .slice (some ⟨g7, 0, none⟩) (n' + 1) c7] := ((t8.set_ 0 _).set_ 1 _).set_ 2 _
  have hz8 := hb8.size
  have hbe : Below w.heap.size w (((w8.setCell ⟨w.heap.size + 1, 0, none⟩ (.int .i64 D)).setCell ⟨w.heap.size + 1, 1, none⟩ (.slice A n c)).setCell ⟨w.heap.size + 1, 2, none⟩ (.slice (some ⟨g7, 0, none⟩) (n' + 1) c7)) := belowA
  have HS9 := Lib.hid hs9
  clear hx8 hs8 hs9 st9 st8 gs8 hown8 hown7 hown6 hgr6 hgr7 hrd hlit
  go_wp2
  clear q0 q1 q2
  generalize ((w8.setCell ⟨w.heap.size + 1, 0, none⟩ (.int .i64 D)).setCell ⟨w.heap.size + 1, 1, none⟩ (.slice A n c)).setCell ⟨w.heap.size + 1, 2, none⟩ (.slice (some ⟨g7, 0, none⟩) (n' + 1) c7) = w9 at *
  have q0 := k9.cell 0; have q1 := k9.cell 1; have q2 := k9.cell 2
  dsimp at q0 q1 q2
  exact bodyPost_ret (v := .agg #[.int .i64 D, .slice A n c, .slice (some ⟨g7, 0, none⟩) (n' + 1) c7]) (by simp [results, Tryz.results87, go_sem, q0, q1, q2]) rfl ⟨_, c7, rfl, HS9.out, hbe⟩
/-- steps ahead of a group's -/
def extC (xs : List StC) (g : GrC) : GrC := { g with steps := xs ++ g.steps }
set_option maxRecDepth 100000 in
set_option maxHeartbeats 4000000 in
theorem rextend_any (D : Nat) (hD : 1 ≤ D) (hD2 : D ≤ 1000) (A : Option Addr) (n c : Nat) (A' : Option Addr) (n' c' : Nat) (V : List GrC) (Ms : List (List Rg)) (A1 : Option Addr) (n1 c1 : Nat) (L1 : List StH) (w : World) (Y : Nat → Prop) (hY : ∀ i, Y i → i < w.heap.size) (hc : n ≤ c) (h : RStk w Y A n A' n' V Ms)
    (h1 : StsIn w w.heap.size A1 n1 L1) (h1s : ∀ s ∈ L1, s.n ≤ 20000 ∧ s.n' ≤ 20000 ∧ s.Av Y) (h1a : Av Y A1 n1) (h1n : A1 = none → n1 = 0) (htot : totC V + n1 ≤ 1000) (hn : 1 ≤ n) :
    Calls Tryz.prog 85 #[.agg #[.int .i64 D, .slice A n c, .slice A' n' c'], .slice A1 n1 c1] w fun e w' => ∃ A2 c2 A3 n3 c3, e = .returned (.tuple #[.agg #[.int .i64 D, .slice A2 (n - (n - D)) c2, .slice A3 n3 c3], .int .i64 ((n - D : Nat) : Int)]) ∧ n - (n - D) ≤ c2 ∧ RStk w' Y A2 (n - (n - D)) A3 n3 (((foldC Ms V).modify 0 (extC (L1.map StH.x))).take (n - (n - D))) [] ∧ Below w.heap.size w w' := by
  have hb0 : Below w.heap.size w ((w.alloc (.cells #[.int .i64 D, .slice A n c, .slice A' n' c'] 88)).alloc (.cells #[.int .i64 0, .slice none 0 0, .slice none 0 0] 88)) := belowA
  have k2 : Bk ((w.alloc (.cells #[.int .i64 D, .slice A n c, .slice A' n' c'] 88)).alloc (.cells #[.int .i64 0, .slice none 0 0, .slice none 0 0] 88)) w.heap.size 88 #[.int .i64 D, .slice A n c, .slice A' n' c'] := (Bk.new w _ _).alloc _
  have k4 : Bk ((w.alloc (.cells #[.int .i64 D, .slice A n c, .slice A' n' c'] 88)).alloc (.cells #[.int .i64 0, .slice none 0 0, .slice none 0 0] 88)) (w.heap.size + 1) 88 #[.int .i64 0, .slice none 0 0, .slice none 0 0] := Bk.made _ _ (by simp)
  obtain ⟨Y2, hY2⟩ : ∃ Y2 : Nat → Prop, Y2 = fun i => Y i ∨ (w.heap.size ≤ i ∧ i < w.heap.size + 2) := ⟨_, rfl⟩
  have hw2 : ∀ i, Y2 i → Y i ∨ w.heap.size ≤ i := fun i hi => by rw [hY2] at hi; rcases hi with hi | hi; (· exact .inl hi); (· exact .inr hi.1)
  have hl2 : ∀ i, Y2 i → i < w.heap.size + 2 := fun i hi => by rw [hY2] at hi; rcases hi with hi | hi; (· have := hY i hi; omega); (· exact hi.2)
  have hy2 : ∀ i, w.heap.size ≤ i → i < w.heap.size + 2 → Y2 i := fun i h1 h2 => by rw [hY2]; exact .inr ⟨h1, h2⟩
  have hy1 : ∀ i, Y i → Y2 i := fun i hi => by rw [hY2]; exact .inl hi
  have hs0 := (h.wide hw2).ext hb0
  have hlen := h.len
  have htotV := totC_fold Ms V
  -- the further steps as a group
  have hx0 : GrX w Y ⟨A1, n1, c1, L1, ⟨0, 0, 0⟩, ⟨0, 0, 0⟩, 0⟩ := ⟨⟨h1, by show n1 ≤ 1000000; omega, h1n⟩, by show n1 ≤ 1000; omega, h1s, h1a, by show -9223372036854775808 ≤ (0 : Int) ∧ (0 : Int) ≤ 9223372036854775807; omega⟩
  have hg0 := (hx0.wide hw2).ext hb0
  have HL2 := Lib.hid hl2
  have HY2 := Lib.hid hy2
  have HY1 := Lib.hid hy1
  clear hY2 hw2 hx0 h1 h1s h1a h h1n
  go_enter Tryz.func85, Tryz.ntmps85
  go_upto_region 1 with fail
  generalize hwE : (w.alloc (.cells #[.int .i64 D, .slice A n c, .slice A' n' c'] 88)).alloc (.cells #[.int .i64 0, .slice none 0 0, .slice none 0 0] 88) = w0 at *
  clear hwE
  have hz0 : w.heap.size + 2 ≤ w0.heap.size := by have := def_lt' k4; omega
  have hfo := rfold_any D A n c A' n' c' V Ms w0 Y2 (fun i hi => by have := hl2 i hi; omega) hc hs0
  have HFO := Lib.hid hfo
  have c0 := k2.cell 0; have c1' := k2.cell 1; have c2 := k2.cell 2
  dsimp at c0 c1' c2
  clear hfo hs0 hl2 hy2 hy1
  go_upto_region 2 with (go_at_call 45; (refine HFO.out.mono ?_); rintro e w1 ⟨v, rfl, A4, n4, c4, A5, n5, c5, rfl, hc4, hs4, hb1⟩; have y2 := k2.ext hb1; have f0 := y2.cell 0; have f1 := y2.cell 1; have f2 := y2.cell 2; have ff := y2.frozen; have fl := def_lt' y2; dsimp at f0 f1 f2)
  have y2 := k2.ext hb1
  have hbw1 := hb0.trans (hb1.mono hb0.size)
  have hz1 := hbw1.size
  have hzz1 := hb1.size
  have st1 : Stir Y2 w1 (((w1.setCell ⟨w.heap.size, 0, none⟩ (.int .i64 D)).setCell ⟨w.heap.size, 1, none⟩ (.slice A4 n4 c4)).setCell ⟨w.heap.size, 2, none⟩ (.slice A5 n5 c5)) := Stir.of_gr (row := some w.heap.size) (gr_set (p := ⟨w.heap.size, 2, none⟩) (gr_set (p := ⟨w.heap.size, 1, none⟩) (gr_set (p := ⟨w.heap.size, 0, none⟩) (World.grownBy.refl _ _) (.inl rfl) _) (.inl rfl) _) (.inl rfl) _) (fun i e => by injection e with e; subst e; exact HY2.out _ (Nat.le_refl _) (by omega))
  have z2 : Bk (((w1.setCell ⟨w.heap.size, 0, none⟩ (.int .i64 D)).setCell ⟨w.heap.size, 1, none⟩ (.slice A4 n4 c4)).setCell ⟨w.heap.size, 2, none⟩ (.slice A5 n5 c5)) w.heap.size 88 #[.int .i64 D, .slice A4 n4 c4, .slice A5 n5 c5] := ((y2.set_ 0 _).set_ 1 _).set_ 2 _
  have z4 := (((k4.ext hb1).far (p := ⟨w.heap.size, 0, none⟩) (by simp <;> omega) (.int .i64 D)).far (p := ⟨w.heap.size, 1, none⟩) (by simp <;> omega) (.slice A4 n4 c4)).far (p := ⟨w.heap.size, 2, none⟩) (by simp <;> omega) (.slice A5 n5 c5)
  have hb2 : Below w.heap.size w (((w1.setCell ⟨w.heap.size, 0, none⟩ (.int .i64 D)).setCell ⟨w.heap.size, 1, none⟩ (.slice A4 n4 c4)).setCell ⟨w.heap.size, 2, none⟩ (.slice A5 n5 c5)) := belowA
  have hs5 := hs4.stir st1
  have hg5 := (hg0.ext hb1).stir st1
  have hzs : w.heap.size + 2 ≤ (((w1.setCell ⟨w.heap.size, 0, none⟩ (.int .i64 D)).setCell ⟨w.heap.size, 1, none⟩ (.slice A4 n4 c4)).setCell ⟨w.heap.size, 2, none⟩ (.slice A5 n5 c5)).heap.size := by simp; omega
  generalize ((w1.setCell ⟨w.heap.size, 0, none⟩ (.int .i64 D)).setCell ⟨w.heap.size, 1, none⟩ (.slice A4 n4 c4)).setCell ⟨w.heap.size, 2, none⟩ (.slice A5 n5 c5) = w2 at *
  obtain ⟨L4, hL4, hV4⟩ := hs5.l
  have hn4 : n4 = n := by
    have h1 := hs4.len
    rw [foldC_len, hlen] at h1
    exact h1.symm
  subst hn4
  have hlL := hL4.in_.len
  obtain ⟨g, R, rfl⟩ : ∃ g R, L4 = g :: R := by
    cases L4 with
    | nil => simp at hlL; omega
    | cons g R => exact ⟨g, R, rfl⟩
  obtain ⟨gin, b, o, rfl, hb, hcc⟩ := hL4.in_.at_ (k := 0) (g := g) rfl
  have d0 := hcc 0 (by omega); have d1 := hcc 1 (by omega); have d2 := hcc 2 (by omega); have d3 := hcc 3 (by omega); have d4 := hcc 4 (by omega); have d5 := hcc 5 (by omega); have d6 := hcc 6 (by omega); have d7 := hcc 7 (by omega)
  obtain ⟨gA, gn, gc, gL, ⟨pk, pa, pb⟩, ⟨bk, ba, bb⟩, glost⟩ := g
  simp only [GrH.cells, Nat.zero_mul, Nat.add_zero] at d0 d1 d2 d3 d4 d5 d6 d7
  dsimp at d0 d1 d2 d3 d4 d5 d6 d7
  have hnoT : (if c4 = 1 then some (⟨b, o, none⟩ : Addr) else some ⟨b, o + 8, none⟩) = none → n4 - 1 = 0 := by split <;> exact fun e => by cases e
  have hrdT : Rd w2 w2.heap.size 8 (if c4 = 1 then some (⟨b, o, none⟩ : Addr) else some ⟨b, o + 8, none⟩) (n4 - 1) (grs R) := by
    by_cases h4 : c4 = 1
    · have hn1 : n4 = 1 := by omega
      have hR0 : R = [] := List.eq_nil_of_length_eq_zero (by simp at hlL; omega)
      rw [hR0, hn1]
      exact Rd.nil_ _ _ _ _
    · rw [if_neg h4]
      have hct := hL4.in_.1.cut (k := 1) (m := n4) (by omega) (Nat.le_refl _)
      have hgd := grs_drop (⟨gA, gn, gc, gL, ⟨pk, pa, pb⟩, ⟨bk, ba, bb⟩, glost⟩ :: R) 1
      rw [hlL] at hgd
      rw [hgd] at hct
      exact hct
  have HRDT := Lib.hid hrdT
  clear hrdT
  have HS5 := Lib.hid hs5
  have HG5 := Lib.hid hg5
  have HL4 := Lib.hid hL4
  have HV4 := Lib.hid hV4
  have x1 := z2.cell 1
  dsimp at x1
  have hlt2 := def_lt' z2
  have hpos : (0 : Int) < n4 := by omega
  have hn300 := hs4.nL
  have hb6 : Below w2.heap.size w2 (w2.alloc (.cells (grp (.slice gA gn gc) pk pa pb bk ba bb glost) 93)) := belowA
  have k6 := Bk.new w2 93 (grp (.slice gA gn gc) pk pa pb bk ba bb glost)
  clear hs5 hg5 hL4 hV4 hs4 hg0 f0 f1 f2 ff fl HFO hcc gin
  go_upto_region 3 with fail
  generalize hwE : w2.alloc (.cells #[.slice gA gn gc, .int .i64 pk, .int .i64 pa, .int .i64 pb, .int .i64 bk, .int .i64 ba, .int .i64 bb, .int .i64 glost] 93) = w3 at *
  clear hwE d0 d1 d2 d3 d4 d5 d6 d7 c0 c1' c2 x1
  have k2a := z2.ext hb6
  have k4a := z4.ext hb6
  have hz3 := hb6.size
  have hx3 := HG5.out.ext hb6
  have hL3 := HL4.out.ext hb6
  have hg3 := hL3.each _ (List.mem_cons_self)
  have hrd1 : Rd w3 w3.heap.size 10 A1 n1 (sts L1) := hx3.in_.sts.1
  have hno1 : A1 = none → n1 = 0 := hx3.in_.A
  have hrd2 : Rd w3 w3.heap.size 10 gA gn (sts gL) := hg3.1.sts.1
  have hno2 : gA = none → gn = 0 := hg3.1.A
  have hgl : gL.length = gn := hg3.1.sts.len
  have hgn : gn ≤ 1000 := hg3.2.1.1
  have hF : ∀ W, Bk W w2.heap.size 93 (grp (.slice gA gn gc) pk pa pb bk ba bb glost) → W.cell? ⟨w2.heap.size, 0, none⟩ = some (.slice gA gn gc) := fun W h => h.cell 0
  have HF := Lib.hid hF
  have HX3 := Lib.hid hx3
  have HL3 := Lib.hid hL3
  have HG3 := Lib.hid hg3
  clear hF hx3 hL3 hg3
  refine wp_normal ?_
  refine region_L (S := fun W => Bk W w2.heap.size 93 (grp (.slice gA gn gc) pk pa pb bk ba bb glost)) [7] (by kernel_rfl) k6.drew (fun hHeld => ?_)
  (refine tkD 1 ?_; refine tkD 3 ?_; refine tkD 4 ?_)
  refine nxL 0 (fun K hK => ?_)
  go_simp
  refine hK.out _ _ (k6.drew.alloc _) (fun hHeld => ?_)
  clear hK K; refine puL ?_
  have hlit := own_empty w3.drew w3.heap.size 45 10 (Nat.le_refl _)
  have k6A := k6.drew.alloc (.cells #[] 45)
  have hbA : Below w3.heap.size w3 (w3.drew.alloc (.cells #[] 45)) := belowA
  refine nxL 2 (fun K hK => ?_)
  refine app_rd_step Tryz.underlying23 info_step rfl (by decide) w3.heap.size _ 0 _ hlit w3.heap.size A1 n1 c1 (sts L1) (hrd1.below hbA) hno1 (sts_one L1) (by unfold maxLen; omega) (by omega) hbA.size rfl (.tmp 13) (.tmp 14) rfl rfl rfl ?_
  intro v6 w6 hown6 hgr6 hat6
  rw [Nat.zero_add, List.nil_append] at hown6
  have k66 := k6A.grown hgr6 (own_ne hlit k6A (by decide))
  refine hK.out _ _ k66 (fun hHeld => ?_)
  clear hK K; refine puL ?_
  have hb66 : Below w3.heap.size w3 w6 := hbA.trans (gr_below hgr6 hbA.size (fun k e => own_ge hlit k e))
  refine nxL 5 (fun K hK => ?_)
  refine app_rd_step Tryz.underlying23 info_step rfl (by decide) w3.heap.size _ n1 _ hown6 w3.heap.size gA gn gc (sts gL) (hrd2.below hb66) hno2 (sts_one gL) (by unfold maxLen; omega) (by omega) hb66.size rfl (.tmp 15) (.tmp 17) rfl rfl rfl ?_
  intro v7 w7 hown7 hgr7 hat7
  have k67 := k66.grown hgr7 (own_ne hown6 k66 (by decide))
  refine hK.out _ _ k67 (fun hHeld => ?_)
  clear hK K; refine puL ?_
  (refine tkD 6 ?_)
  have hb77 : Below w3.heap.size w3 w7 := hb66.trans (gr_below hgr7 hb66.size (fun k e => own_ge hown6 k e))
  obtain ⟨A7, c7, rfl, hc7, -, hA7, hr7⟩ := own_form hown7
  have f6 := k67.frozen; have l6 := def_lt' k67; have c0 := k67.cell 0
  dsimp [grp] at c0
  refine ltL 7 (fun K hK => ?_)
  go_simp
  refine hK.out _ _ ?_
  clear hK K; refine puL ?_
  refine anyL_done (by kernel_rfl) ?_
  have gs8 : w7.grownBy (w7.setCell ⟨w2.heap.size, 0, none⟩ (.slice A7 (n1 + gn) c7)) (some w2.heap.size) := gr_set (p := ⟨w2.heap.size, 0, none⟩) (World.grownBy.refl _ _) (.inl rfl) _
  have k68 : Bk (w7.setCell ⟨w2.heap.size, 0, none⟩ (.slice A7 (n1 + gn) c7)) w2.heap.size 93 (grp (.slice A7 (n1 + gn) c7) pk pa pb bk ba bb glost) := k67.set_ 0 _
  have k28 := (k2a.ext hb77).far (p := ⟨w2.heap.size, 0, none⟩) (by simp <;> omega) (.slice A7 (n1 + gn) c7)
  have k48 := (k4a.ext hb77).far (p := ⟨w2.heap.size, 0, none⟩) (by simp <;> omega) (.slice A7 (n1 + gn) c7)
  have hown8 : (w7.setCell ⟨w2.heap.size, 0, none⟩ (.slice A7 (n1 + gn) c7)).ownsRow w3.heap.size 45 10 (.slice A7 (n1 + gn) c7) (n1 + gn) (sts L1 ++ sts gL) := own_grow hown7 gs8 (fun x e => by injection e with e; subst e; exact own_ne hown7 k67 (by decide))
  have hb28 : Below w2.heap.size w2 (w7.setCell ⟨w2.heap.size, 0, none⟩ (.slice A7 (n1 + gn) c7)) := by
    have := hb6.trans (hb77.mono hz3)
    exact belowA
  generalize w7.setCell ⟨w2.heap.size, 0, none⟩ (.slice A7 (n1 + gn) c7) = w8 at *
  have hz8 := hb28.size
  have hF : ∀ W, (Bk W w2.heap.size 93 (grp (.slice A7 (n1 + gn) c7) pk pa pb bk ba bb glost) ∧ Bk W w.heap.size 88 #[.int .i64 D, .slice (some ⟨b, o, none⟩) n4 c4, .slice A5 n5 c5]) → W.cell? ⟨w2.heap.size, 0, none⟩ = some (.slice A7 (n1 + gn) c7) ∧ W.cell? ⟨w2.heap.size, 1, none⟩ = some (.int .i64 pk) ∧ W.cell? ⟨w2.heap.size, 2, none⟩ = some (.int .i64 pa) ∧ W.cell? ⟨w2.heap.size, 3, none⟩ = some (.int .i64 pb) ∧ W.cell? ⟨w2.heap.size, 4, none⟩ = some (.int .i64 bk) ∧ W.cell? ⟨w2.heap.size, 5, none⟩ = some (.int .i64 ba) ∧ W.cell? ⟨w2.heap.size, 6, none⟩ = some (.int .i64 bb) ∧ W.cell? ⟨w2.heap.size, 7, none⟩ = some (.int .i64 glost) ∧ W.cell? ⟨w.heap.size, 1, none⟩ = some (.slice (some ⟨b, o, none⟩) n4 c4) := fun W h => ⟨h.1.cell 0, h.1.cell 1, h.1.cell 2, h.1.cell 3, h.1.cell 4, h.1.cell 5, h.1.cell 6, h.1.cell 7, h.2.cell 1⟩
  clear HF
  have HF := Lib.hid hF
  have e1 : (1 : Int) ≤ n4 := by omega
  clear hF f6 l6 c0 hown7 hgr7 hat7 hown6 hgr6 hat6 hr7 hlit gs8 k67 k66 k6A hrd1 hrd2
  go_upto_region 4 with fail
  refine wp_normal ?_
  refine region_L (S := fun W => Bk W w2.heap.size 93 (grp (.slice A7 (n1 + gn) c7) pk pa pb bk ba bb glost) ∧ Bk W w.heap.size 88 #[.int .i64 D, .slice (some ⟨b, o, none⟩) n4 c4, .slice A5 n5 c5]) [7] (by kernel_rfl) ⟨k68.drew, k28.drew⟩ (fun hHeld => ?_)
  (refine tkD 0 ?_; refine tkD 2 ?_; refine tkD 3 ?_; refine tkD 4 ?_)
  generalize hAT : (if c4 = 1 then (some ⟨b, o, none⟩ : Option Addr) else some ⟨b, o + 8, none⟩) = AT at *
  clear hAT
  refine nxL 1 (fun K hK => ?_)
  go_simp
  refine hK.out _ _ ⟨k68.drew.alloc _, k28.drew.alloc _⟩ (fun hHeld => ?_)
  clear hK K; refine puL ?_
  have hlit : (w8.drew.alloc (.cells (grp (.slice A7 (n1 + gn) c7) pk pa pb bk ba bb glost) 93)).ownsRow w8.heap.size 93 8 (.slice (some ⟨w8.heap.size, 0, none⟩) 1 1) 1 (grp (.slice A7 (n1 + gn) c7) pk pa pb bk ba bb glost).toList := own_lit' _ 8 _ 1 rfl (Nat.le_refl _) (by unfold maxLen; omega) rfl
  have hbA : Below w8.heap.size w8 (w8.drew.alloc (.cells (grp (.slice A7 (n1 + gn) c7) pk pa pb bk ba bb glost) 93)) := belowA
  have k28A := k28.drew.alloc (.cells (grp (.slice A7 (n1 + gn) c7) pk pa pb bk ba bb glost) 93)
  have k68A := k68.drew.alloc (.cells (grp (.slice A7 (n1 + gn) c7) pk pa pb bk ba bb glost) 93)
  have k48A := k48.drew.alloc (.cells (grp (.slice A7 (n1 + gn) c7) pk pa pb bk ba bb glost) 93)
  have hl28 := def_lt' k28
  have hl48 := def_lt' k48
  have hl68 := def_lt' k68
  have hownA := own_below hown8 hbA
  refine nxL 5 (fun K hK => ?_)
  refine app_rd_step Tryz.underlying85 info_groupR rfl (by decide) w8.heap.size _ 1 _ hlit w2.heap.size _ (n4 - 1) (c4 - 1) (grs R) (HRDT.out.below (hb28.trans (hbA.mono hz8))) hnoT (grs_one R) (by unfold maxLen; omega) (by omega) hbA.size rfl (.tmp 21) (.tmp 24) rfl rfl rfl ?_
  intro v9 w9 hown9 hgr9 hat9
  rw [show 1 + (n4 - 1) = n4 by omega] at hown9
  have k29 := k28A.grown hgr9 (by simp [Value.ownBlock]; omega)
  have k69 := k68A.grown hgr9 (by simp [Value.ownBlock]; omega)
  have k49 := k48A.grown hgr9 (by simp [Value.ownBlock]; omega)
  have hownS9 := own_grow hownA hgr9 (own_type hownA hlit (by decide))
  refine hK.out _ _ ⟨k69, k29⟩ (fun hHeld => ?_)
  clear hK K; refine puL ?_
  (refine tkD 6 ?_)
  have hb99 : Below w8.heap.size w8 w9 := hbA.trans (gr_below hgr9 hbA.size (fun k e => own_ge hlit k e))
  obtain ⟨A9, c9, rfl, hc9, -, hA9, hr9⟩ := own_form hown9
  have f6 := k29.frozen; have l6 := def_lt' k29; have c1' := k29.cell 1
  dsimp at c1'
  refine ltL 7 (fun K hK => ?_)
  go_simp
  refine hK.out _ _ ?_
  clear hK K; refine puL ?_
  refine anyL_done (by kernel_rfl) ?_
  have gs10 : w9.grownBy (w9.setCell ⟨w.heap.size, 1, none⟩ (.slice A9 n4 c9)) (some w.heap.size) := gr_set (p := ⟨w.heap.size, 1, none⟩) (World.grownBy.refl _ _) (.inl rfl) _
  have hb29 : Below w2.heap.size w2 w9 := hb28.trans (hb99.mono hz8)
  have st10 : Stir Y2 w2 (w9.setCell ⟨w.heap.size, 1, none⟩ (.slice A9 n4 c9)) := (Stir.of_below hb29).trans (Stir.of_gr gs10 (fun i e => by injection e with e; subst e; exact HY2.out _ (Nat.le_refl _) (by omega)))
  have hown10 : (w9.setCell ⟨w.heap.size, 1, none⟩ (.slice A9 n4 c9)).ownsRow w8.heap.size 93 8 (.slice A9 n4 c9) n4 ((grp (.slice A7 (n1 + gn) c7) pk pa pb bk ba bb glost).toList ++ grs R) := own_grow hown9 gs10 (fun x e => by injection e with e; subst e; exact own_ne hown9 k29 (by decide))
  have hownS10 : (w9.setCell ⟨w.heap.size, 1, none⟩ (.slice A9 n4 c9)).ownsRow w3.heap.size 45 10 (.slice A7 (n1 + gn) c7) (n1 + gn) (sts L1 ++ sts gL) := own_grow hownS9 gs10 (fun x e => by injection e with e; subst e; exact own_ne hownS9 k29 (by decide))
  have u10 : Bk (w9.setCell ⟨w.heap.size, 1, none⟩ (.slice A9 n4 c9)) w.heap.size 88 #[.int .i64 D, .slice A9 n4 c9, .slice A5 n5 c5] := k29.set_ 1 _
  have t10 := k49.far (p := ⟨w.heap.size, 1, none⟩) (by simp <;> omega) (.slice A9 n4 c9)
  have hb10 : Below w.heap.size w (w9.setCell ⟨w.heap.size, 1, none⟩ (.slice A9 n4 c9)) := by
    have h9 := hb2.trans (hb29.mono (by omega))
    exact belowA
  generalize w9.setCell ⟨w.heap.size, 1, none⟩ (.slice A9 n4 c9) = w10 at *
  have hz10 := hb10.size
  have hgx := HG5.out.stir st10
  have hlx := HL4.out.stir st10
  have hea := hlx.each
  have hg1 := hea _ (List.mem_cons_self)
  obtain ⟨g2, hg2⟩ : ∃ g2 : GrH, g2 = ⟨A7, n1 + gn, c7, L1 ++ gL, ⟨pk, pa, pb⟩, ⟨bk, ba, bb⟩, glost⟩ := ⟨_, rfl⟩
  have hVV : foldC Ms V = (⟨gL.map StH.x, ⟨pk, pa, pb⟩, ⟨bk, ba, bb⟩, glost⟩ : GrC) :: R.map GrH.val := by rw [← HV4.out]; rfl
  have hgtot : gn + n1 ≤ 1000 := by
    have h5 := htotV
    rw [hVV, totC_cons] at h5
    simp only [List.length_map, hgl] at h5
    omega
  have hx2 : GrX w10 Y2 g2 := by
    subst hg2
    refine ⟨⟨⟨by rw [sts_append]; exact Rd.of_own hownS10, ?_⟩, by show n1 + gn ≤ 1000000; omega, own_none hownS10⟩, by show n1 + gn ≤ 1000; omega, ?_, av_own hownS10 (fun i hi => by have := HL2.out i hi; omega), (HS5.out.bd _ (by rw [hVV]; exact List.mem_cons_self)).2⟩
    · intro s hs
      rcases List.mem_append.1 hs with hs | hs
      · exact hgx.in_.sts.2 s hs
      · exact hg1.1.sts.2 s hs
    · intro s hs
      rcases List.mem_append.1 hs with hs | hs
      · exact hgx.sml s hs
      · exact hg1.2.1.2 s hs
  have hgrs : (grp (.slice A7 (n1 + gn) c7) pk pa pb bk ba bb glost).toList ++ grs R = grs (g2 :: R) := by
    rw [hg2]; rfl
  rw [hgrs] at hown10
  have hx10 : GrsX w10 Y2 A9 n4 (g2 :: R) := GrsX.cons hx2 (fun x hx => hea x (List.mem_cons_of_mem _ hx)) (Rd.of_own hown10) (own_none hown10) (av_own hown10 (fun i hi => by have := HL2.out i hi; omega))
  have hval2 : (g2 :: R).map GrH.val = (foldC Ms V).modify 0 (extC (L1.map StH.x)) := by
    rw [hVV, hg2]
    simp [GrH.val, extC]
  have h10 := HS5.out.stir st10
  have hs10 : RStk w10 Y2 A9 n4 A5 n5 ((foldC Ms V).modify 0 (extC (L1.map StH.x))) [] := by
    refine ⟨⟨g2 :: R, hx10, hval2⟩, h10.m, h10.nL, h10.nM, ?_, ?_, h10.ml⟩
    · rw [← hval2, List.map_cons, totC_cons]
      have h5 := htotV
      rw [hVV, totC_cons] at h5
      have h6 : g2.val.steps.length = n1 + gn := by
        have h7 := hgx.in_.sts.len
        simp only at h7
        rw [hg2]; simp [GrH.val]; omega
      simp only [List.length_map, hgl] at h5
      omega
    · rw [← hval2, List.map_cons]
      intro x hx
      rcases List.mem_cons.1 hx with rfl | hx
      · refine ⟨?_, hx2.lost⟩
        have h7 := hx2.in_.sts.len
        have h8 := hx2.n
        simp only [GrH.val, List.length_map]
        omega
      · exact h10.bd x (by rw [hVV]; exact List.mem_cons_of_mem _ hx)
  have htr := rtrim_any D hD hD2 A9 n4 c9 A5 n5 c5 _ [] w10 Y2 hc9 hs10
  have HTR := Lib.hid htr
  have hzz10 : w.heap.size + 2 ≤ w10.heap.size := by have := st10.size; omega
  have c0 := u10.cell 0; have c1x := u10.cell 1; have c2 := u10.cell 2
  dsimp at c0 c1x c2
  clear hx10 hs10 htr hown10 hownS10 hgrs hown9 hgr9 hr9 st10 gs10 hlit hgx hlx hea hg1 hx2 hval2 h10 hVV hownS9 hownA hown8
  go_wp2_with (go_at_call 137; (refine HTR.out.mono ?_); rintro e w11 ⟨c11, rfl, hc11, hs11, hb11⟩; have t11 := t10.ext hb11; have q0 := t11.cell 0; have q1 := t11.cell 1; have q2 := t11.cell 2; have f11 := t11.frozen; have l11 := def_lt' t11; dsimp at q0 q1 q2)
  have st12 : Stir Y2 w11 (((w11.setCell ⟨w.heap.size + 1, 0, none⟩ (.int .i64 D)).setCell ⟨w.heap.size + 1, 1, none⟩ (.slice A9 (n4 - (n4 - D)) c11)).setCell ⟨w.heap.size + 1, 2, none⟩ (.slice A5 n5 c5)) := Stir.of_gr (row := some (w.heap.size + 1)) (gr_set (p := ⟨w.heap.size + 1, 2, none⟩) (gr_set (p := ⟨w.heap.size + 1, 1, none⟩) (gr_set (p := ⟨w.heap.size + 1, 0, none⟩) (World.grownBy.refl _ _) (.inl rfl) _) (.inl rfl) _) (.inl rfl) _) (fun i e => by injection e with e; subst e; exact HY2.out _ (by omega) (by omega))
  have hs12 := (hs11.stir st12).wide (Y' := Y) (fun i hi => .inl (HY1.out i hi))
  have k12 : Bk (((w11.setCell ⟨w.heap.size + 1, 0, none⟩ (.int .i64 D)).setCell ⟨w.heap.size + 1, 1, none⟩ (.slice A9 (n4 - (n4 - D)) c11)).setCell ⟨w.heap.size + 1, 2, none⟩ (.slice A5 n5 c5)) (w.heap.size + 1) 88 #[.int .i64 D, .slice A9 (n4 - (n4 - D)) c11, .slice A5 n5 c5] := ((t11.set_ 0 _).set_ 1 _).set_ 2 _
  have hb11' := hb10.trans (hb11.mono hz10)
  have hz11 := hb11'.size
  have hbe : Below w.heap.size w (((w11.setCell ⟨w.heap.size + 1, 0, none⟩ (.int .i64 D)).setCell ⟨w.heap.size + 1, 1, none⟩ (.slice A9 (n4 - (n4 - D)) c11)).setCell ⟨w.heap.size + 1, 2, none⟩ (.slice A5 n5 c5)) := belowA
  clear q0 q1 q2
  generalize ((w11.setCell ⟨w.heap.size + 1, 0, none⟩ (.int .i64 D)).setCell ⟨w.heap.size + 1, 1, none⟩ (.slice A9 (n4 - (n4 - D)) c11)).setCell ⟨w.heap.size + 1, 2, none⟩ (.slice A5 n5 c5) = w12 at *
  have q0 := k12.cell 0; have q1 := k12.cell 1; have q2 := k12.cell 2
  dsimp at q0 q1 q2
  exact bodyPost_ret (v := .tuple #[.agg #[.int .i64 D, .slice A9 (n4 - (n4 - D)) c11, .slice A5 n5 c5], .int .i64 ((n4 - D : Nat) : Int)]) (by simp [results, Tryz.results85, go_sem, q0, q1, q2]) rfl ⟨A9, c11, A5, n5, c5, rfl, hc11, hs12, hbe⟩
end Go.Proofs.YtmacfoebfpljoaaGreat
namespace Go.Proofs.YtmacfoebfpljoaaGreat
open Go.RowKit
end Go.Proofs.YtmacfoebfpljoaaGreat
namespace Go.Proofs.YtmacfoebfpljoaaGreat
open Go.RowKit
set_option linter.unusedVariables false
theorem eq_pn (a b c x y z : Int) (w : World) : (Op.equalIn 10000 91 (.agg #[.int .i64 a, .int .i64 b, .int .i64 c]) (.agg #[.int .i64 x, .int .i64 y, .int .i64 z])).run Tryz.prog w = .ok (decide (a = x ∧ b = y ∧ c = z)) w := by
  have u1 := Tryz.underlying3
  have a1 := Tryz.isAgg3
  have z1 := Tryz.sizeOf3
  have hS : Tryz.prog.underlying 91 = some (.struct (Tryz.prog.fieldsOf 91)) := by kernel_rfl
  have hp : Tryz.prog.stoodInHeld 91 = false := by kernel_rfl
  rw [show (10000 : Nat) = 9999 + 1 from rfl, run_equalIn_agg w 9999 91 _ _ hS hp]
  simp only [Program.fieldsOf, Tryz.underlying91]
  go_simp
  clear u1 z1 hS hp
  repeat' split
  all_goals simp_all
@[go_sem] theorem eq_pn_at (a b c : Int) (w : World) : (Op.equalIn 10000 91 (.agg #[.int .i64 a, .int .i64 b, .int .i64 c]) (.agg #[.int .i64 a, .int .i64 b, .int .i64 c])).run Tryz.prog w = .ok true w := by
  rw [eq_pn]; simp
@[go_sem] theorem guard_pn : Tryz.prog.eqGuardType Tryz.prog.depth 91 = false := by kernel_rfl
theorem map_at {α β : Type} {f : α → β} {L L' : List α} {k : Nat} {x x' : α} (he : L.map f = L'.map f) (hx : L[k]? = some x) (hx' : L'[k]? = some x') : f x = f x' := by
  have h := congrArg (·[k]?) he
  simp only [List.getElem?_map, hx, hx', Option.map_some] at h
  exact Option.some.inj h
end Go.Proofs.YtmacfoebfpljoaaGreat
