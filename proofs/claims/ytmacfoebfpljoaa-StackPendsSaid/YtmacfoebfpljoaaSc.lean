/- stack: slices.Backward over groups -/
import Derived.Test.YtmacfoebfpljoaaClv
import Derived.Test.YtmacfoebfpljoaaRx
import Derived.Maps.OwnIn
namespace Go.Proofs.Ytmacfoebfpljoaa
open Go.RowKit
attribute [local go_sem] Oper.semAt_some

/-- what a slice of groups leans on: its box, and its row -/
def NeedsG (Bs n : Nat) (A : Option Addr) (k : Nat) : Prop := k = Bs ∨ 0 < n ∧ ∃ a, A = some a ∧ a.block = k
def gback (L : List GrH) (k : Nat) : Nat × GrH := (L.length - 1 - k, L.getD (L.length - 1 - k) default)
def gbacks (L : List GrH) (k : Nat) : List (Nat × GrH) := (List.range k).map (gback L)
theorem gbacks_succ (L : List GrH) (k : Nat) : gbacks L (k + 1) = gbacks L k ++ [gback L k] := by simp [gbacks, List.range_succ]
theorem gbacks_take (L : List GrH) {k n : Nat} (h : k ≤ n) : gbacks L k <+: gbacks L n := by
  obtain ⟨d, rfl⟩ : ∃ d, n = k + d := ⟨n - k, by omega⟩
  refine ⟨((List.range d).map (fun i => k + i)).map (gback L), ?_⟩
  rw [gbacks, gbacks, ← List.map_append, List.range_add]
theorem gbacks_snd (L : List GrH) : (gbacks L L.length).map Prod.snd = L.reverse := by
  apply List.ext_getElem
  · simp [gbacks]
  · intro i h1 h2
    simp only [gbacks, List.map_map, List.length_map, List.length_range, List.getElem_map, List.getElem_range, Function.comp, gback, List.getElem_reverse] at h1 h2 ⊢
    rw [List.getD_eq_getElem?_getD, List.getElem?_eq_getElem (by omega)]
    rfl
abbrev encG (g : GrH) : Value := .agg #[.slice g.A g.n g.c, .int .i64 g.pin.k, .int .i64 g.pin.a, .int .i64 g.pin.b, .int .i64 g.back.k, .int .i64 g.back.a, .int .i64 g.back.b, .int .i64 g.lost]
abbrev encP (x : Nat × GrH) : Array Value := #[.int .i64 (x.1 : Int), encG x.2]

set_option maxHeartbeats 400000 in
theorem gbackward_any (A : Option Addr) (n c : Nat) (w : World) :
    Calls Try.prog 58 #[.slice A n c] w fun e w' => e = .returned (.func (.func 59) #[] #[.pointer (some ⟨w.heap.size, 0, none⟩)]) ∧ w.alloc (.cells #[.slice A n c] 31) = w' := by
  go_enter Try.func58, Try.ntmps58
  go_wp2
  go_ret
  exact ⟨rfl, rfl⟩

set_option maxRecDepth 100000 in
set_option maxHeartbeats 4000000 in
theorem gbackward_gives (Bs n : Nat) (A : Option Addr) (c : Nat) (L : List GrH) (w : World) (hn : n ≤ maxLen) (hk : Bk w Bs 31 #[.slice A n c]) (hrd : Rd w w.heap.size 8 A n (grs L)) :
    GivesX Try.prog 59 #[.pointer (some ⟨Bs, 0, none⟩)] encP (NeedsG Bs n A) (gbacks L n) w := by
  intro l J Jx W X0 hl hN hNX hJc hJ hJx hY h0
  have hln : L.length = n := by have := hrd.1; rw [grs_len] at this; omega
  unfold maxLen at hn
  have HJx := Lib.hid hJx
  clear hJx
  have hBs : ∀ W' : World, (∀ k, NeedsG Bs n A k → k < W'.heap.size ∧ W'.heap[k]? = w.heap[k]?) → W'.cell? ⟨Bs, 0, none⟩ = some (.slice A n c) := by
    intro W' h
    have h1 : Bk W' Bs 31 #[.slice A n c] := (h Bs (.inl rfl)).2.trans hk
    exact h1.cell 0
  have HB := Lib.hid hBs
  clear hBs
  refine callsIn_of_wp Try.func59 rfl trivial ?_ rfl
  simp only [Try.ntmps59, List.size_toArray, List.length_cons, List.length_nil, Nat.reduceAdd, Nat.reduceSub, Array.replicate_succ, Array.replicate_zero, List.push_toArray, List.append_toArray, List.nil_append, List.cons_append]
  have e0 : IntKind.i64.wrap ((n : Int) - 1) = (n : Int) - 1 := IntWalk.i64_in _ (by omega)
  have c0 := HB.out W hN
  gi_wp2
  gi_loopw [3] (fun i wr => ∃ k : Nat, k ≤ n ∧ i = .int .i64 ((n : Int) - 1 - k) ∧ ∃ X, J (gbacks L k) X wr ∧ (∀ k, NeedsG Bs n A k → ¬ X k) ∧ (∀ k, NeedsG Bs n A k → k < wr.heap.size ∧ wr.heap[k]? = w.heap[k]?)) (fun i _ => (intOf i + 1).toNat)
  case atStart => exact ⟨0, by omega, by simp, X0, h0, hNX, hN⟩
  case round =>
    obtain ⟨k, hk', rfl, X, hJs, hNX', hN'⟩ := hrel
    have hBr := HB.out wr hN'
    by_cases hkn : k < n
    · obtain ⟨ι, hι⟩ : ∃ ι : Nat, ι = n - 1 - k := ⟨_, rfl⟩
      have hιe : (n : Int) - 1 - k = (ι : Int) := by omega
      obtain ⟨g, hg⟩ : ∃ g, L[ι]? = some g := ⟨_, List.getElem?_eq_getElem (by omega)⟩
      obtain ⟨b, o, rfl, hbB, hcc⟩ := hrd.el GrH.cells (fun _ => rfl) hln hg
      have hx : gback L k = (ι, g) := by
        unfold gback
        rw [hln, ← hι, List.getD_eq_getElem?_getD, hg]
        rfl
      have hcell : ∀ j, j < 8 → wr.cell? ⟨b, o + ι * 8 + j, none⟩ = g.cells[j]? := fun j hj => (World.cell?_of_block (a := ⟨b, o + ι * 8 + j, none⟩) (hN' b (.inr ⟨by omega, ⟨b, o, none⟩, rfl, rfl⟩)).2).trans (hcc j hj)
      have hY' := hY _ (gback L k) X wr wr hJs (by rw [← gbacks_succ]; exact gbacks_take L (by omega)) (Below.refl _ _)
      obtain ⟨fn, tmps, assign, body, hy, hR⟩ := hY'
      rw [hx] at hy hR
      dsimp only [encP] at hy
      rw [← hx, ← gbacks_succ] at hR
      have HRR := Lib.hid hR
      obtain ⟨gA, gn, gc, gL, ⟨pk, pa, pb⟩, ⟨bk, ba, bb⟩, glost⟩ := g
      have c0 := hcell 0 (by omega); have c1 := hcell 1 (by omega); have c2 := hcell 2 (by omega); have c3 := hcell 3 (by omega); have c4 := hcell 4 (by omega); have c5 := hcell 5 (by omega); have c6 := hcell 6 (by omega); have c7 := hcell 7 (by omega)
      dsimp [GrH.cells] at c0 c1 c2 c3 c4 c5 c6 c7
      try dsimp only at hy
      rw [hιe]
      have e1 : (ι : Int) < n := by omega
      have e4 : IntKind.i64.wrap ((ι : Int) - 1) = (ι : Int) - 1 := IntWalk.i64_in _ (by omega)
      have HI := Lib.hid hιe
      have HNX := Lib.hid hNX'
      have HN := Lib.hid hN'
      clear hι hιe hx hg hcell hcc hR hNX' hN'
      gi_wp2
      refine HRR.out.mono ?_
      rintro e W3 ⟨X', hXX, (⟨rfl, hJ3, hk3⟩ | ⟨rfl, hJx3, _⟩)⟩
      · gi_wp2
        go_roundw
        case rel =>
          refine ⟨k + 1, by omega, by (have := HI.out; go_num), X', hJ3, fun j hj hX => ?_, fun j hj => ?_⟩
          · rcases hXX j hX with h | h
            · exact HNX.out j hj h
            · have := (HN.out j hj).1; omega
          · have h1 := HN.out j hj
            exact ⟨Nat.lt_of_lt_of_le h1.1 hk3.1, (hk3.2 j h1.1 (HNX.out j hj)).trans h1.2⟩
        case measure => have := HI.out; simp [intOf]
      · gi_wp2
        refine bodyPost_ret (results_none rfl _ _ _) rfl ?_
        exact ⟨⟨_, rfl⟩, X', .inr ⟨_, gbacks_take L (by omega), hJx3⟩⟩
    · obtain rfl : n = k := by omega
      gi_wp2
      go_end0
      exact ⟨⟨_, rfl⟩, X, .inl hJs⟩
end Go.Proofs.Ytmacfoebfpljoaa

/- stack: newest, an iterator that ranges over another one -/
namespace Go.Proofs.Ytmacfoebfpljoaa
open Go.RowKit
attribute [local go_sem] Oper.semAt_some

theorem Rd.move {w w' : World} {B B' size n : Nat} {A : Option Addr} {xs : List Value} (h : Rd w B size A n xs) (hk : 0 < n → ∀ a, A = some a → a.block < B' ∧ w'.heap[a.block]? = w.heap[a.block]?) : Rd w' B' size A n xs := by
  refine ⟨h.1, fun hn => ?_⟩
  obtain ⟨b, o, e, hb, hc⟩ := h.2 hn
  exact ⟨b, o, e, (hk hn ⟨b, o, none⟩ e).1, fun j u hu => (World.cell?_of_block (a := ⟨b, o + j, none⟩) (hk hn ⟨b, o, none⟩ e).2).trans (hc j u hu)⟩
theorem snd_prefix {L : List GrH} {pre : List (Nat × GrH)} (h : pre <+: gbacks L L.length) : pre.map Prod.snd <+: L.reverse := by
  obtain ⟨t, ht⟩ := h
  refine ⟨t.map Prod.snd, ?_⟩
  rw [← List.map_append, ht, gbacks_snd]

set_option maxRecDepth 100000 in
set_option maxHeartbeats 4000000 in
theorem newest_gives (Bs n : Nat) (A : Option Addr) (c : Nat) (L : List GrH) (w : World) (hn : n ≤ maxLen) (hk : Bk w Bs 31 #[.slice A n c]) (hrd : Rd w w.heap.size 8 A n (grs L)) :
    GivesX Try.prog 57 #[.pointer (some ⟨Bs, 0, none⟩)] (fun g => #[encG g]) (NeedsG Bs n A) L.reverse w := by
  intro l J Jx W X0 hl hN hNX hJc hJ hJx hY h0
  have hln : L.length = n := by have := hrd.1; rw [grs_len] at this; omega
  have hBs : Bk W Bs 31 #[.slice A n c] := (hN Bs (.inl rfl)).2.trans hk
  have c0 := hBs.cell 0
  dsimp at c0
  have hlB := def_lt' hBs
  have kb : Bk ((W.alloc (.cells #[.func (.yield l) #[] #[]] 121)).alloc (.cells #[.slice A n c] 31)) (W.heap.size + 1) 31 #[.slice A n c] := Bk.made _ _ (by simp)
  have ky : Bk ((W.alloc (.cells #[.func (.yield l) #[] #[]] 121)).alloc (.cells #[.slice A n c] 31)) W.heap.size 121 #[.func (.yield l) #[] #[]] := (Bk.new W 121 _).alloc _
  have hb2 : Below W.heap.size W ((W.alloc (.cells #[.func (.yield l) #[] #[]] 121)).alloc (.cells #[.slice A n c] 31)) := by repeat (first | with_reducible exact Below.refl _ _ | with_reducible assumption | (with_reducible refine below_drewN ?_ _) | (with_reducible refine Below.drew ?_) | (with_reducible refine Below.alloc ?_ ?_ _; rotate_left; focus (first | with_reducible assumption | omega | (simp; done) | (simp; omega))) | (with_reducible refine Below.setCell ?_ ?_ _; rotate_left; focus (first | with_reducible assumption | omega | (simp; done) | (simp; omega))))
  have hz2 : ((W.alloc (.cells #[.func (.yield l) #[] #[]] 121)).alloc (.cells #[.slice A n c] 31)).heap.size = W.heap.size + 2 := by simp
  refine callsIn_wide.2 (callsIn_wide.1 (callsIn_of_wp_marks (n := 10) Try.func57 rfl trivial ?_ rfl))
  simp only [Try.ntmps57, List.size_toArray, List.length_cons, List.length_nil, Nat.reduceAdd, Nat.reduceSub, Array.replicate_succ, Array.replicate_zero, List.push_toArray, List.append_toArray, List.nil_append, List.cons_append]
  gi_wp2_with (refine ⟨trivial, ?_⟩; gi_at_call 58; refine (callsIn_wide.2 (gbackward_any _ _ _ _)).mono ?_; rintro e w2 ⟨rfl, rfl⟩)
  generalize (W.alloc (.cells #[.func (.yield l) #[] #[]] 121)).alloc (.cells #[.slice A n c] 31) = w2 at *
  have hX0 : ∀ k, X0 k → k < W.heap.size := fun k h => by obtain ⟨o, h1, _⟩ := hJc _ _ _ h0 k h; exact def_lt' h1
  have hrd2 : Rd w2 w2.heap.size 8 A n (grs L) := hrd.move fun hp a e => by
    have h1 := hN a.block (.inr ⟨hp, a, e, rfl⟩)
    exact ⟨Nat.lt_of_lt_of_le h1.1 hb2.size, (hb2.block _ h1.1).trans h1.2⟩
  have hgv := gbackward_gives (W.heap.size + 1) n A c L w2 hn kb hrd2
  have HY := Lib.hid hY
  clear hY
  subst hln
  refine range_mine_x (gf := 59) (lb := #[.pointer (some ⟨W.heap.size + 1, 0, none⟩)]) rfl (enters_of Try.func59 (by kernel_rfl) rfl) hgv (fun k hk => ⟨?_, rfl⟩) (fun _ => rfl)
    (fun pre X W' => J (pre.map Prod.snd) X W' ∧ Bk W' W.heap.size 121 #[.func (.yield l) #[] #[]] ∧ ¬ X W.heap.size) (fun cd pre X W' => cd = .ret ∧ Jx (pre.map Prod.snd) X W') X0 (fun k hk => ?_) ?hI ?hIx ?hIc ?h0 ?hround ?hdone ?hstop
  · rcases hk with rfl | ⟨hp, a, e, rfl⟩
    · exact def_lt' kb
    · exact Nat.lt_of_lt_of_le (hN a.block (.inr ⟨hp, a, e, rfl⟩)).1 hb2.size
  · rcases hk with rfl | ⟨hp, a, e, rfl⟩
    · intro h; have := hX0 _ h; omega
    · exact hNX a.block (.inr ⟨hp, a, e, rfl⟩)
  case hI =>
    rintro X s A B row ⟨h1, h2, h3⟩ hg hr
    exact ⟨hJ X _ A B row h1 hg (fun r e => ⟨by have := (hr r e).1; have := hb2.size; omega, (hr r e).2⟩), blk_kept h2 hg hr, h3⟩
  case hIx =>
    rintro cd X s A B row ⟨h1, h2⟩ hg hr
    exact ⟨h1, hJx X _ A B row h2 hg (fun r e => ⟨by have := (hr r e).1; have := hb2.size; omega, (hr r e).2⟩)⟩
  case hIc =>
    rintro s X A ⟨h1, _, _⟩
    exact hJc _ _ _ h1
  case h0 =>
    refine ⟨ownFrom_ext (hJ X0) h0 hb2, ky, fun h => ?_⟩
    have := hX0 _ h
    omega
  case hround =>
    rintro lp pre ⟨i, g⟩ W1 KK hkk
    have HKK := Lib.hid hkk
    clear hkk
    gi_wp2
    refine HKK.out _ _ ((Below.refl _ _).alloc (Nat.le_refl _) _) ?_
    clear HKK
    rintro X W0 W2 ⟨hJ0, hy0, hX⟩ hext hbk hz hpre hM
    have kg := hbk _ _ _ (Bk.new W1 36 #[.slice g.A g.n g.c, .int .i64 g.pin.k, .int .i64 g.pin.a, .int .i64 g.pin.b, .int .i64 g.back.k, .int .i64 g.back.a, .int .i64 g.back.b, .int .i64 g.lost])
    have ky2 := hy0.ext hext
    have hpre2 : pre.map Prod.snd ++ [g] <+: L.reverse := by simpa using snd_prefix hpre
    obtain ⟨fn, tmps, assign, body, hy, hR⟩ := HY.out (pre.map Prod.snd) g X W0 W2 hJ0 hpre2 hext
    have HRR := Lib.hid hR
    have y0 := ky2.cell 0
    have g0 := kg.cell 0; have g1 := kg.cell 1; have g2 := kg.cell 2; have g3 := kg.cell 3; have g4 := kg.cell 4; have g5 := kg.cell 5; have g6 := kg.cell 6; have g7 := kg.cell 7
    dsimp at y0 g0 g1 g2 g3 g4 g5 g6 g7
    clear hR hbk
    gi_wp2
    refine RoundIn.mono (R := fun e W' => ∃ X', (∀ k, X' k → X k ∨ W2.heap.size ≤ k) ∧ ((e = .returned (.bool true) ∧ J (pre.map Prod.snd ++ [g]) X' W' ∧ KeptX X W2 W') ∨ (e = .returned (.bool false) ∧ Jx (pre.map Prod.snd ++ [g]) X' W' ∧ KeptB W.heap.size X W2 W'))) ⟨HRR.out.1, fun c cs _ => HRR.out.2 c cs (by simp [Fence.room, Fence.wide])⟩ ?_
    rintro e W3 ⟨X', hXX, (⟨rfl, hJ3, hk3⟩ | ⟨rfl, hJx3, hk3⟩)⟩
    · gi_wp2
      have hyl := def_lt' ky2
      refine ⟨X', hXX, hk3, by simpa using hJ3, (hk3.2 _ hyl hX).trans ky2, fun h => ?_⟩
      rcases hXX _ h with h | h
      · exact hX h
      · omega
    · gi_wp2
      exact ⟨X', hXX, ⟨hk3.1, fun k h1 => hk3.2 k (Nat.le_trans hb2.size h1)⟩, rfl, by simpa using hJx3⟩
  case hdone =>
    rintro D X Wd hD ⟨h1, _, _⟩ hK
    gi_wp2
    refine ⟨by simp, .inl ⟨_, _, rfl, run_takeDeferred hK, _, results_none rfl _ _ _, ⟨_, rfl⟩, X, .inl ?_⟩⟩
    rw [gbacks_snd] at h1
    exact (hJ X).putObj _ h1 (Nat.le_trans hb2.size hD) hK rfl
  case hstop =>
    rintro D cd pre X Wd hD hpre ⟨rfl, h1⟩ hK
    gi_wp2
    refine ⟨by simp, .inl ⟨_, _, rfl, run_takeDeferred hK, _, results_none rfl _ _ _, ⟨_, rfl⟩, X, .inr ⟨_, snd_prefix hpre, ?_⟩⟩⟩
    exact (hJx X).putObj _ h1 (Nat.le_trans hb2.size hD) hK rfl
end Go.Proofs.Ytmacfoebfpljoaa

/- stack: turned: groups the other way round -/
namespace Go.Proofs.Ytmacfoebfpljoaa
open Go.RowKit
attribute [local go_sem] Oper.semAt_some

theorem app_oneIn {F : Fence} {nF : Nat} {P : Program} {ops : Array Oper} {rest : List Oper} {o : Oper} {a : Act} {Q : Exit → Act → World → Prop} {t e : TypeId} {z : Value} {size bytes : Nat}
    (ht : P.underlying t = some (.slice e)) (hinfo : (P.info? e).map (fun i => (i.zero, i.size, i.bytes)) = some (some z, size, bytes)) (hzs : z.cells.size = size) (hsz : 0 < size)
    (w : World) (base : Nat) (v : Value) (n : Nat) (xs : List Value) (hown : w.ownsRow base e size v n xs) (hn : n + 1 ≤ maxLen) (hby : (n + 1) * bytes ≤ 140737488355328) (hb : base ≤ w.heap.size)
    (news : Array Value) (hl : news.size = size) (h1 : ∀ u ∈ news.toList, u.oneCell' = true)
    (hgd : o.guard = none) (s x : Operand) (ho : o.op = .call { callee := .builtin .append, args := #[s, x], argTypes := #[t, t] })
    (hs : a.eval s = v) (hx : a.eval x = .slice (some ⟨w.heap.size, 0, none⟩) 1 1)
    (h : ∀ A cap w', w'.ownsRow base e size (.slice A (n + 1) cap) (n + 1) (xs ++ news.toList) → w.grownBy w' v.ownBlock → ((Value.slice A (n + 1) cap).ownBlock = v.ownBlock ∨ (Value.slice A (n + 1) cap).ownBlock = some (w.heap.size + 1)) →
      wpListIn F nF P ops Q rest (a.put o.dst (.slice A (n + 1) cap)) w') :
    wpListIn F nF P ops Q (o :: rest) a (w.alloc (.cells news e)) := by
  obtain ⟨i0, hi, hz0, hz1, hz2⟩ := info_parts hinfo
  refine wpListIn_append_own_at _ hgd s x t ho base e i0 z size bytes ht hi hz0 hz1 hz2 hzs hsz v n xs hs (World.ownsRow.alloc (w := w) hown _) ⟨w.heap.size, 0, none⟩ 1 1 news.toList hx (by simp [hl]) ?_ h1 hn hby (by simp; omega) ?_
  · intro j u hu
    have hb := heap_alloc_new w (.cells news e)
    rw [show (({ block := w.heap.size, off := 0 } : Addr).add j) = ⟨w.heap.size, j, none⟩ from by unfold Addr.add; split <;> simp_all]
    rw [cell_of_row _ _ _ _ _ _ hb]
    simpa using hu
  · intro v' w' h1 h2 _ h4
    obtain ⟨A, cap, rfl, _⟩ := own_form h1
    refine h A cap w' h1 ((gr_alloc (World.grownBy.refl w _) _).trans h2) ?_
    rcases h4 with h4 | h4
    · exact .inl h4
    · exact .inr (by simpa using h4)

set_option maxRecDepth 100000 in
set_option maxHeartbeats 4000000 in
theorem appendseq_any (Bs : Nat) (N : Nat → Prop) (xs : List GrH) (w0 W : World) (hg : GivesX Try.prog 57 #[.pointer (some ⟨Bs, 0, none⟩)] (fun g => #[encG g]) N xs w0) (hN : ∀ k, N k → k < W.heap.size ∧ W.heap[k]? = w0.heap[k]?) (hx : xs.length ≤ 1000000) :
    Calls Try.prog 56 #[.slice none 0 0, .func (.func 57) #[] #[.pointer (some ⟨Bs, 0, none⟩)]] W fun e W' => ∃ v, e = .returned v ∧ W'.ownsRow W.heap.size 36 8 v xs.length (grs xs) ∧ Below W.heap.size W W' := by
  have kb : Bk (W.alloc (.cells #[.slice none 0 0] 31)) W.heap.size 31 #[.slice none 0 0] := Bk.new W _ _
  have hb2 : Below W.heap.size W (W.alloc (.cells #[.slice none 0 0] 31)) := by repeat (first | with_reducible exact Below.refl _ _ | with_reducible assumption | (with_reducible refine below_drewN ?_ _) | (with_reducible refine Below.drew ?_) | (with_reducible refine Below.alloc ?_ ?_ _; rotate_left; focus (first | with_reducible assumption | omega | (simp; done) | (simp; omega))) | (with_reducible refine Below.setCell ?_ ?_ _; rotate_left; focus (first | with_reducible assumption | omega | (simp; done) | (simp; omega))))
  have hz2 : (W.alloc (.cells #[.slice none 0 0] 31)).heap.size = W.heap.size + 1 := by simp
  refine callsIn_wide.1 (callsIn_of_wp_marks (n := 10) Try.func56 rfl trivial ?_ rfl)
  simp only [Try.ntmps56, List.size_toArray, List.length_cons, List.length_nil, Nat.reduceAdd, Nat.reduceSub, Array.replicate_succ, Array.replicate_zero, List.push_toArray, List.append_toArray, List.nil_append, List.cons_append]
  gi_wp2
  generalize W.alloc (.cells #[.slice none 0 0] 31) = w2 at *
  refine range_mine_x (gf := 57) (lb := #[.pointer (some ⟨Bs, 0, none⟩)]) rfl (enters_of Try.func57 (by kernel_rfl) rfl) hg (fun k hk => ⟨?_, ?_⟩) (fun _ => rfl)
    (fun pre X W' => ∃ v, Bk W' W.heap.size 31 #[v] ∧ W'.ownsRow W.heap.size 36 8 v pre.length (grs pre) ∧ Below W.heap.size W W' ∧ ∀ k, X k ↔ (k = W.heap.size ∨ v.ownBlock = some k)) (fun _ _ _ _ => False) (fun k => k = W.heap.size) (fun k hk => ?_) ?hI ?hIx ?hIc ?h0 ?hround ?hdone ?hstop
  · have := (hN k hk).1; omega
  · exact (hb2.block k (hN k hk).1).trans (hN k hk).2
  · have := (hN k hk).1; omega
  case hI =>
    rintro X s A B row ⟨v, h1, h2, h3, h4⟩ hg hr
    exact ⟨v, blk_kept h1 hg hr, own_kept h2 hg hr, below_kept h3 (Nat.le_refl _) (by omega) hg hr, h4⟩
  case hIx => exact fun _ _ _ _ _ _ h _ _ => h
  case hIc =>
    rintro s X A ⟨v, h1, h2, h3, h4⟩ k hk
    rcases (h4 k).1 hk with rfl | h
    · exact ⟨_, h1, rfl⟩
    · obtain ⟨cs, hc⟩ := own_bk h2 h
      exact ⟨_, hc, rfl⟩
  case h0 => exact ⟨_, kb, World.ownsRow_nil _ _ _ _, hb2, fun k => by simp [Value.ownBlock]⟩
  case hround =>
    rintro lp pre g W1 KK hkk
    have HKK := Lib.hid hkk
    clear hkk
    gi_wp2
    refine HKK.out _ _ ((Below.refl _ _).alloc (Nat.le_refl _) _) ?_
    clear HKK
    rintro X W0 W2 ⟨v, h1, h2, h3, h4⟩ hext hbk hz hpre hM
    have hlen := hpre.length_le
    simp only [List.length_append, List.length_cons, List.length_nil] at hlen
    have kg := hbk _ _ _ (Bk.new W1 36 #[.slice g.A g.n g.c, .int .i64 g.pin.k, .int .i64 g.pin.a, .int .i64 g.pin.b, .int .i64 g.back.k, .int .i64 g.back.a, .int .i64 g.back.b, .int .i64 g.lost])
    have k2 := h1.ext hext
    have hown2 := own_below h2 hext
    have hb22 := h3.trans (hext.mono h3.size)
    have hz22 := hb22.size
    have y0 := k2.cell 0; have y1 := k2.frozen; have y2 := def_lt' k2
    have g0 := kg.cell 0; have g1 := kg.cell 1; have g2 := kg.cell 2; have g3 := kg.cell 3; have g4 := kg.cell 4; have g5 := kg.cell 5; have g6 := kg.cell 6; have g7 := kg.cell 7
    dsimp at y0 g0 g1 g2 g3 g4 g5 g6 g7
    clear hbk
    gi_wp2_with (gi_at_builtin; ((refine app_oneIn Try.underlying31 info_group rfl (by decide) W2 W.heap.size v pre.length _ hown2 (by unfold maxLen; omega) (by omega) hz22 _ rfl (by simp [Value.oneCell']) rfl _ _ rfl rfl rfl ?_); intro A4 cap4 w4 hown4 hgr4 hat4; have k4 := k2.grown hgr4 (own_ne hown2 k2 (by decide)); have x0 := k4.cell 0; have x1 := k4.frozen; have x2 := def_lt' k4; dsimp at x0))
    have hb4 := below_own hb22 hown2 hgr4 hz22 (Nat.le_refl _)
    have hnv : v.ownBlock ≠ some W.heap.size := own_ne hown2 k2 (by decide)
    refine ⟨fun k => k = W.heap.size ∨ (Value.slice A4 (pre.length + 1) cap4).ownBlock = some k, fun k hk => ?_, ⟨by simpa using hgr4.size, fun k hk1 hk2 => ?_⟩, _, k4.set_ 0 _, ?_, hb4.setCell (Nat.le_refl _) _, fun k => Iff.rfl⟩
    · rcases hk with rfl | hk
      · exact .inl ((h4 _).2 (.inl rfl))
      · rcases hat4 with e | e
        · exact .inl ((h4 _).2 (.inr (by rw [← e]; exact hk)))
        · rw [e] at hk
          injection hk with hk
          exact .inr (by omega)
    · have hk3 : k ≠ W.heap.size := fun e => hk2 ((h4 _).2 (.inl e))
      have hk4 : v.ownBlock ≠ some k := fun e => hk2 ((h4 _).2 (.inr e))
      rw [far_heap (p := ⟨W.heap.size, 0, none⟩) hk3]
      exact hgr4.block k hk1 (fun e => hk4 e.symm)
    · rw [grs_append, List.length_append]
      exact ownsRow_setCell_other (a := ⟨W.heap.size, 0, none⟩) hown4 (own_ne (b := W.heap.size) (t := 31) hown4 k4 (by decide)) _
  case hdone =>
    rintro D X Wd hD ⟨v, h1, h2, h3, h4⟩ hK
    have x0 := h1.cell 0; dsimp at x0
    gi_wp2
    refine ⟨by simp, .inl ⟨_, _, rfl, run_takeDeferred hK, v, ?_, v, rfl, own_put h2 hK rfl _, h3.trans (below_putObj (by omega))⟩⟩
    simp [results, Try.results56, go_sem]
  case hstop =>
    rintro D cd pre X Wd hD hpre h hK
    exact h.elim

set_option maxRecDepth 100000 in
set_option maxHeartbeats 4000000 in
theorem turned_any (A : Option Addr) (n c : Nat) (L : List GrH) (w : World) (h : Rd w w.heap.size 8 A n (grs L)) (hn : n ≤ 1000000) :
    Calls Try.prog 43 #[.slice A n c] w fun e w' => ∃ v, e = .returned v ∧ w'.ownsRow w.heap.size 36 8 v n (grs L.reverse) ∧ Below w.heap.size w w' := by
  have hln : L.length = n := by have := h.1; rw [grs_len] at this; omega
  have hk : Bk (w.alloc (.cells #[.slice A n c] 31)) w.heap.size 31 #[.slice A n c] := Bk.new w _ _
  have hrd : Rd (w.alloc (.cells #[.slice A n c] 31)) (w.alloc (.cells #[.slice A n c] 31)).heap.size 8 A n (grs L) := (h.alloc (Nat.le_refl _) _).more (by simp)
  have hgv := newest_gives w.heap.size n A c L _ (by unfold maxLen; omega) hk hrd
  have has := appendseq_any w.heap.size _ L.reverse _ _ hgv (fun k hk' => ⟨?_, rfl⟩) (by simpa [hln] using hn)
  · have hb : Below w.heap.size w (w.alloc (.cells #[.slice A n c] 31)) := by repeat (first | with_reducible exact Below.refl _ _ | with_reducible assumption | (with_reducible refine below_drewN ?_ _) | (with_reducible refine Below.drew ?_) | (with_reducible refine Below.alloc ?_ ?_ _; rotate_left; focus (first | with_reducible assumption | omega | (simp; done) | (simp; omega))) | (with_reducible refine Below.setCell ?_ ?_ _; rotate_left; focus (first | with_reducible assumption | omega | (simp; done) | (simp; omega))))
    have HAS := Lib.hid has
    have HLN := Lib.hid hln
    clear has hgv hk hrd h hln
    have hnew : Calls Try.prog 53 #[.slice A n c] w fun e w' => e = .returned (.func (.func 57) #[] #[.pointer (some ⟨w.heap.size, 0, none⟩)]) ∧ w.alloc (.cells #[.slice A n c] 31) = w' := by
      go_enter Try.func53, Try.ntmps53
      go_wp2
      go_ret
      exact ⟨rfl, rfl⟩
    have HNEW := Lib.hid hnew
    clear hnew
    have hcol : Calls Try.prog 52 #[.func (.func 57) #[] #[.pointer (some ⟨w.heap.size, 0, none⟩)]] (w.alloc (.cells #[.slice A n c] 31)) fun e w' => ∃ v, e = .returned v ∧ w'.ownsRow w.heap.size 36 8 v n (grs L.reverse) ∧ Below w.heap.size w w' := by
      go_enter Try.func52, Try.ntmps52
      go_wp2_with (go_at_call 56; (refine HAS.out.mono ?_); rintro e w1 ⟨v, rfl, ho1, hb1⟩)
      go_ret
      refine ⟨v, rfl, ?_, hb.trans (hb1.mono hb.size)⟩
      rw [List.length_reverse, HLN.out] at ho1
      exact own_base ho1 hb.size
    have HCOL := Lib.hid hcol
    clear hcol
    go_enter Try.func43, Try.ntmps43
    go_wp2_with (first
      | (go_at_call 53; (refine HNEW.out.mono ?_); rintro e w1 ⟨rfl, rfl⟩)
      | (go_at_call 52; (refine HCOL.out.mono ?_); rintro e w2 ⟨v, rfl, ho2, hb2⟩))
    go_ret
    exact ⟨v, rfl, ho2, hb2⟩
  · rcases hk' with rfl | ⟨h0, a, e, rfl⟩
    · exact def_lt' hk
    · obtain ⟨b, o, e', hb, _⟩ := hrd.2 h0
      rw [e] at e'
      injection e' with e'
      subst e'
      exact hb
end Go.Proofs.Ytmacfoebfpljoaa
