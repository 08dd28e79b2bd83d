/- chain: ChainCut's walk -/
import Derived.Test.YtmacfoebfpljoaaClv
import Derived.Test.YtmacfoebfpljoaaCfw
import Derived.Test.YtmacfoebfpljoaaCsa
import Derived.Test.YtmacfoebfpljoaaCcp
namespace Go.Proofs.Ytmacfoebfpljoaa
open Go.RowKit

section
variable {P : Program}
/-- append of a slice that reads as a list onto an owned row: at a step of a region that draws -/
theorem app_rd_step {ops : Array Oper} {o : Oper} {a : Act} {K : Act → World → Prop} {Q : Exit → Act → World → Prop} {E : Prop} {t e : TypeId} {z : Value} {size bytes : Nat}
    (ht : P.underlying t = some (.slice e)) (hinfo : (P.info? e).map (fun i => (i.zero, i.size, i.bytes)) = some (some z, size, bytes)) (hzs : z.cells.size = size) (hsz : 0 < size)
    {w : World} (base : Nat) (v : Value) (n : Nat) (xs : List Value) (hown : w.ownsRow base e size v n xs)
    (B : Nat) (A : Option Addr) (m c : Nat) (news : List Value) (hr : Rd w B size A m news) (hA : A = none → m = 0) (h1 : ∀ u ∈ news, u.oneCell' = true)
    (hn : n + m ≤ maxLen) (hby : (n + m) * bytes ≤ 140737488355328) (hb : base ≤ w.heap.size)
    (hgd : o.guard = none) (s x : Operand) (ho : o.op = .call { callee := .builtin .append, args := #[s, x], argTypes := #[t, t] })
    (hs : a.eval s = v) (hx : a.eval x = .slice A m c)
    (h : ∀ v' w', w'.ownsRow base e size v' (n + m) (xs ++ news) → w.grownBy w' v.ownBlock → (v'.ownBlock = v.ownBlock ∨ v'.ownBlock = some w.heap.size) → K (a.put o.dst v') w') :
    if Region.wanted o (yielded ops a.tmps) = true then Oper.wp P o a w K Q else E := by
  have hw : Region.wanted o (yielded ops a.tmps) = true := by simp [Region.wanted, hgd]
  rw [if_pos hw]
  obtain ⟨i0, hi, hz0, hz1, hz2⟩ := info_parts hinfo
  rcases A with _ | ad
  · obtain rfl := hA rfl
    have hnews : news = [] := List.eq_nil_of_length_eq_zero (by simpa using hr.1)
    subst hnews
    unfold Oper.wp execOp
    simp only [ho, resolve, invoke, builtin, Sem.run_bind, Sem.run_pure, Result.andThen_ok, List.map_toArray, List.map_cons, List.map_nil, hs, hx, run_append_of_nil w base t o.type e i0 size ht hi v n xs hown c]
    exact h v w (by simpa using hown) (World.grownBy.refl w _) (.inl rfl)
  · have hnews : ∀ j u, news[j]? = some u → w.cell? (ad.add j) = some u := by
      intro j u hu
      rcases Nat.eq_zero_or_pos m with h0 | h0
      · subst h0
        have hnews : news = [] := List.eq_nil_of_length_eq_zero (by simpa using hr.1)
        subst hnews
        simp at hu
      · obtain ⟨b, o', e', _, hc⟩ := hr.2 h0
        injection e' with e'
        subst e'
        rw [add_flat]
        exact hc j u hu
    obtain ⟨v', w', hrun, h2, h3, _, h5⟩ := run_append_own_at (P := P) w base t o.type e i0 z size bytes ht hi hz0 hz1 hz2 hzs hsz v n xs hown ad m c news hr.1 hnews h1 hn hby hb
    unfold Oper.wp execOp
    simp only [ho, resolve, invoke, builtin, Sem.run_bind, Sem.run_pure, Result.andThen_ok, List.map_toArray, List.map_cons, List.map_nil, hs, hx, hrun]
    exact h v' w' h2 h3 h5
end

/-- the four steps: an empty row (s), all elements onto it (t), one element laid by itself (u), it onto the row (v) -/

theorem sts_all {L : List GrH} {q : Nat} {g : GrH} (hx : L[q]? = some g) : (L.take (q + 1)).flatMap GrH.L = (L.take q).flatMap GrH.L ++ g.L := by
  rw [List.take_add_one, hx]
  simp
theorem val_steps (L : List GrH) : (L.map GrH.val).flatMap GrC.steps = (L.flatMap GrH.L).map StH.x := by
  induction L with
  | nil => rfl
  | cons g L ih => simp only [List.map_cons, List.flatMap_cons, List.map_append, ih]; rfl
theorem lost_all {m : List Rg} {L L5 : List GrH} (hV : L5.map GrH.val = overC m (L.map GrH.val)) : lostN (L.map GrH.val) (L5.map GrH.val) L.length = ((L.flatMap GrH.L).length : Int) - (L5.flatMap GrH.L).length := by
  have hl := congrArg List.length hV
  rw [List.length_map, overC_len, List.length_map] at hl
  unfold lostN
  rw [List.take_of_length_le (by simp), List.take_of_length_le (by simp; omega), val_steps, val_steps, List.length_map, List.length_map]
theorem sts_le (L : List GrH) (q : Nat) : ((L.take q).flatMap GrH.L).length ≤ (L.flatMap GrH.L).length := by
  conv => rhs; rw [← List.take_append_drop q L]
  rw [List.flatMap_append, List.length_append]
  omega
theorem sts_tot {L : List GrH} (h : ∀ g ∈ L, g.L.length = g.n) : (L.flatMap GrH.L).length = tot L := by
  induction L with
  | nil => rfl
  | cons g L ih =>
    have h1 := h g (by simp)
    have h2 := ih (fun x hx => h x (by simp [hx]))
    simp only [tot, List.map_cons, List.flatMap_cons, List.length_append, List.sum_cons] at *
    omega

set_option maxRecDepth 100000 in
set_option maxHeartbeats 8000000 in
theorem cut_any (A : Option Addr) (n c : Nat) (L : List GrH) (Am : Option Addr) (nm cm : Nat) (m : List Rg) (w : World) (h : GrsRaw w w.heap.size A n L) (hn : n ≤ maxLen) (hm : Rd w w.heap.size 3 Am nm (rgs m)) (hnm : nm ≤ maxLen) :
    Calls Try.prog 3 #[.slice A n c, .slice Am nm cm] w fun e w' => e = .returned (.bool true) ∧ Below w.heap.size w w' := by
  have hlv := fun W (hb : Below w.heap.size w W) => calls_on hb (live35_any W)
  have HLV := Lib.hid hlv
  have hfw := few35_any A n c L w h hn
  have HFW := Lib.hid hfw
  have H := Lib.hid h
  have HLEN := Lib.hid h.len
  unfold maxLen at hnm
  clear h hlv hfw hn
  go_enter Try.func3, Try.ntmps3
  go_wp2_with (go_at_call 6; fail)
  refine HFW.out.mono ?_
  rintro e w1 ⟨b1, rfl, hyes, hb1⟩
  by_cases hb : b1 = true ∧ nm ≤ 20
  · obtain ⟨rfl, hnm20⟩ := hb
    obtain ⟨y1, y2, y3⟩ := hyes rfl
    have HT := Lib.hid y2
    have HSM := Lib.hid y3
    have hgi := H.out.in_ y3
    have HGI := Lib.hid hgi
    have e20 : ¬ (20 : Int) < nm := by omega
    have HM := Lib.hid (show MapAt w w.heap.size Am nm m from ⟨hm, by omega⟩)
    clear hyes HFW y2 y3 hgi hm
    have k5 : Bk (w1.alloc (.cells #[.slice none 0 0, .int .i64 0, .int .i64 0, .int .i64 0, .int .i64 0, .int .i64 0, .int .i64 0, .int .i64 0] 30)) w1.heap.size 30 (grp (.slice none 0 0) 0 0 0 0 0 0 0) := Bk.new w1 _ _
    have hb5 : Below w.heap.size w (w1.alloc (.cells #[.slice none 0 0, .int .i64 0, .int .i64 0, .int .i64 0, .int .i64 0, .int .i64 0, .int .i64 0, .int .i64 0] 30)) := by have := hb1.size; repeat (first | with_reducible exact Below.refl _ _ | with_reducible assumption | (with_reducible refine below_drewN ?_ _) | (with_reducible refine Below.drew ?_) | (with_reducible refine Below.alloc ?_ ?_ _; rotate_left; focus (first | with_reducible assumption | omega | (simp; done) | (simp; omega))) | (with_reducible refine Below.setCell ?_ ?_ _; rotate_left; focus (first | with_reducible assumption | omega | (simp; done) | (simp; omega))))
    have hz1 := hb1.size
    go_wp2
    generalize w1.alloc (.cells #[.slice none 0 0, .int .i64 0, .int .i64 0, .int .i64 0, .int .i64 0, .int .i64 0, .int .i64 0, .int .i64 0] 30) = w5 at *
    go_loopw [6] (fun j wr => ∃ (q M : Nat) (v : Value), q ≤ n ∧ j = .int .i64 q ∧ Hid (M = ((L.take q).flatMap GrH.L).length) ∧ Below w.heap.size w wr ∧ Bk wr w1.heap.size 30 (grp v 0 0 0 0 0 0 0) ∧ wr.ownsRow w.heap.size 41 10 v M (sts ((L.take q).flatMap GrH.L))) (fun j _ => n - (intOf j).toNat)
    case atStart => exact ⟨0, 0, _, by omega, rfl, Lib.hid (by simp), hb5, k5, World.ownsRow_nil _ _ _ _⟩
    case round =>
      obtain ⟨q, N, v, hq, rfl, hMq, hbr, kr, hown⟩ := hrel
      by_cases hqn : q < n
      · obtain ⟨g, hx⟩ : ∃ g, L[q]? = some g := ⟨_, List.getElem?_eq_getElem (by have := HLEN.out; omega)⟩
        obtain ⟨gin, b, o, rfl, hb, hcc⟩ := HGI.out.at_ hx
        have hsm := HSM.out g (List.mem_of_getElem? hx)
        have hgn := hsm.1
        have hall := sts_all hx
        have HALL := Lib.hid hall
        have hle : N ≤ 24 := by
          rw [hMq.out]
          have h1 := sts_le L q
          rw [sts_tot (fun g hg => (HGI.out.2 g hg).sts.len)] at h1
          have := HT.out
          omega
        have hF : ∀ W, Bk W w1.heap.size 30 (grp v 0 0 0 0 0 0 0) ∧ Below w.heap.size w W → W.cell? ⟨b, o + q * 8, none⟩ = some (.slice g.A g.n g.c) ∧ W.cell? ⟨w1.heap.size, 0, none⟩ = some v := fun W h => ⟨(h.2.cell (by simpa using hb)).trans (hcc 0 (by omega)), h.1.cell 0⟩
        have HF := Lib.hid hF
        have GIN := Lib.hid gin
        have e3 : (q : Int) < n := by omega
        have HX := Lib.hid hx
        clear hx hcc gin hF hall
        go_upto_region 7 with fail
        refine wp_normal ?_
        refine region_L (S := fun W => Bk W w1.heap.size 30 (grp v 0 0 0 0 0 0 0) ∧ Below w.heap.size w W) [9] (by kernel_rfl) ⟨kr.drew, hbr.drew⟩ (fun hHeld => ?_)
        (refine takeL_if (i := 0) (oi := _) (v := ?_) (by simp only [List.getElem?_toArray, List.getElem?_cons_zero]; rfl) (by kernel_rfl) (by kernel_rfl) (by kernel_rfl) (fun _ _ _ h => h) (by rfl) ?_ (by assumption) ?_; rotate_left; (focus ((intro w hSw; (try have hSw := HF.out _ hSw); (try dsimp only at hSw); go_simp); try exact rfl)); simp only [Act.put, List.setIfInBounds_toArray, List.set_cons_zero, List.set_cons_succ]; refine takeL_if (i := 1) (oi := _) (v := ?_) (by simp only [List.getElem?_toArray, List.getElem?_cons_succ, List.getElem?_cons_zero]; rfl) (by kernel_rfl) (by kernel_rfl) (by kernel_rfl) (fun _ _ _ h => h) (by rfl) ?_ (by assumption) ?_; rotate_left; (focus ((intro w hSw; (try have hSw := HF.out _ hSw); (try dsimp only at hSw); go_simp); try exact rfl)); simp only [Act.put, List.setIfInBounds_toArray, List.set_cons_zero, List.set_cons_succ]; refine takeL_if (i := 2) (oi := _) (v := ?_) (by simp only [List.getElem?_toArray, List.getElem?_cons_succ, List.getElem?_cons_zero]; rfl) (by kernel_rfl) (by kernel_rfl) (by kernel_rfl) (fun _ _ _ h => h) (by rfl) ?_ (by assumption) ?_; rotate_left; (focus ((intro w hSw; (try have hSw := HF.out _ hSw); (try dsimp only at hSw); go_simp); try exact rfl)); simp only [Act.put, List.setIfInBounds_toArray, List.set_cons_zero, List.set_cons_succ]; refine takeL_if (i := 3) (oi := _) (v := ?_) (by simp only [List.getElem?_toArray, List.getElem?_cons_succ, List.getElem?_cons_zero]; rfl) (by kernel_rfl) (by kernel_rfl) (by kernel_rfl) (fun _ _ _ h => h) (by rfl) ?_ (by assumption) ?_; rotate_left; (focus ((intro w hSw; (try have hSw := HF.out _ hSw); (try dsimp only at hSw); go_simp); try exact rfl)); simp only [Act.put, List.setIfInBounds_toArray, List.set_cons_zero, List.set_cons_succ]; refine takeL_if (i := 4) (oi := _) (v := ?_) (by simp only [List.getElem?_toArray, List.getElem?_cons_succ, List.getElem?_cons_zero]; rfl) (by kernel_rfl) (by kernel_rfl) (by kernel_rfl) (fun _ _ _ h => h) (by rfl) ?_ (by assumption) ?_; rotate_left; (focus ((intro w hSw; (try have hSw := HF.out _ hSw); (try dsimp only at hSw); go_simp); try exact rfl)); simp only [Act.put, List.setIfInBounds_toArray, List.set_cons_zero, List.set_cons_succ]; refine takeL_if (i := 5) (oi := _) (v := ?_) (by simp only [List.getElem?_toArray, List.getElem?_cons_succ, List.getElem?_cons_zero]; rfl) (by kernel_rfl) (by kernel_rfl) (by kernel_rfl) (fun _ _ _ h => h) (by rfl) ?_ (by assumption) ?_; rotate_left; (focus ((intro w hSw; (try have hSw := HF.out _ hSw); (try dsimp only at hSw); go_simp); try exact rfl)); simp only [Act.put, List.setIfInBounds_toArray, List.set_cons_zero, List.set_cons_succ]; refine takeL_if (i := 6) (oi := _) (v := ?_) (by simp only [List.getElem?_toArray, List.getElem?_cons_succ, List.getElem?_cons_zero]; rfl) (by kernel_rfl) (by kernel_rfl) (by kernel_rfl) (fun _ _ _ h => h) (by rfl) ?_ (by assumption) ?_; rotate_left; (focus ((intro w hSw; (try have hSw := HF.out _ hSw); (try dsimp only at hSw); go_simp); try exact rfl)); simp only [Act.put, List.setIfInBounds_toArray, List.set_cons_zero, List.set_cons_succ])
        refine anyL_ready (rs := [7]) (by kernel_rfl) (by simp) ?_; refine (ReadyL.cons (o := _) (by simp only [List.getElem?_toArray, List.getElem?_cons_succ, List.getElem?_cons_zero]; rfl) (fun K hK => ?_) ReadyL.nil)
        have hownd : wr.drew.ownsRow w.heap.size 41 10 v N (sts ((L.take q).flatMap GrH.L)) := hown
        have hglen : g.L.length = g.n := GIN.out.sts.len
        refine app_rd_step Try.underlying26 info_step rfl (by decide) w.heap.size v N _ hownd w.heap.size g.A g.n g.c (sts g.L) (GIN.out.sts.1.below hbr.drew) GIN.out.A (sts_one _) (by unfold maxLen; omega) (by omega) hbr.drew.size rfl (.tmp 29) (.tmp 34) rfl rfl rfl ?_
        intro v4 w4 hown4 hgr4 hat4
        obtain ⟨A4, c4, rfl, -, -, -, -⟩ := own_form hown4
        have kB := kr.drew.grown hgr4 (own_ne hownd kr.drew (by decide))
        have hb4 := below_own hbr.drew hownd hgr4 hbr.drew.size (Nat.le_refl _)
        refine hK.out _ _ ⟨kB, hb4⟩ (fun hHeld => ?_)
        clear hK K; (try simp only [Act.put, List.setIfInBounds_toArray, List.set_cons_zero, List.set_cons_succ])
        (refine takeL_if (i := 8) (oi := _) (v := ?_) (by simp only [List.getElem?_toArray, List.getElem?_cons_succ, List.getElem?_cons_zero]; rfl) (by kernel_rfl) (by kernel_rfl) (by kernel_rfl) (fun _ _ _ h => h) (by rfl) ?_ (by assumption) ?_; rotate_left; (focus ((intro w hSw; (try have hSw := HF.out _ hSw); (try dsimp only at hSw); go_simp); try exact rfl)); simp only [Act.put, List.setIfInBounds_toArray, List.set_cons_zero, List.set_cons_succ])
        have fB := kB.frozen; have lB := def_lt' kB; have cB := kB.cell 0
        dsimp [grp] at cB
        refine anyL_late (i := 9) (o := _) (by kernel_rfl) (by kernel_rfl) (by simp only [List.getElem?_toArray, List.getElem?_cons_succ, List.getElem?_cons_zero]; rfl) (fun K hK => ?_)
        go_simp
        refine hK.out _ _ ?_
        clear hK K; (try simp only [Act.put, List.setIfInBounds_toArray, List.set_cons_zero, List.set_cons_succ])
        refine anyL_done (by kernel_rfl) ?_
        go_wp2
        go_roundw
        case rel =>
          refine ⟨q + 1, N + g.n, _, by omega, by go_num, Lib.hid (by rw [HALL.out, List.length_append, hglen, hMq.out]), hb4.setCell (by simpa using hz1) _, kB.set_ 0 _, ?_⟩
          rw [HALL.out, sts_append]
          exact ownsRow_setCell_other (a := ⟨w1.heap.size, 0, none⟩) hown4 (own_ne (b := w1.heap.size) (t := 30) hown4 kB (by decide)) _
        case measure => simp [intOf]; omega
      · obtain rfl : n = q := by omega
        rw [List.take_of_length_le (by rw [HLEN.out]; omega)] at hown hMq
        have hz := hbr.size
        have hth := fun W (hb : Below w.heap.size w W) => theirs_any A n c L W (H.out.ext hb) (by omega)
        have HTH := Lib.hid hth
        clear hth k5 hb5
        rename World => w2
        go_wp2_with (go_at_call 9; (refine (HTH.out _ hbr).mono ?_); rintro e w3 ⟨v3, rfl, ho3, hb3⟩)
        obtain ⟨A3, c3, rfl, hin3⟩ := grs_in H.out HSM.out (own_base ho3 hz) (hbr.trans (hb3.mono hz)) (Nat.le_trans hz hb3.size)
        have hbw3 : Below w.heap.size w w3 := hbr.trans (hb3.mono hz)
        refine (over_any A3 n c3 L Am nm cm m w3 hin3 (by omega) (small_le HSM.out) (raw_lost H.out) ⟨(HM.out.rd.below hbw3).more hbw3.size, by omega⟩).mono ?_
        intro e w4 ho4
        obtain ⟨A5, n5, c5, L5, rfl, hl5, -, hin5, -, hV5, hb5⟩ := grs_out ho4
        have hlen5 := congrArg List.length hV5
        rw [List.length_map, overC_len, List.length_map, HLEN.out, hl5] at hlen5
        subst hlen5
        have hbw4 : Below w.heap.size w w4 := hbw3.trans (hb5.mono hbw3.size)
        have hb24 : Below w2.heap.size w2 w4 := hb3.trans (hb5.mono hb3.size)
        have k4 := kr.ext hb24
        have hown4 := own_below hown hb24
        have hNt : (L.flatMap GrH.L).length = tot L := sts_tot (fun g hg => (HGI.out.2 g hg).sts.len)
        have HNT := Lib.hid hMq.out.symm
        have hN24 : N ≤ 24 := by have := HT.out; have := hMq.out; omega
        clear hNt hMq
        obtain ⟨A6, c6', rfl, f1, f2, f3, f4⟩ := own_form hown4
        have HV5 := Lib.hid hV5
        have HIN5 := Lib.hid hin5
        have HL5 := Lib.hid hl5
        clear ho4 ho3 hin3 hb3 hb5 hV5 hin5 hl5 kr hown hb24
        have z0 := k4.cell 0; have z1 := k4.cell 1; have z2 := k4.cell 2; have z3 := k4.cell 3; have z4 := k4.cell 4; have z5 := k4.cell 5; have z6 := k4.cell 6; have z7 := k4.cell 7
        dsimp [grp] at z0 z1 z2 z3 z4 z5 z6 z7
        go_wp2_with (go_at_call 9; fail)
        have k6 := Bk.new w4 30 #[.slice A6 N c6', .int .i64 0, .int .i64 0, .int .i64 0, .int .i64 0, .int .i64 0, .int .i64 0, .int .i64 0]
        have hb6 : Below w4.heap.size w4 (w4.alloc (.cells #[.slice A6 N c6', .int .i64 0, .int .i64 0, .int .i64 0, .int .i64 0, .int .i64 0, .int .i64 0, .int .i64 0] 30)) := by repeat (first | with_reducible exact Below.refl _ _ | with_reducible assumption | (with_reducible refine below_drewN ?_ _) | (with_reducible refine Below.drew ?_) | (with_reducible refine Below.alloc ?_ ?_ _; rotate_left; focus (first | with_reducible assumption | omega | (simp; done) | (simp; omega))) | (with_reducible refine Below.setCell ?_ ?_ _; rotate_left; focus (first | with_reducible assumption | omega | (simp; done) | (simp; omega))))
        generalize w4.alloc (.cells #[.slice A6 N c6', .int .i64 0, .int .i64 0, .int .i64 0, .int .i64 0, .int .i64 0, .int .i64 0, .int .i64 0] 30) = w6 at *
        have hz4 := hbw4.size
        have hbw6 : Below w.heap.size w w6 := hbw4.trans (hb6.mono hz4)
        have hone : GrsRaw w6 w6.heap.size (some ⟨w4.heap.size, 0, none⟩) 1 [⟨A6, N, c6', L.flatMap GrH.L, ⟨0, 0, 0⟩, ⟨0, 0, 0⟩, 0⟩] := by
          refine ⟨Rd.of_bk k6 rfl rfl (def_lt' k6), ?_⟩
          intro g hg
          simp only [List.mem_singleton] at hg
          subst hg
          refine ⟨⟨(f4.below hb6).more hb6.size, ?_⟩, by unfold maxLen; show N ≤ _; omega, fun h => (f3 h).1, by show -9223372036854775808 ≤ (0 : Int) ∧ (0 : Int) ≤ 9223372036854775807; omega⟩
          intro s hs
          obtain ⟨g, hg, hs⟩ := List.mem_flatMap.1 hs
          have := ((H.out.2 g hg).sts.2 s hs).below hbw6
          exact this.more hbw6.size
        have hon1 : ∀ g ∈ ([⟨A6, N, c6', L.flatMap GrH.L, ⟨0, 0, 0⟩, ⟨0, 0, 0⟩, 0⟩] : List GrH), g.n ≤ 1000 := by
          intro g hg
          simp only [List.mem_singleton] at hg
          subst hg
          show N ≤ 1000
          omega
        have hsts : ∀ s ∈ L.flatMap GrH.L, s.n ≤ 1000000 ∧ s.n' ≤ 1000000 := by
          intro s hs
          obtain ⟨g, hg, hs⟩ := List.mem_flatMap.1 hs
          have := (HSM.out g hg).2 s hs
          omega
        have HONE := Lib.hid hone
        have HON1 := Lib.hid hon1
        have HSTS := Lib.hid hsts
        refine (theirs_any (some ⟨w4.heap.size, 0, none⟩) 1 1 _ w6 hone (by omega)).mono ?_
        rintro e w7 ⟨v7, rfl, ho7, hb7⟩
        have hbw7 : Below w.heap.size w w7 := hbw6.trans (hb7.mono hbw6.size)
        obtain ⟨A7, c7', rfl, -, -, -, g4⟩ := own_form ho7
        have hin7 : GrsIn w7 w7.heap.size A7 1 [⟨A6, N, c6', L.flatMap GrH.L, ⟨0, 0, 0⟩, ⟨0, 0, 0⟩, 0⟩] := by
          refine ⟨g4, ?_⟩
          intro g hg
          have hr := HONE.out.2 g hg
          simp only [List.mem_singleton] at hg
          subst hg
          exact ⟨⟨(hr.sts.1.below hb7).more hb7.size, fun s hs => (((hr.sts.2 s hs).in_ (HSTS.out s hs).1 (HSTS.out s hs).2).below hb7).more hb7.size⟩, by show N ≤ 1000000; omega, hr.A⟩
        clear hone hon1 hsts ho7 g4 f1 f2 f3 f4 k6 k4 z0 z1 z2 z3 z4 z5 z6 z7
        go_wp2_with (go_at_call 8; fail)
        refine (over_any A7 1 c7' _ Am nm cm m w7 hin7 (by omega) HON1.out (fun g hg => (HONE.out.2 g hg).lost) ⟨(HM.out.rd.below hbw7).more hbw7.size, by omega⟩).mono ?_
        intro e w8 ho8
        obtain ⟨A8, n8, c8, L8, rfl, hl8, -, hin8, -, hV8, hb8⟩ := grs_out ho8
        obtain ⟨b, q1, q2, q3, q4⟩ := cut_one (m := m) (L := L.map GrH.val) (one := ⟨(L.flatMap GrH.L).map StH.x, ⟨0, 0, 0⟩, ⟨0, 0, 0⟩, 0⟩) (val_steps L).symm rfl
        rw [← HV5.out, val_steps] at q2
        have hV8' : L8.map GrH.val = [b] := hV8.trans q1
        obtain ⟨g8, rfl, hg8⟩ := map_one hV8'
        obtain rfl : n8 = 1 := hl8.symm
        subst hg8
        have hst8 : g8.L.map StH.x = (L5.flatMap GrH.L).map StH.x := q2
        obtain ⟨gin8, b8, o8, rfl, hb8b, hcc8⟩ := hin8.at_ (k := 0) (g := g8) rfl
        obtain ⟨T, hT⟩ : ∃ T, T = L5.flatMap GrH.L := ⟨_, rfl⟩
        rw [← hT] at hst8
        have hK : g8.L.length = T.length := by simpa using congrArg List.length hst8
        have hK2 : g8.n = T.length := by rw [← gin8.sts.len]; exact hK
        have hone_len : ((L.flatMap GrH.L).map StH.x).length = N := by rw [List.length_map]; exact HNT.out
        have hKN : T.length ≤ N := by
          have h1 : (g8.L.map StH.x).length ≤ ((L.flatMap GrH.L).map StH.x).length := q4
          rw [hone_len, List.length_map] at h1
          omega
        have hlost8 : g8.lost = (N : Int) - T.length := by
          have h1 : g8.lost = IntKind.i64.wrap ((((L.flatMap GrH.L).map StH.x).length : Int) - (g8.L.map StH.x).length) := q3
          rw [hone_len, List.length_map, hK, IntWalk.i64_in _ (by omega)] at h1
          exact h1
        have hloss := lost_all HV5.out
        rw [HLEN.out, ← hT, HNT.out] at hloss
        have hlb := fun i => lostN_bd m (L.map GrH.val) (by
          intro g hg
          obtain ⟨g', hg', rfl⟩ := List.mem_map.1 hg
          exact raw_lost H.out g' hg') i
        rw [val_steps, hone_len, ← HV5.out] at hlb
        have HLOSS := Lib.hid hloss
        have HLB := Lib.hid hlb
        have HST8 := Lib.hid hst8
        have GIN8 := Lib.hid gin8
        have HTT := Lib.hid hT
        obtain ⟨K, hKd⟩ : ∃ K, K = T.length := ⟨_, rfl⟩
        rw [← hKd] at hK hK2 hKN hlost8
        have HKD := Lib.hid hKd
        have hbw8 : Below w.heap.size w w8 := hbw7.trans (hb8.mono hbw7.size)
        have hb48 : Below w4.heap.size w4 w8 := (hb6.trans (hb7.mono hb6.size)).trans (hb8.mono (Nat.le_trans hb6.size hb7.size))
        have hC8 : ∀ W, Below w8.heap.size w8 W → W.cell? ⟨b8, o8, none⟩ = some (.slice g8.A K g8.c) ∧ W.cell? ⟨b8, o8 + 7, none⟩ = some (.int .i64 ((N : Int) - K)) := by
          intro W hb
          refine ⟨?_, ?_⟩
          · rw [← hK2]; simpa [GrH.cells] using (hb.cell (p := ⟨b8, o8 + 0 * 8 + 0, none⟩) (by simpa using hb8b)).trans (hcc8 0 (by omega))
          · rw [← hlost8]; simpa [GrH.cells] using (hb.cell (p := ⟨b8, o8 + 0 * 8 + 7, none⟩) (by simpa using hb8b)).trans (hcc8 7 (by omega))
        have HC8 := Lib.hid hC8
        clear ho8 hin7 hV8 hV8' q1 q2 q3 q4 hl8 hin8 gin8 hcc8 hst8 hT hone_len hloss hlb hC8 hK hK2 hlost8 hb8 hb7 hb6 hbw7 hbw6 hKd hb8b
        go_wp2
        go_loopw [9, 10, 11] (fun v s j wr => ∃ (q M : Nat) (z : Int), q ≤ n5 ∧ j = .int .i64 q ∧ s = .int .i64 z ∧ Hid (z = lostN (L.map GrH.val) (L5.map GrH.val) q) ∧ Hid (M = ((L5.take q).flatMap GrH.L).length) ∧ Below w8.heap.size w8 wr ∧ wr.ownsRow w8.heap.size 41 10 v M (sts ((L5.take q).flatMap GrH.L))) (fun _ _ j _ => n5 - (intOf j).toNat)
        case atStart => exact ⟨0, 0, 0, by omega, rfl, rfl, Lib.hid (lostN_zero _ _).symm, Lib.hid (by simp), Below.refl _ _, World.ownsRow_nil _ _ _ _⟩
        case round =>
          rename World => w9
          obtain ⟨q, M, z, hq, rfl, rfl, hz, hM, hb9, hown⟩ := hrel
          have hzb : 0 ≤ z ∧ z ≤ N := by rw [hz.out]; exact HLB.out q
          have hMK : M ≤ K := by
            rw [hM.out, HKD.out, HTT.out]
            exact sts_le L5 q
          by_cases hqn : q < n5
          · obtain ⟨g, hx⟩ : ∃ g, L[q]? = some g := ⟨_, List.getElem?_eq_getElem (by have := HLEN.out; omega)⟩
            obtain ⟨a, ha⟩ : ∃ a, L5[q]? = some a := ⟨_, List.getElem?_eq_getElem (by have := HL5.out; omega)⟩
            obtain ⟨gin, b, o, rfl, hb, hcc⟩ := HGI.out.at_ hx
            obtain ⟨ain, b', o', rfl, hb', hdd⟩ := HIN5.out.at_ ha
            have hgv : (L.map GrH.val)[q]? = some g.val := by rw [List.getElem?_map, hx]; rfl
            have hav : (L5.map GrH.val)[q]? = some a.val := by rw [List.getElem?_map, ha]; rfl
            have hcat := cut_at (m := m) (raw_lost H.out g (List.mem_of_getElem? hx)) hgv (by rw [← HV5.out]; exact hav)
            have hsucc := lostN_succ hgv hav
            have halen : a.L.length = a.n := ain.sts.len
            have hall := sts_all ha
            have hM1 : M + a.n ≤ K := by
              have h1 := sts_le L5 (q + 1)
              rw [hall, List.length_append, ← hM.out, halen, ← HTT.out, ← HKD.out] at h1
              exact h1
            have hd : -1000000000 ≤ ((g.val.steps.length : Int) - a.val.steps.length) ∧ ((g.val.steps.length : Int) - a.val.steps.length) ≤ 1000000000 := by
              have h1 := HLB.out (q + 1)
              rw [hsucc, ← hz.out] at h1
              omega
            have e5 := lost_step (s := z) (g := g.lost) (a := a.lost) (by omega) hd hcat.2
            obtain ⟨z2, hz2⟩ : ∃ z2, z2 = z + ((g.val.steps.length : Int) - a.val.steps.length) := ⟨_, rfl⟩
            rw [← hz2] at e5
            have HZ2 := Lib.hid (show z2 = lostN (L.map GrH.val) (L5.map GrH.val) (q + 1) by rw [hsucc, hz2, hz.out])
            have hcell : ∀ W, Below w8.heap.size w8 W → W.cell? ⟨b, o + q * 8 + 7, none⟩ = some (.int .i64 g.lost) ∧ W.cell? ⟨b', o' + q * 8, none⟩ = some (.slice a.A a.n a.c) ∧ W.cell? ⟨b', o' + q * 8 + 7, none⟩ = some (.int .i64 a.lost) := by
              intro W hbW
              have h1 := hbw8.trans (hbW.mono hbw8.size)
              have h2 := hb48.trans (hbW.mono hb48.size)
              exact ⟨(h1.cell (by simpa using hb)).trans (hcc 7 (by omega)), (h2.cell (by simpa using hb')).trans (hdd 0 (by omega)), (h2.cell (by simpa using hb')).trans (hdd 7 (by omega))⟩
            have hrd9 : Rd w9 w4.heap.size 10 a.A a.n (sts a.L) := ain.sts.1.below (hb48.trans (hb9.mono hb48.size))
            have haA := ain.A
            have HC := Lib.hid hcell
            have HALL := Lib.hid hall
            have HALEN := Lib.hid halen
            obtain ⟨x7, y0, y7⟩ := hcell w9 hb9
            have hz9 := hb9.size
            have e3 : (q : Int) < n5 := by omega
            clear hx ha hcc hdd gin ain hcell halen hall hcat hsucc hgv hav hd hz2 x7 y7
            go_upto_region 16 with (at_builtin; ((with_reducible refine app_rd Try.underlying26 info_step rfl (by decide) _ w8.heap.size _ M (sts ((L5.take q).flatMap GrH.L)) hown _ a.A a.n a.c (sts a.L) hrd9 haA (sts_one _) (by unfold maxLen; omega) (by omega) hz9 rfl _ _ rfl rfl rfl ?_); intro v' w10 hown2 hgr2 hat2))
            have hb10 := below_own hb9 hown hgr2 hz9 (Nat.le_refl _)
            obtain ⟨x7, y0', y7⟩ := HC.out w10 hb10
            go_wp2
            go_quiet (fail)
            go_wp2
            go_roundw
            case rel =>
              refine ⟨q + 1, M + a.n, z2, by omega, by go_num, ?_, HZ2, Lib.hid ?_, below_drewN hb10 _, ?_⟩
              · rw [← e5]; first | rfl | (simp only [IntWalk.i64_left])
              · rw [HALL.out, List.length_append, HALEN.out, hM.out]
              · rw [HALL.out, sts_append]
                exact hown2
            case measure => simp [intOf]; omega
          · obtain rfl : n5 = q := by omega
            rw [List.take_of_length_le (by rw [HL5.out]; omega), ← HTT.out] at hM hown
            obtain rfl : M = K := by rw [hM.out, HKD.out]
            obtain rfl : z = (N : Int) - M := by rw [hz.out, HLOSS.out, HKD.out]
            obtain ⟨A9, c9, rfl, -, -, -, hrd9⟩ := own_form hown
            obtain ⟨c0, c7⟩ := HC8.out w9 hb9
            have hbw9 : Below w.heap.size w w9 := hbw8.trans (hb9.mono hbw8.size)
            have hb49 : Below w4.heap.size w4 w9 := hb48.trans (hb9.mono hb48.size)
            have hz49 := hb49.size
            have hz89 := hb9.size
            have HRD9 := Lib.hid hrd9
            have HKM := Lib.hid (show T.length = M by rw [← HKD.out])
            have t1 : (((n5 : Int) != (n5 : Int)) : Bool) = false := by simp
            have t2 : (((M : Int) != (M : Int)) : Bool) = false := by simp
            have t3 : ((((N : Int) - M) != ((N : Int) - M)) : Bool) = false := by simp
            clear hz hM hown hrd9 hKN
            go_wp2
            go_loopw [12] (fun j wr => ∃ i : Nat, i ≤ M ∧ j = .int .i64 i ∧ Below w9.heap.size w9 wr) (fun j _ => M - (intOf j).toNat)
            case atStart => exact ⟨0, by omega, rfl, Below.refl _ _⟩
            case round =>
              obtain ⟨i, hi, rfl, hbr⟩ := hrel
              by_cases hin : i < M
              · obtain ⟨s, hx⟩ : ∃ s, T[i]? = some s := ⟨_, List.getElem?_eq_getElem (by have := HKM.out; omega)⟩
                obtain ⟨s8, hx8, he⟩ : ∃ s8, g8.L[i]? = some s8 ∧ s8.x = s.x := by
                  have h1 := congrArg (·[i]?) HST8.out
                  simp only [List.getElem?_map, hx, Option.map_some] at h1
                  obtain ⟨s8, h2, h3⟩ := Option.map_eq_some_iff.1 h1
                  exact ⟨s8, h2, h3⟩
                have sin : s.In w4 w4.heap.size := by
                  have h1 := List.mem_of_getElem? hx
                  rw [HTT.out] at h1
                  obtain ⟨g, hg, hs⟩ := List.mem_flatMap.1 h1
                  exact (HIN5.out.2 g hg).sts.2 s hs
                obtain ⟨bs, os, hA, hbs, hcs⟩ := HRD9.out.el StH.cells (fun _ => rfl) HKM.out hx
                obtain ⟨sin8, bs8, os8, hA8, hbs8, hcs8⟩ := GIN8.out.sts.at_ hx8
                subst hA
                obtain ⟨sA, sn, sc, sA', sn', sc', ⟨xk, xf, xt, xg, xh, xi, xm, xv, xsl, xst⟩⟩ := s
                obtain ⟨tA, tn, tc, tA', tn', tc', tx⟩ := s8
                simp only at he
                subst he
                have h1 : xsl.length = sn := sin.len
                have h2 : xst.length = sn' := sin.len'
                have h3 : xsl.length = tn := sin8.len
                have h4 : xst.length = tn' := sin8.len'
                obtain rfl : tn = sn := by omega
                obtain rfl : tn' = sn' := by omega
                clear h1 h2 h3 h4
                have hsame := fun W (hb : Below w9.heap.size w9 W) => calls_on (hb) (rsame_eq ⟨xk, xf, xt, xg, xh, xi, xm, xv, xsl, xst⟩ sA sA' tA tA' tn tn' sc sc' tc tc' W ((sin.below (hb49.trans (hb.mono hz49))).more (Nat.le_trans hz49 hb.size)) ((sin8.below (hb9.trans (hb.mono hz89))).more (Nat.le_trans hz89 hb.size)))
                have HSAME := Lib.hid hsame
                have hF : ∀ W, Below w9.heap.size w9 W → W.cell? ⟨b8, o8, none⟩ = some (.slice (some ⟨bs8, os8, none⟩) M g8.c) ∧ W.cell? ⟨bs, os + i * 10, none⟩ = some (.int .i64 xk) ∧ W.cell? ⟨bs, os + i * 10 + 1, none⟩ = some (.int .i64 xf) ∧ W.cell? ⟨bs, os + i * 10 + 2, none⟩ = some (.int .i64 xt) ∧ W.cell? ⟨bs, os + i * 10 + 3, none⟩ = some (.int .i64 xg) ∧ W.cell? ⟨bs, os + i * 10 + 4, none⟩ = some (.int .i64 xh) ∧ W.cell? ⟨bs, os + i * 10 + 5, none⟩ = some (.int .i64 xi) ∧ W.cell? ⟨bs, os + i * 10 + 6, none⟩ = some (.int .i64 xm) ∧ W.cell? ⟨bs, os + i * 10 + 7, none⟩ = some (.int .i64 xv) ∧ W.cell? ⟨bs, os + i * 10 + 8, none⟩ = some (.slice sA tn sc) ∧ W.cell? ⟨bs, os + i * 10 + 9, none⟩ = some (.slice sA' tn' sc') ∧
                    W.cell? ⟨bs8, os8 + i * 10, none⟩ = some (.int .i64 xk) ∧ W.cell? ⟨bs8, os8 + i * 10 + 1, none⟩ = some (.int .i64 xf) ∧ W.cell? ⟨bs8, os8 + i * 10 + 2, none⟩ = some (.int .i64 xt) ∧ W.cell? ⟨bs8, os8 + i * 10 + 3, none⟩ = some (.int .i64 xg) ∧ W.cell? ⟨bs8, os8 + i * 10 + 4, none⟩ = some (.int .i64 xh) ∧ W.cell? ⟨bs8, os8 + i * 10 + 5, none⟩ = some (.int .i64 xi) ∧ W.cell? ⟨bs8, os8 + i * 10 + 6, none⟩ = some (.int .i64 xm) ∧ W.cell? ⟨bs8, os8 + i * 10 + 7, none⟩ = some (.int .i64 xv) ∧ W.cell? ⟨bs8, os8 + i * 10 + 8, none⟩ = some (.slice tA tn tc) ∧ W.cell? ⟨bs8, os8 + i * 10 + 9, none⟩ = some (.slice tA' tn' tc') := by
                  intro W hbW
                  have h8 := hb9.trans (hbW.mono hz89)
                  have z0 := (HC8.out W h8).1
                  rw [hA8] at z0
                  have hcW : ∀ j, j < 10 → W.cell? ⟨bs, os + i * 10 + j, none⟩ = (StH.mk sA tn sc sA' tn' sc' ⟨xk, xf, xt, xg, xh, xi, xm, xv, xsl, xst⟩).cells[j]? := fun j hj => (hbW.cell (p := ⟨bs, os + i * 10 + j, none⟩) (by simpa using hbs)).trans (hcs j hj)
                  have hdW : ∀ j, j < 10 → W.cell? ⟨bs8, os8 + i * 10 + j, none⟩ = (StH.mk tA tn tc tA' tn' tc' ⟨xk, xf, xt, xg, xh, xi, xm, xv, xsl, xst⟩).cells[j]? := fun j hj => (h8.cell (p := ⟨bs8, os8 + i * 10 + j, none⟩) (by simpa using hbs8)).trans (hcs8 j hj)
                  exact ⟨z0, hcW 0 (by omega), hcW 1 (by omega), hcW 2 (by omega), hcW 3 (by omega), hcW 4 (by omega), hcW 5 (by omega), hcW 6 (by omega), hcW 7 (by omega), hcW 8 (by omega), hcW 9 (by omega), hdW 0 (by omega), hdW 1 (by omega), hdW 2 (by omega), hdW 3 (by omega), hdW 4 (by omega), hdW 5 (by omega), hdW 6 (by omega), hdW 7 (by omega), hdW 8 (by omega), hdW 9 (by omega)⟩
                have HF := Lib.hid hF
                have e4 : (i : Int) < M := by omega
                clear hx hx8 sin sin8 hcs hcs8 hsame hF c0 c7
                go_upto_region 23 with fail
                refine wp_normal ?_
                refine wp_region_held_drew (S := fun w' => Below w9.heap.size w9 w') (by kernel_rfl) hbr.drew (fun hHeld => ?_)
                (refine take_if (i := 0) (oi := _) (v := ?_) (by simp only [List.getElem?_toArray, List.getElem?_cons_zero]; rfl) (by kernel_rfl) (by kernel_rfl) (by kernel_rfl) (fun _ _ _ h => h) (by rfl) ?_ (by assumption) ?_; rotate_left; (focus ((intro w hSw; (try have hSw := HF.out _ hSw); (try dsimp only at hSw); go_simp); try exact rfl)); simp only [Act.put, List.setIfInBounds_toArray, List.set_cons_zero, List.set_cons_succ]; refine take_if (i := 1) (oi := _) (v := ?_) (by simp only [List.getElem?_toArray, List.getElem?_cons_succ, List.getElem?_cons_zero]; rfl) (by kernel_rfl) (by kernel_rfl) (by kernel_rfl) (fun _ _ _ h => h) (by rfl) ?_ (by assumption) ?_; rotate_left; (focus ((intro w hSw; (try have hSw := HF.out _ hSw); (try dsimp only at hSw); go_simp); try exact rfl)); simp only [Act.put, List.setIfInBounds_toArray, List.set_cons_zero, List.set_cons_succ]; refine take_if (i := 2) (oi := _) (v := ?_) (by simp only [List.getElem?_toArray, List.getElem?_cons_succ, List.getElem?_cons_zero]; rfl) (by kernel_rfl) (by kernel_rfl) (by kernel_rfl) (fun _ _ _ h => h) (by rfl) ?_ (by assumption) ?_; rotate_left; (focus ((intro w hSw; (try have hSw := HF.out _ hSw); (try dsimp only at hSw); go_simp); try exact rfl)); simp only [Act.put, List.setIfInBounds_toArray, List.set_cons_zero, List.set_cons_succ]; refine take_if (i := 3) (oi := _) (v := ?_) (by simp only [List.getElem?_toArray, List.getElem?_cons_succ, List.getElem?_cons_zero]; rfl) (by kernel_rfl) (by kernel_rfl) (by kernel_rfl) (fun _ _ _ h => h) (by rfl) ?_ (by assumption) ?_; rotate_left; (focus ((intro w hSw; (try have hSw := HF.out _ hSw); (try dsimp only at hSw); go_simp); try exact rfl)); simp only [Act.put, List.setIfInBounds_toArray, List.set_cons_zero, List.set_cons_succ]; refine take_if (i := 4) (oi := _) (v := ?_) (by simp only [List.getElem?_toArray, List.getElem?_cons_succ, List.getElem?_cons_zero]; rfl) (by kernel_rfl) (by kernel_rfl) (by kernel_rfl) (fun _ _ _ h => h) (by rfl) ?_ (by assumption) ?_; rotate_left; (focus ((intro w hSw; (try have hSw := HF.out _ hSw); (try dsimp only at hSw); go_simp); try exact rfl)); simp only [Act.put, List.setIfInBounds_toArray, List.set_cons_zero, List.set_cons_succ]; refine take_if (i := 5) (oi := _) (v := ?_) (by simp only [List.getElem?_toArray, List.getElem?_cons_succ, List.getElem?_cons_zero]; rfl) (by kernel_rfl) (by kernel_rfl) (by kernel_rfl) (fun _ _ _ h => h) (by rfl) ?_ (by assumption) ?_; rotate_left; (focus ((intro w hSw; (try have hSw := HF.out _ hSw); (try dsimp only at hSw); go_simp); try exact rfl)); simp only [Act.put, List.setIfInBounds_toArray, List.set_cons_zero, List.set_cons_succ]; refine take_if (i := 6) (oi := _) (v := ?_) (by simp only [List.getElem?_toArray, List.getElem?_cons_succ, List.getElem?_cons_zero]; rfl) (by kernel_rfl) (by kernel_rfl) (by kernel_rfl) (fun _ _ _ h => h) (by rfl) ?_ (by assumption) ?_; rotate_left; (focus ((intro w hSw; (try have hSw := HF.out _ hSw); (try dsimp only at hSw); go_simp); try exact rfl)); simp only [Act.put, List.setIfInBounds_toArray, List.set_cons_zero, List.set_cons_succ]; refine take_if (i := 7) (oi := _) (v := ?_) (by simp only [List.getElem?_toArray, List.getElem?_cons_succ, List.getElem?_cons_zero]; rfl) (by kernel_rfl) (by kernel_rfl) (by kernel_rfl) (fun _ _ _ h => h) (by rfl) ?_ (by assumption) ?_; rotate_left; (focus ((intro w hSw; (try have hSw := HF.out _ hSw); (try dsimp only at hSw); go_simp); try exact rfl)); simp only [Act.put, List.setIfInBounds_toArray, List.set_cons_zero, List.set_cons_succ]; refine take_if (i := 8) (oi := _) (v := ?_) (by simp only [List.getElem?_toArray, List.getElem?_cons_succ, List.getElem?_cons_zero]; rfl) (by kernel_rfl) (by kernel_rfl) (by kernel_rfl) (fun _ _ _ h => h) (by rfl) ?_ (by assumption) ?_; rotate_left; (focus ((intro w hSw; (try have hSw := HF.out _ hSw); (try dsimp only at hSw); go_simp); try exact rfl)); simp only [Act.put, List.setIfInBounds_toArray, List.set_cons_zero, List.set_cons_succ]; refine take_if (i := 9) (oi := _) (v := ?_) (by simp only [List.getElem?_toArray, List.getElem?_cons_succ, List.getElem?_cons_zero]; rfl) (by kernel_rfl) (by kernel_rfl) (by kernel_rfl) (fun _ _ _ h => h) (by rfl) ?_ (by assumption) ?_; rotate_left; (focus ((intro w hSw; (try have hSw := HF.out _ hSw); (try dsimp only at hSw); go_simp); try exact rfl)); simp only [Act.put, List.setIfInBounds_toArray, List.set_cons_zero, List.set_cons_succ]; refine take_if (i := 10) (oi := _) (v := ?_) (by simp only [List.getElem?_toArray, List.getElem?_cons_succ, List.getElem?_cons_zero]; rfl) (by kernel_rfl) (by kernel_rfl) (by kernel_rfl) (fun _ _ _ h => h) (by rfl) ?_ (by assumption) ?_; rotate_left; (focus ((intro w hSw; (try have hSw := HF.out _ hSw); (try dsimp only at hSw); go_simp); try exact rfl)); simp only [Act.put, List.setIfInBounds_toArray, List.set_cons_zero, List.set_cons_succ])
                refine wpAnyH_ready (rs := [11]) (by kernel_rfl) (by simp) ?_; refine (AllReadyH.cons (o := _) (by simp only [List.getElem?_toArray, List.getElem?_cons_succ, List.getElem?_cons_zero]; rfl) (fun K hK => ?_) AllReadyH.nil)
                go_simp
                go_at_call 10
                refine (HSAME.out _ hbr.drew).mono ?_
                rintro e w10 ⟨rfl, hb10, hz10, hx10⟩
                refine hK.out _ _ hb10 (fun hHeld => ?_)
                clear hK K; (try simp only [Act.put, List.setIfInBounds_toArray, List.set_cons_zero, List.set_cons_succ])
                (refine take_if (i := 12) (oi := _) (v := ?_) (by simp only [List.getElem?_toArray, List.getElem?_cons_succ, List.getElem?_cons_zero]; rfl) (by kernel_rfl) (by kernel_rfl) (by kernel_rfl) (fun _ _ _ h => h) (by rfl) ?_ (by assumption) ?_; rotate_left; (focus ((intro w hSw; (try have hSw := HF.out _ hSw); (try dsimp only at hSw); go_simp); try exact rfl)); simp only [Act.put, List.setIfInBounds_toArray, List.set_cons_zero, List.set_cons_succ])
                refine wpAnyH_done (by kernel_rfl) ?_ _
                go_wp2
                go_roundw
                case rel => first | exact ⟨i + 1, by omega, by omega⟩ | exact ⟨i + 1, by omega, by go_num, hb10⟩
                case measure => simp [intOf]; omega
              · obtain rfl : M = i := by omega
                have hbf := hbw9.trans (hbr.mono hbw9.size)
                go_wp2_with (go_at_call 7; (refine (HLV.out _ hbf).mono ?_); rintro e w11 ⟨rfl, hb11, _, _⟩)
                go_ret
                exact ⟨rfl, hb11⟩
  · have hor : b1 = false ∨ b1 = true ∧ 20 < nm := by
      cases b1 with
      | false => exact .inl rfl
      | true => exact .inr ⟨rfl, by have : ¬ nm ≤ 20 := fun h => hb ⟨rfl, h⟩; omega⟩
    clear hb hyes hm
    rcases hor with rfl | ⟨rfl, h20⟩
    · go_wp2_with (go_at_call 7; (refine (HLV.out _ hb1).mono ?_); rintro e w11 ⟨rfl, hb11, _, _⟩)
      go_ret
      exact ⟨rfl, hb11⟩
    · have e20 : (20 : Int) < nm := by omega
      go_wp2_with (go_at_call 7; (refine (HLV.out _ hb1).mono ?_); rintro e w11 ⟨rfl, hb11, _, _⟩)
      go_ret
      exact ⟨rfl, hb11⟩
end Go.Proofs.Ytmacfoebfpljoaa
