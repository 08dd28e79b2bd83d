/- merged texts: Lz Cop Lop -/
import Derived.Test.YtmacfoebfpljoaaGreatMl19
import Derived.Test.YtmacfoebfpljoaaGreatMl12
import Derived.Test.YtmacfoebfpljoaaGreatMl9
import Derived.Test.YtmacfoebfpljoaaGreatMl15
namespace Go.Proofs.YtmacfoebfpljoaaGreat
open Go.RowKit
set_option linter.unusedVariables false
theorem info_rows : (Tryz.prog.info? 22).map (fun i => (i.zero, i.size, i.bytes)) = some (some (.slice none 0 0), 1, 24) := by kernel_rfl
/-- the events above i are erased -/
def erUp (i j : Nat) : Int → Bool := fun v => decide ((i : Int) < v ∧ v ≤ (j : Int))
theorem erUp_top (j : Nat) : erUp j j = fun _ => false := by
  funext v
  simp [erUp]
theorem erUp_add {i j : Nat} (h0 : 0 < i) (h : i ≤ j) : erAdd (erUp i j) (i : Int) = erUp (i - 1) j := by
  funext v
  unfold erAdd erUp
  by_cases e : v = (i : Int)
  · subst e
    rw [if_pos rfl]
    symm
    rw [decide_eq_true_eq]
    omega
  · rw [if_neg e]
    congr 1
    apply propext
    omega
theorem erUp_del {i j : Nat} (h0 : 0 < i) : erDel (erUp (i - 1) j) (i : Int) = erUp i j := by
  funext v
  unfold erDel erUp
  by_cases e : v = (i : Int)
  · subst e
    rw [if_pos rfl]
    symm
    rw [decide_eq_false_iff_not]
    omega
  · rw [if_neg e]
    congr 1
    apply propext
    omega
structure EraI (w1 : World) (g mb j i m : Nat) (sv : Value) (nx : Int) (el : List EH) (docs : List (List Tok)) (dv : Value) (vs : List Value) (W : World) : Prop where
  in_ : LdIn W w1.heap.size g mb m sv nx el (erUp i j)
  back : Back j (el.map EH.e) docs
  row : W.ownsRow w1.heap.size 22 1 dv (j + 1) vs
  each : ∀ (i : Nat) (D : List Tok) (u : Value), docs[i]? = some D → vs[i]? = some u → DocAt g mb sv el dv W u D
  b : Below w1.heap.size w1 W
  len : el.length ≤ 100000
  sz : ∀ D ∈ docs, D.length ≤ 200
section
variable {w1 W W' : World} {g mb j i m : Nat} {sv dv : Value} {nx : Int} {el : List EH} {docs : List (List Tok)} {vs : List Value}
theorem EraI.start (h : BkI w1 g mb j sv nx el docs dv vs W) (hj : j ≤ 30) : EraI w1 g mb j j 0 sv nx el docs dv vs W := by
  have := h.ld.len
  exact ⟨by rw [erUp_top]; exact h.ld.in_, h.ld.back, h.row, h.each, h.b, by omega, h.sz⟩
theorem EraI.below (h : EraI w1 g mb j i m sv nx el docs dv vs W) (hb : Below W.heap.size W W') : EraI w1 g mb j i m sv nx el docs dv vs W' :=
  ⟨h.in_.below hb, h.back, own_below h.row hb, fun i D u h1 h2 => (h.each i D u h1 h2).below hb, h.b.trans (hb.mono h.b.size), h.len, h.sz⟩
theorem EraI.turn {i' m' : Nat} (h : EraI w1 g mb j i m sv nx el docs dv vs W) (hL : LdIn W' w1.heap.size g mb m' sv nx el (erUp i' j)) (hg : W.grownBy W' (some mb)) : EraI w1 g mb j i' m' sv nx el docs dv vs W' := by
  have hs : Sti (fun k => k = mb) W W' := Sti.of_gr hg (fun i e => by injection e with e; exact e.symm)
  have hd : ∀ q, dv.ownBlock = some q → ¬ q = mb := fun q hq e => row_not h.in_ h.row q hq (.inr (.inl e))
  refine ⟨hL, h.back, hs.own h.row hd, fun i D u h1 h2 => ?_, h.b.trans (hs.below (fun k hk => by have hk : k = mb := hk; rw [hk]; exact h.in_.lm) h.b.size), h.len, h.sz⟩
  obtain ⟨A, n, c, q1, q2, q3, q4, q5⟩ := h.each i D u h1 h2
  exact ⟨A, n, c, q1, q2.stiW hs (fun hn a e hm => (q5 hn a e).1 (.inr (.inl hm))), q3, q4, q5⟩
/-- the i-th document, as it lies, and what Tokens gives -/
theorem EraI.get (h : EraI w1 g mb j i m sv nx el docs dv vs W) (hi : i ≤ j) : ∃ (D : List Tok) (A : Option Addr) (c : Nat), Rd W W.heap.size 12 A D.length (toks D) ∧ vs[i]? = some (.slice A D.length c) ∧ D.length ≤ 200 ∧
    ∀ W', Below W.heap.size W W' → Calls Tryz.prog 15 #[.pointer (some ⟨g, 0, none⟩)] W' fun e w' => ∃ A c, e = .returned (.slice A D.length c) ∧ Tks w' A D.length D ∧ Below W'.heap.size W' w' := by
  obtain ⟨D, hD⟩ : ∃ D, docs[i]? = some D := ⟨_, List.getElem?_eq_getElem (by have := h.back.len; omega)⟩
  obtain ⟨u, hu⟩ : ∃ u, vs[i]? = some u := ⟨_, List.getElem?_eq_getElem (by have := h.row.1; simp at this; omega)⟩
  obtain ⟨A, n, c, rfl, hr, -, -, -⟩ := h.each i D u hD hu
  have hl := hr.tlen
  subst hl
  exact ⟨D, A, c, hr, hu, h.sz D (List.mem_of_getElem? hD), fun W' hb => ltoks_is (h.in_.below hb) h.len (h.back.seen i D hD _ (fun v q1 q2 => by unfold erUp; simp; omega))⟩
end
set_option maxRecDepth 100000 in
set_option maxHeartbeats 16000000 in
theorem back42_any (txt : ByteArray) (A SA : Option Addr) (n c sn sc : Nat) (l : List Tok) (L : List StH) (w : World) (htx : txt.size ≤ maxLen) (hr : Rd w w.heap.size 12 A n (toks l)) (hnc : n ≤ c) (hA : A = none → n = 0) (hnm : n ≤ maxLen) (hS : StsRaw w w.heap.size SA sn L) (hsc : ∀ s ∈ L, s.n ≤ s.c ∧ s.n' ≤ s.c') (hsn : sn ≤ maxLen) :
    Calls Tryz.prog 3 #[.string txt, .slice A n c, .slice SA sn sc] w fun e w' => e = .returned (.bool true) ∧ Below w.heap.size w w' := by
  have hfew := fun W (hb : Below w.heap.size w W) => few27_any SA sn sc L W ((hS.below hb).more hb.size) hsn
  have HFEW := Lib.hid hfew
  have HR := Lib.hid hr
  have HS := Lib.hid hS
  have HSC := Lib.hid hsc
  have HA := Lib.hid hA
  unfold maxLen at hnm hsn
  clear hfew hr hS hsc hA
  go_enter Tryz.func3, Tryz.ntmps3
  go_wp2_with (go_at_call 8; fail)
  refine (new11_any txt w htx).mono ?_
  rintro e w1 ⟨NA, MA, PA, TA, EA, nn, nc', mn_, mc, pn, pc, tn, tc, en, ec, ns, ms, ps, bn, mg, er, rfl, hD, hX, hpl, hml, hb1⟩
  have hsc1 : Sc w1 w.heap.size (.slice NA nn nc') (.slice MA mn_ mc) (.slice PA pn pc) (.slice TA tn tc) (.slice EA en ec) ns ms ps bn mg := ⟨hD, hX, hpl, hml⟩
  have ks1 := Bk.new w1 32 #[.slice NA nn nc', .slice MA mn_ mc, .slice PA pn pc, .slice TA tn tc, .slice EA en ec]
  have hb2 : Below w1.heap.size w1 (w1.alloc (.cells #[.slice NA nn nc', .slice MA mn_ mc, .slice PA pn pc, .slice TA tn tc, .slice EA en ec] 32)) := belowA
  have hb02 : Below w.heap.size w (w1.alloc (.cells #[.slice NA nn nc', .slice MA mn_ mc, .slice PA pn pc, .slice TA tn tc, .slice EA en ec] 32)) := hb1.trans (hb2.mono hb1.size)
  have hsc2 := hsc1.below hb2
  have HSC2 := Lib.hid hsc2
  clear hD hX hpl hml hsc1 hsc2
  by_cases her : er = 0
  · have e1 : (er != 0) = false := by simp [her]
    have HER := Lib.hid her
    clear her
    by_cases hn : n ≤ 100
    · have e2 : ¬ (100 : Int) < n := by omega
      go_wp2_with (go_at_call 9; fail)
      generalize w1.alloc (.cells #[.slice NA nn nc', .slice MA mn_ mc, .slice PA pn pc, .slice TA tn tc, .slice EA en ec] 32) = w2 at *
      refine (HFEW.out w2 hb02).mono ?_
      rintro e w3 ⟨fb, rfl, hfb, hb3⟩
      have hb03 : Below w.heap.size w w3 := hb02.trans (hb3.mono hb02.size)
      have ks3 := ks1.ext hb3
      have hsc3 := HSC2.out.below hb3
      cases fb with
      | false =>
        go_wp2_with (go_at_call 10; (refine (live42_any _).mono ?_); rintro e w9 ⟨rfl, hb9⟩)
        go_ret
        exact ⟨rfl, hb03.trans (hb9.mono hb03.size)⟩
      | true =>
        obtain ⟨hs20, hsm⟩ := hfb rfl
        have HSM := Lib.hid hsm
        have HSC3 := Lib.hid hsc3
        clear hsm hsc3 hfb HFEW HSC2 ks1 hb2 hb3
        go_wp2_with (go_at_call 11; fail)
        refine (ldb_new A n c l w3 ((HR.out.below hb03).more hb03.size) (by omega)).mono ?_
        rintro e w4 ⟨g, mb, sv, nx, el, rfl, hld, hb4⟩
        have hb04 : Below w.heap.size w w4 := hb03.trans (hb4.mono hb03.size)
        have hI0 : BkI w3 g mb 0 sv nx el [l] (.slice (some ⟨w4.heap.size, 0, none⟩) 1 1) [.slice A n c] (w4.alloc (.cells #[.slice A n c] 22)) := by
          have hb45 : Below w4.heap.size w4 (w4.alloc (.cells #[.slice A n c] 22)) := belowA
          have hrow : (w4.alloc (.cells #[.slice A n c] 22)).ownsRow w3.heap.size 22 1 (.slice (some ⟨w4.heap.size, 0, none⟩) 1 1) (0 + 1) [.slice A n c] :=
            ⟨by simp, .inr ⟨w4.heap.size, 1, _, rfl, hb4.size, heap_alloc_new w4 _, by omega, by unfold maxLen; omega, by simp, by simp⟩⟩
          refine ⟨hld.below hb45, hrow, ?_, hb4.trans (hb45.mono hb4.size), fun D hD => by rw [List.mem_singleton.1 hD, HR.out.tlen]; omega⟩
          intro i D u h1 h2
          have hi : i = 0 := by have := (List.getElem?_eq_some_iff.1 h1).1; simp at this; omega
          subst hi
          injection h1 with h1
          injection h2 with h2
          subst h1
          subst h2
          refine ⟨A, n, c, rfl, ((HR.out.below hb04).more hb04.size |>.below hb45).more hb45.size, hnc, HA.out, fun hn a e => ?_⟩
          have q1 := DocAt.lt HR.out hn a e
          have q2 := hb03.size
          have q3 := hb4.size
          refine ⟨fun hm => ?_, fun hk => ?_⟩
          · have := hld.in_.ge hm
            omega
          · have hk : some w4.heap.size = some a.block := hk
            injection hk with hk
            omega
        have HI0 := Lib.hid hI0
        have HB34 := Lib.hid hb4
        have hz34 := hb4.size
        clear hI0 hld hb4
        go_wp2
        generalize w4.alloc (.cells #[.slice A n c] 22) = w5 at *
        go_loopw [10, 11, 12, 13] (fun u10 u11 u12 u13 wr => ∃ (q j db dc : Nat) (sv : Value) (nx : Int) (el : List EH) (docs : List (List Tok)) (vs : List Value), q ≤ sn ∧ j ≤ q ∧ u11 = .int .i64 q ∧ u10 = .slice (some ⟨db, 0, none⟩) (j + 1) dc ∧ Hid (BkI w3 g mb j sv nx el docs (.slice (some ⟨db, 0, none⟩) (j + 1) dc) vs wr)) (fun _ u11 _ _ _ => sn - (intOf u11).toNat)
        case atStart => exact ⟨0, 0, w4.heap.size, 1, sv, nx, el, [l], _, by omega, by omega, rfl, rfl, HI0⟩
        case round =>
          obtain ⟨q, j, db, dc, sv, nx, el, docs, vs, hq, hj, rfl, rfl, hI⟩ := hrel
          have hbr := hI.out.b
          have hb0r : Below w.heap.size w wr := hb03.trans (hbr.mono hb03.size)
          have ksr : Bk wr w1.heap.size 32 #[.slice NA nn nc', .slice MA mn_ mc, .slice PA pn pc, .slice TA tn tc, .slice EA en ec] := ks3.ext hbr
          have hscr := HSC3.out.below hbr
          by_cases hqs : q < sn
          · have e3 : (q : Int) < sn := by omega
            have hsr := (HS.out.below hb0r).more hb0r.size
            obtain ⟨st, hx⟩ : ∃ st, L[q]? = some st := ⟨_, List.getElem?_eq_getElem (by have := hsr.len; omega)⟩
            obtain ⟨hraw, b, o, rfl, hb1, hcc⟩ := hsr.at_ hx
            have hcap := HSC.out st (List.mem_of_getElem? hx)
            have hsmall := HSM.out st (List.mem_of_getElem? hx)
            obtain ⟨sA, sn1, sc1, sA2, sn2, sc2, ⟨xk, xf, xt, xg, xh, xi, xm, xv, sl, mk⟩⟩ := st
            have c0 : wr.cell? ⟨b, o + q * 10, none⟩ = _ := hcc 0 (by omega)
            have c1 : wr.cell? ⟨b, o + q * 10 + 1, none⟩ = _ := hcc 1 (by omega)
            have c2 : wr.cell? ⟨b, o + q * 10 + 2, none⟩ = _ := hcc 2 (by omega)
            have c3 : wr.cell? ⟨b, o + q * 10 + 3, none⟩ = _ := hcc 3 (by omega)
            have c4 : wr.cell? ⟨b, o + q * 10 + 4, none⟩ = _ := hcc 4 (by omega)
            have c5 : wr.cell? ⟨b, o + q * 10 + 5, none⟩ = _ := hcc 5 (by omega)
            have c6 : wr.cell? ⟨b, o + q * 10 + 6, none⟩ = _ := hcc 6 (by omega)
            have c7 : wr.cell? ⟨b, o + q * 10 + 7, none⟩ = _ := hcc 7 (by omega)
            have c8 : wr.cell? ⟨b, o + q * 10 + 8, none⟩ = _ := hcc 8 (by omega)
            have c9 : wr.cell? ⟨b, o + q * 10 + 9, none⟩ = _ := hcc 9 (by omega)
            dsimp [StH.cells] at c0 c1 c2 c3 c4 c5 c6 c7 c8 c9
            dsimp only at hcap hsmall
            obtain ⟨D, hDj⟩ : ∃ D, docs[j]? = some D := ⟨_, List.getElem?_eq_getElem (by have := hI.out.docs_len; omega)⟩
            obtain ⟨u, hu⟩ : ∃ u, vs[j]? = some u := ⟨_, List.getElem?_eq_getElem (by have := hI.out.len; omega)⟩
            obtain ⟨dA, dn, dc', rfl, hdr, hdc, hdA, hdm⟩ := hI.out.each j D u hDj hu
            have hdl := hdr.tlen
            have hdsz := hI.out.sz D (List.mem_of_getElem? hDj)
            have hcd : wr.cell? ⟨db, j, none⟩ = some (.slice dA dn dc') := by
              have h1 := hI.out.row.cells (g := db) rfl j _ hu
              rwa [add_flat, Nat.zero_add] at h1
            have hdb := own_lt hI.out.row db rfl
            have hF : ∀ W, Below wr.heap.size wr W → ((W.cell? ⟨w1.heap.size, 0, none⟩ = some (.slice NA nn nc') ∧ W.cell? ⟨w1.heap.size, 1, none⟩ = some (.slice MA mn_ mc) ∧ W.cell? ⟨w1.heap.size, 2, none⟩ = some (.slice PA pn pc) ∧ W.cell? ⟨w1.heap.size, 3, none⟩ = some (.slice TA tn tc) ∧ W.cell? ⟨w1.heap.size, 4, none⟩ = some (.slice EA en ec)) ∧ W.cell? ⟨db, j, none⟩ = some (.slice dA dn dc') ∧ W.cell? ⟨b, o + q * 10, none⟩ = some (.int .i64 xk) ∧ W.cell? ⟨b, o + q * 10 + 1, none⟩ = some (.int .i64 xf) ∧ W.cell? ⟨b, o + q * 10 + 2, none⟩ = some (.int .i64 xt) ∧ W.cell? ⟨b, o + q * 10 + 3, none⟩ = some (.int .i64 xg) ∧ W.cell? ⟨b, o + q * 10 + 4, none⟩ = some (.int .i64 xh) ∧ W.cell? ⟨b, o + q * 10 + 5, none⟩ = some (.int .i64 xi) ∧ W.cell? ⟨b, o + q * 10 + 6, none⟩ = some (.int .i64 xm) ∧ W.cell? ⟨b, o + q * 10 + 7, none⟩ = some (.int .i64 xv) ∧ W.cell? ⟨b, o + q * 10 + 8, none⟩ = some (.slice sA sn1 sc1) ∧ W.cell? ⟨b, o + q * 10 + 9, none⟩ = some (.slice sA2 sn2 sc2)) := fun W hb => by
              have k := ksr.ext hb
              exact ⟨⟨k.cell 0, k.cell 1, k.cell 2, k.cell 3, k.cell 4⟩, (hb.cell (p := ⟨db, j, none⟩) hdb).trans hcd, (hb.cell (p := ⟨b, o + q * 10, none⟩) hb1).trans c0, (hb.cell (p := ⟨b, o + q * 10 + 1, none⟩) hb1).trans c1, (hb.cell (p := ⟨b, o + q * 10 + 2, none⟩) hb1).trans c2, (hb.cell (p := ⟨b, o + q * 10 + 3, none⟩) hb1).trans c3, (hb.cell (p := ⟨b, o + q * 10 + 4, none⟩) hb1).trans c4, (hb.cell (p := ⟨b, o + q * 10 + 5, none⟩) hb1).trans c5, (hb.cell (p := ⟨b, o + q * 10 + 6, none⟩) hb1).trans c6, (hb.cell (p := ⟨b, o + q * 10 + 7, none⟩) hb1).trans c7, (hb.cell (p := ⟨b, o + q * 10 + 8, none⟩) hb1).trans c8, (hb.cell (p := ⟨b, o + q * 10 + 9, none⟩) hb1).trans c9⟩
            have hap := fun W (hb : Below wr.heap.size wr W) => apply25_any w.heap.size _ _ _ _ _ ns ms ps bn mg W xk xf xt xg xh xi xm xv dA sA sA2 dn dc' sn1 sn2 sc1 sc2 D sl mk (hscr.below hb) ((hdr.below hb).more hb.size) hdc hdA (by omega) ((hraw.rd.below hb).more hb.size) hcap.1 hraw.A (by show sn1 ≤ 20000; omega) ((hraw.rd'.below hb).more hb.size) (by show sn2 ≤ 20000; omega)
            have HF := Lib.hid hF
            have HAP := Lib.hid hap
            have HC := Lib.hid (And.intro c0 (And.intro c1 (And.intro c2 (And.intro c3 (And.intro c4 (And.intro c5 (And.intro c6 (And.intro c7 (And.intro c8 c9)))))))))
            have HX := Lib.hid hx
            have HDJ := Lib.hid (And.intro hDj hu)
            have HRAW := Lib.hid hraw
            have HDM := Lib.hid (And.intro hdr hdm)
            have HSC4 := Lib.hid hscr
            have e4 : (j : Int) < (j : Int) + 1 := by omega
            have e5 : IntKind.i64.wrap (j : Int) = (j : Int) := IntWalk.i64_in _ (by omega)
            clear hF hap c0 c1 c2 c3 c4 c5 c6 c7 c8 c9 hx hDj hu hraw hdr hdm hscr hcc hsr hcd hdA
            go_upto_region 9 with fail
            refine wp_normal ?_
            refine wp_region_held_drew (S := fun W => Below wr.heap.size wr W) (by kernel_rfl) (Below.drew (Below.refl _ _)) (fun hHeld => ?_)
            generalize wr.drew = wD at *
            (refine tkH 0 ?_; refine tkH 1 ?_; refine tkH 2 ?_; refine tkH 3 ?_; refine tkH 4 ?_; refine tkH 5 ?_; refine tkH 6 ?_; refine tkH 7 ?_; refine tkH 8 ?_; refine tkH 9 ?_; refine tkH 10 ?_)
            refine nxH 11 (fun K hK => ?_)
            go_simp
            refine (HAP.out wD hHeld).mono ?_
            rintro e w6 ⟨A2, N2, c2, er2, rfl, hN2, hnew2, hok2, hb6⟩
            have hHeld6 := hHeld.trans (hb6.mono hHeld.size)
            have hzD := hHeld.size
            have hz6 := hHeld6.size
            have HNEW := Lib.hid hnew2
            have HOK := Lib.hid hok2
            clear hnew2 hok2 hHeld hb6 HAP HF
            refine hK.out _ _ hHeld6 (fun hHeld' => ?_)
            clear hK K; refine puH ?_
            (refine tkH 12 ?_; refine tkH 13 ?_; refine tkH 14 ?_; refine tkH 15 ?_; refine tkH 16 ?_)
            refine wpAnyH_done (by kernel_rfl) ?_ _
            clear hHeld'
            have hskip : BkI w3 g mb j sv nx el docs (.slice (some ⟨db, 0, none⟩) (j + 1) dc) vs w6 := hI.out.below hHeld6
            have HSKIP := Lib.hid hskip
            clear hskip
            by_cases her2 : er2 = 0
            · have e6 : (er2 != 0) = false := by simp [her2]
              obtain ⟨hsh, htn, mk2, hNl, hr2⟩ := HOK.out her2
              clear her2
              by_cases hN : N2 ≤ 200
              · have e7 : ¬ (200 : Int) < N2 := by omega
                have d0 := (hHeld6.cell (p := ⟨b, o + q * 10, none⟩) hb1).trans HC.out.1
                have d1 := (hHeld6.cell (p := ⟨b, o + q * 10 + 1, none⟩) hb1).trans HC.out.2.1
                have d2 := (hHeld6.cell (p := ⟨b, o + q * 10 + 2, none⟩) hb1).trans HC.out.2.2.1
                have d3 := (hHeld6.cell (p := ⟨b, o + q * 10 + 3, none⟩) hb1).trans HC.out.2.2.2.1
                have d4 := (hHeld6.cell (p := ⟨b, o + q * 10 + 4, none⟩) hb1).trans HC.out.2.2.2.2.1
                have d5 := (hHeld6.cell (p := ⟨b, o + q * 10 + 5, none⟩) hb1).trans HC.out.2.2.2.2.2.1
                have d6 := (hHeld6.cell (p := ⟨b, o + q * 10 + 6, none⟩) hb1).trans HC.out.2.2.2.2.2.2.1
                have d7 := (hHeld6.cell (p := ⟨b, o + q * 10 + 7, none⟩) hb1).trans HC.out.2.2.2.2.2.2.2.1
                have d8 := (hHeld6.cell (p := ⟨b, o + q * 10 + 8, none⟩) hb1).trans HC.out.2.2.2.2.2.2.2.2.1
                have d9 := (hHeld6.cell (p := ⟨b, o + q * 10 + 9, none⟩) hb1).trans HC.out.2.2.2.2.2.2.2.2.2
                have hd := ldb_step j w3.heap.size g mb 0 sv nx el docs xk xf xt xg xh xi xm xv sA sA2 A2 sn1 sc1 sn2 sc2 N2 c2 sl D mk mk2 w6 HSKIP.out.ld HDJ.out.1 HSKIP.out.b.size (by omega) hsh (by omega) (((HRAW.out.rd.below hHeld6).more hz6 : Rd w6 w6.heap.size 12 sA sn1 (toks sl))) hcap.1 (by omega) (fun h0 a e hm => by
                    have q1 : a.block < w.heap.size := by
                      have := HS.out.2 _ (List.mem_of_getElem? HX.out)
                      exact DocAt.lt (D := sl) this.rd h0 a e
                    have q2 := HSKIP.out.ld.in_.ge hm
                    have q3 := hb03.size
                    omega) ((HRAW.out.rd'.below hHeld6).more hz6 : Rd w6 w6.heap.size 8 sA2 sn2 (mks mk)) (by omega) hr2 (fun h0 a e hm => by
                    have q1 := HNEW.out.2 a e
                    have q2 := hI.out.ld.in_.mine_lt hm
                    omega)
                rw [show ((j + 1 : Nat) : Int) = (j : Int) + 1 by omega] at hd
                have HD := Lib.hid hd
                have HR2 := Lib.hid hr2
                have HNL := Lib.hid hNl
                clear hd hr2 hNl hsh htn
                go_wp2_with (go_at_call 13; fail)
                refine HD.out.mono ?_
                rintro e w7 hd7
                obtain rfl := hd7.1
                have HD7 := Lib.hid hd7
                have hrow7 : w7.ownsRow w3.heap.size 22 1 (.slice (some ⟨db, 0, none⟩) (j + 1) dc) (j + 1) vs := by
                  obtain ⟨-, sv', nx', el', hL, ho⟩ := hd7
                  exact ho.1.own HSKIP.out.row (row_not HSKIP.out.ld.in_ HSKIP.out.row)
                have hz7 : w3.heap.size ≤ w7.heap.size := by
                  obtain ⟨-, sv', nx', el', hL, ho⟩ := hd7
                  have := ho.1.size
                  have := HSKIP.out.b.size
                  omega
                have HROW7 := Lib.hid hrow7
                clear hd7 hrow7 d0 d1 d2 d3 d4 d5 d6 d7 d8 d9
                go_wp2_with (at_builtin; ((refine app_one Tryz.underlying40 info_rows rfl (by decide) w7 w3.heap.size (.slice (some ⟨db, 0, none⟩) (j + 1) dc) (j + 1) vs HROW7.out (by unfold maxLen; omega) (by omega) hz7 _ rfl (by simp [Value.oneCell']) rfl _ _ rfl rfl rfl ?_); intro g9 cap9 w9 hown9 hgr9 hat9 hlt9))
                have hfin := BkI.step (e := .returned (.int .i64 0)) hI.out hHeld6 HR2.out hN2 HNEW.out.1 (fun a e => by have := HNEW.out.2 a e; omega) hN HD7.out (Below.refl _ _) hgr9 hown9 (hat9.imp id Nat.le_of_lt)
                obtain ⟨sv', nx', el', hfin⟩ := hfin
                have HFIN := Lib.hid hfin
                clear hfin hown9 hgr9 hat9
                go_roundw
                case rel => exact ⟨q + 1, j + 1, g9, cap9, sv', nx', el', _, _, by omega, by omega, by go_num, rfl, HFIN⟩
                case measure => simp [intOf]; omega
              · have e7 : (200 : Int) < N2 := by omega
                clear hsh htn hNl hr2
                go_wp2
                go_roundw
                case rel => exact ⟨q + 1, j, db, dc, sv, nx, el, docs, vs, by omega, by omega, by go_num, rfl, HSKIP⟩
                case measure => simp [intOf]; omega
            · have e6 : (er2 != 0) = true := by simp [her2]
              clear her2
              go_wp2
              go_roundw
              case rel => exact ⟨q + 1, j, db, dc, sv, nx, el, docs, vs, by omega, by omega, by go_num, rfl, HSKIP⟩
              case measure => simp [intOf]; omega
          · obtain rfl : sn = q := by omega
            have hE0 : EraI w3 g mb j j 0 sv nx el docs (.slice (some ⟨db, 0, none⟩) (j + 1) dc) vs wr := EraI.start hI.out (by omega)
            have HE0 := Lib.hid hE0
            have e5 : IntKind.i64.wrap (j : Int) = (j : Int) := IntWalk.i64_in _ (by omega)
            have hj20 : j ≤ 20 := by omega
            obtain ⟨wo, rfl⟩ : ∃ wo : World, wo = wr := ⟨_, rfl⟩
            clear hE0 hI hbr hb0r ksr hscr
            go_wp2
            go_loopw [14] (fun u wr => ∃ i : Nat, i ≤ j ∧ u = .int .i64 i ∧ Hid (EraI w3 g mb j i (j - i) sv nx el docs (.slice (some ⟨db, 0, none⟩) (j + 1) dc) vs wr)) (fun u _ => (intOf u).toNat)
            case atStart => exact ⟨j, Nat.le_refl _, rfl, by rw [Nat.sub_self]; exact HE0⟩
            case round =>
              obtain ⟨i, hi, rfl, hE⟩ := hrel
              by_cases hi0 : 0 < i
              · obtain ⟨D, dA, dc', hdr, hdv, hdl, htk⟩ := hE.out.get hi
                have hcd : wr.cell? ⟨db, i, none⟩ = some (.slice dA D.length dc') := by
                  have h1 := hE.out.row.cells (g := db) rfl i _ hdv
                  rwa [add_flat, Nat.zero_add] at h1
                have hdb := own_lt hE.out.row db rfl
                have hF : ∀ W, Below wr.heap.size wr W → W.cell? ⟨db, i, none⟩ = some (.slice dA D.length dc') := fun W hb => (hb.cell (p := ⟨db, i, none⟩) hdb).trans hcd
                have HF := Lib.hid hF
                have HTK := Lib.hid htk
                have HDR := Lib.hid hdr
                have e6 : (0 : Int) < i := by omega
                have e7 : (i : Int) < (j : Int) + 1 := by omega
                obtain ⟨N, hN⟩ : ∃ N, N = D.length := ⟨_, rfl⟩
                rw [← hN] at HF HTK HDR hdl
                clear hF htk hdr hcd hdv hN
                go_upto_region 17 with fail
                refine wp_normal ?_
                refine wp_region_held_drew (S := fun W => Below wr.heap.size wr W) (by kernel_rfl) (Below.drew (Below.refl _ _)) (fun hHeld => ?_)
                generalize wr.drew = wD at *
                (refine tkH 0 ?_; refine tkH 2 ?_; refine tkH 3 ?_; refine tkH 4 ?_; refine tkH 5 ?_)
                refine nxH 1 (fun K hK => ?_)
                go_simp
                refine (HTK.out wD hHeld).mono ?_
                rintro e w6 ⟨A6, c6, rfl, ht6, hb6⟩
                have hHeld6 := hHeld.trans (hb6.mono hHeld.size)
                have HT6 := Lib.hid ht6
                clear ht6 hHeld
                refine hK.out _ _ hHeld6 (fun hHeld => ?_)
                clear hK K; refine puH ?_
                refine nxH 6 (fun K hK => ?_)
                go_simp
                refine (toks13_same A6 dA N c6 dc' D w6 (by unfold maxLen; omega) HT6.out.r ((HDR.out.below hHeld6).more hHeld6.size)).mono ?_
                rintro e w7 ⟨rfl, hb7⟩
                have hHeld7 := hHeld6.trans (hb7.mono hHeld6.size)
                refine hK.out _ _ hHeld7 (fun hHeld => ?_)
                clear hK K; refine puH ?_
                (refine tkH 7 ?_)
                refine wpAnyH_done (by kernel_rfl) ?_ _
                have hE7 := hE.out.below hHeld7
                have HE7 := Lib.hid hE7
                have her := lerase_any w3.heap.size g mb (j - i) sv nx (i : Int) el _ w7 hE7.in_ (by unfold maxLen; omega) ⟨by omega, by omega⟩
                rw [erUp_add hi0 hi] at her
                have HER2 := Lib.hid her
                clear hE7 her hHeld hHeld6 hHeld7 hb6 hb7
                go_wp2_with (go_at_call 16; fail)
                refine HER2.out.mono ?_
                rintro e w8 ⟨⟨v8, rfl⟩, hL8, hg8⟩
                have hE8 := HE7.out.turn hL8 hg8
                rw [show j - i + 1 = j - (i - 1) by omega] at hE8
                have HE8 := Lib.hid hE8
                clear hE8 hL8 hg8
                go_wp2
                go_roundw
                case rel => exact ⟨i - 1, by omega, by congr 1; omega, HE8⟩
                case measure => simp [intOf]; omega
              · obtain rfl : i = 0 := by omega
                have hE0 := hE.out
                have HE00 := Lib.hid hE0
                obtain ⟨wp, rfl⟩ : ∃ wp : World, wp = wr := ⟨_, rfl⟩
                clear hE0 hE
                rw [show ((0 : Nat) : Int) = 0 from rfl]
                go_wp2
                go_loopw [15] (fun u wr => ∃ i : Nat, i ≤ j + 1 ∧ u = .int .i64 i ∧ Hid (EraI w3 g mb j (i - 1) (j - 0) sv nx el docs (.slice (some ⟨db, 0, none⟩) (j + 1) dc) vs wr)) (fun u _ => j + 1 - (intOf u).toNat)
                case atStart => exact ⟨0, by omega, rfl, HE00⟩
                case round =>
                  obtain ⟨i, hi, rfl, hE⟩ := hrel
                  by_cases hij : i < j + 1
                  · have e7 : (i : Int) < (j : Int) + 1 := by omega
                    by_cases hi0 : 0 < i
                    · have e6 : (0 : Int) < i := by omega
                      have her := lrestore_any w3.heap.size g mb (j - 0) sv nx (i : Int) el _ wr hE.out.in_ ⟨by omega, by omega⟩
                      rw [erUp_del hi0] at her
                      have HER2 := Lib.hid her
                      clear her
                      go_wp2_with (go_at_call 17; fail)
                      refine HER2.out.mono ?_
                      rintro e wT ⟨⟨v8, rfl⟩, hL8, hg8⟩
                      have hE8 := hE.out.turn hL8 hg8
                      have HE8 := Lib.hid hE8
                      clear hE8 hL8 hg8 hE HER2
                      obtain ⟨D, dA, dc', hdr, hdv, hdl, htk⟩ := HE8.out.get (by omega)
                      have hcd : wT.cell? ⟨db, i, none⟩ = some (.slice dA D.length dc') := by
                        have h1 := HE8.out.row.cells (g := db) rfl i _ hdv
                        rwa [add_flat, Nat.zero_add] at h1
                      have hdb := own_lt HE8.out.row db rfl
                      have hF : ∀ W, Below wT.heap.size wT W → W.cell? ⟨db, i, none⟩ = some (.slice dA D.length dc') := fun W hb => (hb.cell (p := ⟨db, i, none⟩) hdb).trans hcd
                      have HF := Lib.hid hF
                      have HTK := Lib.hid htk
                      have HDR := Lib.hid hdr
                      obtain ⟨N, hN⟩ : ∃ N, N = D.length := ⟨_, rfl⟩
                      rw [← hN] at HF HTK HDR hdl
                      clear hF htk hdr hcd hdv hN
                      go_upto_region 25 with fail
                      refine wp_normal ?_
                      refine wp_region_held_drew (S := fun W => Below wT.heap.size wT W) (by kernel_rfl) (Below.drew (Below.refl _ _)) (fun hHeld => ?_)
                      generalize wT.drew = wD at *
                      (refine tkH 0 ?_; refine tkH 2 ?_; refine tkH 3 ?_; refine tkH 4 ?_; refine tkH 5 ?_)
                      refine nxH 1 (fun K hK => ?_)
                      go_simp
                      refine (HTK.out wD hHeld).mono ?_
                      rintro e w6 ⟨A6, c6, rfl, ht6, hb6⟩
                      have hHeld6 := hHeld.trans (hb6.mono hHeld.size)
                      have HT6 := Lib.hid ht6
                      clear ht6 hHeld
                      refine hK.out _ _ hHeld6 (fun hHeld => ?_)
                      clear hK K; refine puH ?_
                      refine nxH 6 (fun K hK => ?_)
                      go_simp
                      refine (toks13_same A6 dA N c6 dc' D w6 (by unfold maxLen; omega) HT6.out.r ((HDR.out.below hHeld6).more hHeld6.size)).mono ?_
                      rintro e w7 ⟨rfl, hb7⟩
                      have hHeld7 := hHeld6.trans (hb7.mono hHeld6.size)
                      refine hK.out _ _ hHeld7 (fun hHeld => ?_)
                      clear hK K; refine puH ?_
                      (refine tkH 7 ?_)
                      refine wpAnyH_done (by kernel_rfl) ?_ _
                      have hE7 := HE8.out.below hHeld7
                      have HE7 := Lib.hid hE7
                      clear hE7 hHeld hHeld6 hHeld7 hb6 hb7
                      go_wp2
                      go_roundw
                      case rel => exact ⟨i + 1, by omega, by go_num, HE7⟩
                      case measure => simp [intOf]; omega
                    · have e6 : decide ((0 : Int) < (i : Int)) = false := by simp; omega
                      have hi1 : i < 1 := by omega
                      clear hi0
                      have hE8 : EraI w3 g mb j i (j - 0) sv nx el docs (.slice (some ⟨db, 0, none⟩) (j + 1) dc) vs wr := by
                        have := hE.out
                        rwa [show i - 1 = i by omega] at this
                      have HE8 := Lib.hid hE8
                      obtain ⟨wT, rfl⟩ : ∃ wT : World, wT = wr := ⟨_, rfl⟩
                      clear hE8 hE
                      obtain ⟨D, dA, dc', hdr, hdv, hdl, htk⟩ := HE8.out.get (by omega)
                      have hcd : wT.cell? ⟨db, i, none⟩ = some (.slice dA D.length dc') := by
                        have h1 := HE8.out.row.cells (g := db) rfl i _ hdv
                        rwa [add_flat, Nat.zero_add] at h1
                      have hdb := own_lt HE8.out.row db rfl
                      have hF : ∀ W, Below wT.heap.size wT W → W.cell? ⟨db, i, none⟩ = some (.slice dA D.length dc') := fun W hb => (hb.cell (p := ⟨db, i, none⟩) hdb).trans hcd
                      have HF := Lib.hid hF
                      have HTK := Lib.hid htk
                      have HDR := Lib.hid hdr
                      obtain ⟨N, hN⟩ : ∃ N, N = D.length := ⟨_, rfl⟩
                      rw [← hN] at HF HTK HDR hdl
                      clear hF htk hdr hcd hdv hN
                      go_upto_region 25 with fail
                      refine wp_normal ?_
                      refine wp_region_held_drew (S := fun W => Below wT.heap.size wT W) (by kernel_rfl) (Below.drew (Below.refl _ _)) (fun hHeld => ?_)
                      generalize wT.drew = wD at *
                      (refine tkH 0 ?_; refine tkH 2 ?_; refine tkH 3 ?_; refine tkH 4 ?_; refine tkH 5 ?_)
                      refine nxH 1 (fun K hK => ?_)
                      go_simp
                      refine (HTK.out wD hHeld).mono ?_
                      rintro e w6 ⟨A6, c6, rfl, ht6, hb6⟩
                      have hHeld6 := hHeld.trans (hb6.mono hHeld.size)
                      have HT6 := Lib.hid ht6
                      clear ht6 hHeld
                      refine hK.out _ _ hHeld6 (fun hHeld => ?_)
                      clear hK K; refine puH ?_
                      refine nxH 6 (fun K hK => ?_)
                      go_simp
                      refine (toks13_same A6 dA N c6 dc' D w6 (by unfold maxLen; omega) HT6.out.r ((HDR.out.below hHeld6).more hHeld6.size)).mono ?_
                      rintro e w7 ⟨rfl, hb7⟩
                      have hHeld7 := hHeld6.trans (hb7.mono hHeld6.size)
                      refine hK.out _ _ hHeld7 (fun hHeld => ?_)
                      clear hK K; refine puH ?_
                      (refine tkH 7 ?_)
                      refine wpAnyH_done (by kernel_rfl) ?_ _
                      have hE7 := HE8.out.below hHeld7
                      have HE7 := Lib.hid hE7
                      clear hE7 hHeld hHeld6 hHeld7 hb6 hb7
                      go_wp2
                      go_roundw
                      case rel => exact ⟨i + 1, by omega, by go_num, HE7⟩
                      case measure => simp [intOf]; omega
                  · obtain rfl : i = j + 1 := by omega
                    have hbr := hE.out.b
                    have hb0r : Below w.heap.size w wr := hb03.trans (hbr.mono hb03.size)
                    clear hE
                    go_wp2_with (go_at_call 10; (refine (live42_any _).mono ?_); rintro e w9 ⟨rfl, hb9⟩)
                    go_ret
                    exact ⟨rfl, hb0r.trans (hb9.mono hb0r.size)⟩
    · have e2 : (100 : Int) < n := by omega
      go_wp2_with (go_at_call 10; (refine (live42_any _).mono ?_); rintro e w9 ⟨rfl, hb9⟩)
      go_ret
      exact ⟨rfl, hb02.trans (hb9.mono hb02.size)⟩
  · have e1 : (er != 0) = true := by simp [her]
    clear her
    go_wp2_with (go_at_call 10; (refine (live42_any _).mono ?_); rintro e w9 ⟨rfl, hb9⟩)
    go_ret
    exact ⟨rfl, hb02.trans (hb9.mono hb02.size)⟩
end Go.Proofs.YtmacfoebfpljoaaGreat
namespace Go.Proofs.YtmacfoebfpljoaaGreat
open Go.ChangeShapes Go.WideShapes Go.ChangeAt Go.RowKit
section
variable {H : Type} {enc : TypeId × Value → H} {W : World} {b : Nat} {sp : Nat → Bool} {hd : Bool}
theorem arr_at {T e : TypeId} {n fuel : Nat} {cs : List Value} {y : DataW H × List MemPlace} (hT : Tryz.prog.underlying T = some (.array n e)) (hc : Tryz.prog.cellsOf e = 1) (h : DataW.trod enc Tryz.prog W b sp hd fuel T cs = some y) :
    cs.length = Tryz.prog.cellsOf T ∧ ∀ i, i < n → ∃ m z, DataW.trod enc Tryz.prog W b sp hd m e ((cs.drop i).take 1) = some z := by
  obtain ⟨xs, m, _, _, hl, hlen, hf⟩ := DataW.trod_array hT h
  refine ⟨hl, fun i hi => ?_⟩
  have := hf i hi
  rw [hc, Nat.mul_one, List.getElem?_eq_getElem (by omega)] at this
  exact ⟨m, _, this⟩
theorem str_at {T : TypeId} {fs : Array Field} {fuel : Nat} {cs : List Value} {y : DataW H × List MemPlace} (hT : Tryz.prog.underlying T = some (.struct fs)) (h : DataW.trod enc Tryz.prog W b sp hd fuel T cs = some y) :
    cs.length = Tryz.prog.cellsOf T ∧ ∀ (i : Nat) (ty : TypeId) (off : Nat), fs[i]?.map (fun f => (f.type, f.offset)) = some (ty, off) → ∃ m z, DataW.trod enc Tryz.prog W b sp hd m ty ((cs.drop off).take (Tryz.prog.cellsOf ty)) = some z := by
  obtain ⟨xs, m, _, _, hl, hlen, hf⟩ := DataW.trod_struct hT h
  refine ⟨hl, fun i ty off hi => ?_⟩
  obtain ⟨f, hf1, hf2⟩ := Option.map_eq_some_iff.1 hi
  injection hf2 with h1 h2
  subst h1 h2
  have hlt := (Array.getElem?_eq_some_iff.1 hf1).1
  have := hf i f hf1
  rw [List.getElem?_eq_getElem (by omega)] at this
  exact ⟨m, _, this⟩
theorem open_mk (n : Nat) (cs : List Value) (y : DataW H × List MemPlace) (h : DataW.trod enc Tryz.prog W b sp hd n 124 cs = some y) : ∃ x : Mk, cs = x.cells ∧ True := by
  have hc : Tryz.prog.cellsOf 122 = 1 := by kernel_rfl
  have hc8 : Tryz.prog.cellsOf 124 = 8 := by kernel_rfl
  obtain ⟨hl, hf⟩ := arr_at (n := 8) (e := 122) (by kernel_rfl) hc h
  rw [hc8] at hl
  match cs, hl with
  | [v0, v1, v2, v3, v4, v5, v6, v7], _ =>
    obtain ⟨_, _, g0⟩ := hf 0 (by omega)
    obtain ⟨_, _, g1⟩ := hf 1 (by omega)
    obtain ⟨_, _, g2⟩ := hf 2 (by omega)
    obtain ⟨_, _, g3⟩ := hf 3 (by omega)
    obtain ⟨_, _, g4⟩ := hf 4 (by omega)
    obtain ⟨_, _, g5⟩ := hf 5 (by omega)
    obtain ⟨_, _, g6⟩ := hf 6 (by omega)
    obtain ⟨_, _, g7⟩ := hf 7 (by omega)
    simp only [List.drop_succ_cons, List.drop_zero, List.take_succ_cons, List.take_zero] at g0 g1 g2 g3 g4 g5 g6 g7
    obtain ⟨x0, e0, _, _⟩ := DataW.trod_int Tryz.underlying122 g0
    obtain ⟨x1, e1, _, _⟩ := DataW.trod_int Tryz.underlying122 g1
    obtain ⟨x2, e2, _, _⟩ := DataW.trod_int Tryz.underlying122 g2
    obtain ⟨x3, e3, _, _⟩ := DataW.trod_int Tryz.underlying122 g3
    obtain ⟨x4, e4, _, _⟩ := DataW.trod_int Tryz.underlying122 g4
    obtain ⟨x5, e5, _, _⟩ := DataW.trod_int Tryz.underlying122 g5
    obtain ⟨x6, e6, _, _⟩ := DataW.trod_int Tryz.underlying122 g6
    obtain ⟨x7, e7, _, _⟩ := DataW.trod_int Tryz.underlying122 g7
    injection e0 with e0; injection e1 with e1; injection e2 with e2; injection e3 with e3; injection e4 with e4; injection e5 with e5; injection e6 with e6; injection e7 with e7
    subst e0 e1 e2 e3 e4 e5 e6 e7
    exact ⟨⟨x0, x1, x2, x3, x4, x5, x6, x7⟩, rfl, trivial⟩
set_option maxRecDepth 100000 in
theorem open_tok (n : Nat) (cs : List Value) (y : DataW H × List MemPlace) (h : DataW.trod enc Tryz.prog W b sp hd n 126 cs = some y) : ∃ x : Tok, cs = x.cells ∧ True := by
  have hc : Tryz.prog.cellsOf 3 = 1 := by kernel_rfl
  have hc3 : Tryz.prog.cellsOf 21 = 1 := by kernel_rfl
  have hc8 : Tryz.prog.cellsOf 124 = 8 := by kernel_rfl
  have hc12 : Tryz.prog.cellsOf 126 = 12 := by kernel_rfl
  obtain ⟨hl, hf⟩ := str_at Tryz.underlying126 h
  rw [hc12] at hl
  match cs, hl with
  | [v0, v1, v2, v3, u0, u1, u2, u3, u4, u5, u6, u7], _ =>
    obtain ⟨_, _, g0⟩ := hf 0 3 0 rfl
    obtain ⟨_, _, g1⟩ := hf 1 3 1 rfl
    obtain ⟨_, _, g2⟩ := hf 2 3 2 rfl
    obtain ⟨_, _, g3⟩ := hf 3 21 3 rfl
    obtain ⟨_, _, g4⟩ := hf 4 124 4 rfl
    simp only [hc, hc3, hc8, List.drop_succ_cons, List.drop_zero, List.take_succ_cons, List.take_zero] at g0 g1 g2 g3 g4
    obtain ⟨x0, e0, _, _⟩ := DataW.trod_int Tryz.underlying3 g0
    obtain ⟨x1, e1, _, _⟩ := DataW.trod_int Tryz.underlying3 g1
    obtain ⟨x2, e2, _, _⟩ := DataW.trod_int Tryz.underlying3 g2
    obtain ⟨x3, e3, _, _⟩ := DataW.trod_int Tryz.underlying21 g3
    obtain ⟨m, e4, _⟩ := open_mk _ _ _ g4
    injection e0 with e0; injection e1 with e1; injection e2 with e2; injection e3 with e3
    subst e0 e1 e2 e3
    refine ⟨⟨x0, x1, x2, x3, m⟩, ?_, trivial⟩
    rw [Tok.cells, ← e4]
end
section
variable {H : Type} {enc : TypeId × Value → H} {W : World} {b : Nat} {sp : Nat → Bool} {hd : Bool} {a : Option Addr} {len cap : Nat} {d : DataW H} {pl : List MemPlace}
theorem open_toks (h : ∃ fuel, DataW.trod enc Tryz.prog W b sp hd fuel 22 [.slice a len cap] = some (d, pl)) : ∃ l : List Tok, l.length = len ∧ Rd W W.heap.size 12 a len (toks l) ∧ len ≤ cap ∧ cap ≤ maxLen ∧ (a = none → len = 0) := by
  obtain ⟨l, h1, h2, h3, h4, h5, _⟩ := open_els (s := 12) Tok.cells (fun _ => True) Tryz.underlying22 (by kernel_rfl) (by omega) (fun _ => rfl) h open_tok
  exact ⟨l, h1, h2, h3, h4, h5⟩
theorem open_mks (h : ∃ fuel, DataW.trod enc Tryz.prog W b sp hd fuel 43 [.slice a len cap] = some (d, pl)) : ∃ l : List Mk, l.length = len ∧ Rd W W.heap.size 8 a len (mks l) ∧ len ≤ cap ∧ cap ≤ maxLen ∧ (a = none → len = 0) := by
  obtain ⟨l, h1, h2, h3, h4, h5, _⟩ := open_els (s := 8) Mk.cells (fun _ => True) Tryz.underlying43 (by kernel_rfl) (by omega) (fun _ => rfl) h open_mk
  exact ⟨l, h1, h2, h3, h4, h5⟩
end
section
variable {H : Type} {enc : TypeId × Value → H} {W : World} {b : Nat} {sp : Nat → Bool} {hd : Bool}
theorem slice_at {T E : TypeId} {fuel : Nat} {v : Value} {y : DataW H × List MemPlace} (hT : Tryz.prog.underlying T = some (.slice E)) (h : DataW.trod enc Tryz.prog W b sp hd fuel T [v] = some y) : ∃ a len cap, v = .slice a len cap := by
  rcases Deep.open_slice hT h with ⟨hcs, _⟩ | ⟨x, l, c, m, n, D, Pl, hcs, _⟩
  · simp at hcs; exact ⟨_, _, _, hcs⟩
  · simp at hcs; exact ⟨_, _, _, hcs⟩
end
end Go.Proofs.YtmacfoebfpljoaaGreat
namespace Go.Proofs.YtmacfoebfpljoaaGreat
open Go.ChangeShapes Go.WideShapes Go.ChangeAt Go.RowKit
section
variable {H : Type} {enc : TypeId × Value → H} {W : World} {b : Nat} {sp : Nat → Bool} {hd : Bool}
set_option maxRecDepth 100000 in
theorem open_stepw (n : Nat) (cs : List Value) (y : DataW H × List MemPlace) (h : DataW.trod enc Tryz.prog W b sp hd n 45 cs = some y) : ∃ s : StH, cs = s.cells ∧ (s.Raw W W.heap.size ∧ s.n ≤ s.c ∧ s.n' ≤ s.c') := by
  have hc : Tryz.prog.cellsOf 3 = 1 := by kernel_rfl
  have hc1 : Tryz.prog.cellsOf 22 = 1 := by kernel_rfl
  have hc2 : Tryz.prog.cellsOf 43 = 1 := by kernel_rfl
  have hc10 : Tryz.prog.cellsOf 45 = 10 := by kernel_rfl
  obtain ⟨hl, hf⟩ := str_at Tryz.underlying45 h
  rw [hc10] at hl
  match cs, hl with
  | [v0, v1, v2, v3, v4, v5, v6, v7, v8, v9], _ =>
    obtain ⟨_, _, g0⟩ := hf 0 3 0 rfl
    obtain ⟨_, _, g1⟩ := hf 1 3 1 rfl
    obtain ⟨_, _, g2⟩ := hf 2 3 2 rfl
    obtain ⟨_, _, g3⟩ := hf 3 3 3 rfl
    obtain ⟨_, _, g4⟩ := hf 4 3 4 rfl
    obtain ⟨_, _, g5⟩ := hf 5 3 5 rfl
    obtain ⟨_, _, g6⟩ := hf 6 3 6 rfl
    obtain ⟨_, _, g7⟩ := hf 7 3 7 rfl
    obtain ⟨_, ⟨_, _⟩, g8⟩ := hf 8 22 8 rfl
    obtain ⟨_, ⟨_, _⟩, g9⟩ := hf 9 43 9 rfl
    simp only [hc, hc1, hc2, List.drop_succ_cons, List.drop_zero, List.take_succ_cons, List.take_zero] at g0 g1 g2 g3 g4 g5 g6 g7 g8 g9
    obtain ⟨x0, e0, _, _⟩ := DataW.trod_int Tryz.underlying3 g0
    obtain ⟨x1, e1, _, _⟩ := DataW.trod_int Tryz.underlying3 g1
    obtain ⟨x2, e2, _, _⟩ := DataW.trod_int Tryz.underlying3 g2
    obtain ⟨x3, e3, _, _⟩ := DataW.trod_int Tryz.underlying3 g3
    obtain ⟨x4, e4, _, _⟩ := DataW.trod_int Tryz.underlying3 g4
    obtain ⟨x5, e5, _, _⟩ := DataW.trod_int Tryz.underlying3 g5
    obtain ⟨x6, e6, _, _⟩ := DataW.trod_int Tryz.underlying3 g6
    obtain ⟨x7, e7, _, _⟩ := DataW.trod_int Tryz.underlying3 g7
    injection e0 with e0; injection e1 with e1; injection e2 with e2; injection e3 with e3; injection e4 with e4; injection e5 with e5; injection e6 with e6; injection e7 with e7
    subst e0 e1 e2 e3 e4 e5 e6 e7
    obtain ⟨A, n, c, rfl⟩ := slice_at Tryz.underlying22 g8
    obtain ⟨A', n', c', rfl⟩ := slice_at Tryz.underlying43 g9
    obtain ⟨sl, _, p2, p3, p4, p5⟩ := open_toks ⟨_, g8⟩
    obtain ⟨st, _, q2, q3, q4, q5⟩ := open_mks ⟨_, g9⟩
    exact ⟨⟨A, n, c, A', n', c', ⟨x0, x1, x2, x3, x4, x5, x6, x7, sl, st⟩⟩, rfl, ⟨p2, q2, by show n ≤ maxLen; omega, by show n' ≤ maxLen; omega, p5, q5⟩, p3, q3⟩
theorem open_stsw {a : Option Addr} {len cap : Nat} {d : DataW H} {pl : List MemPlace} (h : ∃ fuel, DataW.trod enc Tryz.prog W b sp hd fuel 23 [.slice a len cap] = some (d, pl)) : ∃ L : List StH, StsRaw W W.heap.size a len L ∧ (∀ s ∈ L, s.n ≤ s.c ∧ s.n' ≤ s.c') ∧ len ≤ cap ∧ cap ≤ maxLen ∧ (a = none → len = 0) := by
  obtain ⟨l, h1, h2, h3, h4, h5, h6⟩ := open_els (s := 10) StH.cells (fun s => s.Raw W W.heap.size ∧ s.n ≤ s.c ∧ s.n' ≤ s.c') Tryz.underlying23 (by kernel_rfl) (by omega) (fun _ => rfl) h open_stepw
  exact ⟨l, ⟨h2, fun s hs => (h6 s hs).1⟩, fun s hs => (h6 s hs).2, h3, h4, h5⟩
end
end Go.Proofs.YtmacfoebfpljoaaGreat
