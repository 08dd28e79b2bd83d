/- chain: ChainMoves' walk -/
import Derived.Test.YtmacfoebfpljoaaClv
import Derived.Test.YtmacfoebfpljoaaCfw
import Derived.Test.YtmacfoebfpljoaaCsa
import Derived.Test.YtmacfoebfpljoaaStF
import Derived.Test.YtmacfoebfpljoaaCcp
namespace Go.Proofs.Ytmacfoebfpljoaa
open Go.RowKit

theorem GrsRaw.ext {w w' : World} {n : Nat} {A : Option Addr} {L : List GrH} (h : GrsRaw w w.heap.size A n L) (hb : Below w.heap.size w w') : GrsRaw w' w'.heap.size A n L := ⟨(h.1.below hb).more hb.size, fun g hg => ⟨((h.2 g hg).sts.below hb).more hb.size, (h.2 g hg).n, (h.2 g hg).A, (h.2 g hg).lost⟩⟩
theorem small_le {L : List GrH} (h : Small L) : ∀ g ∈ L, g.n ≤ 1000 := fun g hg => by have := (h g hg).1; omega
theorem raw_lost {w : World} {B n : Nat} {A : Option Addr} {L : List GrH} (h : GrsRaw w B A n L) : ∀ g ∈ L, -9223372036854775808 ≤ g.lost ∧ g.lost ≤ 9223372036854775807 := fun g hg => (h.2 g hg).lost
/-- groups that were read once more -/
theorem grs_in {w w' : World} {v : Value} {base n B : Nat} {A : Option Addr} {L : List GrH} (h : GrsRaw w B A n L) (hs : Small L) (ho : w'.ownsRow base 36 8 v n (grs L)) (hb : Below B w w') (hB : B ≤ w'.heap.size) : ∃ A2 c2, v = .slice A2 n c2 ∧ GrsIn w' w'.heap.size A2 n L := by
  obtain ⟨A2, c2, rfl, _, _, _, h4⟩ := own_form ho
  exact ⟨A2, c2, rfl, h4, fun g hg => (((h.in_ hs).below hb).2 g hg).more hB⟩

theorem tot_len {L : List GrH} (h : ∀ g ∈ L, g.L.length = g.n) : ((L.map GrH.val).flatMap GrC.steps).length = tot L := by
  induction L with
  | nil => rfl
  | cons g L ih =>
    have h1 := h g (by simp)
    have h2 := ih (fun x hx => h x (by simp [hx]))
    simp only [tot, List.map_cons, List.flatMap_cons, List.length_append, List.sum_cons] at *
    rw [h2]
    simp [GrH.val, h1]
/-- what Over makes of splices, as it lies -/
theorem spl_here {L L5 : List GrH} {k : Int} (hk : 0 ≤ k ∧ k ≤ 255) (hs : ∀ g ∈ L, ∀ s ∈ g.L, Spl s.x) (hl : ∀ g ∈ L, -9223372036854775808 ≤ g.lost ∧ g.lost ≤ 9223372036854775807) (ht : tot L ≤ 24) (hn : ∀ g ∈ L, g.L.length = g.n) (hV : L5.map GrH.val = overC [⟨0, 0, k⟩] (L.map GrH.val)) {i : Nat} {g : GrH} (hg : L[i]? = some g) :
    ∃ a, L5[i]? = some a ∧ a.lost = g.lost ∧ a.L.length = g.L.length ∧ ∀ (j : Nat) (s : StH), g.L[j]? = some s → ∃ s', a.L[j]? = some s' ∧ s'.x = s.x.by_ k := by
  have hgv : (L.map GrH.val)[i]? = some g.val := by rw [List.getElem?_map, hg]; rfl
  obtain ⟨a, ha, h1, h2⟩ := spl_all (d := k) (L := L.map GrH.val) hk (by
    intro y hy x hx
    obtain ⟨y', hy', rfl⟩ := List.mem_map.1 hy
    obtain ⟨s, hs', rfl⟩ := List.mem_map.1 hx
    exact hs y' hy' s hs') (by
    intro y hy
    obtain ⟨y', hy', rfl⟩ := List.mem_map.1 hy
    exact hl y' hy') (by rw [tot_len hn]; exact ht) hgv
  rw [← hV, List.getElem?_map] at ha
  obtain ⟨a', ha', rfl⟩ := Option.map_eq_some_iff.1 ha
  have h1' : a'.L.map StH.x = (g.L.map StH.x).map (StC.by_ k) := h1
  refine ⟨a', ha', h2, by simpa using congrArg List.length h1', ?_⟩
  intro j s hj
  have := congrArg (·[j]?) h1'
  simp only [List.getElem?_map, hj, Option.map_some] at this
  obtain ⟨s', hs', e⟩ := Option.map_eq_some_iff.1 this
  exact ⟨s', hs', e⟩

set_option maxRecDepth 100000 in
set_option maxHeartbeats 8000000 in
theorem moves_any (A : Option Addr) (n c : Nat) (L : List GrH) (k : Int) (w : World) (h : GrsRaw w w.heap.size A n L) (hn : n ≤ maxLen) (hk : 0 ≤ k ∧ k ≤ 255) :
    Calls Try.prog 4 #[.slice A n c, .int .u8 k] w fun e w' => e = .returned (.bool true) ∧ Below w.heap.size w w' := by
  have hlv := fun W (hb : Below w.heap.size w W) => calls_on hb (live35_any W)
  have HLV := Lib.hid hlv
  have hfw := few35_any A n c L w h hn
  have HFW := Lib.hid hfw
  have H := Lib.hid h
  have HLEN := Lib.hid h.len
  clear h hlv hfw hn
  go_enter Try.func4, Try.ntmps4
  go_wp2_with (go_at_call 6; fail)
  refine HFW.out.mono ?_
  rintro e w1 ⟨b1, rfl, hyes, hb1⟩
  cases b1 with
  | false =>
    go_wp2_with (go_at_call 7; (refine (HLV.out _ hb1).mono ?_); rintro e w2 ⟨rfl, hb2, _, _⟩)
    go_ret
    exact ⟨rfl, hb2⟩
  | true =>
    obtain ⟨y1, y2, y3⟩ := hyes rfl
    have HT := Lib.hid y2
    have HSM := Lib.hid y3
    have hgi := H.out.in_ y3
    have HGI := Lib.hid hgi
    have hconv : (IntKind.i64.wrap k) = k := IntWalk.i64_in _ (by omega)
    clear hyes HFW y2 y3 hgi
    go_wp2
    go_loopw [6] (fun j wr => ∃ q : Nat, q ≤ n ∧ j = .int .i64 q ∧ Hid (∀ g ∈ L.take q, ∀ s ∈ g.L, Spl s.x) ∧ Below w.heap.size w wr) (fun j _ => n - (intOf j).toNat)
    case atStart => exact ⟨0, by omega, rfl, Lib.hid (by simp), hb1⟩
    case round =>
      rename World => wo
      obtain ⟨q, hq, rfl, hsp, hbr⟩ := hrel
      by_cases hqn : q < n
      · obtain ⟨g, hx⟩ : ∃ g, L[q]? = some g := ⟨_, List.getElem?_eq_getElem (by have := HLEN.out; omega)⟩
        obtain ⟨gin, b, o, rfl, hb, hcc⟩ := HGI.out.at_ hx
        have hgn := (HSM.out g (List.mem_of_getElem? hx)).1
        have HGS := Lib.hid (HSM.out g (List.mem_of_getElem? hx)).2
        have HX := Lib.hid hx
        have hglen : g.L.length = g.n := gin.sts.len
        have GIN := Lib.hid gin
        have d0 : ∀ W, Below w.heap.size w W → W.cell? ⟨b, o + q * 8, none⟩ = some (.slice g.A g.n g.c) := fun W hb' => (hb'.cell (by simpa using hb)).trans (hcc 0 (by omega))
        have HD0 := Lib.hid d0
        have e3 : (q : Int) < n := by omega
        have c0 := d0 wo hbr
        clear hx hcc gin d0
        go_wp2
        go_loopw [7] (fun j wr => ∃ p : Nat, p ≤ g.n ∧ j = .int .i64 p ∧ Hid (∀ s ∈ g.L.take p, Spl s.x) ∧ Below w.heap.size w wr) (fun j _ => g.n - (intOf j).toNat)
        case atStart => exact ⟨0, by omega, rfl, Lib.hid (by simp), hbr⟩
        case round =>
          obtain ⟨p, hp, rfl, hsp2, hbr2⟩ := hrel
          have c0' := HD0.out wr hbr2
          have hbz := hbr2.size
          by_cases hpn : p < g.n
          · obtain ⟨s, hxs⟩ : ∃ s, g.L[p]? = some s := ⟨_, List.getElem?_eq_getElem (by omega)⟩
            obtain ⟨sin, bs, os, hA, hbs, hcs⟩ := (GIN.out.sts.below hbr2).at_ hxs
            rw [hA] at c0'
            have hss := HGS.out s (List.mem_of_getElem? hxs)
            have HXS := Lib.hid hxs
            have hln := sin.len
            have hln' := sin.len'
            obtain ⟨sA, sn, sc, sA', sn', sc', ⟨xk, xf, xt, xg, xh, xi, xm, xv, xsl, xst⟩⟩ := s
            have c0 := hcs 0 (by omega); have c1 := hcs 1 (by omega); have c2 := hcs 2 (by omega); have c3 := hcs 3 (by omega); have c4 := hcs 4 (by omega); have c5 := hcs 5 (by omega); have c6 := hcs 6 (by omega); have c7 := hcs 7 (by omega); have c8 := hcs 8 (by omega); have c9 := hcs 9 (by omega)
            dsimp [StH.cells] at c0 c1 c2 c3 c4 c5 c6 c7 c8 c9 hss hln hln'
            have e4 : (p : Int) < g.n := by omega
            have hshp := fun W (hb : Below w.heap.size w W) => calls_on hb (rshape_any xk xf xt xg xh xi xm xv sA sA' sn sn' sc sc' W (by omega) (by omega))
            have k8 := Bk.new wr 41 #[.int .i64 xk, .int .i64 xf, .int .i64 xt, .int .i64 xg, .int .i64 xh, .int .i64 xi, .int .i64 xm, .int .i64 xv, .slice sA sn sc, .slice sA' sn' sc']
            clear hxs hcs sin
            by_cases hk1 : xk = 1
            · subst hk1
              cases hsh : shB 1 xf xt xg xh xi xm xv sn sn' with
              | false =>
                rw [hsh] at hshp
                have HSHP := Lib.hid hshp
                clear hshp hsh
                go_wp2_with (first
                  | (go_at_call 11; (refine (HSHP.out _ (by repeat (first | with_reducible exact Below.refl _ _ | with_reducible assumption | (with_reducible refine below_drewN ?_ _) | (with_reducible refine Below.drew ?_) | (with_reducible refine Below.alloc ?_ ?_ _; rotate_left; focus (first | with_reducible assumption | omega | (simp; done) | (simp; omega))) | (with_reducible refine Below.setCell ?_ ?_ _; rotate_left; focus (first | with_reducible assumption | omega | (simp; done) | (simp; omega)))))).mono ?_); rintro e w3 ⟨rfl, hb3, hz3, hx3⟩; have j8 := k8.ext hx3; have z2 := j8.cell 2; dsimp at z2)
                  | (go_at_call 7; (refine (HLV.out _ hb3).mono ?_); rintro e w4 ⟨rfl, hb4, _, _⟩))
                go_ret
                exact ⟨rfl, hb4⟩
              | true =>
                rw [hsh] at hshp
                have HSHP := Lib.hid hshp
                have HSH := Lib.hid hsh
                clear hshp hsh
                by_cases hto : 1000000 < xt
                · go_wp2_with (first
                    | (go_at_call 11; (refine (HSHP.out _ (by repeat (first | with_reducible exact Below.refl _ _ | with_reducible assumption | (with_reducible refine below_drewN ?_ _) | (with_reducible refine Below.drew ?_) | (with_reducible refine Below.alloc ?_ ?_ _; rotate_left; focus (first | with_reducible assumption | omega | (simp; done) | (simp; omega))) | (with_reducible refine Below.setCell ?_ ?_ _; rotate_left; focus (first | with_reducible assumption | omega | (simp; done) | (simp; omega)))))).mono ?_); rintro e w3 ⟨rfl, hb3, hz3, hx3⟩; have j8 := k8.ext hx3; have z2 := j8.cell 2; dsimp at z2)
                    | (go_at_call 7; (refine (HLV.out _ hb3).mono ?_); rintro e w4 ⟨rfl, hb4, _, _⟩))
                  go_ret
                  exact ⟨rfl, hb4⟩
                · go_wp2_with (first
                    | (go_at_call 11; (refine (HSHP.out _ (by repeat (first | with_reducible exact Below.refl _ _ | with_reducible assumption | (with_reducible refine below_drewN ?_ _) | (with_reducible refine Below.drew ?_) | (with_reducible refine Below.alloc ?_ ?_ _; rotate_left; focus (first | with_reducible assumption | omega | (simp; done) | (simp; omega))) | (with_reducible refine Below.setCell ?_ ?_ _; rotate_left; focus (first | with_reducible assumption | omega | (simp; done) | (simp; omega)))))).mono ?_); rintro e w3 ⟨rfl, hb3, hz3, hx3⟩; have j8 := k8.ext hx3; have z2 := j8.cell 2; dsimp at z2))
                  go_roundw
                  case rel =>
                    refine ⟨p + 1, by omega, by go_num, Lib.hid ?_, hb3⟩
                    intro s hs
                    rw [List.take_add_one, HXS.out] at hs
                    rcases List.mem_append.1 hs with hs | hs
                    · exact hsp2.out s hs
                    · simp at hs
                      subst hs
                      refine ⟨rfl, ?_, by show xt ≤ 1000000; omega⟩
                      show shB 1 xf xt xg xh xi xm xv xsl.length xst.length = true
                      rw [hln, hln']
                      exact HSH.out
                  case measure => simp [intOf]; omega
            · have t1 : (xk != 1) = true := by simpa using hk1
              clear hshp
              go_wp2_with (first
                | (go_at_call 7; (refine (HLV.out _ (by repeat (first | with_reducible exact Below.refl _ _ | with_reducible assumption | (with_reducible refine below_drewN ?_ _) | (with_reducible refine Below.drew ?_) | (with_reducible refine Below.alloc ?_ ?_ _; rotate_left; focus (first | with_reducible assumption | omega | (simp; done) | (simp; omega))) | (with_reducible refine Below.setCell ?_ ?_ _; rotate_left; focus (first | with_reducible assumption | omega | (simp; done) | (simp; omega)))))).mono ?_); rintro e w4 ⟨rfl, hb4, _, _⟩))
              go_ret
              exact ⟨rfl, hb4⟩
          · obtain rfl : g.n = p := by omega
            go_wp2
            go_roundw
            case rel =>
              refine ⟨q + 1, by omega, by go_num, Lib.hid ?_, hbr2⟩
              intro y hy s hs
              rw [List.take_add_one, HX.out] at hy
              rcases List.mem_append.1 hy with hy | hy
              · exact hsp.out y hy s hs
              · simp at hy
                subst hy
                have := hsp2.out
                rw [List.take_of_length_le (by omega)] at this
                exact this s hs
            case measure => simp [intOf]; omega
      · obtain rfl : n = q := by omega
        have hspl : ∀ g ∈ L, ∀ s ∈ g.L, Spl s.x := by
          have := hsp.out
          rwa [List.take_of_length_le (by rw [HLEN.out]; omega)] at this
        have HSPL := Lib.hid hspl
        clear hspl hsp
        have hth := fun W (hb : Below w.heap.size w W) => theirs_any A n c L W (H.out.ext hb) (by omega)
        have HTH := Lib.hid hth
        clear hth
        go_wp2_with (go_at_call 9; (refine (HTH.out _ hbr).mono ?_); rintro e w3 ⟨v3, rfl, ho3, hb3⟩)
        go_wp2_with (go_at_call 8; fail)
        obtain ⟨A3, c3, rfl, hin3⟩ := grs_in H.out HSM.out (own_base ho3 hbr.size) (hbr.trans (hb3.mono hbr.size)) (Nat.le_trans hbr.size hb3.size)
        have hb4 : Below w3.heap.size w3 (w3.alloc (.cells #[.int .i64 0, .int .i64 0, .int .i64 k] 45)) := by repeat (first | with_reducible exact Below.refl _ _ | with_reducible assumption | (with_reducible refine below_drewN ?_ _) | (with_reducible refine Below.drew ?_) | (with_reducible refine Below.alloc ?_ ?_ _; rotate_left; focus (first | with_reducible assumption | omega | (simp; done) | (simp; omega))) | (with_reducible refine Below.setCell ?_ ?_ _; rotate_left; focus (first | with_reducible assumption | omega | (simp; done) | (simp; omega))))
        have k4 := Bk.new w3 45 #[.int .i64 0, .int .i64 0, .int .i64 k]
        refine (over_any A3 n c3 L _ 1 1 [⟨0, 0, k⟩] _ (hin3.ext hb4) (by omega) (small_le HSM.out) (raw_lost H.out) ⟨Rd.of_bk k4 rfl rfl (def_lt' k4), by omega⟩).mono ?_
        intro e w5 ho
        obtain ⟨A5, n5, c5, L5, rfl, hl5, -, hin5, -, hV5, hb5⟩ := grs_out ho
        have hn5 : n5 = n := by
          have := congrArg List.length hV5
          rw [List.length_map, overC_len, List.length_map, HLEN.out, hl5] at this
          exact this
        subst hn5
        have hpl := fun (i : Nat) (g : GrH) (hg : L[i]? = some g) => spl_here hk HSPL.out (raw_lost H.out) HT.out (fun g hg => (HGI.out.2 g hg).sts.len) hV5 hg
        have HPL := Lib.hid hpl
        have HIN5 := Lib.hid hin5
        have hw5 : Below w.heap.size w w5 := (hbr.trans (hb3.mono hbr.size)).trans ((hb4.trans (hb5.mono hb4.size)).mono (Nat.le_trans hbr.size hb3.size))
        clear ho hl5 hin5 hV5 hb5 hpl hin3 hb4 k4 ho3 hb3 HTH hbr hb1
        go_wp2
        go_loopw [10] (fun j wr => ∃ q : Nat, q ≤ n5 ∧ j = .int .i64 q ∧ Below w5.heap.size w5 wr) (fun j _ => n5 - (intOf j).toNat)
        case atStart => exact ⟨0, by omega, rfl, Below.refl _ _⟩
        case round =>
          rename World => w6
          obtain ⟨q, hq, rfl, hb6⟩ := hrel
          by_cases hqn : q < n5
          · obtain ⟨g, hx⟩ : ∃ g, L[q]? = some g := ⟨_, List.getElem?_eq_getElem (by have := HLEN.out; omega)⟩
            obtain ⟨a, ha, hlost, hlen, hstep⟩ := HPL.out q g hx
            obtain ⟨gin, b, o, rfl, hb, hcc⟩ := HGI.out.at_ hx
            obtain ⟨ain, b', o', rfl, hb', hdd⟩ := HIN5.out.at_ ha
            have hgn := (HSM.out g (List.mem_of_getElem? hx)).1
            have hglen : g.L.length = g.n := gin.sts.len
            have halen : a.L.length = a.n := ain.sts.len
            have han : a.n = g.n := by omega
            have GSP := Lib.hid (HSPL.out g (List.mem_of_getElem? hx))
            have GIN := Lib.hid gin
            have AIN := Lib.hid ain
            have HST := Lib.hid hstep
            have hcell : ∀ W, Below w5.heap.size w5 W → W.cell? ⟨b, o + q * 8, none⟩ = some (.slice g.A g.n g.c) ∧ W.cell? ⟨b, o + q * 8 + 7, none⟩ = some (.int .i64 g.lost) ∧ W.cell? ⟨b', o' + q * 8, none⟩ = some (.slice a.A g.n a.c) ∧ W.cell? ⟨b', o' + q * 8 + 7, none⟩ = some (.int .i64 g.lost) := by
              intro W hbW
              have hbw := hw5.trans (hbW.mono hw5.size)
              refine ⟨(hbw.cell (by simpa using hb)).trans (hcc 0 (by omega)), (hbw.cell (by simpa using hb)).trans (hcc 7 (by omega)), ?_, ?_⟩
              · rw [← han]; exact (hbW.cell (by simpa using hb')).trans (hdd 0 (by omega))
              · rw [← hlost]; exact (hbW.cell (by simpa using hb')).trans (hdd 7 (by omega))
            have HC := Lib.hid hcell
            obtain ⟨c0, c7, d0, d7⟩ := hcell w6 hb6
            have e3 : (q : Int) < n5 := by omega
            have t1 : ((g.lost != g.lost) : Bool) = false := by simp
            have t2 : (((g.n : Int) != (g.n : Int)) : Bool) = false := by simp
            clear hx ha hstep hcc hdd gin ain hcell hlost hlen halen
            go_wp2
            go_quiet (fail)
            go_wp2
            go_loopw [11] (fun j wr => ∃ p : Nat, p ≤ g.n ∧ j = .int .i64 p ∧ Below w5.heap.size w5 wr) (fun j _ => g.n - (intOf j).toNat)
            case atStart => exact ⟨0, by omega, rfl, below_drewN hb6 _⟩
            case round =>
              obtain ⟨p, hp, rfl, hbr⟩ := hrel
              obtain ⟨c0', c7', d0', d7'⟩ := HC.out wr hbr
              have hbrw : Below w.heap.size w wr := hw5.trans (hbr.mono hw5.size)
              by_cases hpn : p < g.n
              · obtain ⟨s, hxs⟩ : ∃ s, g.L[p]? = some s := ⟨_, List.getElem?_eq_getElem (by omega)⟩
                obtain ⟨s', hxs', he⟩ := HST.out p s hxs
                have hspl := GSP.out s (List.mem_of_getElem? hxs)
                obtain ⟨sin, bs, os, hA, hbs, hcs⟩ := GIN.out.sts.at_ hxs
                obtain ⟨sin', bs', os', hA', hbs', hcs'⟩ := AIN.out.sts.at_ hxs'
                rw [hA] at c0'
                rw [hA'] at d0'
                obtain ⟨sA, sn, sc, sA', sn', sc', ⟨xk, xf, xt, xg, xh, xi, xm, xv, xsl, xst⟩⟩ := s
                obtain ⟨tA, tn, tc, tA', tn', tc', tx⟩ := s'
                simp only at he
                subst he
                have hbd := hspl.bd
                have h1 : xsl.length = sn := sin.len
                have h2 : xst.length = sn' := sin.len'
                have h3 : xsl.length = tn := sin'.len
                have h4 : xst.length = tn' := sin'.len'
                obtain rfl : tn = sn := by omega
                obtain rfl : tn' = sn' := by omega
                clear h1 h2 h3 h4 hspl
                simp only [StC.by_] at hcs' sin'
                have hsame := fun W (hb : Below w5.heap.size w5 W) => calls_on hb (rsame_eq ⟨xk, xf + k, xt + k, xg, xh, xi, xm, xv, xsl, xst⟩ tA tA' sA sA' tn tn' tc tc' sc sc' W ((sin'.below hb).more hb.size) ⟨(sin.rd.below (hw5.trans (hb.mono hw5.size))).more (Nat.le_trans hw5.size hb.size), (sin.rd'.below (hw5.trans (hb.mono hw5.size))).more (Nat.le_trans hw5.size hb.size), sin.n, sin.n', sin.A, sin.A'⟩)
                have HSAME := Lib.hid hsame
                have c0 := (hbrw.cell (p := ⟨bs, os + p * 10 + 0, none⟩) (by simpa using hbs)).trans (hcs 0 (by omega)); have c1 := (hbrw.cell (p := ⟨bs, os + p * 10 + 1, none⟩) (by simpa using hbs)).trans (hcs 1 (by omega)); have c2 := (hbrw.cell (p := ⟨bs, os + p * 10 + 2, none⟩) (by simpa using hbs)).trans (hcs 2 (by omega)); have c3 := (hbrw.cell (p := ⟨bs, os + p * 10 + 3, none⟩) (by simpa using hbs)).trans (hcs 3 (by omega)); have c4 := (hbrw.cell (p := ⟨bs, os + p * 10 + 4, none⟩) (by simpa using hbs)).trans (hcs 4 (by omega)); have c5 := (hbrw.cell (p := ⟨bs, os + p * 10 + 5, none⟩) (by simpa using hbs)).trans (hcs 5 (by omega)); have c6 := (hbrw.cell (p := ⟨bs, os + p * 10 + 6, none⟩) (by simpa using hbs)).trans (hcs 6 (by omega)); have c7 := (hbrw.cell (p := ⟨bs, os + p * 10 + 7, none⟩) (by simpa using hbs)).trans (hcs 7 (by omega)); have c8 := (hbrw.cell (p := ⟨bs, os + p * 10 + 8, none⟩) (by simpa using hbs)).trans (hcs 8 (by omega)); have c9 := (hbrw.cell (p := ⟨bs, os + p * 10 + 9, none⟩) (by simpa using hbs)).trans (hcs 9 (by omega))
                dsimp [StH.cells] at c0 c1 c2 c3 c4 c5 c6 c7 c8 c9 hbd
                have hD : ∀ W, Below w5.heap.size w5 W → ∀ i, i < 10 → W.cell? ⟨bs', os' + p * 10 + i, none⟩ = (StH.mk tA tn tc tA' tn' tc' ⟨xk, xf + k, xt + k, xg, xh, xi, xm, xv, xsl, xst⟩).cells[i]? := fun W hb i hi => (hb.cell (p := ⟨bs', os' + p * 10 + i, none⟩) (by simpa using hbs')).trans (hcs' i hi)
                have HD := Lib.hid hD
                have e4 : (p : Int) < g.n := by omega
                have w1 : IntKind.i64.wrap (xf + k) = xf + k := IntWalk.i64_in _ (by omega)
                have w2 : IntKind.i64.wrap (xt + k) = xt + k := IntWalk.i64_in _ (by omega)
                clear hxs hxs' hcs hcs' sin sin' hsame hD
                go_upto_region 27 with fail
                have k9 := Bk.new wr 41 #[.int .i64 xk, .int .i64 (xf + k), .int .i64 (xt + k), .int .i64 xg, .int .i64 xh, .int .i64 xi, .int .i64 xm, .int .i64 xv, .slice sA tn sc, .slice sA' tn' sc']
                have hbz := hbr.size
                have hb9 : Below w5.heap.size w5 (wr.alloc (.cells #[.int .i64 xk, .int .i64 (xf + k), .int .i64 (xt + k), .int .i64 xg, .int .i64 xh, .int .i64 xi, .int .i64 xm, .int .i64 xv, .slice sA tn sc, .slice sA' tn' sc'] 41)) := by repeat (first | with_reducible exact Below.refl _ _ | with_reducible assumption | (with_reducible refine below_drewN ?_ _) | (with_reducible refine Below.drew ?_) | (with_reducible refine Below.alloc ?_ ?_ _; rotate_left; focus (first | with_reducible assumption | omega | (simp; done) | (simp; omega))) | (with_reducible refine Below.setCell ?_ ?_ _; rotate_left; focus (first | with_reducible assumption | omega | (simp; done) | (simp; omega))))
                generalize wr.alloc (.cells #[.int .i64 xk, .int .i64 (xf + k), .int .i64 (xt + k), .int .i64 xg, .int .i64 xh, .int .i64 xi, .int .i64 xm, .int .i64 xv, .slice sA tn sc, .slice sA' tn' sc'] 41) = w9 at *
                have hF : ∀ W, Below w9.heap.size w9 W → W.cell? ⟨b', o' + q * 8, none⟩ = some (.slice (some ⟨bs', os', none⟩) g.n a.c) ∧ W.cell? ⟨bs', os' + p * 10, none⟩ = some (.int .i64 xk) ∧ W.cell? ⟨bs', os' + p * 10 + 1, none⟩ = some (.int .i64 (xf + k)) ∧ W.cell? ⟨bs', os' + p * 10 + 2, none⟩ = some (.int .i64 (xt + k)) ∧ W.cell? ⟨bs', os' + p * 10 + 3, none⟩ = some (.int .i64 xg) ∧ W.cell? ⟨bs', os' + p * 10 + 4, none⟩ = some (.int .i64 xh) ∧ W.cell? ⟨bs', os' + p * 10 + 5, none⟩ = some (.int .i64 xi) ∧ W.cell? ⟨bs', os' + p * 10 + 6, none⟩ = some (.int .i64 xm) ∧ W.cell? ⟨bs', os' + p * 10 + 7, none⟩ = some (.int .i64 xv) ∧ W.cell? ⟨bs', os' + p * 10 + 8, none⟩ = some (.slice tA tn tc) ∧ W.cell? ⟨bs', os' + p * 10 + 9, none⟩ = some (.slice tA' tn' tc') ∧
                    W.cell? ⟨wr.heap.size, 0, none⟩ = some (.int .i64 xk) ∧ W.cell? ⟨wr.heap.size, 1, none⟩ = some (.int .i64 (xf + k)) ∧ W.cell? ⟨wr.heap.size, 2, none⟩ = some (.int .i64 (xt + k)) ∧ W.cell? ⟨wr.heap.size, 3, none⟩ = some (.int .i64 xg) ∧ W.cell? ⟨wr.heap.size, 4, none⟩ = some (.int .i64 xh) ∧ W.cell? ⟨wr.heap.size, 5, none⟩ = some (.int .i64 xi) ∧ W.cell? ⟨wr.heap.size, 6, none⟩ = some (.int .i64 xm) ∧ W.cell? ⟨wr.heap.size, 7, none⟩ = some (.int .i64 xv) ∧ W.cell? ⟨wr.heap.size, 8, none⟩ = some (.slice sA tn sc) ∧ W.cell? ⟨wr.heap.size, 9, none⟩ = some (.slice sA' tn' sc') := by
                  intro W hbW
                  have h5 := hb9.trans (hbW.mono hb9.size)
                  have z0 := (HC.out W h5).2.2.1
                  rw [hA'] at z0
                  have kW := k9.ext hbW
                  exact ⟨z0, HD.out W h5 0 (by omega), HD.out W h5 1 (by omega), HD.out W h5 2 (by omega), HD.out W h5 3 (by omega), HD.out W h5 4 (by omega), HD.out W h5 5 (by omega), HD.out W h5 6 (by omega), HD.out W h5 7 (by omega), HD.out W h5 8 (by omega), HD.out W h5 9 (by omega), kW.cell 0, kW.cell 1, kW.cell 2, kW.cell 3, kW.cell 4, kW.cell 5, kW.cell 6, kW.cell 7, kW.cell 8, kW.cell 9⟩
                have HF := Lib.hid hF
                clear c0 c1 c2 c3 c4 c5 c6 c7 c8 c9 c0' c7' d0' d7' hF
                refine wp_normal ?_
                refine wp_region_held_drew (S := fun w' => Below w9.heap.size w9 w') (by kernel_rfl) (Below.refl _ _).drew (fun hHeld => ?_)
                (refine take_if (i := 0) (oi := _) (v := ?_) (by simp only [List.getElem?_toArray, List.getElem?_cons_zero]; rfl) (by kernel_rfl) (by kernel_rfl) (by kernel_rfl) (fun _ _ _ h => h) (by rfl) ?_ (by assumption) ?_; rotate_left; (focus ((intro w hSw; (try have hSw := HF.out _ hSw); (try dsimp only at hSw); go_simp); try exact rfl)); simp only [Act.put, List.setIfInBounds_toArray, List.set_cons_zero, List.set_cons_succ]; refine take_if (i := 1) (oi := _) (v := ?_) (by simp only [List.getElem?_toArray, List.getElem?_cons_succ, List.getElem?_cons_zero]; rfl) (by kernel_rfl) (by kernel_rfl) (by kernel_rfl) (fun _ _ _ h => h) (by rfl) ?_ (by assumption) ?_; rotate_left; (focus ((intro w hSw; (try have hSw := HF.out _ hSw); (try dsimp only at hSw); go_simp); try exact rfl)); simp only [Act.put, List.setIfInBounds_toArray, List.set_cons_zero, List.set_cons_succ]; refine take_if (i := 2) (oi := _) (v := ?_) (by simp only [List.getElem?_toArray, List.getElem?_cons_succ, List.getElem?_cons_zero]; rfl) (by kernel_rfl) (by kernel_rfl) (by kernel_rfl) (fun _ _ _ h => h) (by rfl) ?_ (by assumption) ?_; rotate_left; (focus ((intro w hSw; (try have hSw := HF.out _ hSw); (try dsimp only at hSw); go_simp); try exact rfl)); simp only [Act.put, List.setIfInBounds_toArray, List.set_cons_zero, List.set_cons_succ]; refine take_if (i := 3) (oi := _) (v := ?_) (by simp only [List.getElem?_toArray, List.getElem?_cons_succ, List.getElem?_cons_zero]; rfl) (by kernel_rfl) (by kernel_rfl) (by kernel_rfl) (fun _ _ _ h => h) (by rfl) ?_ (by assumption) ?_; rotate_left; (focus ((intro w hSw; (try have hSw := HF.out _ hSw); (try dsimp only at hSw); go_simp); try exact rfl)); simp only [Act.put, List.setIfInBounds_toArray, List.set_cons_zero, List.set_cons_succ]; refine take_if (i := 4) (oi := _) (v := ?_) (by simp only [List.getElem?_toArray, List.getElem?_cons_succ, List.getElem?_cons_zero]; rfl) (by kernel_rfl) (by kernel_rfl) (by kernel_rfl) (fun _ _ _ h => h) (by rfl) ?_ (by assumption) ?_; rotate_left; (focus ((intro w hSw; (try have hSw := HF.out _ hSw); (try dsimp only at hSw); go_simp); try exact rfl)); simp only [Act.put, List.setIfInBounds_toArray, List.set_cons_zero, List.set_cons_succ]; refine take_if (i := 5) (oi := _) (v := ?_) (by simp only [List.getElem?_toArray, List.getElem?_cons_succ, List.getElem?_cons_zero]; rfl) (by kernel_rfl) (by kernel_rfl) (by kernel_rfl) (fun _ _ _ h => h) (by rfl) ?_ (by assumption) ?_; rotate_left; (focus ((intro w hSw; (try have hSw := HF.out _ hSw); (try dsimp only at hSw); go_simp); try exact rfl)); simp only [Act.put, List.setIfInBounds_toArray, List.set_cons_zero, List.set_cons_succ]; refine take_if (i := 6) (oi := _) (v := ?_) (by simp only [List.getElem?_toArray, List.getElem?_cons_succ, List.getElem?_cons_zero]; rfl) (by kernel_rfl) (by kernel_rfl) (by kernel_rfl) (fun _ _ _ h => h) (by rfl) ?_ (by assumption) ?_; rotate_left; (focus ((intro w hSw; (try have hSw := HF.out _ hSw); (try dsimp only at hSw); go_simp); try exact rfl)); simp only [Act.put, List.setIfInBounds_toArray, List.set_cons_zero, List.set_cons_succ]; refine take_if (i := 7) (oi := _) (v := ?_) (by simp only [List.getElem?_toArray, List.getElem?_cons_succ, List.getElem?_cons_zero]; rfl) (by kernel_rfl) (by kernel_rfl) (by kernel_rfl) (fun _ _ _ h => h) (by rfl) ?_ (by assumption) ?_; rotate_left; (focus ((intro w hSw; (try have hSw := HF.out _ hSw); (try dsimp only at hSw); go_simp); try exact rfl)); simp only [Act.put, List.setIfInBounds_toArray, List.set_cons_zero, List.set_cons_succ]; refine take_if (i := 8) (oi := _) (v := ?_) (by simp only [List.getElem?_toArray, List.getElem?_cons_succ, List.getElem?_cons_zero]; rfl) (by kernel_rfl) (by kernel_rfl) (by kernel_rfl) (fun _ _ _ h => h) (by rfl) ?_ (by assumption) ?_; rotate_left; (focus ((intro w hSw; (try have hSw := HF.out _ hSw); (try dsimp only at hSw); go_simp); try exact rfl)); simp only [Act.put, List.setIfInBounds_toArray, List.set_cons_zero, List.set_cons_succ])
                refine wpAnyH_ready (rs := [9]) (by kernel_rfl) (by simp) ?_; refine (AllReadyH.cons (o := _) (by simp only [List.getElem?_toArray, List.getElem?_cons_succ, List.getElem?_cons_zero]; rfl) (fun K hK => ?_) AllReadyH.nil)
                go_simp
                go_at_call 10
                refine (HSAME.out _ hb9.drew).mono ?_
                rintro e w10 ⟨rfl, hb10, hz10, hx10⟩
                have hx10' : Below w9.heap.size w9 w10 := Below.trans (Below.refl _ _).drew hx10
                refine hK.out _ _ hx10' (fun hHeld => ?_)
                clear hK K; (try simp only [Act.put, List.setIfInBounds_toArray, List.set_cons_zero, List.set_cons_succ])
                (refine take_if (i := 10) (oi := _) (v := ?_) (by simp only [List.getElem?_toArray, List.getElem?_cons_succ, List.getElem?_cons_zero]; rfl) (by kernel_rfl) (by kernel_rfl) (by kernel_rfl) (fun _ _ _ h => h) (by rfl) ?_ (by assumption) ?_; rotate_left; (focus ((intro w hSw; (try have hSw := HF.out _ hSw); (try dsimp only at hSw); go_simp); try exact rfl)); simp only [Act.put, List.setIfInBounds_toArray, List.set_cons_zero, List.set_cons_succ])
                refine wpAnyH_done (by kernel_rfl) ?_ _
                go_wp2
                go_roundw
                case rel => first | exact ⟨p + 1, by omega, by omega⟩ | exact ⟨p + 1, by omega, by go_num, hb10⟩
                case measure => simp [intOf]; omega
              · obtain rfl : g.n = p := by omega
                go_wp2
                go_roundw
                case rel => exact ⟨q + 1, by omega, by go_num, hbr⟩
                case measure => simp [intOf]; omega
          · obtain rfl : n5 = q := by omega
            have hbf := hw5.trans (hb6.mono hw5.size)
            have hbz6 := hbf.size
            have hrr := rright_any (some ⟨w6.heap.size, 0, none⟩) 1 1 [⟨0, 0, k⟩] (w6.alloc (.cells #[.int .i64 0, .int .i64 0, .int .i64 k] 45)) (by unfold maxLen; omega) (fun _ => Rd.of_bk (Bk.new w6 45 #[.int .i64 0, .int .i64 0, .int .i64 k]) rfl rfl (by simp)) rfl
            rw [right1 (by omega)] at hrr
            have hrr2 := calls_on (w := w) (by repeat (first | with_reducible exact Below.refl _ _ | with_reducible assumption | (with_reducible refine below_drewN ?_ _) | (with_reducible refine Below.drew ?_) | (with_reducible refine Below.alloc ?_ ?_ _; rotate_left; focus (first | with_reducible assumption | omega | (simp; done) | (simp; omega))) | (with_reducible refine Below.setCell ?_ ?_ _; rotate_left; focus (first | with_reducible assumption | omega | (simp; done) | (simp; omega))))) hrr
            have HRR := Lib.hid hrr2
            clear hrr hrr2
            go_wp2_with (first
              | (go_at_call 12; refine HRR.out.mono ?_; rintro e w7 ⟨rfl, hb7, _, _⟩)
              | (go_at_call 7; (refine (HLV.out _ hb7).mono ?_); rintro e w8 ⟨rfl, hb8, _, _⟩))
            go_ret
            exact ⟨rfl, hb8⟩
end Go.Proofs.Ytmacfoebfpljoaa
