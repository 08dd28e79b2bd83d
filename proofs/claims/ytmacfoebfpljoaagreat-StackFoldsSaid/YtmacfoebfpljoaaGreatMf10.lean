/- merged texts: Sg Cm Cmr Si Sj Sk Sl Br O S -/
import Derived.Test.YtmacfoebfpljoaaGreatMf9
import Derived.Test.YtmacfoebfpljoaaGreatMf4
import Derived.Test.YtmacfoebfpljoaaGreatMf3
import Derived.Test.YtmacfoebfpljoaaGreatMf1
namespace Go.Proofs.YtmacfoebfpljoaaGreat
open Go.RowKit
set_option maxHeartbeats 400000 in
theorem clone_grs (A : Option Addr) (n c : Nat) (L : List GrH) (w : World) (h : Rd w w.heap.size 8 A n (grs L)) (hA : A = none → n = 0) (hn : n ≤ 1000000) :
    Calls Tryz.prog 132 #[.slice A n c] w (Cloned 76 8 n (grs L) w) := by
  cases A with
  | none =>
    obtain rfl : n = 0 := hA rfl
    clear hA
    have heq := fun w' => Lib.run_eql_slice_nil (P := Tryz.prog) w' 78 76 none 0 c 0 0 Tryz.underlying78
    go_enter Tryz.func132, Tryz.ntmps132
    go_wp2
    go_ret
    exact cloned_nil _ _ _ _ _ rfl h.1
  | some a =>
    have heq := fun w' => Lib.run_eql_slice_nil (P := Tryz.prog) w' 78 76 (some a) n c 0 0 Tryz.underlying78
    go_enter Tryz.func132, Tryz.ntmps132
    go_wp2_with (at_builtin; ((with_reducible refine app_rd Tryz.underlying78 info_group rfl (by decide) _ w.heap.size _ 0 [] (own_empty w _ _ _ (Nat.le_refl _)) _ (some a) n c (grs L) (h.alloc (Nat.le_refl _) _) (by simp) (grs_one L) (by unfold maxLen; omega) (by omega) (by simp) rfl _ _ rfl rfl rfl ?_); intro v' w1 hown hgr hat))
    go_ret
    refine ⟨v', rfl, by simpa using hown, ((Below.refl _ w).alloc (Nat.le_refl _) _).grown hgr (by simp) (by intro k hk; simp [Value.ownBlock] at hk; omega)⟩
theorem grs_drop (L : List GrH) (q : Nat) : (((grs L).drop (q * 8)).take ((L.length - q) * 8)) = grs (L.drop q) := by
  have h : (grs L).drop (q * 8) = grs (L.drop q) := by
    induction q generalizing L with
    | zero => simp
    | succ q ih =>
      cases L with
      | nil => simp [grs]
      | cons g L =>
        have e : grs (g :: L) = g.cells ++ grs L := by simp [grs]
        rw [e, List.drop_succ_cons, ← ih L, List.drop_append, List.drop_eq_nil_of_le (by simp [GrH.cells]; omega), List.nil_append]
        congr 1
        simp [GrH.cells]
        omega
  rw [h, List.take_of_length_le]
  rw [grs_len, List.length_drop]
  omega
/-- how many of the oldest groups go -/
def trimV (d : Int) : List GrC → Nat
  | [] => 0
  | g :: V => if 0 < V.length ∧ (d < V.length + 1 ∨ 2000 < totC (g :: V)) then trimV d V + 1 else 0
theorem trimV_go {d : Int} {V : List GrC} (h1 : 1 < V.length) (h2 : d < V.length ∨ 2000 < totC V) : trimV d V = trimV d (V.drop 1) + 1 := by
  cases V with
  | nil => simp at h1
  | cons g V =>
    show trimV d (g :: V) = trimV d V + 1
    rw [trimV, if_pos ⟨by simpa using h1, by simpa using h2⟩]
theorem trimV_stop {d : Int} {V : List GrC} (h : ¬ (1 < V.length ∧ (d < V.length ∨ 2000 < totC V))) : trimV d V = 0 := by
  cases V with
  | nil => rfl
  | cons g V =>
    rw [trimV, if_neg]
    rintro ⟨h1, h2⟩
    exact h ⟨by simpa using h1, by simpa using h2⟩
set_option maxRecDepth 100000 in
set_option maxHeartbeats 8000000 in
theorem trim_any (base bs : Nat) (lv mv : Value) (depth : Int) (L : List GrH) (Ms : List MpH) (w : World) (h : StkAt w base bs lv mv depth L Ms) :
    Calls Tryz.prog 77 #[.pointer (some ⟨bs, 0, none⟩)] w fun e w' => e = .returned (.int .i64 (trimV depth (L.map GrH.val) : Nat)) ∧ StkOut base bs lv mv depth ((L.map GrH.val).drop (trimV depth (L.map GrH.val))) (Ms.map MpH.l) w w' := by
  obtain ⟨A1, c1, rfl, hnc1, hcm1, hA1, r1⟩ := own_form h.l
  have HS := Lib.hid h
  have hnL := h.nL
  have c0 := h.k.cell 0; have c1' := h.k.cell 1
  dsimp at c0 c1'
  have HR1 := Lib.hid r1
  have HA1 := Lib.hid hA1
  clear h r1 hA1
  go_enter Tryz.func77, Tryz.ntmps77
  go_wp2
  go_loopw [3] (fun j wr => ∃ q : Nat, q ≤ L.length ∧ j = .int .i64 q ∧ Hid (trimV depth (L.map GrH.val) = q + trimV depth ((L.map GrH.val).drop q)) ∧ Below w.heap.size w wr) (fun j _ => L.length - (intOf j).toNat)
  case atStart => exact ⟨0, by omega, rfl, Lib.hid (by simp), Below.refl _ _⟩
  case round =>
    obtain ⟨q, hq, rfl, hI, hbr⟩ := hrel
    have k2 := HS.out.k.ext hbr
    have z0 := k2.cell 0; have z1 := k2.cell 1
    dsimp at z0 z1
    have ew : IntKind.i64.wrap ((L.length : Int) - q) = ((L.length - q : Nat) : Int) := by rw [IntWalk.i64_in _ (by omega)]; omega
    have hbz := hbr.size
    go_upto_region 2 with fail
    go_cut [35] (fun u wx => ∃ b : Bool, u = .bool b ∧ Below w.heap.size w wx ∧ Hid (b = true ↔ (1 < L.length - q ∧ (depth < ((L.length - q : Nat) : Int) ∨ 2000 < totC ((L.map GrH.val).drop q)))))
    case first =>
      by_cases h1 : 1 < L.length - q
      · have t1 : (1 : Int) < ((L.length - q : Nat) : Int) := by omega
        by_cases h2 : depth < ((L.length - q : Nat) : Int)
        · go_quiet (fail)
          go_wp2
          go_meet
          exact ⟨true, rfl, below_drewN hbr _, Lib.hid ⟨fun _ => ⟨h1, .inl h2⟩, fun _ => rfl⟩⟩
        · obtain ⟨b1, o1, rfl, hb1, -⟩ := HR1.out.2 (by omega)
          have hr2 := HR1.out.cut (k := q) (m := L.length) hq (Nat.le_refl _)
          have hgs := grs_drop L q
          rw [hgs] at hr2
          have hst := fun W (hb : Below w.heap.size w W) => calls_on hb (steps_any (some ⟨b1, o1 + q * 8, none⟩) (L.length - q) (c1 - q) (L.drop q) W ⟨(hr2.below hb).more hb.size, fun g hg => ((HS.out.g g (List.mem_of_mem_drop hg)).in_.ext hb)⟩ (by omega) (fun g hg => HS.out.bd.n HS.out.g g (List.mem_of_mem_drop hg)))
          rw [List.map_drop] at hst
          have HST := Lib.hid hst
          have hF : ∀ W, Below w.heap.size w W → W.cell? ⟨bs, 0, none⟩ = some (.int .i64 depth) ∧ W.cell? ⟨bs, 1, none⟩ = some (.slice (some ⟨b1, o1, none⟩) L.length c1) := fun W hb => ⟨(HS.out.k.ext hb).cell 0, (HS.out.k.ext hb).cell 1⟩
          have HF := Lib.hid hF
          have hcq : ¬ c1 = q := by omega
          clear hst hF hr2 hgs
          refine wp_normal ?_
          refine wp_region_held_drew (S := fun w' => Below w.heap.size w w') (by kernel_rfl) hbr.drew (fun hHeld => ?_)
          (refine tkH 0 ?_; refine tkH 1 ?_; refine tkH 2 ?_; refine tkH 3 ?_; refine tkH 4 ?_; refine tkH 5 ?_; refine tkH 6 ?_; refine tkH 7 ?_; refine tkH 8 ?_; refine tkH 9 ?_; refine tkH 10 ?_; refine tkH 11 ?_; refine tkH 12 ?_; refine tkH 13 ?_; refine tkH 14 ?_; refine tkH 15 ?_; refine tkH 16 ?_; refine tkH 17 ?_; refine tkH 18 ?_; refine tkH 19 ?_; refine tkH 20 ?_; refine tkH 21 ?_; refine tkH 22 ?_; refine tkH 23 ?_; refine tkH 24 ?_; refine tkH 25 ?_; refine tkH 26 ?_; refine tkH 27 ?_)
          refine nxH 28 (fun K hK => ?_)
          go_simp
          go_at_call 82
          refine (HST.out _ hbr.drew).mono ?_
          rintro e w3 ⟨rfl, hb3, hz3, hx3⟩
          refine hK.out _ _ hb3 (fun hHeld => ?_)
          clear hK K; refine puH ?_
          (refine tkH 29 ?_; refine tkH 30 ?_; refine tkH 31 ?_)
          refine wpAnyH_done (by kernel_rfl) ?_ _
          go_wp2
          go_meet
          refine ⟨_, rfl, hb3, Lib.hid ?_⟩
          rw [decide_eq_true_eq]
          constructor
          · intro h; exact ⟨h1, .inr (by omega)⟩
          · rintro ⟨_, h | h⟩
            · omega
            · omega
      · have t1 : ¬ (1 : Int) < ((L.length - q : Nat) : Int) := by omega
        go_quiet (fail)
        go_wp2
        go_meet
        exact ⟨false, rfl, below_drewN hbr _, Lib.hid ⟨fun h => (by cases h), fun h => absurd h.1 h1⟩⟩
    case rest =>
      obtain ⟨b, rfl, hb, hiff⟩ := hcut
      rename World => w3
      have k3 := HS.out.k.ext hb
      have x0 := k3.cell 0; have x1 := k3.cell 1; have x2 := k3.cell 2; have xf := k3.frozen; have xl := def_lt' k3
      dsimp at x0 x1 x2
      cases b with
      | true =>
        obtain ⟨h1, h2⟩ := hiff.out.1 rfl
        go_wp2
        go_roundw
        case rel =>
          refine ⟨q + 1, by omega, by go_num, Lib.hid ?_, hb⟩
          have hg := trimV_go (d := depth) (V := (L.map GrH.val).drop q) (by simpa using h1) (by simpa using h2)
          rw [hI.out, hg, List.drop_drop]
          omega
        case measure => simp [intOf]; omega
      | false =>
        have hst : trimV depth (L.map GrH.val) = q := by
          rw [hI.out, trimV_stop]
          · omega
          · intro h
            have := hiff.out.2 (by simpa using h)
            cases this
        have hfin : ∀ (A' : Option Addr) (c' : Nat), Rd w w.heap.size 8 A' (L.length - q) (grs (L.drop q)) → (A' = none → L.length - q = 0) →
            Calls Tryz.prog 132 #[.slice A' (L.length - q) c'] w3 (Cloned 76 8 (L.length - q) (grs (L.drop q)) w3) := fun A' c' hr hA => clone_grs A' (L.length - q) c' (L.drop q) w3 ((hr.below hb).more hb.size) hA (by omega)
        have HFIN := Lib.hid hfin
        have HST := Lib.hid hst
        have hr2 := HR1.out
        have hbs : base ≤ w.heap.size := Nat.le_of_lt (Nat.lt_of_le_of_lt HS.out.le (def_lt' HS.out.k))
        clear hfin hst hiff hI z0 z1 k2 hbr hbz ew
        rcases HS.out.l.2 with ⟨e0, -⟩ | ⟨g, cap, cur, e0, -⟩
        · injection e0 with e1 e2 e3
          subst e1 e3
          obtain rfl : q = 0 := by omega
          have hcl := HFIN.out none 0 (by rw [List.drop_zero]; have := hr2; rwa [Nat.sub_zero]) (fun _ => by omega)
          have HCL := Lib.hid hcl
          clear hcl hr2
          have x1' : w3.cell? ⟨bs, 1, none⟩ = some (.slice none 0 0) := by rw [x1, e2]
          clear x1
          rw [show L.length - 0 = 0 by omega] at HCL
          go_wp2_with (go_at_call 132; fail)
          refine HCL.out.mono ?_
          rintro e w4 ⟨v4, rfl, o4, hb4⟩
          obtain ⟨A4, c4, rfl, -, -, -, -⟩ := own_form o4
          clear HCL
          have k4 := k3.ext hb4
          have y0 := k4.cell 0; have y1 := k4.cell 1; have y2 := k4.cell 2; have yf := k4.frozen; have yl := def_lt' k4
          dsimp at y0 y1 y2
          go_wp2
          have gr4 : w4.grownBy (w4.setCell ⟨bs, 1, none⟩ (.slice A4 0 c4)) (some bs) := gr_set (p := ⟨bs, 1, none⟩) (World.grownBy.refl _ _) (.inl rfl) _
          have hb04 : Below w.heap.size w w4 := hb.trans (hb4.mono hb.size)
          have hz3 := hb.size
          have hz4 := hb4.size
          go_ret
          refine ⟨by rw [HST.out]; rfl, .slice A4 0 c4, mv, L.drop 0, Ms, ⟨k4.set_ 1 _, HS.out.le, ?_, ?_, ?_, ?_, ?_, HS.out.nM, ?_⟩, ?_, rfl, ?_, ?_, ?_⟩
          · have h1 := own_base o4 (Nat.le_trans hbs hz3)
            rw [List.length_drop, Nat.sub_zero, e2]
            exact own_grow h1 gr4 (fun g e => by injection e with e; subst e; exact own_ne h1 k4 (by decide))
          · intro x hx
            exact ((HS.out.g x (List.mem_of_mem_drop hx)).below hb04).grown k4 gr4 (by decide) (by decide) (by decide)
          · have h1 := own_below HS.out.m hb04
            exact own_grow h1 gr4 (fun g e => by injection e with e; subst e; exact own_ne h1 k4 (by decide))
          · intro x hx
            have h1 := own_below (HS.out.ms x hx).1 hb04
            exact ⟨own_grow h1 gr4 (fun g e => by injection e with e; subst e; exact own_ne h1 k4 (by decide)), (HS.out.ms x hx).2⟩
          · rw [List.length_drop]; omega
          · intro x hx
            rw [List.map_drop] at hx
            exact HS.out.bd x (List.mem_of_mem_drop hx)
          · rw [List.map_drop, HST.out]
          · exact (Stir.of_below hb04).fresh (Stir.of_gr gr4 (X := fun i => i = bs) (fun i e => by injection e with e; exact e.symm)) (fun i hi => .inl (.inl hi))
          · intro i hi
            have := own_ge o4 i hi
            exact .inr (by omega)
          · exact fun i hi => .inl hi
        · injection e0 with e1 e2 e3
          subst e1 e3
          by_cases hcq : c1 = q
          · have hLq : L.length = q := by omega
            have hcl := HFIN.out (some ⟨g, 0, none⟩) 0 (by
              rw [hLq, Nat.sub_self, ← hLq, List.drop_length]
              exact Rd.nil_ _ _ _ _) (fun h => by cases h)
            have HCL := Lib.hid hcl
            have hqc : q ≤ c1 := by omega
            have hcc : c1 - q = 0 := by omega
            clear hcl hr2 hLq
            go_wp2_with (go_at_call 132; fail)
            refine HCL.out.mono ?_
            rintro e w4 ⟨v4, rfl, o4, hb4⟩
            obtain ⟨A4, c4, rfl, -, -, -, -⟩ := own_form o4
            clear HCL
            have k4 := k3.ext hb4
            have y0 := k4.cell 0; have y1 := k4.cell 1; have y2 := k4.cell 2; have yf := k4.frozen; have yl := def_lt' k4
            dsimp at y0 y1 y2
            go_wp2
            have gr4 : w4.grownBy (w4.setCell ⟨bs, 1, none⟩ (.slice A4 (L.length - q) c4)) (some bs) := gr_set (p := ⟨bs, 1, none⟩) (World.grownBy.refl _ _) (.inl rfl) _
            have hb04 : Below w.heap.size w w4 := hb.trans (hb4.mono hb.size)
            have hz3 := hb.size
            have hz4 := hb4.size
            go_ret
            refine ⟨by rw [HST.out]; rfl, .slice A4 (L.length - q) c4, mv, L.drop q, Ms, ⟨k4.set_ 1 _, HS.out.le, ?_, ?_, ?_, ?_, ?_, HS.out.nM, ?_⟩, ?_, rfl, ?_, ?_, ?_⟩
            · have h1 := own_base o4 (Nat.le_trans hbs hz3)
              rw [List.length_drop]
              exact own_grow h1 gr4 (fun g e => by injection e with e; subst e; exact own_ne h1 k4 (by decide))
            · intro x hx
              exact ((HS.out.g x (List.mem_of_mem_drop hx)).below hb04).grown k4 gr4 (by decide) (by decide) (by decide)
            · have h1 := own_below HS.out.m hb04
              exact own_grow h1 gr4 (fun g e => by injection e with e; subst e; exact own_ne h1 k4 (by decide))
            · intro x hx
              have h1 := own_below (HS.out.ms x hx).1 hb04
              exact ⟨own_grow h1 gr4 (fun g e => by injection e with e; subst e; exact own_ne h1 k4 (by decide)), (HS.out.ms x hx).2⟩
            · rw [List.length_drop]; omega
            · intro x hx
              rw [List.map_drop] at hx
              exact HS.out.bd x (List.mem_of_mem_drop hx)
            · rw [List.map_drop, HST.out]
            · exact (Stir.of_below hb04).fresh (Stir.of_gr gr4 (X := fun i => i = bs) (fun i e => by injection e with e; exact e.symm)) (fun i hi => .inl (.inl hi))
            · intro i hi
              have := own_ge o4 i hi
              exact .inr (by omega)
            · exact fun i hi => .inl hi
          · have hcut := hr2.cut (k := q) (m := L.length) hq (Nat.le_refl _)
            rw [grs_drop] at hcut
            rw [Nat.zero_add] at hcut
            have hcl := HFIN.out _ (c1 - q) hcut (fun h => by cases h)
            have HCL := Lib.hid hcl
            have hqc : q ≤ c1 := by omega
            clear hcut hcl hr2
            go_wp2_with (go_at_call 132; fail)
            refine HCL.out.mono ?_
            rintro e w4 ⟨v4, rfl, o4, hb4⟩
            obtain ⟨A4, c4, rfl, -, -, -, -⟩ := own_form o4
            clear HCL
            have k4 := k3.ext hb4
            have y0 := k4.cell 0; have y1 := k4.cell 1; have y2 := k4.cell 2; have yf := k4.frozen; have yl := def_lt' k4
            dsimp at y0 y1 y2
            go_wp2
            have gr4 : w4.grownBy (w4.setCell ⟨bs, 1, none⟩ (.slice A4 (L.length - q) c4)) (some bs) := gr_set (p := ⟨bs, 1, none⟩) (World.grownBy.refl _ _) (.inl rfl) _
            have hb04 : Below w.heap.size w w4 := hb.trans (hb4.mono hb.size)
            have hz3 := hb.size
            have hz4 := hb4.size
            go_ret
            refine ⟨by rw [HST.out]; rfl, .slice A4 (L.length - q) c4, mv, L.drop q, Ms, ⟨k4.set_ 1 _, HS.out.le, ?_, ?_, ?_, ?_, ?_, HS.out.nM, ?_⟩, ?_, rfl, ?_, ?_, ?_⟩
            · have h1 := own_base o4 (Nat.le_trans hbs hz3)
              rw [List.length_drop]
              exact own_grow h1 gr4 (fun g e => by injection e with e; subst e; exact own_ne h1 k4 (by decide))
            · intro x hx
              exact ((HS.out.g x (List.mem_of_mem_drop hx)).below hb04).grown k4 gr4 (by decide) (by decide) (by decide)
            · have h1 := own_below HS.out.m hb04
              exact own_grow h1 gr4 (fun g e => by injection e with e; subst e; exact own_ne h1 k4 (by decide))
            · intro x hx
              have h1 := own_below (HS.out.ms x hx).1 hb04
              exact ⟨own_grow h1 gr4 (fun g e => by injection e with e; subst e; exact own_ne h1 k4 (by decide)), (HS.out.ms x hx).2⟩
            · rw [List.length_drop]; omega
            · intro x hx
              rw [List.map_drop] at hx
              exact HS.out.bd x (List.mem_of_mem_drop hx)
            · rw [List.map_drop, HST.out]
            · exact (Stir.of_below hb04).fresh (Stir.of_gr gr4 (X := fun i => i = bs) (fun i e => by injection e with e; exact e.symm)) (fun i hi => .inl (.inl hi))
            · intro i hi
              have := own_ge o4 i hi
              exact .inr (by omega)
            · exact fun i hi => .inl hi
end Go.Proofs.YtmacfoebfpljoaaGreat
/- stack: Push -/
namespace Go.Proofs.YtmacfoebfpljoaaGreat
open Go.RowKit
section
variable {P : Program}
/-- append of a slice that reads as a list onto an owned row: at a step of a region that draws -/
theorem app_rd_step {ops : Array Oper} {o : Oper} {a : Act} {K : Act → World → Prop} {Q : Exit → Act → World → Prop} {E : Prop} {t e : TypeId} {z : Value} {size bytes : Nat}
    (ht : P.underlying t = some (.slice e)) (hinfo : (P.info? e).map (fun i => (i.zero, i.size, i.bytes)) = some (some z, size, bytes)) (hzs : z.cells.size = size) (hsz : 0 < size)
    {w : World} (base : Nat) (v : Value) (n : Nat) (xs : List Value) (hown : w.ownsRow base e size v n xs)
    (B : Nat) (A : Option Addr) (m c : Nat) (news : List Value) (hr : Rd w B size A m news) (hA : A = none → m = 0) (h1 : ∀ u ∈ news, u.oneCell' = true)
    (hn : n + m ≤ maxLen) (hby : (n + m) * bytes ≤ 140737488355328) (hb : base ≤ w.heap.size)
    (hgd : o.guard = none) (s x : Operand) (ho : o.op = .call { callee := .builtin .append, args := #[s, x], argTypes := #[t, t] })
    (hs : a.eval s = v) (hx : a.eval x = .slice A m c)
    (h : ∀ v' w', w'.ownsRow base e size v' (n + m) (xs ++ news) → w.grownBy w' v.ownBlock → (v'.ownBlock = v.ownBlock ∨ v'.ownBlock = some w.heap.size) → K (a.put o.dst v') w') :
    if Region.wanted o (yielded ops a.tmps) = true then Oper.wp P o a w K Q else E := by
  have hw : Region.wanted o (yielded ops a.tmps) = true := by simp [Region.wanted, hgd]
  rw [if_pos hw]
  obtain ⟨i0, hi, hz0, hz1, hz2⟩ := info_parts hinfo
  rcases A with _ | ad
  · obtain rfl := hA rfl
    have hnews : news = [] := List.eq_nil_of_length_eq_zero (by simpa using hr.1)
    subst hnews
    unfold Oper.wp execOp
    simp only [ho, resolve, invoke, builtin, Sem.run_bind, Sem.run_pure, Result.andThen_ok, List.map_toArray, List.map_cons, List.map_nil, hs, hx, run_append_of_nil w base t o.type e i0 size ht hi v n xs hown c]
    exact h v w (by simpa using hown) (World.grownBy.refl w _) (.inl rfl)
  · have hnews : ∀ j u, news[j]? = some u → w.cell? (ad.add j) = some u := by
      intro j u hu
      rcases Nat.eq_zero_or_pos m with h0 | h0
      · subst h0
        have hnews : news = [] := List.eq_nil_of_length_eq_zero (by simpa using hr.1)
        subst hnews
        simp at hu
      · obtain ⟨b, o', e', _, hc⟩ := hr.2 h0
        injection e' with e'
        subst e'
        rw [add_flat]
        exact hc j u hu
    obtain ⟨v', w', hrun, h2, h3, _, h5⟩ := run_append_own_at (P := P) w base t o.type e i0 z size bytes ht hi hz0 hz1 hz2 hzs hsz v n xs hown ad m c news hr.1 hnews h1 hn hby hb
    unfold Oper.wp execOp
    simp only [ho, resolve, invoke, builtin, Sem.run_bind, Sem.run_pure, Result.andThen_ok, List.map_toArray, List.map_cons, List.map_nil, hs, hx, hrun]
    exact h v' w' h2 h3 h5
end
/-- a group alone, in a slice made for it -/
theorem one_in {w : World} {b : Nat} {g : GrH} (hk : Bk w b 76 g.cells.toArray) (hg : g.In w w.heap.size) : GrsIn w w.heap.size (some ⟨b, 0, none⟩) 1 [g] :=
  ⟨Rd.of_bk hk (by simp [grs]) rfl (def_lt' hk), fun x hx => by simp at hx; subst hx; exact hg⟩
set_option maxRecDepth 100000 in
set_option maxHeartbeats 8000000 in
theorem push_any (base bs : Nat) (lv mv : Value) (depth : Int) (L : List GrH) (Ms : List MpH) (g : GrH) (w : World) (h : StkAt w base bs lv mv depth L Ms) (hg : ∀ w', Stir (fun i => i = bs ∨ lv.ownBlock = some i ∨ mv.ownBlock = some i) w w' → g.In w' w'.heap.size) (hgn : g.n ≤ 1000) (hgl : -9223372036854775808 ≤ g.lost ∧ g.lost ≤ 9223372036854775807) (hL : L.length ≤ 299) :
    Calls Tryz.prog 30 #[.pointer (some ⟨bs, 0, none⟩), encG g] w fun e w' => e = .returned (.int .i64 (trimV depth (foldV (Ms.map MpH.l) (L.map GrH.val) ++ [g.val]) : Nat)) ∧ StkOut base bs lv mv depth ((foldV (Ms.map MpH.l) (L.map GrH.val) ++ [g.val]).drop (trimV depth (foldV (Ms.map MpH.l) (L.map GrH.val) ++ [g.val]))) [] w w' := by
  have hlt := def_lt' h.k
  have hbz : base ≤ w.heap.size := Nat.le_of_lt (Nat.lt_of_le_of_lt h.le hlt)
  have hb1 : Below w.heap.size w (w.alloc (.cells #[.slice g.A g.n g.c, .int .i64 g.pin.k, .int .i64 g.pin.a, .int .i64 g.pin.b, .int .i64 g.back.k, .int .i64 g.back.a, .int .i64 g.back.b, .int .i64 g.lost] 76)) := belowA
  have kg := Bk.new w 76 #[.slice g.A g.n g.c, .int .i64 g.pin.k, .int .i64 g.pin.a, .int .i64 g.pin.b, .int .i64 g.back.k, .int .i64 g.back.a, .int .i64 g.back.b, .int .i64 g.lost]
  have h1 := h.below hb1
  have hfo := fold_any base bs lv mv depth L Ms _ h1
  have HFO := Lib.hid hfo
  have HG := Lib.hid hg
  have hll := own_lt h.l
  have hml := own_lt h.m
  have HV := Lib.hid (foldV_len (Ms.map MpH.l) (L.map GrH.val))
  have HBD := Lib.hid (h.bd.foldV (Ms.map MpH.l))
  have hmL : (L.map GrH.val).length = L.length := List.length_map _
  clear h hfo hg
  go_enter Tryz.func30, Tryz.ntmps30
  go_wp2_with (go_at_call 28; fail)
  have hto1 := hlt
  generalize w.alloc (.cells #[.slice g.A g.n g.c, .int .i64 g.pin.k, .int .i64 g.pin.a, .int .i64 g.pin.b, .int .i64 g.back.k, .int .i64 g.back.a, .int .i64 g.back.b, .int .i64 g.lost] 76) = w1 at *
  refine HFO.out.mono ?_
  rintro e w2 ⟨⟨v, rfl⟩, lv1, mv1, L1, Ms1, hs2, hV1, hM1, hto⟩
  obtain rfl : Ms1 = [] := by simpa using hM1
  have hL1 : L1.length ≤ 299 := by
    have := congrArg List.length hV1
    rw [List.length_map, HV.out, hmL] at this
    omega
  have hnX : ¬ (w.heap.size = bs ∨ lv.ownBlock = some w.heap.size ∨ mv.ownBlock = some w.heap.size) := by
    rintro (h | h | h)
    · omega
    · have := hll _ h; omega
    · have := hml _ h; omega
  have kg2 : Bk w2 w.heap.size 76 #[.slice g.A g.n g.c, .int .i64 g.pin.k, .int .i64 g.pin.a, .int .i64 g.pin.b, .int .i64 g.back.k, .int .i64 g.back.a, .int .i64 g.back.b, .int .i64 g.lost] := (hto.1.block _ (def_lt' kg) hnX).trans kg
  have hst2 : Stir (fun i => i = bs ∨ lv.ownBlock = some i ∨ mv.ownBlock = some i) w w2 := (Stir.of_below hb1).trans hto.1
  have hto2 : StkTo bs lv mv lv1 mv1 w w2 := ⟨hst2, fun i hi => by
    rcases hto.2.1 i hi with h | h
    · exact .inl h
    · exact .inr (Nat.le_trans hb1.size h), fun i hi => by
    rcases hto.2.2 i hi with h | h
    · exact .inl h
    · exact .inr (Nat.le_trans hb1.size h)⟩
  have hlv1 : lv1.ownBlock ≠ some w.heap.size := fun e => by
    rcases hto.2.1 _ e with h | h
    · have := hll _ h; omega
    · have := def_lt' kg; omega
  have hgin := HG.out w2 hst2
  have HGI := Lib.hid hgin
  have k2 := hs2.k
  have hbz2 : base ≤ w2.heap.size := Nat.le_trans hbz hst2.size
  have hne : bs ≠ w.heap.size := by omega
  have hF : ∀ W, (Bk W bs 157 #[.int .i64 depth, lv1, mv1] ∧ Bk W w.heap.size 76 #[.slice g.A g.n g.c, .int .i64 g.pin.k, .int .i64 g.pin.a, .int .i64 g.pin.b, .int .i64 g.back.k, .int .i64 g.back.a, .int .i64 g.back.b, .int .i64 g.lost]) → W.cell? ⟨bs, 1, none⟩ = some lv1 ∧ W.cell? ⟨w.heap.size, 0, none⟩ = some (.slice g.A g.n g.c) ∧ W.cell? ⟨w.heap.size, 1, none⟩ = some (.int .i64 g.pin.k) ∧ W.cell? ⟨w.heap.size, 2, none⟩ = some (.int .i64 g.pin.a) ∧ W.cell? ⟨w.heap.size, 3, none⟩ = some (.int .i64 g.pin.b) ∧ W.cell? ⟨w.heap.size, 4, none⟩ = some (.int .i64 g.back.k) ∧ W.cell? ⟨w.heap.size, 5, none⟩ = some (.int .i64 g.back.a) ∧ W.cell? ⟨w.heap.size, 6, none⟩ = some (.int .i64 g.back.b) ∧ W.cell? ⟨w.heap.size, 7, none⟩ = some (.int .i64 g.lost) := fun W h => ⟨h.1.cell 1, h.2.cell 0, h.2.cell 1, h.2.cell 2, h.2.cell 3, h.2.cell 4, h.2.cell 5, h.2.cell 6, h.2.cell 7⟩
  have HF := Lib.hid hF
  have HS2 := Lib.hid hs2
  have HTO := Lib.hid hto2
  clear hF hgin hto hto2 hst2 hs2 HFO h1 kg hM1 hnX
  go_upto_region 4 with fail
  refine wp_normal ?_
  refine region_L (S := fun W => Bk W bs 157 #[.int .i64 depth, lv1, mv1] ∧ Bk W w.heap.size 76 #[.slice g.A g.n g.c, .int .i64 g.pin.k, .int .i64 g.pin.a, .int .i64 g.pin.b, .int .i64 g.back.k, .int .i64 g.back.a, .int .i64 g.back.b, .int .i64 g.lost]) [11] (by kernel_rfl) ⟨k2.drew, kg2.drew⟩ (fun hHeld => ?_)
  (refine tkL 0 ?_; refine tkL 1 ?_; refine tkL 2 ?_; refine tkL 3 ?_; refine tkL 4 ?_; refine tkL 5 ?_)
  have hbA : Below w2.heap.size w2 (w2.alloc (.cells #[.slice g.A g.n g.c, .int .i64 g.pin.k, .int .i64 g.pin.a, .int .i64 g.pin.b, .int .i64 g.back.k, .int .i64 g.back.a, .int .i64 g.back.b, .int .i64 g.lost] 76)).drew := belowA
  have kA : Bk (w2.alloc (.cells #[.slice g.A g.n g.c, .int .i64 g.pin.k, .int .i64 g.pin.a, .int .i64 g.pin.b, .int .i64 g.back.k, .int .i64 g.back.a, .int .i64 g.back.b, .int .i64 g.lost] 76)).drew w2.heap.size 76 g.cells.toArray := Bk.drew (Bk.new w2 _ _)
  refine nxL 6 (fun K hK => ?_)
  go_simp
  refine hK.out _ _ ⟨k2.drew.alloc _, kg2.drew.alloc _⟩ (fun hHeld => ?_)
  clear hK K; refine puL ?_
  refine nxL 7 (fun K hK => ?_)
  go_simp
  go_at_call 75
  generalize (w2.alloc (.cells #[.slice g.A g.n g.c, .int .i64 g.pin.k, .int .i64 g.pin.a, .int .i64 g.pin.b, .int .i64 g.back.k, .int .i64 g.back.a, .int .i64 g.back.b, .int .i64 g.lost] 76)).drew = w3 at *
  have hz3 := hbA.size
  refine (copy_any (some ⟨w2.heap.size, 0, none⟩) 1 1 [g] w3 (one_in kA (HGI.out.ext hbA)) (by omega) (fun x hx => by simp at hx; subst hx; exact hgn)).mono ?_
  intro e w4 ho4
  obtain ⟨A4, n4, c4, L4, rfl, hl4, o4, -, hO4, hV4, hb4⟩ := grs_out ho4
  obtain ⟨g4, rfl, hg4⟩ := map_one hV4
  obtain rfl : n4 = 1 := hl4.symm
  have hb24 : Below w2.heap.size w2 w4 := hbA.trans (hb4.mono hz3)
  have k4 := k2.ext hb24
  have hown4 := own_below HS2.out.l hb24
  obtain ⟨_, _, e4, -, -, hA4, hrd4⟩ := own_form o4
  injection e4 with e5 e6 e7
  subst e5 e7
  refine hK.out _ _ ⟨k4, kg2.ext hb24⟩ (fun hHeld => ?_)
  clear hK K; refine puL ?_
  refine nxL 8 (fun K hK => ?_)
  refine app_rd_step Tryz.underlying78 info_group rfl (by decide) base lv1 L1.length _ hown4 w4.heap.size A4 1 c4 (grs [g4]) hrd4 (fun h => (hA4 h).1) (grs_one _) (by unfold maxLen; omega) (by omega) (Nat.le_trans hbz2 hb24.size) rfl (.tmp 13) (.tmp 16) rfl rfl rfl ?_
  intro v5 w5 hown5 hgr5 hat5
  obtain ⟨A5, c5, rfl, -, -, -, -⟩ := own_form hown5
  have k5 := k4.grown hgr5 (own_ne hown4 k4 (by decide))
  have kg5 := (kg2.ext hb24).grown hgr5 hlv1
  refine hK.out _ _ ⟨k5, kg5⟩ (fun hHeld => ?_)
  clear hK K; refine puL ?_
  (refine tkL 9 ?_; refine tkL 10 ?_)
  have x0 := k5.cell 0; have x1 := k5.cell 1; have x2 := k5.cell 2; have xf := k5.frozen; have xl := def_lt' k5
  dsimp at x0 x1 x2
  refine ltL 11 (fun K hK => ?_)
  go_simp
  refine hK.out _ _ ?_
  clear hK K; refine puL ?_
  refine anyL_done (by kernel_rfl) ?_
  have gr6 : w5.grownBy (w5.setCell ⟨bs, 1, none⟩ (.slice A5 (L1.length + 1) c5)) (some bs) := gr_set (p := ⟨bs, 1, none⟩) (World.grownBy.refl _ _) (.inl rfl) _
  have k6 : Bk (w5.setCell ⟨bs, 1, none⟩ (.slice A5 (L1.length + 1) c5)) bs 157 #[.int .i64 depth, .slice A5 (L1.length + 1) c5, mv1] := k5.set_ 1 _
  generalize w5.setCell ⟨bs, 1, none⟩ (.slice A5 (L1.length + 1) c5) = w6 at *
  have hbz4 : base ≤ w4.heap.size := Nat.le_trans hbz2 hb24.size
  have hs6 : StkAt w6 base bs (.slice A5 (L1.length + 1) c5) mv1 depth (L1 ++ [g4]) [] := by
    refine ⟨k6, HS2.out.le, ?_, ?_, ?_, fun m hm => (by cases hm), ?_, (by simp), ?_⟩
    · rw [grs_append, List.length_append]
      exact own_grow hown5 gr6 (fun g e => by injection e with e; subst e; exact own_ne hown5 k5 (by decide))
    · intro x hx
      refine GrH.Own.grown (w := w5) ?_ k5 gr6 (by decide) (by decide) (by decide)
      refine GrH.Own.grow (w := w4) ?_ hown4 hgr5 (by decide) (by decide) (by decide)
      rcases List.mem_append.1 hx with hx | hx
      · exact (HS2.out.g x hx).below hb24
      · simp at hx
        subst hx
        exact (hO4 x (by simp)).base_ (Nat.le_trans hbz2 hz3)
    · have h1 := own_below HS2.out.m hb24
      have h2 := own_grow h1 hgr5 (own_type h1 hown4 (by decide))
      exact own_grow h2 gr6 (fun g e => by injection e with e; subst e; exact own_ne h2 k5 (by decide))
    · rw [List.length_append]; simp; omega
    · intro x hx
      rw [List.map_append] at hx
      rcases List.mem_append.1 hx with hx | hx
      · exact HS2.out.bd x hx
      · simp at hx
        subst hx
        rw [hg4]
        have hgl4 : g.L.length = g.n := HGI.out.sts.len
        exact ⟨by simp [GrH.val]; omega, hgl⟩
  have hto6 : StkTo bs lv1 mv1 (.slice A5 (L1.length + 1) c5) mv1 w2 w6 := by
    refine ⟨((Stir.of_below hb24).trans ((Stir.of_gr hgr5 (fun i e => .inr (.inl e))))).trans (Stir.of_gr gr6 (fun i e => by injection e with e; exact .inl e.symm)), fun i hi => ?_, fun i hi => .inl hi⟩
    rcases hat5 with e | e
    · rw [e] at hi; exact .inl hi
    · rw [e] at hi
      injection hi with hi
      have := hb24.size
      exact .inr (by omega)
  have htr := trim_any base bs _ mv1 depth _ [] w6 hs6
  rw [List.map_append, hV1, List.map_cons, List.map_nil, hg4] at htr
  have HTR := Lib.hid htr
  clear htr hs6 hown5 hown4 hgr5 x0 x1 x2
  go_wp2_with (go_at_call 77; fail)
  refine HTR.out.mono ?_
  rintro e w7 ⟨rfl, lv7, mv7, L7, Ms7, s7, V7, M7, t7⟩
  go_wp2
  go_ret
  exact ⟨rfl, lv7, mv7, L7, Ms7, s7, V7, M7, (HTO.out.trans hto6).trans t7⟩
end Go.Proofs.YtmacfoebfpljoaaGreat
namespace Go.Proofs.YtmacfoebfpljoaaGreat
open Go.RowKit
theorem right1 {a o n : Int} (h : (0 ≤ a ∧ a ≤ 1073741824) ∧ (0 ≤ o ∧ o ≤ 1073741824) ∧ (0 ≤ n ∧ n ≤ 1073741824)) : rightM [⟨a, o, n⟩] = true := by
  obtain ⟨h1, h2, h3⟩ := h
  have e1 : inB a = true := decide_eq_true h1
  have e2 : inB o = true := decide_eq_true h2
  have e3 : inB n = true := decide_eq_true h3
  have e4 : decide ((-1 : Int) < a) = true := decide_eq_true (by omega)
  simp only [rightM, rightFrom, e1, e2, e3, e4]
  rfl
/-- a splice that the law asks of -/
def Spl (x : StC) : Prop := x.k = 1 ∧ x.sh = true ∧ x.t ≤ 1000000
theorem Spl.bd {x : StC} (h : Spl x) : 0 ≤ x.f ∧ x.f ≤ x.t ∧ x.t ≤ 1000000 ∧ (x.sl.length : Int) ≤ 20000 ∧ sh1 x.g x.h x.i x.m x.v x.sl.length x.st.length = true := by
  obtain ⟨h1, h2, h3⟩ := h
  unfold StC.sh shB at h2
  rw [Bool.and_eq_true, if_pos h1] at h2
  have hb : 0 ≤ x.f ∧ x.f ≤ x.t ∧ x.t ≤ 1073741824 := by simpa [boxes] using h2.1
  have hs := h2.2
  unfold sh1 at hs
  have := of_decide_eq_true hs
  exact ⟨hb.1, hb.2.1, h3, by omega, h2.2⟩
theorem Spl.map {x : StC} (h : Spl x) : x.map = [⟨x.f, x.t - x.f, x.sl.length⟩] := by
  have hs := h.2.1
  unfold StC.sh at hs
  unfold StC.map mapB
  rw [if_pos hs]
  unfold mapS
  rw [if_pos (.inl h.1)]
end Go.Proofs.YtmacfoebfpljoaaGreat
namespace Go.Proofs.YtmacfoebfpljoaaGreat
open Go.RowKit
set_option maxHeartbeats 400000 in
theorem clone_rgs (A : Option Addr) (n c : Nat) (l : List Rg) (w : World) (h : Rd w w.heap.size 3 A n (rgs l)) (hA : A = none → n = 0) (hn : n ≤ 1000000) :
    Calls Tryz.prog 81 #[.slice A n c] w (Cloned 155 3 n (rgs l) w) := by
  cases A with
  | none =>
    obtain rfl : n = 0 := hA rfl
    clear hA
    have heq := fun w' => Lib.run_eql_slice_nil (P := Tryz.prog) w' 94 155 none 0 c 0 0 Tryz.underlying94
    go_enter Tryz.func81, Tryz.ntmps81
    go_wp2
    go_ret
    exact cloned_nil _ _ _ _ _ rfl h.1
  | some a =>
    have heq := fun w' => Lib.run_eql_slice_nil (P := Tryz.prog) w' 94 155 (some a) n c 0 0 Tryz.underlying94
    go_enter Tryz.func81, Tryz.ntmps81
    go_wp2_with (at_builtin; ((with_reducible refine app_rd Tryz.underlying94 info_range rfl (by decide) _ w.heap.size _ 0 [] (own_empty w _ _ _ (Nat.le_refl _)) _ (some a) n c (rgs l) (h.alloc (Nat.le_refl _) _) (by simp) (rgs_one l) (by unfold maxLen; omega) (by omega) (by simp) rfl _ _ rfl rfl rfl ?_); intro v' w1 hown hgr hat))
    go_ret
    refine ⟨v', rfl, by simpa using hown, ((Below.refl _ w).alloc (Nat.le_refl _) _).grown hgr (by simp) (by intro k hk; simp [Value.ownBlock] at hk; omega)⟩
set_option maxHeartbeats 400000 in
theorem new_any (d : Int) (w : World) (h1 : 1 ≤ d) (h2 : d ≤ 200) :
    Calls Tryz.prog 37 #[.int .i64 d] w fun e w' => e = .returned (.tuple #[.pointer (some ⟨w.heap.size, 0, none⟩), .int .i64 0]) ∧ StkAt w' w.heap.size w.heap.size (.slice none 0 0) (.slice none 0 0) d [] [] ∧ Below w.heap.size w w' := by
  have e1 : ¬ d < 1 := by omega
  have e2 : ¬ (200 : Int) < d := by omega
  go_enter Tryz.func37, Tryz.ntmps37
  go_wp2
  refine bodyPost_ret (v := .tuple #[.pointer (some ⟨w.heap.size, 0, none⟩), .int .i64 0]) (by simp [results, Tryz.results37, go_sem]) rfl ⟨rfl, ⟨Bk.new w _ _, Nat.le_refl _, World.ownsRow_nil _ _ _ _, (by simp), World.ownsRow_nil _ _ _ _, (by simp), (by simp), (by simp), fun _ h => (by cases h)⟩, belowA⟩
set_option maxHeartbeats 400000 in
theorem groups_any (base bs : Nat) (lv mv : Value) (depth : Int) (L : List GrH) (Ms : List MpH) (w : World) (h : StkAt w base bs lv mv depth L Ms) :
    Calls Tryz.prog 32 #[.pointer (some ⟨bs, 0, none⟩)] w (GrsOut (foldC (Ms.map MpH.l) (L.map GrH.val).reverse) w) := by
  have hf := folded_any base bs lv mv depth L Ms w h
  have HF := Lib.hid hf
  clear hf h
  go_enter Tryz.func32, Tryz.ntmps32
  go_wp2_with (go_at_call 79; fail)
  refine HF.out.mono ?_
  rintro e w1 ⟨v, L', rfl, h1, h2, h3, h4⟩
  go_wp2
  go_ret
  exact ⟨v, L', rfl, h1, h2, h3, h4⟩
set_option maxRecDepth 100000 in
set_option maxHeartbeats 8000000 in
theorem note_any (base bs : Nat) (lv mv : Value) (depth : Int) (L : List GrH) (Ms : List MpH) (Am : Option Addr) (nm cm : Nat) (m : List Rg) (w : World) (h : StkAt w base bs lv mv depth L Ms) (hm : ∀ w', Stir (fun i => i = bs ∨ lv.ownBlock = some i ∨ mv.ownBlock = some i) w w' → Rd w' w'.heap.size 3 Am nm (rgs m)) (hA : Am = none → nm = 0) (hr : rightM m = true) :
    Calls Tryz.prog 31 #[.pointer (some ⟨bs, 0, none⟩), .slice Am nm cm] w fun e w' => e = .returned (.int .i64 0) ∧ StkOut base bs lv mv depth (if Ms.length = 500 then foldV (Ms.map MpH.l) (L.map GrH.val) else L.map GrH.val) ((if Ms.length = 500 then [] else Ms.map MpH.l) ++ [m]) w w' := by
  have hlt := def_lt' h.k
  have hbz : base ≤ w.heap.size := Nat.le_of_lt (Nat.lt_of_le_of_lt h.le hlt)
  have hm0 := hm w (Stir.of_below (Below.refl _ _))
  have hml : m.length = nm := hm0.rlen
  have hnm : nm ≤ 1000 := by
    unfold rightM at hr
    rw [Bool.and_eq_true] at hr
    have := of_decide_eq_true hr.1
    omega
  have hri := right_any Am nm cm m w (by unfold maxLen; omega) (fun _ => hm0) hml
  rw [hr] at hri
  have HRI := Lib.hid hri
  have HM := Lib.hid hm
  have HS := Lib.hid h
  obtain ⟨A2, c2, rfl, -, -, -, -⟩ := own_form h.m
  clear hri hm hm0 h
  go_enter Tryz.func31, Tryz.ntmps31
  go_wp2_with (go_at_call 80; fail)
  refine HRI.out.mono ?_
  rintro e w1 ⟨rfl, hb1⟩
  have hs1 := HS.out.below hb1
  have c0 := hs1.k.cell 2
  dsimp at c0
  have HS1 := Lib.hid hs1
  have hsz := hb1.size
  have HFO := Lib.hid (fold_any base bs lv _ depth L Ms w1 hs1)
  by_cases h500 : Ms.length = 500
  · have h5 : ((Ms.length : Int) == 500) = true := by rw [h500]; rfl
    have H5 := Lib.hid h500
    clear h500
    go_wp2_with (go_at_call 28; fail)
    refine HFO.out.mono ?_
    rintro e w2 ⟨⟨v, rfl⟩, lv1, mv1, L1, Ms1, hs2, hV1, hM1, hto⟩
    obtain rfl : Ms1 = [] := by simpa using hM1
    obtain ⟨A3, c3, rfl, -, -, -, -⟩ := own_form hs2.m
    have HS2 := Lib.hid hs2
    have hto2 : StkTo bs lv (.slice A2 Ms.length c2) lv1 (.slice A3 ([] : List MpH).length c3) w w2 := (StkTo.of_below hb1).trans hto
    have HTO := Lib.hid hto2
    have HST := Lib.hid hto2.1
    obtain ⟨N, hN⟩ : ∃ N : List MpH, N = [] := ⟨_, rfl⟩
    rw [← hN] at HS2 HTO
    have hN5 : N.length ≤ 499 := by rw [hN]; simp
    have HN := Lib.hid hN
    clear hs2 hto hto2 hM1 hN
    have k2 := HS2.out.k
    have hbz2 : base ≤ w2.heap.size := Nat.le_trans hbz HST.out.size
    have HR2 := Lib.hid (HM.out w2 HST.out)
    have hF : ∀ W, Bk W bs 157 #[.int .i64 depth, lv1, .slice A3 N.length c3] → W.cell? ⟨bs, 2, none⟩ = some (.slice A3 N.length c3) := fun W h => h.cell 2
    have HF := Lib.hid hF
    clear hF
    go_upto_region 7 with fail
    refine wp_normal ?_
    refine region_L (S := fun W => Bk W bs 157 #[.int .i64 depth, lv1, .slice A3 N.length c3]) [11] (by kernel_rfl) k2.drew (fun hHeld => ?_)
    (refine tkL 0 ?_; refine tkL 1 ?_; refine tkL 2 ?_; refine tkL 3 ?_; refine tkL 4 ?_; refine tkL 5 ?_)
    refine nxL 6 (fun K hK => ?_)
    go_simp
    go_at_call 81
    refine (clone_rgs Am nm cm m w2.drew HR2.out hA (by omega)).mono ?_
    rintro e w4 ⟨v4, rfl, o4, hb4'⟩
    obtain ⟨A4, c4, rfl, -, -, hA4, hrd4⟩ := own_form o4
    have hb4 : Below w2.heap.size w2 w4 := Below.trans (Below.refl _ _).drew hb4'
    have k4 := k2.ext hb4
    refine hK.out _ _ k4 (fun hHeld => ?_)
    clear hK K; refine puL ?_
    refine nxL 7 (fun K hK => ?_)
    go_simp
    refine hK.out _ _ (k4.alloc _) (fun hHeld => ?_)
    clear hK K; refine puL ?_
    have hbA : Below w4.heap.size w4 (w4.alloc (.cells #[.slice A4 nm c4] 94)) := belowA
    have kA := Bk.new w4 94 #[.slice A4 nm c4]
    have k4A := k4.alloc (.cells #[.slice A4 nm c4] 94)
    generalize w4.alloc (.cells #[.slice A4 nm c4] 94) = wA at *
    have hb2A : Below w2.heap.size w2 wA := hb4.trans (hbA.mono hb4.size)
    have hzA := hb2A.size
    have hownA := own_below HS2.out.m hb2A
    refine nxL 8 (fun K hK => ?_)
    refine app_at_step Tryz.underlying86 info_rgs rfl (by decide) base _ N.length _ hownA (by unfold maxLen; omega) (by omega) (Nat.le_trans hbz2 hzA) w4.heap.size #[.slice A4 nm c4] kA rfl (by simp [Value.oneCell']) rfl (.tmp 22) (.tmp 25) rfl rfl rfl ?_
    intro g5 c5 w5 hown5 hgr5 hat5 hlt5
    have k5 := k4A.grown hgr5 (own_ne hownA k4A (by decide))
    refine hK.out _ _ k5 (fun hHeld => ?_)
    clear hK K; refine puL ?_
    (refine tkL 9 ?_; refine tkL 10 ?_)
    have x0 := k5.cell 0; have x1 := k5.cell 1; have x2 := k5.cell 2; have xf := k5.frozen; have xl := def_lt' k5
    dsimp at x0 x1 x2
    refine ltL 11 (fun K hK => ?_)
    go_simp
    refine hK.out _ _ ?_
    clear hK K; refine puL ?_
    refine anyL_done (by kernel_rfl) ?_
    have gr6 : w5.grownBy (w5.setCell ⟨bs, 2, none⟩ (.slice (some ⟨g5, 0, none⟩) (N.length + 1) c5)) (some bs) := gr_set (p := ⟨bs, 2, none⟩) (World.grownBy.refl _ _) (.inl rfl) _
    have k6 : Bk (w5.setCell ⟨bs, 2, none⟩ (.slice (some ⟨g5, 0, none⟩) (N.length + 1) c5)) bs 157 #[.int .i64 depth, lv1, .slice (some ⟨g5, 0, none⟩) (N.length + 1) c5] := k5.set_ 2 _
    generalize w5.setCell ⟨bs, 2, none⟩ (.slice (some ⟨g5, 0, none⟩) (N.length + 1) c5) = w6 at *
    have keep : ∀ {e size n v xs}, wA.ownsRow base e size v n xs → e ≠ 94 → e ≠ 157 → w6.ownsRow base e size v n xs := fun h1 hne hne2 =>
      own_grow (own_grow h1 hgr5 (own_type h1 hownA hne)) gr6 (fun g e => by injection e with e; subst e; exact own_ne (own_grow h1 hgr5 (own_type h1 hownA hne)) k5 hne2)
    have hs6 : StkAt w6 base bs lv1 (.slice (some ⟨g5, 0, none⟩) (N.length + 1) c5) depth L1 (N ++ [⟨A4, nm, c4, m⟩]) := by
      refine ⟨k6, HS2.out.le, keep (own_below HS2.out.l hb2A) (by decide) (by decide), ?_, ?_, ?_, HS2.out.nL, ?_, HS2.out.bd⟩
      · intro x hx
        exact (((HS2.out.g x hx).below hb2A).grow hownA hgr5 (by decide) (by decide) (by decide)).grown k5 gr6 (by decide) (by decide) (by decide)
      · rw [List.map_append, List.length_append]
        exact own_grow hown5 gr6 (fun g e => by injection e with e; subst e; exact own_ne hown5 k5 (by decide))
      · intro x hx
        rcases List.mem_append.1 hx with hx | hx
        · exact ⟨keep (own_below (HS2.out.ms x hx).1 hb2A) (by decide) (by decide), (HS2.out.ms x hx).2⟩
        · simp at hx
          subst hx
          exact ⟨keep (own_base (own_below o4 hbA) (by simpa using hbz2)) (by decide) (by decide), hnm⟩
      · rw [List.length_append]; simp; omega
    have hto6 : StkTo bs lv1 (.slice A3 N.length c3) lv1 (.slice (some ⟨g5, 0, none⟩) (N.length + 1) c5) w2 w6 := by
      refine ⟨((Stir.of_below hb2A).trans (Stir.of_gr hgr5 (fun i e => .inr (.inr e)))).trans (Stir.of_gr gr6 (fun i e => by injection e with e; exact .inl e.symm)), fun i hi => .inl hi, fun i hi => ?_⟩
      simp [Value.ownBlock] at hi
      subst hi
      rcases hat5 with e | e
      · exact .inl e
      · exact .inr (by omega)
    clear x0 x1 x2 keep hown5 hownA hgr5
    go_wp2
    go_ret
    obtain rfl := HN.out
    exact ⟨rfl, lv1, _, L1, _, hs6, (by first | exact hV1 | (rw [if_pos H5.out]; exact hV1)), (by first | rfl | (rw [if_pos H5.out]; rfl)), (by have h9 := HTO.out.trans hto6; first | exact h9 | (rw [H5.out] at h9; exact h9))⟩
  · have H5 := Lib.hid h500
    have h5 : ((Ms.length : Int) == 500) = false := beq_false_of_ne (by omega)
    have hN5 : Ms.length ≤ 499 := by have := hs1.nM; omega
    have hto2 : StkTo bs lv (.slice A2 Ms.length c2) lv (.slice A2 Ms.length c2) w w1 := StkTo.of_below hb1
    have HTO := Lib.hid hto2
    have HST := Lib.hid hto2.1
    have HS2 := HS1
    clear hto2 HFO hs1 h500
    go_wp2
    have k2 := HS2.out.k
    have hbz2 : base ≤ w1.heap.size := Nat.le_trans hbz HST.out.size
    have HR2 := Lib.hid (HM.out w1 HST.out)
    have hF : ∀ W, Bk W bs 157 #[.int .i64 depth, lv, .slice A2 Ms.length c2] → W.cell? ⟨bs, 2, none⟩ = some (.slice A2 Ms.length c2) := fun W h => h.cell 2
    have HF := Lib.hid hF
    clear hF
    go_upto_region 7 with fail
    refine wp_normal ?_
    refine region_L (S := fun W => Bk W bs 157 #[.int .i64 depth, lv, .slice A2 Ms.length c2]) [11] (by kernel_rfl) k2.drew (fun hHeld => ?_)
    (refine tkL 0 ?_; refine tkL 1 ?_; refine tkL 2 ?_; refine tkL 3 ?_; refine tkL 4 ?_; refine tkL 5 ?_)
    refine nxL 6 (fun K hK => ?_)
    go_simp
    go_at_call 81
    refine (clone_rgs Am nm cm m w1.drew HR2.out hA (by omega)).mono ?_
    rintro e w4 ⟨v4, rfl, o4, hb4'⟩
    obtain ⟨A4, c4, rfl, -, -, hA4, hrd4⟩ := own_form o4
    have hb4 : Below w1.heap.size w1 w4 := Below.trans (Below.refl _ _).drew hb4'
    have k4 := k2.ext hb4
    refine hK.out _ _ k4 (fun hHeld => ?_)
    clear hK K; refine puL ?_
    refine nxL 7 (fun K hK => ?_)
    go_simp
    refine hK.out _ _ (k4.alloc _) (fun hHeld => ?_)
    clear hK K; refine puL ?_
    have hbA : Below w4.heap.size w4 (w4.alloc (.cells #[.slice A4 nm c4] 94)) := belowA
    have kA := Bk.new w4 94 #[.slice A4 nm c4]
    have k4A := k4.alloc (.cells #[.slice A4 nm c4] 94)
    generalize w4.alloc (.cells #[.slice A4 nm c4] 94) = wA at *
    have hb2A : Below w1.heap.size w1 wA := hb4.trans (hbA.mono hb4.size)
    have hzA := hb2A.size
    have hownA := own_below HS2.out.m hb2A
    refine nxL 8 (fun K hK => ?_)
    refine app_at_step Tryz.underlying86 info_rgs rfl (by decide) base _ Ms.length _ hownA (by unfold maxLen; omega) (by omega) (Nat.le_trans hbz2 hzA) w4.heap.size #[.slice A4 nm c4] kA rfl (by simp [Value.oneCell']) rfl (.tmp 22) (.tmp 25) rfl rfl rfl ?_
    intro g5 c5 w5 hown5 hgr5 hat5 hlt5
    have k5 := k4A.grown hgr5 (own_ne hownA k4A (by decide))
    refine hK.out _ _ k5 (fun hHeld => ?_)
    clear hK K; refine puL ?_
    (refine tkL 9 ?_; refine tkL 10 ?_)
    have x0 := k5.cell 0; have x1 := k5.cell 1; have x2 := k5.cell 2; have xf := k5.frozen; have xl := def_lt' k5
    dsimp at x0 x1 x2
    refine ltL 11 (fun K hK => ?_)
    go_simp
    refine hK.out _ _ ?_
    clear hK K; refine puL ?_
    refine anyL_done (by kernel_rfl) ?_
    have gr6 : w5.grownBy (w5.setCell ⟨bs, 2, none⟩ (.slice (some ⟨g5, 0, none⟩) (Ms.length + 1) c5)) (some bs) := gr_set (p := ⟨bs, 2, none⟩) (World.grownBy.refl _ _) (.inl rfl) _
    have k6 : Bk (w5.setCell ⟨bs, 2, none⟩ (.slice (some ⟨g5, 0, none⟩) (Ms.length + 1) c5)) bs 157 #[.int .i64 depth, lv, .slice (some ⟨g5, 0, none⟩) (Ms.length + 1) c5] := k5.set_ 2 _
    generalize w5.setCell ⟨bs, 2, none⟩ (.slice (some ⟨g5, 0, none⟩) (Ms.length + 1) c5) = w6 at *
    have keep : ∀ {e size n v xs}, wA.ownsRow base e size v n xs → e ≠ 94 → e ≠ 157 → w6.ownsRow base e size v n xs := fun h1 hne hne2 =>
      own_grow (own_grow h1 hgr5 (own_type h1 hownA hne)) gr6 (fun g e => by injection e with e; subst e; exact own_ne (own_grow h1 hgr5 (own_type h1 hownA hne)) k5 hne2)
    have hs6 : StkAt w6 base bs lv (.slice (some ⟨g5, 0, none⟩) (Ms.length + 1) c5) depth L (Ms ++ [⟨A4, nm, c4, m⟩]) := by
      refine ⟨k6, HS2.out.le, keep (own_below HS2.out.l hb2A) (by decide) (by decide), ?_, ?_, ?_, HS2.out.nL, ?_, HS2.out.bd⟩
      · intro x hx
        exact (((HS2.out.g x hx).below hb2A).grow hownA hgr5 (by decide) (by decide) (by decide)).grown k5 gr6 (by decide) (by decide) (by decide)
      · rw [List.map_append, List.length_append]
        exact own_grow hown5 gr6 (fun g e => by injection e with e; subst e; exact own_ne hown5 k5 (by decide))
      · intro x hx
        rcases List.mem_append.1 hx with hx | hx
        · exact ⟨keep (own_below (HS2.out.ms x hx).1 hb2A) (by decide) (by decide), (HS2.out.ms x hx).2⟩
        · simp at hx
          subst hx
          exact ⟨keep (own_base (own_below o4 hbA) (by simpa using hbz2)) (by decide) (by decide), hnm⟩
      · rw [List.length_append]; simp; omega
    have hto6 : StkTo bs lv (.slice A2 Ms.length c2) lv (.slice (some ⟨g5, 0, none⟩) (Ms.length + 1) c5) w1 w6 := by
      refine ⟨((Stir.of_below hb2A).trans (Stir.of_gr hgr5 (fun i e => .inr (.inr e)))).trans (Stir.of_gr gr6 (fun i e => by injection e with e; exact .inl e.symm)), fun i hi => .inl hi, fun i hi => ?_⟩
      simp [Value.ownBlock] at hi
      subst hi
      rcases hat5 with e | e
      · exact .inl e
      · exact .inr (by omega)
    clear x0 x1 x2 keep hown5 hownA hgr5
    go_wp2
    go_ret
    exact ⟨rfl, lv, _, L, _, hs6, (by first | rfl | rw [if_neg H5.out]), (by first | (rw [List.map_append]; rfl) | (rw [if_neg H5.out, List.map_append]; rfl)), HTO.out.trans hto6⟩
end Go.Proofs.YtmacfoebfpljoaaGreat
/- stack: the law's example; StackPends -/
namespace Go.Proofs.YtmacfoebfpljoaaGreat
open Go.RowKit
def gz (lost : Int) : GrH := ⟨none, 0, 0, [], ⟨0, 0, 0⟩, ⟨0, 0, 0⟩, lost⟩
theorem gz_in (lost : Int) (w : World) (B : Nat) : (gz lost).In w B := ⟨StsIn.nil_ _ _ _, by show (0 : Nat) ≤ 1000000; omega, fun _ => rfl⟩
theorem foldV_nil (V : List GrC) : foldV [] V = V := by unfold foldV; rw [if_pos rfl]
theorem trim_two (a b : GrC) : trimV 1 ([a] ++ [b]) = 1 := by
  rw [trimV_go (by simp) (.inl (by simp))]
  rw [trimV_stop (by simp)]
theorem trim_one (d : Int) (a : GrC) : trimV d ([] ++ [a]) = 0 := trimV_stop (by simp)
set_option maxRecDepth 100000 in
set_option maxHeartbeats 4000000 in
theorem live37_any (w : World) : Calls Tryz.prog 38 #[] w fun e w' => e = .returned (.bool true) ∧ Below w.heap.size w w' := by
  go_enter Tryz.func38, Tryz.ntmps38
  go_wp2_with (go_at_call 37; (refine (new_any 1 _ (by omega) (by omega)).mono ?_); rintro e w1 ⟨rfl, s1, hb1⟩)
  have hp1 := push_any w.heap.size w.heap.size _ _ 1 [] [] (gz 0) w1 s1 (fun w' _ => gz_in 0 w' _) (by show (0 : Nat) ≤ 1000; omega) (by show -9223372036854775808 ≤ (0 : Int) ∧ (0 : Int) ≤ 9223372036854775807; omega) (by simp)
  rw [List.map_nil, List.map_nil, foldV_nil, trim_one, List.nil_append, List.drop_zero] at hp1
  refine hp1.mono ?_
  rintro e w2 ⟨rfl, lv2, mv2, L2, Ms2, s2, V2, M2, t2⟩
  obtain rfl : Ms2 = [] := by simpa using M2
  have hb2 := hb1.trans (((t2.below s1)).mono (Nat.le_refl _))
  have hp2 := push_any w.heap.size w.heap.size _ _ 1 L2 [] (gz 3) w2 s2 (fun w' _ => gz_in 3 w' _) (by show (0 : Nat) ≤ 1000; omega) (by show -9223372036854775808 ≤ (3 : Int) ∧ (3 : Int) ≤ 9223372036854775807; omega) (by have := congrArg List.length V2; simp at this; omega)
  rw [List.map_nil, foldV_nil, V2, trim_two] at hp2
  have HP2 := Lib.hid hp2
  clear hp1 hp2 M2
  go_wp2_with (go_at_call 30; fail)
  refine HP2.out.mono ?_
  rintro e w3 ⟨rfl, lv3, mv3, L3, Ms3, s3, V3, M3, t3⟩
  obtain rfl : Ms3 = [] := by simpa using M3
  have hb3 := hb2.trans (((t3.below s2)).mono (Nat.le_refl _))
  have hgr := groups_any w.heap.size w.heap.size _ _ 1 L3 [] w3 s3
  rw [V3] at hgr
  have HGR := Lib.hid hgr
  clear hgr M3 HP2
  go_wp2_with (go_at_call 32; fail)
  refine HGR.out.mono ?_
  intro e w4 ho4
  obtain ⟨A4, n4, c4, L4, rfl, hl4, -, hin4, -, hV4, hb4⟩ := grs_out ho4
  obtain ⟨g4, rfl, hg4⟩ := map_one (a := (gz 3).val) (by rw [hV4]; rfl)
  obtain rfl : n4 = 1 := hl4.symm
  obtain ⟨gin, b, o, rfl, hb, hcc⟩ := hin4.at_ (k := 0) (g := g4) rfl
  have hgl : g4.lost = 3 := congrArg GrC.lost hg4
  have d7 := hcc 7 (by omega)
  simp only [GrH.cells, hgl] at d7
  dsimp at d7
  have hb5 := hb3.trans (hb4.mono hb3.size)
  clear hcc hin4 gin ho4 HGR
  go_wp2
  go_ret
  exact ⟨rfl, hb5⟩
end Go.Proofs.YtmacfoebfpljoaaGreat
namespace Go.Proofs.YtmacfoebfpljoaaGreat
open Go.RowKit
set_option maxHeartbeats 400000 in
theorem len_any (base bs : Nat) (lv mv : Value) (depth : Int) (L : List GrH) (Ms : List MpH) (w : World) (h : StkAt w base bs lv mv depth L Ms) :
    Calls Tryz.prog 33 #[.pointer (some ⟨bs, 0, none⟩)] w fun e w' => e = .returned (.int .i64 (L.length : Nat)) ∧ w = w' := by
  obtain ⟨A2, c2, rfl, -, -, -, -⟩ := own_form h.l
  have c0 := h.k.cell 1
  dsimp at c0
  clear h
  go_enter Tryz.func33, Tryz.ntmps33
  go_wp2
  go_ret
  exact ⟨rfl, rfl⟩
set_option maxRecDepth 100000 in
set_option maxHeartbeats 4000000 in
theorem set_any (base bs : Nat) (lv mv : Value) (depth : Int) (L : List GrH) (Ms : List MpH) (A : Option Addr) (n c : Nat) (G : List GrH) (w : World) (h : StkAt w base bs lv mv depth L Ms) (hG : GrsIn w w.heap.size A n G) (hn : n ≤ 300) (hbd : BdC (G.map GrH.val)) :
    Calls Tryz.prog 29 #[.pointer (some ⟨bs, 0, none⟩), .slice A n c] w fun e w' => (∃ v, e = .returned v) ∧ StkOut base bs lv mv depth (G.map GrH.val).reverse [] w w' := by
  have HS := Lib.hid h
  have hlt := def_lt' h.k
  have hcp := copy_any A n c G w hG (by omega) (fun g hg => by
    have h1 := (hbd g.val (List.mem_map.2 ⟨g, hg, rfl⟩)).1
    have h2 := (hG.2 g hg).sts.len
    simp only [GrH.val, List.length_map] at h1
    omega)
  have HCP := Lib.hid hcp
  have HBD := Lib.hid hbd
  have hGl := hG.len
  have HGL := Lib.hid hGl
  have hbz : base ≤ w.heap.size := Nat.le_of_lt (Nat.lt_of_le_of_lt h.le hlt)
  clear h hcp hG hbd hGl
  go_enter Tryz.func29, Tryz.ntmps29
  go_wp2_with (go_at_call 75; fail)
  refine HCP.out.mono ?_
  intro e w1 ho1
  obtain ⟨A1, n1, c1, L1, rfl, hl1, o1, hin1, hO1, hV1, hb1⟩ := grs_out ho1
  have hn1 : n1 = n := by
    have := congrArg List.length hV1
    have := HGL.out
    simp only [List.length_map] at *
    omega
  subst hn1
  have htu := turned_any A1 n1 c1 L1 w1 hin1.1 (by omega)
  have HTU := Lib.hid htu
  clear ho1 hin1 htu
  go_wp2_with (go_at_call 78; fail)
  refine HTU.out.mono ?_
  rintro e w2 ⟨v2, rfl, o2, hb2⟩
  obtain ⟨A3, c3, rfl, -, -, -, -⟩ := own_form o2
  have hb12 : Below w.heap.size w w2 := hb1.trans (hb2.mono hb1.size)
  have k2 := HS.out.k.ext hb12
  have d0 := k2.cell 0; have d1 := k2.cell 1; have d2 := k2.cell 2; have f2 := k2.frozen; have l2 := def_lt' k2
  dsimp at d0 d1 d2
  go_wp2
  have gr2 : w2.grownBy ((w2.setCell ⟨bs, 1, none⟩ (.slice A3 n1 c3)).setCell ⟨bs, 2, none⟩ (.slice none 0 0)) (some bs) := gr_set (p := ⟨bs, 2, none⟩) (gr_set (p := ⟨bs, 1, none⟩) (World.grownBy.refl _ _) (.inl rfl) _) (.inl rfl) _
  have kf : Bk ((w2.setCell ⟨bs, 1, none⟩ (.slice A3 n1 c3)).setCell ⟨bs, 2, none⟩ (.slice none 0 0)) bs 157 #[.int .i64 depth, .slice A3 n1 c3, .slice none 0 0] := (k2.set_ 1 _).set_ 2 _
  have hz1 := hb1.size
  have hz2 := hb2.size
  go_end0
  refine ⟨⟨_, rfl⟩, .slice A3 n1 c3, .slice none 0 0, L1.reverse, [], ⟨kf, HS.out.le, ?_, ?_, World.ownsRow_nil _ _ _ _, fun m hm => (by cases hm), ?_, (by simp), ?_⟩, ?_, rfl, ?_, ?_, ?_⟩
  · have h1 := own_base o2 (Nat.le_trans hbz hz1)
    have h2 := own_grow h1 gr2 (fun g e => by injection e with e; subst e; exact own_ne h1 k2 (by decide))
    rw [List.length_reverse, hl1]
    exact h2
  · intro g hg
    exact (((hO1 g (by simpa using hg)).base_ hbz).below hb2).grown k2 gr2 (by decide) (by decide) (by decide)
  · simp only [List.length_reverse]
    omega
  · rw [List.map_reverse, hV1]
    exact HBD.out.rev
  · rw [List.map_reverse, hV1]
  · exact (Stir.of_below hb12).fresh (Stir.of_gr gr2 (X := fun i => i = bs) (fun i e => by injection e with e; exact e.symm)) (fun i hi => .inl (.inl hi))
  · intro i hi
    have := own_ge o2 i hi
    exact .inr (by omega)
  · intro i hi
    cases hi
end Go.Proofs.YtmacfoebfpljoaaGreat
namespace Go.Proofs.YtmacfoebfpljoaaGreat
open Go.RowKit
set_option linter.unusedVariables false
set_option maxRecDepth 100000 in
set_option maxHeartbeats 1000000 in
theorem grow_step (w : World) (n : Nat) (hn : n ≤ 1000000) : Calls Tryz.prog 131 #[.slice none 0 0, .int .i64 n] w fun e w' => ∃ v, e = .returned v ∧ w'.ownsRow w.heap.size 45 10 v 0 [] ∧ Below w.heap.size w w' := by
  by_cases h0 : n = 0
  · subst h0
    go_enter Tryz.func131, Tryz.ntmps131
    go_wp2
    go_ret
    exact ⟨_, rfl, World.ownsRow_nil _ _ _ _, Below.refl _ _⟩
  have e1 : (0 : Int) < n := by omega
  have hby : Tryz.t45.bytes = 112 := by kernel_rfl
  have hnc : Builtin.nextslicecap n 0 = n := nextslicecap_zero (by omega)
  have hc1 := grownCap_ge w n 0 45
  have hc2 := grownCap_le_maxLen w n 0 45 (by unfold maxLen; omega)
  have HC1 := Lib.hid hc1
  have HC2 := Lib.hid hc2
  clear hc1 hc2
  go_enter Tryz.func131, Tryz.ntmps131
  go_wp2
  have hZ : ((w.alloc (.cells (Builtin.zeroCells (stp 0 0 0 0 0 0 0 0 none 0 0 none 0 0) n ++ Builtin.zeroCells (stp 0 0 0 0 0 0 0 0 none 0 0 none 0 0) (grownCap w n 0 45 - n)) 45)).drew).ownsRow w.heap.size 45 10 (.slice (some ⟨w.heap.size, 0, none⟩) 0 (grownCap w n 0 45)) 0 [] := by
    refine ⟨rfl, .inr ⟨w.heap.size, _, _, rfl, Nat.le_refl _, heap_alloc_new w _, Nat.zero_le _, HC2.out, ?_, by simp⟩⟩
    have := HC1.out
    simp only [Array.size_append, size_zeroCells, stp, ← Nat.add_mul]
    show (n + (grownCap w n 0 45 - n)) * 10 = _
    congr 1
    omega
  go_ret
  exact ⟨_, rfl, hZ, belowA⟩
set_option maxRecDepth 100000 in
set_option maxHeartbeats 4000000 in
theorem concat_step (B : Nat) (A1 A2 : Option Addr) (n1 c1 n2 c2 : Nat) (L1 L2 : List StH) (w : World) (hk : Bk w B 23 #[.slice A1 n1 c1, .slice A2 n2 c2]) (h1 : Rd w w.heap.size 10 A1 n1 (sts L1)) (h2 : Rd w w.heap.size 10 A2 n2 (sts L2)) (hA1 : A1 = none → n1 = 0) (hA2 : A2 = none → n2 = 0) (hn1 : n1 ≤ 1000) (hn2 : n2 ≤ 1000) :
    Calls Tryz.prog 76 #[.slice (some ⟨B, 0, none⟩) 2 2] w fun e w' => ∃ v, e = .returned v ∧ w'.ownsRow w.heap.size 45 10 v (n1 + n2) (sts L1 ++ sts L2) ∧ Below w.heap.size w w' := by
  have H1 := Lib.hid h1
  have H2 := Lib.hid h2
  have HK := Lib.hid hk
  have hlt := def_lt' hk
  have HA1 := Lib.hid hA1
  have HA2 := Lib.hid hA2
  clear h1 h2 hk hA1 hA2
  go_enter Tryz.func76, Tryz.ntmps76
  go_wp2
  go_loopw [3, 11] (fun t j wr => ∃ (q m : Nat), q ≤ 2 ∧ j = .int .i64 q ∧ t = .int .i64 m ∧ m ≤ q * 1000 ∧ Below w.heap.size w wr) (fun _ j _ => 2 - (intOf j).toNat)
  case atStart => exact ⟨0, 0, by omega, rfl, rfl, by omega, Below.refl _ _⟩
  case round =>
    obtain ⟨q, m, hq, rfl, rfl, hm, hbr⟩ := hrel
    have hcell : ∀ (q : Nat) (A : Option Addr) (n c : Nat), q < 2 → (#[Value.slice A1 n1 c1, .slice A2 n2 c2] : Array Value)[q]? = some (.slice A n c) → wr.cell? ⟨B, q, none⟩ = some (.slice A n c) := fun q A n c h he => by
      have h3 := (HK.out.ext hbr).cell q
      rw [h3, he]
    have e2 : q = 0 ∨ q = 1 ∨ q = 2 := by omega
    rcases e2 with rfl | rfl | rfl
    · have d0 := hcell 0 A1 n1 c1 (by omega) rfl
      have e4 : IntKind.i64.wrap ((m : Int) + n1) = ((m + n1 : Nat) : Int) := by rw [IntWalk.i64_in _ (by omega)]; omega
      have e5 : ¬ ((m + n1 : Nat) : Int) < 0 := by omega
      clear hcell
      go_wp2
      go_roundw
      case rel => exact ⟨1, m + n1, by omega, rfl, by go_num, by omega, hbr⟩
      case measure => simp [intOf]
    · have d0 := hcell 1 A2 n2 c2 (by omega) rfl
      have e4 : IntKind.i64.wrap ((m : Int) + n2) = ((m + n2 : Nat) : Int) := by rw [IntWalk.i64_in _ (by omega)]; omega
      have e5 : ¬ ((m + n2 : Nat) : Int) < 0 := by omega
      clear hcell
      go_wp2
      go_roundw
      case rel => exact ⟨2, m + n2, by omega, rfl, by go_num, by omega, hbr⟩
      case measure => simp [intOf]
    · clear hcell
      have hgr := grow_step wr m (by omega)
      have HGR := Lib.hid hgr
      clear hgr
      go_wp2_with (go_at_call 131; (refine HGR.out.mono ?_); rintro e w3 ⟨v3, rfl, hown3, hb3⟩)
      have hb30 : Below w.heap.size w w3 := hbr.trans (hb3.mono hbr.size)
      have hown30 := own_base hown3 hbr.size
      clear hown3 HGR
      go_loopw [6, 27] (fun v j wr => ∃ (q : Nat), q ≤ 2 ∧ j = .int .i64 q ∧ Below w.heap.size w wr ∧ Hid ((q = 0 ∧ wr.ownsRow w.heap.size 45 10 v 0 []) ∨ (q = 1 ∧ wr.ownsRow w.heap.size 45 10 v n1 (sts L1)) ∨ (q = 2 ∧ wr.ownsRow w.heap.size 45 10 v (n1 + n2) (sts L1 ++ sts L2)))) (fun _ j _ => 2 - (intOf j).toNat)
      case atStart => exact ⟨0, by omega, rfl, hb30, Lib.hid (.inl ⟨rfl, hown30⟩)⟩
      case round =>
        clear hb30 hown30 hb3 hbr hm
        obtain ⟨q, hq, rfl, hbr, hor⟩ := hrel
        have hbz := hbr.size
        have hcell : ∀ (q : Nat) (A : Option Addr) (n c : Nat), q < 2 → (#[Value.slice A1 n1 c1, .slice A2 n2 c2] : Array Value)[q]? = some (.slice A n c) → wr.cell? ⟨B, q, none⟩ = some (.slice A n c) := fun q A n c h he => by
          have h3 := (HK.out.ext hbr).cell q
          rw [h3, he]
        rcases hor.out with ⟨rfl, ho⟩ | ⟨rfl, ho⟩ | ⟨rfl, ho⟩
        · have d0 := hcell 0 A1 n1 c1 (by omega) rfl
          clear hcell
          have hrd := (H1.out.below hbr).more hbz
          go_wp2_with (at_builtin; ((with_reducible refine app_rd Tryz.underlying23 info_step rfl (by decide) _ w.heap.size _ 0 [] ho _ A1 n1 c1 (sts L1) hrd HA1.out (sts_one L1) (by unfold maxLen; omega) (by omega) hbz rfl _ _ rfl rfl rfl ?_); intro v' w1 hown hgr hat))
          go_roundw
          case rel => exact ⟨1, by omega, rfl, below_own hbr ho hgr hbz (Nat.le_refl _), Lib.hid (.inr (.inl ⟨rfl, by simpa using hown⟩))⟩
          case measure => simp [intOf]
        · have d0 := hcell 1 A2 n2 c2 (by omega) rfl
          clear hcell
          have hrd := (H2.out.below hbr).more hbz
          go_wp2_with (at_builtin; ((with_reducible refine app_rd Tryz.underlying23 info_step rfl (by decide) _ w.heap.size _ n1 _ ho _ A2 n2 c2 (sts L2) hrd HA2.out (sts_one L2) (by unfold maxLen; omega) (by omega) hbz rfl _ _ rfl rfl rfl ?_); intro v' w1 hown hgr hat))
          go_roundw
          case rel => exact ⟨2, by omega, rfl, below_own hbr ho hgr hbz (Nat.le_refl _), Lib.hid (.inr (.inr ⟨rfl, hown⟩))⟩
          case measure => simp [intOf]
        · clear hcell
          go_wp2
          go_ret
          exact ⟨_, rfl, ho, hbr⟩
end Go.Proofs.YtmacfoebfpljoaaGreat
namespace Go.Proofs.YtmacfoebfpljoaaGreat
open Go.RowKit
set_option maxHeartbeats 1000000 in
theorem rshift_any (A : Option Addr) (n c m : Nat) (l : List Rg) (w : World) (hrd : Rd w w.heap.size 3 A n (rgs l)) (hr : rightM l = true) (hm : m ≤ n) :
    Calls Tryz.prog 68 #[.slice A n c, .int .i64 m] w fun e w' => e = .returned (.int .i64 (shiftL (l.take m))) ∧ ∃ q, w' = w.drewN q := by
  have hl := hrd.rlen
  have hn2 : n ≤ 1000 := by have := right_len hr; omega
  have HR := Lib.hid hr
  have HL := Lib.hid hl
  clear hr hl
  go_enter Tryz.func68, Tryz.ntmps68
  go_wp2
  go_loopw [5, 6] (fun v i wr => ∃ k : Nat, k ≤ m ∧ i = .int .i64 k ∧ v = .int .i64 (shiftL (l.take k)) ∧ ∃ q, wr = w.drewN q) (fun _ i _ => n - (intOf i).toNat)
  case atStart => exact ⟨0, by omega, rfl, rfl, 0, rfl⟩
  case round =>
    obtain ⟨k, hk, rfl, rfl, q, rfl⟩ := hrel
    by_cases hkn : k < m
    · obtain ⟨b, o, rfl, hbB, _⟩ := hrd.2 (by omega)
      obtain ⟨r, hx⟩ : ∃ r, l[k]? = some r := ⟨_, List.getElem?_eq_getElem (by have := HL.out; omega)⟩
      obtain ⟨hc0, hc1, hc2, hb⟩ := hrd.rg hx
      obtain ⟨f1, f2, f3, f4, f5, f6⟩ := right_fits HR.out r (List.mem_of_getElem? hx)
      have hsb := shift_take_bd HR.out k
      have hsn := shiftL_snoc hx
      have HS := Lib.hid hsn
      clear hx hsn
      generalize shiftL (l.take k) = s at *
      have e1 : IntKind.i64.wrap (s + r.new) = s + r.new := IntWalk.i64_in _ (by omega)
      have e2 : IntKind.i64.wrap (s + r.new - r.old) = s + r.new - r.old := IntWalk.i64_in _ (by omega)
      have e3 : (k : Int) < n := by omega
      go_wp2
      go_quiet (fail)
      go_wp2
      go_roundw
      case rel => exact ⟨k + 1, by omega, by go_num, by rw [HS.out]; congr 1; omega, q + _, rfl⟩
      case measure => simp [intOf]; omega
    · obtain rfl : m = k := by omega
      go_wp2
      go_ret
      exact ⟨rfl, q, rfl⟩
set_option maxRecDepth 100000 in
set_option maxHeartbeats 2000000 in
theorem rinv_any (A : Option Addr) (n c : Nat) (l : List Rg) (w : World) (hrd : Rd w w.heap.size 3 A n (rgs l)) (hr : rightM l = true) :
    Calls Tryz.prog 142 #[.slice A n c] w fun e w' => ∃ v, e = .returned v ∧ w'.ownsRow w.heap.size 155 3 v n (rgs (invM l)) ∧ Below w.heap.size w w' := by
  have hl := hrd.rlen
  have hn2 : n ≤ 1000 := by have := right_len hr; omega
  have hsh := fun (m : Nat) (hm : m ≤ n) W (hb : Below w.heap.size w W) => rshift_any A n c m l W ((hrd.below hb).more hb.size) hr hm
  have HSH := Lib.hid hsh
  have HR := Lib.hid hr
  have HL := Lib.hid hl
  clear hsh hr hl
  go_enter Tryz.func142, Tryz.ntmps142
  go_wp2
  go_loopw [3, 4] (fun v i wr => ∃ k : Nat, k ≤ n ∧ i = .int .i64 k ∧ wr.ownsRow w.heap.size 155 3 v k (rgs (invM (l.take k))) ∧ Below w.heap.size w wr) (fun _ i _ => n - (intOf i).toNat)
  case atStart => exact ⟨0, by omega, rfl, World.ownsRow_nil _ _ _ _, Below.refl _ _⟩
  case round =>
    obtain ⟨k, hk, rfl, hown, hbr⟩ := hrel
    by_cases hkn : k < n
    · obtain ⟨b, o, rfl, hbB, _⟩ := hrd.2 (by omega)
      obtain ⟨r, hx⟩ : ∃ r, l[k]? = some r := ⟨_, List.getElem?_eq_getElem (by have := HL.out; omega)⟩
      obtain ⟨hc0, hc1, hc2, hb⟩ := (hrd.below hbr).rg hx
      obtain ⟨f1, f2, f3, f4, f5, f6⟩ := right_fits HR.out r (List.mem_of_getElem? hx)
      have hsb := shift_take_bd HR.out k
      have hsn := invM_snoc hx
      have hcall := fun W hb => HSH.out k (by omega) W hb
      generalize hs : shiftL (l.take k) = s at *
      have HS := Lib.hid hsn
      have HC := Lib.hid hcall
      clear hx hsn hs hcall
      have e3 : (k : Int) < n := by omega
      have e4 : IntKind.i64.wrap (r.at_ + s) = r.at_ + s := IntWalk.i64_in _ (by omega)
      have hbw := hbr.size
      have hF : ∀ w', Below w.heap.size wr w' → w'.cell? ⟨b, o + k * 3, none⟩ = some (.int .i64 r.at_) ∧ w'.cell? ⟨b, o + k * 3 + 1, none⟩ = some (.int .i64 r.old) ∧ w'.cell? ⟨b, o + k * 3 + 2, none⟩ = some (.int .i64 r.new) :=
        fun w' hb' => ⟨(hb'.cell (p := ⟨b, _, none⟩) hbB).trans hc0, (hb'.cell (p := ⟨b, _, none⟩) hbB).trans hc1, (hb'.cell (p := ⟨b, _, none⟩) hbB).trans hc2⟩
      have HF := Lib.hid hF
      clear hF
      go_wp2
      refine wp_normal ?_
      refine wp_region_held_drew (S := fun w' => Below w.heap.size wr w') (by kernel_rfl) belowA (fun hHeld => ?_)
      (refine tkH 0 ?_; refine tkH 1 ?_; refine tkH 2 ?_; refine tkH 3 ?_; refine tkH 4 ?_; refine tkH 5 ?_; refine tkH 6 ?_; refine tkH 7 ?_; refine tkH 10 ?_; refine tkH 11 ?_; refine tkH 12 ?_; refine tkH 13 ?_; refine tkH 14 ?_; refine tkH 15 ?_; refine tkH 16 ?_; refine tkH 17 ?_; refine tkH 18 ?_; refine tkH 19 ?_)
      refine nxH 8 (fun K hK => ?_)
      go_simp
      go_at_call 68
      refine (HC.out _ hbr.drew).mono ?_
      rintro e w1 ⟨rfl, q, rfl⟩
      refine hK.out _ _ belowA (fun hHeld => ?_)
      clear hK K; refine puH ?_
      (refine tkH 9 ?_; refine tkH 20 ?_)
      refine nxH 21 (fun K hK => ?_)
      go_simp
      refine hK.out _ _ belowA (fun hHeld => ?_)
      clear hK K; refine puH ?_
      refine nxH 22 (fun K hK => ?_)
      have hown1 : ((wr.drewN (1 + q)).alloc (.cells #[.int .i64 (r.at_ + s), .int .i64 r.new, .int .i64 r.old] 155)).ownsRow w.heap.size 155 3 _ k (rgs (invM (l.take k))) := World.ownsRow.alloc (w := wr.drewN (1 + q)) hown _
      refine app_at_step Tryz.underlying94 info_range rfl (by decide) w.heap.size _ k _ hown1 (by unfold maxLen; omega) (by omega) (by simp; omega) wr.heap.size _ (Bk.new (wr.drewN (1 + q)) _ _) rfl (by simp [Value.oneCell']) rfl (.tmp 11) (.tmp 32) rfl rfl rfl ?_
      intro g cap w2 hown2 hgr2 hat2 hlt2
      have hgb : Below w.heap.size wr w2 := below_own hHeld hown1 hgr2 (by simp; omega) (Nat.le_refl _)
      refine hK.out _ _ hgb (fun hHeld => ?_)
      clear hK K; refine puH ?_
      (refine tkH 23 ?_)
      refine wpAnyH_done (by kernel_rfl) ?_ _
      go_wp2
      go_roundw
      case rel => exact ⟨k + 1, by omega, by go_num, by rw [HS.out, rgs_append]; exact hown2, hbr.trans (hgb.mono (Nat.le_refl _))⟩
      case measure => simp [intOf]; omega
    · obtain rfl : n = k := by omega
      go_wp2
      go_ret
      refine ⟨_, rfl, ?_, hbr⟩
      rw [List.take_of_length_le (by rw [HL.out]; omega)] at hown
      exact hown
/-- the document's answer: -1 is none -/
def recD (l : List Rg) (at_ off : Int) : Int := match recM l at_ off with | some x => x | none => -1
set_option maxRecDepth 100000 in
set_option maxHeartbeats 2000000 in
theorem rrec_any (A : Option Addr) (n c : Nat) (l : List Rg) (at_ off : Int) (w : World) (hrd : Rd w w.heap.size 3 A n (rgs l)) (hr : rightM l = true) :
    Calls Tryz.prog 216 #[.slice A n c, .int .i64 at_, .int .i64 off] w fun e w' => e = .returned (.int .i64 (recD l at_ off)) ∧ Below w.heap.size w w' := by
  have hl := hrd.rlen
  have hn2 : n ≤ 1000 := by have := right_len hr; omega
  have hri := rright_any A n c l w (by unfold maxLen; omega) (fun _ => hrd) hl
  rw [hr] at hri
  have HRI := Lib.hid hri
  have hsh := fun (m : Nat) (hm : m ≤ n) W (hb : Below w.heap.size w W) => rshift_any A n c m l W ((hrd.below hb).more hb.size) hr hm
  have HSH := Lib.hid hsh
  have HR := Lib.hid hr
  have HL := Lib.hid hl
  clear hri hsh hr hl
  by_cases h0 : 0 ≤ at_ ∧ at_ < n
  · obtain ⟨k, rfl⟩ : ∃ k : Nat, at_ = k := ⟨at_.toNat, by omega⟩
    have hkn : k < n := by omega
    obtain ⟨b, o, rfl, hbB, _⟩ := hrd.2 (by omega)
    obtain ⟨r, hx⟩ : ∃ r, l[k]? = some r := ⟨_, List.getElem?_eq_getElem (by have := HL.out; omega)⟩
    obtain ⟨f1, f2, f3, f4, f5, f6⟩ := right_fits HR.out r (List.mem_of_getElem? hx)
    have hsb := shift_take_bd HR.out k
    have hcall := fun W hb => HSH.out k (by omega) W hb
    have e3 : (k : Int) < n := by omega
    have hcells := fun W (hb : Below w.heap.size w W) => (hrd.below hb).rg hx
    have HCL := Lib.hid hcells
    clear hcells
    have hval : recD l k off = if 0 ≤ off ∧ off ≤ r.new then r.at_ + shiftL (l.take k) + off else -1 := by
      unfold recD recM
      rw [if_pos (by omega), Int.toNat_natCast, hx, Option.bind_some]
      by_cases hh : 0 ≤ off ∧ off ≤ r.new
      · rw [if_pos hh, if_pos hh]
      · rw [if_neg hh, if_neg hh]
    generalize hs : shiftL (l.take k) = s at *
    have HC := Lib.hid hcall
    have HV := Lib.hid hval
    clear hcall hval hx hs
    by_cases h2 : off < 0
    · have h4 : ¬ (0 ≤ off ∧ off ≤ r.new) := by omega
      have hv := HV.out
      rw [if_neg h4] at hv
      have HVV := Lib.hid hv
      clear hv h4
      go_enter Tryz.func216, Tryz.ntmps216
      go_wp2_with (go_at_call 86; refine HRI.out.mono ?_; rintro e w1 ⟨rfl, hb1⟩)
      go_ret
      exact ⟨ret_int HVV.out.symm, hb1⟩
    · by_cases h3 : off ≤ r.new
      · have h4 : 0 ≤ off ∧ off ≤ r.new := by omega
        have hv := HV.out
        rw [if_pos h4] at hv
        have HVV := Lib.hid hv
        clear hv
        obtain ⟨h4, _⟩ := h4
        have e5 : IntKind.i64.wrap (r.at_ + s) = r.at_ + s := IntWalk.i64_in _ (by omega)
        have e6 : IntKind.i64.wrap (r.at_ + s + off) = r.at_ + s + off := IntWalk.i64_in _ (by omega)
        go_enter Tryz.func216, Tryz.ntmps216
        go_wp2_with (go_at_call 86; refine HRI.out.mono ?_; rintro e w1 ⟨rfl, hb1⟩; obtain ⟨hc0, hc1, hc2, _⟩ := HCL.out _ hb1)
        have hF : ∀ w', Below w.heap.size w1 w' → w'.cell? ⟨b, o + k * 3, none⟩ = some (.int .i64 r.at_) := fun w' hb' => (hb'.cell (p := ⟨b, _, none⟩) hbB).trans hc0
        have HF := Lib.hid hF
        clear hF
        refine wp_normal ?_
        refine wp_region_held_drew (S := fun w' => Below w.heap.size w1 w') (by kernel_rfl) belowA (fun hHeld => ?_)
        (refine tkH 0 ?_; refine tkH 1 ?_; refine tkH 2 ?_; refine tkH 3 ?_; refine tkH 4 ?_; refine tkH 5 ?_; refine tkH 6 ?_; refine tkH 9 ?_)
        refine nxH 7 (fun K hK => ?_)
        go_simp
        go_at_call 68
        refine (HC.out _ hb1.drew).mono ?_
        rintro e w2 ⟨rfl, q, rfl⟩
        refine hK.out _ _ belowA (fun hHeld => ?_)
        clear hK K; refine puH ?_
        (refine tkH 8 ?_; refine tkH 10 ?_; refine tkH 11 ?_)
        refine wpAnyH_done (by kernel_rfl) ?_ _
        go_wp2
        go_ret
        exact ⟨ret_int HVV.out.symm, hb1.trans (hHeld.mono (Nat.le_refl _))⟩
      · have h4 : ¬ (0 ≤ off ∧ off ≤ r.new) := by omega
        have hv := HV.out
        rw [if_neg h4] at hv
        have HVV := Lib.hid hv
        clear hv h4
        go_enter Tryz.func216, Tryz.ntmps216
        go_wp2_with (go_at_call 86; refine HRI.out.mono ?_; rintro e w1 ⟨rfl, hb1⟩; obtain ⟨hc0, hc1, hc2, _⟩ := HCL.out _ hb1)
        go_ret
        exact ⟨ret_int HVV.out.symm, hb1⟩
  · have hval : recD l at_ off = -1 := by
      unfold recD recM
      by_cases h1 : 0 ≤ at_
      · rw [if_pos h1, List.getElem?_eq_none (by have := HL.out; omega)]; rfl
      · rw [if_neg h1]
    have HV := Lib.hid hval
    clear hval
    have hc : at_ < 0 ∨ (0 ≤ at_ ∧ (n : Int) ≤ at_) := by omega
    clear h0
    rcases hc with hc | ⟨hc, hd⟩
    all_goals
      go_enter Tryz.func216, Tryz.ntmps216
      go_wp2_with (go_at_call 86; refine HRI.out.mono ?_; rintro e w1 ⟨rfl, hb1⟩)
      go_ret
      exact ⟨ret_int HV.out.symm, hb1⟩
end Go.Proofs.YtmacfoebfpljoaaGreat
