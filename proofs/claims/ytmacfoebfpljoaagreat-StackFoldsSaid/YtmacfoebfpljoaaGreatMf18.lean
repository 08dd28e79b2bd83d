/- merged texts: RfW -/
import Derived.Test.YtmacfoebfpljoaaGreatMf13
import Derived.Test.YtmacfoebfpljoaaGreatMf17
import Derived.Test.YtmacfoebfpljoaaGreatMf10
import Derived.Test.YtmacfoebfpljoaaGreatMf7
import Derived.Test.YtmacfoebfpljoaaGreatMf4
namespace Go.Proofs.YtmacfoebfpljoaaGreat
open Go.RowKit
set_option linter.unusedVariables false
/-- groups come out -/
def ROut (Y : Nat → Prop) (V : List GrC) (w : World) (e : Ending) (w' : World) : Prop := ∃ A n c L', e = .returned (.slice A n c) ∧ n ≤ c ∧ GrsX w' Y A n L' ∧ L'.map GrH.val = V ∧ Below w.heap.size w w'
set_option maxRecDepth 100000 in
set_option maxHeartbeats 8000000 in
theorem rover_yes (A : Option Addr) (n c : Nat) (L : List GrH) (Am : Option Addr) (nm cm : Nat) (m : List Rg) (w : World) (Y : Nat → Prop) (hY : ∀ i, Y i → i < w.heap.size) (h : GrsIn w w.heap.size A n L) (hn : n ≤ 1000) (hs : Sml Y L) (htot : totC (L.map GrH.val) ≤ 1000) (hlb : ∀ g ∈ L, -9223372036854775808 ≤ g.lost ∧ g.lost ≤ 9223372036854775807) (hm : Rd w w.heap.size 3 Am nm (rgs m)) (hr : rightM m = true) :
    Calls Tryz.prog 89 #[.slice A n c, .slice Am nm cm] w (ROut Y (overC m (L.map GrH.val)) w) := by
  have hri := fun W (hb : Below w.heap.size w W) => calls_on hb (rright_any Am nm cm m W (by have := right_len hr; have := hm.rlen; unfold maxLen; omega) (fun _ => (hm.below hb).more hb.size) hm.rlen)
  rw [hr] at hri
  have HRI := Lib.hid hri
  have hv : overC m (L.map GrH.val) = (overG m [] (L.map GrH.val)).2 := by unfold overC; rw [hr]; rfl
  rw [hv]
  have hlen := h.len
  have H := Lib.hid h
  have HS := Lib.hid hs
  have HLB := Lib.hid hlb
  have HLEN := Lib.hid hlen
  have HM := Lib.hid hm
  have HR := Lib.hid hr
  have HTOT := Lib.hid htot
  have HYB := Lib.hid hY
  clear h hs hm hri hv hlen hlb hr htot hY
  go_enter Tryz.func89, Tryz.ntmps89
  go_upto_region 4 with (first
    | (go_at_call 86; (refine (HRI.out _ (Below.refl _ _)).mono ?_); rintro e w1 ⟨rfl, hb1, hz1, hx1⟩))
  have kt := Bk.new w1 242 #[.slice Am nm cm, .slice none 0 0, .slice none 0 0, .slice none 0 0]
  have hb2 : Below w.heap.size w (w1.alloc (.cells #[.slice Am nm cm, .slice none 0 0, .slice none 0 0, .slice none 0 0] 242)) := belowA
  generalize w1.alloc (.cells #[.slice Am nm cm, .slice none 0 0, .slice none 0 0, .slice none 0 0] 242) = w2 at *
  obtain ⟨bT, hbT⟩ : ∃ bT, w1.heap.size = bT := ⟨_, rfl⟩
  rw [hbT] at kt ⊢
  have hwT : w.heap.size ≤ bT := by omega
  clear HRI hx1 hb1 hz1 hbT
  go_wp2
  go_loopw [6, 7] (fun v j wr => ∃ (q : Nat) (Lo : List GrH) (ks : List Lk) (vo vb vv vk : Value), v = vo ∧ q ≤ n ∧ j = .int .i64 q ∧ Hid (Lo.map GrH.val = (overG m [] ((L.map GrH.val).take q)).2) ∧ Hid ((overG m [] ((L.map GrH.val).take q)).1 = ks) ∧ Below w.heap.size w wr ∧ Bk wr bT 242 #[.slice Am nm cm, vb, vv, vk] ∧ Hid (TrOwn wr w.heap.size vb vv vk (ks.reverse.map Lk.back) (ks.reverse.map Lk.over) (ks.reverse.map Lk.kept)) ∧ wr.ownsRow w.heap.size 93 8 vo Lo.length (grs Lo) ∧ Hid (∀ g ∈ Lo, g.HOwn w wr Y)) (fun _ j _ => n - (intOf j).toNat)
  case atStart => exact ⟨0, [], [], _, _, _, _, rfl, by omega, rfl, Lib.hid (by simp [overG]), Lib.hid (by simp [overG]), hb2, kt, Lib.hid (TrOwn.nil_ _ _), World.ownsRow_nil _ _ _ _, Lib.hid (by simp)⟩
  case round =>
    rename World => wo
    obtain ⟨q, Lo, ks, vo, vb, vv, vk, hvo, hq, rfl, hval, hks, hbr, kto, htr, hown, hLo⟩ := hrel
    have hvo' := hvo.symm
    clear hvo
    subst hvo'
    by_cases hqn : q < n
    · obtain ⟨g, hx⟩ : ∃ g, L[q]? = some g := ⟨_, List.getElem?_eq_getElem (by have := HLEN.out; omega)⟩
      obtain ⟨gin, b, o, rfl, hb, hcc⟩ := (H.out.below hbr).at_ hx
      have hgs := HS.out g (List.mem_of_getElem? hx)
      have hxv : (L.map GrH.val)[q]? = some g.val := by rw [List.getElem?_map, hx]; rfl
      have hsn := overG_snoc (m := m) [] hxv
      rw [hks.out] at hsn
      have HSN := Lib.hid hsn
      have gin0 := (H.out.2 g (List.mem_of_getElem? hx))
      have glb := HLB.out g (List.mem_of_getElem? hx)
      have hlo : Lo.length = q := by
        have := congrArg List.length hval.out
        simp only [List.length_map, overG_len, List.length_take] at this
        have := HLEN.out
        omega
      have hkl : ks.length + g.L.length ≤ 1000 := by
        have h1 := overG_llen (m := m) ((L.map GrH.val).take q) []
        rw [hks.out] at h1
        have h2 := totC_at hxv
        have h3 : g.val.steps.length = g.L.length := by simp [GrH.val]
        have h4 := HTOT.out
        simp only [List.length_nil] at h1
        omega
      have hall : AllR ks := by
        have h1 := overG_right (m := m) ((L.map GrH.val).take q) [] (fun k hk => by cases hk)
        rw [hks.out] at h1
        exact h1
      have HLO := Lib.hid hlo
      have HALL := Lib.hid hall
      have HKL := Lib.hid hkl
      clear hlo hsn hxv kt hb2
      obtain ⟨gA, gn, gc, gL, ⟨pk, pa, pb⟩, ⟨bk, ba, bb⟩, glost⟩ := g
      have HGS := Lib.hid hgs.2
      have hgn : gn ≤ 1000 := hgs.1
      have d4 := hcc 4 (by omega); have d5 := hcc 5 (by omega); have d6 := hcc 6 (by omega); have d7 := hcc 7 (by omega)
      dsimp [GrH.cells] at d4 d5 d6 d7 glb
      have HCC := Lib.hid hcc
      have e3 : (q : Int) < n := by omega
      have hbw := hbr.size
      have GIN := Lib.hid gin0
      have hglen : gL.length = gn := gin0.sts.len
      have hform := htr.out.form
      simp only [List.length_map, List.length_reverse] at hform
      obtain ⟨Ab, cb, Ao, co, Ak, ck, rfl, rfl, rfl⟩ := hform
      have hrt := fun W (hW : Below wo.heap.size wo W) => route_rt W Am Ab Ao Ak cm nm cb co ck ks.length m ks ((htr.out.below hW).is_ (by simp) ((HM.out.below (hbr.trans (hW.mono hbw))).more (Nat.le_trans hbw hW.size))) (by have := HKL.out; omega) HR.out (fun k hk => (HALL.out k hk).1) (fun k hk => (HALL.out k hk).2)
      have HRT := Lib.hid hrt
      have hF : ∀ W, Below wo.heap.size wo W → W.cell? ⟨b, o + q * 8 + 4, none⟩ = some (.int .i64 bk) ∧ W.cell? ⟨b, o + q * 8 + 5, none⟩ = some (.int .i64 ba) ∧ W.cell? ⟨b, o + q * 8 + 6, none⟩ = some (.int .i64 bb) ∧ W.cell? ⟨b, o + q * 8 + 7, none⟩ = some (.int .i64 glost) ∧ W.cell? ⟨bT, 0, none⟩ = some (.slice Am nm cm) ∧ W.cell? ⟨bT, 1, none⟩ = some (.slice Ab ks.length cb) ∧ W.cell? ⟨bT, 2, none⟩ = some (.slice Ao ks.length co) ∧ W.cell? ⟨bT, 3, none⟩ = some (.slice Ak ks.length ck) := fun W hW =>
        have hbl : b < wo.heap.size := Nat.lt_of_lt_of_le hb hbw
        ⟨(hW.cell (p := ⟨b, o + q * 8 + 4, none⟩) hbl).trans d4, (hW.cell (p := ⟨b, o + q * 8 + 5, none⟩) hbl).trans d5, (hW.cell (p := ⟨b, o + q * 8 + 6, none⟩) hbl).trans d6, (hW.cell (p := ⟨b, o + q * 8 + 7, none⟩) hbl).trans d7, (kto.ext hW).cell 0, (kto.ext hW).cell 1, (kto.ext hW).cell 2, (kto.ext hW).cell 3⟩
      have HF := Lib.hid hF
      clear hF d4 d5 d6 d7 hrt hx gin gin0 hcc
      go_upto_region 8 with fail
      go_cut [8] (fun u wx => ∃ b8 : Nat, u = .pointer (some ⟨b8, 0, none⟩) ∧ Below wo.heap.size wo wx ∧ wo.heap.size ≤ b8 ∧ Bk wx b8 93 (grp (.slice none 0 0) 0 0 0 (pinB (tellL m ks) ⟨bk, ba, bb⟩).k (pinB (tellL m ks) ⟨bk, ba, bb⟩).a (pinB (tellL m ks) ⟨bk, ba, bb⟩).b glost))
      case first =>
        refine wp_normal ?_
        refine wp_region_held_drew (S := fun w' => Below wo.heap.size wo w') (by kernel_rfl) (Below.refl _ _).drew (fun hHeld => ?_)
        (refine tkH 0 ?_; refine tkH 1 ?_; refine tkH 2 ?_; refine tkH 3 ?_; refine tkH 4 ?_; refine tkH 5 ?_; refine tkH 8 ?_; refine tkH 9 ?_; refine tkH 10 ?_; refine tkH 11 ?_; refine tkH 12 ?_)
        refine wpAnyH_ready (rs := [6, 14]) (by kernel_rfl) (by simp) ?_; refine (AllReadyH.cons (o := _) (by simp only [List.getElem?_toArray, List.getElem?_cons_succ, List.getElem?_cons_zero]; rfl) (fun K hK => ?_) (AllReadyH.cons (o := _) (by simp only [List.getElem?_toArray, List.getElem?_cons_succ, List.getElem?_cons_zero]; rfl) (fun K hK => ?_) AllReadyH.nil))
        · go_simp
          go_at_call 140
          refine (HRT.out _ (Below.refl _ _).drew).mono ?_
          rintro e w9 ⟨Ar, cr, Br, dr, lr, rfl, hr9, hb9⟩
          have hb9' : Below wo.heap.size wo w9 := Below.trans (Below.refl _ _).drew hb9
          have hz9 := hb9'.size
          have HR9 := Lib.hid hr9
          clear hr9
          refine hK.out _ _ hb9' (fun hHeld => ?_)
          clear hK K; refine puH ?_
          refine wpAnyH_ready (rs := [7, 14]) (by kernel_rfl) (by simp) ?_; refine (AllReadyH.cons (o := _) (by simp only [List.getElem?_toArray, List.getElem?_cons_succ, List.getElem?_cons_zero]; rfl) (fun K hK => ?_) (AllReadyH.cons (o := _) (by simp only [List.getElem?_toArray, List.getElem?_cons_succ, List.getElem?_cons_zero]; rfl) (fun K hK => ?_) AllReadyH.nil))
          · go_simp
            go_at_call 139
            refine (rpin_any (tellL m ks) (docL m ks) (docL_tells m ks) bk ba bb Ar lr cr Br lr dr w9.heap.size w9 HR9.out).mono ?_
            rintro e w10 ⟨rfl, hb10⟩
            have hb10' := hb9'.trans (hb10.mono hz9)
            have hz10 := hb10'.size
            refine hK.out _ _ hb10' (fun hHeld => ?_)
            clear hK K; refine puH ?_
            (refine tkH 13 ?_)
            refine nxH 14 (fun K hK => ?_)
            go_simp
            refine hK.out _ _ belowA (fun hHeld => ?_)
            clear hK K; refine puH ?_
            refine nxH 15 (fun K hK => ?_)
            go_simp
            refine hK.out _ _ belowA (fun hHeld => ?_)
            clear hK K; refine puH ?_
            refine wpAnyH_done (by kernel_rfl) ?_ _
            go_wp2
            go_meet
            exact ⟨_, rfl, hHeld, hz10, Bk.new w10 _ _⟩
          · go_simp
            have kA := Bk.new w9 93 (grp (.slice none 0 0) 0 0 0 0 0 0 0)
            have hA : Below w9.heap.size w9 (w9.alloc (.cells (grp (.slice none 0 0) 0 0 0 0 0 0 0) 93)) := belowA
            refine hK.out _ _ belowA (fun hHeld => ?_)
            clear hK K; refine puH ?_
            refine nxH 7 (fun K hK => ?_)
            go_simp
            go_at_call 139
            refine (rpin_any (tellL m ks) (docL m ks) (docL_tells m ks) bk ba bb Ar lr cr Br lr dr w9.heap.size _ (HR9.out.ext hA)).mono ?_
            rintro e w10 ⟨rfl, hb10⟩
            have k10 := kA.ext hb10
            have hb10' := hb9'.trans ((hA.trans (hb10.mono hA.size)).mono hz9)
            have hz10 := hb10'.size
            have f10 := k10.frozen; have l10 := def_lt' k10
            have d0 := k10.cell 0; have d1 := k10.cell 1; have d2 := k10.cell 2; have d3 := k10.cell 3; have d4 := k10.cell 4; have d5 := k10.cell 5; have d6 := k10.cell 6; have d7 := k10.cell 7
            dsimp [grp] at d0 d1 d2 d3 d4 d5 d6 d7
            refine hK.out _ _ hb10' (fun hHeld => ?_)
            clear hK K; refine puH ?_
            (refine tkH 13 ?_)
            refine nxH 15 (fun K hK => ?_)
            go_simp
            refine hK.out _ _ belowA (fun hHeld => ?_)
            clear hK K; refine puH ?_
            refine wpAnyH_done (by kernel_rfl) ?_ _
            go_wp2
            go_meet
            exact ⟨_, rfl, hHeld, hz9, grp_setR k10 _ _ _ _ _ _ _ _⟩
        · go_simp
          have kA := Bk.new wo 93 (grp (.slice none 0 0) 0 0 0 0 0 0 0)
          have hA : Below wo.heap.size wo (wo.alloc (.cells (grp (.slice none 0 0) 0 0 0 0 0 0 0) 93)).drew := belowA
          refine hK.out _ _ belowA (fun hHeld => ?_)
          clear hK K; refine puH ?_
          refine nxH 6 (fun K hK => ?_)
          go_simp
          go_at_call 140
          refine (HRT.out _ hA).mono ?_
          rintro e w9 ⟨Ar, cr, Br, dr, lr, rfl, hr9, hb9⟩
          have k9 : Bk w9 wo.heap.size 93 (grp (.slice none 0 0) 0 0 0 0 0 0 0) := (Bk.drew kA).ext hb9
          have hb9' : Below wo.heap.size wo w9 := hA.trans (hb9.mono hA.size)
          have hz9 := hb9'.size
          have HR9 := Lib.hid hr9
          clear hr9
          refine hK.out _ _ hb9' (fun hHeld => ?_)
          clear hK K; refine puH ?_
          refine nxH 7 (fun K hK => ?_)
          go_simp
          go_at_call 139
          refine (rpin_any (tellL m ks) (docL m ks) (docL_tells m ks) bk ba bb Ar lr cr Br lr dr w9.heap.size w9 HR9.out).mono ?_
          rintro e w10 ⟨rfl, hb10⟩
          have k10 := k9.ext hb10
          have hb10' := hb9'.trans (hb10.mono hz9)
          have hz10 := hb10'.size
          have f10 := k10.frozen; have l10 := def_lt' k10
          have d0 := k10.cell 0; have d1 := k10.cell 1; have d2 := k10.cell 2; have d3 := k10.cell 3; have d4 := k10.cell 4; have d5 := k10.cell 5; have d6 := k10.cell 6; have d7 := k10.cell 7
          dsimp [grp] at d0 d1 d2 d3 d4 d5 d6 d7
          refine hK.out _ _ hb10' (fun hHeld => ?_)
          clear hK K; refine puH ?_
          (refine tkH 13 ?_)
          refine nxH 15 (fun K hK => ?_)
          go_simp
          refine hK.out _ _ belowA (fun hHeld => ?_)
          clear hK K; refine puH ?_
          refine wpAnyH_done (by kernel_rfl) ?_ _
          go_wp2
          go_meet
          exact ⟨_, rfl, hHeld, Nat.le_refl _, grp_setR k10 _ _ _ _ _ _ _ _⟩
      case rest =>
        rename World => w9
        obtain ⟨b8, rfl, hb9, hle8, k9⟩ := hcut
        generalize hP : pinB (tellL m ks) ⟨bk, ba, bb⟩ = P at *
        obtain ⟨X, hX⟩ : ∃ X : Nat → Prop, X = fun i => i = bT ∨ (Value.slice Ab ks.length cb).ownBlock = some i ∨ (Value.slice Ao ks.length co).ownBlock = some i ∨ (Value.slice Ak ks.length ck).ownBlock = some i := ⟨_, rfl⟩
        have hrs0 : RSt w wo w9 X bT b8 Am nm cm (.slice Ab ks.length cb) (.slice Ao ks.length co) (.slice Ak ks.length ck) (.slice none 0 0) (ks.reverse.map Lk.back) (ks.reverse.map Lk.over) (ks.reverse.map Lk.kept) [] P glost := by
          refine ⟨hbw, hle8, by rw [hX]; exact .inl rfl, ?_, Stir.of_below hb9, kto.ext hb9, k9, htr.out.below hb9, World.ownsRow_nil _ _ _ _, fun i h => .inl (by rw [hX]; exact .inr (.inl h)), fun i h => .inl (by rw [hX]; exact .inr (.inr (.inl h))), fun i h => .inl (by rw [hX]; exact .inr (.inr (.inr h)))⟩
          intro i hi
          rw [hX] at hi
          obtain ⟨⟨Bs, b1, -, -⟩, ⟨Os, o1, -, -⟩, k1, -⟩ := htr.out
          rcases hi with rfl | hi | hi | hi
          · exact hwT
          · exact own_ge b1 i hi
          · exact own_ge o1 i hi
          · exact own_ge k1 i hi
        have hxne : ∀ (base size n : Nat) (e : TypeId) (v : Value) (xs : List Value), wo.ownsRow base e size v n xs → e ≠ 94 → e ≠ 4 → e ≠ 242 → ∀ i, X i → v.ownBlock ≠ some i := by
          intro base size n e v xs h h1 h2 h3 i hi
          rw [hX] at hi
          obtain ⟨⟨Bs, b1, -, -⟩, ⟨Os, o1, -, -⟩, k1, -⟩ := htr.out
          rcases hi with rfl | hi | hi | hi
          · exact own_ne h kto h3
          · exact own_type h b1 h1 i hi
          · exact own_type h o1 h1 i hi
          · exact own_type h k1 h2 i hi
        have HXNE := Lib.hid hxne
        clear hxne
        have HRS0 := Lib.hid hrs0
        have HX := Lib.hid hX
        have gw : IntKind.i64.wrap (glost + ((0 : Nat) : Int)) = glost := by rw [IntWalk.i64_in _ (by omega)]; omega
        have HGW := Lib.hid gw
        have hbl : b < w9.heap.size := by have := hb9.size; omega
        have d0 := ((hbr.trans (hb9.mono hbw)).cell (p := ⟨b, o + q * 8, none⟩) hb).trans (((hbr.cell (p := ⟨b, o + q * 8, none⟩) hb).symm.trans (HCC.out 0 (by omega))))
        dsimp [GrH.cells] at d0
        have HP := Lib.hid hP
        clear HF k9 hrs0 hX gw hP HRT
        go_wp2
        go_loopw [9] (fun j wr => ∃ (p : Nat) (Lp : List StH) (ks2 : List Lk) (v5 vb vv vk : Value) (z : Int), p ≤ gn ∧ j = .int .i64 p ∧ Hid (Lp.map StH.x = (runG m ks ((gL.map StH.x).take p)).2.1) ∧ Hid (Lp.length ≤ p) ∧ Hid ((runG m ks ((gL.map StH.x).take p)).1 = ks2) ∧ Hid (z = IntKind.i64.wrap (glost + ((runG m ks ((gL.map StH.x).take p)).2.2 : Nat))) ∧ Hid (∀ s ∈ Lp, s.In w w.heap.size ∧ s.n ≤ 20000 ∧ s.n' ≤ 20000 ∧ s.Av Y) ∧ Hid (RSt w wo wr X bT b8 Am nm cm vb vv vk v5 (ks2.reverse.map Lk.back) (ks2.reverse.map Lk.over) (ks2.reverse.map Lk.kept) Lp P z)) (fun j _ => gn - (intOf j).toNat)
        case atStart => exact ⟨0, [], ks, _, _, _, _, glost, by omega, rfl, Lib.hid (by simp [runG]), Lib.hid (by simp), Lib.hid (by simp [runG]), Lib.hid (by simp only [List.take_zero, runG]; exact HGW.out.symm), Lib.hid (by simp), HRS0⟩
        case round =>
          obtain ⟨p, Lp, ks2, v5, vb, vv, vk, z, hp, rfl, hpv, hlp, hk2, hz, hsin, hrs⟩ := hrel
          have hbq : Below w.heap.size w wr := hrs.out.below hbr
          have hbqz := hbq.size
          have d0 := (hbq.cell (p := ⟨b, o + q * 8, none⟩) hb).trans (((hbr.cell (p := ⟨b, o + q * 8, none⟩) hb).symm.trans (HCC.out 0 (by omega))))
          dsimp [GrH.cells] at d0
          by_cases hpn : p < gn
          · obtain ⟨s, hxs⟩ : ∃ s, gL[p]? = some s := ⟨_, List.getElem?_eq_getElem (by omega)⟩
            obtain ⟨sin, bs, os, hgA, hbs, hcs⟩ := (GIN.out.sts.below hbq).at_ hxs
            have hgA' : gA = some ⟨bs, os, none⟩ := hgA
            rw [hgA'] at d0
            have sin0 := GIN.out.sts.2 s (List.mem_of_getElem? hxs)
            have hsm := HGS.out s (List.mem_of_getElem? hxs)
            have hxv : (gL.map StH.x)[p]? = some s.x := by rw [List.getElem?_map, hxs]; rfl
            have hsn := runG_snoc (m := m) ks hxv
            rw [hk2.out] at hsn
            have HSN2 := Lib.hid hsn
            have hkl2 : ks2.length ≤ 999 := by
              have h1 := runG_len (m := m) ((gL.map StH.x).take p) ks
              rw [hk2.out] at h1
              have := HKL.out
              simp only [List.length_take, List.length_map] at h1
              omega
            have hall2 : AllR ks2 := by
              have h1 := runG_right (m := m) ((gL.map StH.x).take p) ks HALL.out
              rw [hk2.out] at h1
              exact h1
            have HALL2 := Lib.hid hall2
            have HKL2 := Lib.hid hkl2
            obtain ⟨sA, sn, sc, sA', sn', sc', ⟨xk, xf, xt, xg, xh, xi, xm, xv, xsl, xst⟩⟩ := s
            have c0 := hcs 0 (by omega); have c1 := hcs 1 (by omega); have c2 := hcs 2 (by omega); have c3 := hcs 3 (by omega); have c4 := hcs 4 (by omega); have c5 := hcs 5 (by omega); have c6 := hcs 6 (by omega); have c7 := hcs 7 (by omega); have c8 := hcs 8 (by omega); have c9 := hcs 9 (by omega)
            dsimp [StH.cells] at c0 c1 c2 c3 c4 c5 c6 c7 c8 c9 hsm
            have e4 : (p : Int) < gn := by omega
            have SIN := Lib.hid sin0
            have hln : xsl.length = sn := sin0.len
            have hln' : xst.length = sn' := sin0.len'
            have hsh := fun W (hb : Below wr.heap.size wr W) => calls_on hb (rshape_any xk xf xt xg xh xi xm xv sA sA' sn sn' sc sc' W hsm.1 hsm.2.1)
            have hxsh : (StC.mk xk xf xt xg xh xi xm xv xsl xst).sh = shB xk xf xt xg xh xi xm xv sn sn' := by rw [← hln, ← hln']; rfl
            have hb10 : Below wr.heap.size wr (wr.alloc (.cells (stp xk xf xt xg xh xi xm xv sA sn sc sA' sn' sc') 45)) := belowA
            have k10 := Bk.new wr 45 (stp xk xf xt xg xh xi xm xv sA sn sc sA' sn' sc')
            have HX1 := Lib.hid hxsh
            clear hxs hcs hxv hsn sin sin0 hall2 hkl2 hxsh
            go_upto_region 13 with fail
            generalize hwE : wr.alloc (.cells #[.int .i64 xk, .int .i64 xf, .int .i64 xt, .int .i64 xg, .int .i64 xh, .int .i64 xi, .int .i64 xm, .int .i64 xv, .slice sA sn sc, .slice sA' sn' sc'] 45) = wA at *
            clear hwE c0 c1 c2 c3 c4 c5 c6 c7 c8 c9
            obtain ⟨c0, c1, c2, c3, c4, c5, c6, c7, c8, c9⟩ := bk10 k10
            have hsh0 := hsh wA hb10
            cases hxb : shB xk xf xt xg xh xi xm xv sn sn' with
            | false =>
              rw [hxb] at hsh0
              have HSH := Lib.hid hsh0
              have HXB := Lib.hid hxb
              clear hsh0 hxb hsh
              go_upto_region 14 with (go_at_call 65; (refine HSH.out.mono ?_); rintro e wf ⟨rfl, hbf, hzf, hxf⟩)
              have hrf := hrs.out.ext hbf
              have fB := hrf.k8.frozen; have lB := def_lt' hrf.k8; have cB := hrf.k8.cell 7
              dsimp [grp] at cB
              have HRF := Lib.hid hrf
              clear hrf
              go_wp2
              go_roundw
              case rel =>
                refine ⟨p + 1, Lp, ks2, v5, vb, vv, vk, _, by omega, by go_num, Lib.hid ?_, Lib.hid ?_, Lib.hid ?_, Lib.hid ?_, hsin, Lib.hid (HRF.out.lost _)⟩
                · rw [HSN2.out, hpv.out]; simp [stepT, HX1.out, HXB.out]
                · have := hlp.out; omega
                · rw [HSN2.out]; simp [stepT, HX1.out, HXB.out]
                · rw [HSN2.out, hz.out]
                  simp only [stepT, HX1.out, HXB.out]
                  rw [← IntWalk.i64_left]
                  simp only [IntKind.wrap_i64]
                  simp
                  omega
              case measure => simp [intOf]; omega
            | true =>
              rw [hxb] at hsh0
              have HSH := Lib.hid hsh0
              have HXB := Lib.hid hxb
              clear hsh0 hxb hsh
              go_upto_region 15 with (go_at_call 65; (refine HSH.out.mono ?_); rintro e wf ⟨rfl, hbf, hzf, hxf⟩)
              have hrsf := hrs.out.ext hbf
              have k10f := k10.ext hxf
              have hform2 := hrsf.tr.form
              simp only [List.length_map, List.length_reverse] at hform2
              obtain ⟨Ab2, cb2, Ao2, co2, Ak2, ck2, rfl, rfl, rfl⟩ := hform2
              have hzf2 := hbf.size
              have hbwf := hbq.trans (hbf.mono hbqz)
              obtain ⟨y, hy⟩ : ∃ y, shiftB (tellL m ks2) ⟨xk, xf, xt, xg, xh, xi, xm, xv, xsl, xst⟩ = y := ⟨_, rfl⟩
              obtain ⟨zk, zf, zt, zg, zh, zi, zm, zv, A2, n2, c2', A2', n2', c2'', hyf, hyz⟩ : ∃ (zk zf zt zg zh zi zm zv : Int) (A2 : Option Addr) (n2 c2' : Nat) (A2' : Option Addr) (n2' c2'' : Nat), stepV y sA sn sc sA' sn' sc' = .agg (stp zk zf zt zg zh zi zm zv A2 n2 c2' A2' n2' c2'') ∧ ∀ z', y = some z' → A2 = sA ∧ n2 = sn ∧ c2' = sc ∧ A2' = sA' ∧ n2' = sn' ∧ c2'' = sc' ∧ z' = ⟨zk, zf, zt, zg, zh, zi, zm, zv, z'.sl, z'.st⟩ := by
                cases y with
                | none => exact ⟨0, 0, 0, 0, 0, 0, 0, 0, none, 0, 0, none, 0, 0, rfl, fun _ h => by cases h⟩
                | some z' => exact ⟨_, _, _, _, _, _, _, _, _, _, _, _, _, _, rfl, fun _ h => by injection h with h; subst h; exact ⟨rfl, rfl, rfl, rfl, rfl, rfl, rfl⟩⟩
              have hrt := fun W (hW : Below wf.heap.size wf W) => route_rt W Am Ab2 Ao2 Ak2 cm nm cb2 co2 ck2 ks2.length m ks2 ((hrsf.tr.below hW).is_ (by simp) ((HM.out.below (hbwf.trans (hW.mono hbwf.size))).more (Nat.le_trans hbwf.size hW.size))) (by have := HKL2.out; omega) HR.out (fun k hk => (HALL2.out k hk).1) (fun k hk => (HALL2.out k hk).2)
              have hthr := fun (Ar : Option Addr) (lr cr : Nat) (Br : Option Addr) (dr B : Nat) (W : World) (hd : DocRt W B (.agg #[.slice Ar lr cr, .slice Br lr dr]) (docL m ks2)) => through_any (tellL m ks2) (docL m ks2) (docL_tells m ks2) ⟨xk, xf, xt, xg, xh, xi, xm, xv, xsl, xst⟩ sA sn sc sA' sn' sc' Ar lr cr Br lr dr B W hd hsm.1 hsm.2.1 hln hln' (tellL_bd m ks2)
              rw [hy, hyf] at hthr
              have HRT := Lib.hid hrt
              have HTHR := Lib.hid hthr
              have HY := Lib.hid hy
              have HYZ := Lib.hid hyz
              have HRSF := Lib.hid hrsf
              have HV5 := Lib.hid (own_lt hrs.out.st)
              have hF : ∀ W, Below wf.heap.size wf W → (W.cell? ⟨wr.heap.size, 0, none⟩ = some (.int .i64 xk) ∧ W.cell? ⟨wr.heap.size, 1, none⟩ = some (.int .i64 xf) ∧ W.cell? ⟨wr.heap.size, 2, none⟩ = some (.int .i64 xt) ∧ W.cell? ⟨wr.heap.size, 3, none⟩ = some (.int .i64 xg) ∧ W.cell? ⟨wr.heap.size, 4, none⟩ = some (.int .i64 xh) ∧ W.cell? ⟨wr.heap.size, 5, none⟩ = some (.int .i64 xi) ∧ W.cell? ⟨wr.heap.size, 6, none⟩ = some (.int .i64 xm) ∧ W.cell? ⟨wr.heap.size, 7, none⟩ = some (.int .i64 xv) ∧ W.cell? ⟨wr.heap.size, 8, none⟩ = some (.slice sA sn sc) ∧ W.cell? ⟨wr.heap.size, 9, none⟩ = some (.slice sA' sn' sc')) ∧ W.cell? ⟨bT, 0, none⟩ = some (.slice Am nm cm) ∧ W.cell? ⟨bT, 1, none⟩ = some (.slice Ab2 ks2.length cb2) ∧ W.cell? ⟨bT, 2, none⟩ = some (.slice Ao2 ks2.length co2) ∧ W.cell? ⟨bT, 3, none⟩ = some (.slice Ak2 ks2.length ck2) := fun W hW =>
                ⟨⟨(k10f.ext hW).cell 0, (k10f.ext hW).cell 1, (k10f.ext hW).cell 2, (k10f.ext hW).cell 3, (k10f.ext hW).cell 4, (k10f.ext hW).cell 5, (k10f.ext hW).cell 6, (k10f.ext hW).cell 7, (k10f.ext hW).cell 8, (k10f.ext hW).cell 9⟩, (hrsf.kT.ext hW).cell 0, (hrsf.kT.ext hW).cell 1, (hrsf.kT.ext hW).cell 2, (hrsf.kT.ext hW).cell 3⟩
              have HF := Lib.hid hF
              clear hF hrt hthr hy hyf hyz hrsf hrs c0 c1 c2 c3 c4 c5 c6 c7 c8 c9 d0
              go_cut [11, 12] (fun u v wx => ∃ b11 : Nat, u = .pointer (some ⟨b11, 0, none⟩) ∧ v = .bool y.isSome ∧ Below wf.heap.size wf wx ∧ wf.heap.size ≤ b11 ∧ Bk wx b11 45 (stp zk zf zt zg zh zi zm zv A2 n2 c2' A2' n2' c2''))
              case first =>
                refine wp_normal ?_
                refine wp_region_held_drew (S := fun w' => Below wf.heap.size wf w') (by kernel_rfl) (Below.refl _ _).drew (fun hHeld => ?_)
                (refine tkH 0 ?_; refine tkH 1 ?_)
                refine wpAnyH_ready (rs := [2, 7]) (by kernel_rfl) (by simp) ?_; refine (AllReadyH.cons (o := _) (by simp only [List.getElem?_toArray, List.getElem?_cons_succ, List.getElem?_cons_zero]; rfl) (fun K hK => ?_) (AllReadyH.cons (o := _) (by simp only [List.getElem?_toArray, List.getElem?_cons_succ, List.getElem?_cons_zero]; rfl) (fun K hK => ?_) AllReadyH.nil))
                · go_simp
                  go_at_call 140
                  refine (HRT.out _ (Below.refl _ _).drew).mono ?_
                  rintro e w9 ⟨Ar, cr, Br, dr, lr, rfl, hr9, hb9⟩
                  have hb9' : Below wf.heap.size wf w9 := Below.trans (Below.refl _ _).drew hb9
                  have hz9 := hb9'.size
                  have HR9 := Lib.hid hr9
                  clear hr9
                  refine hK.out _ _ hb9' (fun hHeld => ?_)
                  clear hK K; refine puH ?_
                  refine wpAnyH_ready (rs := [3, 7]) (by kernel_rfl) (by simp) ?_; refine (AllReadyH.cons (o := _) (by simp only [List.getElem?_toArray, List.getElem?_cons_succ, List.getElem?_cons_zero]; rfl) (fun K hK => ?_) (AllReadyH.cons (o := _) (by simp only [List.getElem?_toArray, List.getElem?_cons_succ, List.getElem?_cons_zero]; rfl) (fun K hK => ?_) AllReadyH.nil))
                  · go_simp
                    go_at_call 141
                    refine (HTHR.out Ar lr cr Br dr w9.heap.size w9 HR9.out).mono ?_
                    rintro e w10 ⟨rfl, hb10⟩
                    have hb10' := hb9'.trans (hb10.mono hz9)
                    have hz10 := hb10'.size
                    refine hK.out _ _ hb10' (fun hHeld => ?_)
                    clear hK K; refine puH ?_
                    (refine tkH 4 ?_; refine tkH 5 ?_; refine tkH 6 ?_)
                    refine nxH 7 (fun K hK => ?_)
                    go_simp
                    refine hK.out _ _ belowA (fun hHeld => ?_)
                    clear hK K; refine puH ?_
                    refine nxH 8 (fun K hK => ?_)
                    go_simp
                    refine hK.out _ _ belowA (fun hHeld => ?_)
                    clear hK K; refine puH ?_
                    (refine tkH 9 ?_)
                    refine wpAnyH_done (by kernel_rfl) ?_ _
                    go_wp2
                    go_meet
                    exact ⟨_, rfl, rfl, hHeld, hz10, Bk.new w10 _ _⟩
                  · go_simp
                    have kA := Bk.new w9 45 (stp 0 0 0 0 0 0 0 0 none 0 0 none 0 0)
                    have hA : Below w9.heap.size w9 (w9.alloc (.cells (stp 0 0 0 0 0 0 0 0 none 0 0 none 0 0) 45)) := belowA
                    refine hK.out _ _ belowA (fun hHeld => ?_)
                    clear hK K; refine puH ?_
                    refine nxH 3 (fun K hK => ?_)
                    go_simp
                    go_at_call 141
                    refine (HTHR.out Ar lr cr Br dr w9.heap.size _ (HR9.out.ext hA)).mono ?_
                    rintro e w10 ⟨rfl, hb10⟩
                    have k10 := kA.ext hb10
                    have hb10' := hb9'.trans ((hA.trans (hb10.mono hA.size)).mono hz9)
                    have hz10 := hb10'.size
                    have f10 := k10.frozen; have l10 := def_lt' k10
                    obtain ⟨d0, d1, d2, d3, d4, d5, d6, d7, d8, d9⟩ := bk10 k10
                    refine hK.out _ _ hb10' (fun hHeld => ?_)
                    clear hK K; refine puH ?_
                    (refine tkH 4 ?_; refine tkH 5 ?_; refine tkH 6 ?_)
                    refine nxH 8 (fun K hK => ?_)
                    go_simp
                    refine hK.out _ _ belowA (fun hHeld => ?_)
                    clear hK K; refine puH ?_
                    (refine tkH 9 ?_)
                    refine wpAnyH_done (by kernel_rfl) ?_ _
                    go_wp2
                    go_meet
                    exact ⟨_, rfl, rfl, hHeld, hz9, stp_set k10 _ _ _ _ _ _ _ _ _ _ _ _ _ _⟩
                · go_simp
                  have kA := Bk.new wf 45 (stp 0 0 0 0 0 0 0 0 none 0 0 none 0 0)
                  have hA : Below wf.heap.size wf (wf.alloc (.cells (stp 0 0 0 0 0 0 0 0 none 0 0 none 0 0) 45)).drew := belowA
                  refine hK.out _ _ belowA (fun hHeld => ?_)
                  clear hK K; refine puH ?_
                  refine nxH 2 (fun K hK => ?_)
                  go_simp
                  go_at_call 140
                  refine (HRT.out _ hA).mono ?_
                  rintro e w9 ⟨Ar, cr, Br, dr, lr, rfl, hr9, hb9⟩
                  have k9 : Bk w9 wf.heap.size 45 (stp 0 0 0 0 0 0 0 0 none 0 0 none 0 0) := (Bk.drew kA).ext hb9
                  have hb9' : Below wf.heap.size wf w9 := hA.trans (hb9.mono hA.size)
                  have hz9 := hb9'.size
                  have HR9 := Lib.hid hr9
                  clear hr9
                  refine hK.out _ _ hb9' (fun hHeld => ?_)
                  clear hK K; refine puH ?_
                  refine nxH 3 (fun K hK => ?_)
                  go_simp
                  go_at_call 141
                  refine (HTHR.out Ar lr cr Br dr w9.heap.size w9 HR9.out).mono ?_
                  rintro e w10 ⟨rfl, hb10⟩
                  have k10 := k9.ext hb10
                  have hb10' := hb9'.trans (hb10.mono hz9)
                  have hz10 := hb10'.size
                  have f10 := k10.frozen; have l10 := def_lt' k10
                  obtain ⟨d0, d1, d2, d3, d4, d5, d6, d7, d8, d9⟩ := bk10 k10
                  refine hK.out _ _ hb10' (fun hHeld => ?_)
                  clear hK K; refine puH ?_
                  (refine tkH 4 ?_; refine tkH 5 ?_; refine tkH 6 ?_)
                  refine nxH 8 (fun K hK => ?_)
                  go_simp
                  refine hK.out _ _ belowA (fun hHeld => ?_)
                  clear hK K; refine puH ?_
                  (refine tkH 9 ?_)
                  refine wpAnyH_done (by kernel_rfl) ?_ _
                  go_wp2
                  go_meet
                  exact ⟨_, rfl, rfl, hHeld, Nat.le_refl _, stp_set k10 _ _ _ _ _ _ _ _ _ _ _ _ _ _⟩
              case rest =>
                rename World => w11
                obtain ⟨b11, rfl, rfl, hb11, hle11, k11⟩ := hcut
                clear HF HRT HTHR
                generalize Value.slice Ab2 ks2.length cb2 = vb at *
                generalize Value.slice Ao2 ks2.length co2 = vv at *
                generalize Value.slice Ak2 ks2.length ck2 = vk at *
                have hrs11 := HRSF.out.ext hb11
                have j10 := k10f.ext hb11
                have hz11 := hb11.size
                cases y with
                | none =>
                  have fB := hrs11.k8.frozen; have lB := def_lt' hrs11.k8; have cB := hrs11.k8.cell 7
                  dsimp [grp] at cB
                  have HR11 := Lib.hid hrs11
                  clear hrs11
                  go_upto_region 19 with fail
                  have hr19 := HR11.out.lost (wrap64 (z + 1))
                  have i10 := j10.far (p := ⟨b8, 7, none⟩) (bk_ne j10 HR11.out.k8 (by decide)) (.int .i64 (wrap64 (z + 1)))
                  have HZ : Hid (wrap64 (z + 1) = IntKind.i64.wrap (glost + (((runG m ks ((gL.map StH.x).take p)).2.2 + 1 : Nat) : Int))) := Lib.hid (by
                    rw [hz.out, ← IntWalk.i64_left]
                    simp only [IntKind.wrap_i64]
                    simp
                    omega)
                  generalize w11.setCell ⟨b8, 7, none⟩ (.int .i64 (wrap64 (z + 1))) = w19 at *
                  have HR := Lib.hid hr19
                  clear hr19 fB lB cB
                  obtain ⟨c0, c1, c2, c3, c4, c5, c6, c7, c8, c9⟩ := bk10 i10
                  obtain ⟨l1, hl1⟩ : ∃ l1, mapS xk xf xt xg xh xi sn = l1 := ⟨_, rfl⟩
                  have hmp := rmap_any xk xf xt xg xh xi xm xv sA sA' sn sn' sc sc' w19 HXB.out
                  rw [hl1] at hmp
                  have hxs : (StC.mk xk xf xt xg xh xi xm xv xsl xst).sh = true := HX1.out.trans HXB.out
                  have hxm : (StC.mk xk xf xt xg xh xi xm xv xsl xst).map = l1 := by rw [map_is hxs, ← hl1, ← hln]
                  have hrm := map_right hxs
                  rw [hxm] at hrm
                  have hln1 : l1.length ≤ 2 := by rw [← hxm]; exact mapB_len _ _ _ _ _ _ _ _ _ _
                  have HMP := Lib.hid hmp
                  have HRM := Lib.hid hrm
                  have HXM := Lib.hid hxm
                  have HXS := Lib.hid hxs
                  clear hmp hrm hxm hxs hl1
                  go_upto_region 20 with (first | (go_at_call 67; (refine HMP.out.mono ?_); rintro e w20 ⟨A3, c3, rfl, ho3, hb20⟩; have hinv := rinv_any A3 _ c3 _ w20 (Rd.of_own ho3) HRM.out; have HINV := Lib.hid hinv; clear hinv) | (go_at_call 142; (refine HINV.out.mono ?_); rintro e w21 ⟨v4, rfl, ho4, hb21⟩))
                  obtain ⟨A4, c4, rfl, -, -, -, r4⟩ := own_form ho4
                  have hrb := rright_any A4 l1.length c4 (invM l1) w21 (by unfold maxLen; omega) (fun _ => r4) (invM_length _)
                  have hz20 := hb20.size
                  have hb21' : Below w19.heap.size w19 w21 := hb20.trans (hb21.mono hz20)
                  have hz21 := hb21'.size
                  cases hri : rightM (invM l1) with
                  | false =>
                    rw [hri] at hrb
                    have HRB := Lib.hid hrb
                    have HRI := Lib.hid hri
                    clear hrb hri r4
                    go_wp2_with (go_at_call 86; (refine HRB.out.mono ?_); rintro e w22 ⟨rfl, hb22⟩)
                    go_roundw
                    case rel =>
                      have hst := stepT_out (m := m) (ks := ks2) HXS.out (by rw [HXM.out]; exact HRI.out)
                      rw [HY.out] at hst
                      refine ⟨p + 1, Lp, ks2, v5, _, _, _, (wrap64 (z + 1)), by omega, by go_num, Lib.hid ?_, Lib.hid ?_, Lib.hid ?_, Lib.hid ?_, hsin, Lib.hid (HR.out.ext (hb21'.trans (hb22.mono hz21)))⟩
                      · rw [HSN2.out, hst]; simp [hpv.out]
                      · have := hlp.out; simp; omega
                      · rw [HSN2.out, hst]
                      · rw [HSN2.out, hst]; first | exact HZ.out | (simp; exact hz.out)
                    case measure => simp [intOf]; omega
                  | true =>
                    rw [hri] at hrb
                    have HRB := Lib.hid hrb
                    have HRI := Lib.hid hri
                    clear hrb hri r4
                    go_upto_region 24 with (go_at_call 86; (refine HRB.out.mono ?_); rintro e w22 ⟨rfl, hb22⟩)
                    have hoB := own_below ho4 hb22
                    have hoO : w22.ownsRow w22.heap.size 155 3 (.slice none 0 0) ([] : List Rg).length (rgs []) := World.ownsRow_nil _ _ _ _
                    have hr24 := HR.out.ext (hb21'.trans (hb22.mono hz21))
                    have hle : w.heap.size ≤ w20.heap.size := by have := (HR.out.below hbr).size; omega
                    have hle2 : w.heap.size ≤ w22.heap.size := by have := hb22.size; have := (HR.out.below hbr).size; omega
                    clear ho3 ho4
                    have t1 := hr24.kT.cell 1; dsimp at t1
                    have hz1 := (hr24.below hbr).size
                    obtain ⟨Bs, B1, Bl, Bo⟩ := hr24.tr.b
                    have HN1 := Lib.hid (show Bs.length = ks2.length by have := congrArg List.length Bl; simpa using this)
                    have hk9 := HKL2.out
                    go_upto_region 25 with (at_builtin; ((refine app_one Tryz.underlying86 info_rgs rfl (by decide) w22 w.heap.size _ Bs.length _ B1 (by have := HN1.out; unfold maxLen; omega) (by have := HN1.out; omega) hz1 _ rfl (by simp [Value.oneCell']) rfl _ _ rfl rfl rfl ?_); intro g1 cap1 v1 hown1 hgr1 hat1 hlt1; have kT1 := hr24.kT.grown hgr1 (own_ne B1 hr24.kT (by decide)); have fT1 := kT1.frozen; have lT1 := def_lt' kT1; have cT1 := kT1.cell 1; dsimp at cT1))
                    have gs1 : v1.grownBy (v1.setCell ⟨bT, 1, none⟩ (.slice (some ⟨g1, 0, none⟩) (Bs.length + 1) cap1)) (some bT) := gr_set (p := ⟨bT, 1, none⟩) (World.grownBy.refl _ _) (.inl rfl) _
                    have hr25 := hr24.trail B1 (.inl rfl) hr24.hb hgr1 1 (.slice (some ⟨g1, 0, none⟩) (Bs.length + 1) cap1) rfl (hr24.tr.addb (m := ⟨A4, l1.length, c4, invM l1⟩) ⟨own_base hoB hle⟩ B1 Bl Bo hown1 hgr1 hat1) (hr24.pick hr24.hb hat1) hr24.hv hr24.hk
                    have hoO1 := own_grow (own_grow hoO hgr1 (own_type hoO B1 (by decide))) gs1 (fun g e => by injection e with e; subst e; exact own_ne (own_grow hoO hgr1 (own_type hoO B1 (by decide))) kT1 (by decide))
                    generalize v1.setCell ⟨bT, 1, none⟩ (.slice (some ⟨g1, 0, none⟩) (Bs.length + 1) cap1) = u1 at *
                    clear t1 fT1 lT1 cT1 kT1
                    have t2 := hr25.kT.cell 2; dsimp at t2
                    have hz2 := (hr25.below hbr).size
                    obtain ⟨Os, B2, Ol, Oo⟩ := hr25.tr.o
                    have HN2 := Lib.hid (show Os.length = ks2.length by have := congrArg List.length Ol; simpa using this)
                    have hk9 := HKL2.out
                    go_upto_region 26 with (at_builtin; ((refine app_one Tryz.underlying86 info_rgs rfl (by decide) u1 w.heap.size _ Os.length _ B2 (by have := HN2.out; unfold maxLen; omega) (by have := HN2.out; omega) hz2 _ rfl (by simp [Value.oneCell']) rfl _ _ rfl rfl rfl ?_); intro g2 cap2 v2 hown2 hgr2 hat2 hlt2; have kT2 := hr25.kT.grown hgr2 (own_ne B2 hr25.kT (by decide)); have fT2 := kT2.frozen; have lT2 := def_lt' kT2; have cT2 := kT2.cell 2; dsimp at cT2))
                    have gs2 : v2.grownBy (v2.setCell ⟨bT, 2, none⟩ (.slice (some ⟨g2, 0, none⟩) (Os.length + 1) cap2)) (some bT) := gr_set (p := ⟨bT, 2, none⟩) (World.grownBy.refl _ _) (.inl rfl) _
                    have hr26 := hr25.trail B2 (.inl rfl) hr25.hv hgr2 2 (.slice (some ⟨g2, 0, none⟩) (Os.length + 1) cap2) rfl (hr25.tr.addo (m := ⟨none, 0, 0, []⟩) ⟨own_base hoO1 hle2⟩ B2 Ol Oo hown2 hgr2 hat2) hr25.hb (hr25.pick hr25.hv hat2) hr25.hk
                    generalize v2.setCell ⟨bT, 2, none⟩ (.slice (some ⟨g2, 0, none⟩) (Os.length + 1) cap2) = u2 at *
                    clear t2 fT2 lT2 cT2 kT2
                    have t3 := hr26.kT.cell 3; dsimp at t3
                    have hz3 := (hr26.below hbr).size
                    obtain ⟨lk, hlk⟩ : ∃ lk, ks2.reverse.map Lk.kept = lk := ⟨_, rfl⟩
                    rw [hlk] at hr26
                    have HLK := Lib.hid hlk
                    have HN3 := Lib.hid (show lk.length = ks2.length by rw [← hlk]; simp)
                    clear hlk
                    have B3 := hr26.tr.k
                    have hk9 := HKL2.out
                    go_wp2_with (at_builtin; ((refine app_one Tryz.underlying29 info_bool rfl (by decide) u2 w.heap.size _ lk.length _ B3 (by have := HN3.out; unfold maxLen; omega) (by have := HN3.out; omega) hz3 _ rfl (by simp [Value.oneCell']) rfl _ _ rfl rfl rfl ?_); intro g3 cap3 v3 hown3 hgr3 hat3 hlt3; have kT3 := hr26.kT.grown hgr3 (own_ne B3 hr26.kT (by decide)); have fT3 := kT3.frozen; have lT3 := def_lt' kT3; have cT3 := kT3.cell 3; dsimp at cT3))
                    have gs3 : v3.grownBy (v3.setCell ⟨bT, 3, none⟩ (.slice (some ⟨g3, 0, none⟩) (lk.length + 1) cap3)) (some bT) := gr_set (p := ⟨bT, 3, none⟩) (World.grownBy.refl _ _) (.inl rfl) _
                    have hr27 := hr26.trail B3 (.inr rfl) hr26.hk hgr3 3 (.slice (some ⟨g3, 0, none⟩) (lk.length + 1) cap3) rfl (hr26.tr.addk (x := false) hown3 hgr3) hr26.hb hr26.hv (hr26.pick hr26.hk hat3)
                    generalize v3.setCell ⟨bT, 3, none⟩ (.slice (some ⟨g3, 0, none⟩) (lk.length + 1) cap3) = u3 at *
                    clear t3 fT3 lT3 cT3 kT3
                    have HR27 := Lib.hid hr27
                    clear hr24 hr25 hr26 hr27
                    go_roundw
                    case rel =>
                      have hst := stepT_in (m := m) (ks := ks2) HXS.out (by rw [HXM.out]; exact HRI.out)
                      rw [HY.out, HXM.out] at hst
                      refine ⟨p + 1, Lp, ⟨invM l1, [], false⟩ :: ks2, v5, (.slice (some ⟨g1, 0, none⟩) (Bs.length + 1) cap1), (.slice (some ⟨g2, 0, none⟩) (Os.length + 1) cap2), (.slice (some ⟨g3, 0, none⟩) (lk.length + 1) cap3), (wrap64 (z + 1)), by omega, by go_num, Lib.hid ?_, Lib.hid ?_, Lib.hid ?_, Lib.hid ?_, hsin, Lib.hid ?_⟩
                      · rw [HSN2.out, hst]; simp [hpv.out]
                      · have := hlp.out; simp; omega
                      · rw [HSN2.out, hst]; rfl
                      · rw [HSN2.out, hst]; first | exact HZ.out | (simp; exact hz.out)
                      · rw [List.reverse_cons, List.map_append, List.map_append, List.map_append, HLK.out]
                        exact HR27.out
                    case measure => simp [intOf]; omega
                | some z' =>
                  obtain ⟨rfl, rfl, rfl, rfl, rfl, rfl, hzz⟩ := HYZ.out z' rfl
                  obtain ⟨zk, zf, zt, zg, zh, zi, zm, zv, zsl, zst⟩ := z'
                  simp only [StC.mk.injEq, and_true] at hzz
                  obtain ⟨rfl, rfl, rfl, rfl, rfl, rfl, rfl, rfl⟩ := hzz
                  have hkeep := shift_keep HY.out
                  simp only at hkeep
                  obtain ⟨rfl, rfl⟩ := hkeep
                  have hst11 := hrs11.st
                  have hzo : wo.heap.size ≤ w11.heap.size := hrs11.stir.size
                  have cB := hrs11.k8.cell 0
                  dsimp [grp] at cB
                  obtain ⟨c0, c1, c2, c3, c4, c5, c6, c7, c8, c9⟩ := bk10 k11
                  have hlpo := hlp.out
                  go_upto_region 19 with (at_builtin; ((refine app_one Tryz.underlying23 info_step rfl (by decide) w11 wo.heap.size _ Lp.length _ hst11 (by unfold maxLen; omega) (by omega) hzo _ rfl (by simp [Value.oneCell']) rfl _ _ rfl rfl rfl ?_); intro g4 cap4 w4 hown4 hgr4 hat4 hlt4; have k84 := hrs11.k8.grown hgr4 (own_ne hst11 hrs11.k8 (by decide)); have f8 := k84.frozen; have l8 := def_lt' k84; have c8' := k84.cell 0; dsimp [grp] at c8'))
                  have hr19 := hrs11.push (s := ⟨A2, n2, c2', A2', n2', c2'', ⟨zk, zf, zt, zg, zh, zi, zm, zv, zsl, zst⟩⟩) hown4 hgr4
                  have i10 := (j10.grown hgr4 (fun e => by have := HV5.out _ e; omega)).far (p := ⟨b8, 0, none⟩) (bk_ne j10 hrs11.k8 (by decide)) (.slice (some ⟨g4, 0, none⟩) (Lp.length + 1) cap4)
                  have i11 := (k11.grown hgr4 (fun e => by have := HV5.out _ e; omega)).far (p := ⟨b8, 0, none⟩) (bk_ne k11 hrs11.k8 (by decide)) (.slice (some ⟨g4, 0, none⟩) (Lp.length + 1) cap4)
                  have hsin2 : ∀ s ∈ Lp ++ [⟨A2, n2, c2', A2', n2', c2'', ⟨zk, zf, zt, zg, zh, zi, zm, zv, zsl, zst⟩⟩], s.In w w.heap.size ∧ s.n ≤ 20000 ∧ s.n' ≤ 20000 ∧ s.Av Y := by
                    intro s hs
                    rcases List.mem_append.1 hs with hs | hs
                    · exact hsin.out s hs
                    · simp only [List.mem_singleton] at hs
                      subst hs
                      exact ⟨⟨SIN.out.rd, SIN.out.rd', SIN.out.n, SIN.out.n', SIN.out.A, SIN.out.A'⟩, hsm.1, hsm.2.1, hsm.2.2⟩
                  have HSIN2 := Lib.hid hsin2
                  have HZ : Hid (z = IntKind.i64.wrap (glost + (((runG m ks ((gL.map StH.x).take p)).2.2 + 0 : Nat) : Int))) := Lib.hid (by rw [hz.out]; rfl)
                  generalize w4.setCell ⟨b8, 0, none⟩ (.slice (some ⟨g4, 0, none⟩) (Lp.length + 1) cap4) = w19 at *
                  have HR := Lib.hid hr19
                  clear hr19 hsin2 hrs11 k84 f8 l8 c8' c0 c1 c2 c3 c4 c5 c6 c7 c8 c9 cB hst11 hown4
                  obtain ⟨c0, c1, c2, c3, c4, c5, c6, c7, c8, c9⟩ := bk10 i10
                  obtain ⟨l1, hl1⟩ : ∃ l1, mapS xk xf xt xg xh xi n2 = l1 := ⟨_, rfl⟩
                  have hmp := rmap_any xk xf xt xg xh xi xm xv A2 A2' n2 n2' c2' c2'' w19 HXB.out
                  rw [hl1] at hmp
                  have hxs : (StC.mk xk xf xt xg xh xi xm xv zsl zst).sh = true := HX1.out.trans HXB.out
                  have hxm : (StC.mk xk xf xt xg xh xi xm xv zsl zst).map = l1 := by rw [map_is hxs, ← hl1, ← hln]
                  have hrm := map_right hxs
                  rw [hxm] at hrm
                  have hln1 : l1.length ≤ 2 := by rw [← hxm]; exact mapB_len _ _ _ _ _ _ _ _ _ _
                  have HMP := Lib.hid hmp
                  have HRM := Lib.hid hrm
                  have HXM := Lib.hid hxm
                  have HXS := Lib.hid hxs
                  clear hmp hrm hxm hxs hl1
                  go_upto_region 20 with (first | (go_at_call 67; (refine HMP.out.mono ?_); rintro e w20 ⟨A3, c3, rfl, ho3, hb20⟩; have hinv := rinv_any A3 _ c3 _ w20 (Rd.of_own ho3) HRM.out; have HINV := Lib.hid hinv; clear hinv) | (go_at_call 142; (refine HINV.out.mono ?_); rintro e w21 ⟨v4, rfl, ho4, hb21⟩))
                  obtain ⟨A4, c4, rfl, -, -, -, r4⟩ := own_form ho4
                  have hrb := rright_any A4 l1.length c4 (invM l1) w21 (by unfold maxLen; omega) (fun _ => r4) (invM_length _)
                  have hz20 := hb20.size
                  have hb21' : Below w19.heap.size w19 w21 := hb20.trans (hb21.mono hz20)
                  have hz21 := hb21'.size
                  cases hri : rightM (invM l1) with
                  | false =>
                    rw [hri] at hrb
                    have HRB := Lib.hid hrb
                    have HRI := Lib.hid hri
                    clear hrb hri r4
                    go_wp2_with (go_at_call 86; (refine HRB.out.mono ?_); rintro e w22 ⟨rfl, hb22⟩)
                    go_roundw
                    case rel =>
                      have hst := stepT_out (m := m) (ks := ks2) HXS.out (by rw [HXM.out]; exact HRI.out)
                      rw [HY.out] at hst
                      refine ⟨p + 1, (Lp ++ [⟨A2, n2, c2', A2', n2', c2'', ⟨zk, zf, zt, zg, zh, zi, zm, zv, zsl, zst⟩⟩]), ks2, (.slice (some ⟨g4, 0, none⟩) (Lp.length + 1) cap4), _, _, _, z, by omega, by go_num, Lib.hid ?_, Lib.hid ?_, Lib.hid ?_, Lib.hid ?_, HSIN2, Lib.hid (HR.out.ext (hb21'.trans (hb22.mono hz21)))⟩
                      · rw [HSN2.out, hst]; simp [hpv.out]
                      · have := hlp.out; simp; omega
                      · rw [HSN2.out, hst]
                      · rw [HSN2.out, hst]; first | exact HZ.out | (simp; exact hz.out)
                    case measure => simp [intOf]; omega
                  | true =>
                    rw [hri] at hrb
                    have HRB := Lib.hid hrb
                    have HRI := Lib.hid hri
                    clear hrb hri r4
                    have j11 := i11.ext hb21'
                    have ht22 : ∀ W, Below w21.heap.size w21 W → W.cell? ⟨b11, 0, none⟩ = some (.int .i64 zk) ∧ W.cell? ⟨b11, 1, none⟩ = some (.int .i64 zf) ∧ W.cell? ⟨b11, 2, none⟩ = some (.int .i64 zt) ∧ W.cell? ⟨b11, 3, none⟩ = some (.int .i64 zg) ∧ W.cell? ⟨b11, 4, none⟩ = some (.int .i64 zh) ∧ W.cell? ⟨b11, 5, none⟩ = some (.int .i64 zi) ∧ W.cell? ⟨b11, 6, none⟩ = some (.int .i64 zm) ∧ W.cell? ⟨b11, 7, none⟩ = some (.int .i64 zv) ∧ W.cell? ⟨b11, 8, none⟩ = some (.slice A2 n2 c2') ∧ W.cell? ⟨b11, 9, none⟩ = some (.slice A2' n2' c2'') := fun W h => ⟨(j11.ext h).cell 0, (j11.ext h).cell 1, (j11.ext h).cell 2, (j11.ext h).cell 3, (j11.ext h).cell 4, (j11.ext h).cell 5, (j11.ext h).cell 6, (j11.ext h).cell 7, (j11.ext h).cell 8, (j11.ext h).cell 9⟩
                    have HT22 := Lib.hid ht22
                    have hzsh := shift_sh HY.out
                    have hzm := map_is hzsh
                    simp only at hzm
                    rw [hln] at hzm
                    obtain ⟨l2, hl2⟩ : ∃ l2, mapS zk zf zt zg zh zi n2 = l2 := ⟨_, rfl⟩
                    have hmz := fun W => rmap_any zk zf zt zg zh zi zm zv A2 A2' n2 n2' c2' c2'' W (by have := hzsh; unfold StC.sh at this; simp only at this; rw [hln, hln'] at this; exact this)
                    rw [hl2] at hmz hzm
                    have hln2 : l2.length ≤ 2 := by rw [← hzm]; exact mapB_len _ _ _ _ _ _ _ _ _ _
                    have HMZ := Lib.hid hmz
                    have HZM := Lib.hid hzm
                    clear ht22 hmz hzm hzsh hl2 j11
                    go_upto_region 24 with (first | (go_at_call 86; (refine HRB.out.mono ?_); rintro e w22 ⟨rfl, hb22⟩; obtain ⟨e0, e1, e2, e3, e4', e5, e6, e7, e8, e9⟩ := HT22.out w22 hb22) | (go_at_call 67; (refine (HMZ.out w22).mono ?_); rintro e w23 ⟨A5, c5, rfl, ho5, hb23⟩))
                    have hb23' := hb22.trans (hb23.mono hb22.size)
                    have hoB := own_below ho4 hb23'
                    have hoO := ho5
                    have hr24 := HR.out.ext (hb21'.trans (hb23'.mono hz21))
                    have hle : w.heap.size ≤ w20.heap.size := by have := (HR.out.below hbr).size; omega
                    have hle2 : w.heap.size ≤ w22.heap.size := by have := hb22.size; have := (HR.out.below hbr).size; omega
                    clear ho3 ho4 ho5 e0 e1 e2 e3 e4' e5 e6 e7 e8 e9
                    have t1 := hr24.kT.cell 1; dsimp at t1
                    have hz1 := (hr24.below hbr).size
                    obtain ⟨Bs, B1, Bl, Bo⟩ := hr24.tr.b
                    have HN1 := Lib.hid (show Bs.length = ks2.length by have := congrArg List.length Bl; simpa using this)
                    have hk9 := HKL2.out
                    go_upto_region 25 with (at_builtin; ((refine app_one Tryz.underlying86 info_rgs rfl (by decide) w23 w.heap.size _ Bs.length _ B1 (by have := HN1.out; unfold maxLen; omega) (by have := HN1.out; omega) hz1 _ rfl (by simp [Value.oneCell']) rfl _ _ rfl rfl rfl ?_); intro g1 cap1 v1 hown1 hgr1 hat1 hlt1; have kT1 := hr24.kT.grown hgr1 (own_ne B1 hr24.kT (by decide)); have fT1 := kT1.frozen; have lT1 := def_lt' kT1; have cT1 := kT1.cell 1; dsimp at cT1))
                    have gs1 : v1.grownBy (v1.setCell ⟨bT, 1, none⟩ (.slice (some ⟨g1, 0, none⟩) (Bs.length + 1) cap1)) (some bT) := gr_set (p := ⟨bT, 1, none⟩) (World.grownBy.refl _ _) (.inl rfl) _
                    have hr25 := hr24.trail B1 (.inl rfl) hr24.hb hgr1 1 (.slice (some ⟨g1, 0, none⟩) (Bs.length + 1) cap1) rfl (hr24.tr.addb (m := ⟨A4, l1.length, c4, invM l1⟩) ⟨own_base hoB hle⟩ B1 Bl Bo hown1 hgr1 hat1) (hr24.pick hr24.hb hat1) hr24.hv hr24.hk
                    have hoO1 := own_grow (own_grow hoO hgr1 (own_type hoO B1 (by decide))) gs1 (fun g e => by injection e with e; subst e; exact own_ne (own_grow hoO hgr1 (own_type hoO B1 (by decide))) kT1 (by decide))
                    generalize v1.setCell ⟨bT, 1, none⟩ (.slice (some ⟨g1, 0, none⟩) (Bs.length + 1) cap1) = u1 at *
                    clear t1 fT1 lT1 cT1 kT1
                    have t2 := hr25.kT.cell 2; dsimp at t2
                    have hz2 := (hr25.below hbr).size
                    obtain ⟨Os, B2, Ol, Oo⟩ := hr25.tr.o
                    have HN2 := Lib.hid (show Os.length = ks2.length by have := congrArg List.length Ol; simpa using this)
                    have hk9 := HKL2.out
                    go_upto_region 26 with (at_builtin; ((refine app_one Tryz.underlying86 info_rgs rfl (by decide) u1 w.heap.size _ Os.length _ B2 (by have := HN2.out; unfold maxLen; omega) (by have := HN2.out; omega) hz2 _ rfl (by simp [Value.oneCell']) rfl _ _ rfl rfl rfl ?_); intro g2 cap2 v2 hown2 hgr2 hat2 hlt2; have kT2 := hr25.kT.grown hgr2 (own_ne B2 hr25.kT (by decide)); have fT2 := kT2.frozen; have lT2 := def_lt' kT2; have cT2 := kT2.cell 2; dsimp at cT2))
                    have gs2 : v2.grownBy (v2.setCell ⟨bT, 2, none⟩ (.slice (some ⟨g2, 0, none⟩) (Os.length + 1) cap2)) (some bT) := gr_set (p := ⟨bT, 2, none⟩) (World.grownBy.refl _ _) (.inl rfl) _
                    have hr26 := hr25.trail B2 (.inl rfl) hr25.hv hgr2 2 (.slice (some ⟨g2, 0, none⟩) (Os.length + 1) cap2) rfl (hr25.tr.addo (m := ⟨A5, l2.length, c5, l2⟩) ⟨own_base hoO1 hle2⟩ B2 Ol Oo hown2 hgr2 hat2) hr25.hb (hr25.pick hr25.hv hat2) hr25.hk
                    generalize v2.setCell ⟨bT, 2, none⟩ (.slice (some ⟨g2, 0, none⟩) (Os.length + 1) cap2) = u2 at *
                    clear t2 fT2 lT2 cT2 kT2
                    have t3 := hr26.kT.cell 3; dsimp at t3
                    have hz3 := (hr26.below hbr).size
                    obtain ⟨lk, hlk⟩ : ∃ lk, ks2.reverse.map Lk.kept = lk := ⟨_, rfl⟩
                    rw [hlk] at hr26
                    have HLK := Lib.hid hlk
                    have HN3 := Lib.hid (show lk.length = ks2.length by rw [← hlk]; simp)
                    clear hlk
                    have B3 := hr26.tr.k
                    have hk9 := HKL2.out
                    go_wp2_with (at_builtin; ((refine app_one Tryz.underlying29 info_bool rfl (by decide) u2 w.heap.size _ lk.length _ B3 (by have := HN3.out; unfold maxLen; omega) (by have := HN3.out; omega) hz3 _ rfl (by simp [Value.oneCell']) rfl _ _ rfl rfl rfl ?_); intro g3 cap3 v3 hown3 hgr3 hat3 hlt3; have kT3 := hr26.kT.grown hgr3 (own_ne B3 hr26.kT (by decide)); have fT3 := kT3.frozen; have lT3 := def_lt' kT3; have cT3 := kT3.cell 3; dsimp at cT3))
                    have gs3 : v3.grownBy (v3.setCell ⟨bT, 3, none⟩ (.slice (some ⟨g3, 0, none⟩) (lk.length + 1) cap3)) (some bT) := gr_set (p := ⟨bT, 3, none⟩) (World.grownBy.refl _ _) (.inl rfl) _
                    have hr27 := hr26.trail B3 (.inr rfl) hr26.hk hgr3 3 (.slice (some ⟨g3, 0, none⟩) (lk.length + 1) cap3) rfl (hr26.tr.addk (x := true) hown3 hgr3) hr26.hb hr26.hv (hr26.pick hr26.hk hat3)
                    generalize v3.setCell ⟨bT, 3, none⟩ (.slice (some ⟨g3, 0, none⟩) (lk.length + 1) cap3) = u3 at *
                    clear t3 fT3 lT3 cT3 kT3
                    have HR27 := Lib.hid hr27
                    clear hr24 hr25 hr26 hr27
                    go_roundw
                    case rel =>
                      have hst := stepT_in (m := m) (ks := ks2) HXS.out (by rw [HXM.out]; exact HRI.out)
                      rw [HY.out, HXM.out] at hst
                      refine ⟨p + 1, (Lp ++ [⟨A2, n2, c2', A2', n2', c2'', ⟨zk, zf, zt, zg, zh, zi, zm, zv, zsl, zst⟩⟩]), ⟨invM l1, l2, true⟩ :: ks2, (.slice (some ⟨g4, 0, none⟩) (Lp.length + 1) cap4), (.slice (some ⟨g1, 0, none⟩) (Bs.length + 1) cap1), (.slice (some ⟨g2, 0, none⟩) (Os.length + 1) cap2), (.slice (some ⟨g3, 0, none⟩) (lk.length + 1) cap3), z, by omega, by go_num, Lib.hid ?_, Lib.hid ?_, Lib.hid ?_, Lib.hid ?_, HSIN2, Lib.hid ?_⟩
                      · rw [HSN2.out, hst]; simp [hpv.out]
                      · have := hlp.out; simp; omega
                      · rw [HSN2.out, hst]; simp only [overY]; rw [HZM.out]; rfl
                      · rw [HSN2.out, hst]; first | exact HZ.out | (simp; exact hz.out)
                      · rw [List.reverse_cons, List.map_append, List.map_append, List.map_append, HLK.out]
                        exact HR27.out
                    case measure => simp [intOf]; omega
          · obtain rfl : gn = p := by omega
            have htk : (gL.map StH.x).take gn = gL.map StH.x := List.take_of_length_le (by rw [List.length_map]; omega)
            rw [htk] at hpv hk2 hz
            have hform2 := hrs.out.tr.form
            simp only [List.length_map, List.length_reverse] at hform2
            obtain ⟨Ab2, cb2, Ao2, co2, Ak2, ck2, rfl, rfl, rfl⟩ := hform2
            have hall2 : AllR ks2 := by
              have h1 := runG_right (m := m) (gL.map StH.x) ks HALL.out
              rw [hk2.out] at h1
              exact h1
            have hkl2 : ks2.length ≤ 1000 := by
              have h1 := runG_len (m := m) (gL.map StH.x) ks
              rw [hk2.out] at h1
              have := HKL.out
              simp only [List.length_map] at h1
              omega
            have HALL2 := Lib.hid hall2
            obtain ⟨P2, hP2⟩ : ∃ P2, pinB (tellL m ks2) ⟨pk, pa, pb⟩ = P2 := ⟨_, rfl⟩
            have hrt := fun W (hW : Below wr.heap.size wr W) => route_rt W Am Ab2 Ao2 Ak2 cm nm cb2 co2 ck2 ks2.length m ks2 ((hrs.out.tr.below hW).is_ (by simp) ((HM.out.below (hbq.trans (hW.mono hbqz))).more (Nat.le_trans hbqz hW.size))) hkl2 HR.out (fun k hk => (HALL2.out k hk).1) (fun k hk => (HALL2.out k hk).2)
            have hpin := fun (Ar : Option Addr) (lr cr : Nat) (Br : Option Addr) (dr B : Nat) (W : World) (hd : DocRt W B (.agg #[.slice Ar lr cr, .slice Br lr dr]) (docL m ks2)) => rpin_any (tellL m ks2) (docL m ks2) (docL_tells m ks2) pk pa pb Ar lr cr Br lr dr B W hd
            rw [hP2] at hpin
            have HRT := Lib.hid hrt
            have HPIN := Lib.hid hpin
            have HP2 := Lib.hid hP2
            have hF : ∀ W, Below wr.heap.size wr W → W.cell? ⟨b, o + q * 8 + 1, none⟩ = some (.int .i64 pk) ∧ W.cell? ⟨b, o + q * 8 + 2, none⟩ = some (.int .i64 pa) ∧ W.cell? ⟨b, o + q * 8 + 3, none⟩ = some (.int .i64 pb) ∧ W.cell? ⟨bT, 0, none⟩ = some (.slice Am nm cm) ∧ W.cell? ⟨bT, 1, none⟩ = some (.slice Ab2 ks2.length cb2) ∧ W.cell? ⟨bT, 2, none⟩ = some (.slice Ao2 ks2.length co2) ∧ W.cell? ⟨bT, 3, none⟩ = some (.slice Ak2 ks2.length ck2) := fun W hW =>
              have key : ∀ i, W.cell? ⟨b, o + q * 8 + i, none⟩ = wo.cell? ⟨b, o + q * 8 + i, none⟩ := fun i => ((hbq.trans (hW.mono hbqz)).cell (p := ⟨b, o + q * 8 + i, none⟩) hb).trans (hbr.cell (p := ⟨b, o + q * 8 + i, none⟩) hb).symm
              ⟨(key 1).trans (HCC.out 1 (by omega)), (key 2).trans (HCC.out 2 (by omega)), (key 3).trans (HCC.out 3 (by omega)), (hrs.out.kT.ext hW).cell 0, (hrs.out.kT.ext hW).cell 1, (hrs.out.kT.ext hW).cell 2, (hrs.out.kT.ext hW).cell 3⟩
            have HF := Lib.hid hF
            clear hF hrt hpin hP2 hall2 htk
            go_upto_region 27 with fail
            refine wp_normal ?_
            refine region_L (S := fun w' => Below wr.heap.size wr w') [9] (by kernel_rfl) (Below.refl _ _).drew (fun hHeld => ?_)
            (refine tkD 0 ?_; refine tkD 1 ?_; refine tkD 2 ?_; refine tkD 3 ?_; refine tkD 4 ?_; refine tkD 5 ?_)
            refine nxL 6 (fun K hK => ?_)
            go_simp
            go_at_call 140
            refine (HRT.out _ (Below.refl _ _).drew).mono ?_
            rintro e w5 ⟨Ar, cr, Br, dr, lr, rfl, hr5, hb5⟩
            have hb5' : Below wr.heap.size wr w5 := Below.trans (Below.refl _ _).drew hb5
            refine hK.out _ _ hb5' (fun hHeld => ?_)
            clear hK K; refine puL ?_
            refine nxL 7 (fun K hK => ?_)
            go_simp
            go_at_call 139
            refine (HPIN.out Ar lr cr Br dr w5.heap.size w5 hr5).mono ?_
            rintro e w6 ⟨rfl, hb6⟩
            have hb6' := hb5'.trans (hb6.mono hb5'.size)
            refine hK.out _ _ hb6' (fun hHeld => ?_)
            clear hK K; refine puL ?_
            (refine tkD 8 ?_)
            have hrs6 := hrs.out.ext hb6'
            have fB := hrs6.k8.frozen; have lB := def_lt' hrs6.k8; have q1 := hrs6.k8.cell 1; have q2 := hrs6.k8.cell 2; have q3 := hrs6.k8.cell 3
            dsimp [grp] at q1 q2 q3
            refine ltL 9 (fun K hK => ?_)
            go_simp
            refine hK.out _ _ ?_
            clear hK K; refine puL ?_
            refine anyL_done (by kernel_rfl) ?_
            have gr7 : w6.grownBy (((w6.setCell ⟨b8, 1, none⟩ (.int .i64 P2.k)).setCell ⟨b8, 2, none⟩ (.int .i64 P2.a)).setCell ⟨b8, 3, none⟩ (.int .i64 P2.b)) (some b8) := gr_set (p := ⟨b8, 3, none⟩) (gr_set (p := ⟨b8, 2, none⟩) (gr_set (p := ⟨b8, 1, none⟩) (World.grownBy.refl _ _) (.inl rfl) _) (.inl rfl) _) (.inl rfl) _
            have k87 : Bk (((w6.setCell ⟨b8, 1, none⟩ (.int .i64 P2.k)).setCell ⟨b8, 2, none⟩ (.int .i64 P2.a)).setCell ⟨b8, 3, none⟩ (.int .i64 P2.b)) b8 93 (grp v5 P2.k P2.a P2.b P.k P.a P.b z) := ((hrs6.k8.set_ 1 _).set_ 2 _).set_ 3 _
            generalize ((w6.setCell ⟨b8, 1, none⟩ (.int .i64 P2.k)).setCell ⟨b8, 2, none⟩ (.int .i64 P2.a)).setCell ⟨b8, 3, none⟩ (.int .i64 P2.b) = w7 at *
            have kT7 := hrs6.kT.grown gr7 (fun e => by injection e with e; exact hrs6.ne e.symm)
            have tr7 := hrs6.tr.grown hrs6.k8 gr7 (by decide) (by decide) (by decide)
            have st7 : w7.ownsRow wo.heap.size 45 10 v5 Lp.length (sts Lp) := own_grow hrs6.st gr7 (fun g e => by injection e with e; subst e; exact own_ne hrs6.st hrs6.k8 (by decide))
            have hown6 := own_stir hown hrs6.stir (HXNE.out _ _ _ _ _ _ hown (by decide) (by decide) (by decide))
            have hown7 : w7.ownsRow w.heap.size 93 8 vo Lo.length (grs Lo) := own_grow hown6 gr7 (fun g e h => by injection e with e; subst e; have := own_lt hown _ h; omega)
            have hLo7 : ∀ g ∈ Lo, g.HOwn w w7 Y := fun g hg =>
              have h6 := own_stir (hLo.out g hg).o hrs6.stir (HXNE.out _ _ _ _ _ _ (hLo.out g hg).o (by decide) (by decide) (by decide))
              ⟨own_grow h6 gr7 (fun x e => by injection e with e; subst e; exact own_ne h6 hrs6.k8 (by decide)), (hLo.out g hg).l, (hLo.out g hg).n⟩
            have hb7 : Below w.heap.size w w7 := (hbq.trans (hb6'.mono hbqz)).trans (gr_below gr7 (Nat.le_trans hbqz hb6'.size) (fun k e => by injection e with e; omega))
            have hz7 := hb7.size
            obtain ⟨A5, c5', rfl, -, -, -, -⟩ := own_form st7
            have c0 := k87.cell 0; have c1 := k87.cell 1; have c2 := k87.cell 2; have c3 := k87.cell 3; have c4 := k87.cell 4; have c5 := k87.cell 5; have c6 := k87.cell 6; have c7 := k87.cell 7
            dsimp [grp] at c0 c1 c2 c3 c4 c5 c6 c7
            have TR7 := Lib.hid tr7
            have ST7 := Lib.hid st7
            have HLO7 := Lib.hid hLo7
            have KT7 := Lib.hid kT7
            clear tr7 st7 hLo7 kT7 q1 q2 q3 fB lB hHeld hrs6 hown6 hb5 hb5' hb6 hb6' hr5 gr7
            go_wp2_with (at_builtin; ((refine app_one Tryz.underlying85 info_groupR rfl (by decide) w7 w.heap.size _ Lo.length _ hown7 (by have := HLO.out; unfold maxLen; omega) (by have := HLO.out; omega) hz7 _ rfl (by simp [Value.oneCell']) rfl _ _ rfl rfl rfl ?_); intro g4 cap4 w4 hown4 hgr4 hat4 hlt4))
            have hb4 := below_own hb7 hown7 hgr4 hz7 (Nat.le_refl _)
            go_roundw
            case rel =>
              refine ⟨q + 1, Lo ++ [⟨A5, Lp.length, c5', Lp, P2, P, z⟩], ks2, _, _, _, _, rfl, by omega, by go_num, Lib.hid ?_, Lib.hid ?_, hb4, KT7.out.grown hgr4 (own_ne hown7 KT7.out (by decide)), Lib.hid (TR7.out.grow hown7 hgr4 (by decide) (by decide) (by decide)), ?_, Lib.hid ?_⟩
              · rw [HSN.out, List.map_append, hval.out]
                simp only [GrH.val, List.map_cons, List.map_nil]
                rw [hpv.out, hz.out, hk2.out, HP2.out, HP.out]
              · rw [HSN.out]
                exact hk2.out
              · rw [grs_append, List.length_append]
                exact hown4
              · intro y hy
                rcases List.mem_append.1 hy with hy | hy
                · exact ⟨own_grow (HLO7.out y hy).o hgr4 (own_type (HLO7.out y hy).o hown7 (by decide)), (HLO7.out y hy).l, (HLO7.out y hy).n⟩
                · simp only [List.mem_singleton] at hy
                  subst hy
                  exact ⟨own_base (own_grow ST7.out hgr4 (own_type ST7.out hown7 (by decide))) hbw, hsin.out, by have := hlp.out; show Lp.length ≤ 1000; omega⟩
            case measure => simp [intOf]; omega
    · obtain rfl : n = q := by omega
      go_wp2
      go_ret
      obtain ⟨A9, c9, rfl, hnc, -, -, r9⟩ := own_form hown
      have hno := own_none hown
      have hll : Lo.length = n := by
        have := congrArg List.length hval.out
        simp only [List.length_map, overG_len, List.length_take] at this
        have := HLEN.out
        omega
      rw [hll] at r9 hno
      refine ⟨A9, n, c9, Lo, by rw [hll]; rfl, by omega, ⟨⟨r9, fun g hg => (hLo.out g hg).in_ hbr⟩, hno, fun g hg => ⟨(hLo.out g hg).n, fun s hs => ((hLo.out g hg).l s hs).2⟩, ?_, fun g hg => av_own (hLo.out g hg).o HYB.out⟩, ?_, hbr⟩
      · rw [hll] at hown
        exact av_own hown HYB.out
      · rw [hval.out, List.take_of_length_le (by rw [List.length_map, HLEN.out]; omega)]
set_option maxRecDepth 100000 in
set_option maxHeartbeats 2000000 in
theorem rover_no (A : Option Addr) (n c : Nat) (L : List GrH) (Am : Option Addr) (nm cm : Nat) (m : List Rg) (w : World) (Y : Nat → Prop) (hc : n ≤ c) (h : GrsX w Y A n L) (hnm : nm ≤ 1000) (hm : Rd w w.heap.size 3 Am nm (rgs m)) (hr : rightM m = false) :
    Calls Tryz.prog 89 #[.slice A n c, .slice Am nm cm] w (ROut Y (overC m (L.map GrH.val)) w) := by
  have hri := fun W (hb : Below w.heap.size w W) => calls_on hb (rright_any Am nm cm m W (by unfold maxLen; omega) (fun _ => (hm.below hb).more hb.size) hm.rlen)
  rw [hr] at hri
  have HRI := Lib.hid hri
  have hv : overC m (L.map GrH.val) = L.map GrH.val := by unfold overC; rw [hr]; rfl
  rw [hv]
  have H := Lib.hid h
  clear h hm hr hri
  go_enter Tryz.func89, Tryz.ntmps89
  go_wp2_with (go_at_call 86; (refine (HRI.out _ (Below.refl _ _)).mono ?_); rintro e w1 ⟨rfl, hb1, hz1, hx1⟩)
  go_ret
  exact ⟨A, n, c, L, rfl, hc, ⟨(H.out.in_.below hb1).more hz1, H.out.no, H.out.sml, H.out.av, H.out.avg⟩, rfl, hb1⟩
theorem rover_any (A : Option Addr) (n c : Nat) (L : List GrH) (Am : Option Addr) (nm cm : Nat) (m : List Rg) (w : World) (Y : Nat → Prop) (hY : ∀ i, Y i → i < w.heap.size) (hc : n ≤ c) (h : GrsX w Y A n L) (hn : n ≤ 1000) (htot : totC (L.map GrH.val) ≤ 1000) (hlb : ∀ g ∈ L, -9223372036854775808 ≤ g.lost ∧ g.lost ≤ 9223372036854775807) (hnm : nm ≤ 1000) (hm : Rd w w.heap.size 3 Am nm (rgs m)) :
    Calls Tryz.prog 89 #[.slice A n c, .slice Am nm cm] w (ROut Y (overC m (L.map GrH.val)) w) := by
  cases hr : rightM m with
  | false => exact rover_no A n c L Am nm cm m w Y hc h hnm hm hr
  | true => exact rover_yes A n c L Am nm cm m w Y hY h.in_ hn h.sml htot hlb hm hr
end Go.Proofs.YtmacfoebfpljoaaGreat
