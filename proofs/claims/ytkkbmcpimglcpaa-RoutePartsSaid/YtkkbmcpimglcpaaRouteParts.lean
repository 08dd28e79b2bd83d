/-
  RouteParts: whatever the input: true; each argument reads behind the call as it read before. No condition.
-/
import Derived.Test.YtkkbmcpimglcpaaRtFg
import Derived.Test.YtkkbmcpimglcpaaRtX
import Derived.Test.YtkkbmcpimglcpaaK
namespace Go.Proofs.Ytkkbmcpimglcpaa
open Go.RowKit

theorem symF_pair {f : IMap} {n : Nat} {k : Int} (hs : SymF f) (h : MirOk f n) (h1 : k < n) (hf : f k = none) : SymF (upd (upd f k n) n k) := by
  intro a b hab
  unfold upd at hab ⊢
  split at hab
  · injection hab with hab
    subst hab
    rename_i ha
    rw [if_neg (by omega), if_pos rfl, ha]
  · split at hab
    · injection hab with hab
      subst hab
      rename_i ha
      rw [if_pos rfl, ha]
    · have hb := hs _ _ hab
      have := h _ _ hab
      have hbk : b ≠ k := fun e => by rw [e, hf] at hb; cases hb
      rw [if_neg (by omega), if_neg hbk]
      exact hb
theorem fill_sym (L : List Mp) : SymF (fillM L).2 := by
  have gen : ∀ (L : List Mp) (s : List (List Rg) × IMap), MirOk s.2 s.1.length → (∀ m ∈ s.1, rightM m = true) → SymF s.2 → SymF (L.foldl fStep s).2 := by
    intro L
    induction L with
    | nil => intro s _ _ h; exact h
    | cons x L ih =>
      intro s h hr hs
      obtain ⟨h1, h2, h3⟩ := fStep_ok (x := x) h hr
      refine ih (fStep s x) h1 h2 ?_
      unfold fStep
      split
      · split
        · split
          · rename_i h0 h4
            exact symF_pair hs h h4.1 h4.2
          · exact hs
        · exact hs
      · exact hs
  exact gen L ([], fun _ => none) (fun i k h => by cases h) (by simp) (fun a b h => by cases h)
theorem invF_ok {f : IMap} {n : Nat} (h : MirOk f n) : MirOk (invF f n) n := by
  intro x k hk
  unfold invF at hk
  cases hf : f ((n : Int) - 1 - x) with
  | none => rw [hf] at hk; cases hk
  | some v =>
    rw [hf] at hk
    simp at hk
    have := h _ _ hf
    omega
theorem invMs_right {ms : List (List Rg)} (h : allI ms = true) : ∀ m ∈ invMs ms, rightM m = true := by
  intro m hm
  unfold invMs at hm
  rw [List.mem_reverse] at hm
  obtain ⟨x, hx, rfl⟩ := List.mem_map.1 hm
  exact List.all_eq_true.1 h x hx

theorem NewFoot.ext {W W' : World} {B base R : Nat} {ms : List (List Rg)} {f : IMap} (h : NewFoot W B R) (hR : RouteIs W base R ms f) (hb : Below W.heap.size W W') : NewFoot W' B R := fun j hj => h j ((Foot.ext hR hb).2 hj)

set_option maxRecDepth 100000 in
set_option maxHeartbeats 4000000 in
theorem parts_any (A : Option Addr) (n c : Nat) (L : List Mp) (at_ : Int) (w : World) (h : MpsIn w w.heap.size A n L) :
    Calls Try.prog 8 #[.slice A n c, .int .i64 at_] w fun e w' => e = .returned (.bool true) ∧ Below w.heap.size w w' := by
  have hfw := fun W (hb : Below w.heap.size w W) => calls_on hb (few_any A n c L W (h.to hb))
  have hlv := fun W (hb : Below w.heap.size w W) => calls_on hb (live24_any W)
  have HLV := Lib.hid hlv
  clear hlv
  cases hf : fewB L with
  | false =>
    rw [hf] at hfw
    have HFW := Lib.hid hfw
    clear hfw h
    go_enter Try.func8, Try.ntmps8
    go_wp2_with (first
      | (go_at_call 23; (refine (HFW.out _ (Below.refl _ _)).mono ?_); rintro e w8 ⟨rfl, hb8, hz8, _⟩)
      | (go_at_call 24; (refine (HLV.out _ hb8).mono ?_); rintro e w9 ⟨rfl, hb9, hz9, _⟩))
    go_ret
    exact ⟨rfl, hb9⟩
  | true =>
    have hl := h.len
    have hn : n ≤ 30 := by have := (fewB_spec hf).1; omega
    obtain ⟨hmok, hml, hms⟩ := fill_ok L
    have hsym := fill_sym L
    have hfl := fun W (hb : Below w.heap.size w W) => fill_any A n c L W (h.to hb) hn
    obtain ⟨⟨ms, f⟩, hs⟩ : ∃ s, fillM L = s := ⟨_, rfl⟩
    rw [hs] at hmok hml hms hsym
    simp only [hs] at hfl
    simp only at hmok hml hms hfl hsym
    have hms2 : ms.length ≤ 30 := by omega
    have HFL := Lib.hid hfl
    rw [hf] at hfw
    have HFW := Lib.hid hfw
    obtain ⟨i, hi⟩ : ∃ i : Nat, (i : Int) = min (max at_ 0) ms.length := ⟨(min (max at_ 0) ms.length).toNat, by omega⟩
    clear hfw h hfl hs hl hf
    go_enter Try.func8, Try.ntmps8
    go_wp2_with (first
      | (go_at_call 23; (refine (HFW.out _ (Below.refl _ _)).mono ?_); rintro e w8 ⟨rfl, hb8, hz8, _⟩)
      | (go_at_call 34; (refine (HFL.out _ hb8).mono ?_); rintro e wf ⟨R, vm, vo, rfl, hR, hO, hbf⟩; obtain ⟨Am, cm, Ao, co, rfl, rfl, hI, hAm, hAo, vs, hrd, hone, hown⟩ := hO.is hbf.size (ofsOf_len _ _))
      )
    have hcm : ms.length ≤ cm := by
      obtain ⟨A9, c9, e9, h9, _⟩ := own_form hown
      injection e9 with _ _ e9
      omega
    have hbw := hb8.trans (hbf.mono hz8)
    have hba := (Below.refl wf.heap.size wf).alloc (Nat.le_refl _) (.cells #[.slice Am ms.length cm, .slice Ao ms.length co] 66)
    have hRa := hR.ext hba
    have hIa := (hI.below hba).more hba.size
    have kb := Bk.new wf 66 #[.slice Am ms.length cm, .slice Ao ms.length co]
    have hbA := hbw.trans (hba.mono hbw.size)
    have hbase : w8.heap.size ≤ (wf.alloc (.cells #[.slice Am ms.length cm, .slice Ao ms.length co] 66)).heap.size := Nat.le_trans hbf.size hba.size
    generalize wf.alloc (.cells #[.slice Am ms.length cm, .slice Ao ms.length co] 66) = wa at *
    generalize wf.heap.size = BX at *
    clear hR hI hO hbf hrd hown hone hAo hba
    have HR := Lib.hid hRa
    have HI := Lib.hid hIa
    have HML := Lib.hid hml
    have HOK := Lib.hid hmok
    have HSY := Lib.hid hsym
    have HAM := Lib.hid hAm
    have Hi := Lib.hid hi
    clear hml hsym hAm hi
    have hin : i ≤ ms.length := by have := Hi.out; omega
    have hld : (ms.drop i).length = ms.length - i := List.length_drop
    have hokF : MirOk (fromM f i) (ms.drop i).length := by rw [hld]; exact fromM_ok hmok hin
    have hmlF : ∀ m ∈ ms.drop i, rightM m = true := fun m hm => HML.out m (List.mem_of_mem_drop hm)
    have HOKF := Lib.hid hokF
    have HMLF := Lib.hid hmlF
    clear hokF hmlF hmok hRa hIa
    refine (from_any w8.heap.size R ms f at_ i wa HR.out hbase HOK.out HSY.out (by omega) Hi.out).mono ?_
    rintro e wF ⟨RF, rfl, hRF, hbF, hNF⟩
    have HRF := Lib.hid hRF
    have HNF := Lib.hid hNF
    have hlF := (RouteIs.foot hRF (.inl rfl)).1
    clear hRF hNF
    have kF := kb.ext hbF
    cases hai : allI ms with
    | true =>
      have hinv := fun W (hb : Below wa.heap.size wa W) => invert_any w8.heap.size R ms f W (HR.out.ext hb) HOK.out HSY.out HML.out (by omega)
      have hrin := fun W (hb : Below wa.heap.size wa W) => rinvert_any W ms f Am Ao cm co ((HI.out.below hb).more hb.size) HML.out (by omega) HOK.out
      have hrfr := fun W (hb : Below wa.heap.size wa W) => rfrom_any W ms f Am Ao cm co at_ i ((HI.out.below hb).more hb.size) HAM.out hcm (by omega) Hi.out HOK.out
      have HINV := Lib.hid hinv
      have HRIN := Lib.hid hrin
      have HRFR := Lib.hid hrfr
      have hokI : MirOk (invF f ms.length) (invMs ms).length := by
        rw [show (invMs ms).length = ms.length from by unfold invMs; simp]
        exact invF_ok HOK.out
      have HOKI := Lib.hid hokI
      have hmlI := invMs_right hai
      have HMLI := Lib.hid hmlI
      have hilI : Hid ((invMs ms).length ≤ 60) := Lib.hid (by rw [show (invMs ms).length = ms.length from by unfold invMs; simp]; omega)
      have hilF : Hid ((ms.drop i).length < 60) := Lib.hid (by rw [hld]; omega)
      clear hinv hrin hrfr hokI hmlI hld
      have kl := def_lt' kb
      generalize ms.drop i = mF at *
      generalize fromM f i = fF at *
      go_wp2_with (first
        | (go_at_call 33; (refine (HINV.out _ hbF).mono ?_); rintro e wI ⟨hbI, ⟨_, RI, rfl, hRI⟩ | ⟨hx, _⟩⟩; rotate_left; (exact absurd (hx.symm.trans hai) (by simp)); have hbI2 := hbF.trans (hbI.mono hbF.size); have kI := kF.ext hbI; have d0 := kI.cell 0; have d1 := kI.cell 1; have lI := def_lt' kI; dsimp at d0 d1)
        | (go_at_call 37; (refine (HRIN.out _ hbI2).mono ?_); rintro e wJ ⟨hbJ, ⟨_, Ai, ci, Aoi, coi, rfl, hIJ⟩ | ⟨hx, _⟩⟩; rotate_left; (exact absurd (hx.symm.trans hai) (by simp)); have hbJ2 := hbI2.trans (hbJ.mono hbI2.size); have hbJ3 := hbJ2.alloc hbJ2.size (.cells #[.slice Ai (invMs ms).length ci, .slice Aoi (invMs ms).length coi] 66); have kJ := kb.ext hbJ3; have k10 := Bk.new wJ 66 #[.slice Ai (invMs ms).length ci, .slice Aoi (invMs ms).length coi]; have e0 := kJ.cell 0; have e1 := kJ.cell 1; have lJ := def_lt' kJ; dsimp at e0 e1)
        | (go_at_call 38; (refine (HRFR.out _ hbJ3).mono ?_); rintro e wK ⟨Af, cf, Aof, cof, rfl, hIF, hbK⟩; have hbFK : Below wF.heap.size wF wK := (hbI.trans ((hbJ.mono hbI.size).alloc (by have := hbI.size; have := hbJ.size; omega) _)).trans (hbK.mono (by have := hbI.size; have := hbJ.size; simp; omega)); have hbaK := hbF.trans (hbFK.mono hbF.size); have hIK : Below wI.heap.size wI wK := ((hbJ).alloc hbJ.size _).trans (hbK.mono (by have := hbJ.size; simp; omega)); have hJK : Below wJ.heap.size wJ wK := ((Below.refl _ _).alloc (Nat.le_refl _) _).trans (hbK.mono (by simp)))
        | (go_at_call 35; ((with_reducible refine (alike_any wK w8.heap.size RF mF fF Af Aof cf cof (HRF.out.ext hbFK) hIF HOKF.out (Nat.le_of_lt hilF.out) HMLF.out).mono ?_)); rintro e wL ⟨rfl, hbL⟩; have kL := (k10.ext hbK).ext hbL; have f0 := kL.cell 0; have f1 := kL.cell 1; have lL := def_lt' kL; dsimp at f0 f1; have hbFL := hbFK.trans (hbL.mono hbFK.size); have hIL := hIK.trans (hbL.mono hIK.size); have hJL := hJK.trans (hbL.mono hJK.size))
        | (go_at_call 35; ((with_reducible refine (alike_any wL wF.heap.size RI (invMs ms) (invF f ms.length) Ai Aoi ci coi (hRI.ext hIL) ((hIJ.below hJL).more hJL.size) HOKI.out hilI.out HMLI.out).mono ?_)); rintro e wM ⟨rfl, hbM⟩; have hbFM := (hbFL.trans (hbM.mono hbFL.size)).alloc (by have := hbFL.size; have := hbM.size; omega) (.cells #[.int .i64 1, .int .i64 1, .int .i64 0] 42))
        | (go_at_call 25; ((with_reducible refine (add_good w8.heap.size RF mF fF (some ⟨wM.heap.size, 0, none⟩) 1 1 [⟨1, 1, 0⟩] (wM.alloc (.cells #[.int .i64 1, .int .i64 1, .int .i64 0] 42)) (HRF.out.ext hbFM) (Nat.le_trans hbase (Nat.le_trans hbF.size hbFM.size)) (Rd.of_own (own_one wM wM.heap.size 42 #[.int .i64 1, .int .i64 1, .int .i64 0] (Nat.le_refl _))) (by simp) (by decide) (by have := hilF.out; omega)).mono ?_)); rintro e wN ⟨rfl, g1, g2, g3, g4, g5⟩; obtain ⟨hbN0, _⟩ := Turned.new ⟨g1, g2, g3, g4, g5⟩ (HNF.out.ext HRF.out hbFM) (Nat.le_trans hbF.size hbFM.size); have hbN : Below wa.heap.size wa wN := (hbF.trans (hbFM.mono hbF.size)).trans hbN0; have kN := kb.ext hbN; have n0 := kN.cell 0; have n1 := kN.cell 1; have lN := def_lt' kN; dsimp at n0 n1)
        | (go_at_call 35; ((with_reducible refine (alike_any wN w8.heap.size R ms f Am Ao cm co (HR.out.ext hbN) ((HI.out.below hbN).more hbN.size) HOK.out (by omega) HML.out).mono ?_)); rintro e wO ⟨rfl, hbO⟩; have hbwO := hbA.trans ((hbN.trans (hbO.mono hbN.size)).mono hbA.size))
        | (go_at_call 24; (refine (HLV.out _ hbwO).mono ?_); rintro e wP ⟨rfl, hbP, _, _⟩))
      go_ret
      exact ⟨rfl, hbP⟩
    | false =>
      have hinv := fun W (hb : Below wa.heap.size wa W) => invert_any w8.heap.size R ms f W (HR.out.ext hb) HOK.out HSY.out HML.out (by omega)
      have hrin := fun W (hb : Below wa.heap.size wa W) => rinvert_any W ms f Am Ao cm co ((HI.out.below hb).more hb.size) HML.out (by omega) HOK.out
      have hrfr := fun W (hb : Below wa.heap.size wa W) => rfrom_any W ms f Am Ao cm co at_ i ((HI.out.below hb).more hb.size) HAM.out hcm (by omega) Hi.out HOK.out
      have HINV := Lib.hid hinv
      have HRIN := Lib.hid hrin
      have HRFR := Lib.hid hrfr
      have hilF : Hid ((ms.drop i).length < 60) := Lib.hid (by rw [hld]; omega)
      clear hinv hrin hrfr hld
      have kl := def_lt' kb
      generalize ms.drop i = mF at *
      generalize fromM f i = fF at *
      go_wp2_with (first
        | (go_at_call 33; (refine (HINV.out _ hbF).mono ?_); rintro e wI ⟨hbI, ⟨hx, _⟩ | ⟨_, rfl⟩⟩; (exact absurd (hx.symm.trans hai) (by simp)); have hbI2 := hbF.trans (hbI.mono hbF.size); have kI := kF.ext hbI; have d0 := kI.cell 0; have d1 := kI.cell 1; have lI := def_lt' kI; dsimp at d0 d1)
        | (go_at_call 37; (refine (HRIN.out _ hbI2).mono ?_); rintro e wJ ⟨hbJ, ⟨hx, _⟩ | ⟨_, rfl⟩⟩; (exact absurd (hx.symm.trans hai) (by simp)); have hbJ2 := hbI2.trans (hbJ.mono hbI2.size); have hbJ3 := hbJ2.alloc hbJ2.size (.cells #[.slice none 0 0, .slice none 0 0] 66); have kJ := kb.ext hbJ3; have e0 := kJ.cell 0; have e1 := kJ.cell 1; have lJ := def_lt' kJ; dsimp at e0 e1)
        | (go_at_call 38; (refine (HRFR.out _ hbJ3).mono ?_); rintro e wK ⟨Af, cf, Aof, cof, rfl, hIF, hbK⟩; have hbFK : Below wF.heap.size wF wK := (hbI.trans ((hbJ.mono hbI.size).alloc (by have := hbI.size; have := hbJ.size; omega) _)).trans (hbK.mono (by have := hbI.size; have := hbJ.size; simp; omega)); have hbaK := hbF.trans (hbFK.mono hbF.size))
        | (go_at_call 35; ((with_reducible refine (alike_any wK w8.heap.size RF mF fF Af Aof cf cof (HRF.out.ext hbFK) hIF HOKF.out (Nat.le_of_lt hilF.out) HMLF.out).mono ?_)); rintro e wM ⟨rfl, hbM⟩; have hbFM := (hbFK.trans (hbM.mono hbFK.size)).alloc (by have := hbFK.size; have := hbM.size; omega) (.cells #[.int .i64 1, .int .i64 1, .int .i64 0] 42))
        | (go_at_call 25; ((with_reducible refine (add_good w8.heap.size RF mF fF (some ⟨wM.heap.size, 0, none⟩) 1 1 [⟨1, 1, 0⟩] (wM.alloc (.cells #[.int .i64 1, .int .i64 1, .int .i64 0] 42)) (HRF.out.ext hbFM) (Nat.le_trans hbase (Nat.le_trans hbF.size hbFM.size)) (Rd.of_own (own_one wM wM.heap.size 42 #[.int .i64 1, .int .i64 1, .int .i64 0] (Nat.le_refl _))) (by simp) (by decide) (by have := hilF.out; omega)).mono ?_)); rintro e wN ⟨rfl, g1, g2, g3, g4, g5⟩; obtain ⟨hbN0, _⟩ := Turned.new ⟨g1, g2, g3, g4, g5⟩ (HNF.out.ext HRF.out hbFM) (Nat.le_trans hbF.size hbFM.size); have hbN : Below wa.heap.size wa wN := (hbF.trans (hbFM.mono hbF.size)).trans hbN0; have kN := kb.ext hbN; have n0 := kN.cell 0; have n1 := kN.cell 1; have lN := def_lt' kN; dsimp at n0 n1)
        | (go_at_call 35; ((with_reducible refine (alike_any wN w8.heap.size R ms f Am Ao cm co (HR.out.ext hbN) ((HI.out.below hbN).more hbN.size) HOK.out (by omega) HML.out).mono ?_)); rintro e wO ⟨rfl, hbO⟩; have hbwO := hbA.trans ((hbN.trans (hbO.mono hbN.size)).mono hbA.size))
        | (go_at_call 24; (refine (HLV.out _ hbwO).mono ?_); rintro e wP ⟨rfl, hbP, _, _⟩))
      go_ret
      exact ⟨rfl, hbP⟩
end Go.Proofs.Ytkkbmcpimglcpaa

namespace Go.Proofs.Ytkkbmcpimglcpaa.routeParts
open Go.ChangeShapes Go.WideShapes Go.ChangeAt Go.RowKit
set_option linter.unusedVariables false

set_option maxRecDepth 100000 in
theorem lifted (os : Os) (started : os.Started) (H : Type) (enc : TypeId × Value → H) :
    ReturnsInHanded {} Try.checked os 8 .any (Rows.routePartsSpec.pre6 enc Try.prog Try.f8 Rows.routePartsRow.domain false) (Rows.routePartsSpec.post enc Try.prog Try.f8 false true false false) := by
  refine returnsInHanded_of_change (C := Try.checked) own started (by kernel_rfl) Try.func8
    (ChangeSpec.witness6 (enc := enc) (C := Try.checked) false ⟨#[], #[.slice none 0 0, .int .i64 0], []⟩ 8 (by kernel_rfl) (by kernel_rfl) (by kernel_rfl) (by kernel_rfl)) ?_
  intro W base args ds gs before hval0 hW hcnd _
  have hval : ∀ (j : Nat) t v, Try.f8.params[j]? = some t → args[j]? = some v → Value.okWide Try.prog W .any base t v := hval0
  have hW' := hW
  obtain ⟨p, q, hA0, hV, rfl, hfz, hnd⟩ := hW
  have hA : DataW.TrodAll enc Try.prog W 0 (fun _ => true) true Try.f8.params.toList args.toList ds p := hA0
  rw [Try.params8] at hA hval
  obtain ⟨v0, vs0, d0, ds0, p0, q0, hargs, rfl, rfl, h0, r0⟩ := trodAll_cons hA
  obtain ⟨v1, vs1, d1, ds1, p1, q1, rfl, rfl, rfl, h1, r1⟩ := trodAll_cons r0
  obtain ⟨rfl, rfl, rfl⟩ := trodAll_nil r1
  obtain rfl : args = #[v0, v1] := by cases args; simp_all
  obtain ⟨rfl, rfl⟩ := trodVars_none hV
  have k0 := h0
  have lt0 : ∀ x ∈ p0, x.block < W.heap.size := by obtain ⟨m, hm⟩ := k0; exact DataW.trod_lt m _ _ _ hm
  have k1 := h1
  have lt1 : ∀ x ∈ p1, x.block < W.heap.size := by obtain ⟨m, hm⟩ := k1; exact DataW.trod_lt m _ _ _ hm
  obtain ⟨A0, n0, c0, rfl⟩ := okWide_slice Try.underlying45 (hval 0 45 v0 rfl rfl)
  obtain ⟨l0, hl0, hr0, hnc0, hc0, hA0⟩ := open_mps h0
  obtain ⟨a1, rfl, rfl, rfl, w1⟩ := open_int Try.underlying3 (hval 1 3 v1 rfl rfl) h1
  clear hA0 hval0
  refine (parts_any A0 n0 c0 l0 a1 W hr0).mono fun e W' ⟨he, bel⟩ => ?_
  subst he
  exact ⟨_, rfl, _, _, _, [], _, [], hW', trodAll_mk1 (shut_bool Try.underlying4 _), (trodAll_cons_mk (Below.trod laidOut (by kernel_rfl) (of_decide_eq_true (by kernel_rfl)) k0 bel lt0) (trodAll_cons_mk (Below.trod laidOut (by kernel_rfl) (of_decide_eq_true (by kernel_rfl)) k1 bel lt1) trodAll_mk0)), rfl, bel.frame _, fun h => by cases h⟩

theorem over : Rows.routePartsRow.holds Try.pinned (OpenSpec.ofChange Rows.routePartsSpec) :=
  OpenClaim.holds_of_wide 8 Try.f8 rfl rfl rfl rfl rfl rfl rfl ⟨rfl, rfl, rfl, rfl, rfl⟩ rfl rfl rfl rfl rfl (by kernel_rfl) Try.func8 (by kernel_rfl)
    (of_decide_eq_true (by kernel_rfl)) (by unfold Func.isWrapper; first | (rw [if_pos (by decide +kernel)]; kernel_rfl) | (rw [if_neg (by decide +kernel)]; exact ⟨rfl, rfl⟩))
    (fun os started H enc _ => lifted os started H enc)

/-- the statement -/
theorem proved : Rows.RoutePartsSaid := over
end Go.Proofs.Ytkkbmcpimglcpaa.routeParts
