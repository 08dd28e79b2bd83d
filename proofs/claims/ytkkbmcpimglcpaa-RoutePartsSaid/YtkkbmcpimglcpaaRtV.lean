/- route: At; alike -/
import Derived.Test.YtkkbmcpimglcpaaRtU
namespace Go.Proofs.Ytkkbmcpimglcpaa
open Go.RowKit

def atM (ms : List (List Rg)) (i : Int) : List Rg := if 0 ≤ i ∧ i < ms.length then ms.getD i.toNat [] else []

set_option maxRecDepth 100000 in
set_option maxHeartbeats 1000000 in
theorem at_any (base R : Nat) (ms : List (List Rg)) (f : IMap) (i : Int) (W : World) (hR : RouteIs W base R ms f) (hml : ∀ m ∈ ms, m.length ≤ 1000000) :
    Calls Try.prog 30 #[.pointer (some ⟨R, 0, none⟩), .int .i64 i] W fun e W' => ∃ A c, e = .returned (.slice A (atM ms i).length c) ∧ Has A (atM ms i).length c (atM ms i) W' ∧ Below W.heap.size W W' := by
  have hln := len_any base R ms f W hR
  have HL := Lib.hid hln
  clear hln
  by_cases h1 : 0 ≤ i
  · by_cases h2 : i < ms.length
    · obtain ⟨κ, rfl⟩ : ∃ κ : Nat, i = κ := ⟨i.toNat, by omega⟩
      obtain ⟨m, hm⟩ : ∃ m, ms[κ]? = some m := ⟨_, List.getElem?_eq_getElem (by omega)⟩
      have e : atM ms κ = m := by unfold atM; rw [if_pos ⟨h1, h2⟩, Int.toNat_natCast, List.getD_eq_getElem?_getD, hm]; rfl
      have hmm := hml m (List.mem_of_getElem? hm)
      rw [e]
      obtain ⟨v, mo, vs, k1, k2, k3, k4, k5⟩ := hR
      obtain ⟨A', c', rfl, _, _, _, hvs⟩ := own_form k3
      obtain ⟨Am, nm, cm, g1, g2⟩ := k4 κ m hm
      obtain ⟨bb, oo, u, rfl, hbb, hu, huc⟩ := hvs.at1 (k := κ) (by omega)
      rw [g1] at hu
      injection hu with hu
      subst hu
      have hRd := Rd.of_own g2
      obtain ⟨A2, c2, e2, _, _, e3, _⟩ := own_form g2
      injection e2 with e2a _ e2c
      subst e2a e2c
      obtain rfl : nm = m.length := hRd.rlen.symm
      have hcl := clone_rg Am m.length cm m W hRd (fun h => (e3 h).1) hmm
      have HC := Lib.hid hcl
      have z0 := k1.cell 0
      have zl := def_lt' k1
      dsimp at z0
      clear hcl e hml k4 k5 hm g2
      go_enter Try.func30, Try.ntmps30
      go_wp2_with (first
        | (go_at_call 29; refine HL.out.mono ?_; rintro e w1 ⟨rfl, rfl⟩)
        | (go_at_call 42; refine HC.out.mono ?_; rintro e w2 ⟨v, rfl, ho, hb⟩))
      go_ret
      obtain ⟨A4, c4, rfl, _, hc4, _, hr4⟩ := own_form ho
      exact ⟨_, _, rfl, ⟨by unfold maxLen; omega, hr4⟩, hb⟩
    · have e : atM ms i = [] := by unfold atM; rw [if_neg (by omega)]
      rw [e]
      clear e hml
      go_enter Try.func30, Try.ntmps30
      go_wp2_with (go_at_call 29; refine HL.out.mono ?_; rintro e w1 ⟨rfl, rfl⟩)
      go_ret
      exact ⟨none, 0, rfl, ⟨by unfold maxLen; simp, Rd.nil_ _ _ _ _⟩, Below.refl _ _⟩
  · have e : atM ms i = [] := by unfold atM; rw [if_neg (by omega)]
    rw [e]
    clear e hml
    go_enter Try.func30, Try.ntmps30
    go_wp2
    go_ret
    exact ⟨none, 0, rfl, ⟨by unfold maxLen; simp, Rd.nil_ _ _ _ _⟩, Below.refl _ _⟩

theorem RefIs.base {W : World} {B : Nat} {Am Ao : Option Addr} {n : Nat} {ms : List (List Rg)} {ofs : List Int} (h : RefIs W B Am Ao n ms ofs) (hn : 0 < n) : ∃ b o b' o', Am = some ⟨b, o, none⟩ ∧ Ao = some ⟨b', o', none⟩ := by
  obtain ⟨b, o, _, _, e, _⟩ := h.at_ (k := 0) (m := ms[0]'(by have := h.len; omega)) (by simp)
  obtain ⟨b', o', e', _⟩ := h.of_ (k := 0) (x := ofs[0]'(by have := h.ofl; omega)) (by simp)
  exact ⟨b, o, b', o', e, e'⟩

set_option maxRecDepth 100000 in
set_option maxHeartbeats 4000000 in
theorem alike_any (w : World) (base R : Nat) (ms : List (List Rg)) (f : IMap) (Am Ao : Option Addr) (cm co : Nat) (hR : RouteIs w base R ms f) (hx : RefIs w w.heap.size Am Ao ms.length ms (ofsOf f ms.length)) (hmok : MirOk f ms.length) (hms : ms.length ≤ 60) (hml : ∀ m ∈ ms, rightM m = true) :
    Calls Try.prog 35 #[.pointer (some ⟨R, 0, none⟩), .agg #[.slice Am ms.length cm, .slice Ao ms.length co]] w fun e w' => e = .returned (.bool true) ∧ Below w.heap.size w w' := by
  have hml2 : ∀ m ∈ ms, m.length ≤ 1000000 := fun m hm => by have := right_len (hml m hm); omega
  have hb0 : Below w.heap.size w (w.alloc (.cells #[.slice Am ms.length cm, .slice Ao ms.length co] 66)) := (Below.refl _ _).alloc (Nat.le_refl _) _
  have kb := Bk.new w 66 #[.slice Am ms.length cm, .slice Ao ms.length co]
  have z0 := kb.cell 0; have z1 := kb.cell 1
  dsimp at z0 z1
  have hR0 := hR.ext hb0
  have hx0 := (hx.below hb0).more hb0.size
  have hsz : (w.alloc (.cells #[.slice Am ms.length cm, .slice Ao ms.length co] 66)).heap.size = w.heap.size + 1 := by simp
  clear hR hx
  go_enter Try.func35, Try.ntmps35
  go_wp2
  generalize w.alloc (.cells #[.slice Am ms.length cm, .slice Ao ms.length co] 66) = w0 at *
  have hln := fun W (hb : Below w0.heap.size w0 W) => len_any base R ms f W (hR0.ext hb)
  have hat := fun W (i : Int) (hb : Below w0.heap.size w0 W) => at_any base R ms f i W (hR0.ext hb) hml2
  have hof := fun W (i : Int) (hb : Below w0.heap.size w0 W) => of_any base R ms f i W (hR0.ext hb)
  have hF : ∀ w', Below w0.heap.size w0 w' → w'.cell? ⟨w.heap.size, 0, none⟩ = some (.slice Am ms.length cm) ∧ w'.cell? ⟨w.heap.size, 1, none⟩ = some (.slice Ao ms.length co) :=
    fun w' hb => ⟨(hb.cell (p := ⟨w.heap.size, 0, none⟩) (by simp; omega)).trans z0, (hb.cell (p := ⟨w.heap.size, 1, none⟩) (by simp; omega)).trans z1⟩
  have HF := Lib.hid hF
  have HLN := Lib.hid hln
  have HAT := Lib.hid hat
  have HOF := Lib.hid hof
  clear hF hln hat hof
  refine wp_normal ?_
  refine wp_region_held_drew (S := fun w' => Below w0.heap.size w0 w') (by kernel_rfl) (Below.refl _ _).drew (fun hHeld => ?_)
  (refine take_if (i := 0) (oi := _) (v := ?_) (by simp only [List.getElem?_toArray, List.getElem?_cons_zero]; rfl) (by kernel_rfl) (by kernel_rfl) (by kernel_rfl) (fun _ _ _ h => h) (by rfl) ?_ (by assumption) ?_; rotate_left; (focus ((intro w hSw; (try have hSw := HF.out _ hSw); (try dsimp only at hSw); go_simp); try exact rfl)); simp only [Act.put, List.setIfInBounds_toArray, List.set_cons_zero, List.set_cons_succ]; refine take_if (i := 2) (oi := _) (v := ?_) (by simp only [List.getElem?_toArray, List.getElem?_cons_succ, List.getElem?_cons_zero]; rfl) (by kernel_rfl) (by kernel_rfl) (by kernel_rfl) (fun _ _ _ h => h) (by rfl) ?_ (by assumption) ?_; rotate_left; (focus ((intro w hSw; (try have hSw := HF.out _ hSw); (try dsimp only at hSw); go_simp); try exact rfl)); simp only [Act.put, List.setIfInBounds_toArray, List.set_cons_zero, List.set_cons_succ]; refine take_if (i := 3) (oi := _) (v := ?_) (by simp only [List.getElem?_toArray, List.getElem?_cons_succ, List.getElem?_cons_zero]; rfl) (by kernel_rfl) (by kernel_rfl) (by kernel_rfl) (fun _ _ _ h => h) (by rfl) ?_ (by assumption) ?_; rotate_left; (focus ((intro w hSw; (try have hSw := HF.out _ hSw); (try dsimp only at hSw); go_simp); try exact rfl)); simp only [Act.put, List.setIfInBounds_toArray, List.set_cons_zero, List.set_cons_succ]; refine take_if (i := 4) (oi := _) (v := ?_) (by simp only [List.getElem?_toArray, List.getElem?_cons_succ, List.getElem?_cons_zero]; rfl) (by kernel_rfl) (by kernel_rfl) (by kernel_rfl) (fun _ _ _ h => h) (by rfl) ?_ (by assumption) ?_; rotate_left; (focus ((intro w hSw; (try have hSw := HF.out _ hSw); (try dsimp only at hSw); go_simp); try exact rfl)); simp only [Act.put, List.setIfInBounds_toArray, List.set_cons_zero, List.set_cons_succ])
  refine wpAnyH_ready (rs := [1]) (by kernel_rfl) (by simp) ?_; refine (AllReadyH.cons (o := _) (by simp only [List.getElem?_toArray, List.getElem?_cons_succ, List.getElem?_cons_zero]; rfl) (fun K hK => ?_) AllReadyH.nil)
  go_simp
  go_at_call 29
  refine (HLN.out _ (Below.refl _ _).drew).mono ?_
  rintro e w1 ⟨rfl, rfl⟩
  refine hK.out _ _ (Below.refl _ _).drew (fun hHeld => ?_)
  clear hK K; (try simp only [Act.put, List.setIfInBounds_toArray, List.set_cons_zero, List.set_cons_succ])
  (refine take_if (i := 5) (oi := _) (v := ?_) (by simp only [List.getElem?_toArray, List.getElem?_cons_succ, List.getElem?_cons_zero]; rfl) (by kernel_rfl) (by kernel_rfl) (by kernel_rfl) (fun _ _ _ h => h) (by rfl) ?_ (by assumption) ?_; rotate_left; (focus ((intro w hSw; (try have hSw := HF.out _ hSw); (try dsimp only at hSw); go_simp); try exact rfl)); simp only [Act.put, List.setIfInBounds_toArray, List.set_cons_zero, List.set_cons_succ])
  refine wpAnyH_done (by kernel_rfl) ?_ _
  go_wp2
  go_loopw [5] (fun i wr => ∃ k : Nat, k ≤ ms.length ∧ i = .int .i64 k ∧ Below w0.heap.size w0 wr) (fun i _ => ms.length - (intOf i).toNat)
  case atStart => exact ⟨0, by omega, rfl, (Below.refl _ _).drew⟩
  case round =>
    obtain ⟨k, hk, rfl, hbr⟩ := hrel
    have c0 := (HF.out _ hbr).1
    have c1 := (HF.out _ hbr).2
    by_cases hkn : k < ms.length
    · obtain ⟨m, hm⟩ : ∃ m, ms[k]? = some m := ⟨_, List.getElem?_eq_getElem hkn⟩
      obtain ⟨b, o, A, c, rfl, hb, hc, hrd⟩ := hx0.at_ hm
      obtain ⟨b', o', rfl, hb', hc'⟩ := hx0.of_ (ofsOf_get f hkn)
      have hmr := right_len (hml m (List.mem_of_getElem? hm))
      have hF : ∀ w', Below w0.heap.size w0 w' → (w'.cell? ⟨w.heap.size, 0, none⟩ = some (.slice (some ⟨b, o, none⟩) ms.length cm) ∧ w'.cell? ⟨w.heap.size, 1, none⟩ = some (.slice (some ⟨b', o', none⟩) ms.length co)) ∧ w'.cell? ⟨b, o + k, none⟩ = some (.slice A m.length c) ∧ w'.cell? ⟨b', o' + k, none⟩ = some (.int .i64 ((f k).getD (-1))) :=
        fun w' hb2 => ⟨HF.out _ hb2, (hb2.cell (p := ⟨b, o + k, none⟩) hb).trans hc, (hb2.cell (p := ⟨b', o' + k, none⟩) hb').trans hc'⟩
      have hof := HOF.out wr (k : Int) hbr
      have hofe : ofR ms f k = f k := by unfold ofR; rw [if_pos (by omega)]
      rw [hofe] at hof
      have hate : atM ms k = m := by unfold atM; rw [if_pos (by omega), Int.toNat_natCast, List.getD_eq_getElem?_getD, hm]; rfl
      have hat := fun W (hb : Below w0.heap.size w0 W) => HAT.out W (k : Int) hb
      rw [hate] at hat
      have HAS : Has A m.length c m w0 := ⟨by unfold maxLen; omega, hrd⟩
      have HFO := HF
      clear HF
      have HF := Lib.hid hF
      have HO := Lib.hid hof
      have HA := Lib.hid hat
      have e3 : (k : Int) < ms.length := by omega
      have hcase : (f k = none) ∨ ∃ κ : Nat, f k = some (κ : Int) := by
        cases hf : f k with
        | none => exact .inl rfl
        | some v => exact .inr ⟨v.toNat, by have := hmok k v hf; rw [show ((v.toNat : Nat) : Int) = v by omega]⟩
      clear hF hof hat hm hc hc' hrd hofe hate hmr c0 c1
      rcases hcase with hfk | ⟨κ, hfk⟩
      all_goals
        rw [hfk] at HF HO
        simp only [Option.getD_none, Option.getD_some, Option.isSome_none, Option.isSome_some] at HF HO
        have c0 := (HF.out _ hbr).1.1
        have c1 := (HF.out _ hbr).1.2
        clear hfk
        go_wp2_with (go_at_call 28; refine HO.out.mono ?_; rintro e w2 ⟨rfl, rfl⟩)
        refine wp_normal ?_
        refine wp_region_held_drew (S := fun w' => Below w0.heap.size w0 w') (by kernel_rfl) hbr.drew (fun hHeld => ?_)
        (refine take_if (i := 0) (oi := _) (v := ?_) (by simp only [List.getElem?_toArray, List.getElem?_cons_zero]; rfl) (by kernel_rfl) (by kernel_rfl) (by kernel_rfl) (fun _ _ _ h => h) (by rfl) ?_ (by assumption) ?_; rotate_left; (focus ((intro w hSw; (try have hSw := HF.out _ hSw); (try dsimp only at hSw); go_simp); try exact rfl)); simp only [Act.put, List.setIfInBounds_toArray, List.set_cons_zero, List.set_cons_succ]; refine take_if (i := 1) (oi := _) (v := ?_) (by simp only [List.getElem?_toArray, List.getElem?_cons_succ, List.getElem?_cons_zero]; rfl) (by kernel_rfl) (by kernel_rfl) (by kernel_rfl) (fun _ _ _ h => h) (by rfl) ?_ (by assumption) ?_; rotate_left; (focus ((intro w hSw; (try have hSw := HF.out _ hSw); (try dsimp only at hSw); go_simp); try exact rfl)); simp only [Act.put, List.setIfInBounds_toArray, List.set_cons_zero, List.set_cons_succ]; refine take_if (i := 3) (oi := _) (v := ?_) (by simp only [List.getElem?_toArray, List.getElem?_cons_succ, List.getElem?_cons_zero]; rfl) (by kernel_rfl) (by kernel_rfl) (by kernel_rfl) (fun _ _ _ h => h) (by rfl) ?_ (by assumption) ?_; rotate_left; (focus ((intro w hSw; (try have hSw := HF.out _ hSw); (try dsimp only at hSw); go_simp); try exact rfl)); simp only [Act.put, List.setIfInBounds_toArray, List.set_cons_zero, List.set_cons_succ]; refine take_if (i := 4) (oi := _) (v := ?_) (by simp only [List.getElem?_toArray, List.getElem?_cons_succ, List.getElem?_cons_zero]; rfl) (by kernel_rfl) (by kernel_rfl) (by kernel_rfl) (fun _ _ _ h => h) (by rfl) ?_ (by assumption) ?_; rotate_left; (focus ((intro w hSw; (try have hSw := HF.out _ hSw); (try dsimp only at hSw); go_simp); try exact rfl)); simp only [Act.put, List.setIfInBounds_toArray, List.set_cons_zero, List.set_cons_succ]; refine take_if (i := 5) (oi := _) (v := ?_) (by simp only [List.getElem?_toArray, List.getElem?_cons_succ, List.getElem?_cons_zero]; rfl) (by kernel_rfl) (by kernel_rfl) (by kernel_rfl) (fun _ _ _ h => h) (by rfl) ?_ (by assumption) ?_; rotate_left; (focus ((intro w hSw; (try have hSw := HF.out _ hSw); (try dsimp only at hSw); go_simp); try exact rfl)); simp only [Act.put, List.setIfInBounds_toArray, List.set_cons_zero, List.set_cons_succ]; refine take_if (i := 6) (oi := _) (v := ?_) (by simp only [List.getElem?_toArray, List.getElem?_cons_succ, List.getElem?_cons_zero]; rfl) (by kernel_rfl) (by kernel_rfl) (by kernel_rfl) (fun _ _ _ h => h) (by rfl) ?_ (by assumption) ?_; rotate_left; (focus ((intro w hSw; (try have hSw := HF.out _ hSw); (try dsimp only at hSw); go_simp); try exact rfl)); simp only [Act.put, List.setIfInBounds_toArray, List.set_cons_zero, List.set_cons_succ]; refine take_if (i := 7) (oi := _) (v := ?_) (by simp only [List.getElem?_toArray, List.getElem?_cons_succ, List.getElem?_cons_zero]; rfl) (by kernel_rfl) (by kernel_rfl) (by kernel_rfl) (fun _ _ _ h => h) (by rfl) ?_ (by assumption) ?_; rotate_left; (focus ((intro w hSw; (try have hSw := HF.out _ hSw); (try dsimp only at hSw); go_simp); try exact rfl)); simp only [Act.put, List.setIfInBounds_toArray, List.set_cons_zero, List.set_cons_succ])
        refine wpAnyH_ready (rs := [2]) (by kernel_rfl) (by simp) ?_; refine (AllReadyH.cons (o := _) (by simp only [List.getElem?_toArray, List.getElem?_cons_succ, List.getElem?_cons_zero]; rfl) (fun K hK => ?_) AllReadyH.nil)
        go_simp
        go_at_call 30
        refine (HA.out _ hbr.drew).mono ?_
        rintro e w3 ⟨A3, c3, rfl, has3, hb3⟩
        have hb3' := hbr.drew.trans (hb3.mono hbr.size)
        refine hK.out _ _ hb3' (fun hHeld => ?_)
        clear hK K; (try simp only [Act.put, List.setIfInBounds_toArray, List.set_cons_zero, List.set_cons_succ])
        refine wpAnyH_ready (rs := [8]) (by kernel_rfl) (by simp) ?_; refine (AllReadyH.cons (o := _) (by simp only [List.getElem?_toArray, List.getElem?_cons_succ, List.getElem?_cons_zero]; rfl) (fun K hK => ?_) AllReadyH.nil)
        go_simp
        go_at_call 21
        have hsm := has3.same HAS (Below.refl _ _) hb3'
        rw [sameB_self] at hsm
        refine hsm.mono ?_
        rintro e w4 ⟨rfl, hb4, hz4, hx4⟩
        have hb4' := hb3'.trans (hb4.mono (by have := hb3'.size; omega))
        refine hK.out _ _ hb4' (fun hHeld => ?_)
        clear hK K; (try simp only [Act.put, List.setIfInBounds_toArray, List.set_cons_zero, List.set_cons_succ])
        (refine take_if (i := 9) (oi := _) (v := ?_) (by simp only [List.getElem?_toArray, List.getElem?_cons_succ, List.getElem?_cons_zero]; rfl) (by kernel_rfl) (by kernel_rfl) (by kernel_rfl) (fun _ _ _ h => h) (by rfl) ?_ (by assumption) ?_; rotate_left; (focus ((intro w hSw; (try have hSw := HF.out _ hSw); (try dsimp only at hSw); go_simp); try exact rfl)); simp only [Act.put, List.setIfInBounds_toArray, List.set_cons_zero, List.set_cons_succ]; refine take_if (i := 10) (oi := _) (v := ?_) (by simp only [List.getElem?_toArray, List.getElem?_cons_succ, List.getElem?_cons_zero]; rfl) (by kernel_rfl) (by kernel_rfl) (by kernel_rfl) (fun _ _ _ h => h) (by rfl) ?_ (by assumption) ?_; rotate_left; (focus ((intro w hSw; (try have hSw := HF.out _ hSw); (try dsimp only at hSw); go_simp); try exact rfl)); simp only [Act.put, List.setIfInBounds_toArray, List.set_cons_zero, List.set_cons_succ]; refine take_if (i := 11) (oi := _) (v := ?_) (by simp only [List.getElem?_toArray, List.getElem?_cons_succ, List.getElem?_cons_zero]; rfl) (by kernel_rfl) (by kernel_rfl) (by kernel_rfl) (fun _ _ _ h => h) (by rfl) ?_ (by assumption) ?_; rotate_left; (focus ((intro w hSw; (try have hSw := HF.out _ hSw); (try dsimp only at hSw); go_simp); try exact rfl)); simp only [Act.put, List.setIfInBounds_toArray, List.set_cons_zero, List.set_cons_succ]; refine take_if (i := 12) (oi := _) (v := ?_) (by simp only [List.getElem?_toArray, List.getElem?_cons_succ, List.getElem?_cons_zero]; rfl) (by kernel_rfl) (by kernel_rfl) (by kernel_rfl) (fun _ _ _ h => h) (by rfl) ?_ (by assumption) ?_; rotate_left; (focus ((intro w hSw; (try have hSw := HF.out _ hSw); (try dsimp only at hSw); go_simp); try exact rfl)); simp only [Act.put, List.setIfInBounds_toArray, List.set_cons_zero, List.set_cons_succ]; refine take_if (i := 13) (oi := _) (v := ?_) (by simp only [List.getElem?_toArray, List.getElem?_cons_succ, List.getElem?_cons_zero]; rfl) (by kernel_rfl) (by kernel_rfl) (by kernel_rfl) (fun _ _ _ h => h) (by rfl) ?_ (by assumption) ?_; rotate_left; (focus ((intro w hSw; (try have hSw := HF.out _ hSw); (try dsimp only at hSw); go_simp); try exact rfl)); simp only [Act.put, List.setIfInBounds_toArray, List.set_cons_zero, List.set_cons_succ]; refine take_if (i := 14) (oi := _) (v := ?_) (by simp only [List.getElem?_toArray, List.getElem?_cons_succ, List.getElem?_cons_zero]; rfl) (by kernel_rfl) (by kernel_rfl) (by kernel_rfl) (fun _ _ _ h => h) (by rfl) ?_ (by assumption) ?_; rotate_left; (focus ((intro w hSw; (try have hSw := HF.out _ hSw); (try dsimp only at hSw); go_simp); try exact rfl)); simp only [Act.put, List.setIfInBounds_toArray, List.set_cons_zero, List.set_cons_succ]; refine take_if (i := 15) (oi := _) (v := ?_) (by simp only [List.getElem?_toArray, List.getElem?_cons_succ, List.getElem?_cons_zero]; rfl) (by kernel_rfl) (by kernel_rfl) (by kernel_rfl) (fun _ _ _ h => h) (by rfl) ?_ (by assumption) ?_; rotate_left; (focus ((intro w hSw; (try have hSw := HF.out _ hSw); (try dsimp only at hSw); go_simp); try exact rfl)); simp only [Act.put, List.setIfInBounds_toArray, List.set_cons_zero, List.set_cons_succ]; refine take_if (i := 16) (oi := _) (v := ?_) (by simp only [List.getElem?_toArray, List.getElem?_cons_succ, List.getElem?_cons_zero]; rfl) (by kernel_rfl) (by kernel_rfl) (by kernel_rfl) (fun _ _ _ h => h) (by rfl) ?_ (by assumption) ?_; rotate_left; (focus ((intro w hSw; (try have hSw := HF.out _ hSw); (try dsimp only at hSw); go_simp); try exact rfl)); simp only [Act.put, List.setIfInBounds_toArray, List.set_cons_zero, List.set_cons_succ]; refine take_if (i := 17) (oi := _) (v := ?_) (by simp only [List.getElem?_toArray, List.getElem?_cons_succ, List.getElem?_cons_zero]; rfl) (by kernel_rfl) (by kernel_rfl) (by kernel_rfl) (fun _ _ _ h => h) (by rfl) ?_ (by assumption) ?_; rotate_left; (focus ((intro w hSw; (try have hSw := HF.out _ hSw); (try dsimp only at hSw); go_simp); try exact rfl)); simp only [Act.put, List.setIfInBounds_toArray, List.set_cons_zero, List.set_cons_succ]; refine take_if (i := 18) (oi := _) (v := ?_) (by simp only [List.getElem?_toArray, List.getElem?_cons_succ, List.getElem?_cons_zero]; rfl) (by kernel_rfl) (by kernel_rfl) (by kernel_rfl) (fun _ _ _ h => h) (by rfl) ?_ (by assumption) ?_; rotate_left; (focus ((intro w hSw; (try have hSw := HF.out _ hSw); (try dsimp only at hSw); go_simp); try exact rfl)); simp only [Act.put, List.setIfInBounds_toArray, List.set_cons_zero, List.set_cons_succ]; refine take_if (i := 19) (oi := _) (v := ?_) (by simp only [List.getElem?_toArray, List.getElem?_cons_succ, List.getElem?_cons_zero]; rfl) (by kernel_rfl) (by kernel_rfl) (by kernel_rfl) (fun _ _ _ h => h) (by rfl) ?_ (by assumption) ?_; rotate_left; (focus ((intro w hSw; (try have hSw := HF.out _ hSw); (try dsimp only at hSw); go_simp); try exact rfl)); simp only [Act.put, List.setIfInBounds_toArray, List.set_cons_zero, List.set_cons_succ]; refine take_if (i := 20) (oi := _) (v := ?_) (by simp only [List.getElem?_toArray, List.getElem?_cons_succ, List.getElem?_cons_zero]; rfl) (by kernel_rfl) (by kernel_rfl) (by kernel_rfl) (fun _ _ _ h => h) (by rfl) ?_ (by assumption) ?_; rotate_left; (focus ((intro w hSw; (try have hSw := HF.out _ hSw); (try dsimp only at hSw); go_simp); try exact rfl)); simp only [Act.put, List.setIfInBounds_toArray, List.set_cons_zero, List.set_cons_succ]; refine take_if (i := 21) (oi := _) (v := ?_) (by simp only [List.getElem?_toArray, List.getElem?_cons_succ, List.getElem?_cons_zero]; rfl) (by kernel_rfl) (by kernel_rfl) (by kernel_rfl) (fun _ _ _ h => h) (by rfl) ?_ (by assumption) ?_; rotate_left; (focus ((intro w hSw; (try have hSw := HF.out _ hSw); (try dsimp only at hSw); go_simp); try exact rfl)); simp only [Act.put, List.setIfInBounds_toArray, List.set_cons_zero, List.set_cons_succ]; refine take_if (i := 22) (oi := _) (v := ?_) (by simp only [List.getElem?_toArray, List.getElem?_cons_succ, List.getElem?_cons_zero]; rfl) (by kernel_rfl) (by kernel_rfl) (by kernel_rfl) (fun _ _ _ h => h) (by rfl) ?_ (by assumption) ?_; rotate_left; (focus ((intro w hSw; (try have hSw := HF.out _ hSw); (try dsimp only at hSw); go_simp); try exact rfl)); simp only [Act.put, List.setIfInBounds_toArray, List.set_cons_zero, List.set_cons_succ]; refine take_if (i := 23) (oi := _) (v := ?_) (by simp only [List.getElem?_toArray, List.getElem?_cons_succ, List.getElem?_cons_zero]; rfl) (by kernel_rfl) (by kernel_rfl) (by kernel_rfl) (fun _ _ _ h => h) (by rfl) ?_ (by assumption) ?_; rotate_left; (focus ((intro w hSw; (try have hSw := HF.out _ hSw); (try dsimp only at hSw); go_simp); try exact rfl)); simp only [Act.put, List.setIfInBounds_toArray, List.set_cons_zero, List.set_cons_succ]; refine take_if (i := 24) (oi := _) (v := ?_) (by simp only [List.getElem?_toArray, List.getElem?_cons_succ, List.getElem?_cons_zero]; rfl) (by kernel_rfl) (by kernel_rfl) (by kernel_rfl) (fun _ _ _ h => h) (by rfl) ?_ (by assumption) ?_; rotate_left; (focus ((intro w hSw; (try have hSw := HF.out _ hSw); (try dsimp only at hSw); go_simp); try exact rfl)); simp only [Act.put, List.setIfInBounds_toArray, List.set_cons_zero, List.set_cons_succ]; refine take_if (i := 25) (oi := _) (v := ?_) (by simp only [List.getElem?_toArray, List.getElem?_cons_succ, List.getElem?_cons_zero]; rfl) (by kernel_rfl) (by kernel_rfl) (by kernel_rfl) (fun _ _ _ h => h) (by rfl) ?_ (by assumption) ?_; rotate_left; (focus ((intro w hSw; (try have hSw := HF.out _ hSw); (try dsimp only at hSw); go_simp); try exact rfl)); simp only [Act.put, List.setIfInBounds_toArray, List.set_cons_zero, List.set_cons_succ]; refine take_if (i := 26) (oi := _) (v := ?_) (by simp only [List.getElem?_toArray, List.getElem?_cons_succ, List.getElem?_cons_zero]; rfl) (by kernel_rfl) (by kernel_rfl) (by kernel_rfl) (fun _ _ _ h => h) (by rfl) ?_ (by assumption) ?_; rotate_left; (focus ((intro w hSw; (try have hSw := HF.out _ hSw); (try dsimp only at hSw); go_simp); try exact rfl)); simp only [Act.put, List.setIfInBounds_toArray, List.set_cons_zero, List.set_cons_succ]; refine take_if (i := 27) (oi := _) (v := ?_) (by simp only [List.getElem?_toArray, List.getElem?_cons_succ, List.getElem?_cons_zero]; rfl) (by kernel_rfl) (by kernel_rfl) (by kernel_rfl) (fun _ _ _ h => h) (by rfl) ?_ (by assumption) ?_; rotate_left; (focus ((intro w hSw; (try have hSw := HF.out _ hSw); (try dsimp only at hSw); go_simp); try exact rfl)); simp only [Act.put, List.setIfInBounds_toArray, List.set_cons_zero, List.set_cons_succ]; refine take_if (i := 28) (oi := _) (v := ?_) (by simp only [List.getElem?_toArray, List.getElem?_cons_succ, List.getElem?_cons_zero]; rfl) (by kernel_rfl) (by kernel_rfl) (by kernel_rfl) (fun _ _ _ h => h) (by rfl) ?_ (by assumption) ?_; rotate_left; (focus ((intro w hSw; (try have hSw := HF.out _ hSw); (try dsimp only at hSw); go_simp); try exact rfl)); simp only [Act.put, List.setIfInBounds_toArray, List.set_cons_zero, List.set_cons_succ]; refine take_if (i := 29) (oi := _) (v := ?_) (by simp only [List.getElem?_toArray, List.getElem?_cons_succ, List.getElem?_cons_zero]; rfl) (by kernel_rfl) (by kernel_rfl) (by kernel_rfl) (fun _ _ _ h => h) (by rfl) ?_ (by assumption) ?_; rotate_left; (focus ((intro w hSw; (try have hSw := HF.out _ hSw); (try dsimp only at hSw); go_simp); try exact rfl)); simp only [Act.put, List.setIfInBounds_toArray, List.set_cons_zero, List.set_cons_succ])
        refine wpAnyH_done (by kernel_rfl) ?_ _
        go_wp2
        go_roundw
        case rel => exact ⟨k + 1, by omega, by go_num, hb4'⟩
        case measure => simp [intOf]; omega
    · obtain rfl : k = ms.length := by omega
      have ho1 : ofR ms f ((ms.length : Nat) : Int) = none := by unfold ofR; rw [if_neg (by omega)]
      have ha1 : atM ms ((ms.length : Nat) : Int) = [] := by unfold atM; rw [if_neg (by omega)]
      have ha2 : atM ms (-1) = [] := by unfold atM; rw [if_neg (by omega)]
      have hof := HOF.out wr ((ms.length : Nat) : Int) hbr
      rw [ho1] at hof
      have hat1 := fun W (hb : Below w0.heap.size w0 W) => HAT.out W ((ms.length : Nat) : Int) hb
      have hat2 := fun W (hb : Below w0.heap.size w0 W) => HAT.out W (-1) hb
      rw [ha1] at hat1
      rw [ha2] at hat2
      have HO := Lib.hid hof
      have HA1 := Lib.hid hat1
      have HA2 := Lib.hid hat2
      clear hof hat1 hat2 ho1 ha1 ha2
      go_wp2_with (first
        | (go_at_call 28; refine HO.out.mono ?_; rintro e w2 ⟨rfl, rfl⟩)
        | (go_at_call 30; ((with_reducible refine (HA1.out _ hb3').mono ?_); rintro e w4 ⟨A4, c4, rfl, _, hb4⟩))
        | (go_at_call 30; ((with_reducible refine (HA2.out _ hbr).mono ?_); rintro e w3 ⟨A3, c3, rfl, _, hb3⟩; have hb3' := hbr.trans (hb3.mono hbr.size); have d0 := (HF.out _ hb3').1; have d1 := (HF.out _ hb3').2)))
      go_ret
      exact ⟨rfl, hb0.trans ((hb3'.trans (hb4.mono hb3'.size)).mono (by omega))⟩
end Go.Proofs.Ytkkbmcpimglcpaa
