/- route: RouteTells -/
import Derived.Test.YtkkbmcpimglcpaaRtW
namespace Go.Proofs.Ytkkbmcpimglcpaa
open Go.RowKit

theorem rRun_code {ms : List (List Rg)} {f : IMap} {side : Int} (hml : ∀ m ∈ ms, rightM m = true) : ∀ (a i : Nat) (o : Pl), (rRun ms f side a i o).2 = 0 ∨ (rRun ms f side a i o).2 = 3 := by
  intro a
  induction a with
  | zero => intro i o; exact .inl rfl
  | succ a ih =>
    intro i o
    simp only [rRun]
    split
    · rename_i hi
      have hm : rightM (ms.getD i []) = true := by rw [List.getD_eq_getElem?_getD, List.getElem?_eq_getElem hi]; exact hml _ (List.getElem_mem hi)
      cases hs : rStep ms f side i o with
      | error e =>
        right
        unfold rStep at hs
        simp only at hs
        split at hs
        · rename_i h0
          injection hs with hs
          show e = 3
          rw [← hs]
          unfold tellS at h0 ⊢
          rw [if_pos hm] at h0 ⊢
          split
          · rename_i h1; rw [if_pos h1] at h0; simp at h0
          · rfl
        · split at hs <;> cases hs
      | ok q => exact ih q.1 q.2
    · exact .inl rfl
theorem rTell_code {ms : List (List Rg)} {f : IMap} (p side : Int) (hml : ∀ m ∈ ms, rightM m = true) : (rTell ms f p side).2 = 0 ∨ (rTell ms f p side).2 = 3 := rRun_code hml _ _ _

theorem MpsIn.to {w W : World} {A : Option Addr} {n : Nat} {L : List Mp} (h : MpsIn w w.heap.size A n L) (hb : Below w.heap.size w W) : MpsIn W W.heap.size A n L :=
  ⟨(h.1.below hb).more hb.size, fun x hx => ⟨((h.2.1 x hx).1.below hb).more hb.size, (h.2.1 x hx).2⟩, h.2.2⟩

section
variable (w : World)
set_option maxHeartbeats 400000 in
theorem ninvert : Calls Try.prog 33 #[.pointer none] w fun e W' => e = .returned (.pointer none) ∧ Below w.heap.size w W' := by
  go_enter Try.func33, Try.ntmps33
  go_wp2
  refine bodyPost_ret (v := .pointer none) (by simp [results, Try.results33, go_sem]) rfl ⟨rfl, by repeat (first | with_reducible exact Below.refl _ _ | with_reducible assumption | (with_reducible refine below_drewN ?_ _) | (with_reducible refine Below.drew ?_) | (with_reducible refine Below.alloc ?_ ?_ _; rotate_left; focus (first | with_reducible assumption | omega | (simp; done) | (simp; omega))) | (with_reducible refine Below.setCell ?_ ?_ _; rotate_left; focus (first | with_reducible assumption | omega | (simp; done) | (simp; omega))))⟩
end

set_option maxRecDepth 100000 in
set_option maxHeartbeats 4000000 in
theorem rtells_any (A : Option Addr) (n c : Nat) (L : List Mp) (p side : Int) (w : World) (h : MpsIn w w.heap.size A n L) :
    Calls Try.prog 7 #[.slice A n c, .int .i64 p, .int .i64 side] w fun e w' => e = .returned (.bool true) ∧ Below w.heap.size w w' := by
  have hfw := fun W (hb : Below w.heap.size w W) => calls_on hb (few_any A n c L W (h.to hb))
  have hlv := fun W (hb : Below w.heap.size w W) => calls_on hb (live24_any W)
  have hn1 := fun W (hb : Below w.heap.size w W) => calls_on hb (ntell W 0 0)
  have hn2 := fun W (hb : Below w.heap.size w W) => calls_on hb (nposition W)
  have hn3 := fun W (hb : Below w.heap.size w W) => calls_on hb (nfrom W)
  have hn4 := fun W (hb : Below w.heap.size w W) => calls_on hb (ninvert W)
  have HLV := Lib.hid hlv
  have HN1 := Lib.hid hn1
  have HN2 := Lib.hid hn2
  have HN3 := Lib.hid hn3
  have HN4 := Lib.hid hn4
  have H := Lib.hid h
  clear hlv hn1 hn2 hn3 hn4
  cases hf : fewB L with
  | false =>
    rw [hf] at hfw
    have HFW := Lib.hid hfw
    clear hfw h
    go_enter Try.func7, Try.ntmps7
    go_wp2_with (first
      | (go_at_call 28; (with_reducible refine (nof _).mono ?_); rintro e w1 ⟨rfl, rfl⟩)
      | (go_at_call 27; (with_reducible refine (HN1.out _ (Below.refl _ _)).mono ?_); rintro e w2 ⟨rfl, hb2, hz2, _⟩; have hb2a := hb2.alloc hz2 (.cells #[.int .i64 0, .bool false, .bool false, .int .i64 0, .int .i64 0] 25))
      | (go_at_call 25; (with_reducible refine (nadd _).mono ?_); rintro e w3 ⟨rfl, rfl⟩)
      | (go_at_call 26; (with_reducible refine (nmirror _).mono ?_); rintro e w3 ⟨rfl, rfl⟩)
      | (go_at_call 29; (with_reducible refine (nlen _).mono ?_); rintro e w3 ⟨rfl, rfl⟩)
      | (go_at_call 30; (with_reducible refine (nat_ _).mono ?_); rintro e w3 ⟨rfl, rfl⟩)
      | (go_at_call 31; (refine (HN2.out _ hb2a).mono ?_); rintro e w5 ⟨rfl, hb5, hz5, _⟩)
      | (go_at_call 32; (refine (HN3.out _ hb5).mono ?_); rintro e w6 ⟨rfl, hb6, hz6, _⟩)
      | (go_at_call 33; (refine (HN4.out _ hb6).mono ?_); rintro e w7 ⟨rfl, hb7, hz7, _⟩)
      | (go_at_call 23; (refine (HFW.out _ hb7).mono ?_); rintro e w8 ⟨rfl, hb8, hz8, _⟩)
      | (go_at_call 24; (refine (HLV.out _ hb8).mono ?_); rintro e w9 ⟨rfl, hb9, hz9, _⟩))
    go_ret
    exact ⟨rfl, hb9⟩
  | true =>
    have hl := h.len
    have hn : n ≤ 30 := by have := (fewB_spec hf).1; omega
    obtain ⟨hmok, hml, hms⟩ := fill_ok L
    have hfl := fun W (hb : Below w.heap.size w W) => fill_any A n c L W (h.to hb) hn
    obtain ⟨⟨ms, f⟩, hs⟩ : ∃ s, fillM L = s := ⟨_, rfl⟩
    rw [hs] at hmok hml hms
    simp only [hs] at hfl
    simp only at hmok hml hms hfl
    have hms2 : ms.length ≤ 30 := by omega
    have HML := Lib.hid hml
    have HFL := Lib.hid hfl
    obtain ⟨⟨⟨x1, x2, x3, x4, x5⟩, er⟩, hX⟩ : ∃ q, rTell ms f p side = q := ⟨_, rfl⟩
    have hcode := rTell_code (f := f) p side hml
    rw [hX] at hcode
    simp only at hcode
    have htl := fun R W base (hR : RouteIs W base R ms f) => rtell_route base R ms f p side W hR hmok.in_ (by omega)
    have hps := fun R W base (hR : RouteIs W base R ms f) => position_route base R ms f p side W hR hmok.in_ (by omega)
    have hdt := fun W Am Ao cm co (hx : RefIs W W.heap.size Am Ao ms.length ms (ofsOf f ms.length)) => dtell_route W ms f Am Ao cm co p side hx hmok (by omega) hml
    have hal := fun W base R Am Ao cm co (hR : RouteIs W base R ms f) (hx : RefIs W W.heap.size Am Ao ms.length ms (ofsOf f ms.length)) => alike_any W base R ms f Am Ao cm co hR hx hmok (by omega) hml
    unfold dTell at hdt
    simp only [hX, Pl.val] at htl hps hdt
    have HTL := Lib.hid htl
    have HPS := Lib.hid hps
    have HAL := Lib.hid hal
    rw [hf] at hfw
    have HFW := Lib.hid hfw
    clear hfw h hfl hml htl hps hal hX hs hl hf
    rcases hcode with rfl | rfl
    all_goals
      simp only [decide_true, show decide ((3 : Int) = 0) = false from rfl] at hdt
      have HDT := Lib.hid hdt
      clear hdt
      go_enter Try.func7, Try.ntmps7
      go_wp2_with (first
        | (go_at_call 28; (with_reducible refine (nof _).mono ?_); rintro e w1 ⟨rfl, rfl⟩)
        | (go_at_call 27; (with_reducible refine (HN1.out _ (Below.refl _ _)).mono ?_); rintro e w2 ⟨rfl, hb2, hz2, _⟩; have hb2a := hb2.alloc hz2 (.cells #[.int .i64 0, .bool false, .bool false, .int .i64 0, .int .i64 0] 25))
        | (go_at_call 25; (with_reducible refine (nadd _).mono ?_); rintro e w3 ⟨rfl, rfl⟩)
        | (go_at_call 26; (with_reducible refine (nmirror _).mono ?_); rintro e w3 ⟨rfl, rfl⟩)
        | (go_at_call 29; (with_reducible refine (nlen _).mono ?_); rintro e w3 ⟨rfl, rfl⟩)
        | (go_at_call 30; (with_reducible refine (nat_ _).mono ?_); rintro e w3 ⟨rfl, rfl⟩)
        | (go_at_call 31; (refine (HN2.out _ hb2a).mono ?_); rintro e w5 ⟨rfl, hb5, hz5, _⟩)
        | (go_at_call 32; (refine (HN3.out _ hb5).mono ?_); rintro e w6 ⟨rfl, hb6, hz6, _⟩)
        | (go_at_call 33; (refine (HN4.out _ hb6).mono ?_); rintro e w7 ⟨rfl, hb7, hz7, _⟩)
        | (go_at_call 23; (refine (HFW.out _ hb7).mono ?_); rintro e w8 ⟨rfl, hb8, hz8, _⟩)
        | (go_at_call 34; (refine (HFL.out _ hb8).mono ?_); rintro e wf ⟨R, vm, vo, rfl, hR, hO, hbf⟩; obtain ⟨Am, cm, Ao, co, rfl, rfl, hI, _⟩ := hO.is hbf.size (ofsOf_len _ _)))
      have hbw := hb8.trans (hbf.mono hz8)
      have hba := (Below.refl wf.heap.size wf).alloc (Nat.le_refl _) (.cells #[.slice Am ms.length cm, .slice Ao ms.length co] 66)
      have hRa := hR.ext hba
      have hIa := (hI.below hba).more hba.size
      have kb := Bk.new wf 66 #[.slice Am ms.length cm, .slice Ao ms.length co]
      have hbA := hbw.trans (hba.mono hbw.size)
      generalize wf.alloc (.cells #[.slice Am ms.length cm, .slice Ao ms.length co] 66) = wa at *
      clear hR hI hO hbf
      have c0 := kb.cell 0
      have c1 := kb.cell 1
      have kl := def_lt' kb
      dsimp at c0 c1
      have ht2 := fun W (hb : Below wa.heap.size wa W) => calls_on hb (HTL.out R W _ (hRa.ext hb))
      have hp2 := fun W (hb : Below wa.heap.size wa W) => calls_on hb (HPS.out R W _ (hRa.ext hb))
      have hd2 := fun W (hb : Below wa.heap.size wa W) => calls_on hb (HDT.out W Am Ao cm co ((hIa.below hb).more hb.size))
      have ha2 := calls_on (Below.refl _ _) (HAL.out wa _ R Am Ao cm co hRa hIa)
      have HT2 := Lib.hid ht2
      have HP2 := Lib.hid hp2
      have HD2 := Lib.hid hd2
      have HA2 := Lib.hid ha2
      clear ht2 hp2 hd2 ha2 HTL HPS HDT HAL HFL hRa hIa hmok
      go_wp2_with (first
        | (go_at_call 35; (refine HA2.out.mono ?_); rintro e wb ⟨rfl, hbb, hzb, _⟩)
        | (go_at_call 27; (refine (HT2.out _ hbb).mono ?_); rintro e wc ⟨rfl, hbc, hzc, _⟩; have hbc2 := hbc.alloc hzc (.cells #[.int .i64 x1, .bool x2, .bool x3, .int .i64 x4, .int .i64 x5] 25); have k15 := Bk.new wc 25 #[.int .i64 x1, .bool x2, .bool x3, .int .i64 x4, .int .i64 x5]; have kc := kb.ext hbc2; have d0 := kc.cell 0; have d1 := kc.cell 1; dsimp at d0 d1)
        | (go_at_call 36; (refine (HD2.out _ hbc2).mono ?_); rintro e wd ⟨rfl, hbd, hzd, hxd⟩))
      have hbd2 := hbd.alloc hzd (.cells #[.int .i64 x1, .bool x2, .bool x3, .int .i64 x4, .int .i64 x5] 30)
      have q15 := (k15.ext hxd).alloc (.cells #[.int .i64 x1, .bool x2, .bool x3, .int .i64 x4, .int .i64 x5] 30)
      have q17 := Bk.new wd 30 #[.int .i64 x1, .bool x2, .bool x3, .int .i64 x4, .int .i64 x5]
      have l15 := def_lt' q15
      have l17 := def_lt' q17
      generalize wd.alloc (.cells #[.int .i64 x1, .bool x2, .bool x3, .int .i64 x4, .int .i64 x5] 30) = we at *
      generalize wc.heap.size = b15 at *
      generalize wd.heap.size = b17 at *
      have hF : ∀ w', Below we.heap.size we w' → (w'.cell? ⟨b15, 0, none⟩ = some (.int .i64 x1) ∧ w'.cell? ⟨b15, 1, none⟩ = some (.bool x2) ∧ w'.cell? ⟨b15, 2, none⟩ = some (.bool x3) ∧ w'.cell? ⟨b15, 3, none⟩ = some (.int .i64 x4) ∧ w'.cell? ⟨b15, 4, none⟩ = some (.int .i64 x5)) ∧ w'.cell? ⟨b17, 0, none⟩ = some (.int .i64 x1) ∧ w'.cell? ⟨b17, 1, none⟩ = some (.bool x2) ∧ w'.cell? ⟨b17, 2, none⟩ = some (.bool x3) ∧ w'.cell? ⟨b17, 3, none⟩ = some (.int .i64 x4) ∧ w'.cell? ⟨b17, 4, none⟩ = some (.int .i64 x5) :=
        fun w' hb => ⟨⟨(q15.ext hb).cell 0, (q15.ext hb).cell 1, (q15.ext hb).cell 2, (q15.ext hb).cell 3, (q15.ext hb).cell 4⟩, (q17.ext hb).cell 0, (q17.ext hb).cell 1, (q17.ext hb).cell 2, (q17.ext hb).cell 3, (q17.ext hb).cell 4⟩
      have HF := Lib.hid hF
      have hlv := fun W (hb : Below we.heap.size we W) => calls_on hb (live24_any W)
      have HL2 := Lib.hid hlv
      have hpp := fun W (hb : Below we.heap.size we W) => HP2.out W (hbd2.trans (hb.mono hbd2.size))
      have HPP := Lib.hid hpp
      have hbE : Below w.heap.size w we := hbA.trans (hbd2.mono (by have := hbA.size; omega))
      clear hF hlv hpp
      refine wp_normal ?_
      refine wp_region_held_drew (S := fun w' => Below we.heap.size we w') (by kernel_rfl) (Below.refl _ _).drew (fun hHeld => ?_)
      (refine take_if (i := 0) (oi := _) (v := ?_) (by simp only [List.getElem?_toArray, List.getElem?_cons_zero]; rfl) (by kernel_rfl) (by kernel_rfl) (by kernel_rfl) (fun _ _ _ h => h) (by rfl) ?_ (by assumption) ?_; rotate_left; (focus ((intro w hSw; (try have hSw := HF.out _ hSw); (try dsimp only at hSw); go_simp); try exact rfl)); simp only [Act.put, List.setIfInBounds_toArray, List.set_cons_zero, List.set_cons_succ]; refine take_if (i := 1) (oi := _) (v := ?_) (by simp only [List.getElem?_toArray, List.getElem?_cons_succ, List.getElem?_cons_zero]; rfl) (by kernel_rfl) (by kernel_rfl) (by kernel_rfl) (fun _ _ _ h => h) (by rfl) ?_ (by assumption) ?_; rotate_left; (focus ((intro w hSw; (try have hSw := HF.out _ hSw); (try dsimp only at hSw); go_simp); try exact rfl)); simp only [Act.put, List.setIfInBounds_toArray, List.set_cons_zero, List.set_cons_succ]; refine take_if (i := 2) (oi := _) (v := ?_) (by simp only [List.getElem?_toArray, List.getElem?_cons_succ, List.getElem?_cons_zero]; rfl) (by kernel_rfl) (by kernel_rfl) (by kernel_rfl) (fun _ _ _ h => h) (by rfl) ?_ (by assumption) ?_; rotate_left; (focus ((intro w hSw; (try have hSw := HF.out _ hSw); (try dsimp only at hSw); go_simp); try exact rfl)); simp only [Act.put, List.setIfInBounds_toArray, List.set_cons_zero, List.set_cons_succ]; refine take_if (i := 3) (oi := _) (v := ?_) (by simp only [List.getElem?_toArray, List.getElem?_cons_succ, List.getElem?_cons_zero]; rfl) (by kernel_rfl) (by kernel_rfl) (by kernel_rfl) (fun _ _ _ h => h) (by rfl) ?_ (by assumption) ?_; rotate_left; (focus ((intro w hSw; (try have hSw := HF.out _ hSw); (try dsimp only at hSw); go_simp); try exact rfl)); simp only [Act.put, List.setIfInBounds_toArray, List.set_cons_zero, List.set_cons_succ]; refine take_if (i := 4) (oi := _) (v := ?_) (by simp only [List.getElem?_toArray, List.getElem?_cons_succ, List.getElem?_cons_zero]; rfl) (by kernel_rfl) (by kernel_rfl) (by kernel_rfl) (fun _ _ _ h => h) (by rfl) ?_ (by assumption) ?_; rotate_left; (focus ((intro w hSw; (try have hSw := HF.out _ hSw); (try dsimp only at hSw); go_simp); try exact rfl)); simp only [Act.put, List.setIfInBounds_toArray, List.set_cons_zero, List.set_cons_succ]; refine take_if (i := 5) (oi := _) (v := ?_) (by simp only [List.getElem?_toArray, List.getElem?_cons_succ, List.getElem?_cons_zero]; rfl) (by kernel_rfl) (by kernel_rfl) (by kernel_rfl) (fun _ _ _ h => h) (by rfl) ?_ (by assumption) ?_; rotate_left; (focus ((intro w hSw; (try have hSw := HF.out _ hSw); (try dsimp only at hSw); go_simp); try exact rfl)); simp only [Act.put, List.setIfInBounds_toArray, List.set_cons_zero, List.set_cons_succ]; refine take_if (i := 6) (oi := _) (v := ?_) (by simp only [List.getElem?_toArray, List.getElem?_cons_succ, List.getElem?_cons_zero]; rfl) (by kernel_rfl) (by kernel_rfl) (by kernel_rfl) (fun _ _ _ h => h) (by rfl) ?_ (by assumption) ?_; rotate_left; (focus ((intro w hSw; (try have hSw := HF.out _ hSw); (try dsimp only at hSw); go_simp); try exact rfl)); simp only [Act.put, List.setIfInBounds_toArray, List.set_cons_zero, List.set_cons_succ]; refine take_if (i := 7) (oi := _) (v := ?_) (by simp only [List.getElem?_toArray, List.getElem?_cons_succ, List.getElem?_cons_zero]; rfl) (by kernel_rfl) (by kernel_rfl) (by kernel_rfl) (fun _ _ _ h => h) (by rfl) ?_ (by assumption) ?_; rotate_left; (focus ((intro w hSw; (try have hSw := HF.out _ hSw); (try dsimp only at hSw); go_simp); try exact rfl)); simp only [Act.put, List.setIfInBounds_toArray, List.set_cons_zero, List.set_cons_succ]; refine take_if (i := 8) (oi := _) (v := ?_) (by simp only [List.getElem?_toArray, List.getElem?_cons_succ, List.getElem?_cons_zero]; rfl) (by kernel_rfl) (by kernel_rfl) (by kernel_rfl) (fun _ _ _ h => h) (by rfl) ?_ (by assumption) ?_; rotate_left; (focus ((intro w hSw; (try have hSw := HF.out _ hSw); (try dsimp only at hSw); go_simp); try exact rfl)); simp only [Act.put, List.setIfInBounds_toArray, List.set_cons_zero, List.set_cons_succ]; refine take_if (i := 9) (oi := _) (v := ?_) (by simp only [List.getElem?_toArray, List.getElem?_cons_succ, List.getElem?_cons_zero]; rfl) (by kernel_rfl) (by kernel_rfl) (by kernel_rfl) (fun _ _ _ h => h) (by rfl) ?_ (by assumption) ?_; rotate_left; (focus ((intro w hSw; (try have hSw := HF.out _ hSw); (try dsimp only at hSw); go_simp); try exact rfl)); simp only [Act.put, List.setIfInBounds_toArray, List.set_cons_zero, List.set_cons_succ]; refine take_if (i := 10) (oi := _) (v := ?_) (by simp only [List.getElem?_toArray, List.getElem?_cons_succ, List.getElem?_cons_zero]; rfl) (by kernel_rfl) (by kernel_rfl) (by kernel_rfl) (fun _ _ _ h => h) (by rfl) ?_ (by assumption) ?_; rotate_left; (focus ((intro w hSw; (try have hSw := HF.out _ hSw); (try dsimp only at hSw); go_simp); try exact rfl)); simp only [Act.put, List.setIfInBounds_toArray, List.set_cons_zero, List.set_cons_succ]; refine take_if (i := 11) (oi := _) (v := ?_) (by simp only [List.getElem?_toArray, List.getElem?_cons_succ, List.getElem?_cons_zero]; rfl) (by kernel_rfl) (by kernel_rfl) (by kernel_rfl) (fun _ _ _ h => h) (by rfl) ?_ (by assumption) ?_; rotate_left; (focus ((intro w hSw; (try have hSw := HF.out _ hSw); (try dsimp only at hSw); go_simp); try exact rfl)); simp only [Act.put, List.setIfInBounds_toArray, List.set_cons_zero, List.set_cons_succ]; refine take_if (i := 13) (oi := _) (v := ?_) (by simp only [List.getElem?_toArray, List.getElem?_cons_succ, List.getElem?_cons_zero]; rfl) (by kernel_rfl) (by kernel_rfl) (by kernel_rfl) (fun _ _ _ h => h) (by rfl) ?_ (by assumption) ?_; rotate_left; (focus ((intro w hSw; (try have hSw := HF.out _ hSw); (try dsimp only at hSw); go_simp); try exact rfl)); simp only [Act.put, List.setIfInBounds_toArray, List.set_cons_zero, List.set_cons_succ]; refine take_if (i := 14) (oi := _) (v := ?_) (by simp only [List.getElem?_toArray, List.getElem?_cons_succ, List.getElem?_cons_zero]; rfl) (by kernel_rfl) (by kernel_rfl) (by kernel_rfl) (fun _ _ _ h => h) (by rfl) ?_ (by assumption) ?_; rotate_left; (focus ((intro w hSw; (try have hSw := HF.out _ hSw); (try dsimp only at hSw); go_simp); try exact rfl)); simp only [Act.put, List.setIfInBounds_toArray, List.set_cons_zero, List.set_cons_succ])
      refine wpAnyH_ready (rs := [12]) (by kernel_rfl) (by simp) ?_; refine (AllReadyH.cons (o := _) (by simp only [List.getElem?_toArray, List.getElem?_cons_succ, List.getElem?_cons_zero]; rfl) (fun K hK => ?_) AllReadyH.nil)
      go_simp
      go_at_call 31
      refine (HPP.out _ (Below.refl _ _).drew).mono ?_
      rintro e wg ⟨rfl, hbg0, _, hbg⟩
      have hbg : Below we.heap.size we wg := Below.trans (Below.refl _ _).drew hbg
      refine hK.out _ _ hbg (fun hHeld => ?_)
      clear hK K; (try simp only [Act.put, List.setIfInBounds_toArray, List.set_cons_zero, List.set_cons_succ])
      (refine take_if (i := 15) (oi := _) (v := ?_) (by simp only [List.getElem?_toArray, List.getElem?_cons_succ, List.getElem?_cons_zero]; rfl) (by kernel_rfl) (by kernel_rfl) (by kernel_rfl) (fun _ _ _ h => h) (by rfl) ?_ (by assumption) ?_; rotate_left; (focus ((intro w hSw; (try have hSw := HF.out _ hSw); (try dsimp only at hSw); go_simp); try exact rfl)); simp only [Act.put, List.setIfInBounds_toArray, List.set_cons_zero, List.set_cons_succ]; refine take_if (i := 16) (oi := _) (v := ?_) (by simp only [List.getElem?_toArray, List.getElem?_cons_succ, List.getElem?_cons_zero]; rfl) (by kernel_rfl) (by kernel_rfl) (by kernel_rfl) (fun _ _ _ h => h) (by rfl) ?_ (by assumption) ?_; rotate_left; (focus ((intro w hSw; (try have hSw := HF.out _ hSw); (try dsimp only at hSw); go_simp); try exact rfl)); simp only [Act.put, List.setIfInBounds_toArray, List.set_cons_zero, List.set_cons_succ]; refine take_if (i := 17) (oi := _) (v := ?_) (by simp only [List.getElem?_toArray, List.getElem?_cons_succ, List.getElem?_cons_zero]; rfl) (by kernel_rfl) (by kernel_rfl) (by kernel_rfl) (fun _ _ _ h => h) (by rfl) ?_ (by assumption) ?_; rotate_left; (focus ((intro w hSw; (try have hSw := HF.out _ hSw); (try dsimp only at hSw); go_simp); try exact rfl)); simp only [Act.put, List.setIfInBounds_toArray, List.set_cons_zero, List.set_cons_succ])
      refine wpAnyH_ready (rs := [18]) (by kernel_rfl) (by simp) ?_; refine (AllReadyH.cons (o := _) (by simp only [List.getElem?_toArray, List.getElem?_cons_succ, List.getElem?_cons_zero]; rfl) (fun K hK => ?_) AllReadyH.nil)
      go_simp
      go_at_call 24
      refine (HL2.out _ hbg).mono ?_
      rintro e wh ⟨rfl, hbh, _, _⟩
      refine hK.out _ _ hbh (fun hHeld => ?_)
      clear hK K; (try simp only [Act.put, List.setIfInBounds_toArray, List.set_cons_zero, List.set_cons_succ])
      (refine take_if (i := 19) (oi := _) (v := ?_) (by simp only [List.getElem?_toArray, List.getElem?_cons_succ, List.getElem?_cons_zero]; rfl) (by kernel_rfl) (by kernel_rfl) (by kernel_rfl) (fun _ _ _ h => h) (by rfl) ?_ (by assumption) ?_; rotate_left; (focus ((intro w hSw; (try have hSw := HF.out _ hSw); (try dsimp only at hSw); go_simp); try exact rfl)); simp only [Act.put, List.setIfInBounds_toArray, List.set_cons_zero, List.set_cons_succ]; refine take_if (i := 20) (oi := _) (v := ?_) (by simp only [List.getElem?_toArray, List.getElem?_cons_succ, List.getElem?_cons_zero]; rfl) (by kernel_rfl) (by kernel_rfl) (by kernel_rfl) (fun _ _ _ h => h) (by rfl) ?_ (by assumption) ?_; rotate_left; (focus ((intro w hSw; (try have hSw := HF.out _ hSw); (try dsimp only at hSw); go_simp); try exact rfl)); simp only [Act.put, List.setIfInBounds_toArray, List.set_cons_zero, List.set_cons_succ])
      refine wpAnyH_done (by kernel_rfl) ?_ _
      go_wp2
      go_ret
      exact ⟨rfl, hbE.trans (hbh.mono (by have := hbE.size; omega))⟩
end Go.Proofs.Ytkkbmcpimglcpaa
