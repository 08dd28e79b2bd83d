/- merged texts: P StC StD StE StG C D -/
import Derived.Test.YtmacfoebfpljoaaGreatMf1
import Derived.Deep.RegionHeld3
import Derived.BigRegion
namespace Go.Proofs.YtmacfoebfpljoaaGreat
open Go.RowKit
section
variable {P : Program} {ops : Array Oper} {Q : Exit → Act → World → Prop} {md : Region.Mode} {l n : Nat}
/-- no operation defers -/
def noDefer (ops : Array Oper) : Bool := ops.all fun (o : Oper) => match o.op with | Op.defer _ => false | _ => true
theorem noDefer_spec (h : noDefer ops = true) : ∀ (i : Nat) (o : Oper), ops[i]? = some o → ∀ c, o.op ≠ .defer c := by
  intro i (o : Oper) hi c hc
  obtain ⟨hlt, rfl⟩ := Array.getElem?_eq_some_iff.1 hi
  have := Array.all_eq_true.1 h i hlt
  rw [hc] at this
  cases this
theorem wp_round {o : Oper} {a : Act} {w : World} {K : Act → World → Prop} (hd : ∀ c, o.op ≠ .defer c) (h : o.wp P a w K Q) : o.wpIn (Fence.wide.inRound l) n P a w K Q := by
  refine ⟨fun _ _ => trivial, ?_⟩
  have e : o.semAt (Fence.wide.inRound l).round a.eval = execOp a.eval o := Oper.semAt_plain _ _ _ hd
  rw [e]
  unfold Oper.wp at h
  generalize (execOp a.eval o).run P w = r at *
  have hdep : ∀ {p : Prop}, (Fence.wide.inRound l).depth.isSome = true → p := fun h => by simp [Fence.wide] at h
  cases r with
  | ok x w' =>
    cases x <;> simp only [Oper.upon] at h <;> simp only [Oper.uponIn]
    case value => exact h
    case skip => exact h
    case defer => exact h
    case enter f args => exact ⟨hdep, CallsIn.inRound l (callsIn_wide.2 h)⟩
    case row row args => exact ⟨hdep, fun c cs _ => let ⟨v, w'', r, s⟩ := h c cs; ⟨v, w'', r, stepsIn_wide.2 s⟩⟩
  | halt x w' => cases x <;> simp only [Oper.upon] at h <;> simp only [Oper.uponIn] <;> exact h
theorem wpAny_round (hno : ¬ LetsOut Q) (hd : noDefer ops = true) : ∀ (fuel : Nat) (listed : Array Bool) (a : Act) (w : World), wpAny P md ops Q fuel listed a w → wpAnyIn (Fence.wide.inRound l) n P md ops Q fuel listed a w := by
  intro fuel
  induction fuel with
  | zero => intro listed a w h; exact h
  | succ fuel ih =>
    intro listed a w h
    refine ⟨h.1, fun i hi => ?_⟩
    have h2 := h.2 i hi
    refine wpOpIn_mono (ih _) ?_
    unfold wpOp at h2
    unfold wpOpIn
    cases ho : ops[i]? with
    | none => simp only [ho] at h2 ⊢; exact h2
    | some o =>
      simp only [ho] at h2 ⊢
      by_cases hw : Region.wanted o (yielded ops a.tmps) = true
      · rw [if_pos hw] at h2 ⊢
        rcases h2 with h2 | ⟨_, h2⟩
        · exact wp_round (noDefer_spec hd i o ho) h2
        · exact absurd h2 hno
      · rw [if_neg hw] at h2 ⊢
        exact ⟨fun _ _ => trivial, h2⟩
variable {S : World → Prop}
/-- the beginning: S is shown of the world behind the draw -/
theorem region_round {id : Nat} {a : Act} {w : World} (hno : ¬ LetsOut Q) (hd : noDefer ops = true) (hm : P.follows .mixedOrders = true) (hS : S w.drew)
    (h : S w.drew → wpAnyH P .any ops Q S ops.size (Array.replicate ops.size false) a w.drew) : (Code.region id ops true).wpIn (Fence.wide.inRound l) n P Q a w :=
  wpIn_region_any hm (wpAny_round hno hd _ _ _ _ (wpAny_of_held _ _ _ _ (h hS)))
/-- operation i is taken first -/
theorem take_if {i : Nat} {oi : Oper} {v : Value} {fuel : Nat} {listed : Array Bool} {a : Act} {w : World} (hi : ops[i]? = some oi)
    (hs : Region.noSelect ops = true) (hf : Region.free md ops listed i = true) (hr : (Region.ready md ops listed).contains i = true)
    (hQ : ∀ c a w, Q (.panic c) (a.put oi.dst v) w → Q (.panic c) a w) (hw : Region.wanted oi (yielded ops a.tmps) = true) (hy : ∀ w, S w → (execOp a.eval oi).run P w = .ok (.value v) w) (hS : S w)
    (h : wpAnyH P md ops Q S fuel (listed.setIfInBounds i true) (a.put oi.dst v) w) : wpAnyH P md ops Q S (fuel + 1) listed a w :=
  wpAnyH_take hi hs hf hr hQ (.inl ⟨hw, hy⟩) hS h
/-- operation i is not wanted -/
theorem take_not {i : Nat} {oi : Oper} {fuel : Nat} {listed : Array Bool} {a : Act} {w : World} (hi : ops[i]? = some oi)
    (hs : Region.noSelect ops = true) (hf : Region.free md ops listed i = true) (hr : (Region.ready md ops listed).contains i = true)
    (hQ : ∀ c a w, Q (.panic c) (a.put oi.dst undef) w → Q (.panic c) a w) (hw : Region.wanted oi (yielded ops a.tmps) = false) (hS : S w)
    (h : wpAnyH P md ops Q S fuel (listed.setIfInBounds i true) (a.put oi.dst undef) w) : wpAnyH P md ops Q S (fuel + 1) listed a w :=
  wpAnyH_take hi hs hf hr hQ (.inr ⟨hw, rfl⟩) hS h
theorem tkH (i : Nat) {oi : Oper} {v : Value} {fuel : Nat} {listed : Array Bool} {a a' : Act} {w : World} (h : wpAnyH P md ops Q S fuel (listed.setIfInBounds i true) a' w) (hi : ops[i]? = some oi := by simp only [List.getElem?_toArray, List.getElem?_cons_succ, List.getElem?_cons_zero]; rfl)
    (hs : Region.noSelect ops = true := by kernel_rfl) (hf : Region.free md ops listed i = true := by kernel_rfl) (hr : (Region.ready md ops listed).contains i = true := by kernel_rfl)
    (hQ : ∀ c a w, Q (.panic c) (a.put oi.dst v) w → Q (.panic c) a w := by exact fun _ _ _ h => h) (hw : Region.wanted oi (yielded ops a.tmps) = true := by rfl)
    (hy : ∀ w, S w → (execOp a.eval oi).run P w = .ok (.value v) w := by (focus ((intro w hSw; (try have hSw := HF.out _ hSw); (try dsimp only at hSw); go_simp); try exact rfl)))
    (hS : S w := by assumption)
    (ha : a.put oi.dst v = a' := by (simp only [Act.put, List.setIfInBounds_toArray, List.set_cons_zero, List.set_cons_succ]; rfl)) : wpAnyH P md ops Q S (fuel + 1) listed a w := by
  subst ha
  exact take_if hi hs hf hr hQ hw hy hS h
theorem tnH (i : Nat) {oi : Oper} {fuel : Nat} {listed : Array Bool} {a a' : Act} {w : World} (h : wpAnyH P md ops Q S fuel (listed.setIfInBounds i true) a' w) (hi : ops[i]? = some oi := by simp only [List.getElem?_toArray, List.getElem?_cons_succ, List.getElem?_cons_zero]; rfl)
    (hs : Region.noSelect ops = true := by kernel_rfl) (hf : Region.free md ops listed i = true := by kernel_rfl) (hr : (Region.ready md ops listed).contains i = true := by kernel_rfl)
    (hQ : ∀ c a w, Q (.panic c) (a.put oi.dst undef) w → Q (.panic c) a w := by exact fun _ _ _ h => h) (hw : Region.wanted oi (yielded ops a.tmps) = false := by rfl)
    (hS : S w := by assumption)
    (ha : a.put oi.dst undef = a' := by (simp only [Act.put, List.setIfInBounds_toArray, List.set_cons_zero, List.set_cons_succ]; rfl)) : wpAnyH P md ops Q S (fuel + 1) listed a w := by
  subst ha
  exact take_not hi hs hf hr hQ hw hS h
theorem nxH (i : Nat) {o : Oper} {fuel : Nat} {listed : Array Bool} {a : Act} {w : World}
    (h : ∀ K : Act → World → Prop, Shut (∀ a w, S w → (S w → wpAnyH P md ops Q S fuel (listed.setIfInBounds i true) a w) → K a w) → if Region.wanted o (yielded ops a.tmps) = true then Oper.wp P o a w K Q else K (a.put o.dst undef) w)
    (hr : Region.ready md ops listed = [i] := by kernel_rfl) (ho : ops[i]? = some o := by simp only [List.getElem?_toArray, List.getElem?_cons_succ, List.getElem?_cons_zero]; rfl) : wpAnyH P md ops Q S (fuel + 1) listed a w :=
  wpAnyH_ready hr (by simp) (AllReadyH.cons ho h AllReadyH.nil)
end
section
variable {P : Program}
/-- append of one element, whose cells lie in a block that is known whole, onto an owned row: at a step of a region that draws -/
theorem app_at_step {ops : Array Oper} {o : Oper} {a : Act} {K : Act → World → Prop} {Q : Exit → Act → World → Prop} {E : Prop} {t e : TypeId} {z : Value} {size bytes : Nat}
    (ht : P.underlying t = some (.slice e)) (hinfo : (P.info? e).map (fun i => (i.zero, i.size, i.bytes)) = some (some z, size, bytes)) (hzs : z.cells.size = size) (hsz : 0 < size)
    {w : World} (base : Nat) (v : Value) (n : Nat) (xs : List Value) (hown : w.ownsRow base e size v n xs) (hn : n + 1 ≤ maxLen) (hby : (n + 1) * bytes ≤ 140737488355328) (hb : base ≤ w.heap.size)
    (B : Nat) (news : Array Value) (hB : Bk w B e news) (hl : news.size = size) (h1 : ∀ u ∈ news.toList, u.oneCell' = true)
    (hgd : o.guard = none) (s x : Operand) (ho : o.op = .call { callee := .builtin .append, args := #[s, x], argTypes := #[t, t] })
    (hs : a.eval s = v) (hx : a.eval x = .slice (some ⟨B, 0, none⟩) 1 1)
    (h : ∀ g cap w', w'.ownsRow base e size (.slice (some ⟨g, 0, none⟩) (n + 1) cap) (n + 1) (xs ++ news.toList) → w.grownBy w' v.ownBlock → (v.ownBlock = some g ∨ g = w.heap.size) → g < w'.heap.size →
      K (a.put o.dst (.slice (some ⟨g, 0, none⟩) (n + 1) cap)) w') :
    if Region.wanted o (yielded ops a.tmps) = true then Oper.wp P o a w K Q else E := by
  obtain ⟨i0, hi, hz0, hz1, hz2⟩ := info_parts hinfo
  refine step_append_lies _ hgd s x t ho base e i0 z size bytes ht hi hz0 hz1 hz2 hzs hsz v n xs hs hown ⟨B, 0, none⟩ 1 1 news.toList hx (by simp [hl]) ?_ h1 (by omega) hn hby hb _ rfl h
  intro j u hu
  rw [show (({ block := B, off := 0 } : Addr).add j) = ⟨B, j, none⟩ from by unfold Addr.add; split <;> simp_all]
  rw [cell_of_row _ _ _ _ _ _ hB]
  simpa using hu
end
theorem own_ne {W : World} {base : Nat} {e : TypeId} {size : Nat} {v : Value} {n : Nat} {xs : List Value} {b : Nat} {t : TypeId} {cs : Array Value} (h : W.ownsRow base e size v n xs) (hb : Bk W b t cs) (hne : e ≠ t) : v.ownBlock ≠ some b := by
  intro hv
  rcases h.2 with ⟨rfl, _⟩ | ⟨g, cap, cur, rfl, _, hh, _⟩
  · simp [Value.ownBlock] at hv
  · simp [Value.ownBlock] at hv
    subst hv
    have hb' : W.heap[g]? = some (.cells cs t (0, 0)) := hb
    rw [hh] at hb'
    injection hb' with hb'
    injection hb' with _ e2
    exact hne e2
theorem own_lt {W : World} {base : Nat} {e : TypeId} {size : Nat} {v : Value} {n : Nat} {xs : List Value} (h : W.ownsRow base e size v n xs) : ∀ j, v.ownBlock = some j → j < W.heap.size := by
  intro j hv
  rcases h.2 with ⟨rfl, _⟩ | ⟨g, cap, cur, rfl, _, hh, _⟩
  · simp [Value.ownBlock] at hv
  · simp [Value.ownBlock] at hv
    subst hv
    exact def_lt' hh
theorem own_cells {W : World} {base : Nat} {e : TypeId} {size : Nat} {v : Value} {n : Nat} {xs : List Value} (h : W.ownsRow base e size v n xs) : ∀ (j : Nat) (o : Obj), v.ownBlock = some j → W.heap[j]? = some o → o.isCells = true := by
  intro j o hv ho
  rcases h.2 with ⟨rfl, _⟩ | ⟨g, cap, cur, rfl, _, hh, _⟩
  · simp [Value.ownBlock] at hv
  · simp [Value.ownBlock] at hv
    subst hv
    rw [hh] at ho
    injection ho with ho
    subst ho
    rfl
theorem own_put {W : World} {base : Nat} {e : TypeId} {size : Nat} {v : Value} {n : Nat} {xs : List Value} {D : Nat} {o : Obj} (h : W.ownsRow base e size v n xs) (hD : W.heap[D]? = some o) (ho : o.isCells = false) (o' : Obj) : (W.putObj D o').ownsRow base e size v n xs :=
  own_kept (M := 0) h (grownBy_putObj' W D o') (fun r e => by cases e; exact ⟨Nat.zero_le _, o, hD, ho⟩)
/-- behind an append in a round -/
theorem mid_grown {W0 W2 W' : World} {row : Option Nat} (hg : W2.grownBy W' row) (hr : ∀ j, row = some j → j < W0.heap.size) : Mid W0.heap.size W2.heap.size W2 W' := fun k h1 h2 => hg.block k h2 (fun e => by have := hr k e.symm; omega)
theorem Bk.made {W : World} {b : Nat} (t : TypeId) (cs : Array Value) (h : W.heap.size = b) : Bk (W.alloc (.cells cs t)) b t cs := by subst h; exact Bk.new W t cs
def eight (k f t g h i m v k2 f2 t2 g2 h2 i2 m2 v2 : Int) : Bool := decide (k = k2 ∧ f = f2 ∧ t = t2 ∧ g = g2 ∧ h = h2 ∧ i = i2 ∧ m = m2 ∧ v = v2)
set_option maxRecDepth 100000 in
set_option maxHeartbeats 4000000 in
theorem ssame_any (k f t g h i m v k2 f2 t2 g2 h2 i2 m2 v2 : Int) (A A' A2 A2' : Option Addr) (n n' n2 n2' c c' c2 c2' : Nat) (tb sb : Bool) (w : World)
    (hT : ∀ W, Below w.heap.size w W → Calls Tryz.prog 53 #[.slice A n c, .slice A2 n2 c2] W (On w W (.bool tb)))
    (hS : ∀ W, Below w.heap.size w W → Calls Tryz.prog 143 #[.slice A' n' c', .slice A2' n2' c2'] W (On w W (.bool sb))) :
    Calls Tryz.prog 93 #[.agg #[.int .i64 k, .int .i64 f, .int .i64 t, .int .i64 g, .int .i64 h, .int .i64 i, .int .i64 m, .int .i64 v, .slice A n c, .slice A' n' c'], .agg #[.int .i64 k2, .int .i64 f2, .int .i64 t2, .int .i64 g2, .int .i64 h2, .int .i64 i2, .int .i64 m2, .int .i64 v2, .slice A2 n2 c2, .slice A2' n2' c2']] w fun e w' => e = .returned (.bool (eight k f t g h i m v k2 f2 t2 g2 h2 i2 m2 v2 && tb && sb)) ∧ Below w.heap.size w w' := by
  have HT := Lib.hid hT
  have HS := Lib.hid hS
  clear hT hS
  by_cases e0 : k = k2
  rotate_left
  · have he : eight k f t g h i m v k2 f2 t2 g2 h2 i2 m2 v2 = false := by
      unfold eight
      exact decide_eq_false (fun hh => e0 hh.1)
    rw [he, Bool.false_and, Bool.false_and]
    clear he HT HS
    go_enter Tryz.func93, Tryz.ntmps93
    go_wp2
    go_ret
    exact ⟨rfl, belowA⟩
  subst e0
  by_cases e1 : f = f2
  rotate_left
  · have he : eight k f t g h i m v k f2 t2 g2 h2 i2 m2 v2 = false := by
      unfold eight
      exact decide_eq_false (fun hh => e1 hh.2.1)
    rw [he, Bool.false_and, Bool.false_and]
    clear he HT HS
    go_enter Tryz.func93, Tryz.ntmps93
    go_wp2
    go_ret
    exact ⟨rfl, belowA⟩
  subst e1
  by_cases e2 : t = t2
  rotate_left
  · have he : eight k f t g h i m v k f t2 g2 h2 i2 m2 v2 = false := by
      unfold eight
      exact decide_eq_false (fun hh => e2 hh.2.2.1)
    rw [he, Bool.false_and, Bool.false_and]
    clear he HT HS
    go_enter Tryz.func93, Tryz.ntmps93
    go_wp2
    go_ret
    exact ⟨rfl, belowA⟩
  subst e2
  by_cases e3 : g = g2
  rotate_left
  · have he : eight k f t g h i m v k f t g2 h2 i2 m2 v2 = false := by
      unfold eight
      exact decide_eq_false (fun hh => e3 hh.2.2.2.1)
    rw [he, Bool.false_and, Bool.false_and]
    clear he HT HS
    go_enter Tryz.func93, Tryz.ntmps93
    go_wp2
    go_ret
    exact ⟨rfl, belowA⟩
  subst e3
  by_cases e4 : h = h2
  rotate_left
  · have he : eight k f t g h i m v k f t g h2 i2 m2 v2 = false := by
      unfold eight
      exact decide_eq_false (fun hh => e4 hh.2.2.2.2.1)
    rw [he, Bool.false_and, Bool.false_and]
    clear he HT HS
    go_enter Tryz.func93, Tryz.ntmps93
    go_wp2
    go_ret
    exact ⟨rfl, belowA⟩
  subst e4
  by_cases e5 : i = i2
  rotate_left
  · have he : eight k f t g h i m v k f t g h i2 m2 v2 = false := by
      unfold eight
      exact decide_eq_false (fun hh => e5 hh.2.2.2.2.2.1)
    rw [he, Bool.false_and, Bool.false_and]
    clear he HT HS
    go_enter Tryz.func93, Tryz.ntmps93
    go_wp2
    go_ret
    exact ⟨rfl, belowA⟩
  subst e5
  by_cases e6 : m = m2
  rotate_left
  · have he : eight k f t g h i m v k f t g h i m2 v2 = false := by
      unfold eight
      exact decide_eq_false (fun hh => e6 hh.2.2.2.2.2.2.1)
    rw [he, Bool.false_and, Bool.false_and]
    clear he HT HS
    go_enter Tryz.func93, Tryz.ntmps93
    go_wp2
    go_ret
    exact ⟨rfl, belowA⟩
  subst e6
  by_cases e7 : v = v2
  rotate_left
  · have he : eight k f t g h i m v k f t g h i m v2 = false := by
      unfold eight
      exact decide_eq_false (fun hh => e7 hh.2.2.2.2.2.2.2)
    rw [he, Bool.false_and, Bool.false_and]
    clear he HT HS
    go_enter Tryz.func93, Tryz.ntmps93
    go_wp2
    go_ret
    exact ⟨rfl, belowA⟩
  subst e7
  · have he : eight k f t g h i m v k f t g h i m v = true := by unfold eight; exact decide_eq_true ⟨rfl, rfl, rfl, rfl, rfl, rfl, rfl, rfl⟩
    rw [he, Bool.true_and]
    clear he
    cases tb with
    | false =>
      rw [Bool.false_and]
      clear HS
      go_enter Tryz.func93, Tryz.ntmps93
      go_wp2_with (go_at_call 53; (refine (HT.out _ belowA).mono ?_); rintro e w1 ⟨rfl, hb1, hz1, _⟩)
      go_ret
      exact ⟨rfl, hb1⟩
    | true =>
      rw [Bool.true_and]
      cases sb
      all_goals
        go_enter Tryz.func93, Tryz.ntmps93
        go_wp2_with (first
          | (go_at_call 53; (refine (HT.out _ belowA).mono ?_); rintro e w1 ⟨rfl, hb1, hz1, hx1⟩; have k2 := Bk.ext (b := w.heap.size) (t := 45) (cs := #[.int .i64 k, .int .i64 f, .int .i64 t, .int .i64 g, .int .i64 h, .int .i64 i, .int .i64 m, .int .i64 v, .slice A n c, .slice A' n' c']) ((Bk.new w _ _).alloc _) hx1; have k3 := Bk.ext (b := w.heap.size + 1) (t := 45) (cs := #[.int .i64 k, .int .i64 f, .int .i64 t, .int .i64 g, .int .i64 h, .int .i64 i, .int .i64 m, .int .i64 v, .slice A2 n2 c2, .slice A2' n2' c2']) (Bk.made _ _ (by simp)) hx1; have d2 := k2.cell 9; have d3 := k3.cell 9; have l2 := def_lt' k2; have l3 := def_lt' k3; dsimp at d2 d3)
          | (go_at_call 143; (refine (HS.out _ hb1).mono ?_); rintro e w2 ⟨rfl, hb2, hz2, _⟩))
        go_ret
        exact ⟨rfl, hb2⟩
theorem eqmk_nil (A' : Option Addr) (n' c' : Nat) (w : World) (hn : n' ≤ maxLen) : Calls Tryz.prog 143 #[.slice A' n' c', .slice none 0 0] w fun e w' => e = .returned (.bool (decide (n' = 0))) ∧ Below w.heap.size w w' := by
  have h := eqmk_any A' none n' 0 c' 0 (List.replicate n' default) [] w hn (fun e => by subst e; exact Rd.nil_ _ _ _ _) (fun _ => Rd.nil_ _ _ _ _) (by simp) rfl
  refine h.mono fun e w' ⟨h1, h2⟩ => ⟨?_, h2⟩
  rw [h1]
  refine ret_bool (decide_eq_decide.2 ?_)
  cases n' <;> simp [List.replicate_succ]
theorem tsame_nil (A : Option Addr) (n c : Nat) (w : World) (hn : n ≤ maxLen) : Calls Tryz.prog 53 #[.slice A n c, .slice none 0 0] w fun e w' => e = .returned (.bool (decide (n = 0))) ∧ Below w.heap.size w w' := by
  have h := tsame_any A none n 0 c 0 (List.replicate n default) [] w hn (fun e => by subst e; exact Rd.nil_ _ _ _ _) (fun _ => Rd.nil_ _ _ _ _) (by simp) rfl
  refine h.mono fun e w' ⟨h1, h2⟩ => ⟨?_, h2⟩
  rw [h1]
  refine ret_bool (decide_eq_decide.2 ?_)
  cases n <;> simp [List.replicate_succ]
theorem tsame_self (A : Option Addr) (n c : Nat) (sl : List Tok) (w : World) (hn : n ≤ maxLen) (h : Rd w w.heap.size 12 A n (toks sl)) : Calls Tryz.prog 53 #[.slice A n c, .slice A n c] w fun e w' => e = .returned (.bool true) ∧ Below w.heap.size w w' := by
  have hh := tsame_any A A n n c c sl sl w hn (fun _ => h) (fun _ => h) h.tlen h.tlen
  exact hh.mono fun e w' ⟨h1, h2⟩ => ⟨by rw [h1]; exact ret_bool (decide_eq_true rfl), h2⟩
theorem eqmk_self (A : Option Addr) (n c : Nat) (st : List Mk) (w : World) (hn : n ≤ maxLen) (h : Rd w w.heap.size 8 A n (mks st)) : Calls Tryz.prog 143 #[.slice A n c, .slice A n c] w fun e w' => e = .returned (.bool true) ∧ Below w.heap.size w w' := by
  have hh := eqmk_any A A n n c c st st w hn (fun _ => h) (fun _ => h) h.mlen h.mlen
  exact hh.mono fun e w' ⟨h1, h2⟩ => ⟨by rw [h1]; exact ret_bool (decide_eq_true rfl), h2⟩
def sh1 (g h i m v : Int) (n n' : Nat) : Bool := decide (g = 0 ∧ h = 0 ∧ i = 0 ∧ m = 0 ∧ v = 0 ∧ n' = 0 ∧ n ≤ 20000)
def sh2 (f t g h i m v : Int) (n n' : Nat) : Bool := decide (f ≤ g ∧ g ≤ h ∧ h ≤ t ∧ 0 ≤ i ∧ i ≤ n ∧ n ≤ 20000 ∧ m = 0 ∧ v = 0 ∧ n' = 0)
def sh3 (g h i : Int) (n n' : Nat) : Bool := decide (g = 0 ∧ h = 0 ∧ i = 0 ∧ n = 0 ∧ n' = 0)
def sh5 (f t g h i m v : Int) (n n' : Nat) : Bool := decide (g = 0 ∧ h = 0 ∧ i = 0 ∧ m = 0 ∧ v = 0 ∧ n = 0 ∧ (n' : Int) = t - f ∧ n' ≤ 20000)
set_option maxRecDepth 100000 in
set_option maxHeartbeats 2000000 in
theorem shape1_any (k f t g h i m v : Int) (A A' : Option Addr) (n n' c c' : Nat) (w : World) (sl : List Tok) (hn : n ≤ maxLen) (hn' : n' ≤ maxLen) (hrd : Rd w w.heap.size 12 A n (toks sl)) :
    Calls Tryz.prog 256 #[.agg #[.int .i64 k, .int .i64 f, .int .i64 t, .int .i64 g, .int .i64 h, .int .i64 i, .int .i64 m, .int .i64 v, .slice A n c, .slice A' n' c']] w fun e w' => e = .returned (.bool (sh1 g h i m v n n')) ∧ Below w.heap.size w w' := by
  have hs := fun W (hb : Below w.heap.size w W) => ssame_any k f t g h i m v k f t 0 0 0 0 0 A A' A none n n' n 0 c c' c 0 true (decide (n' = 0)) W
    (fun W' hb' => calls_on hb' (tsame_self A n c sl W' hn ((hrd.below (hb.trans (hb'.mono hb.size))).more (Nat.le_trans hb.size hb'.size)))) (fun W' hb' => calls_on hb' (eqmk_nil A' n' c' W' hn'))
  obtain ⟨b, hb⟩ : ∃ b, (eight k f t g h i m v k f t 0 0 0 0 0 && true && decide (n' = 0)) = b := ⟨_, rfl⟩
  rw [hb] at hs
  have hres : sh1 g h i m v n n' = (b && decide (n ≤ 20000)) := by
    rw [← hb]
    unfold sh1 eight
    rw [Bool.eq_iff_iff]
    simp
    omega
  rw [hres]
  have HS := Lib.hid hs
  unfold maxLen at hn
  clear hs hb hres hrd
  cases b
  all_goals
    go_enter Tryz.func256, Tryz.ntmps256
    go_wp2_with (go_at_call 93; (refine (HS.out _ belowA).mono ?_); rintro e w1 ⟨rfl, hb1⟩; have hb2 : Below w.heap.size w w1 := Below.trans belowA (hb1.mono (by simp)); have k1 := (Bk.new w 272 #[.int .i64 k, .int .i64 f, .int .i64 t, .int .i64 g, .int .i64 h, .int .i64 i, .int .i64 m, .int .i64 v, .slice A n c, .slice A' n' c']).ext hb1; have d8 := k1.cell 8; dsimp at d8)
    go_ret
    exact ⟨ret_bool (by rw [Bool.eq_iff_iff]; simp <;> omega), hb2⟩
set_option maxRecDepth 100000 in
set_option maxHeartbeats 2000000 in
theorem shape2_any (k f t g h i m v : Int) (A A' : Option Addr) (n n' c c' : Nat) (w : World) (hn : n ≤ maxLen) :
    Calls Tryz.prog 261 #[.agg #[.int .i64 k, .int .i64 f, .int .i64 t, .int .i64 g, .int .i64 h, .int .i64 i, .int .i64 m, .int .i64 v, .slice A n c, .slice A' n' c']] w fun e w' => e = .returned (.bool (sh2 f t g h i m v n n')) ∧ Below w.heap.size w w' := by
  unfold maxLen at hn
  go_enter Tryz.func261, Tryz.ntmps261
  go_wp2
  all_goals go_ret
  all_goals exact ⟨ret_bool (by rw [Bool.eq_iff_iff]; simp [sh2]; try omega), belowA⟩
set_option maxRecDepth 100000 in
set_option maxHeartbeats 2000000 in
theorem shape3_any (k f t g h i m v : Int) (A A' : Option Addr) (n n' c c' : Nat) (w : World) (hn : n ≤ maxLen) (hn' : n' ≤ maxLen) :
    Calls Tryz.prog 266 #[.agg #[.int .i64 k, .int .i64 f, .int .i64 t, .int .i64 g, .int .i64 h, .int .i64 i, .int .i64 m, .int .i64 v, .slice A n c, .slice A' n' c']] w fun e w' => e = .returned (.bool (sh3 g h i n n')) ∧ Below w.heap.size w w' := by
  have hs := fun W (hb : Below w.heap.size w W) => ssame_any k f t g h i m v k f t 0 0 0 m v A A' none none n n' 0 0 c c' 0 0 (decide (n = 0)) (decide (n' = 0)) W
    (fun W' hb' => calls_on hb' (tsame_nil A n c W' hn)) (fun W' hb' => calls_on hb' (eqmk_nil A' n' c' W' hn'))
  have hres : sh3 g h i n n' = (eight k f t g h i m v k f t 0 0 0 m v && decide (n = 0) && decide (n' = 0)) := by
    unfold sh3 eight
    rw [Bool.eq_iff_iff]
    simp
    omega
  rw [← hres] at hs
  have HS := Lib.hid hs
  clear hs hres
  generalize sh3 g h i n n' = b at *
  go_enter Tryz.func266, Tryz.ntmps266
  go_wp2_with (go_at_call 93; (refine (HS.out _ belowA).mono ?_); rintro e w1 ⟨rfl, hb1⟩; have hb2 : Below w.heap.size w w1 := Below.trans belowA (hb1.mono (by simp)))
  go_ret
  exact ⟨rfl, hb2⟩
set_option maxRecDepth 100000 in
set_option maxHeartbeats 2000000 in
theorem shape5_any (k f t g h i m v : Int) (A A' : Option Addr) (n n' c c' : Nat) (w : World) (st : List Mk) (hn : n ≤ maxLen) (hn' : n' ≤ maxLen) (hrd : Rd w w.heap.size 8 A' n' (mks st)) (hf : 0 ≤ f) (ht : t ≤ 1073741824) (hft : f ≤ t) :
    Calls Tryz.prog 271 #[.agg #[.int .i64 k, .int .i64 f, .int .i64 t, .int .i64 g, .int .i64 h, .int .i64 i, .int .i64 m, .int .i64 v, .slice A n c, .slice A' n' c']] w fun e w' => e = .returned (.bool (sh5 f t g h i m v n n')) ∧ Below w.heap.size w w' := by
  have hs := fun W (hb : Below w.heap.size w W) => ssame_any k f t g h i m v k f t 0 0 0 0 0 A A' none A' n n' 0 n' c c' 0 c' (decide (n = 0)) true W
    (fun W' hb' => calls_on hb' (tsame_nil A n c W' hn)) (fun W' hb' => calls_on hb' (eqmk_self A' n' c' st W' hn' ((hrd.below (hb.trans (hb'.mono hb.size))).more (Nat.le_trans hb.size hb'.size))))
  obtain ⟨b, hb⟩ : ∃ b, (eight k f t g h i m v k f t 0 0 0 0 0 && decide (n = 0) && true) = b := ⟨_, rfl⟩
  rw [hb] at hs
  have hres : sh5 f t g h i m v n n' = (b && decide ((n' : Int) = t - f) && decide (n' ≤ 20000)) := by
    rw [← hb]
    unfold sh5 eight
    rw [Bool.eq_iff_iff]
    simp
    omega
  rw [hres]
  have HS := Lib.hid hs
  unfold maxLen at hn'
  have e0 : IntKind.i64.wrap (t - f) = t - f := IntWalk.i64_in _ (by omega)
  clear hs hb hres hrd
  have hc : (((n' : Int) == t - f) = true ∧ decide ((n' : Int) = t - f) = true) ∨ (((n' : Int) == t - f) = false ∧ decide ((n' : Int) = t - f) = false) := by
    by_cases h1 : (n' : Int) = t - f
    · exact .inl ⟨by simpa using h1, decide_eq_true h1⟩
    · exact .inr ⟨by simpa using h1, decide_eq_false h1⟩
  rcases hc with ⟨g1, g3⟩ | ⟨g1, g3⟩
  all_goals
    rw [g3]
    clear g3
    cases b
    all_goals
      go_enter Tryz.func271, Tryz.ntmps271
      go_wp2_with (go_at_call 93; (refine (HS.out _ belowA).mono ?_); rintro e w1 ⟨rfl, hb1⟩; have hb2 : Below w.heap.size w w1 := Below.trans belowA (hb1.mono (by simp)); have k1 := (Bk.new w 275 #[.int .i64 k, .int .i64 f, .int .i64 t, .int .i64 g, .int .i64 h, .int .i64 i, .int .i64 m, .int .i64 v, .slice A n c, .slice A' n' c']).ext hb1; have d1 := k1.cell 1; have d2 := k1.cell 2; have d9 := k1.cell 9; dsimp at d1 d2 d9)
      go_ret
      exact ⟨ret_bool (by rw [Bool.eq_iff_iff]; simp <;> omega), hb2⟩
def boxes (f t : Int) : Bool := decide (0 ≤ f ∧ f ≤ t ∧ t ≤ 1073741824)
set_option maxRecDepth 100000 in
set_option maxHeartbeats 2000000 in
theorem of1 (f t g h i m v : Int) (A A' : Option Addr) (n n' c c' : Nat) (w : World) :
    Calls Tryz.prog 118 #[.agg #[.int .i64 1, .int .i64 f, .int .i64 t, .int .i64 g, .int .i64 h, .int .i64 i, .int .i64 m, .int .i64 v, .slice A n c, .slice A' n' c']] w fun e w' => e = .returned (.iface 272 (.agg #[.int .i64 1, .int .i64 f, .int .i64 t, .int .i64 g, .int .i64 h, .int .i64 i, .int .i64 m, .int .i64 v, .slice A n c, .slice A' n' c'])) ∧ Below w.heap.size w w' := by
  go_enter Tryz.func118, Tryz.ntmps118
  go_wp2
  go_ret
  exact ⟨rfl, belowA⟩
set_option maxRecDepth 100000 in
set_option maxHeartbeats 2000000 in
theorem of2 (f t g h i m v : Int) (A A' : Option Addr) (n n' c c' : Nat) (w : World) :
    Calls Tryz.prog 118 #[.agg #[.int .i64 2, .int .i64 f, .int .i64 t, .int .i64 g, .int .i64 h, .int .i64 i, .int .i64 m, .int .i64 v, .slice A n c, .slice A' n' c']] w fun e w' => e = .returned (.iface 273 (.agg #[.int .i64 2, .int .i64 f, .int .i64 t, .int .i64 g, .int .i64 h, .int .i64 i, .int .i64 m, .int .i64 v, .slice A n c, .slice A' n' c'])) ∧ Below w.heap.size w w' := by
  go_enter Tryz.func118, Tryz.ntmps118
  go_wp2
  go_ret
  exact ⟨rfl, belowA⟩
set_option maxRecDepth 100000 in
set_option maxHeartbeats 2000000 in
theorem of3 (k : Int) (hk : k = 3 ∨ k = 4) (f t g h i m v : Int) (A A' : Option Addr) (n n' c c' : Nat) (w : World) :
    Calls Tryz.prog 118 #[.agg #[.int .i64 k, .int .i64 f, .int .i64 t, .int .i64 g, .int .i64 h, .int .i64 i, .int .i64 m, .int .i64 v, .slice A n c, .slice A' n' c']] w fun e w' => e = .returned (.iface 274 (.agg #[.int .i64 k, .int .i64 f, .int .i64 t, .int .i64 g, .int .i64 h, .int .i64 i, .int .i64 m, .int .i64 v, .slice A n c, .slice A' n' c'])) ∧ Below w.heap.size w w' := by
  rcases hk with rfl | rfl
  all_goals
    go_enter Tryz.func118, Tryz.ntmps118
    go_wp2
    go_ret
    exact ⟨rfl, belowA⟩
set_option maxRecDepth 100000 in
set_option maxHeartbeats 2000000 in
theorem of5 (f t g h i m v : Int) (A A' : Option Addr) (n n' c c' : Nat) (w : World) :
    Calls Tryz.prog 118 #[.agg #[.int .i64 5, .int .i64 f, .int .i64 t, .int .i64 g, .int .i64 h, .int .i64 i, .int .i64 m, .int .i64 v, .slice A n c, .slice A' n' c']] w fun e w' => e = .returned (.iface 275 (.agg #[.int .i64 5, .int .i64 f, .int .i64 t, .int .i64 g, .int .i64 h, .int .i64 i, .int .i64 m, .int .i64 v, .slice A n c, .slice A' n' c'])) ∧ Below w.heap.size w w' := by
  go_enter Tryz.func118, Tryz.ntmps118
  go_wp2
  go_ret
  exact ⟨rfl, belowA⟩
set_option maxRecDepth 100000 in
set_option maxHeartbeats 2000000 in
theorem of0 (k : Int) (hk : k < 1 ∨ 5 < k) (f t g h i m v : Int) (A A' : Option Addr) (n n' c c' : Nat) (w : World) :
    Calls Tryz.prog 118 #[.agg #[.int .i64 k, .int .i64 f, .int .i64 t, .int .i64 g, .int .i64 h, .int .i64 i, .int .i64 m, .int .i64 v, .slice A n c, .slice A' n' c']] w fun e w' => e = .returned .nilIface ∧ Below w.heap.size w w' := by
  have e1 : (k == 1) = false := by simp; omega
  have e2 : (k == 2) = false := by simp; omega
  have e3 : (k == 3) = false := by simp; omega
  have e4 : (k == 4) = false := by simp; omega
  have e5 : (k == 5) = false := by simp; omega
  clear hk
  go_enter Tryz.func118, Tryz.ntmps118
  go_wp2
  go_ret
  exact ⟨rfl, belowA⟩
set_option maxRecDepth 100000 in
set_option maxHeartbeats 2000000 in
theorem shape_1 (f t g h i m v : Int) (A A' : Option Addr) (n n' c c' : Nat) (w : World) (sl : List Tok) (hn : n ≤ maxLen) (hn' : n' ≤ maxLen) (hrd : Rd w w.heap.size 12 A n (toks sl)) :
    Calls Tryz.prog 57 #[.agg #[.int .i64 1, .int .i64 f, .int .i64 t, .int .i64 g, .int .i64 h, .int .i64 i, .int .i64 m, .int .i64 v, .slice A n c, .slice A' n' c']] w fun e w' => e = .returned (.bool (boxes f t && sh1 g h i m v n n')) ∧ Below w.heap.size w w' := by
  have ho := fun W (hb : Below w.heap.size w W) => calls_on hb (of1 f t g h i m v A A' n n' c c' W)
  have hs := fun W (hb : Below w.heap.size w W) => calls_on hb (shape1_any 1 f t g h i m v A A' n n' c c' W sl hn hn' ((hrd.below hb).more hb.size))
  have HO := Lib.hid ho
  have HS := Lib.hid hs
  clear ho hs hrd
  have hm : ∀ w, (method 500 272 (.agg #[.int .i64 1, .int .i64 f, .int .i64 t, .int .i64 g, .int .i64 h, .int .i64 i, .int .i64 m, .int .i64 v, .slice A n c, .slice A' n' c']) "stet/step.shape").run Tryz.prog w = .ok (256, .agg #[.int .i64 1, .int .i64 f, .int .i64 t, .int .i64 g, .int .i64 h, .int .i64 i, .int .i64 m, .int .i64 v, .slice A n c, .slice A' n' c']) w := fun _ => by kernel_rfl
  go_enter Tryz.func57, Tryz.ntmps57
  go_wp2_with (first
    | (go_at_call 118; (refine (HO.out _ belowA).mono ?_); rintro e w1 ⟨rfl, hb1, hz1, hx1⟩; have k1 := (Bk.new w 45 #[.int .i64 1, .int .i64 f, .int .i64 t, .int .i64 g, .int .i64 h, .int .i64 i, .int .i64 m, .int .i64 v, .slice A n c, .slice A' n' c']).ext hx1; have d1 := k1.cell 1; have d2 := k1.cell 2; have l1 := def_lt' k1; dsimp at d1 d2)
    | (go_at_call 256; (refine (HS.out _ hb1).mono ?_); rintro e w2 ⟨rfl, hb2, hz2, hx2⟩))
  all_goals go_ret
  all_goals first
    | exact ⟨ret_bool (by rw [show boxes f t = true from decide_eq_true (by omega), Bool.true_and]), hb2⟩
    | exact ⟨ret_bool (by rw [show boxes f t = false from decide_eq_false (by omega), Bool.false_and]), hb1⟩
set_option maxRecDepth 100000 in
set_option maxHeartbeats 2000000 in
theorem shape_2 (f t g h i m v : Int) (A A' : Option Addr) (n n' c c' : Nat) (w : World) (hn : n ≤ maxLen) :
    Calls Tryz.prog 57 #[.agg #[.int .i64 2, .int .i64 f, .int .i64 t, .int .i64 g, .int .i64 h, .int .i64 i, .int .i64 m, .int .i64 v, .slice A n c, .slice A' n' c']] w fun e w' => e = .returned (.bool (boxes f t && sh2 f t g h i m v n n')) ∧ Below w.heap.size w w' := by
  have ho := fun W (hb : Below w.heap.size w W) => calls_on hb (of2 f t g h i m v A A' n n' c c' W)
  have hs := fun W (hb : Below w.heap.size w W) => calls_on hb (shape2_any 2 f t g h i m v A A' n n' c c' W hn)
  have HO := Lib.hid ho
  have HS := Lib.hid hs
  clear ho hs 
  have hm : ∀ w, (method 500 273 (.agg #[.int .i64 2, .int .i64 f, .int .i64 t, .int .i64 g, .int .i64 h, .int .i64 i, .int .i64 m, .int .i64 v, .slice A n c, .slice A' n' c']) "stet/step.shape").run Tryz.prog w = .ok (261, .agg #[.int .i64 2, .int .i64 f, .int .i64 t, .int .i64 g, .int .i64 h, .int .i64 i, .int .i64 m, .int .i64 v, .slice A n c, .slice A' n' c']) w := fun _ => by kernel_rfl
  go_enter Tryz.func57, Tryz.ntmps57
  go_wp2_with (first
    | (go_at_call 118; (refine (HO.out _ belowA).mono ?_); rintro e w1 ⟨rfl, hb1, hz1, hx1⟩; have k1 := (Bk.new w 45 #[.int .i64 2, .int .i64 f, .int .i64 t, .int .i64 g, .int .i64 h, .int .i64 i, .int .i64 m, .int .i64 v, .slice A n c, .slice A' n' c']).ext hx1; have d1 := k1.cell 1; have d2 := k1.cell 2; have l1 := def_lt' k1; dsimp at d1 d2)
    | (go_at_call 261; (refine (HS.out _ hb1).mono ?_); rintro e w2 ⟨rfl, hb2, hz2, hx2⟩))
  all_goals go_ret
  all_goals first
    | exact ⟨ret_bool (by rw [show boxes f t = true from decide_eq_true (by omega), Bool.true_and]), hb2⟩
    | exact ⟨ret_bool (by rw [show boxes f t = false from decide_eq_false (by omega), Bool.false_and]), hb1⟩
set_option maxRecDepth 100000 in
set_option maxHeartbeats 2000000 in
theorem shape_3 (k : Int) (hk : k = 3 ∨ k = 4) (f t g h i m v : Int) (A A' : Option Addr) (n n' c c' : Nat) (w : World) (hn : n ≤ maxLen) (hn' : n' ≤ maxLen) :
    Calls Tryz.prog 57 #[.agg #[.int .i64 k, .int .i64 f, .int .i64 t, .int .i64 g, .int .i64 h, .int .i64 i, .int .i64 m, .int .i64 v, .slice A n c, .slice A' n' c']] w fun e w' => e = .returned (.bool (boxes f t && sh3 g h i n n')) ∧ Below w.heap.size w w' := by
  have ho := fun W (hb : Below w.heap.size w W) => calls_on hb (of3 k hk f t g h i m v A A' n n' c c' W)
  have hs := fun W (hb : Below w.heap.size w W) => calls_on hb (shape3_any k f t g h i m v A A' n n' c c' W hn hn')
  have HO := Lib.hid ho
  have HS := Lib.hid hs
  clear ho hs 
  have hm : ∀ w, (method 500 274 (.agg #[.int .i64 k, .int .i64 f, .int .i64 t, .int .i64 g, .int .i64 h, .int .i64 i, .int .i64 m, .int .i64 v, .slice A n c, .slice A' n' c']) "stet/step.shape").run Tryz.prog w = .ok (266, .agg #[.int .i64 k, .int .i64 f, .int .i64 t, .int .i64 g, .int .i64 h, .int .i64 i, .int .i64 m, .int .i64 v, .slice A n c, .slice A' n' c']) w := fun _ => by kernel_rfl
  go_enter Tryz.func57, Tryz.ntmps57
  go_wp2_with (first
    | (go_at_call 118; (refine (HO.out _ belowA).mono ?_); rintro e w1 ⟨rfl, hb1, hz1, hx1⟩; have k1 := (Bk.new w 45 #[.int .i64 k, .int .i64 f, .int .i64 t, .int .i64 g, .int .i64 h, .int .i64 i, .int .i64 m, .int .i64 v, .slice A n c, .slice A' n' c']).ext hx1; have d1 := k1.cell 1; have d2 := k1.cell 2; have l1 := def_lt' k1; dsimp at d1 d2)
    | (go_at_call 266; (refine (HS.out _ hb1).mono ?_); rintro e w2 ⟨rfl, hb2, hz2, hx2⟩))
  all_goals go_ret
  all_goals first
    | exact ⟨ret_bool (by rw [show boxes f t = true from decide_eq_true (by omega), Bool.true_and]), hb2⟩
    | exact ⟨ret_bool (by rw [show boxes f t = false from decide_eq_false (by omega), Bool.false_and]), hb1⟩
set_option maxRecDepth 100000 in
set_option maxHeartbeats 2000000 in
theorem shape_5 (f t g h i m v : Int) (A A' : Option Addr) (n n' c c' : Nat) (w : World) (st : List Mk) (hn : n ≤ maxLen) (hn' : n' ≤ maxLen) (hrd : Rd w w.heap.size 8 A' n' (mks st)) :
    Calls Tryz.prog 57 #[.agg #[.int .i64 5, .int .i64 f, .int .i64 t, .int .i64 g, .int .i64 h, .int .i64 i, .int .i64 m, .int .i64 v, .slice A n c, .slice A' n' c']] w fun e w' => e = .returned (.bool (boxes f t && sh5 f t g h i m v n n')) ∧ Below w.heap.size w w' := by
  have ho := fun W (hb : Below w.heap.size w W) => calls_on hb (of5 f t g h i m v A A' n n' c c' W)
  have hs := fun W (hb : Below w.heap.size w W) (h0 : 0 ≤ f) (h1 : f ≤ t) (h2 : t ≤ 1073741824) => calls_on hb (shape5_any 5 f t g h i m v A A' n n' c c' W st hn hn' ((hrd.below hb).more hb.size) h0 h2 h1)
  have HO := Lib.hid ho
  have HS := Lib.hid hs
  clear ho hs hrd
  have hm : ∀ w, (method 500 275 (.agg #[.int .i64 5, .int .i64 f, .int .i64 t, .int .i64 g, .int .i64 h, .int .i64 i, .int .i64 m, .int .i64 v, .slice A n c, .slice A' n' c']) "stet/step.shape").run Tryz.prog w = .ok (271, .agg #[.int .i64 5, .int .i64 f, .int .i64 t, .int .i64 g, .int .i64 h, .int .i64 i, .int .i64 m, .int .i64 v, .slice A n c, .slice A' n' c']) w := fun _ => by kernel_rfl
  go_enter Tryz.func57, Tryz.ntmps57
  go_wp2_with (first
    | (go_at_call 118; (refine (HO.out _ belowA).mono ?_); rintro e w1 ⟨rfl, hb1, hz1, hx1⟩; have k1 := (Bk.new w 45 #[.int .i64 5, .int .i64 f, .int .i64 t, .int .i64 g, .int .i64 h, .int .i64 i, .int .i64 m, .int .i64 v, .slice A n c, .slice A' n' c']).ext hx1; have d1 := k1.cell 1; have d2 := k1.cell 2; have l1 := def_lt' k1; dsimp at d1 d2)
    | (go_at_call 271; (refine (HS.out _ hb1 (by assumption) (by assumption) (by assumption)).mono ?_); rintro e w2 ⟨rfl, hb2, hz2, hx2⟩))
  all_goals go_ret
  all_goals first
    | exact ⟨ret_bool (by rw [show boxes f t = true from decide_eq_true (by omega), Bool.true_and]), hb2⟩
    | exact ⟨ret_bool (by rw [show boxes f t = false from decide_eq_false (by omega), Bool.false_and]), hb1⟩
set_option maxRecDepth 100000 in
set_option maxHeartbeats 2000000 in
theorem shape_0 (k : Int) (hk : k < 1 ∨ 5 < k) (f t g h i m v : Int) (A A' : Option Addr) (n n' c c' : Nat) (w : World) :
    Calls Tryz.prog 57 #[.agg #[.int .i64 k, .int .i64 f, .int .i64 t, .int .i64 g, .int .i64 h, .int .i64 i, .int .i64 m, .int .i64 v, .slice A n c, .slice A' n' c']] w fun e w' => e = .returned (.bool false) ∧ Below w.heap.size w w' := by
  have ho := fun W (hb : Below w.heap.size w W) => calls_on hb (of0 k hk f t g h i m v A A' n n' c c' W)
  have HO := Lib.hid ho
  clear ho hk
  go_enter Tryz.func57, Tryz.ntmps57
  go_wp2_with (go_at_call 118; (refine (HO.out _ belowA).mono ?_); rintro e w1 ⟨rfl, hb1, hz1, hx1⟩)
  go_ret
  exact ⟨rfl, hb1⟩
/-- which steps' shapes are right -/
def shB (k f t g h i m v : Int) (n n' : Nat) : Bool :=
  boxes f t && (if k = 1 then sh1 g h i m v n n' else if k = 2 then sh2 f t g h i m v n n' else if k = 3 ∨ k = 4 then sh3 g h i n n' else if k = 5 then sh5 f t g h i m v n n' else false)
theorem shape_any (k f t g h i m v : Int) (A A' : Option Addr) (n n' c c' : Nat) (w : World) (sl : List Tok) (st : List Mk) (hn : n ≤ maxLen) (hn' : n' ≤ maxLen) (hrd : Rd w w.heap.size 12 A n (toks sl)) (hrd' : Rd w w.heap.size 8 A' n' (mks st)) :
    Calls Tryz.prog 57 #[.agg #[.int .i64 k, .int .i64 f, .int .i64 t, .int .i64 g, .int .i64 h, .int .i64 i, .int .i64 m, .int .i64 v, .slice A n c, .slice A' n' c']] w fun e w' => e = .returned (.bool (shB k f t g h i m v n n')) ∧ Below w.heap.size w w' := by
  unfold shB
  by_cases h1 : k = 1
  · subst h1; exact shape_1 f t g h i m v A A' n n' c c' w sl hn hn' hrd
  rw [if_neg h1]
  by_cases h2 : k = 2
  · subst h2; exact shape_2 f t g h i m v A A' n n' c c' w hn
  rw [if_neg h2]
  by_cases h3 : k = 3 ∨ k = 4
  · rw [if_pos h3]; exact shape_3 k h3 f t g h i m v A A' n n' c c' w hn hn'
  rw [if_neg h3]
  by_cases h5 : k = 5
  · subst h5; exact shape_5 f t g h i m v A A' n n' c c' w st hn hn' hrd'
  rw [if_neg h5, Bool.and_false]
  exact shape_0 k (by omega) f t g h i m v A A' n n' c c' w
theorem rd_new {W : World} {b : Nat} (t : TypeId) (cs : Array Value) (n s : Nat) (hb : W.heap.size = b) (h : cs.size = n * s) : Rd (W.alloc (.cells cs t)) (W.alloc (.cells cs t)).heap.size s (some ⟨b, 0, none⟩) n cs.toList := by
  subst hb
  refine ⟨by simpa using h, fun _ => ⟨W.heap.size, 0, rfl, by simp, fun j u hu => ?_⟩⟩
  rw [cell_of_row _ _ _ _ _ _ (heap_alloc_new W _)]
  simpa using hu
/-- the map of a step whose shape is right -/
def mapS (k f t g h i : Int) (n : Nat) : List Rg :=
  if k = 1 ∨ (k = 2 ∧ g = h) then [⟨f, t - f, n⟩] else if k = 2 then [⟨f, g - f, i⟩, ⟨h, t - h, n - i⟩] else []
/-- a map comes out -/
abbrev Maps (w : World) (l : List Rg) (e : Ending) (w' : World) : Prop := ∃ A2 c2, e = .returned (.slice A2 l.length c2) ∧ Rd w' w'.heap.size 3 A2 l.length (rgs l) ∧ (A2 = none → l.length = 0) ∧ Below w.heap.size w w'
theorem maps_nil (w w' : World) (hb : Below w.heap.size w w') : Maps w [] (.returned (.slice none 0 0)) w' := ⟨none, 0, rfl, Rd.nil_ _ _ _ _, fun _ => rfl, hb⟩
set_option maxRecDepth 100000 in
set_option maxHeartbeats 1000000 in
theorem ranges_1 (k : Int) (f t g h i m v : Int) (A A' : Option Addr) (n n' c c' : Nat) (w : World) (hb : 0 ≤ f ∧ f ≤ t ∧ t ≤ 1073741824) :
    Calls Tryz.prog 254 #[.agg #[.int .i64 k, .int .i64 f, .int .i64 t, .int .i64 g, .int .i64 h, .int .i64 i, .int .i64 m, .int .i64 v, .slice A n c, .slice A' n' c']] w (Maps w [⟨f, t - f, n⟩]) := by
  have e0 : IntKind.i64.wrap (t - f) = t - f := IntWalk.i64_in _ (by omega)
  clear hb
  go_enter Tryz.func254, Tryz.ntmps254
  go_wp2
  go_ret
  exact ⟨_, _, rfl, rd_new _ #[.int .i64 f, .int .i64 (t - f), .int .i64 (n : Int)] 1 3 (by simp) rfl, by simp, belowA⟩
set_option maxRecDepth 100000 in
set_option maxHeartbeats 1000000 in
theorem ranges_2 (f t g h i m v : Int) (A A' : Option Addr) (n n' c c' : Nat) (w : World) (hb : 0 ≤ f ∧ f ≤ t ∧ t ≤ 1073741824) (hg : f ≤ g ∧ g ≤ h ∧ h ≤ t ∧ 0 ≤ i ∧ i ≤ n) (hn : n ≤ 20000) :
    Calls Tryz.prog 259 #[.agg #[.int .i64 2, .int .i64 f, .int .i64 t, .int .i64 g, .int .i64 h, .int .i64 i, .int .i64 m, .int .i64 v, .slice A n c, .slice A' n' c']] w (Maps w (mapS 2 f t g h i n)) := by
  by_cases hgh : g = h
  · subst hgh
    have hr := fun W (hb' : Below w.heap.size w W) => ranges_1 2 f t g g i m v A A' n n' c c' W hb
    have HR := Lib.hid hr
    have e : mapS 2 f t g g i n = [⟨f, t - f, n⟩] := by unfold mapS; rw [if_pos (.inr ⟨rfl, rfl⟩)]
    rw [e]
    clear hr e hb hg
    go_enter Tryz.func259, Tryz.ntmps259
    go_wp2_with (go_at_call 254; (refine (HR.out _ belowA).mono ?_); rintro e w1 ⟨A2, c2, rfl, h1, h2, h3⟩)
    go_ret
    exact ⟨_, _, rfl, h1, h2, Below.trans belowA (h3.mono (by simp))⟩
  · have e : mapS 2 f t g h i n = [⟨f, g - f, i⟩, ⟨h, t - h, n - i⟩] := by unfold mapS; rw [if_neg (by omega), if_pos rfl]
    rw [e]
    have e1 : (g == h) = false := by simpa using hgh
    have e2 : IntKind.i64.wrap (g - f) = g - f := IntWalk.i64_in _ (by omega)
    have e3 : IntKind.i64.wrap (t - h) = t - h := IntWalk.i64_in _ (by omega)
    have e4 : IntKind.i64.wrap ((n : Int) - i) = n - i := IntWalk.i64_in _ (by omega)
    clear e hb hg hgh
    go_enter Tryz.func259, Tryz.ntmps259
    go_wp2
    go_ret
    exact ⟨_, _, rfl, rd_new _ #[.int .i64 f, .int .i64 (g - f), .int .i64 i, .int .i64 h, .int .i64 (t - h), .int .i64 ((n : Int) - i)] 2 3 (by simp) rfl, by simp, belowA⟩
theorem ranges_3 (k : Int) (f t g h i m v : Int) (A A' : Option Addr) (n n' c c' : Nat) (w : World) :
    Calls Tryz.prog 264 #[.agg #[.int .i64 k, .int .i64 f, .int .i64 t, .int .i64 g, .int .i64 h, .int .i64 i, .int .i64 m, .int .i64 v, .slice A n c, .slice A' n' c']] w (Maps w []) := by
  go_enter Tryz.func264, Tryz.ntmps264
  go_wp2
  go_ret
  exact maps_nil _ _ belowA
theorem ranges_5 (k : Int) (f t g h i m v : Int) (A A' : Option Addr) (n n' c c' : Nat) (w : World) :
    Calls Tryz.prog 269 #[.agg #[.int .i64 k, .int .i64 f, .int .i64 t, .int .i64 g, .int .i64 h, .int .i64 i, .int .i64 m, .int .i64 v, .slice A n c, .slice A' n' c']] w (Maps w []) := by
  go_enter Tryz.func269, Tryz.ntmps269
  go_wp2
  go_ret
  exact maps_nil _ _ belowA
/-- what Map tells -/
def mapB (k f t g h i m v : Int) (n n' : Nat) : List Rg := if shB k f t g h i m v n n' then mapS k f t g h i n else []
set_option maxRecDepth 100000 in
set_option maxHeartbeats 2000000 in
theorem map_any (k f t g h i m v : Int) (A A' : Option Addr) (n n' c c' : Nat) (w : World) (sl : List Tok) (st : List Mk) (hn : n ≤ maxLen) (hn' : n' ≤ maxLen) (hrd : Rd w w.heap.size 12 A n (toks sl)) (hrd' : Rd w w.heap.size 8 A' n' (mks st)) :
    Calls Tryz.prog 60 #[.agg #[.int .i64 k, .int .i64 f, .int .i64 t, .int .i64 g, .int .i64 h, .int .i64 i, .int .i64 m, .int .i64 v, .slice A n c, .slice A' n' c']] w (Maps w (mapB k f t g h i m v n n')) := by
  have hs := fun W (hb : Below w.heap.size w W) => calls_on hb (shape_any k f t g h i m v A A' n n' c c' W sl st hn hn' ((hrd.below hb).more hb.size) ((hrd'.below hb).more hb.size))
  unfold mapB
  cases hsh : shB k f t g h i m v n n' with
  | false =>
    rw [hsh] at hs
    have HS := Lib.hid hs
    clear hs hrd hrd' hsh
    simp only [Bool.false_eq_true, if_false]
    go_enter Tryz.func60, Tryz.ntmps60
    go_wp2_with (go_at_call 57; (refine (HS.out _ belowA).mono ?_); rintro e w1 ⟨rfl, hb1, hz1, hx1⟩)
    go_ret
    exact maps_nil _ _ hb1
  | true =>
    rw [hsh] at hs
    have HS := Lib.hid hs
    simp only [if_true]
    unfold shB at hsh
    rw [Bool.and_eq_true] at hsh
    obtain ⟨hbx, hsh⟩ := hsh
    have hbx : 0 ≤ f ∧ f ≤ t ∧ t ≤ 1073741824 := by simpa [boxes] using hbx
    clear hs hrd hrd'
    by_cases k1 : k = 1
    · subst k1
      have ho := fun W (hb : Below w.heap.size w W) => calls_on hb (of1 f t g h i m v A A' n n' c c' W)
      have hr := fun W => ranges_1 1 f t g h i m v A A' n n' c c' W hbx
      have e : mapS 1 f t g h i n = [⟨f, t - f, n⟩] := by unfold mapS; rw [if_pos (.inl rfl)]
      rw [e]
      have HO := Lib.hid ho
      have HR := Lib.hid hr
      have hm : ∀ w, (method 500 272 (.agg #[.int .i64 1, .int .i64 f, .int .i64 t, .int .i64 g, .int .i64 h, .int .i64 i, .int .i64 m, .int .i64 v, .slice A n c, .slice A' n' c']) "stet/step.ranges").run Tryz.prog w = .ok (254, .agg #[.int .i64 1, .int .i64 f, .int .i64 t, .int .i64 g, .int .i64 h, .int .i64 i, .int .i64 m, .int .i64 v, .slice A n c, .slice A' n' c']) w := fun _ => by kernel_rfl
      clear ho hr e hsh
      go_enter Tryz.func60, Tryz.ntmps60
      go_wp2_with (first
        | (go_at_call 57; (refine (HS.out _ belowA).mono ?_); rintro e w1 ⟨rfl, hb1, hz1, hx1⟩; have kb := (Bk.new w 45 #[.int .i64 1, .int .i64 f, .int .i64 t, .int .i64 g, .int .i64 h, .int .i64 i, .int .i64 m, .int .i64 v, .slice A n c, .slice A' n' c']).ext hx1; have lb := def_lt' kb; have d0 := kb.cell 0; have d1 := kb.cell 1; have d2 := kb.cell 2; have d3 := kb.cell 3; have d4 := kb.cell 4; have d5 := kb.cell 5; have d6 := kb.cell 6; have d7 := kb.cell 7; have d8 := kb.cell 8; have d9 := kb.cell 9; dsimp at d0 d1 d2 d3 d4 d5 d6 d7 d8 d9)
        | (go_at_call 118; (refine (HO.out _ hb1).mono ?_); rintro e w2 ⟨rfl, hb2, hz2, hx2⟩)
        | (go_at_call 254; (refine (HR.out _).mono ?_); rintro e w3 ⟨A2, c2, rfl, h1, h2, h3⟩))
      go_ret
      exact ⟨_, _, rfl, h1, h2, hb2.trans (h3.mono hz2)⟩
    by_cases k2 : k = 2
    · subst k2
      rw [if_neg (by omega), if_pos rfl] at hsh
      have hsh2 : f ≤ g ∧ g ≤ h ∧ h ≤ t ∧ 0 ≤ i ∧ i ≤ n ∧ n ≤ 20000 ∧ m = 0 ∧ v = 0 ∧ n' = 0 := by simpa [sh2] using hsh
      have ho := fun W (hb : Below w.heap.size w W) => calls_on hb (of2 f t g h i m v A A' n n' c c' W)
      have hr := fun W => ranges_2 f t g h i m v A A' n n' c c' W hbx ⟨hsh2.1, hsh2.2.1, hsh2.2.2.1, hsh2.2.2.2.1, hsh2.2.2.2.2.1⟩ hsh2.2.2.2.2.2.1
      have HO := Lib.hid ho
      have HR := Lib.hid hr
      have hm : ∀ w, (method 500 273 (.agg #[.int .i64 2, .int .i64 f, .int .i64 t, .int .i64 g, .int .i64 h, .int .i64 i, .int .i64 m, .int .i64 v, .slice A n c, .slice A' n' c']) "stet/step.ranges").run Tryz.prog w = .ok (259, .agg #[.int .i64 2, .int .i64 f, .int .i64 t, .int .i64 g, .int .i64 h, .int .i64 i, .int .i64 m, .int .i64 v, .slice A n c, .slice A' n' c']) w := fun _ => by kernel_rfl
      clear ho hr hsh hsh2 k1
      go_enter Tryz.func60, Tryz.ntmps60
      go_wp2_with (first
        | (go_at_call 57; (refine (HS.out _ belowA).mono ?_); rintro e w1 ⟨rfl, hb1, hz1, hx1⟩; have kb := (Bk.new w 45 #[.int .i64 2, .int .i64 f, .int .i64 t, .int .i64 g, .int .i64 h, .int .i64 i, .int .i64 m, .int .i64 v, .slice A n c, .slice A' n' c']).ext hx1; have lb := def_lt' kb; have d0 := kb.cell 0; have d1 := kb.cell 1; have d2 := kb.cell 2; have d3 := kb.cell 3; have d4 := kb.cell 4; have d5 := kb.cell 5; have d6 := kb.cell 6; have d7 := kb.cell 7; have d8 := kb.cell 8; have d9 := kb.cell 9; dsimp at d0 d1 d2 d3 d4 d5 d6 d7 d8 d9)
        | (go_at_call 118; (refine (HO.out _ hb1).mono ?_); rintro e w2 ⟨rfl, hb2, hz2, hx2⟩)
        | (go_at_call 259; (refine (HR.out _).mono ?_); rintro e w3 ⟨A2, c2, rfl, h1, h2, h3⟩))
      go_ret
      exact ⟨_, _, rfl, h1, h2, hb2.trans (h3.mono hz2)⟩
    have e : mapS k f t g h i n = [] := by unfold mapS; rw [if_neg (by omega), if_neg k2]
    rw [e]
    rw [if_neg k1, if_neg k2] at hsh
    by_cases k3 : k = 3 ∨ k = 4
    · have ho := fun W (hb : Below w.heap.size w W) => calls_on hb (of3 k k3 f t g h i m v A A' n n' c c' W)
      have hr := fun W => ranges_3 k f t g h i m v A A' n n' c c' W
      have HO := Lib.hid ho
      have HR := Lib.hid hr
      have hm : ∀ w, (method 500 274 (.agg #[.int .i64 k, .int .i64 f, .int .i64 t, .int .i64 g, .int .i64 h, .int .i64 i, .int .i64 m, .int .i64 v, .slice A n c, .slice A' n' c']) "stet/step.ranges").run Tryz.prog w = .ok (264, .agg #[.int .i64 k, .int .i64 f, .int .i64 t, .int .i64 g, .int .i64 h, .int .i64 i, .int .i64 m, .int .i64 v, .slice A n c, .slice A' n' c']) w := fun _ => by kernel_rfl
      clear ho hr hsh k1 k2 k3 e
      go_enter Tryz.func60, Tryz.ntmps60
      go_wp2_with (first
        | (go_at_call 57; (refine (HS.out _ belowA).mono ?_); rintro e w1 ⟨rfl, hb1, hz1, hx1⟩; have kb := (Bk.new w 45 #[.int .i64 k, .int .i64 f, .int .i64 t, .int .i64 g, .int .i64 h, .int .i64 i, .int .i64 m, .int .i64 v, .slice A n c, .slice A' n' c']).ext hx1; have lb := def_lt' kb; have d0 := kb.cell 0; have d1 := kb.cell 1; have d2 := kb.cell 2; have d3 := kb.cell 3; have d4 := kb.cell 4; have d5 := kb.cell 5; have d6 := kb.cell 6; have d7 := kb.cell 7; have d8 := kb.cell 8; have d9 := kb.cell 9; dsimp at d0 d1 d2 d3 d4 d5 d6 d7 d8 d9)
        | (go_at_call 118; (refine (HO.out _ hb1).mono ?_); rintro e w2 ⟨rfl, hb2, hz2, hx2⟩)
        | (go_at_call 264; (refine (HR.out _).mono ?_); rintro e w3 ⟨A2, c2, rfl, h1, h2, h3⟩))
      go_ret
      exact ⟨_, _, rfl, h1, h2, hb2.trans (h3.mono hz2)⟩
    rw [if_neg k3] at hsh
    have k5 : k = 5 := by
      by_cases k5 : k = 5
      · exact k5
      · rw [if_neg k5] at hsh; cases hsh
    subst k5
    have ho := fun W (hb : Below w.heap.size w W) => calls_on hb (of5 f t g h i m v A A' n n' c c' W)
    have hr := fun W => ranges_5 5 f t g h i m v A A' n n' c c' W
    have HO := Lib.hid ho
    have HR := Lib.hid hr
    have hm : ∀ w, (method 500 275 (.agg #[.int .i64 5, .int .i64 f, .int .i64 t, .int .i64 g, .int .i64 h, .int .i64 i, .int .i64 m, .int .i64 v, .slice A n c, .slice A' n' c']) "stet/step.ranges").run Tryz.prog w = .ok (269, .agg #[.int .i64 5, .int .i64 f, .int .i64 t, .int .i64 g, .int .i64 h, .int .i64 i, .int .i64 m, .int .i64 v, .slice A n c, .slice A' n' c']) w := fun _ => by kernel_rfl
    clear ho hr hsh k1 k2 k3 e
    go_enter Tryz.func60, Tryz.ntmps60
    go_wp2_with (first
      | (go_at_call 57; (refine (HS.out _ belowA).mono ?_); rintro e w1 ⟨rfl, hb1, hz1, hx1⟩; have kb := (Bk.new w 45 #[.int .i64 5, .int .i64 f, .int .i64 t, .int .i64 g, .int .i64 h, .int .i64 i, .int .i64 m, .int .i64 v, .slice A n c, .slice A' n' c']).ext hx1; have lb := def_lt' kb; have d0 := kb.cell 0; have d1 := kb.cell 1; have d2 := kb.cell 2; have d3 := kb.cell 3; have d4 := kb.cell 4; have d5 := kb.cell 5; have d6 := kb.cell 6; have d7 := kb.cell 7; have d8 := kb.cell 8; have d9 := kb.cell 9; dsimp at d0 d1 d2 d3 d4 d5 d6 d7 d8 d9)
      | (go_at_call 118; (refine (HO.out _ hb1).mono ?_); rintro e w2 ⟨rfl, hb2, hz2, hx2⟩)
      | (go_at_call 269; (refine (HR.out _).mono ?_); rintro e w3 ⟨A2, c2, rfl, h1, h2, h3⟩))
    go_ret
    exact ⟨_, _, rfl, h1, h2, hb2.trans (h3.mono hz2)⟩
structure Pl where
  pos : Int
  gone : Bool
  inside : Bool
  range : Int
  off : Int
deriving DecidableEq
def Pl.val (p : Pl) : Value := .agg #[.int .i64 p.pos, .bool p.gone, .bool p.inside, .int .i64 p.range, .int .i64 p.off]
def Pl.zero : Pl := ⟨0, false, false, 0, 0⟩
def Rg.val (r : Rg) : Value := .agg #[.int .i64 r.at_, .int .i64 r.old, .int .i64 r.new]
def rightB (r : Rg) (p side : Int) : Bool := if 0 < r.old ∧ (p = r.at_ ∨ p = r.at_ + r.old) then decide (p = r.at_ + r.old) else decide (0 ≤ side)
def goneB (r : Rg) (p side : Int) : Bool := if side < 0 then decide (r.at_ < p) else decide (p < r.at_ + r.old)
def withinS (r : Rg) (i shift p side : Int) : Pl :=
  { pos := r.at_ + shift + (if rightB r p side then r.new else 0), gone := goneB r p side, inside := decide (r.at_ < p ∧ p < r.at_ + r.old),
    range := if goneB r p side then i else 0, off := if goneB r p side then p - r.at_ else 0 }
set_option maxHeartbeats 2000000 in
theorem within_any (r : Rg) (i shift p side : Int) (w : World) (hf : r.Fits) (h1 : r.at_ ≤ p) (h2 : p ≤ r.at_ + r.old) (hs : -2000000000000 ≤ shift ∧ shift ≤ 2000000000000) :
    Calls Tryz.prog 227 #[r.val, .int .i64 i, .int .i64 shift, .int .i64 p, .int .i64 side] w fun e w' => e = .returned (withinS r i shift p side).val ∧ Below w.heap.size w w' := by
  obtain ⟨a, o, n⟩ := r
  obtain ⟨f1, f2, f3, f4, f5, f6⟩ := hf
  simp only at f1 f2 f3 f4 f5 f6 h1 h2
  simp only [Rg.val]
  have hc : (o = 0 ∧ p = a ∧ (p == a) = true ∧ (p == a + o) = true) ∨ (0 < o ∧ p = a ∧ (p == a) = true ∧ (p == a + o) = false) ∨ (0 < o ∧ p = a + o ∧ (p == a) = false ∧ (p == a + o) = true) ∨ (0 < o ∧ a < p ∧ p < a + o ∧ (p == a) = false ∧ (p == a + o) = false) := by
    simp only [beq_iff_eq, beq_eq_false_iff_ne]; omega
  have hd : side < 0 ∨ 0 ≤ side := by omega
  have hv : ∀ x y z u v, Pl.mk x y z u v = withinS ⟨a, o, n⟩ i shift p side → Value.agg #[.int .i64 x, .bool y, .bool z, .int .i64 u, .int .i64 v] = (withinS ⟨a, o, n⟩ i shift p side).val := fun x y z u v h => by rw [← h]; rfl
  have HV := Lib.hid hv
  clear hv
  rcases hc with ⟨c1, c2, t1, t2⟩ | ⟨c1, c2, t1, t2⟩ | ⟨c1, c2, t1, t2⟩ | ⟨c1, c2, c3, t1, t2⟩ <;> rcases hd with hd | hd
  all_goals
    have C2 := Lib.hid c2
    have C1 := Lib.hid c1
    first | (have c0 : o ≤ 0 := by omega) | (have c0 : 0 < o := by omega)
    clear c1
  all_goals first
    | (have hx : p ≤ a := by omega
       clear c2
       go_enter Tryz.func227, Tryz.ntmps227
       go_wp2)
    | (have hx : a < p := by omega
       have hy : p < a + o := by omega
       clear c2
       go_enter Tryz.func227, Tryz.ntmps227
       go_wp2)
    | (have hx : a < p := by omega
       have hy : a + o ≤ p := by omega
       clear c2
       go_enter Tryz.func227, Tryz.ntmps227
       go_wp2)
  all_goals try (go_region; all_goals go_wp2)
  all_goals
    refine bodyPost_ret (v := (withinS ⟨a, o, n⟩ i shift p side).val) ?_ rfl ⟨rfl, ?_⟩
    · simp [results, Tryz.results227, go_sem]
      refine HV.out _ _ _ _ _ ?_
      have d1 := C1.out; have d2 := C2.out
      unfold withinS rightB goneB
      simp only [Pl.mk.injEq]
      refine ⟨?_, ?_, ?_, ?_, ?_⟩
      all_goals repeat' split
      all_goals first | rfl | omega | (simp; omega) | (simp at *; omega)
    · repeat (first | exact Below.refl _ _ | refine Below.drew ?_ | refine Below.alloc ?_ (by simp; try omega) _)
attribute [local go_sem] Oper.semAt_some
set_option maxHeartbeats 400000 in
theorem ranges_any (A : Option Addr) (n c : Nat) (w : World) :
    Calls Tryz.prog 226 #[.slice A n c] w fun e w' => e = .returned (.func (.func 232) #[] #[.pointer (some ⟨w.heap.size, 0, none⟩)]) ∧ w.alloc (.cells #[.slice A n c] 94) = w' := by
  go_enter Tryz.func226, Tryz.ntmps226
  go_wp2
  go_ret
  exact ⟨rfl, rfl⟩
/-- what ranges tells: the number of each range, and the shift there -/
def told (l : List Rg) (k : Nat) : Nat × Int := (k, shiftL (l.take k))
def upto (l : List Rg) (k : Nat) : List (Nat × Int) := (List.range k).map (told l)
theorem upto_succ (l : List Rg) (k : Nat) : upto l (k + 1) = upto l k ++ [told l k] := by simp [upto, List.range_succ]
theorem upto_length (l : List Rg) (k : Nat) : (upto l k).length = k := by simp [upto]
abbrev encR (x : Nat × Int) : Array Value := #[.int .i64 (x.1 : Int), .int .i64 x.2]
theorem upto_take (l : List Rg) {k n : Nat} (h : k ≤ n) : upto l k <+: upto l n := by
  obtain ⟨d, rfl⟩ : ∃ d, n = k + d := ⟨n - k, by omega⟩
  refine ⟨((List.range d).map (fun i => k + i)).map (told l), ?_⟩
  rw [upto, upto, ← List.map_append, List.range_add]
set_option maxRecDepth 100000 in
set_option maxHeartbeats 2000000 in
theorem ranges_gives (Bs n₀ n : Nat) (A : Option Addr) (c : Nat) (m : List Rg) (w : World) (hr : rightM m = true) (hn₀ : n₀ ≤ w.heap.size) (hBl : Bs < w.heap.size) (hBs : w.cell? ⟨Bs, 0, none⟩ = some (.slice A n c)) (hrd : Rd w n₀ 3 A n (rgs m)) :
    Gives Tryz.prog 232 #[.pointer (some ⟨Bs, 0, none⟩)] encR n₀ (upto m n) w := by
  intro l J Jx W hW hJ hJx hY h0
  have hBs' := (hW.cell (p := ⟨Bs, 0, none⟩) hBl).trans hBs
  have hrd' := hrd.below (hW.mono hn₀)
  have hn₀' : n₀ ≤ W.heap.size := Nat.le_trans hn₀ hW.size
  clear hBs hrd hn₀ hBl hW
  have hl := hrd'.rlen
  have hn2 : n ≤ 1000 := by have := right_len hr; omega
  have HR := Lib.hid hr
  have HL := Lib.hid hl
  have HJ := Lib.hid hJ
  have HJx := Lib.hid hJx
  clear hr hl hJ hJx
  refine callsIn_of_wp Tryz.func232 rfl trivial ?_ rfl
  simp only [Tryz.ntmps232, List.size_toArray, List.length_cons, List.length_nil, Nat.reduceAdd, Nat.reduceSub, Array.replicate_succ, Array.replicate_zero, List.push_toArray, List.append_toArray, List.nil_append, List.cons_append]
  gi_wp2
  gi_loopw [3, 8] (fun v i wr => ∃ k : Nat, k ≤ n ∧ i = .int .i64 k ∧ v = .int .i64 (shiftL (m.take k)) ∧ J (upto m k) wr ∧ Below n₀ W wr) (fun _ i _ => n - (intOf i).toNat)
  case atStart => exact ⟨0, by omega, rfl, rfl, h0, Below.refl _ _⟩
  case round =>
    obtain ⟨k, hk, rfl, rfl, hJs, hbr⟩ := hrel
    by_cases hkn : k < n
    · obtain ⟨b, o, rfl, hbB, _⟩ := hrd'.2 (by omega)
      obtain ⟨r, hx⟩ : ∃ r, m[k]? = some r := ⟨_, List.getElem?_eq_getElem (by have := HL.out; omega)⟩
      obtain ⟨hc0, hc1, hc2, hb⟩ := (hrd'.below hbr).rg hx
      obtain ⟨f1, f2, f3, f4, f5, f6⟩ := right_fits HR.out r (List.mem_of_getElem? hx)
      have hsb := shift_take_bd HR.out k
      have hsn := shiftL_snoc hx
      have HS := Lib.hid hsn
      clear hx hsn
      have hbw := hbr.size
      obtain ⟨fn, tmps, assign, body, hy, hR⟩ := hY _ (told m k) wr (wr.alloc (.cells #[.int .i64 r.at_, .int .i64 r.old, .int .i64 r.new] 155)) hJs (by rw [← upto_succ]; exact upto_take m (by omega)) ((Below.refl _ _).alloc (Nat.le_refl _) _)
      dsimp only [told, encR] at hy
      have HRR := Lib.hid hR
      clear hR
      gi_wp2
      refine HRR.out.mono ?_
      rintro e W3 (⟨rfl, hJ3, hb3, hm3⟩ | ⟨rfl, hJx3⟩)
      · have hbox := fun i => cells_mid (i := i) hm3
        have hc0' : W3.cell? ⟨wr.heap.size, 0, none⟩ = some (.int .i64 r.at_) := by rw [hbox]; rfl
        have hc1' : W3.cell? ⟨wr.heap.size, 1, none⟩ = some (.int .i64 r.old) := by rw [hbox]; rfl
        have hc2' : W3.cell? ⟨wr.heap.size, 2, none⟩ = some (.int .i64 r.new) := by rw [hbox]; rfl
        clear hbox hm3
        rw [← upto_succ] at hJ3
        gi_wp2
        go_roundw
        case rel => exact ⟨k + 1, by omega, by go_num, by rw [HS.out], hJ3, (hbr.alloc (by omega) _).trans hb3⟩
        case measure => simp [intOf]; omega
      · rw [← upto_succ] at hJx3
        gi_wp2
        refine bodyPost_ret (results_none rfl _ _ _) rfl ?_
        exact ⟨⟨_, rfl⟩, .inr ⟨_, upto_take m (by omega), hJx3⟩⟩
    · obtain rfl : n = k := by omega
      gi_wp2
      go_end0
      exact ⟨⟨_, rfl⟩, .inl hJs⟩
end Go.Proofs.YtmacfoebfpljoaaGreat
