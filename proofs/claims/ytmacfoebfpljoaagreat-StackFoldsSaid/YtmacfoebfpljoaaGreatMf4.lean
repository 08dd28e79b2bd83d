/- merged texts: K1 Cd K2 Pu Ce Cf -/
import Derived.Test.YtmacfoebfpljoaaGreatMf2
import Derived.Test.YtmacfoebfpljoaaGreatMf3
import Derived.BigRegion
namespace Go.Proofs.YtmacfoebfpljoaaGreat
open Go.RowKit
section
variable {P : Program} {ops : Array Oper} {Q : Exit → Act → World → Prop} {md : Region.Mode} {S : World → Prop} {k : Nat}
/-- whatever comes up, S holds behind it, unless it is the k-th -/
def AnyK (P : Program) (md : Region.Mode) (ops : Array Oper) (Q : Exit → Act → World → Prop) (S : World → Prop) (k : Nat) : Nat → Array Bool → Act → World → Prop
  | 0, l, a, w => Region.ready md ops l = [] ∧ Q .normal a w
  | n + 1, l, a, w => (Region.ready md ops l = [] → Q .normal a w) ∧ ∀ i ∈ Region.ready md ops l, wpOp P ops Q i (fun a' w' => (i ≠ k → S w') ∧ AnyK P md ops Q S k n (l.setIfInBounds i true) a' w') a w
theorem any_of_K (n : Nat) : ∀ (l : Array Bool) (a : Act) (w : World), AnyK P md ops Q S k n l a w → wpAny P md ops Q n l a w := by
  induction n with
  | zero => intro l a w h; exact h
  | succ n ih => intro l a w h; exact ⟨h.1, fun i hi => wpOp_mono (fun a' w' h' => ih _ a' w' h'.2) (h.2 i hi)⟩
/-- k waits for i -/
def waits (md : Region.Mode) (ops : Array Oper) (k i : Nat) : Bool := match ops[k]? with | some o => o.after.any fun e => Region.binds md e && decide (e.on = i) | none => true
theorem not_ready {i : Nat} {l : Array Bool} (hw : waits md ops k i = true) (hi : l.getD i true = false) : k ∉ Region.ready md ops l := by
  intro hk
  obtain ⟨_, o, ho, hall⟩ := mem_ready.1 hk
  unfold waits at hw
  rw [ho] at hw
  obtain ⟨e, he, hb⟩ := Array.any_eq_true'.1 hw
  simp only [Bool.and_eq_true, decide_eq_true_eq] at hb
  have := hall e he hb.1
  rw [hb.2] at this
  rcases Nat.lt_or_ge i l.size with h | h
  · simp [h] at hi this; rw [this] at hi; cases hi
  · simp [Array.getElem?_eq_none h] at hi
/-- operation i is taken first: k waits for it -/
theorem takeK {i : Nat} {oi : Oper} {v : Value} (hi : ops[i]? = some oi) (hsel : ∀ (j : Nat) (o : Oper) cs b, ops[j]? = some o → o.op ≠ .select cs b)
    (hQ : ∀ c a w, Q (.panic c) (a.put oi.dst v) w → Q (.panic c) a w) (hwt : waits md ops k i = true) (n : Nat) :
    ∀ (l : Array Bool) (a : Act) (w : World), (∀ j oj, ops[j]? = some oj → j ≠ i → l.getD j true = false → (∀ e ∈ oj.after, Region.binds md e = true → e.on ≠ i) → oi.apart ops oj = true) →
      i ∈ Region.ready md ops l → YieldsIf P ops S oi v a → S w → AnyK P md ops Q S k n (l.setIfInBounds i true) (a.put oi.dst v) w → AnyK P md ops Q S k (n + 1) l a w := by
  have other : ∀ {l : Array Bool} {j : Nat}, i ∈ Region.ready md ops l → j ∈ Region.ready md ops l → j ≠ i → j ≠ k ∧ l.getD j true = false ∧ ∃ oj, ops[j]? = some oj ∧ ∀ e ∈ oj.after, Region.binds md e = true → e.on ≠ i := by
    intro l j hr hj hji
    refine ⟨fun e => not_ready hwt (mem_ready.1 hr).1 (e ▸ hj), ?_⟩
    obtain ⟨h1, oj, h2, h3⟩ := mem_ready.1 hj
    refine ⟨h1, oj, h2, fun e he hb heq => ?_⟩
    have hx := h3 e he hb
    have h0 := (mem_ready.1 hr).1
    rw [heq] at hx
    rcases Nat.lt_or_ge i l.size with h | h
    · simp [h] at h0 hx; rw [h0] at hx; cases hx
    · simp [Array.getElem?_eq_none h] at h0
  induction n with
  | zero =>
    intro l a w hfree hr hy hS H
    refine ⟨fun h => absurd (h ▸ hr) (by simp), fun j hj => ?_⟩
    by_cases hji : j = i
    · subst hji; exact hy.wpOp hi hS ⟨fun _ => hS, H⟩
    · exact absurd (H.1 ▸ ready_mono hj hji) (by simp)
  | succ n ih =>
    intro l a w hfree hr hy hS H
    refine ⟨fun h => absurd (h ▸ hr) (by simp), fun j hj => ?_⟩
    by_cases hji : j = i
    · subst hji; exact hy.wpOp hi hS ⟨fun _ => hS, H⟩
    obtain ⟨hjk, hjun, oj, hoj, hnot⟩ := other hr hj hji
    refine wpOp_mono (fun a' w' h3 => ⟨fun _ => h3.2.1 hjk, ih (l.setIfInBounds j true) a' w' ?_ (ready_mono hr (Ne.symm hji)) h3.1 (h3.2.1 hjk) ?_⟩)
      (wpOp_putIf hoj (hfree j oj hoj hji hjun hnot) (fun cs b => hsel i oi cs b hi) (fun cs b => hsel j oj cs b hoj) hQ hy (H.2 j (ready_mono hj hji)))
    · intro m om hom hmi hun hno
      refine hfree m om hom hmi ?_ hno
      by_cases hjm : j = m
      · subst hjm; exact hjun
      · rw [getD_set_ne true hjm] at hun; exact hun
    · rw [Array.setIfInBounds_comm _ _ hji]
      exact h3.2.2
theorem takeK_if {i : Nat} {oi : Oper} {v : Value} {n : Nat} {l : Array Bool} {a : Act} {w : World} (hi : ops[i]? = some oi)
    (hs : Region.noSelect ops = true) (hf : Region.free md ops l i = true) (hr : ((Region.ready md ops l).contains i && waits md ops k i) = true)
    (hQ : ∀ c a w, Q (.panic c) (a.put oi.dst v) w → Q (.panic c) a w) (hw : Region.wanted oi (yielded ops a.tmps) = true) (hy : ∀ w, S w → (execOp a.eval oi).run P w = .ok (.value v) w) (hS : S w)
    (h : AnyK P md ops Q S k n (l.setIfInBounds i true) (a.put oi.dst v) w) : AnyK P md ops Q S k (n + 1) l a w := by
  rw [Bool.and_eq_true] at hr
  exact takeK hi (Region.noSelect_spec hs) hQ hr.2 n l a w (Region.free_spec hi hf) (by simpa using hr.1) (.inl ⟨hw, hy⟩) hS h
/-- whichever of rs comes next -/
def ReadyK (P : Program) (md : Region.Mode) (ops : Array Oper) (Q : Exit → Act → World → Prop) (S : World → Prop) (k n : Nat) (l : Array Bool) (a : Act) (w : World) (rs : List Nat) : Prop :=
  ∀ i ∈ rs, wpOp P ops Q i (fun a' w' => (i ≠ k → S w') ∧ AnyK P md ops Q S k n (l.setIfInBounds i true) a' w') a w
theorem ReadyK.nil {n : Nat} {l : Array Bool} {a : Act} {w : World} : ReadyK P md ops Q S k n l a w [] := fun _ h => by cases h
theorem ReadyK.cons {n : Nat} {l : Array Bool} {a : Act} {w : World} {i : Nat} {o : Oper} {rs : List Nat} (ho : ops[i]? = some o)
    (h : ∀ K : Act → World → Prop, Shut (∀ a w, S w → (S w → AnyK P md ops Q S k n (l.setIfInBounds i true) a w) → K a w) → if Region.wanted o (yielded ops a.tmps) = true then Oper.wp P o a w K Q else K (a.put o.dst undef) w)
    (hs : ReadyK P md ops Q S k n l a w rs) : ReadyK P md ops Q S k n l a w (i :: rs) := by
  intro j hj
  rcases List.mem_cons.1 hj with rfl | hj
  · exact wpOp_step ho fun K hK => h K fun a w hS hW => hK a w ⟨fun _ => hS, hW hS⟩
  · exact hs j hj
theorem anyK_ready {rs : List Nat} {n : Nat} {l : Array Bool} {a : Act} {w : World} (hr : Region.ready md ops l = rs) (hne : rs ≠ []) (h : ReadyK P md ops Q S k n l a w rs) : AnyK P md ops Q S k (n + 1) l a w :=
  ⟨fun e => absurd (hr.symm.trans e) hne, fun i hi => h i (hr ▸ hi)⟩
/-- the last one -/
theorem anyK_last {o : Oper} {n : Nat} {l : Array Bool} {a : Act} {w : World} (hr : Region.ready md ops l = [k]) (ho : ops[k]? = some o) (he : Region.ready md ops (l.setIfInBounds k true) = [])
    (h : ∀ K : Act → World → Prop, Shut (∀ a w, Q .normal a w → K a w) → if Region.wanted o (yielded ops a.tmps) = true then Oper.wp P o a w K Q else K (a.put o.dst undef) w) : AnyK P md ops Q S k (n + 1) l a w := by
  refine ⟨fun e => (by rw [hr] at e; cases e), fun i hi => ?_⟩
  rw [hr] at hi
  obtain rfl : i = k := by simpa using hi
  refine wpOp_step ho fun K hK => h K fun a w hq => hK a w ⟨fun h => absurd rfl h, ?_⟩
  cases n with
  | zero => exact ⟨he, hq⟩
  | succ n => exact ⟨fun _ => hq, fun j hj => by rw [he] at hj; cases hj⟩
/-- the beginning -/
theorem region_K {id : Nat} {a : Act} {w : World} (k : Nat) (hm : P.follows .mixedOrders = true) (hS : S w.drew)
    (h : S w.drew → AnyK P .any ops Q S k ops.size (Array.replicate ops.size false) a w.drew) : (Code.region id ops true).wp P Q a w :=
  wp_region_any hm (any_of_K _ _ _ _ (h hS))
end
/-- what is told behind the link ahead -/
def contL (kk : Bool) (over : List Rg) (g i : Bool) (q : Pl × Int) (s : Int) : Pl × Int :=
  if q.2 ≠ 0 ∨ kk = false then (⟨q.1.pos, decide (q.2 = 0) && (q.1.gone || g), decide (q.2 = 0) && (q.1.inside || i), q.1.range, q.1.off⟩, q.2)
  else if (tellS over q.1.pos s).2 ≠ 0 then (Pl.zero, (tellS over q.1.pos s).2) else (⟨(tellS over q.1.pos s).1.pos, g || q.1.gone || (tellS over q.1.pos s).1.gone, i || q.1.inside || (tellS over q.1.pos s).1.inside, 0, 0⟩, 0)
theorem tellL_bad {m : List Rg} {k : Lk} {ks : List Lk} {p s er : Int} {P : Pl} (h : tellS k.back p s = (P, er)) (he : er ≠ 0) : tellL m (k :: ks) p s = (Pl.zero, er) := by
  simp only [tellL]
  rw [h]
  exact if_pos he
theorem tellL_rec {m : List Rg} {k : Lk} {ks : List Lk} {p s x : Int} {P : Pl} (h : tellS k.back p s = (P, 0)) (hg : P.gone = true) (hk : k.kept = true) (hr : recS k.over P.range P.off = (x, true)) : tellL m (k :: ks) p s = (⟨x, false, false, 0, 0⟩, 0) := by
  simp only [tellL]
  rw [h]
  simp [hg, hk, recO, hr]
theorem tellL_cont {m : List Rg} {k : Lk} {ks : List Lk} {p s : Int} {P : Pl} (h : tellS k.back p s = (P, 0)) (hn : P.gone = false ∨ k.kept = false ∨ (recS k.over P.range P.off).2 = false) : tellL m (k :: ks) p s = contL k.kept k.over P.gone P.inside (tellL m ks P.pos s) s := by
  have hm : (if (P.gone && k.kept) = true then recO k.over P.range P.off else none) = none := by
    rcases hn with hn | hn | hn
    · rw [hn]; rfl
    · rw [hn, Bool.and_false]; rfl
    · split
      · simp [recO, hn]
      · rfl
  simp only [tellL]
  rw [h]
  simp only
  rw [hm]
  simp only [contL, ne_eq, not_true_eq_false, if_false]
theorem place_set {W : World} {b : Nat} {cs : Array Value} (h : Bk W b 327 cs) (a : Int) (g i : Bool) (r o : Int) (hc : cs.size = 5 := by rfl) : Bk (((((W.setCell ⟨b, 0, none⟩ (.int .i64 a)).setCell ⟨b, 1, none⟩ (.bool g)).setCell ⟨b, 2, none⟩ (.bool i)).setCell ⟨b, 3, none⟩ (.int .i64 r)).setCell ⟨b, 4, none⟩ (.int .i64 o)) b 327 #[.int .i64 a, .bool g, .bool i, .int .i64 r, .int .i64 o] := by
  obtain ⟨l⟩ := cs
  match l, hc with
  | [_, _, _, _, _], _ => exact ((((h.set_ 0 _).set_ 1 _).set_ 2 _).set_ 3 _).set_ 4 _
set_option maxRecDepth 100000 in
set_option maxHeartbeats 2000000 in
/-- the map back says an error -/
theorem ltell_bad (bt b : Nat) (m : List Rg) (k : Lk) (ks : List Lk) (p s er : Int) (P : Pl) (w : World) (h : LinkAt w w.heap.size bt b m (k :: ks)) (hX : tellS k.back p s = (P, er)) (he : er ≠ 0) :
    Calls Tryz.prog 178 #[.pointer (some ⟨b, 0, none⟩), .int .i64 p, .int .i64 s] w (TellSays (tellL m (k :: ks) p s) w) := by
  rw [tellL_bad hX he]
  obtain ⟨hlt, A, n, c, A', n', c', b', hk, hm, _⟩ := h
  have ht := fun W (hb : Below w.heap.size w W) => tell_any A n c k.back p s W (by have := hm.n; unfold maxLen; omega) (fun _ => (hm.rd.below hb).more hb.size) hm.rd.rlen
  rw [hX] at ht
  have HT := Lib.hid ht
  have HLT := def_lt' hk
  have c0 := hk.cell 0; have c3 := hk.cell 3
  have t1 : (er == 0) = false := by simpa using he
  dsimp at c0 c3
  clear ht hm hk hX
  go_enter Tryz.func178, Tryz.ntmps178
  go_wp2_with (go_at_call 211; (refine (HT.out _ belowA).mono ?_); rintro e w1 ⟨rfl, hb1⟩; simp only [Pl.val]; have kb := (Bk.new w 327 #[.int .i64 0, .bool false, .bool false, .int .i64 0, .int .i64 0]).ext hb1; have lb := def_lt' kb; have fb := kb.frozen; have d0 := kb.cell 0; have d1 := kb.cell 1; have d2 := kb.cell 2; have d3 := kb.cell 3; have d4 := kb.cell 4; dsimp at d0 d1 d2 d3 d4)
  have y := (place_set kb 0 false false 0 0).alloc (.cells #[.int .i64 P.pos, .bool P.gone, .bool P.inside, .int .i64 P.range, .int .i64 P.off] 327)
  have hbe : Below w.heap.size w w1 := Below.trans belowA (hb1.mono (by simp))
  have q0 := y.cell 0; have q1 := y.cell 1; have q2 := y.cell 2; have q3 := y.cell 3; have q4 := y.cell 4
  dsimp at q0 q1 q2 q3 q4
  refine bodyPost_ret (v := .tuple #[.agg #[.int .i64 0, .bool false, .bool false, .int .i64 0, .int .i64 0], .int .i64 er]) (by simp [results, Tryz.results178, go_sem, q0, q1, q2, q3, q4]) rfl ⟨rfl, ?_⟩
  have hz := hbe.size
  exact belowA
set_option maxRecDepth 100000 in
set_option maxHeartbeats 4000000 in
theorem ltell_go (bt b : Nat) (m : List Rg) (k : Lk) (ks : List Lk) (p s : Int) (P : Pl) (w : World) (h : LinkAt w w.heap.size bt b m (k :: ks)) (hX : tellS k.back p s = (P, 0))
    (ih : ∀ (b : Nat) (p s : Int) (w : World), LinkAt w w.heap.size bt b m ks → Calls Tryz.prog 178 #[.pointer (some ⟨b, 0, none⟩), .int .i64 p, .int .i64 s] w (TellSays (tellL m ks p s) w)) :
    Calls Tryz.prog 178 #[.pointer (some ⟨b, 0, none⟩), .int .i64 p, .int .i64 s] w (TellSays (tellL m (k :: ks) p s) w) := by
  have hrc := fun x => tellL_rec (m := m) (ks := ks) (x := x) hX
  have hco := tellL_cont (m := m) (ks := ks) hX
  obtain ⟨hlt, A, n, c, A', n', c', b', hk, hm, hm', _, _, h3⟩ := h
  have ht := fun W (hb : Below w.heap.size w W) => calls_on hb (tell_any A n c k.back p s W (by have := hm.n; unfold maxLen; omega) (fun _ => (hm.rd.below hb).more hb.size) hm.rd.rlen)
  rw [hX] at ht
  have hto := fun W (x : Int) (hb : Below w.heap.size w W) => (tell_any A' n' c' k.over x s W (by have := hm'.n; unfold maxLen; omega) (fun _ => (hm'.rd.below hb).more hb.size) hm'.rd.rlen)
  have hr := fun W (hb : Below w.heap.size w W) => calls_on hb (rec_any A' n' c' k.over P.range P.off W (by have := hm'.n; unfold maxLen; omega) (fun _ => (hm'.rd.below hb).more hb.size) hm'.rd.rlen)
  have hi := fun W (hb : Below w.heap.size w W) => calls_on hb (ih b' P.pos s W (h3.ext hb))
  generalize tellL m (k :: ks) p s = G at *
  generalize tellL m ks P.pos s = Q at *
  obtain ⟨kb, kov, kk⟩ := k
  simp only at *
  generalize hR : recS kov P.range P.off = R at *
  obtain ⟨px, pg, pi, pr, po⟩ := P
  obtain ⟨⟨qx, qg, qi, qr, qo⟩, qe⟩ := Q
  obtain ⟨rx, rb⟩ := R
  simp only [Pl.val] at *
  have HT := Lib.hid ht
  have HTO := Lib.hid hto
  have HR := Lib.hid hr
  have HI := Lib.hid hi
  have HRC := Lib.hid hrc
  have HCO := Lib.hid hco
  have HLT := def_lt' hk
  have HK := Lib.hid hk
  clear ht hto hr hi hrc hco hm hm' h3 ih hX hR
  have c0 := hk.cell 0; have c1 := hk.cell 1; have c2 := hk.cell 2; have c3 := hk.cell 3
  dsimp at c0 c1 c2 c3
  clear hk
  go_enter Tryz.func178, Tryz.ntmps178
  go_upto_region 8 with (go_at_call 211; (refine (HT.out _ belowA).mono ?_); rintro e w1 ⟨rfl, hb1, hz1, hx1⟩)
  have kr := ((Bk.new w 327 #[.int .i64 0, .bool false, .bool false, .int .i64 0, .int .i64 0]).ext hx1).alloc (.cells #[.int .i64 px, .bool pg, .bool pi, .int .i64 pr, .int .i64 po] 327)
  have kp := Bk.new w1 327 #[.int .i64 px, .bool pg, .bool pi, .int .i64 pr, .int .i64 po]
  have hb2 : Below w.heap.size w (w1.alloc (.cells #[.int .i64 px, .bool pg, .bool pi, .int .i64 pr, .int .i64 po] 327)) := belowA
  generalize w1.alloc (.cells #[.int .i64 px, .bool pg, .bool pi, .int .i64 pr, .int .i64 po] 327) = w2 at *
  have l2 := (hb2.cell (p := ⟨b, 2, none⟩) HLT).trans c2
  have p1 := kp.cell 1
  dsimp at p1
  go_cut [56] (fun v wx => v = .bool (pg && kk) ∧ wx = w2)
  case first =>
    cases pg <;> cases kk <;> (go_wp2; go_meet; exact ⟨rfl, rfl⟩)
  case rest =>
    obtain ⟨rfl, rfl⟩ := hcut
    go_upto_if 56 with fail
    go_cut [12] (fun v wx => (pg = false ∨ kk = false ∨ rb = false) ∧ Below w.heap.size w wx ∧ Bk wx w.heap.size 327 #[.int .i64 0, .bool false, .bool false, .int .i64 0, .int .i64 0] ∧ Bk wx w1.heap.size 327 #[.int .i64 px, .bool pg, .bool pi, .int .i64 pr, .int .i64 po])
    case first =>
      cases hpk : (pg && kk) with
      | false =>
        go_wp2
        go_meet
        refine ⟨?_, hb2, kr, kp⟩
        rcases Bool.and_eq_false_iff.1 hpk with h | h
        · exact .inl h
        · exact .inr (.inl h)
      | true =>
        obtain ⟨rfl, rfl⟩ : pg = true ∧ kk = true := by simpa using hpk
        have hz2 := hb2.size
        have l1 := (hb2.cell (p := ⟨b, 1, none⟩) HLT).trans c1
        have p3 := kp.cell 3; have p4 := kp.cell 4
        dsimp at p3 p4
        have hlc := Nat.lt_of_lt_of_le HLT hz2
        have hlp := def_lt' kp
        have hF : ∀ w', Below wc.heap.size wc w' → w'.cell? ⟨b, 1, none⟩ = some (.slice A' n' c') ∧ w'.cell? ⟨w1.heap.size, 3, none⟩ = some (.int .i64 pr) ∧ w'.cell? ⟨w1.heap.size, 4, none⟩ = some (.int .i64 po) := fun w' hb => ⟨(hb.cell (p := ⟨b, 1, none⟩) hlc).trans l1, (hb.cell (p := ⟨w1.heap.size, 3, none⟩) hlp).trans p3, (hb.cell (p := ⟨w1.heap.size, 4, none⟩) hlp).trans p4⟩
        have HF := Lib.hid hF
        clear hF
        go_wp2
        refine wp_normal ?_
        refine wp_region_held_drew (S := fun w' => Below wc.heap.size wc w') (by kernel_rfl) (Below.refl _ _).drew (fun hHeld => ?_)
        (refine tkH 0 ?_; refine tkH 1 ?_; refine tkH 2 ?_; refine tkH 3 ?_; refine tkH 4 ?_; refine tkH 5 ?_; refine tkH 6 ?_; refine tkH 7 ?_)
        refine nxH 8 (fun K hK => ?_)
        go_simp
        go_at_call 212
        refine (HR.out _ hb2.drew).mono ?_
        rintro e w4 ⟨rfl, hb4, hz4, hx4⟩
        have hx5 : Below wc.heap.size wc w4 := Below.trans (Below.refl _ _).drew hx4
        refine hK.out _ _ hx5 (fun hHeld => ?_)
        clear hK K; (try simp only [Act.put, List.setIfInBounds_toArray, List.set_cons_zero, List.set_cons_succ])
        (refine tkH 9 ?_; refine tkH 10 ?_; refine tkH 11 ?_; refine tkH 12 ?_; refine tkH 13 ?_)
        refine wpAnyH_done (by kernel_rfl) ?_ _
        have kr4 := kr.ext hx5
        have kp4 := kp.ext hx5
        cases rb with
        | false =>
          go_wp2
          go_meet
          exact ⟨by simp, hb4, kr4, kp4⟩
        | true =>
          have hG := HRC.out rx (by simp) (by simp) (by simp)
          have lr := def_lt' kr4
          have fr := kr4.frozen
          have d0 := kr4.cell 0; have d1 := kr4.cell 1; have d2 := kr4.cell 2; have d3 := kr4.cell 3; have d4 := kr4.cell 4
          dsimp at d0 d1 d2 d3 d4
          go_wp2
          have y := place_set kr4 rx false false 0 0
          have q0 := y.cell 0; have q1 := y.cell 1; have q2 := y.cell 2; have q3 := y.cell 3; have q4 := y.cell 4
          dsimp at q0 q1 q2 q3 q4
          refine bodyPost_ret (v := .tuple #[.agg #[.int .i64 rx, .bool false, .bool false, .int .i64 0, .int .i64 0], .int .i64 0]) (by simp [results, Tryz.results178, go_sem, q0, q1, q2, q3, q4]) rfl ⟨?_, ?_⟩
          · rw [hG]; rfl
          · exact belowA
    case rest =>
      obtain ⟨hor, hb3, kr3, kp3⟩ := hcut
      have hco := HCO.out hor
      have HCO2 := Lib.hid hco
      clear hco hor HCO HRC HR HT hb1 hx1 hz1 kr kp l2 p1
      have hz3 := hb3.size
      have l3 := (hb3.cell (p := ⟨b, 3, none⟩) HLT).trans c3
      have p0 := kp3.cell 0
      dsimp at p0
      have hlc := Nat.lt_of_lt_of_le HLT hz3
      have hlp := def_lt' kp3
      have hF : ∀ w', Below wc.heap.size wc w' → w'.cell? ⟨b, 3, none⟩ = some (.pointer (some ⟨b', 0, none⟩)) ∧ w'.cell? ⟨w1.heap.size, 0, none⟩ = some (.int .i64 px) := fun w' hb => ⟨(hb.cell (p := ⟨b, 3, none⟩) hlc).trans l3, (hb.cell (p := ⟨w1.heap.size, 0, none⟩) hlp).trans p0⟩
      have HF := Lib.hid hF
      clear hF
      go_upto_region 12 with fail
      go_cut [14, 11] (fun v e wx => ∃ b14 : Nat, v = .pointer (some ⟨b14, 0, none⟩) ∧ e = .int .i64 qe ∧ Below wc.heap.size wc wx ∧ wc.heap.size ≤ b14 ∧ Bk wx b14 327 #[.int .i64 qx, .bool qg, .bool qi, .int .i64 qr, .int .i64 qo])
      case first =>
        refine wp_normal ?_
        refine wp_region_held_drew (S := fun w' => Below wc.heap.size wc w') (by kernel_rfl) ((Below.refl _ _).drew) (fun hHeld => ?_)
        (refine tkH 0 ?_; refine tkH 1 ?_; refine tkH 2 ?_; refine tkH 3 ?_; refine tkH 4 ?_; refine tkH 5 ?_; refine tkH 6 ?_)
        refine wpAnyH_ready (rs := [7, 11]) (by kernel_rfl) (by simp) ?_; refine (AllReadyH.cons (o := _) (by simp only [List.getElem?_toArray, List.getElem?_cons_succ, List.getElem?_cons_zero]; rfl) (fun K hK => ?_) (AllReadyH.cons (o := _) (by simp only [List.getElem?_toArray, List.getElem?_cons_succ, List.getElem?_cons_zero]; rfl) (fun K hK => ?_) AllReadyH.nil))
        · go_simp
          go_at_call 178
          refine (HI.out _ hb3.drew).mono ?_
          rintro e w4 ⟨rfl, hb4, hz4, hx4⟩
          have hx5 : Below wc.heap.size wc w4 := Below.trans (Below.refl _ _).drew hx4
          have hx5s := hx5.size
          refine hK.out _ _ hx5 (fun hHeld => ?_)
          clear hK K; (try simp only [Act.put, List.setIfInBounds_toArray, List.set_cons_zero, List.set_cons_succ])
          (refine tkH 8 ?_; refine tkH 9 ?_; refine tkH 10 ?_)
          refine nxH 11 (fun K hK => ?_)
          go_simp
          refine hK.out _ _ belowA (fun hHeld => ?_)
          clear hK K; (try simp only [Act.put, List.setIfInBounds_toArray, List.set_cons_zero, List.set_cons_succ])
          refine nxH 12 (fun K hK => ?_)
          go_simp
          refine hK.out _ _ belowA (fun hHeld => ?_)
          clear hK K; (try simp only [Act.put, List.setIfInBounds_toArray, List.set_cons_zero, List.set_cons_succ])
          (refine tkH 13 ?_)
          refine wpAnyH_done (by kernel_rfl) ?_ _
          go_wp2
          go_meet
          exact ⟨_, rfl, rfl, hHeld, hx5s, Bk.new w4 _ _⟩
        · go_simp
          refine hK.out _ _ belowA (fun hHeld => ?_)
          clear hK K; (try simp only [Act.put, List.setIfInBounds_toArray, List.set_cons_zero, List.set_cons_succ])
          refine nxH 7 (fun K hK => ?_)
          go_simp
          go_at_call 178
          refine (HI.out _ belowA).mono ?_
          rintro e w4 ⟨rfl, hb4, hz4, hx4⟩
          have hx5 : Below wc.heap.size wc w4 := Below.trans belowA (hx4.mono (by simp))
          have k10 := (Bk.drew (Bk.new wc 327 #[.int .i64 0, .bool false, .bool false, .int .i64 0, .int .i64 0])).ext hx4
          have d0 := k10.cell 0; have d1 := k10.cell 1; have d2 := k10.cell 2; have d3 := k10.cell 3; have d4 := k10.cell 4
          have cf := k10.frozen; have cl := def_lt' k10
          dsimp at d0 d1 d2 d3 d4
          refine hK.out _ _ hx5 (fun hHeld => ?_)
          clear hK K; (try simp only [Act.put, List.setIfInBounds_toArray, List.set_cons_zero, List.set_cons_succ])
          (refine tkH 8 ?_; refine tkH 9 ?_; refine tkH 10 ?_)
          refine nxH 12 (fun K hK => ?_)
          go_simp
          refine hK.out _ _ belowA (fun hHeld => ?_)
          clear hK K; (try simp only [Act.put, List.setIfInBounds_toArray, List.set_cons_zero, List.set_cons_succ])
          (refine tkH 13 ?_)
          refine wpAnyH_done (by kernel_rfl) ?_ _
          go_wp2
          go_meet
          exact ⟨_, rfl, rfl, hHeld, Nat.le_refl _, place_set k10 qx qg qi qr qo⟩
      case rest =>
        obtain ⟨b14, rfl, rfl, hb5, hle, kq⟩ := hcut
        have kr4 := kr3.ext hb5
        have kp4 := kp3.ext hb5
        have hb6 := hb3.trans (hb5.mono hz3)
        have l2 := (hb6.cell (p := ⟨b, 2, none⟩) HLT).trans c2
        have l1 := (hb6.cell (p := ⟨b, 1, none⟩) HLT).trans c1
        have hne1 : b14 ≠ w.heap.size := by have := def_lt' kr3; omega
        have hne2 : b14 ≠ w1.heap.size := by omega
        have hz6 := hb6.size
        have hlr := def_lt' kr4
        have hlp4 := def_lt' kp4
        have hlq := def_lt' kq
        have frq := kq.frozen
        have frr := kr4.frozen
        have hge14 : w.heap.size ≤ b14 := by omega
        have g0 := kp4.cell 0; have g1 := kp4.cell 1; have g2 := kp4.cell 2
        have q0 := kq.cell 0; have q1 := kq.cell 1; have q2 := kq.cell 2; have q3 := kq.cell 3; have q4 := kq.cell 4
        have r0 := kr4.cell 0; have r1 := kr4.cell 1; have r2 := kr4.cell 2; have r3 := kr4.cell 3; have r4 := kr4.cell 4
        dsimp at g0 g1 g2 q0 q1 q2 q3 q4 r0 r1 r2 r3 r4
        clear HF HI hb5 kr3 kp3 hb3 l3 p0 c0 c1 c2 c3 hz3 hlc hlp
        by_cases he : qe = 0
        rotate_left
        · have t1 : (qe == 0) = false := by simpa using he
          have hG : G = (⟨qx, false, false, qr, qo⟩, qe) := by
            rw [HCO2.out]
            simp [contL, he]
          have HG := Lib.hid hG
          clear hG HCO2 HTO
          go_upto_region 14 with fail
          go_region
          go_wp2
          have y := place_set (W := (wc.setCell ⟨b14, 1, none⟩ (.bool false)).setCell ⟨b14, 2, none⟩ (.bool false)) ((kr4.far (p := ⟨b14, 1, none⟩) (by simp; omega) (.bool false)).far (p := ⟨b14, 2, none⟩) (by simp; omega) (.bool false)) qx false false qr qo
          have q0 := y.cell 0; have q1 := y.cell 1; have q2 := y.cell 2; have q3 := y.cell 3; have q4 := y.cell 4
          dsimp at q0 q1 q2 q3 q4
          refine bodyPost_ret (v := .tuple #[.agg #[.int .i64 qx, .bool false, .bool false, .int .i64 qr, .int .i64 qo], .int .i64 qe]) (by simp [results, Tryz.results178, go_sem, q0, q1, q2, q3, q4]) rfl ⟨?_, ?_⟩
          · rw [HG.out]; rfl
          · exact belowA
        · subst he
          cases kk with
          | false =>
            have hG : G = (⟨qx, qg || pg, qi || pi, qr, qo⟩, 0) := by
              rw [HCO2.out]
              simp [contL]
            clear HCO2 HTO
            cases qg <;> cases qi
            · simp only [Bool.false_or] at hG
              have HG := Lib.hid hG
              clear hG
              go_upto_region 14 with fail
              go_region
              go_wp2
              have y := place_set (W := (wc.setCell ⟨b14, 1, none⟩ (.bool pg)).setCell ⟨b14, 2, none⟩ (.bool pi)) ((kr4.far (p := ⟨b14, 1, none⟩) (by simp; omega) (.bool pg)).far (p := ⟨b14, 2, none⟩) (by simp; omega) (.bool pi)) qx pg pi qr qo
              have q0 := y.cell 0; have q1 := y.cell 1; have q2 := y.cell 2; have q3 := y.cell 3; have q4 := y.cell 4
              dsimp at q0 q1 q2 q3 q4
              refine bodyPost_ret (v := .tuple #[.agg #[.int .i64 qx, .bool pg, .bool pi, .int .i64 qr, .int .i64 qo], .int .i64 0]) (by simp [results, Tryz.results178, go_sem, q0, q1, q2, q3, q4]) rfl ⟨?_, ?_⟩
              · rw [HG.out]; rfl
              · exact belowA
            · simp only [Bool.false_or, Bool.true_or] at hG
              have HG := Lib.hid hG
              clear hG
              go_upto_region 14 with fail
              go_region
              go_wp2
              have y := place_set (W := (wc.setCell ⟨b14, 1, none⟩ (.bool pg)).setCell ⟨b14, 2, none⟩ (.bool true)) ((kr4.far (p := ⟨b14, 1, none⟩) (by simp; omega) (.bool pg)).far (p := ⟨b14, 2, none⟩) (by simp; omega) (.bool true)) qx pg true qr qo
              have q0 := y.cell 0; have q1 := y.cell 1; have q2 := y.cell 2; have q3 := y.cell 3; have q4 := y.cell 4
              dsimp at q0 q1 q2 q3 q4
              refine bodyPost_ret (v := .tuple #[.agg #[.int .i64 qx, .bool pg, .bool true, .int .i64 qr, .int .i64 qo], .int .i64 0]) (by simp [results, Tryz.results178, go_sem, q0, q1, q2, q3, q4]) rfl ⟨?_, ?_⟩
              · rw [HG.out]; rfl
              · exact belowA
            · simp only [Bool.false_or, Bool.true_or] at hG
              have HG := Lib.hid hG
              clear hG
              go_upto_region 14 with fail
              go_region
              go_wp2
              have y := place_set (W := (wc.setCell ⟨b14, 1, none⟩ (.bool true)).setCell ⟨b14, 2, none⟩ (.bool pi)) ((kr4.far (p := ⟨b14, 1, none⟩) (by simp; omega) (.bool true)).far (p := ⟨b14, 2, none⟩) (by simp; omega) (.bool pi)) qx true pi qr qo
              have q0 := y.cell 0; have q1 := y.cell 1; have q2 := y.cell 2; have q3 := y.cell 3; have q4 := y.cell 4
              dsimp at q0 q1 q2 q3 q4
              refine bodyPost_ret (v := .tuple #[.agg #[.int .i64 qx, .bool true, .bool pi, .int .i64 qr, .int .i64 qo], .int .i64 0]) (by simp [results, Tryz.results178, go_sem, q0, q1, q2, q3, q4]) rfl ⟨?_, ?_⟩
              · rw [HG.out]; rfl
              · exact belowA
            · simp only [Bool.true_or] at hG
              have HG := Lib.hid hG
              clear hG
              go_upto_region 14 with fail
              go_region
              go_wp2
              have y := place_set (W := (wc.setCell ⟨b14, 1, none⟩ (.bool true)).setCell ⟨b14, 2, none⟩ (.bool true)) ((kr4.far (p := ⟨b14, 1, none⟩) (by simp; omega) (.bool true)).far (p := ⟨b14, 2, none⟩) (by simp; omega) (.bool true)) qx true true qr qo
              have q0 := y.cell 0; have q1 := y.cell 1; have q2 := y.cell 2; have q3 := y.cell 3; have q4 := y.cell 4
              dsimp at q0 q1 q2 q3 q4
              refine bodyPost_ret (v := .tuple #[.agg #[.int .i64 qx, .bool true, .bool true, .int .i64 qr, .int .i64 qo], .int .i64 0]) (by simp [results, Tryz.results178, go_sem, q0, q1, q2, q3, q4]) rfl ⟨?_, ?_⟩
              · rw [HG.out]; rfl
              · exact belowA
          | true =>
            obtain ⟨⟨⟨xx, xg, xi, xr, xo⟩, xe⟩, hY⟩ : ∃ y, tellS kov qx s = y := ⟨_, rfl⟩
            have hto := fun W (hb : Below w.heap.size w W) => calls_on hb (HTO.out W qx hb)
            rw [hY] at hto
            simp only [Pl.val] at hto
            have hG : G = (if xe ≠ 0 then (Pl.zero, xe) else (⟨xx, pg || qg || xg, pi || qi || xi, 0, 0⟩, 0)) := by
              rw [HCO2.out]
              simp only [contL, hY]
              simp
            have HG := Lib.hid hG
            have HT2 := Lib.hid hto
            have hF : ∀ w', Below wc.heap.size wc w' → w'.cell? ⟨b, 1, none⟩ = some (.slice A' n' c') ∧ w'.cell? ⟨b14, 0, none⟩ = some (.int .i64 qx) := fun w' hb => ⟨(hb.cell (p := ⟨b, 1, none⟩) (by simp; omega)).trans l1, (hb.cell (p := ⟨b14, 0, none⟩) hlq).trans q0⟩
            have HF := Lib.hid hF
            clear hF hG hto hY HCO2 HTO
            go_upto_region 16 with fail
            go_cut [15, 11] (fun v e wx => ∃ b15 : Nat, v = .pointer (some ⟨b15, 0, none⟩) ∧ e = .int .i64 xe ∧ Below wc.heap.size wc wx ∧ wc.heap.size ≤ b15 ∧ Bk wx b15 327 #[.int .i64 xx, .bool xg, .bool xi, .int .i64 xr, .int .i64 xo])
            case first =>
              refine wp_normal ?_
              refine wp_region_held_drew (S := fun w' => Below wc.heap.size wc w') (by kernel_rfl) ((Below.refl _ _).drew) (fun hHeld => ?_)
              (refine tkH 0 ?_; refine tkH 1 ?_; refine tkH 2 ?_; refine tkH 3 ?_; refine tkH 4 ?_; refine tkH 5 ?_; refine tkH 6 ?_)
              refine wpAnyH_ready (rs := [7, 11]) (by kernel_rfl) (by simp) ?_; refine (AllReadyH.cons (o := _) (by simp only [List.getElem?_toArray, List.getElem?_cons_succ, List.getElem?_cons_zero]; rfl) (fun K hK => ?_) (AllReadyH.cons (o := _) (by simp only [List.getElem?_toArray, List.getElem?_cons_succ, List.getElem?_cons_zero]; rfl) (fun K hK => ?_) AllReadyH.nil))
              · go_simp
                go_at_call 211
                refine (HT2.out _ hb6.drew).mono ?_
                rintro e w4 ⟨rfl, hb4, hz4, hx4⟩
                have hx5 : Below wc.heap.size wc w4 := Below.trans (Below.refl _ _).drew hx4
                have hx5s := hx5.size
                refine hK.out _ _ hx5 (fun hHeld => ?_)
                clear hK K; (try simp only [Act.put, List.setIfInBounds_toArray, List.set_cons_zero, List.set_cons_succ])
                (refine tkH 8 ?_; refine tkH 9 ?_; refine tkH 10 ?_)
                refine nxH 11 (fun K hK => ?_)
                go_simp
                refine hK.out _ _ belowA (fun hHeld => ?_)
                clear hK K; (try simp only [Act.put, List.setIfInBounds_toArray, List.set_cons_zero, List.set_cons_succ])
                refine nxH 12 (fun K hK => ?_)
                go_simp
                refine hK.out _ _ belowA (fun hHeld => ?_)
                clear hK K; (try simp only [Act.put, List.setIfInBounds_toArray, List.set_cons_zero, List.set_cons_succ])
                (refine tkH 13 ?_)
                refine wpAnyH_done (by kernel_rfl) ?_ _
                go_wp2
                go_meet
                exact ⟨_, rfl, rfl, hHeld, hx5s, Bk.new w4 _ _⟩
              · go_simp
                refine hK.out _ _ belowA (fun hHeld => ?_)
                clear hK K; (try simp only [Act.put, List.setIfInBounds_toArray, List.set_cons_zero, List.set_cons_succ])
                refine nxH 7 (fun K hK => ?_)
                go_simp
                go_at_call 211
                refine (HT2.out _ belowA).mono ?_
                rintro e w4 ⟨rfl, hb4, hz4, hx4⟩
                have hx5 : Below wc.heap.size wc w4 := Below.trans belowA (hx4.mono (by simp))
                have k10 := (Bk.drew (Bk.new wc 327 #[.int .i64 0, .bool false, .bool false, .int .i64 0, .int .i64 0])).ext hx4
                have d0 := k10.cell 0; have d1 := k10.cell 1; have d2 := k10.cell 2; have d3 := k10.cell 3; have d4 := k10.cell 4
                have cf := k10.frozen; have cl := def_lt' k10
                dsimp at d0 d1 d2 d3 d4
                refine hK.out _ _ hx5 (fun hHeld => ?_)
                clear hK K; (try simp only [Act.put, List.setIfInBounds_toArray, List.set_cons_zero, List.set_cons_succ])
                (refine tkH 8 ?_; refine tkH 9 ?_; refine tkH 10 ?_)
                refine nxH 12 (fun K hK => ?_)
                go_simp
                refine hK.out _ _ belowA (fun hHeld => ?_)
                clear hK K; (try simp only [Act.put, List.setIfInBounds_toArray, List.set_cons_zero, List.set_cons_succ])
                (refine tkH 13 ?_)
                refine wpAnyH_done (by kernel_rfl) ?_ _
                go_wp2
                go_meet
                exact ⟨_, rfl, rfl, hHeld, Nat.le_refl _, place_set k10 xx xg xi xr xo⟩
            case rest =>
              obtain ⟨b15, rfl, rfl, hb7, hle7, kx⟩ := hcut
              have kr5 := kr4.ext hb7
              have kp5 := kp4.ext hb7
              have kq5 := kq.ext hb7
              have hb8 := hb6.trans (hb7.mono hz6)
              have hz8 := hb8.size
              clear HF HT2 hb7 kr4 kp4 kq hb6 g0 g1 g2 q0 q1 q2 q3 q4 r0 r1 r2 r3 r4 hlr hlp4 hlq frq frr
              have hlr := def_lt' kr5
              have frr := kr5.frozen
              have g1 := kp5.cell 1; have g2 := kp5.cell 2
              have q1 := kq5.cell 1; have q2 := kq5.cell 2
              have r0 := kr5.cell 0; have r1 := kr5.cell 1; have r2 := kr5.cell 2; have r3 := kr5.cell 3; have r4 := kr5.cell 4
              have x0 := kx.cell 0; have x1 := kx.cell 1; have x2 := kx.cell 2
              dsimp at g1 g2 q1 q2 r0 r1 r2 r3 r4 x0 x1 x2
              by_cases hxe : xe = 0
              rotate_left
              · have t1 : (xe == 0) = false := by simpa using hxe
                have hG := HG.out
                rw [if_pos hxe] at hG
                have HG2 := Lib.hid hG
                clear hG HG
                go_wp2
                have y := place_set kr5 0 false false 0 0
                have q0 := y.cell 0; have q1 := y.cell 1; have q2 := y.cell 2; have q3 := y.cell 3; have q4 := y.cell 4
                dsimp at q0 q1 q2 q3 q4
                refine bodyPost_ret (v := .tuple #[.agg #[.int .i64 0, .bool false, .bool false, .int .i64 0, .int .i64 0], .int .i64 xe]) (by simp [results, Tryz.results178, go_sem, q0, q1, q2, q3, q4]) rfl ⟨?_, ?_⟩
                · rw [HG2.out]; rfl
                · exact belowA
              · subst hxe
                have hG := HG.out
                rw [if_neg (by simp)] at hG
                have HG2 := Lib.hid hG
                clear hG HG
                go_upto_region 19 with fail
                cases pg <;> cases qg <;> cases pi <;> cases qi
                · go_wp2
                  have y := place_set kr5 xx xg xi 0 0
                  have q0 := y.cell 0; have q1 := y.cell 1; have q2 := y.cell 2; have q3 := y.cell 3; have q4 := y.cell 4
                  dsimp at q0 q1 q2 q3 q4
                  refine bodyPost_ret (v := .tuple #[.agg #[.int .i64 xx, .bool xg, .bool xi, .int .i64 0, .int .i64 0], .int .i64 0]) (by simp [results, Tryz.results178, go_sem, q0, q1, q2, q3, q4]) rfl ⟨?_, ?_⟩
                  · rw [HG2.out]; rfl
                  · exact belowA
                · go_wp2
                  have y := place_set kr5 xx xg true 0 0
                  have q0 := y.cell 0; have q1 := y.cell 1; have q2 := y.cell 2; have q3 := y.cell 3; have q4 := y.cell 4
                  dsimp at q0 q1 q2 q3 q4
                  refine bodyPost_ret (v := .tuple #[.agg #[.int .i64 xx, .bool xg, .bool true, .int .i64 0, .int .i64 0], .int .i64 0]) (by simp [results, Tryz.results178, go_sem, q0, q1, q2, q3, q4]) rfl ⟨?_, ?_⟩
                  · rw [HG2.out]; rfl
                  · exact belowA
                · go_wp2
                  have y := place_set kr5 xx xg true 0 0
                  have q0 := y.cell 0; have q1 := y.cell 1; have q2 := y.cell 2; have q3 := y.cell 3; have q4 := y.cell 4
                  dsimp at q0 q1 q2 q3 q4
                  refine bodyPost_ret (v := .tuple #[.agg #[.int .i64 xx, .bool xg, .bool true, .int .i64 0, .int .i64 0], .int .i64 0]) (by simp [results, Tryz.results178, go_sem, q0, q1, q2, q3, q4]) rfl ⟨?_, ?_⟩
                  · rw [HG2.out]; rfl
                  · exact belowA
                · go_wp2
                  have y := place_set kr5 xx xg true 0 0
                  have q0 := y.cell 0; have q1 := y.cell 1; have q2 := y.cell 2; have q3 := y.cell 3; have q4 := y.cell 4
                  dsimp at q0 q1 q2 q3 q4
                  refine bodyPost_ret (v := .tuple #[.agg #[.int .i64 xx, .bool xg, .bool true, .int .i64 0, .int .i64 0], .int .i64 0]) (by simp [results, Tryz.results178, go_sem, q0, q1, q2, q3, q4]) rfl ⟨?_, ?_⟩
                  · rw [HG2.out]; rfl
                  · exact belowA
                · go_wp2
                  have y := place_set kr5 xx true xi 0 0
                  have q0 := y.cell 0; have q1 := y.cell 1; have q2 := y.cell 2; have q3 := y.cell 3; have q4 := y.cell 4
                  dsimp at q0 q1 q2 q3 q4
                  refine bodyPost_ret (v := .tuple #[.agg #[.int .i64 xx, .bool true, .bool xi, .int .i64 0, .int .i64 0], .int .i64 0]) (by simp [results, Tryz.results178, go_sem, q0, q1, q2, q3, q4]) rfl ⟨?_, ?_⟩
                  · rw [HG2.out]; rfl
                  · exact belowA
                · go_wp2
                  have y := place_set kr5 xx true true 0 0
                  have q0 := y.cell 0; have q1 := y.cell 1; have q2 := y.cell 2; have q3 := y.cell 3; have q4 := y.cell 4
                  dsimp at q0 q1 q2 q3 q4
                  refine bodyPost_ret (v := .tuple #[.agg #[.int .i64 xx, .bool true, .bool true, .int .i64 0, .int .i64 0], .int .i64 0]) (by simp [results, Tryz.results178, go_sem, q0, q1, q2, q3, q4]) rfl ⟨?_, ?_⟩
                  · rw [HG2.out]; rfl
                  · exact belowA
                · go_wp2
                  have y := place_set kr5 xx true true 0 0
                  have q0 := y.cell 0; have q1 := y.cell 1; have q2 := y.cell 2; have q3 := y.cell 3; have q4 := y.cell 4
                  dsimp at q0 q1 q2 q3 q4
                  refine bodyPost_ret (v := .tuple #[.agg #[.int .i64 xx, .bool true, .bool true, .int .i64 0, .int .i64 0], .int .i64 0]) (by simp [results, Tryz.results178, go_sem, q0, q1, q2, q3, q4]) rfl ⟨?_, ?_⟩
                  · rw [HG2.out]; rfl
                  · exact belowA
                · go_wp2
                  have y := place_set kr5 xx true true 0 0
                  have q0 := y.cell 0; have q1 := y.cell 1; have q2 := y.cell 2; have q3 := y.cell 3; have q4 := y.cell 4
                  dsimp at q0 q1 q2 q3 q4
                  refine bodyPost_ret (v := .tuple #[.agg #[.int .i64 xx, .bool true, .bool true, .int .i64 0, .int .i64 0], .int .i64 0]) (by simp [results, Tryz.results178, go_sem, q0, q1, q2, q3, q4]) rfl ⟨?_, ?_⟩
                  · rw [HG2.out]; rfl
                  · exact belowA
                · go_wp2
                  have y := place_set kr5 xx true xi 0 0
                  have q0 := y.cell 0; have q1 := y.cell 1; have q2 := y.cell 2; have q3 := y.cell 3; have q4 := y.cell 4
                  dsimp at q0 q1 q2 q3 q4
                  refine bodyPost_ret (v := .tuple #[.agg #[.int .i64 xx, .bool true, .bool xi, .int .i64 0, .int .i64 0], .int .i64 0]) (by simp [results, Tryz.results178, go_sem, q0, q1, q2, q3, q4]) rfl ⟨?_, ?_⟩
                  · rw [HG2.out]; rfl
                  · exact belowA
                · go_wp2
                  have y := place_set kr5 xx true true 0 0
                  have q0 := y.cell 0; have q1 := y.cell 1; have q2 := y.cell 2; have q3 := y.cell 3; have q4 := y.cell 4
                  dsimp at q0 q1 q2 q3 q4
                  refine bodyPost_ret (v := .tuple #[.agg #[.int .i64 xx, .bool true, .bool true, .int .i64 0, .int .i64 0], .int .i64 0]) (by simp [results, Tryz.results178, go_sem, q0, q1, q2, q3, q4]) rfl ⟨?_, ?_⟩
                  · rw [HG2.out]; rfl
                  · exact belowA
                · go_wp2
                  have y := place_set kr5 xx true true 0 0
                  have q0 := y.cell 0; have q1 := y.cell 1; have q2 := y.cell 2; have q3 := y.cell 3; have q4 := y.cell 4
                  dsimp at q0 q1 q2 q3 q4
                  refine bodyPost_ret (v := .tuple #[.agg #[.int .i64 xx, .bool true, .bool true, .int .i64 0, .int .i64 0], .int .i64 0]) (by simp [results, Tryz.results178, go_sem, q0, q1, q2, q3, q4]) rfl ⟨?_, ?_⟩
                  · rw [HG2.out]; rfl
                  · exact belowA
                · go_wp2
                  have y := place_set kr5 xx true true 0 0
                  have q0 := y.cell 0; have q1 := y.cell 1; have q2 := y.cell 2; have q3 := y.cell 3; have q4 := y.cell 4
                  dsimp at q0 q1 q2 q3 q4
                  refine bodyPost_ret (v := .tuple #[.agg #[.int .i64 xx, .bool true, .bool true, .int .i64 0, .int .i64 0], .int .i64 0]) (by simp [results, Tryz.results178, go_sem, q0, q1, q2, q3, q4]) rfl ⟨?_, ?_⟩
                  · rw [HG2.out]; rfl
                  · exact belowA
                · go_wp2
                  have y := place_set kr5 xx true xi 0 0
                  have q0 := y.cell 0; have q1 := y.cell 1; have q2 := y.cell 2; have q3 := y.cell 3; have q4 := y.cell 4
                  dsimp at q0 q1 q2 q3 q4
                  refine bodyPost_ret (v := .tuple #[.agg #[.int .i64 xx, .bool true, .bool xi, .int .i64 0, .int .i64 0], .int .i64 0]) (by simp [results, Tryz.results178, go_sem, q0, q1, q2, q3, q4]) rfl ⟨?_, ?_⟩
                  · rw [HG2.out]; rfl
                  · exact belowA
                · go_wp2
                  have y := place_set kr5 xx true true 0 0
                  have q0 := y.cell 0; have q1 := y.cell 1; have q2 := y.cell 2; have q3 := y.cell 3; have q4 := y.cell 4
                  dsimp at q0 q1 q2 q3 q4
                  refine bodyPost_ret (v := .tuple #[.agg #[.int .i64 xx, .bool true, .bool true, .int .i64 0, .int .i64 0], .int .i64 0]) (by simp [results, Tryz.results178, go_sem, q0, q1, q2, q3, q4]) rfl ⟨?_, ?_⟩
                  · rw [HG2.out]; rfl
                  · exact belowA
                · go_wp2
                  have y := place_set kr5 xx true true 0 0
                  have q0 := y.cell 0; have q1 := y.cell 1; have q2 := y.cell 2; have q3 := y.cell 3; have q4 := y.cell 4
                  dsimp at q0 q1 q2 q3 q4
                  refine bodyPost_ret (v := .tuple #[.agg #[.int .i64 xx, .bool true, .bool true, .int .i64 0, .int .i64 0], .int .i64 0]) (by simp [results, Tryz.results178, go_sem, q0, q1, q2, q3, q4]) rfl ⟨?_, ?_⟩
                  · rw [HG2.out]; rfl
                  · exact belowA
                · go_wp2
                  have y := place_set kr5 xx true true 0 0
                  have q0 := y.cell 0; have q1 := y.cell 1; have q2 := y.cell 2; have q3 := y.cell 3; have q4 := y.cell 4
                  dsimp at q0 q1 q2 q3 q4
                  refine bodyPost_ret (v := .tuple #[.agg #[.int .i64 xx, .bool true, .bool true, .int .i64 0, .int .i64 0], .int .i64 0]) (by simp [results, Tryz.results178, go_sem, q0, q1, q2, q3, q4]) rfl ⟨?_, ?_⟩
                  · rw [HG2.out]; rfl
                  · exact belowA
theorem ltell_any (bt : Nat) (m : List Rg) (ks : List Lk) : ∀ (b : Nat) (p s : Int) (w : World), LinkAt w w.heap.size bt b m ks → Calls Tryz.prog 178 #[.pointer (some ⟨b, 0, none⟩), .int .i64 p, .int .i64 s] w (TellSays (tellL m ks p s) w) := by
  induction ks with
  | nil => exact fun b p s w h => ltell_nil bt b m p s w h
  | cons k ks ih =>
    intro b p s w h
    rcases hX : tellS k.back p s with ⟨P, er⟩
    by_cases he : er = 0
    · subst he
      exact ltell_go bt b m k ks p s P w h hX ih
    · exact ltell_bad bt b m k ks p s er P w h hX he
section
variable {P : Program} {ops : Array Oper} {Q : Exit → Act → World → Prop} {md : Region.Mode} {S : World → Prop} {ks : List Nat}
/-- whatever comes up, S holds behind it, unless it is one of ks -/
def AnyL (P : Program) (md : Region.Mode) (ops : Array Oper) (Q : Exit → Act → World → Prop) (S : World → Prop) (ks : List Nat) : Nat → Array Bool → Act → World → Prop
  | 0, l, a, w => Region.ready md ops l = [] ∧ Q .normal a w
  | n + 1, l, a, w => (Region.ready md ops l = [] → Q .normal a w) ∧ ∀ i ∈ Region.ready md ops l, wpOp P ops Q i (fun a' w' => (i ∉ ks → S w') ∧ AnyL P md ops Q S ks n (l.setIfInBounds i true) a' w') a w
theorem any_of_L (n : Nat) : ∀ (l : Array Bool) (a : Act) (w : World), AnyL P md ops Q S ks n l a w → wpAny P md ops Q n l a w := by
  induction n with
  | zero => intro l a w h; exact h
  | succ n ih => intro l a w h; exact ⟨h.1, fun i hi => wpOp_mono (fun a' w' h' => ih _ a' w' h'.2) (h.2 i hi)⟩
/-- what is listed has its forerunners listed -/
def Closed (md : Region.Mode) (ops : Array Oper) (l : Array Bool) : Prop := ∀ (j : Nat) (o : Oper), ops[j]? = some o → l.getD j false = true → ∀ e ∈ o.after, Region.binds md e = true → l.getD e.on false = true
def closedB (md : Region.Mode) (ops : Array Oper) (l : Array Bool) : Bool := (List.range ops.size).all fun j => match ops[j]? with | some o => !(l.getD j false) || o.after.all (fun e => !(Region.binds md e) || l.getD e.on false) | none => true
theorem closedB_spec {l : Array Bool} (h : closedB md ops l = true) : Closed md ops l := by
  intro j o ho hl e he hb
  have hj := (Array.getElem?_eq_some_iff.1 ho).1
  have := List.all_eq_true.1 h j (List.mem_range.2 hj)
  rw [ho] at this
  simp only [hl, Bool.not_true, Bool.false_or] at this
  have h2 := Array.all_eq_true'.1 this e he
  simpa [hb] using h2
theorem getD_set_mono {l : Array Bool} {m j : Nat} (h : l.getD m false = true) : (l.setIfInBounds j true).getD m false = true := by
  simp only [Array.getD_eq_getD_getElem?, Array.getElem?_setIfInBounds] at *
  by_cases e : j = m
  · subst e
    rw [if_pos rfl]
    split
    · rfl
    · rename_i hh
      rw [Array.getElem?_eq_none (by omega)] at h
      cases h
  · rw [if_neg e]; exact h
theorem Closed.set {l : Array Bool} {j : Nat} (h : Closed md ops l) (hj : j ∈ Region.ready md ops l) : Closed md ops (l.setIfInBounds j true) := by
  intro m o ho hm e he hb
  by_cases ejm : j = m
  · subst ejm
    obtain ⟨_, o', ho', hall⟩ := mem_ready.1 hj
    rw [ho] at ho'
    injection ho' with ho'
    subst ho'
    exact getD_set_mono (hall e he hb)
  · refine getD_set_mono (h m o ho ?_ e he hb)
    simpa [Array.getElem?_setIfInBounds, ejm] using hm
/-- k waits for i, or for one that does -/
def waits2 (md : Region.Mode) (ops : Array Oper) (k i : Nat) : Bool := match ops[k]? with | some o => o.after.any fun e => Region.binds md e && (decide (e.on = i) || (ops[e.on]?.isSome && waits md ops e.on i)) | none => true
theorem not_ready2 {k i : Nat} {l : Array Bool} (hc : Closed md ops l) (hw : waits2 md ops k i = true) (hi : l.getD i true = false) : k ∉ Region.ready md ops l := by
  intro hk
  have hi' : l.getD i false ≠ true := by
    intro h
    rcases Nat.lt_or_ge i l.size with hs | hs
    · simp [hs] at h hi; rw [hi] at h; cases h
    · simp [Array.getElem?_eq_none hs] at hi
  obtain ⟨_, o, ho, hall⟩ := mem_ready.1 hk
  unfold waits2 at hw
  rw [ho] at hw
  obtain ⟨e, he, hb⟩ := Array.any_eq_true'.1 hw
  simp only [Bool.and_eq_true, Bool.or_eq_true, decide_eq_true_eq] at hb
  have hl := hall e he hb.1
  rcases hb.2 with h | ⟨h1, h2⟩
  · rw [h] at hl; exact hi' hl
  · obtain ⟨o2, ho2⟩ := Option.isSome_iff_exists.1 h1
    unfold waits at h2
    rw [ho2] at h2
    obtain ⟨e2, he2, hb2⟩ := Array.any_eq_true'.1 h2
    simp only [Bool.and_eq_true, decide_eq_true_eq] at hb2
    have := hc _ _ ho2 hl e2 he2 hb2.1
    rw [hb2.2] at this
    exact hi' this
/-- operation i is taken first: those of ks wait for it -/
theorem takeL {i : Nat} {oi : Oper} {v : Value} (hi : ops[i]? = some oi) (hsel : ∀ (j : Nat) (o : Oper) cs b, ops[j]? = some o → o.op ≠ .select cs b)
    (hQ : ∀ c a w, Q (.panic c) (a.put oi.dst v) w → Q (.panic c) a w) (hwt : ∀ k ∈ ks, waits2 md ops k i = true) (n : Nat) :
    ∀ (l : Array Bool) (a : Act) (w : World), Closed md ops l → (∀ j oj, ops[j]? = some oj → j ≠ i → l.getD j true = false → (∀ e ∈ oj.after, Region.binds md e = true → e.on ≠ i) → oi.apart ops oj = true) →
      i ∈ Region.ready md ops l → YieldsIf P ops S oi v a → S w → AnyL P md ops Q S ks n (l.setIfInBounds i true) (a.put oi.dst v) w → AnyL P md ops Q S ks (n + 1) l a w := by
  have other : ∀ {l : Array Bool} {j : Nat}, Closed md ops l → i ∈ Region.ready md ops l → j ∈ Region.ready md ops l → j ≠ i → j ∉ ks ∧ l.getD j true = false ∧ ∃ oj, ops[j]? = some oj ∧ ∀ e ∈ oj.after, Region.binds md e = true → e.on ≠ i := by
    intro l j hc hr hj hji
    refine ⟨fun e => not_ready2 hc (hwt j e) (mem_ready.1 hr).1 hj, ?_⟩
    obtain ⟨h1, oj, h2, h3⟩ := mem_ready.1 hj
    refine ⟨h1, oj, h2, fun e he hb heq => ?_⟩
    have hx := h3 e he hb
    have h0 := (mem_ready.1 hr).1
    rw [heq] at hx
    rcases Nat.lt_or_ge i l.size with h | h
    · simp [h] at h0 hx; rw [h0] at hx; cases hx
    · simp [Array.getElem?_eq_none h] at h0
  induction n with
  | zero =>
    intro l a w hc hfree hr hy hS H
    refine ⟨fun h => absurd (h ▸ hr) (by simp), fun j hj => ?_⟩
    by_cases hji : j = i
    · subst hji; exact hy.wpOp hi hS ⟨fun _ => hS, H⟩
    · exact absurd (H.1 ▸ ready_mono hj hji) (by simp)
  | succ n ih =>
    intro l a w hc hfree hr hy hS H
    refine ⟨fun h => absurd (h ▸ hr) (by simp), fun j hj => ?_⟩
    by_cases hji : j = i
    · subst hji; exact hy.wpOp hi hS ⟨fun _ => hS, H⟩
    obtain ⟨hjk, hjun, oj, hoj, hnot⟩ := other hc hr hj hji
    refine wpOp_mono (fun a' w' h3 => ⟨fun _ => h3.2.1 hjk, ih (l.setIfInBounds j true) a' w' (hc.set hj) ?_ (ready_mono hr (Ne.symm hji)) h3.1 (h3.2.1 hjk) ?_⟩)
      (wpOp_putIf hoj (hfree j oj hoj hji hjun hnot) (fun cs b => hsel i oi cs b hi) (fun cs b => hsel j oj cs b hoj) hQ hy (H.2 j (ready_mono hj hji)))
    · intro m om hom hmi hun hno
      refine hfree m om hom hmi ?_ hno
      by_cases hjm : j = m
      · subst hjm; exact hjun
      · rw [getD_set_ne true hjm] at hun; exact hun
    · rw [Array.setIfInBounds_comm _ _ hji]
      exact h3.2.2
theorem takeL_if {i : Nat} {oi : Oper} {v : Value} {n : Nat} {l : Array Bool} {a : Act} {w : World} (hi : ops[i]? = some oi)
    (hs : Region.noSelect ops = true) (hf : Region.free md ops l i = true) (hr : ((Region.ready md ops l).contains i && ks.all (fun k => waits2 md ops k i) && closedB md ops l) = true)
    (hQ : ∀ c a w, Q (.panic c) (a.put oi.dst v) w → Q (.panic c) a w) (hw : Region.wanted oi (yielded ops a.tmps) = true) (hy : ∀ w, S w → (execOp a.eval oi).run P w = .ok (.value v) w) (hS : S w)
    (h : AnyL P md ops Q S ks n (l.setIfInBounds i true) (a.put oi.dst v) w) : AnyL P md ops Q S ks (n + 1) l a w := by
  rw [Bool.and_eq_true, Bool.and_eq_true] at hr
  exact takeL hi (Region.noSelect_spec hs) hQ (by simpa using hr.1.2) n l a w (closedB_spec hr.2) (Region.free_spec hi hf) (by simpa using hr.1.1) (.inl ⟨hw, hy⟩) hS h
/-- whichever of rs comes next -/
def ReadyL (P : Program) (md : Region.Mode) (ops : Array Oper) (Q : Exit → Act → World → Prop) (S : World → Prop) (ks : List Nat) (n : Nat) (l : Array Bool) (a : Act) (w : World) (rs : List Nat) : Prop :=
  ∀ i ∈ rs, wpOp P ops Q i (fun a' w' => (i ∉ ks → S w') ∧ AnyL P md ops Q S ks n (l.setIfInBounds i true) a' w') a w
theorem ReadyL.nil {n : Nat} {l : Array Bool} {a : Act} {w : World} : ReadyL P md ops Q S ks n l a w [] := fun _ h => by cases h
theorem ReadyL.cons {n : Nat} {l : Array Bool} {a : Act} {w : World} {i : Nat} {o : Oper} {rs : List Nat} (ho : ops[i]? = some o)
    (h : ∀ K : Act → World → Prop, Shut (∀ a w, S w → (S w → AnyL P md ops Q S ks n (l.setIfInBounds i true) a w) → K a w) → if Region.wanted o (yielded ops a.tmps) = true then Oper.wp P o a w K Q else K (a.put o.dst undef) w)
    (hs : ReadyL P md ops Q S ks n l a w rs) : ReadyL P md ops Q S ks n l a w (i :: rs) := by
  intro j hj
  rcases List.mem_cons.1 hj with rfl | hj
  · exact wpOp_step ho fun K hK => h K fun a w hS hW => hK a w ⟨fun _ => hS, hW hS⟩
  · exact hs j hj
theorem anyL_ready {rs : List Nat} {n : Nat} {l : Array Bool} {a : Act} {w : World} (hr : Region.ready md ops l = rs) (hne : rs ≠ []) (h : ReadyL P md ops Q S ks n l a w rs) : AnyL P md ops Q S ks (n + 1) l a w :=
  ⟨fun e => absurd (hr.symm.trans e) hne, fun i hi => h i (hr ▸ hi)⟩
/-- one of the last ones -/
theorem anyL_late {i : Nat} {o : Oper} {n : Nat} {l : Array Bool} {a : Act} {w : World} (hr : Region.ready md ops l = [i]) (hi : ks.contains i = true) (ho : ops[i]? = some o)
    (h : ∀ K : Act → World → Prop, Shut (∀ a w, AnyL P md ops Q S ks n (l.setIfInBounds i true) a w → K a w) → if Region.wanted o (yielded ops a.tmps) = true then Oper.wp P o a w K Q else K (a.put o.dst undef) w) : AnyL P md ops Q S ks (n + 1) l a w := by
  refine ⟨fun e => (by rw [hr] at e; cases e), fun j hj => ?_⟩
  rw [hr] at hj
  obtain rfl : j = i := by simpa using hj
  exact wpOp_step ho fun K hK => h K fun a w hq => hK a w ⟨fun h => absurd (by simpa using hi) h, hq⟩
theorem anyL_done {n : Nat} {l : Array Bool} {a : Act} {w : World} (hr : Region.ready md ops l = []) (hq : Q .normal a w) : AnyL P md ops Q S ks n l a w := by
  cases n with
  | zero => exact ⟨hr, hq⟩
  | succ n => exact ⟨fun _ => hq, fun j hj => by rw [hr] at hj; cases hj⟩
/-- the beginning -/
theorem region_L {id : Nat} {a : Act} {w : World} (ks : List Nat) (hm : P.follows .mixedOrders = true) (hS : S w.drew)
    (h : S w.drew → AnyL P .any ops Q S ks ops.size (Array.replicate ops.size false) a w.drew) : (Code.region id ops true).wp P Q a w :=
  wp_region_any hm (any_of_L _ _ _ _ (h hS))
theorem tkL (i : Nat) {oi : Oper} {v : Value} {fuel : Nat} {listed : Array Bool} {a a' : Act} {w : World} (h : AnyL P md ops Q S ks fuel (listed.setIfInBounds i true) a' w) (hi : ops[i]? = some oi := by simp only [List.getElem?_toArray, List.getElem?_cons_succ, List.getElem?_cons_zero]; rfl)
    (hs : Region.noSelect ops = true := by kernel_rfl) (hf : Region.free md ops listed i = true := by kernel_rfl) (hr : ((Region.ready md ops listed).contains i && ks.all (fun k => waits2 md ops k i) && closedB md ops listed) = true := by kernel_rfl)
    (hQ : ∀ c a w, Q (.panic c) (a.put oi.dst v) w → Q (.panic c) a w := by exact fun _ _ _ h => h) (hw : Region.wanted oi (yielded ops a.tmps) = true := by rfl)
    (hy : ∀ w, S w → (execOp a.eval oi).run P w = .ok (.value v) w := by (focus ((intro w hSw; (try have hSw := HF.out _ hSw); (try dsimp only at hSw); go_simp); try exact rfl)))
    (hS : S w := by assumption)
    (ha : a.put oi.dst v = a' := by (simp only [Act.put, List.setIfInBounds_toArray, List.set_cons_zero, List.set_cons_succ]; rfl)) : AnyL P md ops Q S ks (fuel + 1) listed a w := by
  subst ha
  exact takeL_if hi hs hf hr hQ hw hy hS h
theorem nxL (i : Nat) {o : Oper} {n : Nat} {l : Array Bool} {a : Act} {w : World}
    (h : ∀ K : Act → World → Prop, Shut (∀ a w, S w → (S w → AnyL P md ops Q S ks n (l.setIfInBounds i true) a w) → K a w) → if Region.wanted o (yielded ops a.tmps) = true then Oper.wp P o a w K Q else K (a.put o.dst undef) w)
    (hr : Region.ready md ops l = [i] := by kernel_rfl) (ho : ops[i]? = some o := by simp only [List.getElem?_toArray, List.getElem?_cons_succ, List.getElem?_cons_zero]; rfl) : AnyL P md ops Q S ks (n + 1) l a w :=
  anyL_ready hr (by simp) (ReadyL.cons ho h ReadyL.nil)
theorem ltL (i : Nat) {o : Oper} {n : Nat} {l : Array Bool} {a : Act} {w : World}
    (h : ∀ K : Act → World → Prop, Shut (∀ a w, AnyL P md ops Q S ks n (l.setIfInBounds i true) a w → K a w) → if Region.wanted o (yielded ops a.tmps) = true then Oper.wp P o a w K Q else K (a.put o.dst undef) w)
    (hr : Region.ready md ops l = [i] := by kernel_rfl) (hi : ks.contains i = true := by kernel_rfl) (ho : ops[i]? = some o := by simp only [List.getElem?_toArray, List.getElem?_cons_succ, List.getElem?_cons_zero]; rfl) : AnyL P md ops Q S ks (n + 1) l a w :=
  anyL_late hr hi ho h
end
section
variable {P : Program} {ops : Array Oper} {Q : Exit → Act → World → Prop} {md : Region.Mode} {S : World → Prop} {ks : List Nat}
theorem puH {fuel : Nat} {listed : Array Bool} {a a' : Act} {w : World} (h : wpAnyH P md ops Q S fuel listed a' w) (ha : a = a' := by ((try simp only [Act.put, List.setIfInBounds_toArray, List.set_cons_zero, List.set_cons_succ]); rfl)) : wpAnyH P md ops Q S fuel listed a w := by
  subst ha
  exact h
theorem puL {fuel : Nat} {listed : Array Bool} {a a' : Act} {w : World} (h : AnyL P md ops Q S ks fuel listed a' w) (ha : a = a' := by ((try simp only [Act.put, List.setIfInBounds_toArray, List.set_cons_zero, List.set_cons_succ]); rfl)) : AnyL P md ops Q S ks fuel listed a w := by
  subst ha
  exact h
end
/-- what 'tell' of a link is, as a value -/
abbrev tellV (bl : Nat) : Value := .func (.func 178) #[.pointer (some ⟨bl, 0, none⟩)] #[]
/-- a link tells T from w on, whatever becomes of the blocks from B on -/
def Tells (T : Int → Int → Pl × Int) (bl B : Nat) (w : World) : Prop := B ≤ w.heap.size ∧ ∀ (W : World) (p s : Int), Below B w W → Calls Tryz.prog 178 #[.pointer (some ⟨bl, 0, none⟩), .int .i64 p, .int .i64 s] W (TellSays (T p s) W)
theorem Tells.ext {T : Int → Int → Pl × Int} {bl B : Nat} {w W : World} (h : Tells T bl B w) (hb : Below B w W) : Tells T bl B W := ⟨Nat.le_trans h.1 hb.size, fun W' p s hb' => h.2 W' p s (hb.trans hb')⟩
theorem tells_link {bt bl B : Nat} {m : List Rg} {ks : List Lk} {w : World} (h : LinkAt w B bt bl m ks) (hB : B ≤ w.heap.size) : Tells (tellL m ks) bl B w := ⟨hB, fun W p s hb => ltell_any bt m ks bl p s W ((h.below hb).more (Nat.le_trans hB hb.size))⟩
@[go_sem] theorem nilf_not (bl : Nat) (w : World) : (binOp .eql 295 (tellV bl) .nilFunc).run Tryz.prog w = .ok (.bool false) w := by
  kernel_rfl
set_option maxRecDepth 100000 in
set_option maxHeartbeats 2000000 in
theorem pinat_any (T : Int → Int → Pl × Int) (bl B bx : Nat) (p : Int) (w : World) (hT : Tells T bl B w) (hk : Bk w bx 295 #[tellV bl]) :
    Calls Tryz.prog 210 #[.int .i64 p, .pointer (some ⟨bx, 0, none⟩)] w fun e w' => e = .returned (.int .i64 (pinAt T p)) ∧ Below w.heap.size w w' := by
  have ht := fun W hb => calls_on hb (hT.2 W p 1 (hb.mono hT.1))
  have hv : pinAt T p = if (T p 1).2 = 0 then (T p 1).1.pos else 0 := rfl
  rw [hv]
  obtain ⟨⟨⟨x, g, i, r, o⟩, er⟩, hX⟩ : ∃ y, T p 1 = y := ⟨_, rfl⟩
  rw [hX]
  simp only [hX, Pl.val] at ht
  have HT := Lib.hid ht
  have c0 := hk.cell 0
  dsimp at c0
  clear ht hT hv hX
  by_cases he : er = 0
  · subst he
    rw [if_pos rfl]
    go_enter Tryz.func210, Tryz.ntmps210
    go_wp2_with (go_at_call 178; (refine (HT.out _ belowA).mono ?_); rintro e w1 ⟨rfl, hb1, hz1, hx1⟩)
    go_ret
    exact ⟨rfl, belowA⟩
  · rw [if_neg he]
    have t1 : (er == 0) = false := by simpa using he
    go_enter Tryz.func210, Tryz.ntmps210
    go_wp2_with (go_at_call 178; (refine (HT.out _ belowA).mono ?_); rintro e w1 ⟨rfl, hb1, hz1, hx1⟩)
    go_ret
    exact ⟨rfl, belowA⟩
set_option maxRecDepth 100000 in
set_option maxHeartbeats 2000000 in
theorem pinby_any (T : Int → Int → Pl × Int) (bl B : Nat) (k a b : Int) (w : World) (hT : Tells T bl B w) :
    Calls Tryz.prog 177 #[.agg #[.int .i64 k, .int .i64 a, .int .i64 b], tellV bl] w fun e w' => e = .returned (.agg #[.int .i64 (pinB T ⟨k, a, b⟩).k, .int .i64 (pinB T ⟨k, a, b⟩).a, .int .i64 (pinB T ⟨k, a, b⟩).b]) ∧ Below w.heap.size w w' := by
  have hat := fun W (p : Int) (hb : Below w.heap.size w W) (hk : Bk W (w.heap.size + 1) 295 #[tellV bl]) => calls_on hb (pinat_any T bl B (w.heap.size + 1) p W (hT.ext (hb.mono hT.1)) hk)
  have HA := Lib.hid hat
  clear hat hT
  have k0 : Bk (((w.alloc (.cells #[.int .i64 k, .int .i64 a, .int .i64 b] 74)).alloc (.cells #[tellV bl] 295)).alloc (.cells #[.int .i64 0, .int .i64 0, .int .i64 0] 74)) w.heap.size 74 #[.int .i64 k, .int .i64 a, .int .i64 b] := ((Bk.new w 74 _).alloc _).alloc _
  have k1 : Bk (((w.alloc (.cells #[.int .i64 k, .int .i64 a, .int .i64 b] 74)).alloc (.cells #[tellV bl] 295)).alloc (.cells #[.int .i64 0, .int .i64 0, .int .i64 0] 74)) (w.heap.size + 1) 295 #[tellV bl] := (Bk.made _ _ (by simp)).alloc _
  have k2 : Bk (((w.alloc (.cells #[.int .i64 k, .int .i64 a, .int .i64 b] 74)).alloc (.cells #[tellV bl] 295)).alloc (.cells #[.int .i64 0, .int .i64 0, .int .i64 0] 74)) (w.heap.size + 1 + 1) 74 #[.int .i64 0, .int .i64 0, .int .i64 0] := Bk.made _ _ (by simp)
  have hb0 : Below w.heap.size w (((w.alloc (.cells #[.int .i64 k, .int .i64 a, .int .i64 b] 74)).alloc (.cells #[tellV bl] 295)).alloc (.cells #[.int .i64 0, .int .i64 0, .int .i64 0] 74)) := belowA
  by_cases h1 : k = 1
  · subst h1
    go_enter Tryz.func177, Tryz.ntmps177
    go_upto_region 6 with fail
    generalize ((w.alloc (.cells #[.int .i64 1, .int .i64 a, .int .i64 b] 74)).alloc (.cells #[tellV bl] 295)).alloc (.cells #[.int .i64 0, .int .i64 0, .int .i64 0] 74) = w0 at *
    have hF : ∀ w', Below w0.heap.size w0 w' → w'.cell? ⟨w.heap.size, 1, none⟩ = some (.int .i64 a) ∧ w'.cell? ⟨w.heap.size, 2, none⟩ = some (.int .i64 b) := fun w' hb => ⟨(k0.ext hb).cell 1, (k0.ext hb).cell 2⟩
    have HF := Lib.hid hF
    have hz0 := hb0.size
    clear hF
    refine wp_normal ?_
    refine region_L (S := fun w' => Below w0.heap.size w0 w') [9, 10, 11] (by kernel_rfl) (Below.refl _ _).drew (fun hHeld => ?_)
    (refine tkL 0 ?_; refine tkL 1 ?_; refine tkL 2 ?_; refine tkL 4 ?_; refine tkL 5 ?_; refine tkL 6 ?_)
    refine nxL 3 (fun K hK => ?_)
    go_simp
    go_at_call 210
    refine (HA.out _ a hb0.drew k1.drew).mono ?_
    rintro e w1 ⟨rfl, hb1, hz1, hx1⟩
    have hx1' : Below w0.heap.size w0 w1 := Below.trans (Below.refl _ _).drew hx1
    refine hK.out _ _ hx1' (fun hHeld => ?_)
    clear hK K; refine puL ?_
    (refine tkL 8 ?_)
    refine nxL 7 (fun K hK => ?_)
    go_simp
    go_at_call 210
    refine (HA.out _ b hb1 (k1.ext hx1')).mono ?_
    rintro e w2 ⟨rfl, hb2, hz2, hx2⟩
    have hx2' := hx1'.trans (hx2.mono hx1'.size)
    have n0 := k0.ext hx2'
    have n2 := k2.ext hx2'
    have f0 := n0.frozen
    have f2 := n2.frozen
    have l0 := def_lt' n0
    have l2 := def_lt' n2
    have z0 := n0.cell 0; have z1 := n0.cell 1; have z2 := n0.cell 2
    have y0 := n2.cell 0; have y1 := n2.cell 1; have y2 := n2.cell 2
    dsimp at z0 z1 z2 y0 y1 y2
    refine hK.out _ _ hx2' (fun hHeld => ?_)
    clear hK K; refine puL ?_
    refine ltL 9 (fun K hK => ?_)
    go_simp
    refine hK.out _ _ ?_
    clear hK K; refine puL ?_
    refine ltL 10 (fun K hK => ?_)
    go_simp
    refine hK.out _ _ ?_
    clear hK K; refine puL ?_
    refine ltL 11 (fun K hK => ?_)
    go_simp
    refine hK.out _ _ ?_
    clear hK K; refine puL ?_
    refine anyL_done (by kernel_rfl) ?_
    go_wp2
    have y : Bk (((((w2.setCell ⟨w.heap.size, 1, none⟩ (.int .i64 (pinAt T a))).setCell ⟨w.heap.size, 2, none⟩ (.int .i64 (pinAt T b))).setCell ⟨w.heap.size + 1 + 1, 0, none⟩ (.int .i64 1)).setCell ⟨w.heap.size + 1 + 1, 1, none⟩ (.int .i64 (pinAt T a))).setCell ⟨w.heap.size + 1 + 1, 2, none⟩ (.int .i64 (pinAt T b))) (w.heap.size + 1 + 1) 74 #[.int .i64 1, .int .i64 (pinAt T a), .int .i64 (pinAt T b)] := ((((n2.far (p := ⟨w.heap.size, 1, none⟩) (by simp <;> omega) (.int .i64 (pinAt T a))).far (p := ⟨w.heap.size, 2, none⟩) (by simp <;> omega) (.int .i64 (pinAt T b))).set_ 0 _).set_ 1 _).set_ 2 _
    have q0 := y.cell 0; have q1 := y.cell 1; have q2 := y.cell 2
    dsimp at q0 q1 q2
    refine bodyPost_ret (v := .agg #[.int .i64 1, .int .i64 (pinAt T a), .int .i64 (pinAt T b)]) (by simp [results, Tryz.results177, go_sem, q0, q1, q2]) rfl ⟨by simp [pinB], ?_⟩
    exact belowA
  by_cases h2 : k = 2
  · subst h2
    go_enter Tryz.func177, Tryz.ntmps177
    go_upto_region 8 with fail
    generalize ((w.alloc (.cells #[.int .i64 2, .int .i64 a, .int .i64 b] 74)).alloc (.cells #[tellV bl] 295)).alloc (.cells #[.int .i64 0, .int .i64 0, .int .i64 0] 74) = w0 at *
    have z1 := k0.cell 1
    dsimp at z1
    have hz0 := hb0.size
    go_wp2_with (go_at_call 210; (refine (HA.out _ a hb0 k1).mono ?_); rintro e w2 ⟨rfl, hb2, hz2, hx2⟩; have n0 := k0.ext hx2; have n2 := k2.ext hx2; have f0 := n0.frozen; have f2 := n2.frozen; have l0 := def_lt' n0; have l2 := def_lt' n2; have z0 := n0.cell 0; have z1 := n0.cell 1; have z2 := n0.cell 2; have y0 := n2.cell 0; have y1 := n2.cell 1; have y2 := n2.cell 2; dsimp at z0 z1 z2 y0 y1 y2)
    have y : Bk ((((w2.setCell ⟨w.heap.size, 1, none⟩ (.int .i64 (pinAt T a))).setCell ⟨w.heap.size + 1 + 1, 0, none⟩ (.int .i64 2)).setCell ⟨w.heap.size + 1 + 1, 1, none⟩ (.int .i64 (pinAt T a))).setCell ⟨w.heap.size + 1 + 1, 2, none⟩ (.int .i64 b)) (w.heap.size + 1 + 1) 74 #[.int .i64 2, .int .i64 (pinAt T a), .int .i64 b] := (((n2.far (p := ⟨w.heap.size, 1, none⟩) (by simp <;> omega) (.int .i64 (pinAt T a))).set_ 0 _).set_ 1 _).set_ 2 _
    have q0 := y.cell 0; have q1 := y.cell 1; have q2 := y.cell 2
    dsimp at q0 q1 q2
    refine bodyPost_ret (v := .agg #[.int .i64 2, .int .i64 (pinAt T a), .int .i64 b]) (by simp [results, Tryz.results177, go_sem, q0, q1, q2]) rfl ⟨by simp [pinB], ?_⟩
    exact belowA
  · have e1 : (k == 1) = false := by simpa using h1
    have e2 : (k == 2) = false := by simpa using h2
    have hp : pinB T ⟨k, a, b⟩ = ⟨k, a, b⟩ := by simp [pinB, h1, h2]
    rw [hp]
    have q : Bk (((((w.alloc (.cells #[.int .i64 k, .int .i64 a, .int .i64 b] 74)).alloc (.cells #[tellV bl] 295)).alloc (.cells #[.int .i64 k, .int .i64 a, .int .i64 b] 74)))) (w.heap.size + 1 + 1) 74 #[.int .i64 k, .int .i64 a, .int .i64 b] := Bk.made _ _ (by simp)
    have q0 := q.cell 0; have q1 := q.cell 1; have q2 := q.cell 2
    dsimp at q0 q1 q2
    clear hp h1 h2
    go_enter Tryz.func177, Tryz.ntmps177
    go_wp2
    refine bodyPost_ret (v := .agg #[.int .i64 k, .int .i64 a, .int .i64 b]) (by simp [results, Tryz.results177, go_sem, q0, q1, q2]) rfl ⟨rfl, ?_⟩
    exact belowA
/-- a shifter -/
abbrev Shf (w : World) (bs bl : Nat) (bad : Bool) : Prop := Bk w bs 351 #[tellV bl, .bool bad]
set_option maxRecDepth 100000 in
set_option maxHeartbeats 2000000 in
theorem at_any (T : Int → Int → Pl × Int) (bl B bs : Nat) (bad : Bool) (p s : Int) (w : World) (hT : Tells T bl B w) (hk : Shf w bs bl bad) :
    Calls Tryz.prog 228 #[.pointer (some ⟨bs, 0, none⟩), .int .i64 p, .int .i64 s] w fun e w' => e = .returned (T p s).1.val ∧ w.grownBy w' (some bs) ∧ Shf w' bs bl (bad || decide ((T p s).2 ≠ 0)) := by
  have ht := fun W hb => calls_on hb (hT.2 W p s (hb.mono hT.1))
  obtain ⟨⟨⟨x, g, i, r, o⟩, er⟩, hX⟩ : ∃ y, T p s = y := ⟨_, rfl⟩
  rw [hX]
  simp only [hX, Pl.val] at ht ⊢
  have HT := Lib.hid ht
  have c0 := hk.cell 0
  have hlk := def_lt' hk
  dsimp at c0
  clear ht hT hX
  cases bad with
  | true =>
    go_enter Tryz.func228, Tryz.ntmps228
    go_upto_region 2 with (go_at_call 178; (refine (HT.out _ belowA).mono ?_); rintro e w1 ⟨rfl, hb1, hz1, hx1⟩)
    have kr := ((Bk.new w 327 #[.int .i64 0, .bool false, .bool false, .int .i64 0, .int .i64 0]).ext hx1)
    have ks := (hk.alloc (.cells #[.int .i64 0, .bool false, .bool false, .int .i64 0, .int .i64 0] 327)).ext hx1
    have lr := def_lt' kr; have fr := kr.frozen; have ls := def_lt' ks; have fs := ks.frozen
    have r0 := kr.cell 0; have r1 := kr.cell 1; have r2 := kr.cell 2; have r3 := kr.cell 3; have r4 := kr.cell 4
    have s0 := ks.cell 0; have s1 := ks.cell 1
    dsimp at r0 r1 r2 r3 r4 s0 s1
    have hne : bs ≠ w.heap.size := Nat.ne_of_lt hlk
    have hg : w.grownBy w1 (some bs) := gr_of_below hb1
    go_wp2
    have y := (place_set (kr.far (p := ⟨bs, 1, none⟩) (Ne.symm hne) (.bool true)) x g i r o).alloc (.cells #[.int .i64 x, .bool g, .bool i, .int .i64 r, .int .i64 o] 327)
    have z := ((((((ks.set_ 1 (.bool true)).far (p := ⟨w.heap.size, 0, none⟩) hne (.int .i64 x)).far (p := ⟨w.heap.size, 1, none⟩) hne (.bool g)).far (p := ⟨w.heap.size, 2, none⟩) hne (.bool i)).far (p := ⟨w.heap.size, 3, none⟩) hne (.int .i64 r)).far (p := ⟨w.heap.size, 4, none⟩) hne (.int .i64 o)).alloc (.cells #[.int .i64 x, .bool g, .bool i, .int .i64 r, .int .i64 o] 327)
    have q0 := y.cell 0; have q1 := y.cell 1; have q2 := y.cell 2; have q3 := y.cell 3; have q4 := y.cell 4
    dsimp at q0 q1 q2 q3 q4
    refine bodyPost_ret (v := .agg #[.int .i64 x, .bool g, .bool i, .int .i64 r, .int .i64 o]) (by simp [results, Tryz.results228, go_sem, q0, q1, q2, q3, q4]) rfl ⟨rfl, ?_, ?_⟩
    · repeat (first | with_reducible assumption | (with_reducible refine gr_drewN ?_ _) | (with_reducible refine gr_drew ?_) | (with_reducible refine gr_alloc ?_ _) | (with_reducible refine gr_set ?_ ?_ _; rotate_left; focus (first | (with_reducible exact .inl rfl) | exact .inr (by first | with_reducible assumption | omega | (simp; done) | (simp; omega)))))
    · first | exact z | simpa using z
  | false =>
    by_cases he : er = 0
    · subst he
      go_enter Tryz.func228, Tryz.ntmps228
      go_upto_region 2 with (go_at_call 178; (refine (HT.out _ belowA).mono ?_); rintro e w1 ⟨rfl, hb1, hz1, hx1⟩)
      have kr := ((Bk.new w 327 #[.int .i64 0, .bool false, .bool false, .int .i64 0, .int .i64 0]).ext hx1)
      have ks := (hk.alloc (.cells #[.int .i64 0, .bool false, .bool false, .int .i64 0, .int .i64 0] 327)).ext hx1
      have lr := def_lt' kr; have fr := kr.frozen; have ls := def_lt' ks; have fs := ks.frozen
      have r0 := kr.cell 0; have r1 := kr.cell 1; have r2 := kr.cell 2; have r3 := kr.cell 3; have r4 := kr.cell 4
      have s0 := ks.cell 0; have s1 := ks.cell 1
      dsimp at r0 r1 r2 r3 r4 s0 s1
      have hne : bs ≠ w.heap.size := Nat.ne_of_lt hlk
      have hg : w.grownBy w1 (some bs) := gr_of_below hb1
      go_wp2
      have y := (place_set (kr.far (p := ⟨bs, 1, none⟩) (Ne.symm hne) (.bool false)) x g i r o).alloc (.cells #[.int .i64 x, .bool g, .bool i, .int .i64 r, .int .i64 o] 327)
      have z := ((((((ks.set_ 1 (.bool false)).far (p := ⟨w.heap.size, 0, none⟩) hne (.int .i64 x)).far (p := ⟨w.heap.size, 1, none⟩) hne (.bool g)).far (p := ⟨w.heap.size, 2, none⟩) hne (.bool i)).far (p := ⟨w.heap.size, 3, none⟩) hne (.int .i64 r)).far (p := ⟨w.heap.size, 4, none⟩) hne (.int .i64 o)).alloc (.cells #[.int .i64 x, .bool g, .bool i, .int .i64 r, .int .i64 o] 327)
      have q0 := y.cell 0; have q1 := y.cell 1; have q2 := y.cell 2; have q3 := y.cell 3; have q4 := y.cell 4
      dsimp at q0 q1 q2 q3 q4
      refine bodyPost_ret (v := .agg #[.int .i64 x, .bool g, .bool i, .int .i64 r, .int .i64 o]) (by simp [results, Tryz.results228, go_sem, q0, q1, q2, q3, q4]) rfl ⟨rfl, ?_, ?_⟩
      · repeat (first | with_reducible assumption | (with_reducible refine gr_drewN ?_ _) | (with_reducible refine gr_drew ?_) | (with_reducible refine gr_alloc ?_ _) | (with_reducible refine gr_set ?_ ?_ _; rotate_left; focus (first | (with_reducible exact .inl rfl) | exact .inr (by first | with_reducible assumption | omega | (simp; done) | (simp; omega)))))
      · first | exact z | simpa using z
    · have t1 : (er == 0) = false := by simpa using he
      have t3 : (er != 0) = true := by simpa using he
      have t2 : decide (er ≠ 0) = true := decide_eq_true he
      rw [t2]
      go_enter Tryz.func228, Tryz.ntmps228
      go_upto_region 2 with (go_at_call 178; (refine (HT.out _ belowA).mono ?_); rintro e w1 ⟨rfl, hb1, hz1, hx1⟩)
      have kr := ((Bk.new w 327 #[.int .i64 0, .bool false, .bool false, .int .i64 0, .int .i64 0]).ext hx1)
      have ks := (hk.alloc (.cells #[.int .i64 0, .bool false, .bool false, .int .i64 0, .int .i64 0] 327)).ext hx1
      have lr := def_lt' kr; have fr := kr.frozen; have ls := def_lt' ks; have fs := ks.frozen
      have r0 := kr.cell 0; have r1 := kr.cell 1; have r2 := kr.cell 2; have r3 := kr.cell 3; have r4 := kr.cell 4
      have s0 := ks.cell 0; have s1 := ks.cell 1
      dsimp at r0 r1 r2 r3 r4 s0 s1
      have hne : bs ≠ w.heap.size := Nat.ne_of_lt hlk
      have hg : w.grownBy w1 (some bs) := gr_of_below hb1
      go_wp2
      have y := (place_set (kr.far (p := ⟨bs, 1, none⟩) (Ne.symm hne) (.bool true)) x g i r o).alloc (.cells #[.int .i64 x, .bool g, .bool i, .int .i64 r, .int .i64 o] 327)
      have z := ((((((ks.set_ 1 (.bool true)).far (p := ⟨w.heap.size, 0, none⟩) hne (.int .i64 x)).far (p := ⟨w.heap.size, 1, none⟩) hne (.bool g)).far (p := ⟨w.heap.size, 2, none⟩) hne (.bool i)).far (p := ⟨w.heap.size, 3, none⟩) hne (.int .i64 r)).far (p := ⟨w.heap.size, 4, none⟩) hne (.int .i64 o)).alloc (.cells #[.int .i64 x, .bool g, .bool i, .int .i64 r, .int .i64 o] 327)
      have q0 := y.cell 0; have q1 := y.cell 1; have q2 := y.cell 2; have q3 := y.cell 3; have q4 := y.cell 4
      dsimp at q0 q1 q2 q3 q4
      refine bodyPost_ret (v := .agg #[.int .i64 x, .bool g, .bool i, .int .i64 r, .int .i64 o]) (by simp [results, Tryz.results228, go_sem, q0, q1, q2, q3, q4]) rfl ⟨rfl, ?_, ?_⟩
      · repeat (first | with_reducible assumption | (with_reducible refine gr_drewN ?_ _) | (with_reducible refine gr_drew ?_) | (with_reducible refine gr_alloc ?_ _) | (with_reducible refine gr_set ?_ ?_ _; rotate_left; focus (first | (with_reducible exact .inl rfl) | exact .inr (by first | with_reducible assumption | omega | (simp; done) | (simp; omega)))))
      · first | exact z | simpa using z
end Go.Proofs.YtmacfoebfpljoaaGreat
