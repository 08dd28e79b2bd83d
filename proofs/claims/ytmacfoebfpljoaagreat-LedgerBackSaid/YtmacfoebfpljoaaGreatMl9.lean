/- merged texts: Htb K1 K2 Pu K3 Htc Htd Hte Htf Htg -/
import Derived.Test.YtmacfoebfpljoaaGreatMl8
import Derived.Test.YtmacfoebfpljoaaGreatMl1
namespace Go.Proofs.YtmacfoebfpljoaaGreat
open Go.RowKit
set_option linter.unusedVariables false
/-- blocks but those of Y are as they were -/
structure Sti (Y : Nat → Prop) (w w' : World) : Prop where
  os : w'.os = w.os
  tape : w'.tape = w.tape
  output : w'.output = w.output
  size : w.heap.size ≤ w'.heap.size
  block : ∀ i, i < w.heap.size → ¬ Y i → w'.heap[i]? = w.heap[i]?
section
variable {Y Z : Nat → Prop} {w w' w'' : World}
theorem Sti.refl (Y : Nat → Prop) (w : World) : Sti Y w w := ⟨rfl, rfl, rfl, Nat.le_refl _, fun _ _ _ => rfl⟩
theorem Sti.of_below (h : Below w.heap.size w w') : Sti Y w w' := ⟨h.os, h.tape, h.output, h.size, fun i hi _ => h.block i hi⟩
theorem Sti.of_gr {row : Option Nat} (h : w.grownBy w' row) (hX : ∀ i, row = some i → Y i) : Sti Y w w' := ⟨h.os, h.tape, h.output, h.size, fun i hi hx => h.block i hi (fun e => hx (hX i e.symm))⟩
theorem Sti.trans (h : Sti Y w w') (k : Sti Z w' w'') (hY : ∀ i, Z i → Y i ∨ w.heap.size ≤ i) : Sti Y w w'' := ⟨k.os.trans h.os, k.tape.trans h.tape, k.output.trans h.output, Nat.le_trans h.size k.size, fun i hi hx => (k.block i (Nat.lt_of_lt_of_le hi h.size) (fun hz => by rcases hY i hz with h1 | h1; (· exact hx h1); (· omega))).trans (h.block i hi hx)⟩
theorem Sti.wide (h : Sti Y w w') (hY : ∀ i, Y i → Z i ∨ w.heap.size ≤ i) : Sti Z w w' := (Sti.refl Z w).trans h hY
theorem Sti.below {B : Nat} (h : Sti Y w w') (hX : ∀ i, Y i → B ≤ i) (hB : B ≤ w.heap.size) : Below B w w' := ⟨h.os, h.tape, h.output, h.size, fun i hi => h.block i (by omega) (fun hx => by have := hX i hx; omega)⟩
theorem Sti.set_ {p : Addr} (h : Sti Y w w') (hp : Y p.block ∨ w.heap.size ≤ p.block) (u : Value) : Sti Y w (w'.setCell p u) :=
  h.trans (Z := fun i => i = p.block) ⟨rfl, rfl, rfl, by simp [World.setCell], fun i hi hn => Below.heap_setCell w' p u i hn⟩ (fun i hi => by have hi : i = p.block := hi; rw [hi]; exact hp)
theorem Sti.own {base : Nat} {e : TypeId} {size : Nat} {v : Value} {n : Nat} {xs : List Value} (h : Sti Y w w') (ho : w.ownsRow base e size v n xs) (hy : ∀ g, v.ownBlock = some g → ¬ Y g) : w'.ownsRow base e size v n xs := by
  obtain ⟨h1, h2⟩ := ho
  refine ⟨h1, ?_⟩
  rcases h2 with h2 | ⟨g, cap, cur, hv, hb, hh, r⟩
  · exact .inl h2
  · exact .inr ⟨g, cap, cur, hv, hb, (h.block g (def_lt' hh) (hy g (by rw [hv]; rfl))).trans hh, r⟩
theorem Sti.bk {b : Nat} {t : TypeId} {cs : Array Value} (h : Sti Y w w') (k : Bk w b t cs) (hy : ¬ Y b) : Bk w' b t cs := (h.block b (def_lt' k) hy).trans k
theorem Sti.ns {base m : Nat} {v : Value} (h : Sti Y w w') (ho : NsIn w base m v) (hy : ∀ g, v.ownBlock = some g → ¬ Y g) : NsIn w' base m v := by
  obtain ⟨cs, h1, h2⟩ := ho
  exact ⟨cs, h.own h1 hy, h2⟩
end
/-- the block is none of a list of numbers -/
theorem NsIn.ne {w : World} {base m b : Nat} {t : TypeId} {cs : Array Value} {v : Value} (h : NsIn w base m v) (k : Bk w b t cs) (hne : 3 ≠ t) : v.ownBlock ≠ some b := by
  obtain ⟨xs, h1, -⟩ := h
  exact own_ne h1 k hne
theorem NsIn.ne_row {w : World} {base base' m n size : Nat} {e : TypeId} {v v' : Value} {xs : List Value} (h : NsIn w base m v) (k : w.ownsRow base' e size v' n xs) (hne : 3 ≠ e) : ∀ g, v'.ownBlock = some g → v.ownBlock ≠ some g := by
  obtain ⟨ys, h1, -⟩ := h
  exact hown_type h1 k hne
/-- rows of rising lists -/
def Rws (w : World) (B m : Nat) (v : Value) (K : Nat) : Prop := ∃ vs : List Value, w.ownsRow B 51 1 v K vs ∧ ∀ u ∈ vs, NsIn w B m u
theorem info_li : (Tryz.prog.info? 51).map (fun i => (i.zero, i.size, i.bytes)) = some (some (.slice none 0 0), 1, 24) := by kernel_rfl
section
variable {w w' : World} {B m K : Nat} {v v' : Value} {Y : Nat → Prop}
theorem Rws.nil (w : World) (B m : Nat) : Rws w B m (.slice none 0 0) 0 := ⟨[], World.ownsRow_nil _ _ _ _, (fun u h => by cases h)⟩
theorem Rws.below (h : Rws w B m v K) (hb : Below w.heap.size w w') : Rws w' B m v K := by
  obtain ⟨vs, h1, h2⟩ := h
  exact ⟨vs, own_below h1 hb, fun u hu => (h2 u hu).below hb⟩
theorem Rws.mono {m' : Nat} (h : Rws w B m v K) (hm : m ≤ m') : Rws w B m' v K := by
  obtain ⟨vs, h1, h2⟩ := h
  exact ⟨vs, h1, fun u hu => (h2 u hu).mono hm (Nat.le_refl _)⟩
theorem Rws.sti (h : Rws w B m v K) (hs : Sti Y w w') (hv : ∀ g, v.ownBlock = some g → ¬ Y g) (hy : ∀ u, NsIn w B m u → ∀ g, u.ownBlock = some g → ¬ Y g) : Rws w' B m v K := by
  obtain ⟨vs, h1, h2⟩ := h
  exact ⟨vs, hs.own h1 hv, fun u hu => hs.ns (h2 u hu) (hy u (h2 u hu))⟩
theorem Rws.form (h : Rws w B m v K) : ∃ A c, v = .slice A K c := by
  obtain ⟨vs, h1, h2⟩ := h
  obtain ⟨A, c, e, -⟩ := own_form h1
  exact ⟨A, c, e⟩
theorem Rws.at_ {A : Option Addr} {c k : Nat} (h : Rws w B m (.slice A K c) K) (hk : k < K) : ∃ (g : Nat) (u : Value), A = some ⟨g, 0, none⟩ ∧ B ≤ g ∧ g < w.heap.size ∧ w.cell? ⟨g, k, none⟩ = some u ∧ NsIn w B m u ∧ (∀ i, w.frozen? ⟨g, i, none⟩ = false) := by
  obtain ⟨vs, h1, h2⟩ := h
  obtain ⟨hl, h3⟩ := h1
  rcases h3 with ⟨h4, h5⟩ | ⟨g, cap, cur, hv, hb, hh, hnc, hcm, hsz, htk⟩
  · omega
  · injection hv with e1 e2 e3
    have hlt : k < vs.length := by rw [hl]; omega
    obtain ⟨x, hu⟩ : ∃ x, vs[k]? = some x := ⟨_, List.getElem?_eq_getElem hlt⟩
    refine ⟨g, x, e1, hb, def_lt' hh, ?_, h2 _ (List.mem_of_getElem? hu), fun i => ?_⟩
    · have hk' : Bk w g 51 cur := hh
      rw [hk'.cell k]
      rw [← htk, List.getElem?_take] at hu
      split at hu
      · simpa using hu
      · cases hu
    · have hk' : Bk w g 51 cur := hh
      exact hk'.frozen i
/-- an element is set -/
theorem own_put1 {e : TypeId} {base g cap k n : Nat} {xs : List Value} (h : w.ownsRow base e 1 (.slice (some ⟨g, 0, none⟩) n cap) n xs) (hk : k < n) (u : Value) : (w.setCell ⟨g, k, none⟩ u).ownsRow base e 1 (.slice (some ⟨g, 0, none⟩) n cap) n (xs.set k u) := by
  obtain ⟨hl, h3⟩ := h
  refine ⟨by simpa using hl, .inr ?_⟩
  rcases h3 with ⟨h4, h5⟩ | ⟨g', cap', cur, hv, hb, hh, hnc, hcm, hsz, htk⟩
  · omega
  · injection hv with e1 e2 e3
    injection e1 with e1
    injection e1 with e1
    subst e1
    subst e3
    have hk' : Bk w g e cur := hh
    refine ⟨g, cap, cur.setIfInBounds k u, rfl, hb, hk'.set_ k u, hnc, hcm, by simpa using hsz, ?_⟩
    rw [Array.toList_setIfInBounds, ← htk, List.take_set]
theorem Rws.put {g c k : Nat} {u : Value} (h : Rws w B m (.slice (some ⟨g, 0, none⟩) K c) K) (hk : k < K) (hu : NsIn w B m u) : Rws (w.setCell ⟨g, k, none⟩ u) B m (.slice (some ⟨g, 0, none⟩) K c) K := by
  obtain ⟨vs, h1, h2⟩ := h
  have ns : ∀ x, NsIn w B m x → NsIn (w.setCell ⟨g, k, none⟩ u) B m x := fun x ⟨cs, k1, k2⟩ => ⟨cs, ownsRow_setCell_other k1 (hown_type k1 h1 (by decide) g rfl) _, k2⟩
  refine ⟨vs.set k u, own_put1 h1 hk u, fun x hx => ?_⟩
  rcases List.mem_or_eq_of_mem_set hx with hx | rfl
  · exact ns x (h2 x hx)
  · exact ns _ hu
theorem Rws.push {u : Value} (h : Rws w B m v K) (hu : NsIn w B m u) (hg : w.grownBy w' v.ownBlock) (ho : ∀ vs : List Value, w.ownsRow B 51 1 v K vs → w'.ownsRow B 51 1 v' (K + 1) (vs ++ [u])) : Rws w' B m v' (K + 1) := by
  obtain ⟨vs, h1, h2⟩ := h
  have ns : ∀ x, NsIn w B m x → NsIn w' B m x := fun x ⟨cs, k1, k2⟩ => ⟨cs, hown_grow k1 hg (hown_type k1 h1 (by decide)), k2⟩
  refine ⟨vs ++ [u], ho vs h1, fun x hx => ?_⟩
  rcases List.mem_append.1 hx with hx | hx
  · exact ns x (h2 x hx)
  · simp at hx; subst hx; exact ns _ hu
end
theorem set_size (w : World) (p : Addr) (u : Value) : (w.setCell p u).heap.size = w.heap.size := by simp [World.setCell]
/-- what `then` leaves -/
structure ThenI (B m ob xb : Nat) (o0 bh of oe : Value) (om : Bool) (x0 x1 xf xe : Value) (xm : Bool) (w wr : World) : Prop where
  o : Bk wr ob 205 #[o0, bh, of, oe, .bool om]
  x : Bk wr xb 205 #[x0, x1, xf, xe, .bool xm]
  r : Rws wr B m bh m
  f : NsIn wr B m of
  e : NsIn wr B m oe
  xf : NsIn wr B m xf
  xe : NsIn wr B m xe
  s : Sti (fun i => i = ob ∨ bh.ownBlock = some i) w wr
  h : w.heap.size ≤ xb
  l : ob < w.heap.size
theorem ThenI.below {B m ob xb : Nat} {o0 bh of oe x0 x1 xf xe : Value} {om xm : Bool} {w wr wx : World} (h : ThenI B m ob xb o0 bh of oe om x0 x1 xf xe xm w wr) (hb : Below wr.heap.size wr wx) : ThenI B m ob xb o0 bh of oe om x0 x1 xf xe xm w wx :=
  ⟨h.o.ext hb, h.x.ext hb, h.r.below hb, h.f.below hb, h.e.below hb, h.xf.below hb, h.xe.below hb, h.s.trans (Sti.of_below (Y := fun _ => False) hb) (fun i hi => hi.elim), h.h, h.l⟩
theorem ThenI.put {B m ob xb g c k : Nat} {o0 of oe x0 x1 xf xe u : Value} {om xm : Bool} {w wr : World} (h : ThenI B m ob xb o0 (.slice (some ⟨g, 0, none⟩) m c) of oe om x0 x1 xf xe xm w wr) (hk : k < m) (hu : NsIn wr B m u) : ThenI B m ob xb o0 (.slice (some ⟨g, 0, none⟩) m c) of oe om x0 x1 xf xe xm w (wr.setCell ⟨g, k, none⟩ u) := by
  obtain ⟨vs, hr1, hr2⟩ := id h.r
  have ns : ∀ x, NsIn wr B m x → NsIn (wr.setCell ⟨g, k, none⟩ u) B m x := fun x ⟨cs, k1, k2⟩ => ⟨cs, ownsRow_setCell_other k1 (hown_type k1 hr1 (by decide) g rfl) _, k2⟩
  have n1 : ob ≠ g := fun e => own_ne hr1 h.o (by decide) (by rw [e]; rfl)
  have n2 : xb ≠ g := fun e => own_ne hr1 h.x (by decide) (by rw [e]; rfl)
  exact ⟨h.o.far (p := ⟨g, k, none⟩) n1 _, h.x.far (p := ⟨g, k, none⟩) n2 _, h.r.put hk hu, ns _ h.f, ns _ h.e, ns _ h.xf, ns _ h.xe, h.s.set_ (p := ⟨g, k, none⟩) (.inl (.inr rfl)) _, h.h, h.l⟩
/-- a field of the net is set -/
theorem ThenI.set {B m ob xb : Nat} {o0 bh of oe of' oe' x0 x1 xf xe : Value} {om om' xm : Bool} {w wr : World} (h : ThenI B m ob xb o0 bh of oe om x0 x1 xf xe xm w wr) (j : Nat) (u : Value) (hk : Bk (wr.setCell ⟨ob, j, none⟩ u) ob 205 #[o0, bh, of', oe', .bool om']) (hf : NsIn wr B m of') (he : NsIn wr B m oe') : ThenI B m ob xb o0 bh of' oe' om' x0 x1 xf xe xm w (wr.setCell ⟨ob, j, none⟩ u) := by
  have ns : ∀ x, NsIn wr B m x → NsIn (wr.setCell ⟨ob, j, none⟩ u) B m x := fun x hx => by
    have hne := hx.ne h.o (by decide)
    obtain ⟨cs, k1, k2⟩ := hx
    exact ⟨cs, ownsRow_setCell_other k1 hne _, k2⟩
  obtain ⟨vs, hr1, hr2⟩ := id h.r
  have hl := h.l
  have hh := h.h
  exact ⟨hk, h.x.far (p := ⟨ob, j, none⟩) (by simp; omega) _, ⟨vs, ownsRow_setCell_other hr1 (own_ne hr1 h.o (by decide)) _, fun x hx => ns x (hr2 x hx)⟩, ns _ hf, ns _ he, ns _ h.xf, ns _ h.xe, h.s.set_ (p := ⟨ob, j, none⟩) (.inl (.inl rfl)) _, h.h, h.l⟩
end Go.Proofs.YtmacfoebfpljoaaGreat
namespace Go.Proofs.YtmacfoebfpljoaaGreat
open Go.RowKit
section
variable {P : Program} {ops : Array Oper} {Q : Exit → Act → World → Prop} {md : Region.Mode} {S : World → Prop} {k : Nat}
/-- whatever comes up, S holds behind it, unless it is the k-th -/
def AnyK (P : Program) (md : Region.Mode) (ops : Array Oper) (Q : Exit → Act → World → Prop) (S : World → Prop) (k : Nat) : Nat → Array Bool → Act → World → Prop
  | 0, l, a, w => Region.ready md ops l = [] ∧ Q .normal a w
  | n + 1, l, a, w => (Region.ready md ops l = [] → Q .normal a w) ∧ ∀ i ∈ Region.ready md ops l, wpOp P ops Q i (fun a' w' => (i ≠ k → S w') ∧ AnyK P md ops Q S k n (l.setIfInBounds i true) a' w') a w
/-- k waits for i -/
def waits (md : Region.Mode) (ops : Array Oper) (k i : Nat) : Bool := match ops[k]? with | some o => o.after.any fun e => Region.binds md e && decide (e.on = i) | none => true
/-- whichever of rs comes next -/
def ReadyK (P : Program) (md : Region.Mode) (ops : Array Oper) (Q : Exit → Act → World → Prop) (S : World → Prop) (k n : Nat) (l : Array Bool) (a : Act) (w : World) (rs : List Nat) : Prop :=
  ∀ i ∈ rs, wpOp P ops Q i (fun a' w' => (i ≠ k → S w') ∧ AnyK P md ops Q S k n (l.setIfInBounds i true) a' w') a w
theorem ReadyK.nil {n : Nat} {l : Array Bool} {a : Act} {w : World} : ReadyK P md ops Q S k n l a w [] := fun _ h => by cases h
theorem ReadyK.cons {n : Nat} {l : Array Bool} {a : Act} {w : World} {i : Nat} {o : Oper} {rs : List Nat} (ho : ops[i]? = some o)
    (h : ∀ K : Act → World → Prop, Shut (∀ a w, S w → (S w → AnyK P md ops Q S k n (l.setIfInBounds i true) a w) → K a w) → if Region.wanted o (yielded ops a.tmps) = true then Oper.wp P o a w K Q else K (a.put o.dst undef) w)
    (hs : ReadyK P md ops Q S k n l a w rs) : ReadyK P md ops Q S k n l a w (i :: rs) := by
  intro j hj
  rcases List.mem_cons.1 hj with rfl | hj
  · exact wpOp_step ho fun K hK => h K fun a w hS hW => hK a w ⟨fun _ => hS, hW hS⟩
  · exact hs j hj
end
section
variable {P : Program} {ops : Array Oper} {Q : Exit → Act → World → Prop} {md : Region.Mode} {S : World → Prop} {ks : List Nat}
/-- whatever comes up, S holds behind it, unless it is one of ks -/
def AnyL (P : Program) (md : Region.Mode) (ops : Array Oper) (Q : Exit → Act → World → Prop) (S : World → Prop) (ks : List Nat) : Nat → Array Bool → Act → World → Prop
  | 0, l, a, w => Region.ready md ops l = [] ∧ Q .normal a w
  | n + 1, l, a, w => (Region.ready md ops l = [] → Q .normal a w) ∧ ∀ i ∈ Region.ready md ops l, wpOp P ops Q i (fun a' w' => (i ∉ ks → S w') ∧ AnyL P md ops Q S ks n (l.setIfInBounds i true) a' w') a w
theorem any_of_L (n : Nat) : ∀ (l : Array Bool) (a : Act) (w : World), AnyL P md ops Q S ks n l a w → wpAny P md ops Q n l a w := by
  induction n with
  | zero => intro l a w h; exact h
  | succ n ih => intro l a w h; exact ⟨h.1, fun i hi => wpOp_mono (fun a' w' h' => ih _ a' w' h'.2) (h.2 i hi)⟩
/-- what is listed has its forerunners listed -/
def Closed (md : Region.Mode) (ops : Array Oper) (l : Array Bool) : Prop := ∀ (j : Nat) (o : Oper), ops[j]? = some o → l.getD j false = true → ∀ e ∈ o.after, Region.binds md e = true → l.getD e.on false = true
def closedB (md : Region.Mode) (ops : Array Oper) (l : Array Bool) : Bool := (List.range ops.size).all fun j => match ops[j]? with | some o => !(l.getD j false) || o.after.all (fun e => !(Region.binds md e) || l.getD e.on false) | none => true
theorem closedB_spec {l : Array Bool} (h : closedB md ops l = true) : Closed md ops l := by
  intro j o ho hl e he hb
  have hj := (Array.getElem?_eq_some_iff.1 ho).1
  have := List.all_eq_true.1 h j (List.mem_range.2 hj)
  rw [ho] at this
  simp only [hl, Bool.not_true, Bool.false_or] at this
  have h2 := Array.all_eq_true'.1 this e he
  simpa [hb] using h2
theorem getD_set_mono {l : Array Bool} {m j : Nat} (h : l.getD m false = true) : (l.setIfInBounds j true).getD m false = true := by
  simp only [Array.getD_eq_getD_getElem?, Array.getElem?_setIfInBounds] at *
  by_cases e : j = m
  · subst e
    rw [if_pos rfl]
    split
    · rfl
    · rename_i hh
      rw [Array.getElem?_eq_none (by omega)] at h
      cases h
  · rw [if_neg e]; exact h
theorem Closed.set {l : Array Bool} {j : Nat} (h : Closed md ops l) (hj : j ∈ Region.ready md ops l) : Closed md ops (l.setIfInBounds j true) := by
  intro m o ho hm e he hb
  by_cases ejm : j = m
  · subst ejm
    obtain ⟨_, o', ho', hall⟩ := mem_ready.1 hj
    rw [ho] at ho'
    injection ho' with ho'
    subst ho'
    exact getD_set_mono (hall e he hb)
  · refine getD_set_mono (h m o ho ?_ e he hb)
    simpa [Array.getElem?_setIfInBounds, ejm] using hm
/-- k waits for i, or for one that does -/
def waits2 (md : Region.Mode) (ops : Array Oper) (k i : Nat) : Bool := match ops[k]? with | some o => o.after.any fun e => Region.binds md e && (decide (e.on = i) || (ops[e.on]?.isSome && waits md ops e.on i)) | none => true
theorem not_ready2 {k i : Nat} {l : Array Bool} (hc : Closed md ops l) (hw : waits2 md ops k i = true) (hi : l.getD i true = false) : k ∉ Region.ready md ops l := by
  intro hk
  have hi' : l.getD i false ≠ true := by
    intro h
    rcases Nat.lt_or_ge i l.size with hs | hs
    · simp [hs] at h hi; rw [hi] at h; cases h
    · simp [Array.getElem?_eq_none hs] at hi
  obtain ⟨_, o, ho, hall⟩ := mem_ready.1 hk
  unfold waits2 at hw
  rw [ho] at hw
  obtain ⟨e, he, hb⟩ := Array.any_eq_true'.1 hw
  simp only [Bool.and_eq_true, Bool.or_eq_true, decide_eq_true_eq] at hb
  have hl := hall e he hb.1
  rcases hb.2 with h | ⟨h1, h2⟩
  · rw [h] at hl; exact hi' hl
  · obtain ⟨o2, ho2⟩ := Option.isSome_iff_exists.1 h1
    unfold waits at h2
    rw [ho2] at h2
    obtain ⟨e2, he2, hb2⟩ := Array.any_eq_true'.1 h2
    simp only [Bool.and_eq_true, decide_eq_true_eq] at hb2
    have := hc _ _ ho2 hl e2 he2 hb2.1
    rw [hb2.2] at this
    exact hi' this
/-- operation i is taken first: those of ks wait for it -/
theorem takeL {i : Nat} {oi : Oper} {v : Value} (hi : ops[i]? = some oi) (hsel : ∀ (j : Nat) (o : Oper) cs b, ops[j]? = some o → o.op ≠ .select cs b)
    (hQ : ∀ c a w, Q (.panic c) (a.put oi.dst v) w → Q (.panic c) a w) (hwt : ∀ k ∈ ks, waits2 md ops k i = true) (n : Nat) :
    ∀ (l : Array Bool) (a : Act) (w : World), Closed md ops l → (∀ j oj, ops[j]? = some oj → j ≠ i → l.getD j true = false → (∀ e ∈ oj.after, Region.binds md e = true → e.on ≠ i) → oi.apart ops oj = true) →
      i ∈ Region.ready md ops l → YieldsIf P ops S oi v a → S w → AnyL P md ops Q S ks n (l.setIfInBounds i true) (a.put oi.dst v) w → AnyL P md ops Q S ks (n + 1) l a w := by
  have other : ∀ {l : Array Bool} {j : Nat}, Closed md ops l → i ∈ Region.ready md ops l → j ∈ Region.ready md ops l → j ≠ i → j ∉ ks ∧ l.getD j true = false ∧ ∃ oj, ops[j]? = some oj ∧ ∀ e ∈ oj.after, Region.binds md e = true → e.on ≠ i := by
    intro l j hc hr hj hji
    refine ⟨fun e => not_ready2 hc (hwt j e) (mem_ready.1 hr).1 hj, ?_⟩
    obtain ⟨h1, oj, h2, h3⟩ := mem_ready.1 hj
    refine ⟨h1, oj, h2, fun e he hb heq => ?_⟩
    have hx := h3 e he hb
    have h0 := (mem_ready.1 hr).1
    rw [heq] at hx
    rcases Nat.lt_or_ge i l.size with h | h
    · simp [h] at h0 hx; rw [h0] at hx; cases hx
    · simp [Array.getElem?_eq_none h] at h0
  induction n with
  | zero =>
    intro l a w hc hfree hr hy hS H
    refine ⟨fun h => absurd (h ▸ hr) (by simp), fun j hj => ?_⟩
    by_cases hji : j = i
    · subst hji; exact hy.wpOp hi hS ⟨fun _ => hS, H⟩
    · exact absurd (H.1 ▸ ready_mono hj hji) (by simp)
  | succ n ih =>
    intro l a w hc hfree hr hy hS H
    refine ⟨fun h => absurd (h ▸ hr) (by simp), fun j hj => ?_⟩
    by_cases hji : j = i
    · subst hji; exact hy.wpOp hi hS ⟨fun _ => hS, H⟩
    obtain ⟨hjk, hjun, oj, hoj, hnot⟩ := other hc hr hj hji
    refine wpOp_mono (fun a' w' h3 => ⟨fun _ => h3.2.1 hjk, ih (l.setIfInBounds j true) a' w' (hc.set hj) ?_ (ready_mono hr (Ne.symm hji)) h3.1 (h3.2.1 hjk) ?_⟩)
      (wpOp_putIf hoj (hfree j oj hoj hji hjun hnot) (fun cs b => hsel i oi cs b hi) (fun cs b => hsel j oj cs b hoj) hQ hy (H.2 j (ready_mono hj hji)))
    · intro m om hom hmi hun hno
      refine hfree m om hom hmi ?_ hno
      by_cases hjm : j = m
      · subst hjm; exact hjun
      · rw [getD_set_ne true hjm] at hun; exact hun
    · rw [Array.setIfInBounds_comm _ _ hji]
      exact h3.2.2
theorem takeL_if {i : Nat} {oi : Oper} {v : Value} {n : Nat} {l : Array Bool} {a : Act} {w : World} (hi : ops[i]? = some oi)
    (hs : Region.noSelect ops = true) (hf : Region.free md ops l i = true) (hr : ((Region.ready md ops l).contains i && ks.all (fun k => waits2 md ops k i) && closedB md ops l) = true)
    (hQ : ∀ c a w, Q (.panic c) (a.put oi.dst v) w → Q (.panic c) a w) (hw : Region.wanted oi (yielded ops a.tmps) = true) (hy : ∀ w, S w → (execOp a.eval oi).run P w = .ok (.value v) w) (hS : S w)
    (h : AnyL P md ops Q S ks n (l.setIfInBounds i true) (a.put oi.dst v) w) : AnyL P md ops Q S ks (n + 1) l a w := by
  rw [Bool.and_eq_true, Bool.and_eq_true] at hr
  exact takeL hi (Region.noSelect_spec hs) hQ (by simpa using hr.1.2) n l a w (closedB_spec hr.2) (Region.free_spec hi hf) (by simpa using hr.1.1) (.inl ⟨hw, hy⟩) hS h
/-- whichever of rs comes next -/
def ReadyL (P : Program) (md : Region.Mode) (ops : Array Oper) (Q : Exit → Act → World → Prop) (S : World → Prop) (ks : List Nat) (n : Nat) (l : Array Bool) (a : Act) (w : World) (rs : List Nat) : Prop :=
  ∀ i ∈ rs, wpOp P ops Q i (fun a' w' => (i ∉ ks → S w') ∧ AnyL P md ops Q S ks n (l.setIfInBounds i true) a' w') a w
theorem ReadyL.nil {n : Nat} {l : Array Bool} {a : Act} {w : World} : ReadyL P md ops Q S ks n l a w [] := fun _ h => by cases h
theorem ReadyL.cons {n : Nat} {l : Array Bool} {a : Act} {w : World} {i : Nat} {o : Oper} {rs : List Nat} (ho : ops[i]? = some o)
    (h : ∀ K : Act → World → Prop, Shut (∀ a w, S w → (S w → AnyL P md ops Q S ks n (l.setIfInBounds i true) a w) → K a w) → if Region.wanted o (yielded ops a.tmps) = true then Oper.wp P o a w K Q else K (a.put o.dst undef) w)
    (hs : ReadyL P md ops Q S ks n l a w rs) : ReadyL P md ops Q S ks n l a w (i :: rs) := by
  intro j hj
  rcases List.mem_cons.1 hj with rfl | hj
  · exact wpOp_step ho fun K hK => h K fun a w hS hW => hK a w ⟨fun _ => hS, hW hS⟩
  · exact hs j hj
theorem anyL_ready {rs : List Nat} {n : Nat} {l : Array Bool} {a : Act} {w : World} (hr : Region.ready md ops l = rs) (hne : rs ≠ []) (h : ReadyL P md ops Q S ks n l a w rs) : AnyL P md ops Q S ks (n + 1) l a w :=
  ⟨fun e => absurd (hr.symm.trans e) hne, fun i hi => h i (hr ▸ hi)⟩
/-- one of the last ones -/
theorem anyL_late {i : Nat} {o : Oper} {n : Nat} {l : Array Bool} {a : Act} {w : World} (hr : Region.ready md ops l = [i]) (hi : ks.contains i = true) (ho : ops[i]? = some o)
    (h : ∀ K : Act → World → Prop, Shut (∀ a w, AnyL P md ops Q S ks n (l.setIfInBounds i true) a w → K a w) → if Region.wanted o (yielded ops a.tmps) = true then Oper.wp P o a w K Q else K (a.put o.dst undef) w) : AnyL P md ops Q S ks (n + 1) l a w := by
  refine ⟨fun e => (by rw [hr] at e; cases e), fun j hj => ?_⟩
  rw [hr] at hj
  obtain rfl : j = i := by simpa using hj
  exact wpOp_step ho fun K hK => h K fun a w hq => hK a w ⟨fun h => absurd (by simpa using hi) h, hq⟩
theorem anyL_done {n : Nat} {l : Array Bool} {a : Act} {w : World} (hr : Region.ready md ops l = []) (hq : Q .normal a w) : AnyL P md ops Q S ks n l a w := by
  cases n with
  | zero => exact ⟨hr, hq⟩
  | succ n => exact ⟨fun _ => hq, fun j hj => by rw [hr] at hj; cases hj⟩
/-- the beginning -/
theorem region_L {id : Nat} {a : Act} {w : World} (ks : List Nat) (hm : P.follows .mixedOrders = true) (hS : S w.drew)
    (h : S w.drew → AnyL P .any ops Q S ks ops.size (Array.replicate ops.size false) a w.drew) : (Code.region id ops true).wp P Q a w :=
  wp_region_any hm (any_of_L _ _ _ _ (h hS))
theorem region_round_L {lp n id : Nat} {a : Act} {w : World} (ks : List Nat) (hno : ¬ LetsOut Q) (hd : noDefer ops = true) (hm : P.follows .mixedOrders = true) (hS : S w.drew)
    (h : S w.drew → AnyL P .any ops Q S ks ops.size (Array.replicate ops.size false) a w.drew) : (Code.region id ops true).wpIn (Fence.wide.inRound lp) n P Q a w :=
  wpIn_region_any hm (wpAny_round hno hd _ _ _ _ (any_of_L _ _ _ _ (h hS)))
theorem tkL (i : Nat) {oi : Oper} {v : Value} {fuel : Nat} {listed : Array Bool} {a a' : Act} {w : World} (h : AnyL P md ops Q S ks fuel (listed.setIfInBounds i true) a' w) (hi : ops[i]? = some oi := by simp only [List.getElem?_toArray, List.getElem?_cons_succ, List.getElem?_cons_zero]; rfl)
    (hs : Region.noSelect ops = true := by kernel_rfl) (hf : Region.free md ops listed i = true := by kernel_rfl) (hr : ((Region.ready md ops listed).contains i && ks.all (fun k => waits2 md ops k i) && closedB md ops listed) = true := by kernel_rfl)
    (hQ : ∀ c a w, Q (.panic c) (a.put oi.dst v) w → Q (.panic c) a w := by exact fun _ _ _ h => h) (hw : Region.wanted oi (yielded ops a.tmps) = true := by rfl)
    (hy : ∀ w, S w → (execOp a.eval oi).run P w = .ok (.value v) w := by (focus ((intro w hSw; (try have hSw := HF.out _ hSw); (try dsimp only at hSw); go_simp); try exact rfl)))
    (hS : S w := by assumption)
    (ha : a.put oi.dst v = a' := by (simp only [Act.put, List.setIfInBounds_toArray, List.set_cons_zero, List.set_cons_succ]; rfl)) : AnyL P md ops Q S ks (fuel + 1) listed a w := by
  subst ha
  exact takeL_if hi hs hf hr hQ hw hy hS h
theorem nxL (i : Nat) {o : Oper} {n : Nat} {l : Array Bool} {a : Act} {w : World}
    (h : ∀ K : Act → World → Prop, Shut (∀ a w, S w → (S w → AnyL P md ops Q S ks n (l.setIfInBounds i true) a w) → K a w) → if Region.wanted o (yielded ops a.tmps) = true then Oper.wp P o a w K Q else K (a.put o.dst undef) w)
    (hr : Region.ready md ops l = [i] := by kernel_rfl) (ho : ops[i]? = some o := by simp only [List.getElem?_toArray, List.getElem?_cons_succ, List.getElem?_cons_zero]; rfl) : AnyL P md ops Q S ks (n + 1) l a w :=
  anyL_ready hr (by simp) (ReadyL.cons ho h ReadyL.nil)
theorem ltL (i : Nat) {o : Oper} {n : Nat} {l : Array Bool} {a : Act} {w : World}
    (h : ∀ K : Act → World → Prop, Shut (∀ a w, AnyL P md ops Q S ks n (l.setIfInBounds i true) a w → K a w) → if Region.wanted o (yielded ops a.tmps) = true then Oper.wp P o a w K Q else K (a.put o.dst undef) w)
    (hr : Region.ready md ops l = [i] := by kernel_rfl) (hi : ks.contains i = true := by kernel_rfl) (ho : ops[i]? = some o := by simp only [List.getElem?_toArray, List.getElem?_cons_succ, List.getElem?_cons_zero]; rfl) : AnyL P md ops Q S ks (n + 1) l a w :=
  anyL_late hr hi ho h
end
section
variable {P : Program} {ops : Array Oper} {Q : Exit → Act → World → Prop} {md : Region.Mode} {S : World → Prop} {ks : List Nat}
theorem puH {fuel : Nat} {listed : Array Bool} {a a' : Act} {w : World} (h : wpAnyH P md ops Q S fuel listed a' w) (ha : a = a' := by ((try simp only [Act.put, List.setIfInBounds_toArray, List.set_cons_zero, List.set_cons_succ]); rfl)) : wpAnyH P md ops Q S fuel listed a w := by
  subst ha
  exact h
theorem puL {fuel : Nat} {listed : Array Bool} {a a' : Act} {w : World} (h : AnyL P md ops Q S ks fuel listed a' w) (ha : a = a' := by ((try simp only [Act.put, List.setIfInBounds_toArray, List.set_cons_zero, List.set_cons_succ]); rfl)) : AnyL P md ops Q S ks fuel listed a w := by
  subst ha
  exact h
end
section
variable {P : Program} {ops : Array Oper} {Q : Exit → Act → World → Prop} {md : Region.Mode} {S : World → Prop} {ks : List Nat}
end
end Go.Proofs.YtmacfoebfpljoaaGreat
namespace Go.Proofs.YtmacfoebfpljoaaGreat
open Go.RowKit
set_option linter.unusedVariables false
def ThenOut (B m ob : Nat) (o0 bh : Value) (w : World) (e : Ending) (w' : World) : Prop := ∃ (of oe : Value) (om : Bool), e = .returned (.tuple #[]) ∧ Bk w' ob 205 #[o0, bh, of, oe, .bool om] ∧ Rws w' B m bh m ∧ NsIn w' B m of ∧ NsIn w' B m oe ∧ Sti (fun i => i = ob ∨ bh.ownBlock = some i) w w'
theorem ThenI.out {B m ob xb : Nat} {o0 bh of oe x0 x1 xf xe : Value} {om xm : Bool} {w wr : World} (h : ThenI B m ob xb o0 bh of oe om x0 x1 xf xe xm w wr) : ThenOut B m ob o0 bh w (.returned (.tuple #[])) wr := ⟨of, oe, om, rfl, h.o, h.r, h.f, h.e, h.s⟩
set_option maxRecDepth 100000 in
set_option maxHeartbeats 16000000 in
theorem then_any (B m ob : Nat) (o0 bh of oe xf xe : Value) (om xm : Bool) (w : World) (hm : m ≤ 256) (hBw : B ≤ w.heap.size) (ko : Bk w ob 205 #[o0, bh, of, oe, .bool om]) (hr : Rws w B m bh m) (hof : NsIn w B m of) (hoe : NsIn w B m oe) (hxf : NsIn w B m xf) (hxe : NsIn w B m xe) : Calls Tryz.prog 223 #[.pointer (some ⟨ob, 0, none⟩), .agg #[.slice none 0 0, .slice none 0 0, xf, xe, .bool xm]] w (ThenOut B m ob o0 bh w) := by
  obtain ⟨Ab, cb, rfl⟩ := hr.form
  obtain ⟨Af, cf, lf, rfl, -, -, -⟩ := hof.form
  obtain ⟨Ae, ce, le, rfl, hle, hrde, hoo⟩ := hoe.form
  obtain ⟨Axf, cxf, lxf, rfl, -, -, -⟩ := hxf.form
  obtain ⟨Axe, cxe, lxe, rfl, -, -, -⟩ := hxe.form
  have hlen := hle.len
  have HRE := Lib.hid hrde
  have HLE := Lib.hid hle
  have hny : ∀ g, (Value.slice Ae le.length ce).ownBlock = some g → ¬ (g = ob ∨ (Value.slice Ab m cb).ownBlock = some g) := by
    obtain ⟨vs, hr1, -⟩ := id hr
    intro g hg hy
    rcases hy with hy | hy
    · exact own_ne hoo ko (by decide) (by rw [← hy]; exact hg)
    · exact hown_type hoo hr1 (by decide) g hy hg
  have HNY := Lib.hid hny
  have HOO := Lib.hid hoo
  clear hny hoo
  generalize hfn : lf.length = fn at *
  generalize hen : le.length = en at *
  generalize hxfn : lxf.length = xfn at *
  generalize hxen : lxe.length = xen at *
  have HEN := Lib.hid hen
  clear hfn hen hxfn hxen hle hrde
  go_enter Tryz.func223, Tryz.ntmps223
  go_upto_region 1 with fail
  have hb0 : Below w.heap.size w (w.alloc (.cells #[.slice none 0 0, .slice none 0 0, .slice Axf xfn cxf, .slice Axe xen cxe, .bool xm] 205)) := belowA
  have hI0 := Lib.hid (show ThenI B m ob w.heap.size o0 (.slice Ab m cb) (.slice Af fn cf) (.slice Ae en ce) om (.slice none 0 0) (.slice none 0 0) (.slice Axf xfn cxf) (.slice Axe xen cxe) xm w (w.alloc (.cells #[.slice none 0 0, .slice none 0 0, .slice Axf xfn cxf, .slice Axe xen cxe, .bool xm] 205)) from ⟨ko.alloc _, Bk.new w _ _, hr.below hb0, hof.below hb0, hoe.below hb0, hxf.below hb0, hxe.below hb0, Sti.of_below hb0, Nat.le_refl _, def_lt' ko⟩)
  generalize w.alloc (.cells #[.slice none 0 0, .slice none 0 0, .slice Axf xfn cxf, .slice Axe xen cxe, .bool xm] 205) = w0 at *
  clear ko hr hof hoe hxf hxe hb0
  go_wp2
  go_loopw [4] (fun j wr => ∃ k : Nat, k ≤ en ∧ j = .int .i64 k ∧ Hid (ThenI B m ob w.heap.size o0 (.slice Ab m cb) (.slice Af fn cf) (.slice Ae en ce) om (.slice none 0 0) (.slice none 0 0) (.slice Axf xfn cxf) (.slice Axe xen cxe) xm w wr)) (fun j _ => en - (intOf j).toNat)
  case atStart => exact ⟨0, by omega, rfl, hI0⟩
  case round =>
    clear hI0
    obtain ⟨k, hk, rfl, hI⟩ := hrel
    obtain ⟨s0, s1, s2, s3, s4⟩ := bk5 hI.out.o
    obtain ⟨y0, y1, y2, y3, y4⟩ := bk5 hI.out.x
    have of_ := hI.out.o.frozen; have ol := def_lt' hI.out.o
    have xl := def_lt' hI.out.x
    by_cases hlt : k < en
    · have e3 : (k : Int) < en := by omega
      have hrdr : Rd wr wr.heap.size 1 Ae en (nts le) := by
        obtain ⟨A', c', e1, -, -, -, r⟩ := own_form (hI.out.s.own HOO.out HNY.out)
        injection e1 with e1 e2 e3
        subst e1
        exact r
      obtain ⟨eb, eo, t, rfl, heb, ht, htc⟩ := hrdr.nt_at hlt
      have htm := HLE.out.2 t (List.mem_of_getElem? ht)
      obtain ⟨g, u, rfl, hBg, hgw, huc, hu, hgf⟩ := hI.out.r.at_ htm
      obtain ⟨Au, cu, lu, rfl, -, -, -⟩ := hu.form
      have t0 : (0 : Int) ≤ t := by omega
      have t1 : (t : Int) < m := by omega
      have k0 : (0 : Int) ≤ k := by omega
      have hF : ∀ W, Below wr.heap.size wr W → W.cell? ⟨ob, 1, none⟩ = some (.slice (some ⟨g, 0, none⟩) m cb) ∧ W.cell? ⟨ob, 3, none⟩ = some (.slice (some ⟨eb, eo, none⟩) en ce) ∧ W.cell? ⟨w.heap.size, 2, none⟩ = some (.slice Axf xfn cxf) ∧ W.cell? ⟨eb, eo + k, none⟩ = some (.int .i64 t) ∧ W.cell? ⟨g, t, none⟩ = some (.slice Au lu.length cu) := fun W h => ⟨(hI.out.o.ext h).cell 1, (hI.out.o.ext h).cell 3, (hI.out.x.ext h).cell 2, (h.cell (by simpa using heb)).trans htc, (h.cell (by simpa using hgw)).trans huc⟩
      have HF := Lib.hid hF
      have HU := Lib.hid hu
      have hgwl := Lib.hid hgw
      clear hF hrdr ht
      generalize lu.length = un at *
      go_upto_region 4 with fail
      clear s0 s1 s2 s3 s4 y0 y1 y2 y3 y4
      refine wp_normal ?_
      refine region_L (S := fun W => Below wr.heap.size wr W) [28] (by kernel_rfl) (Below.refl _ _).drew (fun hHeld => ?_)
      (refine tkL 0 ?_; refine tkL 1 ?_; refine tkL 2 ?_; refine tkL 3 ?_; refine tkL 4 ?_; refine tkL 5 ?_; refine tkL 6 ?_; refine tkL 7 ?_; refine tkL 8 ?_; refine tkL 9 ?_; refine tkL 10 ?_; refine tkL 11 ?_; refine tkL 12 ?_; refine tkL 13 ?_; refine tkL 14 ?_; refine tkL 15 ?_; refine tkL 16 ?_; refine tkL 17 ?_; refine tkL 18 ?_; refine tkL 19 ?_; refine tkL 20 ?_; refine tkL 21 ?_; refine tkL 22 ?_; refine tkL 23 ?_; refine tkL 24 ?_; refine tkL 25 ?_)
      refine nxL 26 (fun K hK => ?_)
      go_simp
      go_at_call 196
      refine (or_any _ _ B B m _ (by omega) (HU.out.below (w' := wr.drew) (Below.refl _ _).drew) (hI.out.xf.below (w' := wr.drew) (Below.refl _ _).drew)).mono ?_
      rintro e w5 ⟨v5, rfl, hv5, hb5'⟩
      have hb5 : Below wr.heap.size wr w5 := Below.trans (Below.refl _ _).drew hb5'
      have hI5 := hI.out.below hb5
      have hv5' : NsIn w5 B m v5 := hv5.mono (Nat.le_refl _) (by have := hI.out.s.size; show B ≤ wr.heap.size; omega)
      have hI6 := Lib.hid (hI5.put htm hv5')
      obtain ⟨A5, c5, l5, rfl, -, -, -⟩ := hv5.form
      have hgc5 : w5.cell? ⟨g, t, none⟩ = some (.slice Au un cu) := (hb5.cell (by simpa using hgw)).trans huc
      have hgf5 : w5.frozen? ⟨g, t, none⟩ = false := (hb5.frozen (p := ⟨g, t, none⟩) (by simpa using hgw)).trans (hgf t)
      refine hK.out _ _ hb5 (fun hHeld => ?_)
      clear hK K; refine puL ?_
      (refine tkL 27 ?_)
      refine ltL 28 (fun K hK => ?_)
      go_simp
      refine hK.out _ _ ?_
      refine anyL_done (by kernel_rfl) ?_
      go_wp2
      go_roundw
      case rel => exact ⟨k + 1, by omega, by go_num, hI6⟩
      case measure => simp [intOf]; omega
    · obtain rfl : k = en := by omega
      have hbB : B ≤ wr.heap.size := by have := hI.out.s.size; omega
      go_upto_if 45 with fail
      go_cut [53] (fun _ wx => ∃ (of2 : Value), Hid (ThenI B m ob w.heap.size o0 (.slice Ab m cb) of2 (.slice Ae k ce) om (.slice none 0 0) (.slice none 0 0) (.slice Axf xfn cxf) (.slice Axe xen cxe) xm w wx))
      case first =>
        cases om with
        | false =>
          go_wp2
          go_meet
          exact ⟨_, hI⟩
        | true =>
          have hF : ∀ W, Below wr.heap.size wr W → W.cell? ⟨ob, 2, none⟩ = some (.slice Af fn cf) ∧ W.cell? ⟨w.heap.size, 2, none⟩ = some (.slice Axf xfn cxf) := fun W h => ⟨(hI.out.o.ext h).cell 2, (hI.out.x.ext h).cell 2⟩
          have HF := Lib.hid hF
          clear hF
          go_upto_region 6 with fail
          refine wp_normal ?_
          refine region_L (S := fun W => Below wr.heap.size wr W) [10] (by kernel_rfl) (Below.refl _ _).drew (fun hHeld => ?_)
          (refine tkL 0 ?_; refine tkL 1 ?_; refine tkL 2 ?_; refine tkL 3 ?_; refine tkL 4 ?_; refine tkL 5 ?_; refine tkL 6 ?_)
          refine nxL 7 (fun K hK => ?_)
          go_simp
          go_at_call 196
          refine (or_any _ _ B B m _ (by omega) (hI.out.f.below (w' := wr.drew) (Below.refl _ _).drew) (hI.out.xf.below (w' := wr.drew) (Below.refl _ _).drew)).mono ?_
          rintro e w5 ⟨v5, rfl, hv5, hb5'⟩
          have hb5 : Below wr.heap.size wr w5 := Below.trans (Below.refl _ _).drew hb5'
          have hI5 := hI.out.below hb5
          have hv5' : NsIn w5 B m v5 := hv5.mono (Nat.le_refl _) hbB
          have hI6 := Lib.hid (hI5.set 2 v5 (hI5.o.set_ 2 _) hv5' hI5.e)
          obtain ⟨A5, c5, l5, rfl, -, -, -⟩ := hv5.form
          obtain ⟨z0, z1, z2, z3, z4⟩ := bk5 hI5.o
          have zf := hI5.o.frozen; have zl := def_lt' hI5.o
          refine hK.out _ _ hb5 (fun hHeld => ?_)
          clear hK K; refine puL ?_
          (refine tkL 8 ?_; refine tkL 9 ?_)
          refine ltL 10 (fun K hK => ?_)
          go_simp
          refine hK.out _ _ ?_
          refine anyL_done (by kernel_rfl) ?_
          go_wp2
          go_meet
          exact ⟨_, hI6⟩
      case rest =>
      obtain ⟨of2, hI2⟩ := hcut
      obtain ⟨Af2, cf2, lf2, rfl, -, -, -⟩ := hI2.out.f.form
      generalize lf2.length = fn2 at *
      clear s0 s1 s2 s3 s4 y0 y1 y2 y3 y4 of_ ol xl hI hbB
      obtain ⟨s0, s1, s2, s3, s4⟩ := bk5 hI2.out.o
      obtain ⟨y0, y1, y2, y3, y4⟩ := bk5 hI2.out.x
      have of_ := hI2.out.o.frozen; have ol := def_lt' hI2.out.o
      have hbB : B ≤ wc.heap.size := by have := hI2.out.s.size; omega
      go_upto_if 57 with fail
      go_cut [65] (fun _ wx => ∃ (oe2 : Value), Hid (ThenI B m ob w.heap.size o0 (.slice Ab m cb) (.slice Af2 fn2 cf2) oe2 om (.slice none 0 0) (.slice none 0 0) (.slice Axf xfn cxf) (.slice Axe xen cxe) xm w wx))
      case first =>
        cases xm with
        | false =>
          go_wp2
          go_meet
          exact ⟨_, Lib.hid (hI2.out.set 3 (.slice Axe xen cxe) (hI2.out.o.set_ 3 _) hI2.out.f hI2.out.xe)⟩
        | true =>
          have hF : ∀ W, Below wc.heap.size wc W → W.cell? ⟨ob, 3, none⟩ = some (.slice Ae k ce) ∧ W.cell? ⟨w.heap.size, 3, none⟩ = some (.slice Axe xen cxe) := fun W h => ⟨(hI2.out.o.ext h).cell 3, (hI2.out.x.ext h).cell 3⟩
          have HF := Lib.hid hF
          clear hF
          go_upto_region 8 with fail
          clear s0 s1 s2 s3 s4 y0 y1 y2 y3 y4
          refine wp_normal ?_
          refine region_L (S := fun W => Below wc.heap.size wc W) [10] (by kernel_rfl) (Below.refl _ _).drew (fun hHeld => ?_)
          (refine tkL 0 ?_; refine tkL 1 ?_; refine tkL 2 ?_; refine tkL 3 ?_; refine tkL 4 ?_; refine tkL 5 ?_; refine tkL 6 ?_)
          refine nxL 7 (fun K hK => ?_)
          go_simp
          go_at_call 196
          refine (or_any _ _ B B m _ (by omega) (hI2.out.e.below (w' := wc.drew) (Below.refl _ _).drew) (hI2.out.xe.below (w' := wc.drew) (Below.refl _ _).drew)).mono ?_
          rintro e w5 ⟨v5, rfl, hv5, hb5'⟩
          have hb5 : Below wc.heap.size wc w5 := Below.trans (Below.refl _ _).drew hb5'
          have hI5 := hI2.out.below hb5
          have hv5' : NsIn w5 B m v5 := hv5.mono (Nat.le_refl _) hbB
          have hI6 := Lib.hid (hI5.set 3 v5 (hI5.o.set_ 3 _) hI5.f hv5')
          obtain ⟨A5, c5, l5, rfl, -, -, -⟩ := hv5.form
          obtain ⟨z0, z1, z2, z3, z4⟩ := bk5 hI5.o
          have zf := hI5.o.frozen; have zl := def_lt' hI5.o
          refine hK.out _ _ hb5 (fun hHeld => ?_)
          clear hK K; refine puL ?_
          (refine tkL 8 ?_; refine tkL 9 ?_)
          refine ltL 10 (fun K hK => ?_)
          go_simp
          refine hK.out _ _ ?_
          refine anyL_done (by kernel_rfl) ?_
          go_wp2
          go_meet
          exact ⟨_, hI6⟩
      case rest =>
      obtain ⟨oe2, hI3⟩ := hcut
      clear s0 s1 s2 s3 s4 y0 y1 y2 y3 y4 of_ ol hI2 hbB
      obtain ⟨s0, s1, s2, s3, s4⟩ := bk5 hI3.out.o
      obtain ⟨y0, y1, y2, y3, y4⟩ := bk5 hI3.out.x
      have of_ := hI3.out.o.frozen; have ol := def_lt' hI3.out.o
      cases om
      all_goals
        go_wp2
        go_end0
        exact (hI3.out.set 4 _ (hI3.out.o.set_ 4 _) hI3.out.f hI3.out.e).out
def SeqOut (B m ob : Nat) (o0 bh : Value) (w : World) (e : Ending) (w' : World) : Prop := ∃ (of oe : Value) (om : Bool), e = .returned (.tuple #[]) ∧ Bk w' ob 205 #[o0, .slice none 0 0, of, oe, .bool om] ∧ Rws w' B m bh m ∧ NsIn w' B m of ∧ NsIn w' B m oe ∧ Sti (fun i => i = ob ∨ bh.ownBlock = some i) w w'
theorem NsIn.put {w : World} {B m b i : Nat} {t : TypeId} {cs : Array Value} {v : Value} (h : NsIn w B m v) (k : Bk w b t cs) (hne : 3 ≠ t) (u : Value) : NsIn (w.setCell ⟨b, i, none⟩ u) B m v := by
  have hn := h.ne k hne
  obtain ⟨xs, h1, h2⟩ := h
  exact ⟨xs, ownsRow_setCell_other h1 hn _, h2⟩
theorem Rws.put_ {w : World} {B m K b i : Nat} {t : TypeId} {cs : Array Value} {v : Value} (h : Rws w B m v K) (k : Bk w b t cs) (h1 : 3 ≠ t) (h2 : 51 ≠ t) (u : Value) : Rws (w.setCell ⟨b, i, none⟩ u) B m v K := by
  obtain ⟨vs, g1, g2⟩ := h
  exact ⟨vs, ownsRow_setCell_other g1 (own_ne g1 k h2) _, fun x hx => (g2 x hx).put k h1 u⟩
set_option maxRecDepth 100000 in
set_option maxHeartbeats 4000000 in
theorem seq_any (B m nb ob : Nat) (on bh nf ne o0 o1 of oe xf xe : Value) (nm om xm : Bool) (w : World) (hm : m ≤ 256) (hBw : B ≤ w.heap.size) (hne : nb ≠ ob) (kn : Bk w nb 205 #[on, bh, nf, ne, .bool nm]) (ko : Bk w ob 205 #[o0, o1, of, oe, .bool om]) (hr : Rws w B m bh m) (hof : NsIn w B m of) (hoe : NsIn w B m oe) (hxf : NsIn w B m xf) (hxe : NsIn w B m xe) : Calls Tryz.prog 197 #[.pointer (some ⟨nb, 0, none⟩), .pointer (some ⟨ob, 0, none⟩), .agg #[.slice none 0 0, .slice none 0 0, xf, xe, .bool xm]] w (SeqOut B m ob o0 bh w) := by
  obtain ⟨Ab, cb, rfl⟩ := hr.form
  obtain ⟨Axf, cxf, lxf, rfl, -, -, -⟩ := hxf.form
  obtain ⟨Axe, cxe, lxe, rfl, -, -, -⟩ := hxe.form
  generalize hxfn : lxf.length = xfn at *
  generalize hxen : lxe.length = xen at *
  clear hxfn hxen
  have hbx : Below w.heap.size w (w.alloc (.cells #[.slice none 0 0, .slice none 0 0, .slice Axf xfn cxf, .slice Axe xen cxe, .bool xm] 205)) := belowA
  have hl := def_lt' ko
  have hln := def_lt' kn
  have kx := Bk.new w 205 #[.slice none 0 0, .slice none 0 0, .slice Axf xfn cxf, .slice Axe xen cxe, .bool xm]
  have ko0 := ko.ext hbx
  have kn0 := kn.ext hbx
  have hr0 := hr.below hbx
  have hof0 := hof.below hbx
  have hoe0 := hoe.below hbx
  have hxf0 := hxf.below hbx
  have hxe0 := hxe.below hbx
  go_enter Tryz.func197, Tryz.ntmps197
  go_upto_region 1 with fail
  generalize w.alloc (.cells #[.slice none 0 0, .slice none 0 0, .slice Axf xfn cxf, .slice Axe xen cxe, .bool xm] 205) = w0 at *
  obtain ⟨s0, s1, s2, s3, s4⟩ := bk5 ko0
  obtain ⟨y0, y1, y2, y3, y4⟩ := bk5 kx
  obtain ⟨n0, n1, n2, n3, n4⟩ := bk5 kn0
  have of_ := ko0.frozen; have ol := def_lt' ko0
  have k1 : Bk _ ob 205 #[o0, .slice Ab m cb, of, oe, .bool om] := ko0.set_ 1 (.slice Ab m cb)
  have hs1 : Sti (fun i => i = ob ∨ (Value.slice Ab m cb).ownBlock = some i) w (w0.setCell ⟨ob, 1, none⟩ (.slice Ab m cb)) := (Sti.of_below hbx).set_ (p := ⟨ob, 1, none⟩) (.inl (.inl rfl)) _
  have hr1 := hr0.put_ ko0 (by decide) (by decide) (i := 1) (.slice Ab m cb)
  have hof1 := hof0.put ko0 (by decide) (i := 1) (.slice Ab m cb)
  have hoe1 := hoe0.put ko0 (by decide) (i := 1) (.slice Ab m cb)
  have hxf1 := hxf0.put ko0 (by decide) (i := 1) (.slice Ab m cb)
  have hxe1 := hxe0.put ko0 (by decide) (i := 1) (.slice Ab m cb)
  have hth := Lib.hid (then_any B m ob o0 _ of oe _ _ om xm _ hm (by rw [set_size]; have := hbx.size; omega) k1 hr1 hof1 hoe1 hxf1 hxe1)
  have HS1 := Lib.hid hs1
  clear ko hr hof hoe hxf hxe ko0 hr0 hof0 hoe0 hxf0 hxe0 k1 hs1 hr1 hof1 hoe1 hxf1 hxe1
  go_wp2_with (go_at_call 223; fail)
  refine hth.out.mono ?_
  rintro e w2 ⟨of2, oe2, om2, rfl, k2, hr2, hf2, he2, hs2⟩
  obtain ⟨z0, z1, z2, z3, z4⟩ := bk5 k2
  have zf := k2.frozen; have zl := def_lt' k2
  clear s0 s1 s2 s3 s4 y0 y1 y2 y3 y4 n0 n1 n2 n3 n4 of_ ol
  have k3 : Bk _ ob 205 #[o0, .slice none 0 0, of2, oe2, .bool om2] := k2.set_ 1 (.slice none 0 0)
  have hs3 := (HS1.out.trans hs2 (fun i hi => .inl hi)).set_ (p := ⟨ob, 1, none⟩) (.inl (.inl rfl)) (.slice none 0 0)
  have hr3 := hr2.put_ k2 (by decide) (by decide) (i := 1) (.slice none 0 0)
  have hf3 := hf2.put k2 (by decide) (i := 1) (.slice none 0 0)
  have he3 := he2.put k2 (by decide) (i := 1) (.slice none 0 0)
  have HE := Lib.hid (show SeqOut B m ob o0 (.slice Ab m cb) w (.returned (.tuple #[])) (w2.setCell ⟨ob, 1, none⟩ (.slice none 0 0)) from ⟨of2, oe2, om2, rfl, k3, hr3, hf3, he3, hs3⟩)
  clear k2 k3 hs3 hr3 hf3 he3 hr2 hf2 he2 hs2
  go_wp2
  go_end0
  exact HE.out
abbrev zeroT : Array Value := #[.slice none 0 0, .slice none 0 0, .slice none 0 0, .slice none 0 0, .bool false]
/-- a net that is laid -/
structure NetAt (w : World) (B nb m : Nat) (on bh f e : Value) (em : Bool) : Prop where
  n : Bk w nb 205 #[on, bh, f, e, .bool em]
  ron : Rws w B 256 on m
  rbh : Rws w B m bh m
  dj : ∀ g, on.ownBlock = some g → bh.ownBlock ≠ some g
  h : B ≤ nb
theorem Rws.ne {w : World} {B m K b : Nat} {t : TypeId} {cs : Array Value} {v : Value} (h : Rws w B m v K) (k : Bk w b t cs) (hne : 51 ≠ t) : v.ownBlock ≠ some b := by
  obtain ⟨vs, h1, -⟩ := h
  exact own_ne h1 k hne
theorem Rws.ge {w : World} {B m K : Nat} {v : Value} (h : Rws w B m v K) : ∀ g, v.ownBlock = some g → B ≤ g := by
  obtain ⟨vs, h1, -⟩ := h
  exact own_ge h1
theorem Rws.lt {w : World} {B m K : Nat} {v : Value} (h : Rws w B m v K) : ∀ g, v.ownBlock = some g → g < w.heap.size := by
  obtain ⟨vs, h1, -⟩ := h
  exact own_lt h1
theorem NsIn.ne_rws {w : World} {B B' m m' K : Nat} {v v' : Value} (h : NsIn w B m v) (k : Rws w B' m' v' K) : ∀ g, v'.ownBlock = some g → v.ownBlock ≠ some g := by
  obtain ⟨vs, k1, -⟩ := k
  exact h.ne_row k1 (by decide)
theorem NsIn.lt {w : World} {B m : Nat} {v : Value} (h : NsIn w B m v) : ∀ g, v.ownBlock = some g → g < w.heap.size := by
  obtain ⟨xs, h1, -⟩ := h
  exact own_lt h1
theorem NetAt.below {w w' : World} {B nb m : Nat} {on bh f e : Value} {em : Bool} (h : NetAt w B nb m on bh f e em) (hb : Below w.heap.size w w') : NetAt w' B nb m on bh f e em := ⟨h.n.ext hb, h.ron.below hb, h.rbh.below hb, h.dj, h.h⟩
theorem NetAt.put_ {w : World} {B nb m b i : Nat} {on bh f e : Value} {em : Bool} {t : TypeId} {cs : Array Value} (h : NetAt w B nb m on bh f e em) (k : Bk w b t cs) (hb : nb ≠ b) (h1 : 3 ≠ t) (h2 : 51 ≠ t) (u : Value) : NetAt (w.setCell ⟨b, i, none⟩ u) B nb m on bh f e em :=
  ⟨h.n.far (p := ⟨b, i, none⟩) hb u, h.ron.put_ k h1 h2 u, h.rbh.put_ k h1 h2 u, h.dj, h.h⟩
/-- what a part's places are: the net has k more -/
def PartOut (B nb m k : Nat) (on bh f e : Value) (em : Bool) (w : World) (en : Ending) (w' : World) : Prop := ∃ (fi ei : Value) (xm : Bool) (on' bh' : Value), en = .returned (.agg #[.slice none 0 0, .slice none 0 0, fi, ei, .bool xm]) ∧ NetAt w' B nb (m + k) on' bh' f e em ∧ NsIn w' B (m + k) fi ∧ NsIn w' B (m + k) ei ∧ Sti (fun i => i = nb ∨ on.ownBlock = some i ∨ bh.ownBlock = some i) w w' ∧ (∀ g, on'.ownBlock = some g → on.ownBlock = some g ∨ w.heap.size ≤ g) ∧ (∀ g, bh'.ownBlock = some g → bh.ownBlock = some g ∨ w.heap.size ≤ g)
/-- in the midst of a part -/
structure PI (w : World) (B nb : Nat) (on0 bh0 f e : Value) (em : Bool) (pc : Array Value) (wr : World) (m : Nat) (on bh fi ei : Value) (xm : Bool) : Prop where
  net : NetAt wr B nb m on bh f e em
  r : Bk wr w.heap.size 205 zeroT
  p : Bk wr (w.heap.size + 1) 192 pc
  o : Bk wr (w.heap.size + 2) 205 #[.slice none 0 0, .slice none 0 0, fi, ei, .bool xm]
  nfi : NsIn wr B m fi
  nei : NsIn wr B m ei
  s : Sti (fun i => i = nb ∨ on0.ownBlock = some i ∨ bh0.ownBlock = some i) w wr
  no : ∀ g, on.ownBlock = some g → on0.ownBlock = some g ∨ w.heap.size ≤ g
  nh : ∀ g, bh.ownBlock = some g → bh0.ownBlock = some g ∨ w.heap.size ≤ g
  lt : nb < w.heap.size
  bw : B ≤ w.heap.size
section
variable {w wr w' : World} {B nb m k : Nat} {on0 bh0 f e on bh fi ei : Value} {em xm : Bool} {pc : Array Value}
theorem PI.zero (h : NetAt w B nb m on bh f e em) (hbw : B ≤ w.heap.size) (hb : Below w.heap.size w wr) (hr : Bk wr w.heap.size 205 zeroT) (hp : Bk wr (w.heap.size + 1) 192 pc) (ho : Bk wr (w.heap.size + 2) 205 zeroT) : PI w B nb on bh f e em pc wr m on bh (.slice none 0 0) (.slice none 0 0) false :=
  ⟨h.below hb, hr, hp, ho, NsIn.nil _ _ _, NsIn.nil _ _ _, Sti.of_below hb, fun _ h => .inl h, fun _ h => .inl h, def_lt' h.n, hbw⟩
theorem PI.below (h : PI w B nb on0 bh0 f e em pc wr m on bh fi ei xm) (hb : Below wr.heap.size wr w') : PI w B nb on0 bh0 f e em pc w' m on bh fi ei xm :=
  ⟨h.net.below hb, h.r.ext hb, h.p.ext hb, h.o.ext hb, h.nfi.below hb, h.nei.below hb, h.s.trans (Sti.of_below (Y := fun _ => False) hb) (fun i hi => hi.elim), h.no, h.nh, h.lt, h.bw⟩
/-- behind a part of it -/
theorem PI.rec_ {on' bh' : Value} (h : PI w B nb on0 bh0 f e em pc wr m on bh fi ei xm) (hn : NetAt w' B nb (m + k) on' bh' f e em) (hs : Sti (fun i => i = nb ∨ on.ownBlock = some i ∨ bh.ownBlock = some i) wr w') (h1 : ∀ g, on'.ownBlock = some g → on.ownBlock = some g ∨ wr.heap.size ≤ g) (h2 : ∀ g, bh'.ownBlock = some g → bh.ownBlock = some g ∨ wr.heap.size ≤ g) : PI w B nb on0 bh0 f e em pc w' (m + k) on' bh' fi ei xm := by
  have hlt := h.lt
  have hz := h.s.size
  refine ⟨hn, hs.bk h.r ?_, hs.bk h.p ?_, hs.bk h.o ?_, (hs.ns h.nfi ?_).mono (by omega) (Nat.le_refl _), (hs.ns h.nei ?_).mono (by omega) (Nat.le_refl _), h.s.trans hs ?_, fun g hg => ?_, fun g hg => ?_, h.lt, h.bw⟩
  · rintro (h0 | h0 | h0)
    · omega
    · exact h.net.ron.ne h.r (by decide) h0
    · exact h.net.rbh.ne h.r (by decide) h0
  · rintro (h0 | h0 | h0)
    · omega
    · exact h.net.ron.ne h.p (by decide) h0
    · exact h.net.rbh.ne h.p (by decide) h0
  · rintro (h0 | h0 | h0)
    · omega
    · exact h.net.ron.ne h.o (by decide) h0
    · exact h.net.rbh.ne h.o (by decide) h0
  · rintro g hg (h0 | h0 | h0)
    · subst h0; exact h.nfi.ne h.net.n (by decide) hg
    · exact h.nfi.ne_rws h.net.ron g h0 hg
    · exact h.nfi.ne_rws h.net.rbh g h0 hg
  · rintro g hg (h0 | h0 | h0)
    · subst h0; exact h.nei.ne h.net.n (by decide) hg
    · exact h.nei.ne_rws h.net.ron g h0 hg
    · exact h.nei.ne_rws h.net.rbh g h0 hg
  · rintro i (h0 | h0 | h0)
    · exact .inl (.inl h0)
    · rcases h.no i h0 with h3 | h3
      · exact .inl (.inr (.inl h3))
      · exact .inr h3
    · rcases h.nh i h0 with h3 | h3
      · exact .inl (.inr (.inr h3))
      · exact .inr h3
  · rcases h1 g hg with h3 | h3
    · exact h.no g h3
    · exact .inr (by omega)
  · rcases h2 g hg with h3 | h3
    · exact h.nh g h3
    · exact .inr (by omega)
/-- what it is made of is set -/
theorem PI.set (h : PI w B nb on0 bh0 f e em pc wr m on bh fi ei xm) (j : Nat) (u : Value) {fi' ei' : Value} {xm' : Bool} (hk : Bk (wr.setCell ⟨w.heap.size + 2, j, none⟩ u) (w.heap.size + 2) 205 #[.slice none 0 0, .slice none 0 0, fi', ei', .bool xm']) (hf : NsIn wr B m fi') (he : NsIn wr B m ei') : PI w B nb on0 bh0 f e em pc (wr.setCell ⟨w.heap.size + 2, j, none⟩ u) m on bh fi' ei' xm' := by
  have hlt := h.lt
  exact ⟨h.net.put_ h.o (by omega) (by decide) (by decide) u, h.r.far (p := ⟨w.heap.size + 2, j, none⟩) (by simp) _, h.p.far (p := ⟨w.heap.size + 2, j, none⟩) (by simp) _, hk, hf.put h.o (by decide) u, he.put h.o (by decide) u, h.s.set_ (p := ⟨w.heap.size + 2, j, none⟩) (.inr (by simp)) _, h.no, h.nh, h.lt, h.bw⟩
/-- behind a seq -/
theorem PI.seq {fi' ei' : Value} {xm' : Bool} (h : PI w B nb on0 bh0 f e em pc wr m on bh fi ei xm) (hk : Bk w' (w.heap.size + 2) 205 #[.slice none 0 0, .slice none 0 0, fi', ei', .bool xm']) (hr : Rws w' B m bh m) (hf : NsIn w' B m fi') (he : NsIn w' B m ei') (hs : Sti (fun i => i = w.heap.size + 2 ∨ bh.ownBlock = some i) wr w') : PI w B nb on0 bh0 f e em pc w' m on bh fi' ei' xm' := by
  have hlt := h.lt
  have hz := h.s.size
  have hn := h.net
  refine ⟨⟨hs.bk hn.n ?_, hn.ron.sti hs ?_ ?_, hr, hn.dj, hn.h⟩, hs.bk h.r ?_, hs.bk h.p ?_, hk, hf, he, h.s.trans hs ?_, h.no, h.nh, h.lt, h.bw⟩
  · rintro (h0 | h0)
    · omega
    · exact hn.rbh.ne hn.n (by decide) h0
  · rintro g hg (h0 | h0)
    · subst h0; exact hn.ron.ne h.o (by decide) hg
    · exact hn.dj g hg h0
  · rintro u hu g hg (h0 | h0)
    · subst h0; exact hu.ne h.o (by decide) hg
    · exact hu.ne_rws hn.rbh g h0 hg
  · rintro (h0 | h0)
    · omega
    · exact hn.rbh.ne h.r (by decide) h0
  · rintro (h0 | h0)
    · omega
    · exact hn.rbh.ne h.p (by decide) h0
  · rintro i (h0 | h0)
    · exact .inr (by omega)
    · rcases h.nh i h0 with h3 | h3
      · exact .inl (.inr (.inr h3))
      · exact .inr h3
end
def set5 (w : World) (b : Nat) (x0 x1 x2 x3 x4 : Value) : World := ((((w.setCell ⟨b, 0, none⟩ x0).setCell ⟨b, 1, none⟩ x1).setCell ⟨b, 2, none⟩ x2).setCell ⟨b, 3, none⟩ x3).setCell ⟨b, 4, none⟩ x4
theorem set5_bk {w : World} {b : Nat} {t : TypeId} {y0 y1 y2 y3 y4 : Value} (k : Bk w b t #[y0, y1, y2, y3, y4]) (x0 x1 x2 x3 x4 : Value) : Bk (set5 w b x0 x1 x2 x3 x4) b t #[x0, x1, x2, x3, x4] := by
  have q0 : Bk _ b t #[x0, y1, y2, y3, y4] := k.set_ 0 x0
  have q1 : Bk _ b t #[x0, x1, y2, y3, y4] := q0.set_ 1 x1
  have q2 : Bk _ b t #[x0, x1, x2, y3, y4] := q1.set_ 2 x2
  have q3 : Bk _ b t #[x0, x1, x2, x3, y4] := q2.set_ 3 x3
  have q4 : Bk _ b t #[x0, x1, x2, x3, x4] := q3.set_ 4 x4
  exact q4
theorem set5_sti (w : World) (b : Nat) (x0 x1 x2 x3 x4 : Value) : Sti (fun i => i = b) w (set5 w b x0 x1 x2 x3 x4) := by
  unfold set5
  have h0 := (Sti.refl (fun i => i = b) w).set_ (p := ⟨b, 0, none⟩) (.inl rfl) x0
  have h1 := h0.set_ (p := ⟨b, 1, none⟩) (.inl rfl) x1
  have h2 := h1.set_ (p := ⟨b, 2, none⟩) (.inl rfl) x2
  have h3 := h2.set_ (p := ⟨b, 3, none⟩) (.inl rfl) x3
  exact h3.set_ (p := ⟨b, 4, none⟩) (.inl rfl) x4
/-- how a part is left -/
theorem PI.left {w wr : World} {B nb m k : Nat} {on0 bh0 f e on bh fi ei : Value} {em xm : Bool} {pc : Array Value} (h : PI w B nb on0 bh0 f e em pc wr (m + k) on bh fi ei xm) : PartOut B nb m k on0 bh0 f e em w (.returned (.agg #[.slice none 0 0, .slice none 0 0, fi, ei, .bool xm])) (set5 wr w.heap.size (.slice none 0 0) (.slice none 0 0) fi ei (.bool xm)) ∧ Bk (set5 wr w.heap.size (.slice none 0 0) (.slice none 0 0) fi ei (.bool xm)) w.heap.size 205 #[.slice none 0 0, .slice none 0 0, fi, ei, .bool xm] := by
  have hs := set5_sti wr w.heap.size (.slice none 0 0) (.slice none 0 0) fi ei (.bool xm)
  have hlt := h.lt
  have hn := h.net
  refine ⟨⟨fi, ei, xm, on, bh, rfl, ⟨hs.bk hn.n (by omega), hn.ron.sti hs ?_ ?_, hn.rbh.sti hs ?_ ?_, hn.dj, hn.h⟩, hs.ns h.nfi ?_, hs.ns h.nei ?_, h.s.trans hs (fun i hi => .inr (by omega)), h.no, h.nh⟩, set5_bk h.r _ _ _ _ _⟩
  · rintro g hg h0; have h0 : g = w.heap.size := h0; subst h0; exact hn.ron.ne h.r (by decide) hg
  · rintro u hu g hg h0; have h0 : g = w.heap.size := h0; subst h0; exact hu.ne h.r (by decide) hg
  · rintro g hg h0; have h0 : g = w.heap.size := h0; subst h0; exact hn.rbh.ne h.r (by decide) hg
  · rintro u hu g hg h0; have h0 : g = w.heap.size := h0; subst h0; exact hu.ne h.r (by decide) hg
  · rintro g hg h0; have h0 : g = w.heap.size := h0; subst h0; exact h.nfi.ne h.r (by decide) hg
  · rintro g hg h0; have h0 : g = w.heap.size := h0; subst h0; exact h.nei.ne h.r (by decide) hg
/-- the places of a part, whatever net they are laid into -/
def PartAny (w0 : World) (pb n c mb ec : Nat) (A EA : Option Addr) (l : List Pt) (mg : List Mg) (i : Nat) : Prop := ∀ (nb m : Nat) (on bh f e : Value) (em : Bool) (w : World), Below w0.heap.size w0 w → NetAt w w0.heap.size nb m on bh f e em → m + mn l i ≤ 256 → Calls Tryz.prog 157 #[.pointer (some ⟨nb, 0, none⟩), .slice A n c, .int .i64 i, .slice EA mg.length ec] w (PartOut w0.heap.size nb m (mn l i) on bh f e em w)
set_option maxRecDepth 100000 in
set_option maxHeartbeats 16000000 in
theorem part_or (w00 : World) (pb n c mb ec : Nat) (A EA : Option Addr) (l : List Pt) (mg : List Mg) (i : Nat) (p : Pt) (hpi : l[i]? = some p) (hk : p.k = 3) (hp : Parts w00 pb (.slice A n c) n l) (hn : n ≤ 1000) (hg : MgsIn w00 mb (.slice EA mg.length ec) mg) (hgl : mg.length ≤ 100000) (ih : ∀ i', i' < i → PartAny w00 pb n c mb ec A EA l mg i') : PartAny w00 pb n c mb ec A EA l mg i := by
  intro nb m on bh f e em w hbw hnet hm
  have hzw := hbw.size
  have hok := hp.ok i p hpi
  have hin : i < n := by have := hp.len; have := (List.getElem?_eq_some_iff.1 hpi).1; omega
  have hkown := own_below (hp.own i p hpi) hbw
  have hkl : p.ks.length = p.m := by have := hkown.1; simpa [nts] using this
  have hmn := mn_eq hpi hok.kid
  obtain ⟨ab, ao, rfl, hab, hcc⟩ := (hp.below hbw).at_ hpi
  have c0 : w.cell? ⟨ab, ao + i * 5, none⟩ = some (.int .i64 p.k) := hcc 0 (by omega)
  have c1 : w.cell? ⟨ab, ao + i * 5 + 1, none⟩ = some (.int .i64 p.lo) := hcc 1 (by omega)
  have c2 : w.cell? ⟨ab, ao + i * 5 + 2, none⟩ = some (.int .i64 p.hi) := hcc 2 (by omega)
  have c3 : w.cell? ⟨ab, ao + i * 5 + 3, none⟩ = some (.string p.nm) := hcc 3 (by omega)
  have c4 : w.cell? ⟨ab, ao + i * 5 + 4, none⟩ = some (.slice p.A p.m p.c) := hcc 4 (by omega)
  unfold tms at hmn
  obtain ⟨pk, plo, phi, pnm, pA, pm, pc, pks, ps⟩ := p
  obtain ⟨⟨k1, k2⟩, ⟨lo1, lo2⟩, ⟨hi1, hi2⟩, nm1, hone, -, m1, kid1⟩ := hok
  dsimp only at *
  have HP := Lib.hid hp
  have HG := Lib.hid hg
  have HKO := Lib.hid hkown
  have HKL := Lib.hid hkl
  have HKID := Lib.hid kid1
  have IH := Lib.hid ih
  have HMN := Lib.hid hmn
  have HNET := Lib.hid hnet
  have HONE := Lib.hid hone
  have HM := Lib.hid hm
  have i0 : (0 : Int) ≤ i := by omega
  have i1 : (i : Int) < n := by omega
  have HK := Lib.hid hk
  clear hp hkown hkl kid1 ih hcc hpi hmn hone hg hnet hk hm
  have HGE := Lib.hid (And.intro HNET.out.ron.ge HNET.out.rbh.ge)
  have hky : ∀ g, (Pt.v ⟨pk, plo, phi, pnm, pA, pm, pc, pks, ps⟩).ownBlock = some g → ¬ (g = nb ∨ on.ownBlock = some g ∨ bh.ownBlock = some g) := by
    rintro g hg (h0 | h0 | h0)
    · subst h0; exact own_ne HKO.out HNET.out.n (by decide) hg
    · obtain ⟨vs, hv, -⟩ := id HNET.out.ron; exact hown_type HKO.out hv (by decide) g h0 hg
    · obtain ⟨vs, hv, -⟩ := id HNET.out.rbh; exact hown_type HKO.out hv (by decide) g h0 hg
  have HKY := Lib.hid hky
  have hnbl := def_lt' HNET.out.n
  clear hky
  go_enter Tryz.func157, Tryz.ntmps157
  go_upto_region 3 with fail
  have kr : Bk (((w.alloc (.cells zeroT 205)).alloc (.cells #[.int .i64 pk, .int .i64 plo, .int .i64 phi, .string pnm, .slice pA pm pc] 192)).alloc (.cells zeroT 205)) w.heap.size 205 zeroT := ((Bk.new w _ _).alloc _).alloc _
  have kp : Bk (((w.alloc (.cells zeroT 205)).alloc (.cells #[.int .i64 pk, .int .i64 plo, .int .i64 phi, .string pnm, .slice pA pm pc] 192)).alloc (.cells zeroT 205)) (w.heap.size + 1) 192 #[.int .i64 pk, .int .i64 plo, .int .i64 phi, .string pnm, .slice pA pm pc] := (Bk.made _ _ (by simp)).alloc _
  have ko : Bk (((w.alloc (.cells zeroT 205)).alloc (.cells #[.int .i64 pk, .int .i64 plo, .int .i64 phi, .string pnm, .slice pA pm pc] 192)).alloc (.cells zeroT 205)) (w.heap.size + 2) 205 zeroT := Bk.made _ _ (by simp)
  have hb0 : Below w.heap.size w (((w.alloc (.cells zeroT 205)).alloc (.cells #[.int .i64 pk, .int .i64 plo, .int .i64 phi, .string pnm, .slice pA pm pc] 192)).alloc (.cells zeroT 205)) := belowA
  generalize ((w.alloc (.cells zeroT 205)).alloc (.cells #[.int .i64 pk, .int .i64 plo, .int .i64 phi, .string pnm, .slice pA pm pc] 192)).alloc (.cells zeroT 205) = w0 at *
  have hI0 := Lib.hid (PI.zero HNET.out hzw hb0 kr kp ko)
  clear kr kp ko hb0 c0 c1 c2 c3 c4 HNET
  have e1 : (pk == 1) = false := by rw [HK.out]; rfl
  have e3 : (pk == 3) = true := by rw [HK.out]; rfl
  have HSUM := Lib.hid (show mn l i = (pks.map (mn l)).sum by rw [HMN.out, if_neg (by rw [HK.out]; omega), if_neg (by rw [HK.out]; omega), Nat.mul_one])
  clear HMN
  obtain ⟨s0, s1, s2, s3, s4⟩ := bk5 hI0.out.o
  obtain ⟨q0, q1, q2, q3, q4⟩ := bk5 hI0.out.p
  obtain ⟨r0, r1, r2, r3, r4⟩ := bk5 (show Bk _ w.heap.size 205 zeroT from hI0.out.r)
  have sf := hI0.out.o.frozen; have sl := def_lt' hI0.out.o
  have rf := hI0.out.r.frozen; have rl := def_lt' hI0.out.r
  go_wp2
  clear s0 s1 s2 s3 s4 q0 q1 q2 q3 q4 r0 r1 r2 r3 r4 sf sl rf rl
  go_loopw [12] (fun j wr => ∃ (q M : Nat) (on' bh' fi ei : Value) (xm : Bool), q ≤ pm ∧ j = .int .i64 q ∧ Hid (M = m + ((pks.take q).map (mn l)).sum) ∧ Hid (PI w w00.heap.size nb on bh f e em #[.int .i64 pk, .int .i64 plo, .int .i64 phi, .string pnm, .slice pA pm pc] wr M on' bh' fi ei xm)) (fun j _ => pm - (intOf j).toNat)
  case atStart => exact ⟨0, m, on, bh, _, _, _, by omega, rfl, Lib.hid (by simp), hI0⟩
  case round =>
    clear hI0
    obtain ⟨q, M, on', bh', fi, ei, xm, hq, rfl, hM, hI⟩ := hrel
    obtain ⟨Af, cf, lf, rfl, hlf, -, -⟩ := hI.out.nfi.form
    obtain ⟨Ae, ce, le, rfl, hle, -, -⟩ := hI.out.nei.form
    have hlf2 := hlf.len
    have hle2 := hle.len
    generalize lf.length = fn at *
    generalize le.length = en at *
    clear hlf hle
    obtain ⟨s0, s1, s2, s3, s4⟩ := bk5 hI.out.o
    obtain ⟨q0, q1, q2, q3, q4⟩ := bk5 hI.out.p
    obtain ⟨r0, r1, r2, r3, r4⟩ := bk5 (show Bk _ w.heap.size 205 zeroT from hI.out.r)
    have sf := hI.out.o.frozen; have sl := def_lt' hI.out.o
    have rf := hI.out.r.frozen; have rl := def_lt' hI.out.r
    by_cases hlt : q < pm
    · have e4 : (q : Int) < pm := by omega
      obtain ⟨x, hx⟩ : ∃ x, pks[q]? = some x := ⟨_, List.getElem?_eq_getElem (by rw [HKL.out]; exact hlt)⟩
      have hxi := HKID.out x (List.mem_of_getElem? hx)
      have hkx := map_take (l := l) hx
      have htl : ((pks.take (q + 1)).map (mn l)).sum ≤ (pks.map (mn l)).sum := by
        have h1 := List.take_append_drop (q + 1) pks
        have h2 : (pks.map (mn l)).sum = ((pks.take (q + 1)).map (mn l)).sum + ((pks.drop (q + 1)).map (mn l)).sum := by rw [← List.sum_append, ← List.map_append, h1]
        omega
      have hbr := hI.out.s.below (B := w00.heap.size) (by rintro j (h0 | h0 | h0); (· have := hI.out.net.h; omega); (· exact HGE.out.1 j h0); (· exact HGE.out.2 j h0)) hzw
      have hbrw : Below w00.heap.size w00 wr := hbw.trans hbr
      have hkr := hI.out.s.own HKO.out HKY.out
      obtain ⟨kb, ko, rfl, hkc⟩ := nts_cell hkr (show 0 < pm by omega)
      have hk0 := hkc q x hx
      have hsum := HSUM.out
      have hbound : M + mn l x ≤ 256 := by have := HM.out; have := hM.out; omega
      have hih := Lib.hid (IH.out x hxi nb M on' bh' f e em wr hbrw hI.out.net hbound)
      have hMN := Lib.hid (show M + mn l x = m + ((pks.take (q + 1)).map (mn l)).sum by rw [hkx]; have := hM.out; omega)
      have x0 : (0 : Int) ≤ x := by omega
      have x1 : (x : Int) < n := by omega
      clear hx hkc hkx htl hkr
      go_wp2_with (go_at_call 157; fail)
      refine hih.out.mono ?_
      rintro e w5 ⟨xfi, xei, xxm, on2, bh2, rfl, hn5, hxf5, hxe5, hs5, ho5, hh5⟩
      have hI5 := Lib.hid (hI.out.rec_ hn5 hs5 ho5 hh5)
      obtain ⟨Ag, cg, lg, rfl, hlg, -, -⟩ := hxf5.form
      obtain ⟨Ah, ch, lh, rfl, hlh, -, -⟩ := hxe5.form
      have hlg2 := hlg.len
      have hlh2 := hlh.len
      generalize lg.length = gn at *
      generalize lh.length = hnn at *
      have HX5 := Lib.hid (And.intro hxf5 hxe5)
      clear hlg hlh hn5 hs5 ho5 hh5 hxf5 hxe5 hI hih hM
      clear s0 s1 s2 s3 s4 q0 q1 q2 q3 q4 r0 r1 r2 r3 r4 sf sl rf rl
      go_upto_region 15 with fail
      have hb6 : Below w5.heap.size w5 (w5.alloc (.cells #[.slice none 0 0, .slice none 0 0, .slice Ag gn cg, .slice Ah hnn ch, .bool xxm] 205)) := belowA
      have kx := Bk.new w5 205 #[.slice none 0 0, .slice none 0 0, .slice Ag gn cg, .slice Ah hnn ch, .bool xxm]
      generalize w5.alloc (.cells #[.slice none 0 0, .slice none 0 0, .slice Ag gn cg, .slice Ah hnn ch, .bool xxm] 205) = w6 at *
      have hI6 := Lib.hid (hI5.out.below hb6)
      have hl5 := def_lt' hI5.out.o
      have HX6 := Lib.hid (And.intro (HX5.out.1.below hb6) (HX5.out.2.below hb6))
      have hbB : w00.heap.size ≤ w6.heap.size := by have := hI6.out.s.size; omega
      obtain ⟨s0, s1, s2, s3, s4⟩ := bk5 hI6.out.o
      obtain ⟨q0, q1, q2, q3, q4⟩ := bk5 hI6.out.p
      obtain ⟨r0, r1, r2, r3, r4⟩ := bk5 (show Bk _ w.heap.size 205 zeroT from hI6.out.r)
      have sf := hI6.out.o.frozen; have sl := def_lt' hI6.out.o
      have rf := hI6.out.r.frozen; have rl := def_lt' hI6.out.r
      obtain ⟨y0, y1, y2, y3, y4⟩ := bk5 kx
      have yl := def_lt' kx
      have hor := Lib.hid (or_any _ _ w00.heap.size w00.heap.size (M + mn l x) w6 (by omega) hI6.out.nfi HX6.out.1)
      go_wp2_with (go_at_call 196; fail)
      refine hor.out.mono ?_
      rintro e w7 ⟨v7, rfl, hv7, hb7⟩
      have hI7 := hI6.out.below hb7
      have hv7' : NsIn w7 w00.heap.size (M + mn l x) v7 := hv7.mono (Nat.le_refl _) hbB
      obtain ⟨A7, c7, l7, rfl, -, -, -⟩ := hv7.form
      generalize l7.length = n7 at *
      have hI8 := Lib.hid (hI7.set 2 (.slice A7 n7 c7) (hI7.o.set_ 2 _) hv7' hI7.nei)
      have kx7 := kx.ext hb7
      have kx8 := kx7.far (p := ⟨w.heap.size + 2, 2, none⟩) (by simp; omega) (.slice A7 n7 c7)
      have hx8 := (HX6.out.2.below hb7).put hI7.o (by decide) (i := 2) (.slice A7 n7 c7)
      have HX8 := Lib.hid hx8
      clear s0 s1 s2 s3 s4 q0 q1 q2 q3 q4 r0 r1 r2 r3 r4 sf sl rf rl
      clear y0 y1 y2 y3 y4 yl
      obtain ⟨s0, s1, s2, s3, s4⟩ := bk5 hI7.o
      have sf := hI7.o.frozen; have sl := def_lt' hI7.o
      go_upto_region 16 with fail
      generalize w7.setCell ⟨w.heap.size + 2, 2, none⟩ (.slice A7 n7 c7) = w8 at *
      clear s0 s1 s2 s3 s4 sf sl hI7 hv7 hv7' hx8 hI6 hor hb7 kx kx7
      obtain ⟨s0, s1, s2, s3, s4⟩ := bk5 hI8.out.o
      obtain ⟨q0, q1, q2, q3, q4⟩ := bk5 hI8.out.p
      obtain ⟨r0, r1, r2, r3, r4⟩ := bk5 (show Bk _ w.heap.size 205 zeroT from hI8.out.r)
      have sf := hI8.out.o.frozen; have sl := def_lt' hI8.out.o
      have rf := hI8.out.r.frozen; have rl := def_lt' hI8.out.r
      obtain ⟨y0, y1, y2, y3, y4⟩ := bk5 kx8
      have yl := def_lt' kx8
      have hbB8 : w00.heap.size ≤ w8.heap.size := by have := hI8.out.s.size; omega
      have hor := Lib.hid (or_any _ _ w00.heap.size w00.heap.size (M + mn l x) w8 (by omega) hI8.out.nei HX8.out)
      go_wp2_with (go_at_call 196; fail)
      refine hor.out.mono ?_
      rintro e w9 ⟨v9, rfl, hv9, hb9⟩
      have hI9 := hI8.out.below hb9
      have hv9' : NsIn w9 w00.heap.size (M + mn l x) v9 := hv9.mono (Nat.le_refl _) hbB8
      obtain ⟨A9, c9, l9, rfl, -, -, -⟩ := hv9.form
      generalize l9.length = n9 at *
      have hI10 := Lib.hid (hI9.set 3 (.slice A9 n9 c9) (hI9.o.set_ 3 _) hI9.nfi hv9')
      have kx9 := kx8.ext hb9
      have kx10 := kx9.far (p := ⟨w.heap.size + 2, 3, none⟩) (by simp; omega) (.slice A9 n9 c9)
      clear s0 s1 s2 s3 s4 q0 q1 q2 q3 q4 r0 r1 r2 r3 r4 sf sl rf rl
      clear y0 y1 y2 y3 y4 yl
      obtain ⟨s0, s1, s2, s3, s4⟩ := bk5 hI9.o
      have sf := hI9.o.frozen; have sl := def_lt' hI9.o
      go_upto_region 17 with fail
      generalize w9.setCell ⟨w.heap.size + 2, 3, none⟩ (.slice A9 n9 c9) = w10 at *
      clear s0 s1 s2 s3 s4 sf sl hI9 hv9 hv9' hI8 hor hb9 kx8 kx9
      obtain ⟨s0, s1, s2, s3, s4⟩ := bk5 hI10.out.o
      obtain ⟨q0, q1, q2, q3, q4⟩ := bk5 hI10.out.p
      obtain ⟨r0, r1, r2, r3, r4⟩ := bk5 (show Bk _ w.heap.size 205 zeroT from hI10.out.r)
      have sf := hI10.out.o.frozen; have sl := def_lt' hI10.out.o
      have rf := hI10.out.r.frozen; have rl := def_lt' hI10.out.r
      obtain ⟨y0, y1, y2, y3, y4⟩ := bk5 kx10
      have yl := def_lt' kx10
      cases xm <;> cases xxm
      all_goals
        go_wp2
        go_roundw
        case rel => exact ⟨q + 1, M + mn l x, on2, bh2, _, _, _, by omega, by go_num, hMN, Lib.hid (hI10.out.set 4 _ (hI10.out.o.set_ 4 _) hI10.out.nfi hI10.out.nei)⟩
        case measure => simp [intOf]; omega
    · obtain rfl : pm = q := by omega
      have hMM : M = m + mn l i := by
        have h1 := hM.out
        rw [List.take_of_length_le (by rw [HKL.out]; exact Nat.le_refl _)] at h1
        have := HSUM.out
        omega
      subst hMM
      go_wp2
      obtain ⟨hL1, hL2⟩ := hI.out.left
      unfold set5 at hL1 hL2
      obtain ⟨z0, z1, z2, z3, z4⟩ := bk5 hL2
      exact bodyPost_ret (v := .agg #[.slice none 0 0, .slice none 0 0, .slice Af fn cf, .slice Ae en ce, .bool xm]) (by simp [results, Tryz.results157, go_sem, z0, z1, z2, z3, z4]) rfl hL1
set_option maxRecDepth 100000 in
set_option maxHeartbeats 16000000 in
theorem part_seq (w00 : World) (pb n c mb ec : Nat) (A EA : Option Addr) (l : List Pt) (mg : List Mg) (i : Nat) (p : Pt) (hpi : l[i]? = some p) (hk : p.k = 2) (hp : Parts w00 pb (.slice A n c) n l) (hn : n ≤ 1000) (hg : MgsIn w00 mb (.slice EA mg.length ec) mg) (hgl : mg.length ≤ 100000) (ih : ∀ i', i' < i → PartAny w00 pb n c mb ec A EA l mg i') : PartAny w00 pb n c mb ec A EA l mg i := by
  intro nb m on bh f e em w hbw hnet hm
  have hzw := hbw.size
  have hok := hp.ok i p hpi
  have hin : i < n := by have := hp.len; have := (List.getElem?_eq_some_iff.1 hpi).1; omega
  have hkown := own_below (hp.own i p hpi) hbw
  have hkl : p.ks.length = p.m := by have := hkown.1; simpa [nts] using this
  have hmn := mn_eq hpi hok.kid
  obtain ⟨ab, ao, rfl, hab, hcc⟩ := (hp.below hbw).at_ hpi
  have c0 : w.cell? ⟨ab, ao + i * 5, none⟩ = some (.int .i64 p.k) := hcc 0 (by omega)
  have c1 : w.cell? ⟨ab, ao + i * 5 + 1, none⟩ = some (.int .i64 p.lo) := hcc 1 (by omega)
  have c2 : w.cell? ⟨ab, ao + i * 5 + 2, none⟩ = some (.int .i64 p.hi) := hcc 2 (by omega)
  have c3 : w.cell? ⟨ab, ao + i * 5 + 3, none⟩ = some (.string p.nm) := hcc 3 (by omega)
  have c4 : w.cell? ⟨ab, ao + i * 5 + 4, none⟩ = some (.slice p.A p.m p.c) := hcc 4 (by omega)
  unfold tms at hmn
  obtain ⟨pk, plo, phi, pnm, pA, pm, pc, pks, ps⟩ := p
  obtain ⟨⟨k1, k2⟩, ⟨lo1, lo2⟩, ⟨hi1, hi2⟩, nm1, hone, -, m1, kid1⟩ := hok
  dsimp only at *
  have HP := Lib.hid hp
  have HG := Lib.hid hg
  have HKO := Lib.hid hkown
  have HKL := Lib.hid hkl
  have HKID := Lib.hid kid1
  have IH := Lib.hid ih
  have HMN := Lib.hid hmn
  have HNET := Lib.hid hnet
  have HONE := Lib.hid hone
  have HM := Lib.hid hm
  have i0 : (0 : Int) ≤ i := by omega
  have i1 : (i : Int) < n := by omega
  have HK := Lib.hid hk
  clear hp hkown hkl kid1 ih hcc hpi hmn hone hg hnet hk hm
  have HGE := Lib.hid (And.intro HNET.out.ron.ge HNET.out.rbh.ge)
  have hky : ∀ g, (Pt.v ⟨pk, plo, phi, pnm, pA, pm, pc, pks, ps⟩).ownBlock = some g → ¬ (g = nb ∨ on.ownBlock = some g ∨ bh.ownBlock = some g) := by
    rintro g hg (h0 | h0 | h0)
    · subst h0; exact own_ne HKO.out HNET.out.n (by decide) hg
    · obtain ⟨vs, hv, -⟩ := id HNET.out.ron; exact hown_type HKO.out hv (by decide) g h0 hg
    · obtain ⟨vs, hv, -⟩ := id HNET.out.rbh; exact hown_type HKO.out hv (by decide) g h0 hg
  have HKY := Lib.hid hky
  have hnbl := def_lt' HNET.out.n
  clear hky
  go_enter Tryz.func157, Tryz.ntmps157
  go_upto_region 3 with fail
  have kr : Bk (((w.alloc (.cells zeroT 205)).alloc (.cells #[.int .i64 pk, .int .i64 plo, .int .i64 phi, .string pnm, .slice pA pm pc] 192)).alloc (.cells zeroT 205)) w.heap.size 205 zeroT := ((Bk.new w _ _).alloc _).alloc _
  have kp : Bk (((w.alloc (.cells zeroT 205)).alloc (.cells #[.int .i64 pk, .int .i64 plo, .int .i64 phi, .string pnm, .slice pA pm pc] 192)).alloc (.cells zeroT 205)) (w.heap.size + 1) 192 #[.int .i64 pk, .int .i64 plo, .int .i64 phi, .string pnm, .slice pA pm pc] := (Bk.made _ _ (by simp)).alloc _
  have ko : Bk (((w.alloc (.cells zeroT 205)).alloc (.cells #[.int .i64 pk, .int .i64 plo, .int .i64 phi, .string pnm, .slice pA pm pc] 192)).alloc (.cells zeroT 205)) (w.heap.size + 2) 205 zeroT := Bk.made _ _ (by simp)
  have hb0 : Below w.heap.size w (((w.alloc (.cells zeroT 205)).alloc (.cells #[.int .i64 pk, .int .i64 plo, .int .i64 phi, .string pnm, .slice pA pm pc] 192)).alloc (.cells zeroT 205)) := belowA
  generalize ((w.alloc (.cells zeroT 205)).alloc (.cells #[.int .i64 pk, .int .i64 plo, .int .i64 phi, .string pnm, .slice pA pm pc] 192)).alloc (.cells zeroT 205) = w0 at *
  have hI0 := Lib.hid (PI.zero HNET.out hzw hb0 kr kp ko)
  clear kr kp ko hb0 c0 c1 c2 c3 c4 HNET
  have e1 : (pk == 1) = false := by rw [HK.out]; rfl
  have e3 : (pk == 3) = false := by rw [HK.out]; rfl
  have e2 : (pk == 2) = true := by rw [HK.out]; rfl
  have HSUM := Lib.hid (show mn l i = (pks.map (mn l)).sum by rw [HMN.out, if_neg (by rw [HK.out]; omega), if_neg (by rw [HK.out]; omega), Nat.mul_one])
  clear HMN
  obtain ⟨s0, s1, s2, s3, s4⟩ := bk5 hI0.out.o
  obtain ⟨q0, q1, q2, q3, q4⟩ := bk5 hI0.out.p
  obtain ⟨r0, r1, r2, r3, r4⟩ := bk5 (show Bk _ w.heap.size 205 zeroT from hI0.out.r)
  have sf := hI0.out.o.frozen; have sl := def_lt' hI0.out.o
  have rf := hI0.out.r.frozen; have rl := def_lt' hI0.out.r
  have hI1 := Lib.hid (hI0.out.set 4 (.bool true) (hI0.out.o.set_ 4 _) hI0.out.nfi hI0.out.nei)
  go_wp2
  clear s0 s1 s2 s3 s4 q0 q1 q2 q3 q4 r0 r1 r2 r3 r4 sf sl rf rl hI0
  go_loopw [14] (fun j wr => ∃ (q M : Nat) (on' bh' fi ei : Value) (xm : Bool), q ≤ pm ∧ j = .int .i64 q ∧ Hid (M = m + ((pks.take q).map (mn l)).sum) ∧ Hid (PI w w00.heap.size nb on bh f e em #[.int .i64 pk, .int .i64 plo, .int .i64 phi, .string pnm, .slice pA pm pc] wr M on' bh' fi ei xm)) (fun j _ => pm - (intOf j).toNat)
  case atStart => exact ⟨0, m, on, bh, _, _, _, by omega, rfl, Lib.hid (by simp), hI1⟩
  case round =>
    clear hI1
    obtain ⟨q, M, on', bh', fi, ei, xm, hq, rfl, hM, hI⟩ := hrel
    obtain ⟨Af, cf, lf, rfl, hlf, -, -⟩ := hI.out.nfi.form
    obtain ⟨Ae, ce, le, rfl, hle, -, -⟩ := hI.out.nei.form
    generalize lf.length = fn at *
    generalize le.length = en at *
    clear hlf hle
    obtain ⟨s0, s1, s2, s3, s4⟩ := bk5 hI.out.o
    obtain ⟨q0, q1, q2, q3, q4⟩ := bk5 hI.out.p
    obtain ⟨r0, r1, r2, r3, r4⟩ := bk5 (show Bk _ w.heap.size 205 zeroT from hI.out.r)
    have sf := hI.out.o.frozen; have sl := def_lt' hI.out.o
    have rf := hI.out.r.frozen; have rl := def_lt' hI.out.r
    by_cases hlt : q < pm
    · have e4 : (q : Int) < pm := by omega
      obtain ⟨x, hx⟩ : ∃ x, pks[q]? = some x := ⟨_, List.getElem?_eq_getElem (by rw [HKL.out]; exact hlt)⟩
      have hxi := HKID.out x (List.mem_of_getElem? hx)
      have hkx := map_take (l := l) hx
      have htl : ((pks.take (q + 1)).map (mn l)).sum ≤ (pks.map (mn l)).sum := by
        have h1 := List.take_append_drop (q + 1) pks
        have h2 : (pks.map (mn l)).sum = ((pks.take (q + 1)).map (mn l)).sum + ((pks.drop (q + 1)).map (mn l)).sum := by rw [← List.sum_append, ← List.map_append, h1]
        omega
      have hbr := hI.out.s.below (B := w00.heap.size) (by rintro j (h0 | h0 | h0); (· have := hI.out.net.h; omega); (· exact HGE.out.1 j h0); (· exact HGE.out.2 j h0)) hzw
      have hbrw : Below w00.heap.size w00 wr := hbw.trans hbr
      have hkr := hI.out.s.own HKO.out HKY.out
      obtain ⟨kb, ko, rfl, hkc⟩ := nts_cell hkr (show 0 < pm by omega)
      have hk0 := hkc q x hx
      have hsum := HSUM.out
      have hbound : M + mn l x ≤ 256 := by have := HM.out; have := hM.out; omega
      have hih := Lib.hid (IH.out x hxi nb M on' bh' f e em wr hbrw hI.out.net hbound)
      have hMN := Lib.hid (show M + mn l x = m + ((pks.take (q + 1)).map (mn l)).sum by rw [hkx]; have := hM.out; omega)
      have x0 : (0 : Int) ≤ x := by omega
      have x1 : (x : Int) < n := by omega
      clear hx hkc hkx htl hkr
      go_wp2_with (go_at_call 157; fail)
      refine hih.out.mono ?_
      rintro e w5 ⟨xfi, xei, xxm, on2, bh2, rfl, hn5, hxf5, hxe5, hs5, ho5, hh5⟩
      have hI5 := Lib.hid (hI.out.rec_ hn5 hs5 ho5 hh5)
      obtain ⟨Ag, cg, lg, rfl, hlg, -, -⟩ := hxf5.form
      obtain ⟨Ah, ch, lh, rfl, hlh, -, -⟩ := hxe5.form
      generalize lg.length = gn at *
      generalize lh.length = hnn at *
      have HX5 := Lib.hid (And.intro hxf5 hxe5)
      clear hlg hlh hn5 hs5 ho5 hh5 hxf5 hxe5 hI hih hM
      clear s0 s1 s2 s3 s4 q0 q1 q2 q3 q4 r0 r1 r2 r3 r4 sf sl rf rl
      go_upto_region 25 with fail
      have hb6 : Below w5.heap.size w5 (w5.alloc (.cells #[.slice none 0 0, .slice none 0 0, .slice Ag gn cg, .slice Ah hnn ch, .bool xxm] 205)) := belowA
      have kx := Bk.new w5 205 #[.slice none 0 0, .slice none 0 0, .slice Ag gn cg, .slice Ah hnn ch, .bool xxm]
      generalize w5.alloc (.cells #[.slice none 0 0, .slice none 0 0, .slice Ag gn cg, .slice Ah hnn ch, .bool xxm] 205) = w6 at *
      have hI6 := Lib.hid (hI5.out.below hb6)
      have hl5 := def_lt' hI5.out.o
      have HX6 := Lib.hid (And.intro (HX5.out.1.below hb6) (HX5.out.2.below hb6))
      have hbB : w00.heap.size ≤ w6.heap.size := by have := hI6.out.s.size; omega
      obtain ⟨s0, s1, s2, s3, s4⟩ := bk5 hI6.out.o
      obtain ⟨q0, q1, q2, q3, q4⟩ := bk5 hI6.out.p
      obtain ⟨r0, r1, r2, r3, r4⟩ := bk5 (show Bk _ w.heap.size 205 zeroT from hI6.out.r)
      have sf := hI6.out.o.frozen; have sl := def_lt' hI6.out.o
      have rf := hI6.out.r.frozen; have rl := def_lt' hI6.out.r
      obtain ⟨y0, y1, y2, y3, y4⟩ := bk5 kx
      have yl := def_lt' kx
      have hsq := Lib.hid (seq_any w00.heap.size (M + mn l x) nb (w.heap.size + 2) on2 bh2 f e _ _ _ _ _ _ em xm xxm w6 hbound hbB (by omega) hI6.out.net.n hI6.out.o hI6.out.net.rbh hI6.out.nfi hI6.out.nei HX6.out.1 HX6.out.2)
      go_wp2_with (go_at_call 197; fail)
      refine hsq.out.mono ?_
      rintro e w7 ⟨fi7, ei7, xm7, rfl, k7, hr7, hf7, he7, hs7⟩
      have hI7 := Lib.hid (hI6.out.seq k7 hr7 hf7 he7 hs7)
      clear k7 hr7 hf7 he7 hs7 hsq
      go_wp2
      go_roundw
      case rel => exact ⟨q + 1, M + mn l x, on2, bh2, _, _, _, by omega, by go_num, hMN, hI7⟩
      case measure => simp [intOf]; omega
    · obtain rfl : pm = q := by omega
      have hMM : M = m + mn l i := by
        have h1 := hM.out
        rw [List.take_of_length_le (by rw [HKL.out]; exact Nat.le_refl _)] at h1
        have := HSUM.out
        omega
      subst hMM
      go_wp2
      obtain ⟨hL1, hL2⟩ := hI.out.left
      unfold set5 at hL1 hL2
      obtain ⟨z0, z1, z2, z3, z4⟩ := bk5 hL2
      exact bodyPost_ret (v := .agg #[.slice none 0 0, .slice none 0 0, .slice Af fn cf, .slice Ae en ce, .bool xm]) (by simp [results, Tryz.results157, go_sem, z0, z1, z2, z3, z4]) rfl hL1
end Go.Proofs.YtmacfoebfpljoaaGreat
