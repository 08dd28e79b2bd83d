/- merged texts: W V U A B Rf0 StA StB R Q -/
import Derived.WalkKit
import Derived.WalkSpells
import Derived.WalkLawsBesides
import Derived.Lib.Hide
import Derived.Maps.AppendAt
import Derived.Maps.Range
import Derived.Deep.AppendLies
import Derived.Deep.RegionLaw
import Derived.Deep.Draws
import Derived.Lib.SliceRun
import Derived.Test.YtmacfoebfpljoaaGreatRows
import Derived.Deep.DeepCutAuto
import Derived.Deep.QuietTactic
import Derived.BigQuiet
import Derived.Laws.StructEq
import Derived.ChangeKeysEq
import Derived.RangeFuncNested
import Derived.RangeFuncBound
import Derived.RangeFuncCalls
import Derived.RangeFuncLeaves
import Derived.RangeFuncBox
import Derived.Shelf.Abstract
import Derived.Shelf.RegionOpen
import Derived.OwnWalkIn
import Derived.TacticsInMore
import Derived.LoopNIn
import Derived.LoopIn
namespace Go.Proofs.YtmacfoebfpljoaaGreat
open Go.RowKit
theorem ret_bool {a b : Bool} (h : a = b) : Ending.returned (.bool a) = .returned (.bool b) := by rw [h]
theorem ret_int {k : IntKind} {a b : Int} (h : a = b) : Ending.returned (.int k a) = .returned (.int k b) := by rw [h]
section grown
variable {a w w1 w2 w' : World} {row row' : Option Nat}
theorem gr_drew (h : a.grownBy w row) : a.grownBy w.drew row := ⟨h.os, h.tape, h.output, h.size, h.block⟩
theorem gr_drewN (h : a.grownBy w row) (n : Nat) : a.grownBy (w.drewN n) row := ⟨h.os, h.tape, h.output, h.size, h.block⟩
theorem gr_alloc (h : a.grownBy w row) (o : Obj) : a.grownBy (w.alloc o) row :=
  ⟨h.os, h.tape, h.output, Nat.le_trans h.size (by simp), fun i hi hne => (Below.heap_alloc w o i (Nat.lt_of_lt_of_le hi h.size)).trans (h.block i hi hne)⟩
theorem gr_set (h : a.grownBy w row) {p : Addr} (hp : row = some p.block ∨ a.heap.size ≤ p.block) (u : Value) : a.grownBy (w.setCell p u) row :=
  ⟨h.os, h.tape, h.output, by simpa [World.setCell] using h.size, fun i hi hne => (Below.heap_setCell w p u i (by
    rintro rfl
    rcases hp with hp | hp
    · exact hne hp.symm
    · omega)).trans (h.block i hi hne)⟩
theorem gr_below {B : Nat} (h : a.grownBy w row) (hB : B ≤ a.heap.size) (hr : ∀ k, row = some k → B ≤ k) : Below B a w :=
  ⟨h.os, h.tape, h.output, h.size, fun i hi => h.block i (by omega) (fun e => by have := hr i e.symm; omega)⟩
theorem gr_of_below (h : Below a.heap.size a w) : a.grownBy w row := ⟨h.os, h.tape, h.output, h.size, fun i hi _ => h.block i hi⟩
theorem below_of_none (h : a.grownBy w none) : Below a.heap.size a w := ⟨h.os, h.tape, h.output, h.size, fun i hi => h.block i hi (by simp)⟩
end grown
theorem below_drewN {B : Nat} {a w : World} (h : Below B a w) (n : Nat) : Below B a (w.drewN n) := ⟨h.os, h.tape, h.output, h.size, h.block⟩
section app
variable {P : Program}
/-- append of one element (its cells 'xs1', laid in a new block) onto an owned row: at a plain region's list -/
theorem app_one {ops : Array Oper} {rest : List Oper} {o : Oper} {a : Act} {Q : Exit → Act → World → Prop} {t e : TypeId} {z : Value} {size bytes : Nat}
    (ht : P.underlying t = some (.slice e)) (hinfo : (P.info? e).map (fun i => (i.zero, i.size, i.bytes)) = some (some z, size, bytes)) (hzs : z.cells.size = size) (hsz : 0 < size)
    (w : World) (base : Nat) (v : Value) (n : Nat) (xs : List Value) (hown : w.ownsRow base e size v n xs) (hn : n + 1 ≤ maxLen) (hby : (n + 1) * bytes ≤ 140737488355328) (hb : base ≤ w.heap.size)
    (news : Array Value) (hl : news.size = size) (h1 : ∀ u ∈ news.toList, u.oneCell' = true)
    (hgd : o.guard = none) (s x : Operand) (ho : o.op = .call { callee := .builtin .append, args := #[s, x], argTypes := #[t, t] })
    (hs : a.eval s = v) (hx : a.eval x = .slice (some ⟨w.heap.size, 0, none⟩) 1 1)
    (h : ∀ g cap w', w'.ownsRow base e size (.slice (some ⟨g, 0, none⟩) (n + 1) cap) (n + 1) (xs ++ news.toList) → w.grownBy w' v.ownBlock → (v.ownBlock = some g ∨ w.heap.size < g) → g < w'.heap.size →
      wpList P ops Q rest (a.put o.dst (.slice (some ⟨g, 0, none⟩) (n + 1) cap)) w') :
    wpList P ops Q (o :: rest) a (w.alloc (.cells news e)) := by
  obtain ⟨i0, hi, hz0, hz1, hz2⟩ := info_parts hinfo
  refine wpList_append_lies _ hgd s x t ho base e i0 z size bytes ht hi hz0 hz1 hz2 hzs hsz v n xs hs (hown.alloc _) ⟨w.heap.size, 0, none⟩ 1 1 news.toList hx (by simp [hl]) ?_ h1 (by omega) hn hby (by simp; omega) _ rfl ?_
  · intro j u hu
    have hb := heap_alloc_new w (.cells news e)
    rw [show (({ block := w.heap.size, off := 0 } : Addr).add j) = ⟨w.heap.size, j, none⟩ from by unfold Addr.add; split <;> simp_all]
    rw [cell_of_row _ _ _ _ _ _ hb]
    simpa using hu
  intro g cap w' h1 h2 h3 h4
  refine h g cap w' h1 ((gr_alloc (World.grownBy.refl w _) _).trans h2) ?_ h4
  rcases h3 with h3 | h3
  · exact .inl h3
  · exact .inr (by simp at h3; omega)
/-- the same at a step of a region that draws -/
theorem app_one_step {ops : Array Oper} {o : Oper} {a : Act} {K : Act → World → Prop} {Q : Exit → Act → World → Prop} {E : Prop} {t e : TypeId} {z : Value} {size bytes : Nat}
    (ht : P.underlying t = some (.slice e)) (hinfo : (P.info? e).map (fun i => (i.zero, i.size, i.bytes)) = some (some z, size, bytes)) (hzs : z.cells.size = size) (hsz : 0 < size)
    (w : World) (base : Nat) (v : Value) (n : Nat) (xs : List Value) (hown : w.ownsRow base e size v n xs) (hn : n + 1 ≤ maxLen) (hby : (n + 1) * bytes ≤ 140737488355328) (hb : base ≤ w.heap.size)
    (news : Array Value) (hl : news.size = size) (h1 : ∀ u ∈ news.toList, u.oneCell' = true)
    (hgd : o.guard = none) (s x : Operand) (ho : o.op = .call { callee := .builtin .append, args := #[s, x], argTypes := #[t, t] })
    (hs : a.eval s = v) (hx : a.eval x = .slice (some ⟨w.heap.size, 0, none⟩) 1 1)
    (h : ∀ g cap w', w'.ownsRow base e size (.slice (some ⟨g, 0, none⟩) (n + 1) cap) (n + 1) (xs ++ news.toList) → w.grownBy w' v.ownBlock → (v.ownBlock = some g ∨ w.heap.size < g) → g < w'.heap.size →
      K (a.put o.dst (.slice (some ⟨g, 0, none⟩) (n + 1) cap)) w') :
    if Region.wanted o (yielded ops a.tmps) = true then Oper.wp P o a (w.alloc (.cells news e)).drew K Q else E := by
  obtain ⟨i0, hi, hz0, hz1, hz2⟩ := info_parts hinfo
  refine step_append_lies _ hgd s x t ho base e i0 z size bytes ht hi hz0 hz1 hz2 hzs hsz v n xs hs (World.ownsRow.alloc (w := w) hown _) ⟨w.heap.size, 0, none⟩ 1 1 news.toList hx (by simp [hl]) ?_ h1 (by omega) hn hby (by simp; omega) _ rfl ?_
  · intro j u hu
    have hb := heap_alloc_new w (.cells news e)
    rw [show (({ block := w.heap.size, off := 0 } : Addr).add j) = ⟨w.heap.size, j, none⟩ from by unfold Addr.add; split <;> simp_all]
    show (w.alloc (.cells news e)).cell? _ = _
    rw [cell_of_row _ _ _ _ _ _ hb]
    simpa using hu
  intro g cap w' h1 h2 h3 h4
  refine h g cap w' h1 ((gr_drew (gr_alloc (World.grownBy.refl w _) _)).trans h2) ?_ h4
  rcases h3 with h3 | h3
  · exact .inl h3
  · exact .inr (by simp at h3; omega)
end app
/-! slices that read as a list of cells -/
/-- the slice of n elements ('size' cells each) that begins at A holds the cells xs, and lies below block B -/
def Rd (w : World) (B size : Nat) (A : Option Addr) (n : Nat) (xs : List Value) : Prop :=
  xs.length = n * size ∧ (0 < n → ∃ b o, A = some ⟨b, o, none⟩ ∧ b < B ∧ ∀ j u, xs[j]? = some u → w.cell? ⟨b, o + j, none⟩ = some u)
theorem add_flat (b o j : Nat) : (⟨b, o, none⟩ : Addr).add j = ⟨b, o + j, none⟩ := by
  unfold Addr.add; split <;> simp_all
section rd
variable {w w' : World} {B B' size n : Nat} {A : Option Addr} {xs : List Value}
theorem Rd.nil_ (w : World) (B size : Nat) (A : Option Addr) : Rd w B size A 0 [] := ⟨by simp, fun h => absurd h (by omega)⟩
theorem Rd.keep (h : Rd w B size A n xs) (hk : ∀ p : Addr, p.block < B → w'.cell? p = w.cell? p) : Rd w' B size A n xs :=
  ⟨h.1, fun hn => by
    obtain ⟨b, o, e, hb, hc⟩ := h.2 hn
    exact ⟨b, o, e, hb, fun j u hu => (hk _ hb).trans (hc j u hu)⟩⟩
theorem Rd.more (h : Rd w B size A n xs) (hB : B ≤ B') : Rd w B' size A n xs :=
  ⟨h.1, fun hn => by
    obtain ⟨b, o, e, hb, hc⟩ := h.2 hn
    exact ⟨b, o, e, by omega, hc⟩⟩
theorem Rd.below (h : Rd w B size A n xs) (hb : Below B w w') : Rd w' B size A n xs := h.keep fun _ hp => hb.cell hp
theorem Rd.drew (h : Rd w B size A n xs) : Rd w.drew B size A n xs := h
theorem Rd.drewN (h : Rd w B size A n xs) (k : Nat) : Rd (w.drewN k) B size A n xs := h
theorem Rd.alloc (h : Rd w B size A n xs) (hB : B ≤ w.heap.size) (o : Obj) : Rd (w.alloc o) B size A n xs := h.keep fun p hp => World.cell?_alloc_lt w o p (by omega)
theorem Rd.set_ (h : Rd w B size A n xs) {p : Addr} (hB : B ≤ p.block) (u : Value) : Rd (w.setCell p u) B size A n xs :=
  h.keep fun q hq => World.cell?_setCell_other w p q u (fun e => by subst e; omega)
theorem Rd.of_own {base : Nat} {e : TypeId} {c : Nat} (h : w.ownsRow base e size (.slice A n c) n xs) : Rd w w.heap.size size A n xs := by
  refine ⟨h.1, fun hn => ?_⟩
  obtain ⟨g, cap, hv, _, hlt⟩ := h.form hn
  have hA : A = some ⟨g, 0, none⟩ := by injection hv
  subst hA
  refine ⟨g, 0, rfl, hlt, fun j u hu => ?_⟩
  have := h.cells (g := g) rfl j u hu
  rwa [add_flat] at this
/-- the k-th element: its cells -/
theorem Rd.at_ {k : Nat} (h : Rd w B size A n xs) (hk : k < n) : ∃ b o, A = some ⟨b, o, none⟩ ∧ b < B ∧ ∀ i, i < size → ∃ u, xs[k * size + i]? = some u ∧ w.cell? ⟨b, o + (k * size + i), none⟩ = some u := by
  obtain ⟨b, o, e, hb, hc⟩ := h.2 (by omega)
  refine ⟨b, o, e, hb, fun i hi => ?_⟩
  have hl : k * size + i < xs.length := by
    rw [h.1]
    calc k * size + i < k * size + size := by omega
      _ = (k + 1) * size := by rw [Nat.add_mul]; simp
      _ ≤ n * size := Nat.mul_le_mul_right _ hk
  exact ⟨xs[k * size + i], List.getElem?_eq_getElem hl, hc _ _ (List.getElem?_eq_getElem hl)⟩
/-- the k-th element, where each is one cell -/
theorem Rd.at1 {k : Nat} (h : Rd w B 1 A n xs) (hk : k < n) : ∃ b o u, A = some ⟨b, o, none⟩ ∧ b < B ∧ xs[k]? = some u ∧ w.cell? ⟨b, o + k, none⟩ = some u := by
  obtain ⟨b, o, e, hb, hc⟩ := h.at_ hk
  obtain ⟨u, h1, h2⟩ := hc 0 (by omega)
  exact ⟨b, o, u, e, hb, by simpa using h1, by simpa using h2⟩
/-- a cut of it -/
theorem Rd.cut {b o k m : Nat} (h : Rd w B size (some ⟨b, o, none⟩) n xs) (hkm : k ≤ m) (hm : m ≤ n) : Rd w B size (some ⟨b, o + k * size, none⟩) (m - k) ((xs.drop (k * size)).take ((m - k) * size)) := by
  refine ⟨?_, fun hn => ?_⟩
  · rw [List.length_take, List.length_drop, h.1, ← Nat.sub_mul]
    exact Nat.min_eq_left (Nat.mul_le_mul_right _ (by omega))
  obtain ⟨b', o', e, hb, hc⟩ := h.2 (by omega)
  injection e with e; injection e with e1 e2
  subst e1; subst e2
  refine ⟨_, _, rfl, hb, fun j u hu => ?_⟩
  rw [Nat.add_assoc]
  refine hc _ u ?_
  rw [List.getElem?_take] at hu
  split at hu
  · rwa [List.getElem?_drop] at hu
  · simp at hu
end rd
/-! bytes as strings -/
/-- blocks below B are as they were: found by itself -/
theorem belowA {B : Nat} {a w : World} (h : Below B a w := by repeat (first | with_reducible exact Below.refl _ _ | with_reducible assumption | (with_reducible refine below_drewN ?_ _) | (with_reducible refine Below.drew ?_) | (with_reducible refine Below.alloc ?_ ?_ _; rotate_left; focus (first | with_reducible assumption | omega | (simp; done) | (simp; omega))) | (with_reducible refine Below.setCell ?_ ?_ _; rotate_left; focus (first | with_reducible assumption | omega | (simp; done) | (simp; omega))))) : Below B a w := h
section
variable {P : Program}
theorem run_append_of_nil (w : World) (base : Nat) (t ty e : TypeId) (i : TypeInfo) (size : Nat) (ht : P.underlying t = some (.slice e)) (hi : P.info? e = some i)
    (v : Value) (n : Nat) (xs : List Value) (hown : w.ownsRow base e size v n xs) (c : Nat) : (Builtin.append_ #[t, t] ty #[v, .slice none 0 c]).run P w = .ok v w := by
  rcases hown.2 with ⟨rfl, rfl⟩ | ⟨g, cap, cur, rfl, _, _, hnc, _⟩
  · simp [Builtin.append_, run_underlying ht, sizeOf, typeInfo, hi, Builtin.lenOf, Builtin.firstCells]
  · simp [Builtin.append_, run_underlying ht, sizeOf, typeInfo, hi, Builtin.lenOf, Builtin.firstCells, hnc, storeCells]
/-- append of a slice that reads as a list onto an owned row -/
theorem app_rd {ops : Array Oper} {rest : List Oper} {o : Oper} {a : Act} {Q : Exit → Act → World → Prop} {t e : TypeId} {z : Value} {size bytes : Nat}
    (ht : P.underlying t = some (.slice e)) (hinfo : (P.info? e).map (fun i => (i.zero, i.size, i.bytes)) = some (some z, size, bytes)) (hzs : z.cells.size = size) (hsz : 0 < size)
    (w : World) (base : Nat) (v : Value) (n : Nat) (xs : List Value) (hown : w.ownsRow base e size v n xs)
    (B : Nat) (A : Option Addr) (m c : Nat) (news : List Value) (hr : Rd w B size A m news) (hA : A = none → m = 0) (h1 : ∀ u ∈ news, u.oneCell' = true)
    (hn : n + m ≤ maxLen) (hby : (n + m) * bytes ≤ 140737488355328) (hb : base ≤ w.heap.size)
    (hgd : o.guard = none) (s x : Operand) (ho : o.op = .call { callee := .builtin .append, args := #[s, x], argTypes := #[t, t] })
    (hs : a.eval s = v) (hx : a.eval x = .slice A m c)
    (h : ∀ v' w', w'.ownsRow base e size v' (n + m) (xs ++ news) → w.grownBy w' v.ownBlock → (v'.ownBlock = v.ownBlock ∨ v'.ownBlock = some w.heap.size) → wpList P ops Q rest (a.put o.dst v') w') :
    wpList P ops Q (o :: rest) a w := by
  obtain ⟨i0, hi, hz0, hz1, hz2⟩ := info_parts hinfo
  rcases A with _ | ad
  · obtain rfl := hA rfl
    have hnews : news = [] := List.eq_nil_of_length_eq_zero (by simpa using hr.1)
    subst hnews
    refine wpList_plain hgd fun K hK => ?_
    unfold Oper.wp execOp
    simp only [ho, resolve, invoke, builtin, Sem.run_bind, Sem.run_pure, Result.andThen_ok, List.map_toArray, List.map_cons, List.map_nil, hs, hx, run_append_of_nil w base t o.type e i0 size ht hi v n xs hown c]
    exact hK _ _ (h v w (by simpa using hown) (World.grownBy.refl w _) (.inl rfl))
  · refine wpList_append_own_at w hgd s x t ho base e i0 z size bytes ht hi hz0 hz1 hz2 hzs hsz v n xs hs hown ad m c news hx hr.1 ?_ h1 hn hby hb ?_
    · intro j u hu
      rcases Nat.eq_zero_or_pos m with h0 | h0
      · subst h0
        have hnews : news = [] := List.eq_nil_of_length_eq_zero (by simpa using hr.1)
        subst hnews
        simp at hu
      · obtain ⟨b, o', e', _, hc⟩ := hr.2 h0
        injection e' with e'
        subst e'
        rw [add_flat]
        exact hc j u hu
    · intro v' w' h2 h3 _ h5
      exact h v' w' h2 h3 h5
end
theorem own_empty (w : World) (base : Nat) (e : TypeId) (size : Nat) (hb : base ≤ w.heap.size) : (w.alloc (.cells #[] e)).ownsRow base e size (.slice (some ⟨w.heap.size, 0, none⟩) 0 0) 0 [] :=
  ⟨by simp, .inr ⟨w.heap.size, 0, #[], rfl, hb, heap_alloc_new w _, by omega, by unfold maxLen; omega, by simp, by simp⟩⟩
/-- what a clone leaves -/
def Cloned (e : TypeId) (size n : Nat) (xs : List Value) (w : World) (en : Ending) (w' : World) : Prop :=
  ∃ v, en = .returned v ∧ w'.ownsRow w.heap.size e size v n xs ∧ Below w.heap.size w w'
theorem cloned_nil (e : TypeId) (size : Nat) (xs : List Value) (w : World) (n : Nat) (hn : n = 0) (h : xs.length = n * size) : Cloned e size n xs w (.returned (.slice none 0 0)) w := by
  subst hn
  have : xs = [] := List.eq_nil_of_length_eq_zero (by simpa using h)
  subst this
  exact ⟨_, rfl, World.ownsRow_nil _ _ _ _, Below.refl _ _⟩
/-- a value that owns a row, as a slice that is read -/
theorem own_form {w : World} {base : Nat} {e : TypeId} {size : Nat} {v : Value} {n : Nat} {xs : List Value} (h : w.ownsRow base e size v n xs) :
    ∃ A c, v = .slice A n c ∧ n ≤ c ∧ c ≤ maxLen ∧ (A = none → n = 0 ∧ c = 0) ∧ Rd w w.heap.size size A n xs := by
  rcases h.2 with ⟨rfl, rfl⟩ | ⟨g, cap, cur, rfl, hb, hh, h1, h2, _⟩
  · have : xs = [] := List.eq_nil_of_length_eq_zero (by simpa using h.1)
    subst this
    exact ⟨none, 0, rfl, by omega, by unfold maxLen; omega, by simp, Rd.nil_ _ _ _ _⟩
  · exact ⟨_, cap, rfl, h1, h2, by simp, Rd.of_own h⟩
theorem own_ge {w : World} {base : Nat} {e : TypeId} {size : Nat} {v : Value} {n : Nat} {xs : List Value} (h : w.ownsRow base e size v n xs) : ∀ k, v.ownBlock = some k → base ≤ k := by
  intro k hk
  rcases h.2 with ⟨rfl, _⟩ | ⟨g, cap, cur, rfl, hb, _⟩
  · simp [Value.ownBlock] at hk
  · simp [Value.ownBlock] at hk; omega
theorem own_below {w w' : World} {base : Nat} {e : TypeId} {size : Nat} {v : Value} {n : Nat} {xs : List Value} (h : w.ownsRow base e size v n xs) (hb : Below w.heap.size w w') : w'.ownsRow base e size v n xs := by
  obtain ⟨h1, h2⟩ := h
  refine ⟨h1, ?_⟩
  rcases h2 with h2 | ⟨g, cap, cur, hv, hg, hh, r⟩
  · exact .inl h2
  · exact .inr ⟨g, cap, cur, hv, hg, (hb.block g (Array.getElem?_eq_some_iff.1 hh).1).trans hh, r⟩
theorem own_base {w : World} {base base' : Nat} {e : TypeId} {size : Nat} {v : Value} {n : Nat} {xs : List Value} (h : w.ownsRow base e size v n xs) (hb : base' ≤ base) : w.ownsRow base' e size v n xs := by
  obtain ⟨h1, h2⟩ := h
  refine ⟨h1, ?_⟩
  rcases h2 with h2 | ⟨g, cap, cur, hv, hg, r⟩
  · exact .inl h2
  · exact .inr ⟨g, cap, cur, hv, Nat.le_trans hb hg, r⟩
/-- an owned row written on from a world in between -/
theorem below_own {a w w1 : World} {v : Value} {base : Nat} {e : TypeId} {size n : Nat} {xs : List Value} {B : Nat} (hb : Below B a w) (hown : w.ownsRow base e size v n xs) (hg : w.grownBy w1 v.ownBlock) (hB : B ≤ w.heap.size) (hbase : B ≤ base) : Below B a w1 :=
  hb.grown hg hB (fun k hk => Nat.le_trans hbase (own_ge hown k hk))
structure Rg where
  at_ : Int
  old : Int
  new : Int
deriving DecidableEq
def Rg.cells (r : Rg) : List Value := [.int .i64 r.at_, .int .i64 r.old, .int .i64 r.new]
def rgs (l : List Rg) : List Value := l.flatMap Rg.cells
theorem rgs_len (l : List Rg) : (rgs l).length = l.length * 3 := by
  induction l with
  | nil => rfl
  | cons r l ih => simp only [rgs, List.flatMap_cons, List.length_append] at *; rw [ih]; simp [Rg.cells]; omega
theorem rgs_get {l : List Rg} {k : Nat} {r : Rg} (h : l[k]? = some r) (i : Nat) (hi : i < 3) : (rgs l)[k * 3 + i]? = r.cells[i]? := by
  induction l generalizing k with
  | nil => simp at h
  | cons x l ih =>
    have e : rgs (x :: l) = x.cells ++ rgs l := rfl
    rw [e]
    cases k with
    | zero =>
      simp at h; subst h
      rw [List.getElem?_append_left (by simp [Rg.cells]; omega)]
      simp
    | succ k =>
      rw [List.getElem?_append_right (by simp [Rg.cells]; omega)]
      have := ih (k := k) (by simpa using h)
      rw [← this]
      congr 1
      simp [Rg.cells]; omega
theorem Rd.rlen {w : World} {B : Nat} {A : Option Addr} {n : Nat} {l : List Rg} (h : Rd w B 3 A n (rgs l)) : l.length = n := by
  have := h.1
  rw [rgs_len] at this
  omega
theorem Rd.rg {w : World} {B b o n : Nat} {l : List Rg} {k : Nat} {r : Rg} (h : Rd w B 3 (some ⟨b, o, none⟩) n (rgs l)) (hk : l[k]? = some r) :
    w.cell? ⟨b, o + k * 3, none⟩ = some (.int .i64 r.at_) ∧ w.cell? ⟨b, o + k * 3 + 1, none⟩ = some (.int .i64 r.old) ∧ w.cell? ⟨b, o + k * 3 + 2, none⟩ = some (.int .i64 r.new) ∧ b < B := by
  have hl := h.rlen
  have hkl := (List.getElem?_eq_some_iff.1 hk).1
  obtain ⟨b', o', e, hb, hc⟩ := h.2 (by omega)
  injection e with e; injection e with e1 e2
  subst e1; subst e2
  have q := fun i hi u hu => hc (k * 3 + i) u ((rgs_get hk i hi).trans hu)
  exact ⟨by have := q 0 (by omega) _ rfl; simpa using this, by have := q 1 (by omega) _ rfl; rw [Nat.add_assoc]; exact this, by have := q 2 (by omega) _ rfl; rw [Nat.add_assoc]; exact this, hb⟩
def inB (n : Int) : Bool := decide (0 ≤ n ∧ n ≤ 1073741824)
set_option maxHeartbeats 400000 in
theorem in_any (n : Int) (w : World) :
    Calls Tryz.prog 136 #[.int .i64 n] w fun e w' => e = .returned (.bool (inB n)) ∧ w = w' := by
  go_enter Tryz.func136, Tryz.ntmps136
  go_wp2
  all_goals go_ret
  all_goals exact ⟨ret_bool (by rw [Bool.eq_iff_iff]; simp [inB]; try omega), rfl⟩
theorem inB_bd {n : Int} (h : inB n = true) : 0 ≤ n ∧ n ≤ 1073741824 := by simpa [inB] using h
def rightFrom (e : Int) : List Rg → Bool
  | [] => true
  | r :: t => inB r.at_ && inB r.old && inB r.new && decide (e < r.at_) && rightFrom (r.at_ + r.old) t
def rightM (l : List Rg) : Bool := decide (l.length ≤ 1000) && rightFrom (-1) l
theorem drop_cons {α : Type} {l : List α} {k : Nat} {x : α} (h : l[k]? = some x) : l.drop k = x :: l.drop (k + 1) := by
  obtain ⟨hlt, rfl⟩ := List.getElem?_eq_some_iff.1 h
  exact List.drop_eq_getElem_cons hlt
set_option maxHeartbeats 1000000 in
theorem right_any (A : Option Addr) (n c : Nat) (l : List Rg) (w : World) (hn : n ≤ maxLen) (h : n ≤ 1000 → Rd w w.heap.size 3 A n (rgs l)) (hl : l.length = n) :
    Calls Tryz.prog 80 #[.slice A n c] w fun e w' => e = .returned (.bool (rightM l)) ∧ Below w.heap.size w w' := by
  unfold maxLen at hn
  by_cases hbig : 1000 < n
  · have hr : rightM l = false := by unfold rightM; rw [decide_eq_false (by omega)]; rfl
    rw [hr]
    clear h
    go_enter Tryz.func80, Tryz.ntmps80
    go_wp2
    go_ret
    exact ⟨rfl, Below.refl _ _⟩
  have hrd := h (by omega)
  have hr : rightM l = rightFrom (-1) l := by unfold rightM; rw [decide_eq_true (by omega)]; rfl
  rw [hr]
  have HL := Lib.hid hl
  clear h hr hl
  go_enter Tryz.func80, Tryz.ntmps80
  go_wp2
  go_loopw [3, 11] (fun v i wr => ∃ (k : Nat) (e : Int), k ≤ n ∧ i = .int .i64 k ∧ v = .int .i64 e ∧ -1 ≤ e ∧ e ≤ 2147483648 ∧ Hid (rightFrom e (l.drop k) = rightFrom (-1) l) ∧ Below w.heap.size w wr) (fun _ i _ => n - (intOf i).toNat)
  case atStart => exact ⟨0, -1, by omega, rfl, rfl, by omega, by omega, rfl, Below.refl _ _⟩
  case round =>
    obtain ⟨k, e, hk, rfl, rfl, he1, he2, hI, hbr⟩ := hrel
    by_cases hkn : k < n
    · obtain ⟨b, o, rfl, _, _⟩ := hrd.2 (by omega)
      obtain ⟨r, hx⟩ : ∃ r, l[k]? = some r := ⟨_, List.getElem?_eq_getElem (by have := HL.out; omega)⟩
      obtain ⟨hc0, hc1, hc2, hb⟩ := (hrd.below hbr).rg hx
      have hstep : rightFrom e (l.drop k) = (inB r.at_ && inB r.old && inB r.new && decide (e < r.at_) && rightFrom (r.at_ + r.old) (l.drop (k + 1))) := by rw [drop_cons hx]; rfl
      have HS := Lib.hid hstep
      clear hx hstep
      by_cases hg : inB r.at_ = true ∧ inB r.old = true ∧ inB r.new = true ∧ e < r.at_
      · obtain ⟨g1, g2, g3, g4⟩ := hg
        have b1 := inB_bd g1
        have b2 := inB_bd g2
        go_wp2_with (go_at_call 136; refine (in_any _ _).mono ?_; rintro e w' ⟨rfl, rfl⟩)
        go_roundw
        case rel => exact ⟨k + 1, r.at_ + r.old, by omega, by go_num, rfl, by omega, by omega, by rw [HS.out, g1, g2, g3, decide_eq_true g4] at hI; exact hI, hbr.alloc hbr.size _⟩
        case measure => simp [intOf]; omega
      · have hbad : rightFrom e (l.drop k) = false := by
          rw [HS.out]
          simp only [Bool.and_eq_false_iff, decide_eq_false_iff_not]
          by_cases g1 : inB r.at_ = true
          · by_cases g2 : inB r.old = true
            · by_cases g3 : inB r.new = true
              · exact .inl (.inr (fun g4 => hg ⟨g1, g2, g3, g4⟩))
              · exact .inl (.inl (.inr (by simpa using g3)))
            · exact .inl (.inl (.inl (.inr (by simpa using g2))))
          · exact .inl (.inl (.inl (.inl (by simpa using g1))))
        have HBAD := Lib.hid hbad
        clear hbad HS
        go_wp2_with (go_at_call 136; refine (in_any _ _).mono ?_; rintro e w' ⟨rfl, rfl⟩)
        all_goals first
          | (go_ret; exact ⟨ret_bool (HBAD.out.symm.trans hI), hbr.alloc hbr.size _⟩)
          | (exfalso; exact hg ⟨by assumption, by assumption, by assumption, by assumption⟩)
    · obtain rfl : n = k := by omega
      go_wp2
      go_ret
      exact ⟨ret_bool (by have := hI.out; rw [List.drop_of_length_le (by rw [HL.out]; omega)] at this; exact this), hbr⟩
set_option maxHeartbeats 1000000 in
theorem rright_any (A : Option Addr) (n c : Nat) (l : List Rg) (w : World) (hn : n ≤ maxLen) (h : n ≤ 1000 → Rd w w.heap.size 3 A n (rgs l)) (hl : l.length = n) :
    Calls Tryz.prog 86 #[.slice A n c] w fun e w' => e = .returned (.bool (rightM l)) ∧ Below w.heap.size w w' := by
  unfold maxLen at hn
  by_cases hbig : 1000 < n
  · have hr : rightM l = false := by unfold rightM; rw [decide_eq_false (by omega)]; rfl
    rw [hr]
    clear h
    go_enter Tryz.func86, Tryz.ntmps86
    go_wp2
    go_ret
    exact ⟨rfl, Below.refl _ _⟩
  have hrd := h (by omega)
  have hr : rightM l = rightFrom (-1) l := by unfold rightM; rw [decide_eq_true (by omega)]; rfl
  rw [hr]
  have HL := Lib.hid hl
  clear h hr hl
  go_enter Tryz.func86, Tryz.ntmps86
  go_wp2
  go_loopw [3] (fun i wr => ∃ (k : Nat) (e : Int), k ≤ n ∧ i = .int .i64 k ∧ -1 ≤ e ∧ e ≤ 2147483648 ∧ Hid (rightFrom e (l.drop k) = rightFrom (-1) l) ∧ (k = 0 → e = -1) ∧ Hid (0 < k → ∃ q, l[k - 1]? = some q ∧ e = q.at_ + q.old ∧ 0 ≤ q.at_ ∧ q.at_ ≤ 1073741824 ∧ 0 ≤ q.old ∧ q.old ≤ 1073741824) ∧ Below w.heap.size w wr) (fun i _ => n - (intOf i).toNat)
  case atStart => exact ⟨0, -1, by omega, rfl, by omega, by omega, rfl, fun _ => rfl, fun h => absurd h (by omega), Below.refl _ _⟩
  case round =>
    obtain ⟨k, e, hk, rfl, he1, he2, hI, hz, hp, hbr⟩ := hrel
    by_cases hkn : k < n
    · obtain ⟨b, o, rfl, _, _⟩ := hrd.2 (by omega)
      obtain ⟨r, hx⟩ : ∃ r, l[k]? = some r := ⟨_, List.getElem?_eq_getElem (by have := HL.out; omega)⟩
      obtain ⟨hc0, hc1, hc2, hb⟩ := (hrd.below hbr).rg hx
      have hstep : rightFrom e (l.drop k) = (inB r.at_ && inB r.old && inB r.new && decide (e < r.at_) && rightFrom (r.at_ + r.old) (l.drop (k + 1))) := by rw [drop_cons hx]; rfl
      have HS := Lib.hid hstep
      have HX := Lib.hid hx
      clear hx hstep
      by_cases hg : inB r.at_ = true ∧ inB r.old = true ∧ inB r.new = true
      · have b1 := inB_bd hg.1
        have b2 := inB_bd hg.2.1
        have b3 := inB_bd hg.2.2
        have hstep : rightFrom e (l.drop k) = (decide (e < r.at_) && rightFrom (r.at_ + r.old) (l.drop (k + 1))) := by rw [HS.out, hg.1, hg.2.1, hg.2.2]; rfl
        have hnext : Hid (0 < k + 1 → ∃ q, l[k + 1 - 1]? = some q ∧ r.at_ + r.old = q.at_ + q.old ∧ 0 ≤ q.at_ ∧ q.at_ ≤ 1073741824 ∧ 0 ≤ q.old ∧ q.old ≤ 1073741824) := fun _ => ⟨r, HX.out, rfl, b1.1, b1.2, b2.1, b2.2⟩
        have HN := Lib.hid hstep
        clear hstep hg HS
        rcases Nat.eq_zero_or_pos k with hk0 | hk0
        · have he := hz hk0
          have t0 : decide (0 < k) = false := by simp; omega
          have hlt : e < r.at_ := by omega
          have hI' := HN.out.symm.trans hI
          rw [decide_eq_true hlt] at hI'
          have HI := Lib.hid hI'
          clear he hz hI hI' HN hk0
          go_wp2
          go_quiet (fail)
          go_wp2
          go_roundw
          case rel => exact ⟨k + 1, r.at_ + r.old, by omega, by go_num, by omega, by omega, HI.out, fun h => absurd h (by omega), hnext, (below_drewN (hbr.alloc hbr.size _) _)⟩
          case measure => simp [intOf]; omega
        · obtain ⟨q, hq, hqe, hq1, hq2, hq3, hq4⟩ := hp.out hk0
          obtain ⟨gc0, gc1, gc2, gb⟩ := (hrd.below hbr).rg hq
          have t0 : decide (0 < k) = true := by simpa using hk0
          have HQ := Lib.hid hqe
          have ek : ((k : Int) - 1).toNat = k - 1 := by omega
          have ek1 : IntKind.i64.wrap ((k : Int) - 1) = (k : Int) - 1 := IntWalk.i64_in _ (by omega)
          have ek2 : 0 ≤ (k : Int) - 1 := by omega
          have ek3 : (k : Int) - 1 < n := by omega
          have ek5 : 1 ≤ (k : Int) := by omega
          have hbw : b < wr.heap.size := Nat.lt_of_lt_of_le hb hbr.size
          have ek4 : IntKind.i64.wrap (q.at_ + q.old) = q.at_ + q.old := IntWalk.i64_in _ (by omega)
          clear hq hqe hz hp
          by_cases hlt : q.at_ + q.old < r.at_
          · have hI' := HN.out.symm.trans hI
            rw [decide_eq_true (by rw [HQ.out]; exact hlt)] at hI'
            have HI := Lib.hid hI'
            clear hI hI' HN
            go_wp2
            go_quiet (fail)
            go_wp2
            go_roundw
            case rel => exact ⟨k + 1, r.at_ + r.old, by omega, by go_num, by omega, by omega, HI.out, fun h => absurd h (by omega), hnext, (below_drewN (hbr.alloc hbr.size _) _)⟩
            case measure => simp [intOf]; omega
          · have hI' := HN.out.symm.trans hI
            rw [decide_eq_false (by rw [HQ.out]; exact hlt)] at hI'
            have HI := Lib.hid hI'
            clear hI hI' HN
            go_wp2
            go_quiet (fail)
            go_wp2
            go_ret
            exact ⟨ret_bool HI.out, below_drewN (hbr.alloc hbr.size _) _⟩
      · have hbad : rightFrom e (l.drop k) = false := by
          rw [HS.out]
          simp only [Bool.and_eq_false_iff]
          by_cases g1 : inB r.at_ = true
          · by_cases g2 : inB r.old = true
            · exact .inl (.inl (.inr (by simpa using fun g3 => hg ⟨g1, g2, g3⟩)))
            · exact .inl (.inl (.inl (.inr (by simpa using g2))))
          · exact .inl (.inl (.inl (.inl (by simpa using g1))))
        have HBAD := Lib.hid (hbad.symm.trans hI)
        have hbd : r.at_ < 0 ∨ (0 ≤ r.at_ ∧ r.old < 0) ∨ (0 ≤ r.at_ ∧ 0 ≤ r.old ∧ r.new < 0) ∨ (0 ≤ r.at_ ∧ 0 ≤ r.old ∧ 0 ≤ r.new ∧ 1073741824 < r.at_) ∨ (0 ≤ r.at_ ∧ 0 ≤ r.old ∧ 0 ≤ r.new ∧ r.at_ ≤ 1073741824 ∧ 1073741824 < r.old) ∨ (0 ≤ r.at_ ∧ 0 ≤ r.old ∧ 0 ≤ r.new ∧ r.at_ ≤ 1073741824 ∧ r.old ≤ 1073741824 ∧ 1073741824 < r.new) := by
          simp only [inB, decide_eq_true_eq] at hg
          omega
        clear hbad HS hg hI hp hz
        rcases hbd with h | ⟨h1, h2⟩ | ⟨h1, h2, h3⟩ | ⟨h1, h2, h3, h4⟩ | ⟨h1, h2, h3, h4, h5⟩ | ⟨h1, h2, h3, h4, h5, h6⟩
        all_goals
          go_wp2
          go_ret
          exact ⟨ret_bool HBAD.out, hbr.alloc hbr.size _⟩
    · obtain rfl : n = k := by omega
      go_wp2
      go_ret
      exact ⟨ret_bool (by have := hI.out; rw [List.drop_of_length_le (by rw [HL.out]; omega)] at this; exact this), hbr⟩
def shiftL : List Rg → Int
  | [] => 0
  | r :: t => (r.new - r.old) + shiftL t
theorem shiftL_append (a b : List Rg) : shiftL (a ++ b) = shiftL a + shiftL b := by
  induction a with
  | nil => simp [shiftL]
  | cons r a ih => simp only [List.cons_append, shiftL, ih]; omega
theorem shiftL_snoc {l : List Rg} {k : Nat} {r : Rg} (h : l[k]? = some r) : shiftL (l.take (k + 1)) = shiftL (l.take k) + (r.new - r.old) := by
  rw [List.take_add_one, h, Option.toList_some, shiftL_append]; simp [shiftL]
structure Rg.Fits (r : Rg) : Prop where
  a0 : 0 ≤ r.at_
  a1 : r.at_ ≤ 1073741824
  o0 : 0 ≤ r.old
  o1 : r.old ≤ 1073741824
  n0 : 0 ≤ r.new
  n1 : r.new ≤ 1073741824
theorem rightFrom_fits : ∀ {l : List Rg} {e : Int}, rightFrom e l = true → ∀ r ∈ l, r.Fits := by
  intro l
  induction l with
  | nil => intro e _ r hr; cases hr
  | cons x l ih =>
    intro e h r hr
    simp only [rightFrom, Bool.and_eq_true] at h
    obtain ⟨⟨⟨⟨h1, h2⟩, h3⟩, h4⟩, h5⟩ := h
    rcases List.mem_cons.1 hr with rfl | hr
    · exact ⟨(inB_bd h1).1, (inB_bd h1).2, (inB_bd h2).1, (inB_bd h2).2, (inB_bd h3).1, (inB_bd h3).2⟩
    · exact ih h5 r hr
theorem right_fits {l : List Rg} (h : rightM l = true) : ∀ r ∈ l, r.Fits := by
  simp only [rightM, Bool.and_eq_true] at h
  exact rightFrom_fits h.2
theorem right_len {l : List Rg} (h : rightM l = true) : l.length ≤ 1000 := by
  simp only [rightM, Bool.and_eq_true, decide_eq_true_eq] at h
  exact h.1
theorem shiftL_bd : ∀ {l : List Rg}, (∀ r ∈ l, r.Fits) → -(1073741824 * l.length) ≤ shiftL l ∧ shiftL l ≤ 1073741824 * l.length := by
  intro l
  induction l with
  | nil => intro _; simp [shiftL]
  | cons r l ih =>
    intro h
    have h1 := h r (by simp)
    have h2 := ih (fun x hx => h x (by simp [hx]))
    have := h1.o0; have := h1.o1; have := h1.n0; have := h1.n1
    simp only [shiftL, List.length_cons]
    omega
theorem shift_take_bd {l : List Rg} (h : rightM l = true) (k : Nat) : -1073741824000 ≤ shiftL (l.take k) ∧ shiftL (l.take k) ≤ 1073741824000 := by
  have h1 := shiftL_bd (l := l.take k) (fun r hr => right_fits h r (List.mem_of_mem_take hr))
  have h2 := right_len h
  have h3 : (l.take k).length ≤ l.length := by rw [List.length_take]; omega
  omega
def shiftM (l : List Rg) : Int := if rightM l then shiftL l else 0
set_option maxHeartbeats 1000000 in
theorem shift_any (A : Option Addr) (n c : Nat) (l : List Rg) (w : World) (hn : n ≤ maxLen) (h : n ≤ 1000 → Rd w w.heap.size 3 A n (rgs l)) (hl : l.length = n) :
    Calls Tryz.prog 59 #[.slice A n c] w fun e w' => e = .returned (.int .i64 (shiftM l)) ∧ Below w.heap.size w w' := by
  have hri := right_any A n c l w hn h hl
  unfold maxLen at hn
  by_cases hr : rightM l = true
  · have hrd := h (by have := right_len hr; omega)
    have hs : shiftM l = shiftL l := by unfold shiftM; rw [if_pos hr]
    rw [hs]
    rw [hr] at hri
    have HRI := Lib.hid hri
    have HR := Lib.hid hr
    have HL := Lib.hid hl
    have hn2 : n ≤ 1000 := by have := right_len hr; omega
    clear hri hr hs hl h
    go_enter Tryz.func59, Tryz.ntmps59
    go_wp2_with (go_at_call 80; refine HRI.out.mono ?_; rintro e w1 ⟨rfl, hb1⟩)
    go_loopw [3, 11] (fun v i wr => ∃ k : Nat, k ≤ n ∧ i = .int .i64 k ∧ v = .int .i64 (shiftL (l.take k)) ∧ Below w.heap.size w wr) (fun _ i _ => n - (intOf i).toNat)
    case atStart => exact ⟨0, by omega, rfl, rfl, hb1⟩
    case round =>
      obtain ⟨k, hk, rfl, rfl, hbr⟩ := hrel
      by_cases hkn : k < n
      · obtain ⟨b, o, rfl, _, _⟩ := hrd.2 (by omega)
        obtain ⟨r, hx⟩ : ∃ r, l[k]? = some r := ⟨_, List.getElem?_eq_getElem (by have := HL.out; omega)⟩
        obtain ⟨hc0, hc1, hc2, hb⟩ := (hrd.below hbr).rg hx
        have hf := right_fits HR.out r (List.mem_of_getElem? hx)
        obtain ⟨f1, f2, f3, f4, f5, f6⟩ := hf
        have hsb := shift_take_bd HR.out k
        have hsn := shiftL_snoc hx
        have HS := Lib.hid hsn
        clear hx hsn
        go_wp2
        go_roundw
        case rel => exact ⟨k + 1, by omega, by go_num, by rw [HS.out], hbr.alloc hbr.size _⟩
        case measure => simp [intOf]; omega
      · obtain rfl : n = k := by omega
        go_wp2
        go_ret
        exact ⟨ret_int (by rw [List.take_of_length_le (by rw [HL.out]; omega)]), hbr⟩
  · have hr : rightM l = false := by simpa using hr
    have hs : shiftM l = 0 := by unfold shiftM; rw [hr]; rfl
    rw [hs]
    rw [hr] at hri
    have HRI := Lib.hid hri
    clear hri hr hs hl h
    go_enter Tryz.func59, Tryz.ntmps59
    go_wp2_with (go_at_call 80; refine HRI.out.mono ?_; rintro e w1 ⟨rfl, hb1⟩)
    go_ret
    exact ⟨rfl, hb1⟩
theorem rgs_one : ∀ (l : List Rg), ∀ u ∈ rgs l, u.oneCell' = true := by
  intro l u hu
  obtain ⟨r, _, hr⟩ := List.mem_flatMap.1 hu
  simp only [Rg.cells, List.mem_cons, List.not_mem_nil, or_false] at hr
  rcases hr with rfl | rfl | rfl <;> rfl
theorem info_rgs : (Tryz.prog.info? 94).map (fun i => (i.zero, i.size, i.bytes)) = some (some (.slice none 0 0), 1, 24) := by kernel_rfl
/-- a set of marks -/
structure Mk where
  (m0 m1 m2 m3 m4 m5 m6 m7 : Int)
deriving Inhabited, DecidableEq
def Mk.cells (x : Mk) : List Value := [.int .u16 x.m0, .int .u16 x.m1, .int .u16 x.m2, .int .u16 x.m3, .int .u16 x.m4, .int .u16 x.m5, .int .u16 x.m6, .int .u16 x.m7]
/-- a token -/
structure Tok where
  (k t a r : Int)
  m : Mk
deriving Inhabited, DecidableEq
def Tok.cells (x : Tok) : List Value := .int .i64 x.k :: .int .i64 x.t :: .int .i64 x.a :: .int .i32 x.r :: x.m.cells
def mks (l : List Mk) : List Value := l.flatMap Mk.cells
def toks (l : List Tok) : List Value := l.flatMap Tok.cells
def mkB (a b : Mk) : Bool := decide (a = b)
def tokB (a b : Tok) : Bool := decide (a = b)
theorem info_u16 : (Tryz.prog.info? 122).map (fun i => (i.zero, i.size, i.bytes)) = some (some (.int .u16 0), 1, 2) := by kernel_rfl
theorem eq_mk (d : Nat) (a b : Mk) (w : World) : (Op.equalIn (d + 2) 124 (.agg a.cells.toArray) (.agg b.cells.toArray)).run Tryz.prog w = .ok (decide (a = b)) w := by
  have u3 := Tryz.underlying122
  have z3 := Tryz.sizeOf122
  obtain ⟨i0, hi, _, _, _⟩ := info_parts info_u16
  rw [run_equalIn_array w (d + 1) _ _ (show Tryz.prog.underlying 124 = some (.array 8 122) by kernel_rfl) hi]
  have hc : Tryz.prog.cellsOf 122 = 1 := by kernel_rfl
  rw [hc]
  rw [show List.range 8 = [0, 1, 2, 3, 4, 5, 6, 7] from rfl]
  have a3 := Tryz.isAgg122
  simp only [Mk.cells, Op.eqItems]
  go_simp
  obtain ⟨a0, a1, a2, a3, a4, a5, a6, a7⟩ := a
  obtain ⟨b0, b1, b2, b3, b4, b5, b6, b7⟩ := b
  simp only [Mk.mk.injEq]
  repeat' split
  all_goals simp_all
@[go_sem] theorem eq_mk_at (a0 a1 a2 a3 a4 a5 a6 a7 b0 b1 b2 b3 b4 b5 b6 b7 : Int) (w : World) : (Op.equalIn 10000 124 (.agg #[.int .u16 a0, .int .u16 a1, .int .u16 a2, .int .u16 a3, .int .u16 a4, .int .u16 a5, .int .u16 a6, .int .u16 a7]) (.agg #[.int .u16 b0, .int .u16 b1, .int .u16 b2, .int .u16 b3, .int .u16 b4, .int .u16 b5, .int .u16 b6, .int .u16 b7])).run Tryz.prog w = .ok (mkB (Mk.mk a0 a1 a2 a3 a4 a5 a6 a7) (Mk.mk b0 b1 b2 b3 b4 b5 b6 b7)) w := eq_mk 9998 ⟨a0, a1, a2, a3, a4, a5, a6, a7⟩ ⟨b0, b1, b2, b3, b4, b5, b6, b7⟩ w
@[go_sem] theorem eq_mk_in (a0 a1 a2 a3 a4 a5 a6 a7 b0 b1 b2 b3 b4 b5 b6 b7 : Int) (w : World) : (Op.equalIn 9999 124 (.agg #[.int .u16 a0, .int .u16 a1, .int .u16 a2, .int .u16 a3, .int .u16 a4, .int .u16 a5, .int .u16 a6, .int .u16 a7]) (.agg #[.int .u16 b0, .int .u16 b1, .int .u16 b2, .int .u16 b3, .int .u16 b4, .int .u16 b5, .int .u16 b6, .int .u16 b7])).run Tryz.prog w = .ok (decide (Mk.mk a0 a1 a2 a3 a4 a5 a6 a7 = Mk.mk b0 b1 b2 b3 b4 b5 b6 b7)) w := eq_mk 9997 ⟨a0, a1, a2, a3, a4, a5, a6, a7⟩ ⟨b0, b1, b2, b3, b4, b5, b6, b7⟩ w
theorem eq_tok (a b : Tok) (w : World) : (Op.equalIn 10000 126 (.agg a.cells.toArray) (.agg b.cells.toArray)).run Tryz.prog w = .ok (decide (a = b)) w := by
  have u1 := Tryz.underlying3
  have a1 := Tryz.isAgg3
  have z1 := Tryz.sizeOf3
  have u2 := Tryz.underlying21
  have a2 := Tryz.isAgg21
  have z2 := Tryz.sizeOf21
  have u4 := Tryz.underlying124
  have a4 := Tryz.isAgg124
  have z4 := Tryz.sizeOf124
  have hS : Tryz.prog.underlying 126 = some (.struct (Tryz.prog.fieldsOf 126)) := by kernel_rfl
  have hp : Tryz.prog.stoodInHeld 126 = false := by kernel_rfl
  rw [show (10000 : Nat) = 9999 + 1 from rfl, run_equalIn_agg w 9999 126 _ _ hS hp]
  simp only [Program.fieldsOf, Tryz.underlying126, Tok.cells, Mk.cells]
  go_simp
  obtain ⟨a0, a1, a2, a3, x0, x1, x2, x3, x4, x5, x6, x7⟩ := a
  obtain ⟨b0, b1, b2, b3, y0, y1, y2, y3, y4, y5, y6, y7⟩ := b
  simp only [Tok.mk.injEq, Mk.mk.injEq]
  clear u1 z1 u2 z2 u4 a4 z4 hS hp
  repeat' split
  all_goals simp_all
@[go_sem] theorem eq_tok_at (x0 x1 x2 x3 x4 x5 x6 x7 x8 x9 x10 x11 y0 y1 y2 y3 y4 y5 y6 y7 y8 y9 y10 y11 : Int) (w : World) : (Op.equalIn 10000 126 (.agg #[.int .i64 x0, .int .i64 x1, .int .i64 x2, .int .i32 x3, .int .u16 x4, .int .u16 x5, .int .u16 x6, .int .u16 x7, .int .u16 x8, .int .u16 x9, .int .u16 x10, .int .u16 x11]) (.agg #[.int .i64 y0, .int .i64 y1, .int .i64 y2, .int .i32 y3, .int .u16 y4, .int .u16 y5, .int .u16 y6, .int .u16 y7, .int .u16 y8, .int .u16 y9, .int .u16 y10, .int .u16 y11])).run Tryz.prog w = .ok (tokB (Tok.mk x0 x1 x2 x3 ⟨x4, x5, x6, x7, x8, x9, x10, x11⟩) (Tok.mk y0 y1 y2 y3 ⟨y4, y5, y6, y7, y8, y9, y10, y11⟩)) w := eq_tok (Tok.mk x0 x1 x2 x3 ⟨x4, x5, x6, x7, x8, x9, x10, x11⟩) (Tok.mk y0 y1 y2 y3 ⟨y4, y5, y6, y7, y8, y9, y10, y11⟩) w
@[go_sem] theorem guard_tok : Tryz.prog.eqGuardType Tryz.prog.depth 126 = false := by kernel_rfl
@[go_sem] theorem guard_mk : Tryz.prog.eqGuardType Tryz.prog.depth 124 = false := by kernel_rfl
theorem mks_len (l : List Mk) : (mks l).length = l.length * 8 := by
  induction l with
  | nil => rfl
  | cons r l ih => simp only [mks, List.flatMap_cons, List.length_append] at *; rw [ih]; simp [Mk.cells]; omega
theorem toks_len (l : List Tok) : (toks l).length = l.length * 12 := by
  induction l with
  | nil => rfl
  | cons r l ih => simp only [toks, List.flatMap_cons, List.length_append] at *; rw [ih]; simp [Tok.cells, Mk.cells]; omega
theorem flat_at {α : Type} {s : Nat} (f : α → List Value) (hf : ∀ x, (f x).length = s) {l : List α} {k : Nat} {x : α} (h : l[k]? = some x) (i : Nat) (hi : i < s) : (l.flatMap f)[k * s + i]? = (f x)[i]? := by
  induction l generalizing k with
  | nil => simp at h
  | cons y l ih =>
    rw [List.flatMap_cons]
    cases k with
    | zero =>
      simp at h; subst h
      rw [List.getElem?_append_left (by rw [hf]; omega)]
      simp
    | succ k =>
      rw [List.getElem?_append_right (by rw [hf, Nat.add_mul]; omega), hf]
      rw [← ih (k := k) (by simpa using h)]
      congr 1
      rw [Nat.add_mul]; omega
theorem Rd.mlen {w : World} {B : Nat} {A : Option Addr} {n : Nat} {l : List Mk} (h : Rd w B 8 A n (mks l)) : l.length = n := by
  have := h.1
  rw [mks_len] at this
  omega
theorem Rd.tlen {w : World} {B : Nat} {A : Option Addr} {n : Nat} {l : List Tok} (h : Rd w B 12 A n (toks l)) : l.length = n := by
  have := h.1
  rw [toks_len] at this
  omega
/-- the cells of one element -/
theorem Rd.el {α : Type} {s : Nat} (f : α → List Value) (hf : ∀ x, (f x).length = s) {w : World} {B n : Nat} {A : Option Addr} {l : List α} {k : Nat} {x : α} (h : Rd w B s A n (l.flatMap f)) (hl : l.length = n) (hk : l[k]? = some x) :
    ∃ b o, A = some ⟨b, o, none⟩ ∧ b < B ∧ ∀ i, i < s → w.cell? ⟨b, o + k * s + i, none⟩ = (f x)[i]? := by
  have hkl := (List.getElem?_eq_some_iff.1 hk).1
  obtain ⟨b, o, e, hb, hc⟩ := h.2 (by omega)
  refine ⟨b, o, e, hb, fun i hi => ?_⟩
  have hg := flat_at f hf hk i hi
  obtain ⟨u, hu⟩ : ∃ u, (f x)[i]? = some u := ⟨_, List.getElem?_eq_getElem (by rw [hf]; exact hi)⟩
  rw [hu] at hg ⊢
  rw [Nat.add_assoc]
  exact hc _ _ hg
set_option maxRecDepth 100000 in
set_option maxHeartbeats 2000000 in
theorem eqtok_any (A A' : Option Addr) (n n' c c' : Nat) (l l' : List Tok) (w : World) (hn : n ≤ maxLen) (hrd : n = n' → Rd w w.heap.size 12 A n (toks l)) (hrd' : n = n' → Rd w w.heap.size 12 A' n' (toks l')) (hl : l.length = n) (hl' : l'.length = n') :
    Calls Tryz.prog 107 #[.slice A n c, .slice A' n' c'] w fun e w' => e = .returned (.bool (decide (l = l'))) ∧ Below w.heap.size w w' := by
  unfold maxLen at hn
  by_cases hne : n = n'
  · subst hne
    have h1 := hrd rfl
    have h2 := hrd' rfl
    have HL := Lib.hid hl
    have HL' := Lib.hid hl'
    clear hrd hrd' hl hl'
    go_enter Tryz.func107, Tryz.ntmps107
    go_wp2
    go_loopw [13] (fun i wr => ∃ k : Nat, k ≤ n ∧ i = .int .i64 k ∧ Hid (l.take k = l'.take k) ∧ Below w.heap.size w wr) (fun i _ => n - (intOf i).toNat)
    case atStart => exact ⟨0, by omega, rfl, rfl, Below.refl _ _⟩
    case round =>
      obtain ⟨k, hk, rfl, hI, hbr⟩ := hrel
      by_cases hkn : k < n
      · obtain ⟨r, hx⟩ : ∃ r, l[k]? = some r := ⟨_, List.getElem?_eq_getElem (by have := HL.out; omega)⟩
        obtain ⟨r', hx'⟩ : ∃ r, l'[k]? = some r := ⟨_, List.getElem?_eq_getElem (by have := HL'.out; omega)⟩
        obtain ⟨b, o, rfl, hb, hcc⟩ := (h1.below hbr).el Tok.cells (fun _ => rfl) HL.out hx
        obtain ⟨b', o', rfl, hb', hdd⟩ := (h2.below hbr).el Tok.cells (fun _ => rfl) HL'.out hx'
        have e3 : (k : Int) < n := by omega
        have hst : l.take (k + 1) = l.take k ++ [r] := by rw [List.take_add_one, hx]; rfl
        have hst' : l'.take (k + 1) = l'.take k ++ [r'] := by rw [List.take_add_one, hx']; rfl
        have hc0 := hcc 0 (by omega); have hd0 := hdd 0 (by omega)
        have hc1 := hcc 1 (by omega); have hd1 := hdd 1 (by omega)
        have hc2 := hcc 2 (by omega); have hd2 := hdd 2 (by omega)
        have hc3 := hcc 3 (by omega); have hd3 := hdd 3 (by omega)
        have hc4 := hcc 4 (by omega); have hd4 := hdd 4 (by omega)
        have hc5 := hcc 5 (by omega); have hd5 := hdd 5 (by omega)
        have hc6 := hcc 6 (by omega); have hd6 := hdd 6 (by omega)
        have hc7 := hcc 7 (by omega); have hd7 := hdd 7 (by omega)
        have hc8 := hcc 8 (by omega); have hd8 := hdd 8 (by omega)
        have hc9 := hcc 9 (by omega); have hd9 := hdd 9 (by omega)
        have hc10 := hcc 10 (by omega); have hd10 := hdd 10 (by omega)
        have hc11 := hcc 11 (by omega); have hd11 := hdd 11 (by omega)
        have HS := Lib.hid hst
        have HS' := Lib.hid hst'
        have HX := Lib.hid hx
        have HX' := Lib.hid hx'
        have hbb : tokB r r' = decide (r = r') := rfl
        have HD : Hid (r = r' ∨ ¬ r = r') := Lib.hid (Decidable.em _)
        clear hst hst' hx hx' hcc hdd
        rcases HD.out with heq | heq
        · rw [decide_eq_true heq] at hbb
          have HN : Hid (l.take (k + 1) = l'.take (k + 1)) := Lib.hid (by rw [HS.out, HS'.out, hI.out, heq])
          clear HS HS' hI HX HX' HD heq
          obtain ⟨a0, a1, a2, a3, ⟨a4, a5, a6, a7, a8, a9, a10, a11⟩⟩ := r
          obtain ⟨b0, b1, b2, b3, ⟨b4, b5, b6, b7, b8, b9, b10, b11⟩⟩ := r'
          dsimp [Tok.cells, Mk.cells] at hc0 hd0 hc1 hd1 hc2 hd2 hc3 hd3 hc4 hd4 hc5 hd5 hc6 hd6 hc7 hd7 hc8 hd8 hc9 hd9 hc10 hd10 hc11 hd11
          have hq : ∀ w, (Op.equalIn 10000 126 (.agg #[.int .i64 a0, .int .i64 a1, .int .i64 a2, .int .i32 a3, .int .u16 a4, .int .u16 a5, .int .u16 a6, .int .u16 a7, .int .u16 a8, .int .u16 a9, .int .u16 a10, .int .u16 a11]) (.agg #[.int .i64 b0, .int .i64 b1, .int .i64 b2, .int .i32 b3, .int .u16 b4, .int .u16 b5, .int .u16 b6, .int .u16 b7, .int .u16 b8, .int .u16 b9, .int .u16 b10, .int .u16 b11])).run Tryz.prog w = .ok true w := fun w => by rw [eq_tok_at, hbb]
          clear hbb
          go_wp2
          go_quiet (fail)
          go_wp2
          go_roundw
          case rel => exact ⟨k + 1, by omega, by go_num, HN, below_drewN hbr _⟩
          case measure => simp [intOf]; omega
        · rw [decide_eq_false heq] at hbb
          have hbad : decide (l = l') = false := by
            refine decide_eq_false fun e => heq ?_
            have h1 := HX.out; have h2 := HX'.out
            rw [e, h2] at h1
            injection h1 with h1
            exact h1.symm
          have HB := Lib.hid hbad
          clear hbad HS HS' HX HX' hI heq HD
          obtain ⟨a0, a1, a2, a3, ⟨a4, a5, a6, a7, a8, a9, a10, a11⟩⟩ := r
          obtain ⟨b0, b1, b2, b3, ⟨b4, b5, b6, b7, b8, b9, b10, b11⟩⟩ := r'
          dsimp [Tok.cells, Mk.cells] at hc0 hd0 hc1 hd1 hc2 hd2 hc3 hd3 hc4 hd4 hc5 hd5 hc6 hd6 hc7 hd7 hc8 hd8 hc9 hd9 hc10 hd10 hc11 hd11
          have hq : ∀ w, (Op.equalIn 10000 126 (.agg #[.int .i64 a0, .int .i64 a1, .int .i64 a2, .int .i32 a3, .int .u16 a4, .int .u16 a5, .int .u16 a6, .int .u16 a7, .int .u16 a8, .int .u16 a9, .int .u16 a10, .int .u16 a11]) (.agg #[.int .i64 b0, .int .i64 b1, .int .i64 b2, .int .i32 b3, .int .u16 b4, .int .u16 b5, .int .u16 b6, .int .u16 b7, .int .u16 b8, .int .u16 b9, .int .u16 b10, .int .u16 b11])).run Tryz.prog w = .ok false w := fun w => by rw [eq_tok_at, hbb]
          clear hbb
          go_wp2
          go_quiet (fail)
          go_wp2
          go_ret
          exact ⟨ret_bool HB.out.symm, below_drewN hbr _⟩
      · obtain rfl : n = k := by omega
        have hall : decide (l = l') = true := by
          have := hI.out
          rw [List.take_of_length_le (by rw [HL.out]; omega), List.take_of_length_le (by rw [HL'.out]; omega)] at this
          exact decide_eq_true this
        have HB := Lib.hid hall
        clear hall hI
        go_wp2
        go_ret
        exact ⟨ret_bool HB.out.symm, hbr⟩
  · have hbad : decide (l = l') = false := decide_eq_false fun e => hne (by rw [← hl, ← hl', e])
    have HB := Lib.hid hbad
    have e1 : ((n : Int) == (n' : Int)) = false := by simp; omega
    clear hrd hrd' hl hl' hbad
    go_enter Tryz.func107, Tryz.ntmps107
    go_wp2
    go_ret
    exact ⟨ret_bool HB.out.symm, Below.refl _ _⟩
set_option maxRecDepth 100000 in
set_option maxHeartbeats 2000000 in
theorem eqmk_any (A A' : Option Addr) (n n' c c' : Nat) (l l' : List Mk) (w : World) (hn : n ≤ maxLen) (hrd : n = n' → Rd w w.heap.size 8 A n (mks l)) (hrd' : n = n' → Rd w w.heap.size 8 A' n' (mks l')) (hl : l.length = n) (hl' : l'.length = n') :
    Calls Tryz.prog 143 #[.slice A n c, .slice A' n' c'] w fun e w' => e = .returned (.bool (decide (l = l'))) ∧ Below w.heap.size w w' := by
  unfold maxLen at hn
  by_cases hne : n = n'
  · subst hne
    have h1 := hrd rfl
    have h2 := hrd' rfl
    have HL := Lib.hid hl
    have HL' := Lib.hid hl'
    clear hrd hrd' hl hl'
    go_enter Tryz.func143, Tryz.ntmps143
    go_wp2
    go_loopw [13] (fun i wr => ∃ k : Nat, k ≤ n ∧ i = .int .i64 k ∧ Hid (l.take k = l'.take k) ∧ Below w.heap.size w wr) (fun i _ => n - (intOf i).toNat)
    case atStart => exact ⟨0, by omega, rfl, rfl, Below.refl _ _⟩
    case round =>
      obtain ⟨k, hk, rfl, hI, hbr⟩ := hrel
      by_cases hkn : k < n
      · obtain ⟨r, hx⟩ : ∃ r, l[k]? = some r := ⟨_, List.getElem?_eq_getElem (by have := HL.out; omega)⟩
        obtain ⟨r', hx'⟩ : ∃ r, l'[k]? = some r := ⟨_, List.getElem?_eq_getElem (by have := HL'.out; omega)⟩
        obtain ⟨b, o, rfl, hb, hcc⟩ := (h1.below hbr).el Mk.cells (fun _ => rfl) HL.out hx
        obtain ⟨b', o', rfl, hb', hdd⟩ := (h2.below hbr).el Mk.cells (fun _ => rfl) HL'.out hx'
        have e3 : (k : Int) < n := by omega
        have hst : l.take (k + 1) = l.take k ++ [r] := by rw [List.take_add_one, hx]; rfl
        have hst' : l'.take (k + 1) = l'.take k ++ [r'] := by rw [List.take_add_one, hx']; rfl
        have hc0 := hcc 0 (by omega); have hd0 := hdd 0 (by omega)
        have hc1 := hcc 1 (by omega); have hd1 := hdd 1 (by omega)
        have hc2 := hcc 2 (by omega); have hd2 := hdd 2 (by omega)
        have hc3 := hcc 3 (by omega); have hd3 := hdd 3 (by omega)
        have hc4 := hcc 4 (by omega); have hd4 := hdd 4 (by omega)
        have hc5 := hcc 5 (by omega); have hd5 := hdd 5 (by omega)
        have hc6 := hcc 6 (by omega); have hd6 := hdd 6 (by omega)
        have hc7 := hcc 7 (by omega); have hd7 := hdd 7 (by omega)
        have HS := Lib.hid hst
        have HS' := Lib.hid hst'
        have HX := Lib.hid hx
        have HX' := Lib.hid hx'
        have hbb : mkB r r' = decide (r = r') := rfl
        have HD : Hid (r = r' ∨ ¬ r = r') := Lib.hid (Decidable.em _)
        clear hst hst' hx hx' hcc hdd
        rcases HD.out with heq | heq
        · rw [decide_eq_true heq] at hbb
          have HN : Hid (l.take (k + 1) = l'.take (k + 1)) := Lib.hid (by rw [HS.out, HS'.out, hI.out, heq])
          clear HS HS' hI HX HX' HD heq
          obtain ⟨a0, a1, a2, a3, a4, a5, a6, a7⟩ := r
          obtain ⟨b0, b1, b2, b3, b4, b5, b6, b7⟩ := r'
          dsimp [Mk.cells] at hc0 hd0 hc1 hd1 hc2 hd2 hc3 hd3 hc4 hd4 hc5 hd5 hc6 hd6 hc7 hd7
          have hq : ∀ w, (Op.equalIn 10000 124 (.agg #[.int .u16 a0, .int .u16 a1, .int .u16 a2, .int .u16 a3, .int .u16 a4, .int .u16 a5, .int .u16 a6, .int .u16 a7]) (.agg #[.int .u16 b0, .int .u16 b1, .int .u16 b2, .int .u16 b3, .int .u16 b4, .int .u16 b5, .int .u16 b6, .int .u16 b7])).run Tryz.prog w = .ok true w := fun w => by rw [eq_mk_at, hbb]
          clear hbb
          go_wp2
          go_quiet (fail)
          go_wp2
          go_roundw
          case rel => exact ⟨k + 1, by omega, by go_num, HN, below_drewN hbr _⟩
          case measure => simp [intOf]; omega
        · rw [decide_eq_false heq] at hbb
          have hbad : decide (l = l') = false := by
            refine decide_eq_false fun e => heq ?_
            have h1 := HX.out; have h2 := HX'.out
            rw [e, h2] at h1
            injection h1 with h1
            exact h1.symm
          have HB := Lib.hid hbad
          clear hbad HS HS' HX HX' hI heq HD
          obtain ⟨a0, a1, a2, a3, a4, a5, a6, a7⟩ := r
          obtain ⟨b0, b1, b2, b3, b4, b5, b6, b7⟩ := r'
          dsimp [Mk.cells] at hc0 hd0 hc1 hd1 hc2 hd2 hc3 hd3 hc4 hd4 hc5 hd5 hc6 hd6 hc7 hd7
          have hq : ∀ w, (Op.equalIn 10000 124 (.agg #[.int .u16 a0, .int .u16 a1, .int .u16 a2, .int .u16 a3, .int .u16 a4, .int .u16 a5, .int .u16 a6, .int .u16 a7]) (.agg #[.int .u16 b0, .int .u16 b1, .int .u16 b2, .int .u16 b3, .int .u16 b4, .int .u16 b5, .int .u16 b6, .int .u16 b7])).run Tryz.prog w = .ok false w := fun w => by rw [eq_mk_at, hbb]
          clear hbb
          go_wp2
          go_quiet (fail)
          go_wp2
          go_ret
          exact ⟨ret_bool HB.out.symm, below_drewN hbr _⟩
      · obtain rfl : n = k := by omega
        have hall : decide (l = l') = true := by
          have := hI.out
          rw [List.take_of_length_le (by rw [HL.out]; omega), List.take_of_length_le (by rw [HL'.out]; omega)] at this
          exact decide_eq_true this
        have HB := Lib.hid hall
        clear hall hI
        go_wp2
        go_ret
        exact ⟨ret_bool HB.out.symm, hbr⟩
  · have hbad : decide (l = l') = false := decide_eq_false fun e => hne (by rw [← hl, ← hl', e])
    have HB := Lib.hid hbad
    have e1 : ((n : Int) == (n' : Int)) = false := by simp; omega
    clear hrd hrd' hl hl' hbad
    go_enter Tryz.func143, Tryz.ntmps143
    go_wp2
    go_ret
    exact ⟨ret_bool HB.out.symm, Below.refl _ _⟩
set_option maxHeartbeats 400000 in
theorem tsame_any (A A' : Option Addr) (n n' c c' : Nat) (l l' : List Tok) (w : World) (hn : n ≤ maxLen) (hrd : n = n' → Rd w w.heap.size 12 A n (toks l)) (hrd' : n = n' → Rd w w.heap.size 12 A' n' (toks l')) (hl : l.length = n) (hl' : l'.length = n') :
    Calls Tryz.prog 53 #[.slice A n c, .slice A' n' c'] w fun e w' => e = .returned (.bool (decide (l = l'))) ∧ Below w.heap.size w w' := by
  have h := eqtok_any A A' n n' c c' l l' w hn hrd hrd' hl hl'
  have H := Lib.hid h
  clear h hrd hrd' hl hl'
  go_enter Tryz.func53, Tryz.ntmps53
  go_wp2_with (go_at_call 107; refine H.out.mono ?_; rintro e w1 ⟨rfl, hb1⟩)
  go_ret
  exact ⟨rfl, hb1⟩
theorem def_lt' {W : World} {D : Nat} {o : Obj} (h : W.heap[D]? = some o) : D < W.heap.size := (Array.getElem?_eq_some_iff.1 h).1
/-- the blocks from a to b read alike -/
def Mid (a b : Nat) (W W' : World) : Prop := ∀ k, a ≤ k → k < b → W'.heap[k]? = W.heap[k]?
theorem Mid.refl (a b : Nat) (W : World) : Mid a b W W := fun _ _ _ => rfl
theorem Mid.of_below {a b : Nat} {W W' : World} (h : Below b W W') : Mid a b W W' := fun k _ hk => h.block k hk
theorem Mid.trans {a b : Nat} {W1 W2 W3 : World} (h : Mid a b W1 W2) (k : Mid a b W2 W3) : Mid a b W1 W3 := fun i h1 h2 => (k i h1 h2).trans (h i h1 h2)
/-- a round of loop l, called at 'args' in W -/
abbrev RoundAt (P : Program) (l : Nat) (args : Array Value) (W : World) (R : Ending → World → Prop) : Prop := YieldAt Fence.wide 8 P l args W R
/-- AN ITERATOR's CONTRACT: function gf at what it has captured, lb, gives xs in order, or a beginning of it. Between two rounds it may make blocks of its own (W1 over W); the round keeps these and what lies below n₀. -/
def Gives {α : Type} (P : Program) (gf : Nat) (lb : Array Value) (encs : α → Array Value) (n₀ : Nat) (xs : List α) (w0 : World) : Prop :=
  ∀ (l : Nat) (J Jx : List α → World → Prop) (W : World), Below w0.heap.size w0 W → (∀ s A B, J s A → Below A.heap.size A B → J s B) → (∀ s A B, Jx s A → Below A.heap.size A B → Jx s B) →
    (∀ pre x A W1, J pre A → pre ++ [x] <+: xs → Below A.heap.size A W1 → RoundAt P l (encs x) W1 fun e W' =>
      (e = .returned (.bool true) ∧ J (pre ++ [x]) W' ∧ Below n₀ W1 W' ∧ Mid A.heap.size W1.heap.size W1 W') ∨ (e = .returned (.bool false) ∧ Jx (pre ++ [x]) W')) →
    J [] W →
    CallsIn Fence.wide 9 P gf (#[.func (.yield l) #[] #[]] ++ lb) W fun e W' => (∃ v, e = .returned v) ∧ (J xs W' ∨ ∃ pre, pre <+: xs ∧ Jx pre W')
/-- HOW THE BODY OF A ROUND MAY BE LEFT -/
def postR {α : Type} (M n₀ : Nat) (I : List α → World → Prop) (Ix : Code → List α → World → Prop) (ys : List α) (W0 W2 : World) : Exit → Act → World → Prop
  | .normal, _, W' => KeepsFrom M W2 W' ∧ Below n₀ W2 W' ∧ Mid W0.heap.size W2.heap.size W2 W' ∧ I ys W'
  | .ret, _, W' => KeepsFrom M W2 W' ∧ Ix .ret ys W'
  | .exit id, _, W' => KeepsFrom M W2 W' ∧ Ix (.exit id) ys W'
  | .goto t, _, W' => KeepsFrom M W2 W' ∧ Ix (.goto t) ys W'
  | .panic _, _, _ => False
  | .outgrown, _, _ => False
theorem ownFrom_ext {β : Type} {M : Nat} {I : β → World → Prop} (h : OwnFrom M I) {s : β} {A B : World} (hs : I s A) (hb : Below A.heap.size A B) : I s B :=
  h s A B none hs (gr_of_below hb) (fun r e => by cases e)
theorem below_putObj {W : World} {l B : Nat} {o : Obj} (hl : B ≤ l) : Below B W (W.putObj l o) :=
  ⟨rfl, rfl, rfl, by simp, fun k hk => World.putObj_heap_other (by omega)⟩
theorem range_mine {P : Program} {α : Type} {g : Operand} {ps : Array Tmp} {assign body : Code} {Q : Exit → Act → World → Prop} {a : Act} {w : World}
    {gf : Nat} {lb : Array Value} (hg : a.eval g = .func (.func gf) #[] lb) (eg : ∀ args w, (callFunc gf args).run P w = .ok (.enter gf args) w)
    {encs : α → Array Value} {n₀ : Nat} {xs : List α} {w0 : World} (hgives : Gives P gf lb encs n₀ xs w0)
    (hb0 : Below w0.heap.size w0 w) (hn₀ : n₀ ≤ w.heap.size) (hps : ∀ x, (encs x).size = ps.size)
    (I : List α → World → Prop) (Ix : Code → List α → World → Prop) (hI : OwnFrom w.heap.size I) (hIx : ∀ c, OwnFrom w.heap.size (Ix c)) (h0 : I [] w)
    (hround : ∀ (l : Nat) (pre : List α) (x : α) (W1 : World) (K : Act → World → Prop),
      (∀ a', (∀ W0 W2, I pre W0 → Below W0.heap.size W0 W2 → pre ++ [x] <+: xs → w.heap.size ≤ W0.heap.size → body.wpIn (Fence.wide.inRound l) 8 P (postR w.heap.size n₀ I Ix (pre ++ [x]) W0 W2) a' W2) → K a' W1) →
      assign.wpIn (Fence.wide.inRound l) 8 P (Exit.then K (fun _ _ _ => False)) { tmps := (ps.zip (encs x)).foldl (fun t (p, v) => t.setIfInBounds p v) a.tmps, defers := [] } W1)
    (hdone : ∀ (D : Nat) (W : World), w.heap.size ≤ D → I xs W → W.heap[D]? = some (.deferred (some [])) → Q .normal { a with defers := { target := .collected D, args := #[] } :: a.defers } W)
    (hstop : ∀ (D : Nat) (c : Code) (pre : List α) (W : World), w.heap.size ≤ D → pre <+: xs → Ix c pre W → W.heap[D]? = some (.deferred (some [])) → c.wpIn Fence.wide 10 P Q { a with defers := { target := .collected D, args := #[] } :: a.defers } W) :
    (Code.rangeFunc g ps assign body).wpIn Fence.wide 10 P Q a w := by
  refine wpIn_rangeFunc ?_
  intro fn hfn
  -- the loop's record, in each of its states
  let rc : LoopState → Option Code → Obj := fun st pe => .loop { state := st, pending := pe, fn, tmps := a.tmps, params := ps, assign, body, defers := w.heap.size }
  let M := w.heap.size
  have hM : w.heap.size = M := rfl
  let W1 := (w.alloc (.deferred (some []))).alloc (rc .ready none)
  have hsz : W1.heap.size = M + 2 := by show ((w.alloc _).alloc _).heap.size = _; simp [hM]
  have hbel : Below M w W1 := ((Below.refl _ w).alloc (Nat.le_refl _) _).alloc (by simp [hM]) _
  have hL1 : W1.heap[M + 1]? = some (rc .ready none) := by
    have := World.alloc_heap_new (w.alloc (.deferred (some []))) (rc .ready none)
    rwa [World.size_alloc] at this
  have hD1 : W1.heap[M]? = some (.deferred (some [])) := (Below.heap_alloc _ _ _ (by simp [hM])).trans (World.alloc_heap_new w _)
  refine ⟨M + 1, [{ target := .collected M, args := #[] }], W1, { target := .fn (.func gf) lb, args := #[.func (.yield (M + 1)) #[] #[]] }, W1, gf,
    #[.func (.yield (M + 1)) #[] #[]] ++ lb, W1, run_enterLoop_outer _ _ _ _ _, ?_, fun _ _ => trivial, ?_, fun _ => by omega, ?_⟩
  · simp only [resolve, hg]; simp [go_sem]
  · simp [invoke, go_sem, eg]
  refine (hgives (M + 1)
    (fun pre W => I pre W ∧ W.heap[M + 1]? = some (rc .ready none) ∧ W.heap[M]? = some (.deferred (some [])))
    (fun pre W => ∃ c, Ix c pre W ∧ W.heap[M + 1]? = some (rc .done (some c)) ∧ W.heap[M]? = some (.deferred (some [])))
    W1 (hb0.trans (hbel.mono hb0.size))
    (fun s A B ⟨h1, h2, h3⟩ hb => ⟨ownFrom_ext hI h1 hb, (hb.block _ (def_lt' h2)).trans h2, (hb.block _ (def_lt' h3)).trans h3⟩)
    (fun s A B ⟨c, h1, h2, h3⟩ hb => ⟨c, ownFrom_ext (hIx c) h1 hb, (hb.block _ (def_lt' h2)).trans h2, (hb.block _ (def_lt' h3)).trans h3⟩)
    ?_ ⟨ownFrom_ext hI h0 hbel, hL1, hD1⟩).mono ?_
  · -- one round
    rintro pre x A B ⟨hi, hl, hd⟩ hpre hAB
    have hlA := def_lt' hl
    have hlB : B.heap[M + 1]? = some (rc .ready none) := (hAB.block _ hlA).trans hl
    have hdB : B.heap[M]? = some (.deferred (some [])) := (hAB.block _ (by omega)).trans hd
    refine ⟨fn, _, assign, body, run_yield (P := P) (args := encs x) hlB (by exact hps x), roundIn_of_wpIn trivial (hround (M + 1) pre x B _ ?_)⟩
    intro a' hbody
    refine ⟨_, run_beginRound hlB rfl, ?_⟩
    let A0 := A.putObj (M + 1) (rc .busy none)
    let B2 := B.putObj (M + 1) (rc .busy none)
    have hi0 : I pre A0 := hI.putObj _ hi (by omega) hl rfl
    have hA0 : A0.heap.size = A.heap.size := World.putObj_size
    have hB2 : B2.heap.size = B.heap.size := World.putObj_size
    have hext : Below A0.heap.size A0 B2 := by
      refine ⟨hAB.os, hAB.tape, hAB.output, by rw [hA0, hB2]; exact hAB.size, fun k hk => ?_⟩
      rw [hA0] at hk
      by_cases e : k = M + 1
      · subst e
        rw [World.putObj_heap_same (by have := hAB.size; omega), World.putObj_heap_same hlA]
      · rw [World.putObj_heap_other e, World.putObj_heap_other e]
        exact hAB.block k hk
    have hl2 : B2.heap[M + 1]? = some (rc .busy none) := World.putObj_heap_same (by have := hAB.size; omega)
    have hd2 : B2.heap[M]? = some (.deferred (some [])) := (World.putObj_heap_other (by omega)).trans hdB
    refine wpIn_mono (hbody A0 B2 hi0 hext hpre (by rw [hA0]; omega)) ?_
    have fin : ∀ (jump : Option Code) (C : World), KeepsFrom M B2 C →
        (Instr.endRound (M + 1) jump).run P C = .ok (.bool jump.isNone) (C.putObj (M + 1) (rc (if jump.isNone then .ready else .done) jump)) ∧ C.heap[M + 1]? = some (rc .busy none) ∧
        (C.putObj (M + 1) (rc (if jump.isNone then .ready else .done) jump)).heap[M + 1]? = some (rc (if jump.isNone then .ready else .done) jump) ∧
        (C.putObj (M + 1) (rc (if jump.isNone then .ready else .done) jump)).heap[M]? = some (.deferred (some [])) := fun jump C hk => by
      have h1 := hk.same _ _ (by omega) hl2 rfl
      exact ⟨run_endRound (P := P) jump h1, h1, World.putObj_heap_same (def_lt' h1), (World.putObj_heap_other (by omega)).trans (hk.same _ _ (Nat.le_refl _) hd2 rfl)⟩
    rintro e a3 C hp
    cases e with
    | normal =>
      obtain ⟨hk, hb, hm, hi3⟩ := hp
      obtain ⟨hr, h1, h2, h3⟩ := fin none C hk
      refine ⟨_, _, hr, .inl ⟨rfl, ⟨hI.putObj _ hi3 (by omega) h1 rfl, h2, h3⟩, ?_, ?_⟩⟩
      · have b1 : Below n₀ B B2 := below_putObj (by omega)
        exact (b1.trans hb).trans (below_putObj (by omega))
      · intro k hk1 hk2
        rw [World.putObj_heap_other (by omega), hm k (by rw [hA0]; exact hk1) (by rw [hB2]; exact hk2), World.putObj_heap_other (by omega)]
    | ret =>
      obtain ⟨hk, hi3⟩ := hp
      obtain ⟨hr, h1, h2, h3⟩ := fin (some .ret) C hk
      exact ⟨_, _, hr, .inr ⟨rfl, .ret, (hIx _).putObj _ hi3 (by omega) h1 rfl, h2, h3⟩⟩
    | exit id =>
      obtain ⟨hk, hi3⟩ := hp
      obtain ⟨hr, h1, h2, h3⟩ := fin (some (.exit id)) C hk
      exact ⟨_, _, hr, .inr ⟨rfl, .exit id, (hIx _).putObj _ hi3 (by omega) h1 rfl, h2, h3⟩⟩
    | goto t =>
      obtain ⟨hk, hi3⟩ := hp
      obtain ⟨hr, h1, h2, h3⟩ := fin (some (.goto t)) C hk
      exact ⟨_, _, hr, .inr ⟨rfl, .goto t, (hIx _).putObj _ hi3 (by omega) h1 rfl, h2, h3⟩⟩
    | panic ch => exact hp.elim
    | outgrown => exact hp.elim
  · rintro e C ⟨⟨v, rfl⟩, (⟨hi, hl, hd⟩ | ⟨pre, hpre, c, hi, hl, hd⟩)⟩
    · exact ⟨none, _, run_endLoop (P := P) hl (by simp), hdone M _ (Nat.le_refl _) (hI.putObj _ hi (by omega) hl rfl) ((World.putObj_heap_other (by omega)).trans hd)⟩
    · exact ⟨some c, _, run_endLoop (P := P) hl (by simp), hstop M c pre _ (Nat.le_refl _) hpre ((hIx c).putObj _ hi (by omega) hl rfl) ((World.putObj_heap_other (by omega)).trans hd)⟩
/-- a contract in a round -/
theorem in_round {P : Program} {f : FuncId} {args : Array Value} {w : World} {R : Ending → World → Prop} (l n : Nat) (h : Calls P f args w R) : CallsIn (Fence.wide.inRound l) n P f args w R :=
  CallsIn.inRound l (callsIn_wide.2 h)
/-- a box that the iterator made ahead of the round reads as it did -/
theorem cells_mid {A W3 : World} {cs : Array Value} {t : TypeId} (h : Mid A.heap.size (A.alloc (.cells cs t)).heap.size (A.alloc (.cells cs t)) W3) {i : Nat} : W3.cell? ⟨A.heap.size, i, none⟩ = cs[i]? :=
  cell_of_row W3 _ _ cs t (0, 0) ((h A.heap.size (Nat.le_refl _) (by simp)).trans (heap_alloc_new A _))
/-- a block known whole -/
abbrev Bk (W : World) (b : Nat) (t : TypeId) (cs : Array Value) : Prop := W.heap[b]? = some (.cells cs t (0, 0))
section kept
variable {A B w : World} {row : Option Nat} {M : Nat}
abbrev Turns (M : Nat) (A : World) (row : Option Nat) : Prop := ∀ r, row = some r → M ≤ r ∧ ∃ o : Obj, A.heap[r]? = some o ∧ o.isCells = false
theorem blk_kept {b : Nat} {t : TypeId} {cs : Array Value} (h : Bk A b t cs) (hg : A.grownBy B row) (hr : Turns M A row) : Bk B b t cs := by
  refine (hg.block b (def_lt' h) (fun e => ?_)).trans h
  obtain ⟨_, o, ho, hc⟩ := hr b e.symm
  have h' : A.heap[b]? = some (.cells cs t (0, 0)) := h
  rw [h'] at ho
  cases ho
  cases hc
theorem below_kept {B0 : Nat} (h : Below B0 w A) (hw : B0 ≤ w.heap.size) (hM : B0 ≤ M) (hg : A.grownBy B row) (hr : Turns M A row) : Below B0 w B :=
  h.grown hg (Nat.le_trans hw h.size) (fun k e => Nat.le_trans hM (hr k e).1)
theorem own_kept {base : Nat} {e : TypeId} {size : Nat} {v : Value} {n : Nat} {xs : List Value} (h : A.ownsRow base e size v n xs) (hg : A.grownBy B row) (hr : Turns M A row) : B.ownsRow base e size v n xs := by
  obtain ⟨h1, h2⟩ := h
  refine ⟨h1, ?_⟩
  rcases h2 with h2 | ⟨g, cap, cur, hv, hb, hh, r⟩
  · exact .inl h2
  · exact .inr ⟨g, cap, cur, hv, hb, blk_kept (cs := cur) hh hg hr, r⟩
end kept
theorem Bk.cell {W : World} {b : Nat} {t : TypeId} {cs : Array Value} (h : Bk W b t cs) (i : Nat) : W.cell? ⟨b, i, none⟩ = cs[i]? := cell_of_row W b i cs t (0, 0) h
theorem Bk.frozen {W : World} {b : Nat} {t : TypeId} {cs : Array Value} (h : Bk W b t cs) (i : Nat) : W.frozen? ⟨b, i, none⟩ = false := by
  have h' : W.heap[b]? = some (.cells cs t (0, 0)) := h
  simp [World.frozen?, h']
theorem Bk.new (W : World) (t : TypeId) (cs : Array Value) : Bk (W.alloc (.cells cs t)) W.heap.size t cs := heap_alloc_new W _
theorem Bk.alloc {W : World} {b : Nat} {t : TypeId} {cs : Array Value} (h : Bk W b t cs) (o : Obj) : Bk (W.alloc o) b t cs := (Below.heap_alloc W o b (def_lt' h)).trans h
theorem Bk.drew {W : World} {b : Nat} {t : TypeId} {cs : Array Value} (h : Bk W b t cs) : Bk W.drew b t cs := h
theorem Bk.drewN {W : World} {b : Nat} {t : TypeId} {cs : Array Value} (h : Bk W b t cs) (n : Nat) : Bk (W.drewN n) b t cs := h
theorem Bk.ext {W W' : World} {b : Nat} {t : TypeId} {cs : Array Value} (h : Bk W b t cs) (hb : Below W.heap.size W W') : Bk W' b t cs := (hb.block b (def_lt' h)).trans h
theorem Bk.set_ {W : World} {b : Nat} {t : TypeId} {cs : Array Value} (h : Bk W b t cs) (i : Nat) (u : Value) : Bk (W.setCell ⟨b, i, none⟩ u) b t (cs.setIfInBounds i u) := by
  have h' : W.heap[b]? = some (.cells cs t (0, 0)) := h
  show (W.setCell _ u).heap[b]? = _
  simp [World.setCell, Array.getElem?_modify, h']
theorem Bk.far {W : World} {b : Nat} {t : TypeId} {cs : Array Value} (h : Bk W b t cs) {p : Addr} (hp : b ≠ p.block) (u : Value) : Bk (W.setCell p u) b t cs := (Below.heap_setCell W p u b hp).trans h
theorem Bk.grown {W W' : World} {b : Nat} {t : TypeId} {cs : Array Value} {row : Option Nat} (h : Bk W b t cs) (hg : W.grownBy W' row) (hne : row ≠ some b) : Bk W' b t cs := (hg.block b (def_lt' h) (fun e => hne e.symm)).trans h
theorem Mid.set_ {a b : Nat} {W W' : World} (h : Mid a b W W') {p : Addr} (hp : p.block < a) (u : Value) : Mid a b W (W'.setCell p u) := fun k h1 h2 => (Below.heap_setCell W' p u k (by omega)).trans (h k h1 h2)
theorem Mid.alloc {a b : Nat} {W W' : World} (h : Mid a b W W') (hb : b ≤ W'.heap.size) (o : Obj) : Mid a b W (W'.alloc o) := fun k h1 h2 => (Below.heap_alloc W' o k (by omega)).trans (h k h1 h2)
theorem Mid.drew {a b : Nat} {W W' : World} (h : Mid a b W W') : Mid a b W W'.drew := h
theorem Mid.keeps {a : Nat} {W W' : World} (h : Mid a W.heap.size W W') (hs : W.heap.size ≤ W'.heap.size) : KeepsFrom a W W' := ⟨hs, fun k _ h1 h2 _ => (h k h1 (def_lt' h2)).trans h2⟩
theorem Mid.of_full (a : Nat) {W W' : World} (h : Below W.heap.size W W') : Mid a W.heap.size W W' := fun k _ h2 => h.block k h2
theorem bk10 {w : World} {b : Nat} {t : TypeId} {x0 x1 x2 x3 x4 x5 x6 x7 x8 x9 : Value} (k : Bk w b t #[x0, x1, x2, x3, x4, x5, x6, x7, x8, x9]) : w.cell? ⟨b, 0, none⟩ = some x0 ∧ w.cell? ⟨b, 1, none⟩ = some x1 ∧ w.cell? ⟨b, 2, none⟩ = some x2 ∧ w.cell? ⟨b, 3, none⟩ = some x3 ∧ w.cell? ⟨b, 4, none⟩ = some x4 ∧ w.cell? ⟨b, 5, none⟩ = some x5 ∧ w.cell? ⟨b, 6, none⟩ = some x6 ∧ w.cell? ⟨b, 7, none⟩ = some x7 ∧ w.cell? ⟨b, 8, none⟩ = some x8 ∧ w.cell? ⟨b, 9, none⟩ = some x9 :=
  ⟨k.cell 0, k.cell 1, k.cell 2, k.cell 3, k.cell 4, k.cell 5, k.cell 6, k.cell 7, k.cell 8, k.cell 9⟩
/-- how a contract ends in the midst of a law that began in w: it answers v; what was there in w, and what was there in W, reads as before -/
abbrev On (w W : World) (v : Value) (e : Ending) (w' : World) : Prop := e = .returned v ∧ Below w.heap.size w w' ∧ w.heap.size ≤ w'.heap.size ∧ Below W.heap.size W w'
theorem calls_on {P : Program} {f : FuncId} {args : Array Value} {w W : World} {v : Value} (hb : Below w.heap.size w W) (h : Calls P f args W fun e w' => e = .returned v ∧ Below W.heap.size W w') : Calls P f args W (On w W v) :=
  h.mono fun _ _ ⟨he, hb'⟩ => ⟨he, hb.trans (hb'.mono hb.size), Nat.le_trans hb.size hb'.size, hb'⟩
end Go.Proofs.YtmacfoebfpljoaaGreat
