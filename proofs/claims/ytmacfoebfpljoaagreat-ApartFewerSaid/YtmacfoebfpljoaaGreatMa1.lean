/- merged texts: W V U StA La R P A Q Ha B C D E -/
import Derived.WalkKit
import Derived.WalkSpells
import Derived.WalkLawsBesides
import Derived.Lib.Hide
import Derived.Maps.AppendAt
import Derived.Maps.Range
import Derived.Deep.AppendLies
import Derived.Deep.RegionLaw
import Derived.Deep.Draws
import Derived.Lib.SliceRun
import Derived.Test.YtmacfoebfpljoaaGreatRows
import Derived.Deep.DeepCutAuto
import Derived.Deep.QuietTactic
import Derived.BigQuiet
import Derived.Laws.StructEq
import Derived.ChangeKeysEq
import Derived.RangeFuncNested
import Derived.RangeFuncBound
import Derived.RangeFuncCalls
import Derived.RangeFuncLeaves
import Derived.RangeFuncBox
import Derived.Shelf.Abstract
import Derived.Shelf.RegionOpen
import Derived.OwnWalkIn
import Derived.TacticsInMore
import Derived.LoopNIn
import Derived.LoopIn
import Derived.Deep.RegionHeld3
import Derived.BigRegion
set_option maxRecDepth 100000
set_option maxHeartbeats 16000000
namespace Go.Proofs.YtmacfoebfpljoaaGreat
open Go.RowKit
theorem ret_bool {a b : Bool} (h : a = b) : Ending.returned (.bool a) = .returned (.bool b) := by rw [h]
theorem ret_int {k : IntKind} {a b : Int} (h : a = b) : Ending.returned (.int k a) = .returned (.int k b) := by rw [h]
section grown
variable {a w w1 w2 w' : World} {row row' : Option Nat}
theorem gr_drew (h : a.grownBy w row) : a.grownBy w.drew row := ⟨h.os, h.tape, h.output, h.size, h.block⟩
theorem gr_alloc (h : a.grownBy w row) (o : Obj) : a.grownBy (w.alloc o) row :=
 ⟨h.os, h.tape, h.output, Nat.le_trans h.size (by simp), fun i hi hne => (Below.heap_alloc w o i (Nat.lt_of_lt_of_le hi h.size)).trans (h.block i hi hne)⟩
theorem gr_set (h : a.grownBy w row) {p : Addr} (hp : row = some p.block ∨ a.heap.size ≤ p.block) (u : Value) : a.grownBy (w.setCell p u) row :=
 ⟨h.os, h.tape, h.output, by simpa [World.setCell] using h.size, fun i hi hne => (Below.heap_setCell w p u i (by
  rintro rfl
  rcases hp with hp | hp
  ·exact hne hp.symm
  ·omega)).trans (h.block i hi hne)⟩
theorem gr_of_below (h : Below a.heap.size a w) : a.grownBy w row := ⟨h.os, h.tape, h.output, h.size, fun i hi _ => h.block i hi⟩
end grown
theorem below_drewN {B : Nat} {a w : World} (h : Below B a w) (n : Nat) : Below B a (w.drewN n) := ⟨h.os, h.tape, h.output, h.size, h.block⟩
section app
variable {P : Program}
/-- append of one element (its cells 'xs1', laid in a new block) onto an owned row: at a plain region's list -/
theorem app_one {ops : Array Oper} {rest : List Oper} {o : Oper} {a : Act} {Q : Exit → Act → World → Prop} {t e : TypeId} {z : Value} {size bytes : Nat}
 (ht : P.underlying t = some (.slice e)) (hinfo : (P.info? e).map (fun i => (i.zero, i.size, i.bytes)) = some (some z, size, bytes)) (hzs : z.cells.size = size) (hsz : 0 < size)
 (w : World) (base : Nat) (v : Value) (n : Nat) (xs : List Value) (hown : w.ownsRow base e size v n xs) (hn : n + 1 ≤ maxLen) (hby : (n + 1) * bytes ≤ 140737488355328) (hb : base ≤ w.heap.size)
 (news : Array Value) (hl : news.size = size) (h1 : ∀ u ∈ news.toList, u.oneCell' = true)
 (hgd : o.guard = none) (s x : Operand) (ho : o.op = .call { callee := .builtin .append, args := #[s, x], argTypes := #[t, t] })
 (hs : a.eval s = v) (hx : a.eval x = .slice (some ⟨w.heap.size, 0, none⟩) 1 1)
 (h : ∀ g cap w', w'.ownsRow base e size (.slice (some ⟨g, 0, none⟩) (n + 1) cap) (n + 1) (xs ++ news.toList) → w.grownBy w' v.ownBlock → (v.ownBlock = some g ∨ w.heap.size < g) → g < w'.heap.size →
  wpList P ops Q rest (a.put o.dst (.slice (some ⟨g, 0, none⟩) (n + 1) cap)) w') :
 wpList P ops Q (o :: rest) a (w.alloc (.cells news e)) := by
 obtain ⟨i0, hi, hz0, hz1, hz2⟩ := info_parts hinfo
 refine wpList_append_lies _ hgd s x t ho base e i0 z size bytes ht hi hz0 hz1 hz2 hzs hsz v n xs hs (hown.alloc _) ⟨w.heap.size, 0, none⟩ 1 1 news.toList hx (by simp [hl]) ?_ h1 (by omega) hn hby (by simp; omega) _ rfl ?_
 ·intro j u hu
  have hb := heap_alloc_new w (.cells news e)
  rw [show (({ block := w.heap.size, off := 0 } : Addr).add j) = ⟨w.heap.size, j, none⟩ from by unfold Addr.add; split <;> simp_all]
  rw [cell_of_row _ _ _ _ _ _ hb]
  simpa using hu
 intro g cap w' h1 h2 h3 h4
 refine h g cap w' h1 ((gr_alloc (World.grownBy.refl w _) _).trans h2) ?_ h4
 rcases h3 with h3 | h3
 ·exact .inl h3
 ·exact .inr (by simp at h3; omega)
/-- the same at a step of a region that draws -/
theorem app_one_step {ops : Array Oper} {o : Oper} {a : Act} {K : Act → World → Prop} {Q : Exit → Act → World → Prop} {E : Prop} {t e : TypeId} {z : Value} {size bytes : Nat}
 (ht : P.underlying t = some (.slice e)) (hinfo : (P.info? e).map (fun i => (i.zero, i.size, i.bytes)) = some (some z, size, bytes)) (hzs : z.cells.size = size) (hsz : 0 < size)
 (w : World) (base : Nat) (v : Value) (n : Nat) (xs : List Value) (hown : w.ownsRow base e size v n xs) (hn : n + 1 ≤ maxLen) (hby : (n + 1) * bytes ≤ 140737488355328) (hb : base ≤ w.heap.size)
 (news : Array Value) (hl : news.size = size) (h1 : ∀ u ∈ news.toList, u.oneCell' = true)
 (hgd : o.guard = none) (s x : Operand) (ho : o.op = .call { callee := .builtin .append, args := #[s, x], argTypes := #[t, t] })
 (hs : a.eval s = v) (hx : a.eval x = .slice (some ⟨w.heap.size, 0, none⟩) 1 1)
 (h : ∀ g cap w', w'.ownsRow base e size (.slice (some ⟨g, 0, none⟩) (n + 1) cap) (n + 1) (xs ++ news.toList) → w.grownBy w' v.ownBlock → (v.ownBlock = some g ∨ w.heap.size < g) → g < w'.heap.size →
  K (a.put o.dst (.slice (some ⟨g, 0, none⟩) (n + 1) cap)) w') :
 if Region.wanted o (yielded ops a.tmps) = true then Oper.wp P o a (w.alloc (.cells news e)).drew K Q else E := by
 obtain ⟨i0, hi, hz0, hz1, hz2⟩ := info_parts hinfo
 refine step_append_lies _ hgd s x t ho base e i0 z size bytes ht hi hz0 hz1 hz2 hzs hsz v n xs hs (World.ownsRow.alloc (w := w) hown _) ⟨w.heap.size, 0, none⟩ 1 1 news.toList hx (by simp [hl]) ?_ h1 (by omega) hn hby (by simp; omega) _ rfl ?_
 ·intro j u hu
  have hb := heap_alloc_new w (.cells news e)
  rw [show (({ block := w.heap.size, off := 0 } : Addr).add j) = ⟨w.heap.size, j, none⟩ from by unfold Addr.add; split <;> simp_all]
  show (w.alloc (.cells news e)).cell? _ = _
  rw [cell_of_row _ _ _ _ _ _ hb]
  simpa using hu
 intro g cap w' h1 h2 h3 h4
 refine h g cap w' h1 ((gr_drew (gr_alloc (World.grownBy.refl w _) _)).trans h2) ?_ h4
 rcases h3 with h3 | h3
 ·exact .inl h3
 ·exact .inr (by simp at h3; omega)
end app
/-! slices that read as a list of cells -/
/-- the slice of n elements ('size' cells each) that begins at A holds the cells xs, and lies below block B -/
def Rd (w : World) (B size : Nat) (A : Option Addr) (n : Nat) (xs : List Value) : Prop :=
 xs.length = n * size ∧ (0 < n → ∃ b o, A = some ⟨b, o, none⟩ ∧ b < B ∧ ∀ j u, xs[j]? = some u → w.cell? ⟨b, o + j, none⟩ = some u)
theorem add_flat (b o j : Nat) : (⟨b, o, none⟩ : Addr).add j = ⟨b, o + j, none⟩ := by
 unfold Addr.add; split <;> simp_all
section rd
variable {w w' : World} {B B' size n : Nat} {A : Option Addr} {xs : List Value}
theorem Rd.nil_ (w : World) (B size : Nat) (A : Option Addr) : Rd w B size A 0 [] := ⟨by simp, fun h => absurd h (by omega)⟩
theorem Rd.keep (h : Rd w B size A n xs) (hk : ∀ p : Addr, p.block < B → w'.cell? p = w.cell? p) : Rd w' B size A n xs :=
 ⟨h.1, fun hn => by
  obtain ⟨b, o, e, hb, hc⟩ := h.2 hn
  exact ⟨b, o, e, hb, fun j u hu => (hk _ hb).trans (hc j u hu)⟩⟩
theorem Rd.more (h : Rd w B size A n xs) (hB : B ≤ B') : Rd w B' size A n xs :=
 ⟨h.1, fun hn => by
  obtain ⟨b, o, e, hb, hc⟩ := h.2 hn
  exact ⟨b, o, e, by omega, hc⟩⟩
theorem Rd.below (h : Rd w B size A n xs) (hb : Below B w w') : Rd w' B size A n xs := h.keep fun _ hp => hb.cell hp
theorem Rd.drew (h : Rd w B size A n xs) : Rd w.drew B size A n xs := h
theorem Rd.drewN (h : Rd w B size A n xs) (k : Nat) : Rd (w.drewN k) B size A n xs := h
theorem Rd.alloc (h : Rd w B size A n xs) (hB : B ≤ w.heap.size) (o : Obj) : Rd (w.alloc o) B size A n xs := h.keep fun p hp => World.cell?_alloc_lt w o p (by omega)
theorem Rd.set_ (h : Rd w B size A n xs) {p : Addr} (hB : B ≤ p.block) (u : Value) : Rd (w.setCell p u) B size A n xs :=
 h.keep fun q hq => World.cell?_setCell_other w p q u (fun e => by subst e; omega)
theorem Rd.of_own {base : Nat} {e : TypeId} {c : Nat} (h : w.ownsRow base e size (.slice A n c) n xs) : Rd w w.heap.size size A n xs := by
 refine ⟨h.1, fun hn => ?_⟩
 obtain ⟨g, cap, hv, _, hlt⟩ := h.form hn
 have hA : A = some ⟨g, 0, none⟩ := by injection hv
 subst hA
 refine ⟨g, 0, rfl, hlt, fun j u hu => ?_⟩
 have := h.cells (g := g) rfl j u hu
 rwa [add_flat] at this
/-- the k-th element: its cells -/
theorem Rd.at_ {k : Nat} (h : Rd w B size A n xs) (hk : k < n) : ∃ b o, A = some ⟨b, o, none⟩ ∧ b < B ∧ ∀ i, i < size → ∃ u, xs[k * size + i]? = some u ∧ w.cell? ⟨b, o + (k * size + i), none⟩ = some u := by
 obtain ⟨b, o, e, hb, hc⟩ := h.2 (by omega)
 refine ⟨b, o, e, hb, fun i hi => ?_⟩
 have hl : k * size + i < xs.length := by
  rw [h.1]
  calc k * size + i < k * size + size := by omega
   _ = (k + 1) * size := by rw [Nat.add_mul]; simp
   _ ≤ n * size := Nat.mul_le_mul_right _ hk
 exact ⟨xs[k * size + i], List.getElem?_eq_getElem hl, hc _ _ (List.getElem?_eq_getElem hl)⟩
/-- the k-th element, where each is one cell -/
theorem Rd.at1 {k : Nat} (h : Rd w B 1 A n xs) (hk : k < n) : ∃ b o u, A = some ⟨b, o, none⟩ ∧ b < B ∧ xs[k]? = some u ∧ w.cell? ⟨b, o + k, none⟩ = some u := by
 obtain ⟨b, o, e, hb, hc⟩ := h.at_ hk
 obtain ⟨u, h1, h2⟩ := hc 0 (by omega)
 exact ⟨b, o, u, e, hb, by simpa using h1, by simpa using h2⟩
/-- a cut of it -/
theorem Rd.cut {b o k m : Nat} (h : Rd w B size (some ⟨b, o, none⟩) n xs) (hkm : k ≤ m) (hm : m ≤ n) : Rd w B size (some ⟨b, o + k * size, none⟩) (m - k) ((xs.drop (k * size)).take ((m - k) * size)) := by
 refine ⟨?_, fun hn => ?_⟩
 ·rw [List.length_take, List.length_drop, h.1, ← Nat.sub_mul]
  exact Nat.min_eq_left (Nat.mul_le_mul_right _ (by omega))
 obtain ⟨b', o', e, hb, hc⟩ := h.2 (by omega)
 injection e with e; injection e with e1 e2
 subst e1; subst e2
 refine ⟨_, _, rfl, hb, fun j u hu => ?_⟩
 rw [Nat.add_assoc]
 refine hc _ u ?_
 rw [List.getElem?_take] at hu
 split at hu
 ·rwa [List.getElem?_drop] at hu
 ·simp at hu
end rd
/-! bytes as strings -/
def strOf (l : List Int) : ByteArray := ⟨(l.map fun n => UInt8.ofNat n.toNat).toArray⟩
theorem foldl_strOf (ns : List Int) : ∀ s : ByteArray, ns.foldl (fun r n => r.push (UInt8.ofNat n.toNat)) s = ⟨s.data ++ (ns.map fun n => UInt8.ofNat n.toNat).toArray⟩ := by
 induction ns with
 | nil => intro s; simp
 | cons n ns ih => intro s; rw [List.foldl_cons, ih]; simp [ByteArray.push]
theorem run_conv_str {P : Program} (w : World) (src dst e : TypeId) (hs : P.underlying src = some (.slice e)) (he : P.underlying e = some (.int .u8)) (hd : P.underlying dst = some .string)
 (A : Option Addr) (n c : Nat) (B : Nat) (bs : List Int) (h : Rd w B 1 A n (bs.map (Value.int .u8))) : (convert src dst (.slice A n c)).run P w = .ok (.string (strOf bs)) w := by
 rw [run_convert_bytes_string w src dst e A n c hs he hd]
 have hl : bs.length = n := by simpa using h.1
 rcases Nat.eq_zero_or_pos n with hn | hn
 ·subst hn
  obtain rfl : bs = [] := List.eq_nil_of_length_eq_zero hl
  cases A with
  | none => rfl
  | some a => rfl
 ·obtain ⟨b, o, rfl, _, hc⟩ := h.2 hn
  subst hl
  have := run_bytesToString (P := P) w ⟨b, o, none⟩ bs.length c bs (by
   have := run_loadCells_list (P := P) (w := w) ⟨b, o, none⟩ (bs.map (Value.int .u8)) (fun j v hj => by rw [add_flat]; exact hc j v hj)
   simpa using this)
  rw [this, foldl_strOf]
  have e0 : ByteArray.empty.data = #[] := rfl
  rw [e0]
  simp [strOf]
/-- blocks below B are as they were: found by itself -/
theorem belowA {B : Nat} {a w : World} (h : Below B a w := by repeat (first | with_reducible exact Below.refl _ _ | with_reducible assumption | (with_reducible refine below_drewN ?_ _) | (with_reducible refine Below.drew ?_) | (with_reducible refine Below.alloc ?_ ?_ _; rotate_left; focus (first | with_reducible assumption | omega | (simp; done) | (simp; omega))) | (with_reducible refine Below.setCell ?_ ?_ _; rotate_left; focus (first | with_reducible assumption | omega | (simp; done) | (simp; omega))))) : Below B a w := h
section
variable {P : Program}
theorem run_append_of_nil (w : World) (base : Nat) (t ty e : TypeId) (i : TypeInfo) (size : Nat) (ht : P.underlying t = some (.slice e)) (hi : P.info? e = some i)
 (v : Value) (n : Nat) (xs : List Value) (hown : w.ownsRow base e size v n xs) (c : Nat) : (Builtin.append_ #[t, t] ty #[v, .slice none 0 c]).run P w = .ok v w := by
 rcases hown.2 with ⟨rfl, rfl⟩ | ⟨g, cap, cur, rfl, _, _, hnc, _⟩
 ·simp [Builtin.append_, run_underlying ht, sizeOf, typeInfo, hi, Builtin.lenOf, Builtin.firstCells]
 ·simp [Builtin.append_, run_underlying ht, sizeOf, typeInfo, hi, Builtin.lenOf, Builtin.firstCells, hnc, storeCells]
/-- append of a slice that reads as a list onto an owned row -/
theorem app_rd {ops : Array Oper} {rest : List Oper} {o : Oper} {a : Act} {Q : Exit → Act → World → Prop} {t e : TypeId} {z : Value} {size bytes : Nat}
 (ht : P.underlying t = some (.slice e)) (hinfo : (P.info? e).map (fun i => (i.zero, i.size, i.bytes)) = some (some z, size, bytes)) (hzs : z.cells.size = size) (hsz : 0 < size)
 (w : World) (base : Nat) (v : Value) (n : Nat) (xs : List Value) (hown : w.ownsRow base e size v n xs)
 (B : Nat) (A : Option Addr) (m c : Nat) (news : List Value) (hr : Rd w B size A m news) (hA : A = none → m = 0) (h1 : ∀ u ∈ news, u.oneCell' = true)
 (hn : n + m ≤ maxLen) (hby : (n + m) * bytes ≤ 140737488355328) (hb : base ≤ w.heap.size)
 (hgd : o.guard = none) (s x : Operand) (ho : o.op = .call { callee := .builtin .append, args := #[s, x], argTypes := #[t, t] })
 (hs : a.eval s = v) (hx : a.eval x = .slice A m c)
 (h : ∀ v' w', w'.ownsRow base e size v' (n + m) (xs ++ news) → w.grownBy w' v.ownBlock → (v'.ownBlock = v.ownBlock ∨ v'.ownBlock = some w.heap.size) → wpList P ops Q rest (a.put o.dst v') w') :
 wpList P ops Q (o :: rest) a w := by
 obtain ⟨i0, hi, hz0, hz1, hz2⟩ := info_parts hinfo
 rcases A with _ | ad
 ·obtain rfl := hA rfl
  have hnews : news = [] := List.eq_nil_of_length_eq_zero (by simpa using hr.1)
  subst hnews
  refine wpList_plain hgd fun K hK => ?_
  unfold Oper.wp execOp
  simp only [ho, resolve, invoke, builtin, Sem.run_bind, Sem.run_pure, Result.andThen_ok, List.map_toArray, List.map_cons, List.map_nil, hs, hx, run_append_of_nil w base t o.type e i0 size ht hi v n xs hown c]
  exact hK _ _ (h v w (by simpa using hown) (World.grownBy.refl w _) (.inl rfl))
 ·refine wpList_append_own_at w hgd s x t ho base e i0 z size bytes ht hi hz0 hz1 hz2 hzs hsz v n xs hs hown ad m c news hx hr.1 ?_ h1 hn hby hb ?_
  ·intro j u hu
   rcases Nat.eq_zero_or_pos m with h0 | h0
   ·subst h0
    have hnews : news = [] := List.eq_nil_of_length_eq_zero (by simpa using hr.1)
    subst hnews
    simp at hu
   ·obtain ⟨b, o', e', _, hc⟩ := hr.2 h0
    injection e' with e'
    subst e'
    rw [add_flat]
    exact hc j u hu
  ·intro v' w' h2 h3 _ h5
   exact h v' w' h2 h3 h5
end
/-- a value that owns a row, as a slice that is read -/
theorem own_form {w : World} {base : Nat} {e : TypeId} {size : Nat} {v : Value} {n : Nat} {xs : List Value} (h : w.ownsRow base e size v n xs) :
 ∃ A c, v = .slice A n c ∧ n ≤ c ∧ c ≤ maxLen ∧ (A = none → n = 0 ∧ c = 0) ∧ Rd w w.heap.size size A n xs := by
 rcases h.2 with ⟨rfl, rfl⟩ | ⟨g, cap, cur, rfl, hb, hh, h1, h2, _⟩
 ·have : xs = [] := List.eq_nil_of_length_eq_zero (by simpa using h.1)
  subst this
  exact ⟨none, 0, rfl, by omega, by unfold maxLen; omega, by simp, Rd.nil_ _ _ _ _⟩
 ·exact ⟨_, cap, rfl, h1, h2, by simp, Rd.of_own h⟩
theorem own_ge {w : World} {base : Nat} {e : TypeId} {size : Nat} {v : Value} {n : Nat} {xs : List Value} (h : w.ownsRow base e size v n xs) : ∀ k, v.ownBlock = some k → base ≤ k := by
 intro k hk
 rcases h.2 with ⟨rfl, _⟩ | ⟨g, cap, cur, rfl, hb, _⟩
 ·simp [Value.ownBlock] at hk
 ·simp [Value.ownBlock] at hk; omega
theorem own_below {w w' : World} {base : Nat} {e : TypeId} {size : Nat} {v : Value} {n : Nat} {xs : List Value} (h : w.ownsRow base e size v n xs) (hb : Below w.heap.size w w') : w'.ownsRow base e size v n xs := by
 obtain ⟨h1, h2⟩ := h
 refine ⟨h1, ?_⟩
 rcases h2 with h2 | ⟨g, cap, cur, hv, hg, hh, r⟩
 ·exact .inl h2
 ·exact .inr ⟨g, cap, cur, hv, hg, (hb.block g (Array.getElem?_eq_some_iff.1 hh).1).trans hh, r⟩
theorem own_base {w : World} {base base' : Nat} {e : TypeId} {size : Nat} {v : Value} {n : Nat} {xs : List Value} (h : w.ownsRow base e size v n xs) (hb : base' ≤ base) : w.ownsRow base' e size v n xs := by
 obtain ⟨h1, h2⟩ := h
 refine ⟨h1, ?_⟩
 rcases h2 with h2 | ⟨g, cap, cur, hv, hg, r⟩
 ·exact .inl h2
 ·exact .inr ⟨g, cap, cur, hv, Nat.le_trans hb hg, r⟩
/-- an owned row written on from a world in between -/
theorem below_own {a w w1 : World} {v : Value} {base : Nat} {e : TypeId} {size n : Nat} {xs : List Value} {B : Nat} (hb : Below B a w) (hown : w.ownsRow base e size v n xs) (hg : w.grownBy w1 v.ownBlock) (hB : B ≤ w.heap.size) (hbase : B ≤ base) : Below B a w1 :=
 hb.grown hg hB (fun k hk => Nat.le_trans hbase (own_ge hown k hk))
/-- a set of marks -/
structure Mk where
 (m0 m1 m2 m3 m4 m5 m6 m7 : Int)
deriving Inhabited, DecidableEq
def Mk.cells (x : Mk) : List Value := [.int .u16 x.m0, .int .u16 x.m1, .int .u16 x.m2, .int .u16 x.m3, .int .u16 x.m4, .int .u16 x.m5, .int .u16 x.m6, .int .u16 x.m7]
/-- a token -/
structure Tok where
 (k t a r : Int)
 m : Mk
deriving Inhabited, DecidableEq
def Tok.cells (x : Tok) : List Value := .int .i64 x.k :: .int .i64 x.t :: .int .i64 x.a :: .int .i32 x.r :: x.m.cells
def mks (l : List Mk) : List Value := l.flatMap Mk.cells
def toks (l : List Tok) : List Value := l.flatMap Tok.cells
def mkB (a b : Mk) : Bool := decide (a = b)
def tokB (a b : Tok) : Bool := decide (a = b)
theorem info_u16 : (Tryz.prog.info? 122).map (fun i => (i.zero, i.size, i.bytes)) = some (some (.int .u16 0), 1, 2) := by kernel_rfl
theorem eq_mk (d : Nat) (a b : Mk) (w : World) : (Op.equalIn (d + 2) 124 (.agg a.cells.toArray) (.agg b.cells.toArray)).run Tryz.prog w = .ok (decide (a = b)) w := by
 have u3 := Tryz.underlying122
 have z3 := Tryz.sizeOf122
 obtain ⟨i0, hi, _, _, _⟩ := info_parts info_u16
 rw [run_equalIn_array w (d + 1) _ _ (show Tryz.prog.underlying 124 = some (.array 8 122) by kernel_rfl) hi]
 have hc : Tryz.prog.cellsOf 122 = 1 := by kernel_rfl
 rw [hc]
 rw [show List.range 8 = [0, 1, 2, 3, 4, 5, 6, 7] from rfl]
 have a3 := Tryz.isAgg122
 simp only [Mk.cells, Op.eqItems]
 go_simp
 obtain ⟨a0, a1, a2, a3, a4, a5, a6, a7⟩ := a
 obtain ⟨b0, b1, b2, b3, b4, b5, b6, b7⟩ := b
 simp only [Mk.mk.injEq]
 repeat' split
 all_goals simp_all
@[go_sem] theorem eq_mk_at (a0 a1 a2 a3 a4 a5 a6 a7 b0 b1 b2 b3 b4 b5 b6 b7 : Int) (w : World) : (Op.equalIn 10000 124 (.agg #[.int .u16 a0, .int .u16 a1, .int .u16 a2, .int .u16 a3, .int .u16 a4, .int .u16 a5, .int .u16 a6, .int .u16 a7]) (.agg #[.int .u16 b0, .int .u16 b1, .int .u16 b2, .int .u16 b3, .int .u16 b4, .int .u16 b5, .int .u16 b6, .int .u16 b7])).run Tryz.prog w = .ok (mkB (Mk.mk a0 a1 a2 a3 a4 a5 a6 a7) (Mk.mk b0 b1 b2 b3 b4 b5 b6 b7)) w := eq_mk 9998 ⟨a0, a1, a2, a3, a4, a5, a6, a7⟩ ⟨b0, b1, b2, b3, b4, b5, b6, b7⟩ w
@[go_sem] theorem eq_mk_in (a0 a1 a2 a3 a4 a5 a6 a7 b0 b1 b2 b3 b4 b5 b6 b7 : Int) (w : World) : (Op.equalIn 9999 124 (.agg #[.int .u16 a0, .int .u16 a1, .int .u16 a2, .int .u16 a3, .int .u16 a4, .int .u16 a5, .int .u16 a6, .int .u16 a7]) (.agg #[.int .u16 b0, .int .u16 b1, .int .u16 b2, .int .u16 b3, .int .u16 b4, .int .u16 b5, .int .u16 b6, .int .u16 b7])).run Tryz.prog w = .ok (decide (Mk.mk a0 a1 a2 a3 a4 a5 a6 a7 = Mk.mk b0 b1 b2 b3 b4 b5 b6 b7)) w := eq_mk 9997 ⟨a0, a1, a2, a3, a4, a5, a6, a7⟩ ⟨b0, b1, b2, b3, b4, b5, b6, b7⟩ w
theorem eq_tok (a b : Tok) (w : World) : (Op.equalIn 10000 126 (.agg a.cells.toArray) (.agg b.cells.toArray)).run Tryz.prog w = .ok (decide (a = b)) w := by
 have u1 := Tryz.underlying3
 have a1 := Tryz.isAgg3
 have z1 := Tryz.sizeOf3
 have u2 := Tryz.underlying21
 have a2 := Tryz.isAgg21
 have z2 := Tryz.sizeOf21
 have u4 := Tryz.underlying124
 have a4 := Tryz.isAgg124
 have z4 := Tryz.sizeOf124
 have hS : Tryz.prog.underlying 126 = some (.struct (Tryz.prog.fieldsOf 126)) := by kernel_rfl
 have hp : Tryz.prog.stoodInHeld 126 = false := by kernel_rfl
 rw [show (10000 : Nat) = 9999 + 1 from rfl, run_equalIn_agg w 9999 126 _ _ hS hp]
 simp only [Program.fieldsOf, Tryz.underlying126, Tok.cells, Mk.cells]
 go_simp
 obtain ⟨a0, a1, a2, a3, x0, x1, x2, x3, x4, x5, x6, x7⟩ := a
 obtain ⟨b0, b1, b2, b3, y0, y1, y2, y3, y4, y5, y6, y7⟩ := b
 simp only [Tok.mk.injEq, Mk.mk.injEq]
 clear u1 z1 u2 z2 u4 a4 z4 hS hp
 repeat' split
 all_goals simp_all
@[go_sem] theorem eq_tok_at (x0 x1 x2 x3 x4 x5 x6 x7 x8 x9 x10 x11 y0 y1 y2 y3 y4 y5 y6 y7 y8 y9 y10 y11 : Int) (w : World) : (Op.equalIn 10000 126 (.agg #[.int .i64 x0, .int .i64 x1, .int .i64 x2, .int .i32 x3, .int .u16 x4, .int .u16 x5, .int .u16 x6, .int .u16 x7, .int .u16 x8, .int .u16 x9, .int .u16 x10, .int .u16 x11]) (.agg #[.int .i64 y0, .int .i64 y1, .int .i64 y2, .int .i32 y3, .int .u16 y4, .int .u16 y5, .int .u16 y6, .int .u16 y7, .int .u16 y8, .int .u16 y9, .int .u16 y10, .int .u16 y11])).run Tryz.prog w = .ok (tokB (Tok.mk x0 x1 x2 x3 ⟨x4, x5, x6, x7, x8, x9, x10, x11⟩) (Tok.mk y0 y1 y2 y3 ⟨y4, y5, y6, y7, y8, y9, y10, y11⟩)) w := eq_tok (Tok.mk x0 x1 x2 x3 ⟨x4, x5, x6, x7, x8, x9, x10, x11⟩) (Tok.mk y0 y1 y2 y3 ⟨y4, y5, y6, y7, y8, y9, y10, y11⟩) w
@[go_sem] theorem guard_tok : Tryz.prog.eqGuardType Tryz.prog.depth 126 = false := by kernel_rfl
@[go_sem] theorem guard_mk : Tryz.prog.eqGuardType Tryz.prog.depth 124 = false := by kernel_rfl
theorem mks_len (l : List Mk) : (mks l).length = l.length * 8 := by
 induction l with
 | nil => rfl
 | cons r l ih => simp only [mks, List.flatMap_cons, List.length_append] at *; rw [ih]; simp [Mk.cells]; omega
theorem toks_len (l : List Tok) : (toks l).length = l.length * 12 := by
 induction l with
 | nil => rfl
 | cons r l ih => simp only [toks, List.flatMap_cons, List.length_append] at *; rw [ih]; simp [Tok.cells, Mk.cells]; omega
theorem flat_at {α : Type} {s : Nat} (f : α → List Value) (hf : ∀ x, (f x).length = s) {l : List α} {k : Nat} {x : α} (h : l[k]? = some x) (i : Nat) (hi : i < s) : (l.flatMap f)[k * s + i]? = (f x)[i]? := by
 induction l generalizing k with
 | nil => simp at h
 | cons y l ih =>
   rw [List.flatMap_cons]
   cases k with
   | zero =>
     simp at h; subst h
     rw [List.getElem?_append_left (by rw [hf]; omega)]
     simp
   | succ k =>
     rw [List.getElem?_append_right (by rw [hf, Nat.add_mul]; omega), hf]
     rw [← ih (k := k) (by simpa using h)]
     congr 1
     rw [Nat.add_mul]; omega
theorem Rd.mlen {w : World} {B : Nat} {A : Option Addr} {n : Nat} {l : List Mk} (h : Rd w B 8 A n (mks l)) : l.length = n := by
 have := h.1
 rw [mks_len] at this
 omega
theorem Rd.tlen {w : World} {B : Nat} {A : Option Addr} {n : Nat} {l : List Tok} (h : Rd w B 12 A n (toks l)) : l.length = n := by
 have := h.1
 rw [toks_len] at this
 omega
/-- the cells of one element -/
theorem Rd.el {α : Type} {s : Nat} (f : α → List Value) (hf : ∀ x, (f x).length = s) {w : World} {B n : Nat} {A : Option Addr} {l : List α} {k : Nat} {x : α} (h : Rd w B s A n (l.flatMap f)) (hl : l.length = n) (hk : l[k]? = some x) :
 ∃ b o, A = some ⟨b, o, none⟩ ∧ b < B ∧ ∀ i, i < s → w.cell? ⟨b, o + k * s + i, none⟩ = (f x)[i]? := by
 have hkl := (List.getElem?_eq_some_iff.1 hk).1
 obtain ⟨b, o, e, hb, hc⟩ := h.2 (by omega)
 refine ⟨b, o, e, hb, fun i hi => ?_⟩
 have hg := flat_at f hf hk i hi
 obtain ⟨u, hu⟩ : ∃ u, (f x)[i]? = some u := ⟨_, List.getElem?_eq_getElem (by rw [hf]; exact hi)⟩
 rw [hu] at hg ⊢
 rw [Nat.add_assoc]
 exact hc _ _ hg
end Go.Proofs.YtmacfoebfpljoaaGreat
namespace Go.Proofs.YtmacfoebfpljoaaGreat
set_option linter.unusedVariables false
/-- marks that an event gave -/
structure Gv where
 (ev : Int)
 m : Mk
deriving Inhabited
/-- a token, and what was done to it -/
structure Ent where
 tok : Tok
 (lab made : Int)
 first : Bool
 (tk ov : List Int)
 gv : List Gv
deriving Inhabited
section
variable (er : Int → Bool)
def thereB (e : Ent) : Bool := (e.first || !er e.made) && e.tk.all er
def nowM (e : Ent) : Mk := e.gv.foldl (fun m g => if er g.ev then m else g.m) e.tok.m
def nowT (e : Ent) : Tok := { e.tok with m := nowM er e }
/-- the tokens that are there -/
def view (l : List Ent) : List Tok := (l.filter (thereB er)).map (nowT er)
/-- is the token at a place taken? -/
def inTk (k f t g h : Nat) (p : Nat) : Bool := decide (f ≤ p ∧ p < t ∧ (k = 1 ∨ (k = 2 ∧ (p < g ∨ h ≤ p))))
/-- an entry behind a step that is done by an event -/
def updE (k f t g h : Nat) (ev : Int) (after : List Tok) (p : Nat) (e : Ent) : Ent :=
 if k ≤ 2 then (if inTk k f t g h p then { e with tk := e.tk ++ [ev] } else e)
 else if f ≤ p ∧ p < t then { e with ov := e.ov ++ [ev], gv := if (after.getD p default).m = nowM er e then e.gv else e.gv ++ [⟨ev, (after.getD p default).m⟩] } else e
def doE (fr to_ : Nat) (a b : List Ent) (u : Nat → Ent → Ent) : Nat → List Ent → List Ent
 | p, [] => (if p = fr then a else []) ++ (if p = to_ then b else [])
 | p, e :: l => if thereB er e then (if p = fr then a else []) ++ (if p = to_ then b else []) ++ u p e :: doE fr to_ a b u (p + 1) l else e :: doE fr to_ a b u p l
end
/-- the same of tokens -/
def doT (fr to_ : Nat) (a b : List Tok) (u : Nat → Tok → List Tok) : Nat → List Tok → List Tok
 | p, [] => (if p = fr then a else []) ++ (if p = to_ then b else [])
 | p, e :: l => (if p = fr then a else []) ++ (if p = to_ then b else []) ++ u p e ++ doT fr to_ a b u (p + 1) l
section
variable {er : Int → Bool}
theorem view_append (a b : List Ent) : view er (a ++ b) = view er a ++ view er b := by simp [view]
theorem view_cons (e : Ent) (l : List Ent) : view er (e :: l) = (if thereB er e then [nowT er e] else []) ++ view er l := by
 unfold view
 rw [List.filter_cons]
 split <;> simp
/-- whatever an erased event did isn't seen -/
theorem view_doE_erased (er' : Int → Bool) (ev : Int) (hev : er' ev = true) (fr to_ : Nat) (a b : List Ent) (u : Nat → Ent → Ent) (ha : view er' a = []) (hb : view er' b = [])
 (hu : ∀ p e, thereB er' (u p e) = thereB er' e ∧ nowT er' (u p e) = nowT er' e) : ∀ (l : List Ent) (p : Nat), view er' (doE er fr to_ a b u p l) = view er' l := by
 have hif : ∀ (c : Prop) [Decidable c] (x : List Ent), view er' x = [] → view er' (if c then x else []) = [] := by
  intro c _ x hx
  split
  ·exact hx
  ·rfl
 intro l
 induction l with
 | nil => intro p; simp only [doE, view_append, hif _ _ ha, hif _ _ hb]; rfl
 | cons e l ih =>
   intro p
   simp only [doE]
   split
   ·rw [view_append, view_append, hif _ _ ha, hif _ _ hb, view_cons, (hu p e).1, (hu p e).2, ih, view_cons]; rfl
   ·rw [view_cons, ih, ← view_cons]
/-- what an event that isn't erased did -/
theorem view_doE (fr to_ : Nat) (a b : List Ent) (u : Nat → Ent → Ent) (ut : Nat → Tok → List Tok)
 (hu : ∀ p e, thereB er e = true → view er [u p e] = ut p (nowT er e)) : ∀ (l : List Ent) (p : Nat), view er (doE er fr to_ a b u p l) = doT fr to_ (view er a) (view er b) ut p (view er l) := by
 have hif : ∀ (c : Prop) [Decidable c] (x : List Ent), view er (if c then x else []) = if c then view er x else [] := by
  intro c _ x
  split <;> rfl
 intro l
 induction l with
 | nil => intro p; simp only [doE, view_append, hif]; rfl
 | cons e l ih =>
   intro p
   simp only [doE]
   split
   ·rename_i ht
    rw [view_append, view_append, hif, hif, view_cons e l, if_pos ht, ← List.singleton_append (x := u p e), view_append, ih, hu p e ht]
    simp only [List.singleton_append, doT, List.append_assoc]
   ·rename_i ht
    rw [view_cons, view_cons, ih, if_neg ht]
    rfl
end
/-- what a step makes of tokens: k its kind, m the marks of those from f to t -/
def doesL (k f t g h i : Nat) (sl : List Tok) (m : Nat → Mk) (l : List Tok) : List Tok :=
 if k = 1 then l.take f ++ sl ++ l.drop t
 else if k = 2 then l.take f ++ sl.take i ++ (l.take h).drop g ++ sl.drop i ++ l.drop t
 else l.mapIdx fun p x => if f ≤ p ∧ p < t then { x with m := m p } else x
theorem doT_keep (fr to_ : Nat) (a b : List Tok) (u : Nat → Tok → List Tok) (x : Nat) : ∀ (l : List Tok) (p : Nat), (∀ q y, p ≤ q → q < x → u q y = [y]) → (∀ q, p ≤ q → q < x → q ≠ fr ∧ q ≠ to_) → x ≤ p + l.length →
 p ≤ x → doT fr to_ a b u p l = l.take (x - p) ++ doT fr to_ a b u x (l.drop (x - p)) := by
 intro l
 induction l with
 | nil => intro p _ _ h1 h2; obtain rfl : x = p := by simp at h1; omega
          simp
 | cons e l ih =>
   intro p hu hne h1 h2
   by_cases hx : x = p
   ·subst hx; simp
   ·have h3 := hne p (Nat.le_refl _) (by omega)
    simp only [doT]
    rw [if_neg h3.1, if_neg h3.2, hu p e (Nat.le_refl _) (by omega), ih (p + 1) (fun q y hq => hu q y (by omega)) (fun q hq => hne q (by omega)) (by simp at h1; omega) (by omega)]
    obtain ⟨d, rfl⟩ : ∃ d, x = p + 1 + d := ⟨x - (p + 1), by omega⟩
    rw [show p + 1 + d - p = d + 1 by omega, show p + 1 + d - (p + 1) = d by omega]
    simp
theorem doT_drop (fr to_ : Nat) (a b : List Tok) (u : Nat → Tok → List Tok) (x : Nat) : ∀ (l : List Tok) (p : Nat), (∀ q y, p ≤ q → q < x → u q y = []) → (∀ q, p ≤ q → q < x → q ≠ fr ∧ q ≠ to_) → x ≤ p + l.length →
 p ≤ x → doT fr to_ a b u p l = doT fr to_ a b u x (l.drop (x - p)) := by
 intro l
 induction l with
 | nil => intro p _ _ h1 h2; obtain rfl : x = p := by simp at h1; omega
          simp
 | cons e l ih =>
   intro p hu hne h1 h2
   by_cases hx : x = p
   ·subst hx; simp
   ·have h3 := hne p (Nat.le_refl _) (by omega)
    simp only [doT]
    rw [if_neg h3.1, if_neg h3.2, hu p e (Nat.le_refl _) (by omega), ih (p + 1) (fun q y hq => hu q y (by omega)) (fun q hq => hne q (by omega)) (by simp at h1; omega) (by omega)]
    obtain ⟨d, rfl⟩ : ∃ d, x = p + 1 + d := ⟨x - (p + 1), by omega⟩
    rw [show p + 1 + d - p = d + 1 by omega, show p + 1 + d - (p + 1) = d by omega]
    simp
theorem doT_past (fr to_ : Nat) (a b : List Tok) (u : Nat → Tok → List Tok) : ∀ (l : List Tok) (p : Nat), (∀ q y, p ≤ q → u q y = [y]) → fr < p → to_ < p → doT fr to_ a b u p l = l := by
 intro l
 induction l with
 | nil => intro p _ h1 h2; simp only [doT]; rw [if_neg (by omega), if_neg (by omega)]; rfl
 | cons e l ih =>
   intro p hu h1 h2
   simp only [doT]
   rw [if_neg (by omega), if_neg (by omega), hu p e (Nat.le_refl _), ih (p + 1) (fun q y hq => hu q y (by omega)) (by omega) (by omega)]
   rfl
end Go.Proofs.YtmacfoebfpljoaaGreat
namespace Go.Proofs.YtmacfoebfpljoaaGreat
open Go.RowKit
theorem def_lt' {W : World} {D : Nat} {o : Obj} (h : W.heap[D]? = some o) : D < W.heap.size := (Array.getElem?_eq_some_iff.1 h).1
/-- the blocks from a to b read alike -/
def Mid (a b : Nat) (W W' : World) : Prop := ∀ k, a ≤ k → k < b → W'.heap[k]? = W.heap[k]?
theorem Mid.refl (a b : Nat) (W : World) : Mid a b W W := fun _ _ _ => rfl
theorem Mid.of_below {a b : Nat} {W W' : World} (h : Below b W W') : Mid a b W W' := fun k _ hk => h.block k hk
theorem Mid.trans {a b : Nat} {W1 W2 W3 : World} (h : Mid a b W1 W2) (k : Mid a b W2 W3) : Mid a b W1 W3 := fun i h1 h2 => (k i h1 h2).trans (h i h1 h2)
/-- a round of loop l, called at 'args' in W -/
abbrev RoundAt (P : Program) (l : Nat) (args : Array Value) (W : World) (R : Ending → World → Prop) : Prop := YieldAt Fence.wide 8 P l args W R
theorem ownFrom_ext {β : Type} {M : Nat} {I : β → World → Prop} (h : OwnFrom M I) {s : β} {A B : World} (hs : I s A) (hb : Below A.heap.size A B) : I s B :=
 h s A B none hs (gr_of_below hb) (fun r e => by cases e)
theorem below_putObj {W : World} {l B : Nat} {o : Obj} (hl : B ≤ l) : Below B W (W.putObj l o) :=
 ⟨rfl, rfl, rfl, by simp, fun k hk => World.putObj_heap_other (by omega)⟩
/-- a block known whole -/
abbrev Bk (W : World) (b : Nat) (t : TypeId) (cs : Array Value) : Prop := W.heap[b]? = some (.cells cs t (0, 0))
section kept
variable {A B w : World} {row : Option Nat} {M : Nat}
abbrev Turns (M : Nat) (A : World) (row : Option Nat) : Prop := ∀ r, row = some r → M ≤ r ∧ ∃ o : Obj, A.heap[r]? = some o ∧ o.isCells = false
theorem blk_kept {b : Nat} {t : TypeId} {cs : Array Value} (h : Bk A b t cs) (hg : A.grownBy B row) (hr : Turns M A row) : Bk B b t cs := by
 refine (hg.block b (def_lt' h) (fun e => ?_)).trans h
 obtain ⟨_, o, ho, hc⟩ := hr b e.symm
 have h' : A.heap[b]? = some (.cells cs t (0, 0)) := h
 rw [h'] at ho
 cases ho
 cases hc
theorem below_kept {B0 : Nat} (h : Below B0 w A) (hw : B0 ≤ w.heap.size) (hM : B0 ≤ M) (hg : A.grownBy B row) (hr : Turns M A row) : Below B0 w B :=
 h.grown hg (Nat.le_trans hw h.size) (fun k e => Nat.le_trans hM (hr k e).1)
theorem own_kept {base : Nat} {e : TypeId} {size : Nat} {v : Value} {n : Nat} {xs : List Value} (h : A.ownsRow base e size v n xs) (hg : A.grownBy B row) (hr : Turns M A row) : B.ownsRow base e size v n xs := by
 obtain ⟨h1, h2⟩ := h
 refine ⟨h1, ?_⟩
 rcases h2 with h2 | ⟨g, cap, cur, hv, hb, hh, r⟩
 ·exact .inl h2
 ·exact .inr ⟨g, cap, cur, hv, hb, blk_kept (cs := cur) hh hg hr, r⟩
end kept
theorem Bk.cell {W : World} {b : Nat} {t : TypeId} {cs : Array Value} (h : Bk W b t cs) (i : Nat) : W.cell? ⟨b, i, none⟩ = cs[i]? := cell_of_row W b i cs t (0, 0) h
theorem Bk.frozen {W : World} {b : Nat} {t : TypeId} {cs : Array Value} (h : Bk W b t cs) (i : Nat) : W.frozen? ⟨b, i, none⟩ = false := by
 have h' : W.heap[b]? = some (.cells cs t (0, 0)) := h
 simp [World.frozen?, h']
theorem Bk.new (W : World) (t : TypeId) (cs : Array Value) : Bk (W.alloc (.cells cs t)) W.heap.size t cs := heap_alloc_new W _
theorem Bk.alloc {W : World} {b : Nat} {t : TypeId} {cs : Array Value} (h : Bk W b t cs) (o : Obj) : Bk (W.alloc o) b t cs := (Below.heap_alloc W o b (def_lt' h)).trans h
theorem Bk.drew {W : World} {b : Nat} {t : TypeId} {cs : Array Value} (h : Bk W b t cs) : Bk W.drew b t cs := h
theorem Bk.drewN {W : World} {b : Nat} {t : TypeId} {cs : Array Value} (h : Bk W b t cs) (n : Nat) : Bk (W.drewN n) b t cs := h
theorem Bk.ext {W W' : World} {b : Nat} {t : TypeId} {cs : Array Value} (h : Bk W b t cs) (hb : Below W.heap.size W W') : Bk W' b t cs := (hb.block b (def_lt' h)).trans h
theorem Bk.set_ {W : World} {b : Nat} {t : TypeId} {cs : Array Value} (h : Bk W b t cs) (i : Nat) (u : Value) : Bk (W.setCell ⟨b, i, none⟩ u) b t (cs.setIfInBounds i u) := by
 have h' : W.heap[b]? = some (.cells cs t (0, 0)) := h
 show (W.setCell _ u).heap[b]? = _
 simp [World.setCell, Array.getElem?_modify, h']
theorem Bk.far {W : World} {b : Nat} {t : TypeId} {cs : Array Value} (h : Bk W b t cs) {p : Addr} (hp : b ≠ p.block) (u : Value) : Bk (W.setCell p u) b t cs := (Below.heap_setCell W p u b hp).trans h
theorem Bk.grown {W W' : World} {b : Nat} {t : TypeId} {cs : Array Value} {row : Option Nat} (h : Bk W b t cs) (hg : W.grownBy W' row) (hne : row ≠ some b) : Bk W' b t cs := (hg.block b (def_lt' h) (fun e => hne e.symm)).trans h
theorem Mid.set_ {a b : Nat} {W W' : World} (h : Mid a b W W') {p : Addr} (hp : p.block < a) (u : Value) : Mid a b W (W'.setCell p u) := fun k h1 h2 => (Below.heap_setCell W' p u k (by omega)).trans (h k h1 h2)
theorem Mid.alloc {a b : Nat} {W W' : World} (h : Mid a b W W') (hb : b ≤ W'.heap.size) (o : Obj) : Mid a b W (W'.alloc o) := fun k h1 h2 => (Below.heap_alloc W' o k (by omega)).trans (h k h1 h2)
theorem Mid.drew {a b : Nat} {W W' : World} (h : Mid a b W W') : Mid a b W W'.drew := h
theorem Mid.keeps {a : Nat} {W W' : World} (h : Mid a W.heap.size W W') (hs : W.heap.size ≤ W'.heap.size) : KeepsFrom a W W' := ⟨hs, fun k _ h1 h2 _ => (h k h1 (def_lt' h2)).trans h2⟩
theorem bk10 {w : World} {b : Nat} {t : TypeId} {x0 x1 x2 x3 x4 x5 x6 x7 x8 x9 : Value} (k : Bk w b t #[x0, x1, x2, x3, x4, x5, x6, x7, x8, x9]) : w.cell? ⟨b, 0, none⟩ = some x0 ∧ w.cell? ⟨b, 1, none⟩ = some x1 ∧ w.cell? ⟨b, 2, none⟩ = some x2 ∧ w.cell? ⟨b, 3, none⟩ = some x3 ∧ w.cell? ⟨b, 4, none⟩ = some x4 ∧ w.cell? ⟨b, 5, none⟩ = some x5 ∧ w.cell? ⟨b, 6, none⟩ = some x6 ∧ w.cell? ⟨b, 7, none⟩ = some x7 ∧ w.cell? ⟨b, 8, none⟩ = some x8 ∧ w.cell? ⟨b, 9, none⟩ = some x9 :=
 ⟨k.cell 0, k.cell 1, k.cell 2, k.cell 3, k.cell 4, k.cell 5, k.cell 6, k.cell 7, k.cell 8, k.cell 9⟩
section
variable {P : Program} {ops : Array Oper} {Q : Exit → Act → World → Prop} {md : Region.Mode} {l n : Nat}
/-- no operation defers -/
def noDefer (ops : Array Oper) : Bool := ops.all fun (o : Oper) => match o.op with | Op.defer _ => false | _ => true
theorem noDefer_spec (h : noDefer ops = true) : ∀ (i : Nat) (o : Oper), ops[i]? = some o → ∀ c, o.op ≠ .defer c := by
 intro i (o : Oper) hi c hc
 obtain ⟨hlt, rfl⟩ := Array.getElem?_eq_some_iff.1 hi
 have := Array.all_eq_true.1 h i hlt
 rw [hc] at this
 cases this
theorem wp_round {o : Oper} {a : Act} {w : World} {K : Act → World → Prop} (hd : ∀ c, o.op ≠ .defer c) (h : o.wp P a w K Q) : o.wpIn (Fence.wide.inRound l) n P a w K Q := by
 refine ⟨fun _ _ => trivial, ?_⟩
 have e : o.semAt (Fence.wide.inRound l).round a.eval = execOp a.eval o := Oper.semAt_plain _ _ _ hd
 rw [e]
 unfold Oper.wp at h
 generalize (execOp a.eval o).run P w = r at *
 have hdep : ∀ {p : Prop}, (Fence.wide.inRound l).depth.isSome = true → p := fun h => by simp [Fence.wide] at h
 cases r with
 | ok x w' =>
   cases x <;> simp only [Oper.upon] at h <;> simp only [Oper.uponIn]
   case value => exact h
   case skip => exact h
   case defer => exact h
   case enter f args => exact ⟨hdep, CallsIn.inRound l (callsIn_wide.2 h)⟩
   case row row args => exact ⟨hdep, fun c cs _ => let ⟨v, w'', r, s⟩ := h c cs; ⟨v, w'', r, stepsIn_wide.2 s⟩⟩
 | halt x w' => cases x <;> simp only [Oper.upon] at h <;> simp only [Oper.uponIn] <;> exact h
theorem wpAny_round (hno : ¬ LetsOut Q) (hd : noDefer ops = true) : ∀ (fuel : Nat) (listed : Array Bool) (a : Act) (w : World), wpAny P md ops Q fuel listed a w → wpAnyIn (Fence.wide.inRound l) n P md ops Q fuel listed a w := by
 intro fuel
 induction fuel with
 | zero => intro listed a w h; exact h
 | succ fuel ih =>
   intro listed a w h
   refine ⟨h.1, fun i hi => ?_⟩
   have h2 := h.2 i hi
   refine wpOpIn_mono (ih _) ?_
   unfold wpOp at h2
   unfold wpOpIn
   cases ho : ops[i]? with
   | none => simp only [ho] at h2 ⊢; exact h2
   | some o =>
     simp only [ho] at h2 ⊢
     by_cases hw : Region.wanted o (yielded ops a.tmps) = true
     ·rw [if_pos hw] at h2 ⊢
      rcases h2 with h2 | ⟨_, h2⟩
      ·exact wp_round (noDefer_spec hd i o ho) h2
      ·exact absurd h2 hno
     ·rw [if_neg hw] at h2 ⊢
      exact ⟨fun _ _ => trivial, h2⟩
variable {S : World → Prop}
/-- operation i is taken first -/
theorem take_if {i : Nat} {oi : Oper} {v : Value} {fuel : Nat} {listed : Array Bool} {a : Act} {w : World} (hi : ops[i]? = some oi)
 (hs : Region.noSelect ops = true) (hf : Region.free md ops listed i = true) (hr : (Region.ready md ops listed).contains i = true)
 (hQ : ∀ c a w, Q (.panic c) (a.put oi.dst v) w → Q (.panic c) a w) (hw : Region.wanted oi (yielded ops a.tmps) = true) (hy : ∀ w, S w → (execOp a.eval oi).run P w = .ok (.value v) w) (hS : S w)
 (h : wpAnyH P md ops Q S fuel (listed.setIfInBounds i true) (a.put oi.dst v) w) : wpAnyH P md ops Q S (fuel + 1) listed a w :=
 wpAnyH_take hi hs hf hr hQ (.inl ⟨hw, hy⟩) hS h
/-- operation i is not wanted -/
theorem take_not {i : Nat} {oi : Oper} {fuel : Nat} {listed : Array Bool} {a : Act} {w : World} (hi : ops[i]? = some oi)
 (hs : Region.noSelect ops = true) (hf : Region.free md ops listed i = true) (hr : (Region.ready md ops listed).contains i = true)
 (hQ : ∀ c a w, Q (.panic c) (a.put oi.dst undef) w → Q (.panic c) a w) (hw : Region.wanted oi (yielded ops a.tmps) = false) (hS : S w)
 (h : wpAnyH P md ops Q S fuel (listed.setIfInBounds i true) (a.put oi.dst undef) w) : wpAnyH P md ops Q S (fuel + 1) listed a w :=
 wpAnyH_take hi hs hf hr hQ (.inr ⟨hw, rfl⟩) hS h
theorem tkH (i : Nat) {oi : Oper} {v : Value} {fuel : Nat} {listed : Array Bool} {a a' : Act} {w : World} (h : wpAnyH P md ops Q S fuel (listed.setIfInBounds i true) a' w) (hi : ops[i]? = some oi := by simp only [List.getElem?_toArray, List.getElem?_cons_succ, List.getElem?_cons_zero]; rfl)
 (hs : Region.noSelect ops = true := by kernel_rfl) (hf : Region.free md ops listed i = true := by kernel_rfl) (hr : (Region.ready md ops listed).contains i = true := by kernel_rfl)
 (hQ : ∀ c a w, Q (.panic c) (a.put oi.dst v) w → Q (.panic c) a w := by exact fun _ _ _ h => h) (hw : Region.wanted oi (yielded ops a.tmps) = true := by rfl)
 (hy : ∀ w, S w → (execOp a.eval oi).run P w = .ok (.value v) w := by (focus ((intro w hSw; (try have hSw := HF.out _ hSw); (try dsimp only at hSw); go_simp); try exact rfl)))
 (hS : S w := by assumption)
 (ha : a.put oi.dst v = a' := by (simp only [Act.put, List.setIfInBounds_toArray, List.set_cons_zero, List.set_cons_succ]; rfl)) : wpAnyH P md ops Q S (fuel + 1) listed a w := by
 subst ha
 exact take_if hi hs hf hr hQ hw hy hS h
theorem tnH (i : Nat) {oi : Oper} {fuel : Nat} {listed : Array Bool} {a a' : Act} {w : World} (h : wpAnyH P md ops Q S fuel (listed.setIfInBounds i true) a' w) (hi : ops[i]? = some oi := by simp only [List.getElem?_toArray, List.getElem?_cons_succ, List.getElem?_cons_zero]; rfl)
 (hs : Region.noSelect ops = true := by kernel_rfl) (hf : Region.free md ops listed i = true := by kernel_rfl) (hr : (Region.ready md ops listed).contains i = true := by kernel_rfl)
 (hQ : ∀ c a w, Q (.panic c) (a.put oi.dst undef) w → Q (.panic c) a w := by exact fun _ _ _ h => h) (hw : Region.wanted oi (yielded ops a.tmps) = false := by rfl)
 (hS : S w := by assumption)
 (ha : a.put oi.dst undef = a' := by (simp only [Act.put, List.setIfInBounds_toArray, List.set_cons_zero, List.set_cons_succ]; rfl)) : wpAnyH P md ops Q S (fuel + 1) listed a w := by
 subst ha
 exact take_not hi hs hf hr hQ hw hS h
theorem nxH (i : Nat) {o : Oper} {fuel : Nat} {listed : Array Bool} {a : Act} {w : World}
 (h : ∀ K : Act → World → Prop, Shut (∀ a w, S w → (S w → wpAnyH P md ops Q S fuel (listed.setIfInBounds i true) a w) → K a w) → if Region.wanted o (yielded ops a.tmps) = true then Oper.wp P o a w K Q else K (a.put o.dst undef) w)
 (hr : Region.ready md ops listed = [i] := by kernel_rfl) (ho : ops[i]? = some o := by simp only [List.getElem?_toArray, List.getElem?_cons_succ, List.getElem?_cons_zero]; rfl) : wpAnyH P md ops Q S (fuel + 1) listed a w :=
 wpAnyH_ready hr (by simp) (AllReadyH.cons ho h AllReadyH.nil)
end
section
variable {P : Program}
/-- append of one element, whose cells lie in a block that is known whole, onto an owned row: at a step of a region that draws -/
theorem app_at_step {ops : Array Oper} {o : Oper} {a : Act} {K : Act → World → Prop} {Q : Exit → Act → World → Prop} {E : Prop} {t e : TypeId} {z : Value} {size bytes : Nat}
 (ht : P.underlying t = some (.slice e)) (hinfo : (P.info? e).map (fun i => (i.zero, i.size, i.bytes)) = some (some z, size, bytes)) (hzs : z.cells.size = size) (hsz : 0 < size)
 {w : World} (base : Nat) (v : Value) (n : Nat) (xs : List Value) (hown : w.ownsRow base e size v n xs) (hn : n + 1 ≤ maxLen) (hby : (n + 1) * bytes ≤ 140737488355328) (hb : base ≤ w.heap.size)
 (B : Nat) (news : Array Value) (hB : Bk w B e news) (hl : news.size = size) (h1 : ∀ u ∈ news.toList, u.oneCell' = true)
 (hgd : o.guard = none) (s x : Operand) (ho : o.op = .call { callee := .builtin .append, args := #[s, x], argTypes := #[t, t] })
 (hs : a.eval s = v) (hx : a.eval x = .slice (some ⟨B, 0, none⟩) 1 1)
 (h : ∀ g cap w', w'.ownsRow base e size (.slice (some ⟨g, 0, none⟩) (n + 1) cap) (n + 1) (xs ++ news.toList) → w.grownBy w' v.ownBlock → (v.ownBlock = some g ∨ g = w.heap.size) → g < w'.heap.size →
  K (a.put o.dst (.slice (some ⟨g, 0, none⟩) (n + 1) cap)) w') :
 if Region.wanted o (yielded ops a.tmps) = true then Oper.wp P o a w K Q else E := by
 obtain ⟨i0, hi, hz0, hz1, hz2⟩ := info_parts hinfo
 refine step_append_lies _ hgd s x t ho base e i0 z size bytes ht hi hz0 hz1 hz2 hzs hsz v n xs hs hown ⟨B, 0, none⟩ 1 1 news.toList hx (by simp [hl]) ?_ h1 (by omega) hn hby hb _ rfl h
 intro j u hu
 rw [show (({ block := B, off := 0 } : Addr).add j) = ⟨B, j, none⟩ from by unfold Addr.add; split <;> simp_all]
 rw [cell_of_row _ _ _ _ _ _ hB]
 simpa using hu
end
theorem own_ne {W : World} {base : Nat} {e : TypeId} {size : Nat} {v : Value} {n : Nat} {xs : List Value} {b : Nat} {t : TypeId} {cs : Array Value} (h : W.ownsRow base e size v n xs) (hb : Bk W b t cs) (hne : e ≠ t) : v.ownBlock ≠ some b := by
 intro hv
 rcases h.2 with ⟨rfl, _⟩ | ⟨g, cap, cur, rfl, _, hh, _⟩
 ·simp [Value.ownBlock] at hv
 ·simp [Value.ownBlock] at hv
  subst hv
  have hb' : W.heap[g]? = some (.cells cs t (0, 0)) := hb
  rw [hh] at hb'
  injection hb' with hb'
  injection hb' with _ e2
  exact hne e2
theorem own_lt {W : World} {base : Nat} {e : TypeId} {size : Nat} {v : Value} {n : Nat} {xs : List Value} (h : W.ownsRow base e size v n xs) : ∀ j, v.ownBlock = some j → j < W.heap.size := by
 intro j hv
 rcases h.2 with ⟨rfl, _⟩ | ⟨g, cap, cur, rfl, _, hh, _⟩
 ·simp [Value.ownBlock] at hv
 ·simp [Value.ownBlock] at hv
  subst hv
  exact def_lt' hh
theorem own_cells {W : World} {base : Nat} {e : TypeId} {size : Nat} {v : Value} {n : Nat} {xs : List Value} (h : W.ownsRow base e size v n xs) : ∀ (j : Nat) (o : Obj), v.ownBlock = some j → W.heap[j]? = some o → o.isCells = true := by
 intro j o hv ho
 rcases h.2 with ⟨rfl, _⟩ | ⟨g, cap, cur, rfl, _, hh, _⟩
 ·simp [Value.ownBlock] at hv
 ·simp [Value.ownBlock] at hv
  subst hv
  rw [hh] at ho
  injection ho with ho
  subst ho
  rfl
theorem own_put {W : World} {base : Nat} {e : TypeId} {size : Nat} {v : Value} {n : Nat} {xs : List Value} {D : Nat} {o : Obj} (h : W.ownsRow base e size v n xs) (hD : W.heap[D]? = some o) (ho : o.isCells = false) (o' : Obj) : (W.putObj D o').ownsRow base e size v n xs :=
 own_kept (M := 0) h (grownBy_putObj' W D o') (fun r e => by cases e; exact ⟨Nat.zero_le _, o, hD, ho⟩)
/-- behind an append in a round -/
theorem mid_grown {W0 W2 W' : World} {row : Option Nat} (hg : W2.grownBy W' row) (hr : ∀ j, row = some j → j < W0.heap.size) : Mid W0.heap.size W2.heap.size W2 W' := fun k h1 h2 => hg.block k h2 (fun e => by have := hr k e.symm; omega)
theorem Bk.made {W : World} {b : Nat} (t : TypeId) (cs : Array Value) (h : W.heap.size = b) : Bk (W.alloc (.cells cs t)) b t cs := by subst h; exact Bk.new W t cs
structure Rg where
 at_ : Int
 old : Int
 new : Int
deriving DecidableEq
def Rg.cells (r : Rg) : List Value := [.int .i64 r.at_, .int .i64 r.old, .int .i64 r.new]
def rgs (l : List Rg) : List Value := l.flatMap Rg.cells
theorem rgs_len (l : List Rg) : (rgs l).length = l.length * 3 := by
 induction l with
 | nil => rfl
 | cons r l ih => simp only [rgs, List.flatMap_cons, List.length_append] at *; rw [ih]; simp [Rg.cells]; omega
theorem rgs_get {l : List Rg} {k : Nat} {r : Rg} (h : l[k]? = some r) (i : Nat) (hi : i < 3) : (rgs l)[k * 3 + i]? = r.cells[i]? := by
 induction l generalizing k with
 | nil => simp at h
 | cons x l ih =>
   have e : rgs (x :: l) = x.cells ++ rgs l := rfl
   rw [e]
   cases k with
   | zero =>
     simp at h; subst h
     rw [List.getElem?_append_left (by simp [Rg.cells]; omega)]
     simp
   | succ k =>
     rw [List.getElem?_append_right (by simp [Rg.cells]; omega)]
     have := ih (k := k) (by simpa using h)
     rw [← this]
     congr 1
     simp [Rg.cells]; omega
theorem Rd.rlen {w : World} {B : Nat} {A : Option Addr} {n : Nat} {l : List Rg} (h : Rd w B 3 A n (rgs l)) : l.length = n := by
 have := h.1
 rw [rgs_len] at this
 omega
theorem Rd.rg {w : World} {B b o n : Nat} {l : List Rg} {k : Nat} {r : Rg} (h : Rd w B 3 (some ⟨b, o, none⟩) n (rgs l)) (hk : l[k]? = some r) :
 w.cell? ⟨b, o + k * 3, none⟩ = some (.int .i64 r.at_) ∧ w.cell? ⟨b, o + k * 3 + 1, none⟩ = some (.int .i64 r.old) ∧ w.cell? ⟨b, o + k * 3 + 2, none⟩ = some (.int .i64 r.new) ∧ b < B := by
 have hl := h.rlen
 have hkl := (List.getElem?_eq_some_iff.1 hk).1
 obtain ⟨b', o', e, hb, hc⟩ := h.2 (by omega)
 injection e with e; injection e with e1 e2
 subst e1; subst e2
 have q := fun i hi u hu => hc (k * 3 + i) u ((rgs_get hk i hi).trans hu)
 exact ⟨by have := q 0 (by omega) _ rfl; simpa using this, by have := q 1 (by omega) _ rfl; rw [Nat.add_assoc]; exact this, by have := q 2 (by omega) _ rfl; rw [Nat.add_assoc]; exact this, hb⟩
def inB (n : Int) : Bool := decide (0 ≤ n ∧ n ≤ 1073741824)
theorem in_any (n : Int) (w : World) :
 Calls Tryz.prog 136 #[.int .i64 n] w fun e w' => e = .returned (.bool (inB n)) ∧ w = w' := by
 go_enter Tryz.func136, Tryz.ntmps136
 go_wp2
 all_goals go_ret
 all_goals exact ⟨ret_bool (by rw [Bool.eq_iff_iff]; simp [inB]; try omega), rfl⟩
theorem inB_bd {n : Int} (h : inB n = true) : 0 ≤ n ∧ n ≤ 1073741824 := by simpa [inB] using h
def rightFrom (e : Int) : List Rg → Bool
 | [] => true
 | r :: t => inB r.at_ && inB r.old && inB r.new && decide (e < r.at_) && rightFrom (r.at_ + r.old) t
def rightM (l : List Rg) : Bool := decide (l.length ≤ 1000) && rightFrom (-1) l
theorem drop_cons {α : Type} {l : List α} {k : Nat} {x : α} (h : l[k]? = some x) : l.drop k = x :: l.drop (k + 1) := by
 obtain ⟨hlt, rfl⟩ := List.getElem?_eq_some_iff.1 h
 exact List.drop_eq_getElem_cons hlt
theorem right_any (A : Option Addr) (n c : Nat) (l : List Rg) (w : World) (hn : n ≤ maxLen) (h : n ≤ 1000 → Rd w w.heap.size 3 A n (rgs l)) (hl : l.length = n) :
 Calls Tryz.prog 80 #[.slice A n c] w fun e w' => e = .returned (.bool (rightM l)) ∧ Below w.heap.size w w' := by
 unfold maxLen at hn
 by_cases hbig : 1000 < n
 ·have hr : rightM l = false := by unfold rightM; rw [decide_eq_false (by omega)]; rfl
  rw [hr]
  clear h
  go_enter Tryz.func80, Tryz.ntmps80
  go_wp2
  go_ret
  exact ⟨rfl, Below.refl _ _⟩
 have hrd := h (by omega)
 have hr : rightM l = rightFrom (-1) l := by unfold rightM; rw [decide_eq_true (by omega)]; rfl
 rw [hr]
 have HL := Lib.hid hl
 clear h hr hl
 go_enter Tryz.func80, Tryz.ntmps80
 go_wp2
 go_loopw [3, 11] (fun v i wr => ∃ (k : Nat) (e : Int), k ≤ n ∧ i = .int .i64 k ∧ v = .int .i64 e ∧ -1 ≤ e ∧ e ≤ 2147483648 ∧ Hid (rightFrom e (l.drop k) = rightFrom (-1) l) ∧ Below w.heap.size w wr) (fun _ i _ => n - (intOf i).toNat)
 case atStart => exact ⟨0, -1, by omega, rfl, rfl, by omega, by omega, rfl, Below.refl _ _⟩
 case round =>
  obtain ⟨k, e, hk, rfl, rfl, he1, he2, hI, hbr⟩ := hrel
  by_cases hkn : k < n
  ·obtain ⟨b, o, rfl, _, _⟩ := hrd.2 (by omega)
   obtain ⟨r, hx⟩ : ∃ r, l[k]? = some r := ⟨_, List.getElem?_eq_getElem (by have := HL.out; omega)⟩
   obtain ⟨hc0, hc1, hc2, hb⟩ := (hrd.below hbr).rg hx
   have hstep : rightFrom e (l.drop k) = (inB r.at_ && inB r.old && inB r.new && decide (e < r.at_) && rightFrom (r.at_ + r.old) (l.drop (k + 1))) := by rw [drop_cons hx]; rfl
   have HS := Lib.hid hstep
   clear hx hstep
   by_cases hg : inB r.at_ = true ∧ inB r.old = true ∧ inB r.new = true ∧ e < r.at_
   ·obtain ⟨g1, g2, g3, g4⟩ := hg
    have b1 := inB_bd g1
    have b2 := inB_bd g2
    go_wp2_with (go_at_call 136; refine (in_any _ _).mono ?_; rintro e w' ⟨rfl, rfl⟩)
    go_roundw
    case rel => exact ⟨k + 1, r.at_ + r.old, by omega, by go_num, rfl, by omega, by omega, by rw [HS.out, g1, g2, g3, decide_eq_true g4] at hI; exact hI, hbr.alloc hbr.size _⟩
    case measure => simp [intOf]; omega
   ·have hbad : rightFrom e (l.drop k) = false := by
     rw [HS.out]
     simp only [Bool.and_eq_false_iff, decide_eq_false_iff_not]
     by_cases g1 : inB r.at_ = true
     ·by_cases g2 : inB r.old = true
      ·by_cases g3 : inB r.new = true
       ·exact .inl (.inr (fun g4 => hg ⟨g1, g2, g3, g4⟩))
       ·exact .inl (.inl (.inr (by simpa using g3)))
      ·exact .inl (.inl (.inl (.inr (by simpa using g2))))
     ·exact .inl (.inl (.inl (.inl (by simpa using g1))))
    have HBAD := Lib.hid hbad
    clear hbad HS
    go_wp2_with (go_at_call 136; refine (in_any _ _).mono ?_; rintro e w' ⟨rfl, rfl⟩)
    all_goals first
     | (go_ret; exact ⟨ret_bool (HBAD.out.symm.trans hI), hbr.alloc hbr.size _⟩)
     | (exfalso; exact hg ⟨by assumption, by assumption, by assumption, by assumption⟩)
  ·obtain rfl : n = k := by omega
   go_wp2
   go_ret
   exact ⟨ret_bool (by have := hI.out; rw [List.drop_of_length_le (by rw [HL.out]; omega)] at this; exact this), hbr⟩
/-- how a contract ends in the midst of a law that began in w: it answers v; what was there in w, and what was there in W, reads as before -/
abbrev On (w W : World) (v : Value) (e : Ending) (w' : World) : Prop := e = .returned v ∧ Below w.heap.size w w' ∧ w.heap.size ≤ w'.heap.size ∧ Below W.heap.size W w'
theorem calls_on {P : Program} {f : FuncId} {args : Array Value} {w W : World} {v : Value} (hb : Below w.heap.size w W) (h : Calls P f args W fun e w' => e = .returned v ∧ Below W.heap.size W w') : Calls P f args W (On w W v) :=
 h.mono fun _ _ ⟨he, hb'⟩ => ⟨he, hb.trans (hb'.mono hb.size), Nat.le_trans hb.size hb'.size, hb'⟩
end Go.Proofs.YtmacfoebfpljoaaGreat
namespace Go.Proofs.YtmacfoebfpljoaaGreat
open Go.RowKit
set_option linter.unusedVariables false
theorem rd_bk {w : World} {b B size n : Nat} {t : TypeId} {cs : Array Value} {xs : List Value} (h : Bk w b t cs) (he : cs.toList = xs) (hl : xs.length = n * size) (hb : b < B) : Rd w B size (some ⟨b, 0, none⟩) n xs := by
 refine ⟨hl, fun _ => ⟨b, 0, rfl, hb, fun j u hu => ?_⟩⟩
 rw [Nat.zero_add, h.cell j, ← he] at *
 simpa using hu
theorem info_str : (Tryz.prog.info? 9).map (fun i => (i.zero, i.size, i.bytes)) = some (some (.string ByteArray.empty), 1, 16) := by kernel_rfl
/-- texts, as they lie -/
def strs (l : List ByteArray) : List Value := l.map Value.string
/-- how many bytes they have, and a further one each -/
def szs (l : List ByteArray) : Nat := (l.map fun s => s.size + 1).sum
theorem szs_append (a b : List ByteArray) : szs (a ++ b) = szs a + szs b := by simp [szs]
theorem szs_one (s : ByteArray) : szs [s] = s.size + 1 := by simp [szs]
theorem szs_mem {s : ByteArray} {l : List ByteArray} (h : s ∈ l) : s.size + 1 ≤ szs l := by
 induction l with
 | nil => cases h
 | cons a l ih =>
   have e : szs (a :: l) = a.size + 1 + szs l := by simp [szs]
   rw [e]
   rcases List.mem_cons.1 h with rfl | h
   ·omega
   ·have := ih h; omega
theorem szs_len (l : List ByteArray) : l.length ≤ szs l := by
 induction l with
 | nil => simp [szs]
 | cons a l ih =>
   have e : szs (a :: l) = a.size + 1 + szs l := by simp [szs]
   rw [e, List.length_cons]
   omega
/-- a bool comes out -/
def AnyB (w : World) (e : Ending) (w' : World) : Prop := (∃ b : Bool, e = .returned (.bool b)) ∧ Below w.heap.size w w'
theorem plain_any (c : Int) (w : World) : Calls Tryz.prog 144 #[.int .u8 c] w (AnyB w) := by
 go_enter Tryz.func144, Tryz.ntmps144
 go_wp2
 all_goals go_ret
 all_goals exact ⟨⟨_, rfl⟩, belowA⟩
/-- texts in a row of its own: at most so many bytes -/
def Texts (w : World) (b : Nat) (v : Value) (w' : World) : Prop := ∃ n l, w'.ownsRow w.heap.size 9 1 v n (strs l) ∧ szs l ≤ b
def TextsE (b : Nat) (w : World) (e : Ending) (w' : World) : Prop := ∃ v er, e = .returned (.tuple #[v, .int .i64 er]) ∧ Texts w b v w' ∧ Below w.heap.size w w'
theorem Texts.nil_ (w : World) (b : Nat) (w' : World) : Texts w b (.slice none 0 0) w' := ⟨0, [], World.ownsRow_nil _ _ _ _, by simp [szs]⟩
theorem split_any (s : ByteArray) (w : World) (hs : s.size ≤ 65536) :
 Calls Tryz.prog 95 #[.string s] w (TextsE (s.size + 1) w) := by
 go_enter Tryz.func95, Tryz.ntmps95
 go_wp2
 go_loopw [4, 5, 6] (fun v t j wr => ∃ (k n : Nat) (x : ByteArray) (l : List ByteArray), k ≤ s.size ∧ j = .int .i64 k ∧ t = .string x ∧ Hid (szs l + x.size ≤ k) ∧ Hid (wr.ownsRow w.heap.size 9 1 v n (strs l)) ∧ Below w.heap.size w wr) (fun _ _ j _ => s.size - (intOf j).toNat)
 case atStart => exact ⟨0, 0, ByteArray.empty, [], by omega, rfl, rfl, Lib.hid (by simp [szs]), Lib.hid (World.ownsRow_nil _ _ _ _), Below.refl _ _⟩
 case round =>
  obtain ⟨k, n, x, l, hk, rfl, rfl, hI, hown, hbr⟩ := hrel
  by_cases hlt : k < s.size
  ·have e3 : (k : Int) < s.size := by omega
   by_cases hc : ((s[k].toNat : Int) == 32) = true
   ·by_cases hx : x.toList = []
    ·have hx2 : x.toList.isEmpty = true := by rw [hx]; rfl
     go_wp2
     exact bodyPost_ret (v := .tuple #[.slice none 0 0, .int .i64 2]) (by simp [results, Tryz.results95, go_sem]) rfl ⟨_, 2, rfl, Texts.nil_ _ _ _, hbr⟩
    have hx2 : x.toList.isEmpty = false := by cases h : x.toList with | nil => exact absurd h hx | cons a b => rfl
    by_cases hk2 : ((k : Int) == s.size - 1) = true
    ·go_wp2
     exact bodyPost_ret (v := .tuple #[.slice none 0 0, .int .i64 2]) (by simp [results, Tryz.results95, go_sem]) rfl ⟨_, 2, rfl, Texts.nil_ _ _ _, hbr⟩
    ·have hk3 : ((k : Int) == s.size - 1) = false := by simpa using hk2
     have hn : n ≤ 65536 := by have h1 := hown.out.1; have h2 := szs_len l; have h3 := hI.out; simp only [strs, List.length_map] at h1; omega
     have hz := hbr.size
     clear hk2
     go_wp2_with (at_builtin; ((refine app_one Tryz.underlying111 info_str rfl (by decide) wr w.heap.size _ n _ hown.out (by unfold maxLen; omega) (by omega) hz _ rfl (by simp [Value.oneCell']) rfl _ _ rfl rfl rfl ?_); intro g4 cap4 w4 hown4 hgr4 hat4 hlt4))
     have hb4 := below_own hbr hown.out hgr4 hz (Nat.le_refl _)
     go_roundw
     case rel => exact ⟨k + 1, n + 1, ByteArray.empty, l ++ [x], by omega, by go_num, rfl, Lib.hid (by rw [szs_append, szs_one]; have := hI.out; simp; omega), Lib.hid (by simpa [strs] using hown4), hb4⟩
     case measure => simp [intOf]; omega
   ·have hc2 : ((s[k].toNat : Int) == 32) = false := by simpa using hc
    clear hc
    have hxk : x.size ≤ k := by have := hI.out; omega
    have hcat : ¬ 9223372036854775807 < x.size + (min (k + 1) s.size - k) := by omega
    have hcl : (x ++ s.extract k (k + 1)).size ≤ x.size + 1 := by rw [ByteArray.size_append, ByteArray.size_extract]; omega
    have HCL := Lib.hid hcl
    clear hcl
    go_wp2_with (go_at_call 144; fail)
    refine (plain_any _ _).mono ?_
    rintro e w1 ⟨⟨pb, rfl⟩, hb1⟩
    cases pb with
    | false =>
      go_wp2
      exact bodyPost_ret (v := .tuple #[.slice none 0 0, .int .i64 2]) (by simp [results, Tryz.results95, go_sem]) rfl ⟨_, 2, rfl, Texts.nil_ _ _ _, hbr.trans (hb1.mono hbr.size)⟩
    | true =>
      go_wp2
      go_roundw
      case rel => exact ⟨k + 1, n, _, l, by omega, by go_num, rfl, Lib.hid (by have h1 := hI.out; have h2 := HCL.out; omega), Lib.hid (own_below hown.out hb1), hbr.trans (hb1.mono hbr.size)⟩
      case measure => simp [intOf]; omega
  ·obtain rfl : k = s.size := by omega
   have hn : n ≤ 65536 := by have h1 := hown.out.1; have h2 := szs_len l; have h3 := hI.out; simp only [strs, List.length_map] at h1; omega
   have hz := hbr.size
   by_cases hx : s.toList = []
   ·have hx2 : s.toList.isEmpty = true := by rw [hx]; rfl
    go_wp2
    exact bodyPost_ret (v := .tuple #[.slice none 0 0, .int .i64 0]) (by simp [results, Tryz.results95, go_sem]) rfl ⟨_, 0, rfl, Texts.nil_ _ _ _, hbr⟩
   ·have hx2 : s.toList.isEmpty = false := by cases h : s.toList with | nil => exact absurd h hx | cons a b => rfl
    go_wp2_with (at_builtin; ((refine app_one Tryz.underlying111 info_str rfl (by decide) wr w.heap.size _ n _ hown.out (by unfold maxLen; omega) (by omega) hz _ rfl (by simp [Value.oneCell']) rfl _ _ rfl rfl rfl ?_); intro g4 cap4 w4 hown4 hgr4 hat4 hlt4))
    have hb4 := below_own hbr hown.out hgr4 hz (Nat.le_refl _)
    exact bodyPost_ret (v := .tuple #[.slice (some ⟨g4, 0, none⟩) (n + 1) cap4, .int .i64 0]) (by simp [results, Tryz.results95, go_sem]) rfl ⟨_, 0, rfl, ⟨n + 1, l ++ [x], by simpa [strs] using hown4, by rw [szs_append, szs_one]; have := hI.out; omega⟩, hb4⟩
def LinesOut (b : Nat) (w : World) (e : Ending) (w' : World) : Prop := ∃ v at_ er, e = .returned (.tuple #[v, .int .i64 at_, .int .i64 er]) ∧ Texts w b v w' ∧ Below w.heap.size w w'
theorem lines_any (s : ByteArray) (w : World) (hs : s.size ≤ maxLen) :
 Calls Tryz.prog 94 #[.string s] w (LinesOut 65537 w) := by
 unfold maxLen at hs
 by_cases hbig : 65536 < s.size
 ·have e1 : (65536 : Int) < s.size := by omega
  go_enter Tryz.func94, Tryz.ntmps94
  go_wp2
  exact bodyPost_ret (v := .tuple #[.slice none 0 0, .int .i64 0, .int .i64 4]) (by simp [results, Tryz.results94, go_sem]) rfl ⟨_, _, _, rfl, Texts.nil_ _ _ _, belowA⟩
 have e1 : ¬ (65536 : Int) < s.size := by omega
 go_enter Tryz.func94, Tryz.ntmps94
 go_wp2
 go_loopw [5, 6, 7] (fun v f j wr => ∃ (k m n : Nat) (l : List ByteArray), k ≤ s.size ∧ m ≤ k ∧ j = .int .i64 k ∧ f = .int .i64 m ∧ Hid (szs l ≤ m) ∧ Hid (wr.ownsRow w.heap.size 9 1 v n (strs l)) ∧ Below w.heap.size w wr) (fun _ _ j _ => s.size - (intOf j).toNat)
 case atStart => exact ⟨0, 0, 0, [], by omega, by omega, rfl, rfl, Lib.hid (by simp [szs]), Lib.hid (World.ownsRow_nil _ _ _ _), Below.refl _ _⟩
 case round =>
  obtain ⟨k, m, n, l, hk, hm, rfl, rfl, hI, hown, hbr⟩ := hrel
  have hn : n ≤ 65536 := by have h1 := hown.out.1; have h2 := szs_len l; have h3 := hI.out; simp only [strs, List.length_map] at h1; omega
  have hz := hbr.size
  by_cases hlt : k < s.size
  ·have e3 : (k : Int) < s.size := by omega
   by_cases hc : ((s[k].toNat : Int) == 10) = true
   ·have hcl : (s.extract m k).size = k - m := by rw [ByteArray.size_extract]; omega
    have HCL := Lib.hid hcl
    clear hcl
    go_wp2_with (at_builtin; ((refine app_one Tryz.underlying111 info_str rfl (by decide) wr w.heap.size _ n _ hown.out (by unfold maxLen; omega) (by omega) hz _ rfl (by simp [Value.oneCell']) rfl _ _ rfl rfl rfl ?_); intro g4 cap4 w4 hown4 hgr4 hat4 hlt4))
    have hb4 := below_own hbr hown.out hgr4 hz (Nat.le_refl _)
    go_roundw
    case rel => exact ⟨k + 1, k + 1, n + 1, l ++ [s.extract m k], by omega, by omega, by go_num, by go_num, Lib.hid (by rw [szs_append, szs_one, HCL.out]; have := hI.out; omega), Lib.hid (by simpa [strs] using hown4), hb4⟩
    case measure => simp [intOf]; omega
   ·have hc2 : ((s[k].toNat : Int) == 10) = false := by simpa using hc
    clear hc
    go_wp2
    go_roundw
    case rel => exact ⟨k + 1, m, n, l, by omega, by omega, by go_num, rfl, hI, hown, hbr⟩
    case measure => simp [intOf]; omega
  ·obtain rfl : k = s.size := by omega
   obtain ⟨A, c, rfl, -, -, -, -⟩ := own_form hown.out
   by_cases hms : m < s.size
   ·have e4 : (m : Int) < s.size := by omega
    go_wp2
    exact bodyPost_ret (v := .tuple #[.slice none 0 0, .int .i64 (n + 1), .int .i64 2]) (by simp [results, Tryz.results94, go_sem]) rfl ⟨_, _, _, rfl, Texts.nil_ _ _ _, hbr⟩
   ·have e4 : ¬ (m : Int) < s.size := by omega
    go_wp2
    exact bodyPost_ret (v := .tuple #[.slice A n c, .int .i64 0, .int .i64 0]) (by simp [results, Tryz.results94, go_sem]) rfl ⟨_, _, _, rfl, ⟨n, l, hown.out, by have := hI.out; omega⟩, hbr⟩
end Go.Proofs.YtmacfoebfpljoaaGreat
namespace Go.Proofs.YtmacfoebfpljoaaGreat
open Go.RowKit
def shiftL : List Rg → Int
 | [] => 0
 | r :: t => (r.new - r.old) + shiftL t
theorem shiftL_append (a b : List Rg) : shiftL (a ++ b) = shiftL a + shiftL b := by
 induction a with
 | nil => simp [shiftL]
 | cons r a ih => simp only [List.cons_append, shiftL, ih]; omega
theorem shiftL_snoc {l : List Rg} {k : Nat} {r : Rg} (h : l[k]? = some r) : shiftL (l.take (k + 1)) = shiftL (l.take k) + (r.new - r.old) := by
 rw [List.take_add_one, h, Option.toList_some, shiftL_append]; simp [shiftL]
structure Rg.Fits (r : Rg) : Prop where
 a0 : 0 ≤ r.at_
 a1 : r.at_ ≤ 1073741824
 o0 : 0 ≤ r.old
 o1 : r.old ≤ 1073741824
 n0 : 0 ≤ r.new
 n1 : r.new ≤ 1073741824
theorem rightFrom_fits : ∀ {l : List Rg} {e : Int}, rightFrom e l = true → ∀ r ∈ l, r.Fits := by
 intro l
 induction l with
 | nil => intro e _ r hr; cases hr
 | cons x l ih =>
   intro e h r hr
   simp only [rightFrom, Bool.and_eq_true] at h
   obtain ⟨⟨⟨⟨h1, h2⟩, h3⟩, h4⟩, h5⟩ := h
   rcases List.mem_cons.1 hr with rfl | hr
   ·exact ⟨(inB_bd h1).1, (inB_bd h1).2, (inB_bd h2).1, (inB_bd h2).2, (inB_bd h3).1, (inB_bd h3).2⟩
   ·exact ih h5 r hr
theorem right_fits {l : List Rg} (h : rightM l = true) : ∀ r ∈ l, r.Fits := by
 simp only [rightM, Bool.and_eq_true] at h
 exact rightFrom_fits h.2
theorem right_len {l : List Rg} (h : rightM l = true) : l.length ≤ 1000 := by
 simp only [rightM, Bool.and_eq_true, decide_eq_true_eq] at h
 exact h.1
theorem shiftL_bd : ∀ {l : List Rg}, (∀ r ∈ l, r.Fits) → -(1073741824 * l.length) ≤ shiftL l ∧ shiftL l ≤ 1073741824 * l.length := by
 intro l
 induction l with
 | nil => intro _; simp [shiftL]
 | cons r l ih =>
   intro h
   have h1 := h r (by simp)
   have h2 := ih (fun x hx => h x (by simp [hx]))
   have := h1.o0; have := h1.o1; have := h1.n0; have := h1.n1
   simp only [shiftL, List.length_cons]
   omega
theorem shift_take_bd {l : List Rg} (h : rightM l = true) (k : Nat) : -1073741824000 ≤ shiftL (l.take k) ∧ shiftL (l.take k) ≤ 1073741824000 := by
 have h1 := shiftL_bd (l := l.take k) (fun r hr => right_fits h r (List.mem_of_mem_take hr))
 have h2 := right_len h
 have h3 : (l.take k).length ≤ l.length := by rw [List.length_take]; omega
 omega
def shiftM (l : List Rg) : Int := if rightM l then shiftL l else 0
theorem shift_any (A : Option Addr) (n c : Nat) (l : List Rg) (w : World) (hn : n ≤ maxLen) (h : n ≤ 1000 → Rd w w.heap.size 3 A n (rgs l)) (hl : l.length = n) :
 Calls Tryz.prog 59 #[.slice A n c] w fun e w' => e = .returned (.int .i64 (shiftM l)) ∧ Below w.heap.size w w' := by
 have hri := right_any A n c l w hn h hl
 unfold maxLen at hn
 by_cases hr : rightM l = true
 ·have hrd := h (by have := right_len hr; omega)
  have hs : shiftM l = shiftL l := by unfold shiftM; rw [if_pos hr]
  rw [hs]
  rw [hr] at hri
  have HRI := Lib.hid hri
  have HR := Lib.hid hr
  have HL := Lib.hid hl
  have hn2 : n ≤ 1000 := by have := right_len hr; omega
  clear hri hr hs hl h
  go_enter Tryz.func59, Tryz.ntmps59
  go_wp2_with (go_at_call 80; refine HRI.out.mono ?_; rintro e w1 ⟨rfl, hb1⟩)
  go_loopw [3, 11] (fun v i wr => ∃ k : Nat, k ≤ n ∧ i = .int .i64 k ∧ v = .int .i64 (shiftL (l.take k)) ∧ Below w.heap.size w wr) (fun _ i _ => n - (intOf i).toNat)
  case atStart => exact ⟨0, by omega, rfl, rfl, hb1⟩
  case round =>
   obtain ⟨k, hk, rfl, rfl, hbr⟩ := hrel
   by_cases hkn : k < n
   ·obtain ⟨b, o, rfl, _, _⟩ := hrd.2 (by omega)
    obtain ⟨r, hx⟩ : ∃ r, l[k]? = some r := ⟨_, List.getElem?_eq_getElem (by have := HL.out; omega)⟩
    obtain ⟨hc0, hc1, hc2, hb⟩ := (hrd.below hbr).rg hx
    have hf := right_fits HR.out r (List.mem_of_getElem? hx)
    obtain ⟨f1, f2, f3, f4, f5, f6⟩ := hf
    have hsb := shift_take_bd HR.out k
    have hsn := shiftL_snoc hx
    have HS := Lib.hid hsn
    clear hx hsn
    go_wp2
    go_roundw
    case rel => exact ⟨k + 1, by omega, by go_num, by rw [HS.out], hbr.alloc hbr.size _⟩
    case measure => simp [intOf]; omega
   ·obtain rfl : n = k := by omega
    go_wp2
    go_ret
    exact ⟨ret_int (by rw [List.take_of_length_le (by rw [HL.out]; omega)]), hbr⟩
 ·have hr : rightM l = false := by simpa using hr
  have hs : shiftM l = 0 := by unfold shiftM; rw [hr]; rfl
  rw [hs]
  rw [hr] at hri
  have HRI := Lib.hid hri
  clear hri hr hs hl h
  go_enter Tryz.func59, Tryz.ntmps59
  go_wp2_with (go_at_call 80; refine HRI.out.mono ?_; rintro e w1 ⟨rfl, hb1⟩)
  go_ret
  exact ⟨rfl, hb1⟩
structure Pl where
 pos : Int
 gone : Bool
 inside : Bool
 range : Int
 off : Int
deriving DecidableEq
def Pl.val (p : Pl) : Value := .agg #[.int .i64 p.pos, .bool p.gone, .bool p.inside, .int .i64 p.range, .int .i64 p.off]
def Pl.zero : Pl := ⟨0, false, false, 0, 0⟩
def Rg.val (r : Rg) : Value := .agg #[.int .i64 r.at_, .int .i64 r.old, .int .i64 r.new]
attribute [local go_sem] Oper.semAt_some
attribute [local go_sem] Oper.semAt_some
section five
variable (w : World)
end five
theorem Bk.put {W : World} {b : Nat} {t : TypeId} {cs : Array Value} (h : Bk W b t cs) {D : Nat} (hD : b ≠ D) (o : Obj) : Bk (W.putObj D o) b t cs := (World.putObj_heap_other hD).trans h
/-- a code that ends as it should: whatever else its end is asked for is not asked (the region's walk wants an end that a register doesn't turn) -/
theorem wp_normal {P : Program} {c : Code} {Q : Exit → Act → World → Prop} {a : Act} {w : World} (h : c.wp P (Exit.then (Q .normal) (fun _ _ _ => False)) a w) : c.wp P Q a w :=
 wpIn_wide (n := 0) |>.1 (wpIn_mono (wpIn_wide.2 h) (fun e _ _ h => by cases e <;> first | exact h | exact h.elim))
theorem dfar {W : World} {D : Nat} {o : Obj} (h : W.heap[D]? = some o) {p : Addr} (hp : D ≠ p.block) (u : Value) : (W.setCell p u).heap[D]? = some o := (Below.heap_setCell W p u D hp).trans h
end Go.Proofs.YtmacfoebfpljoaaGreat
