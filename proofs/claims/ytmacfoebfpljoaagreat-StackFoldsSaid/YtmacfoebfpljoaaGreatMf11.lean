/- merged texts: RfA Inv Rfch RfC G -/
import Derived.Test.YtmacfoebfpljoaaGreatMf10
import Derived.Test.YtmacfoebfpljoaaGreatMf2
import Derived.Test.YtmacfoebfpljoaaGreatMf1
import Derived.Laws.OwnMore
import Derived.Test.YtmacfoebfpljoaaGreatMf3
import Derived.Deep.RegionLaw
namespace Go.Proofs.YtmacfoebfpljoaaGreat
open Go.RowKit
theorem right_pos : ∀ {l : List Rg} {e s : Int}, rightFrom e l = true → -1 ≤ e + s → ∀ {k : Nat} {r : Rg}, l[k]? = some r → 0 ≤ r.at_ + (s + shiftL (l.take k)) := by
  intro l
  induction l with
  | nil => intro e s _ _ k r h; simp at h
  | cons x l ih =>
    intro e s h hs k r hk
    simp only [rightFrom, Bool.and_eq_true, decide_eq_true_eq] at h
    obtain ⟨⟨⟨⟨h1, h2⟩, h3⟩, h4⟩, h5⟩ := h
    have b3 := inB_bd h3
    cases k with
    | zero => simp at hk; subst hk; simp [shiftL]; omega
    | succ k =>
      have := ih (e := x.at_ + x.old) (s := s + (x.new - x.old)) h5 (by omega) (k := k) (r := r) (by simpa using hk)
      simp only [List.take_succ_cons, shiftL]
      omega
theorem rec_pos {l : List Rg} {at_ off x : Int} (h : rightM l = true) (hx : recM l at_ off = some x) : 0 ≤ x := by
  unfold recM at hx
  split at hx
  · obtain ⟨r, h1, h2⟩ := Option.bind_eq_some_iff.1 hx
    split at h2
    · injection h2 with h2
      simp only [rightM, Bool.and_eq_true] at h
      have := right_pos h.2 (s := 0) (by omega) h1
      omega
    · cases h2
  · cases hx
/-- what the code's Recover and the document's say agree -/
theorem rec_agree {l : List Rg} (at_ off : Int) (h : rightM l = true) : (recS l at_ off).2 = decide (0 ≤ recD l at_ off) ∧ (recS l at_ off).1 = max (recD l at_ off) 0 := by
  unfold recS recD
  rw [h, if_pos rfl]
  cases hx : recM l at_ off with
  | none => exact ⟨rfl, by decide⟩
  | some x => have := rec_pos h hx; simp; omega
abbrev IMap := Int → Option Int
/-- where a position goes on behind a mirror -/
def recR (ms : List (List Rg)) (f : IMap) (i : Nat) (gone : Bool) (rg off : Int) : Int × Int × Bool :=
  match f i with
  | some k => if gone = true ∧ (i : Int) ≤ k then (k, recS (ms.getD k.toNat []) rg off) else (0, 0, false)
  | none => (0, 0, false)
/-- the mirrors of a route are among its maps -/
def InR (ms : List (List Rg)) (f : IMap) : Prop := ∀ k v, f k = some v → 0 ≤ v ∧ v < ms.length
/-- one map of a route: where to go on, and with which place; or an error -/
def rStep (ms : List (List Rg)) (f : IMap) (side : Int) (i : Nat) (o : Pl) : Except Int (Nat × Pl) :=
  let t := tellS (ms.getD i []) o.pos side
  if t.2 ≠ 0 then .error t.2 else
    let r := recR ms f i t.1.gone t.1.range t.1.off
    if r.2.2 = true then .ok (r.1.toNat + 1, { o with pos := r.2.1 }) else .ok (i + 1, { o with pos := t.1.pos, gone := o.gone || t.1.gone, inside := o.inside || t.1.inside })
def rRun (ms : List (List Rg)) (f : IMap) (side : Int) : Nat → Nat → Pl → Pl × Int
  | 0, _, o => (o, 0)
  | k + 1, i, o => if i < ms.length then (match rStep ms f side i o with | .error e => (Pl.zero, e) | .ok (j, o') => rRun ms f side k j o') else (o, 0)
def rTell (ms : List (List Rg)) (f : IMap) (p side : Int) : Pl × Int := rRun ms f side ms.length 0 { Pl.zero with pos := p }
theorem rStep_up {ms : List (List Rg)} {f : IMap} {side : Int} {i j : Nat} {o o' : Pl} (h : rStep ms f side i o = .ok (j, o')) : i < j := by
  unfold rStep at h
  simp only at h
  split at h
  · cases h
  · split at h
    · rename_i hr
      injection h with h
      injection h with h _
      unfold recR at hr h
      split at hr
      · split at hr
        · rename_i k hk hg
          simp only [hk, hg] at h
          simp at h
          omega
        · cases hr
      · cases hr
    · injection h with h
      injection h with h _
      omega
theorem rRun_enough {ms : List (List Rg)} {f : IMap} {side : Int} : ∀ {a b i : Nat} {o : Pl}, ms.length ≤ i + a → ms.length ≤ i + b → rRun ms f side a i o = rRun ms f side b i o := by
  intro a
  induction a with
  | zero =>
    intro b i o h1 h2
    cases b with
    | zero => rfl
    | succ b => simp only [rRun]; rw [if_neg (by omega)]
  | succ a ih =>
    intro b i o h1 h2
    cases b with
    | zero => simp only [rRun]; rw [if_neg (by omega)]
    | succ b =>
      simp only [rRun]
      split
      · cases hs : rStep ms f side i o with
        | error e => rfl
        | ok q =>
          obtain ⟨j, o'⟩ := q
          have := rStep_up hs
          exact ih (by omega) (by omega)
      · rfl
/-- what is left to be told from map i on -/
theorem rRun_step {ms : List (List Rg)} {f : IMap} {side : Int} {i : Nat} {o : Pl} (hi : i < ms.length) : rRun ms f side (ms.length - i) i o = match rStep ms f side i o with | .error e => (Pl.zero, e) | .ok (j, o') => rRun ms f side (ms.length - j) j o' := by
  obtain ⟨k, hk⟩ : ∃ k, ms.length - i = k + 1 := ⟨ms.length - i - 1, by omega⟩
  rw [hk]
  simp only [rRun]
  rw [if_pos hi]
  cases hs : rStep ms f side i o with
  | error e => rfl
  | ok q =>
    obtain ⟨j, o'⟩ := q
    have := rStep_up hs
    exact rRun_enough (by omega) (by omega)
theorem rRun_end {ms : List (List Rg)} {f : IMap} {side : Int} {i k : Nat} {o : Pl} (hi : ms.length ≤ i) : rRun ms f side k i o = (o, 0) := by
  cases k with
  | zero => rfl
  | succ k => simp only [rRun]; rw [if_neg (by omega)]
theorem recR_ok {ms : List (List Rg)} {f : IMap} {i : Nat} {g : Bool} {a b : Int} (hin : InR ms f) (h : (recR ms f i g a b).2.2 = true) : ∃ κ : Nat, (recR ms f i g a b).1 = κ ∧ i ≤ κ ∧ κ < ms.length := by
  unfold recR at *
  split at h
  · rename_i k hk
    obtain ⟨g1, g2⟩ := hin i k hk
    split at h
    · rename_i hg
      exact ⟨k.toNat, by rw [if_pos hg]; exact (Int.toNat_of_nonneg g1).symm, by omega, by omega⟩
    · cases h
  · cases h
/-- the mirrors of n maps as the document keeps them -/
def ofsOf (f : IMap) (n : Nat) : List Int := (List.range n).map fun (i : Nat) => (f (i : Int)).getD (-1)
theorem ofsOf_len (f : IMap) (n : Nat) : (ofsOf f n).length = n := by simp [ofsOf]
theorem ofsOf_get (f : IMap) {n i : Nat} (h : i < n) : (ofsOf f n)[i]? = some ((f (i : Int)).getD (-1)) := by
  rw [ofsOf, List.getElem?_map, List.getElem?_range h]; rfl
/-- mirrors mirror each other, among n maps -/
def MirOk (f : IMap) (n : Nat) : Prop := ∀ i k, f i = some k → 0 ≤ i ∧ i < n ∧ 0 ≤ k ∧ k < n ∧ k ≠ i
theorem MirOk.in_ {f : IMap} {ms : List (List Rg)} (h : MirOk f ms.length) : InR ms f := fun i k hk => ⟨(h i k hk).2.2.1, (h i k hk).2.2.2.1⟩
theorem MirOk.none_ {f : IMap} {n : Nat} (h : MirOk f n) {i : Int} (hi : ¬ (0 ≤ i ∧ i < n)) : f i = none := by
  cases hf : f i with
  | none => rfl
  | some k => have := h i k hf; omega
theorem MirOk.add {f : IMap} {n : Nat} (h : MirOk f n) : MirOk f (n + 1) := fun i k hk => by have := h i k hk; omega
/-- the document's route, as it reads below block B: its maps, and of each the number of its mirror -/
structure RefIs (W : World) (B : Nat) (Am Ao : Option Addr) (n : Nat) (ms : List (List Rg)) (ofs : List Int) : Prop where
  len : ms.length = n
  rows : ∃ vs, Rd W B 1 Am n vs ∧ ∀ (i : Nat) (m : List Rg), ms[i]? = some m → ∃ A c, vs[i]? = some (.slice A m.length c) ∧ Rd W B 3 A m.length (rgs m)
  ofl : ofs.length = n
  ofr : Rd W B 1 Ao n (ofs.map (Value.int .i64))
theorem RefIs.below {W W' : World} {B : Nat} {Am Ao : Option Addr} {n : Nat} {ms : List (List Rg)} {ofs : List Int} (h : RefIs W B Am Ao n ms ofs) (hb : Below B W W') : RefIs W' B Am Ao n ms ofs := by
  obtain ⟨h1, ⟨vs, h2, h3⟩, h4, h5⟩ := h
  exact ⟨h1, ⟨vs, h2.below hb, fun i m hi => by obtain ⟨A, c, e1, e2⟩ := h3 i m hi; exact ⟨A, c, e1, e2.below hb⟩⟩, h4, h5.below hb⟩
theorem RefIs.more {W : World} {B B' : Nat} {Am Ao : Option Addr} {n : Nat} {ms : List (List Rg)} {ofs : List Int} (h : RefIs W B Am Ao n ms ofs) (hb : B ≤ B') : RefIs W B' Am Ao n ms ofs := by
  obtain ⟨h1, ⟨vs, h2, h3⟩, h4, h5⟩ := h
  exact ⟨h1, ⟨vs, h2.more hb, fun i m hi => by obtain ⟨A, c, e1, e2⟩ := h3 i m hi; exact ⟨A, c, e1, e2.more hb⟩⟩, h4, h5.more hb⟩
section
variable {W : World} {B : Nat} {Am Ao : Option Addr} {n : Nat} {ms : List (List Rg)} {ofs : List Int}
/-- map k of it, as cells -/
theorem RefIs.at_ (h : RefIs W B Am Ao n ms ofs) {k : Nat} {m : List Rg} (hk : ms[k]? = some m) : ∃ b o A c, Am = some ⟨b, o, none⟩ ∧ b < B ∧ W.cell? ⟨b, o + k, none⟩ = some (.slice A m.length c) ∧ Rd W B 3 A m.length (rgs m) := by
  obtain ⟨vs, h2, h3⟩ := h.rows
  have hkn : k < n := by have := (List.getElem?_eq_some_iff.1 hk).1; have := h.len; omega
  obtain ⟨A, c, e1, e2⟩ := h3 k m hk
  obtain ⟨b, o, u, e, hb, hu, hc⟩ := h2.at1 hkn
  rw [e1] at hu
  injection hu with hu
  subst hu
  exact ⟨b, o, A, c, e, hb, hc, e2⟩
theorem RefIs.of_ (h : RefIs W B Am Ao n ms ofs) {k : Nat} {x : Int} (hk : ofs[k]? = some x) : ∃ b o, Ao = some ⟨b, o, none⟩ ∧ b < B ∧ W.cell? ⟨b, o + k, none⟩ = some (.int .i64 x) := by
  have hkn : k < n := by have := (List.getElem?_eq_some_iff.1 hk).1; have := h.ofl; omega
  obtain ⟨b, o, u, e, hb, hu, hc⟩ := h.ofr.at1 hkn
  rw [List.getElem?_map, hk] at hu
  injection hu with hu
  subst hu
  exact ⟨b, o, e, hb, hc⟩
end
section
variable {P : Program} {ops : Array Oper} {Q : Exit → Act → World → Prop}
/-- operation i is carried out -/
def put1 (L : Nat → Bool) (i : Nat) : Nat → Bool := fun k => if k = i then true else L k
theorem put1_other (L : Nat → Bool) {i k : Nat} (h : k ≠ i) : put1 L i k = L k := if_neg h
/-- each operation waits for earlier ones alone -/
def ups (ops : Array Oper) : Bool := (List.range ops.size).all fun i => match ops[i]? with | some o => o.after.all fun e => decide (e.on < i) | none => true
theorem ups_spec (h : ups ops = true) {i : Nat} {o : Oper} (ho : ops[i]? = some o) : ∀ e ∈ o.after, e.on < i := by
  intro e he
  have hi := (Array.getElem?_eq_some_iff.1 ho).1
  have := List.all_eq_true.1 h i (List.mem_range.2 hi)
  rw [ho] at this
  simpa using (Array.all_eq_true_iff_forall_mem.1 this) e he
def todo (n : Nat) (L : Nat → Bool) : List Nat := (List.range n).filter fun k => !L k
theorem todo_less {n : Nat} {L : Nat → Bool} {i : Nat} (hi : i < n) (hL : L i = false) : (todo n (put1 L i)).length < (todo n L).length := by
  have : todo n (put1 L i) = (todo n L).filter (fun k => decide (k ≠ i)) := by
    unfold todo
    rw [List.filter_filter]
    congr 1
    funext k
    by_cases h : k = i
    · subst h; simp [put1]
    · simp [put1, h]
  rw [this]
  refine List.length_filter_lt_length_iff_exists.2 ⟨i, ?_, by simp⟩
  unfold todo
  rw [List.mem_filter]
  exact ⟨List.mem_range.2 hi, by rw [hL]; rfl⟩
theorem any_inv (I : (Nat → Bool) → Act → World → Prop) (hup : ups ops = true)
    (hstep : ∀ (L : Nat → Bool) (a : Act) (w : World) (i : Nat) (o : Oper), I L a w → ops[i]? = some o → L i = false → (∀ e ∈ o.after, Region.binds .any e = true → L e.on = true) → wpOp P ops Q i (fun a' w' => I (put1 L i) a' w') a w)
    (hend : ∀ (L : Nat → Bool) (a : Act) (w : World), I L a w → (∀ i, i < ops.size → L i = true) → Q .normal a w) :
    ∀ (fuel : Nat) (listed : Array Bool) (a : Act) (w : World), listed.size = ops.size → (todo ops.size (fun k => listed.getD k false)).length ≤ fuel → I (fun k => listed.getD k false) a w → wpAny P .any ops Q fuel listed a w := by
  have conv : ∀ {listed : Array Bool}, listed.size = ops.size → ∀ i, i < ops.size → listed.getD i true = listed.getD i false := by
    intro listed hs i hi
    simp [Array.getD, hs, hi]
  have allDone : ∀ {listed : Array Bool}, listed.size = ops.size → Region.ready .any ops listed = [] → ∀ i, i < ops.size → listed.getD i false = true := by
    intro listed hs hr i
    induction i using Nat.strongRecOn with
    | _ i ih =>
      intro hi
      cases hL : listed.getD i false with
      | true => rfl
      | false =>
        exfalso
        have : i ∈ Region.ready .any ops listed := mem_ready.2 ⟨by rw [conv hs i hi]; exact hL, ops[i], Array.getElem?_eq_getElem hi, fun e he _ => ih e.on (ups_spec hup (Array.getElem?_eq_getElem hi) e he) (Nat.lt_trans (ups_spec hup (Array.getElem?_eq_getElem hi) e he) hi)⟩
        rw [hr] at this
        cases this
  have step : ∀ (fuel : Nat), (∀ (listed : Array Bool) (a : Act) (w : World), listed.size = ops.size → (todo ops.size (fun k => listed.getD k false)).length ≤ fuel → I (fun k => listed.getD k false) a w → wpAny P .any ops Q fuel listed a w) →
      ∀ (listed : Array Bool) (a : Act) (w : World), listed.size = ops.size → (todo ops.size (fun k => listed.getD k false)).length ≤ fuel + 1 → I (fun k => listed.getD k false) a w → wpAny P .any ops Q (fuel + 1) listed a w := by
    intro fuel ih listed a w hs hc hI
    refine ⟨fun hr => hend _ a w hI (allDone hs hr), fun i hi => ?_⟩
    obtain ⟨h1, o, ho, h2⟩ := mem_ready.1 hi
    have hlt := (Array.getElem?_eq_some_iff.1 ho).1
    have hL : listed.getD i false = false := by rw [← conv hs i hlt]; exact h1
    have hput : (fun k => (listed.setIfInBounds i true).getD k false) = put1 (fun k => listed.getD k false) i := by
      funext k
      by_cases hk : k = i
      · subst hk
        simp [put1, Array.getD, hs, hlt]
      · rw [put1_other _ hk]
        simp only [Array.getD_eq_getD_getElem?]
        rw [Array.getElem?_setIfInBounds_ne (Ne.symm hk)]
    refine wpOp_mono (fun a' w' hI' => ih (listed.setIfInBounds i true) a' w' (by simp [hs]) ?_ (by rw [hput]; exact hI')) (hstep _ a w i o hI ho hL h2)
    rw [hput]
    have := todo_less (L := fun k => listed.getD k false) hlt hL
    omega
  intro fuel
  induction fuel with
  | zero =>
    intro listed a w hs hc hI
    have hall : ∀ i, i < ops.size → listed.getD i false = true := by
      intro i hi
      cases hL : listed.getD i false with
      | true => rfl
      | false =>
        have : i ∈ todo ops.size (fun k => listed.getD k false) := by
          unfold todo
          rw [List.mem_filter]
          exact ⟨List.mem_range.2 hi, by show (!(listed.getD i false)) = true; rw [hL]; rfl⟩
        rw [List.eq_nil_of_length_eq_zero (Nat.le_zero.1 hc)] at this
        cases this
    refine ⟨?_, hend _ a w hI hall⟩
    refine List.eq_nil_iff_forall_not_mem.2 fun i hi => ?_
    obtain ⟨h1, o, ho, _⟩ := mem_ready.1 hi
    have hlt := (Array.getElem?_eq_some_iff.1 ho).1
    rw [conv hs i hlt, hall i hlt] at h1
    cases h1
  | succ fuel ih => exact step fuel ih
/-- a region, by what holds behind each set of its operations -/
theorem region_inv {id : Nat} {a : Act} {w : World} (I : (Nat → Bool) → Act → World → Prop) (hm : P.follows .mixedOrders = true) (hup : ups ops = true)
    (hstart : I (fun _ => false) a w.drew)
    (hstep : ∀ (L : Nat → Bool) (a : Act) (w : World) (i : Nat) (o : Oper), I L a w → ops[i]? = some o → L i = false → (o.after.toList.all fun e => !Region.binds .any e || L e.on) = true →
      ∀ K : Act → World → Prop, Shut (∀ a' w', I (put1 L i) a' w' → K a' w') → if Region.wanted o (yielded ops a.tmps) = true then Oper.wp P o a w K Q else K (a.put o.dst undef) w)
    (hend : ∀ (L : Nat → Bool) (a : Act) (w : World), I L a w → (∀ i, i < ops.size → L i = true) → Q .normal a w) : (Code.region id ops true).wp P Q a w := by
  refine wp_region_any hm (any_inv I hup (fun L a w i o hI ho hL hd => wpOp_step ho fun K hK => hstep L a w i o hI ho hL ?_ K hK) hend _ _ _ _ (by simp) ?_ ?_)
  · refine List.all_eq_true.2 fun e he => ?_
    have := hd e (by simpa using he)
    cases hb : Region.binds .any e with
    | false => rfl
    | true => rw [this hb]; rfl
  · unfold todo
    have := List.length_filter_le (fun k => !(fun k => (Array.replicate ops.size false).getD k false) k) (List.range ops.size)
    simpa using this
  · have e : (fun k => (Array.replicate ops.size false).getD k false) = fun _ => false := by
      funext k
      by_cases h : k < ops.size <;> simp [Array.getD, h]
    rw [e]
    exact hstart
end
section
variable {P : Program}
end
/-- the four steps: an empty row (s), all elements onto it (t), one element laid by itself (u), it onto the row (v) -/
structure Chain (B : Nat) (e : TypeId) (n : Nat) (xs : List Value) (x : Value) (l0 l3 l5 l6 : Bool) (s t u v : Value) (w : World) : Prop where
  h0 : l0 = true → l3 = false → w.ownsRow B e 1 s 0 []
  h3 : l3 = true → l6 = false → w.ownsRow B e 1 t n xs
  h5 : l5 = true → l6 = false → ∃ b, u = .slice (some ⟨b, 0, none⟩) 1 1 ∧ Bk w b e #[x] ∧ (l0 = true → l3 = false → s.ownBlock ≠ some b) ∧ (l3 = true → t.ownBlock ≠ some b)
  h6 : l6 = true → w.ownsRow B e 1 v (n + 1) (xs ++ [x])
section
variable {B : Nat} {e : TypeId} {n : Nat} {xs : List Value} {x : Value} {l0 l3 l5 l6 : Bool} {s t u v : Value} {w w' : World}
theorem Chain.start (B : Nat) (e : TypeId) (n : Nat) (xs : List Value) (x s t u v : Value) (w : World) : Chain B e n xs x false false false false s t u v w := ⟨by simp, by simp, by simp, by simp⟩
/-- whatever keeps the blocks of this type -/
theorem Chain.keep (h : Chain B e n xs x l0 l3 l5 l6 s t u v w) (hk : ∀ j cs, Bk w j e cs → w'.heap[j]? = w.heap[j]?) : Chain B e n xs x l0 l3 l5 l6 s t u v w' := by
  have ok : ∀ {v : Value} {n : Nat} {xs : List Value}, w.ownsRow B e 1 v n xs → w'.ownsRow B e 1 v n xs := fun h => by
    obtain ⟨h1, h2⟩ := h
    refine ⟨h1, ?_⟩
    rcases h2 with h2 | ⟨g, cap, cur, rfl, hg, hh, r⟩
    · exact .inl h2
    · exact .inr ⟨g, cap, cur, rfl, hg, (hk g cur hh).trans hh, r⟩
  refine ⟨fun a b => ok (h.h0 a b), fun a b => ok (h.h3 a b), fun a b => ?_, fun a => ok (h.h6 a)⟩
  obtain ⟨b, h1, h2, h3⟩ := h.h5 a b
  exact ⟨b, h1, (hk b _ h2).trans h2, h3⟩
theorem Chain.alloc (h : Chain B e n xs x l0 l3 l5 l6 s t u v w) (o : Obj) : Chain B e n xs x l0 l3 l5 l6 s t u v (w.alloc o) := h.keep fun j _ hj => Below.heap_alloc w o j (def_lt' hj)
theorem Chain.set_ (h : Chain B e n xs x l0 l3 l5 l6 s t u v w) {p : Addr} {t' : TypeId} {ds : Array Value} (hp : Bk w p.block t' ds) (hne : e ≠ t') (c : Value) : Chain B e n xs x l0 l3 l5 l6 s t u v (w.setCell p c) := by
  refine h.keep fun j cs hj => Below.heap_setCell w p c j ?_
  rintro rfl
  have h1 : w.heap[p.block]? = some (.cells cs e (0, 0)) := hj
  have h2 : w.heap[p.block]? = some (.cells ds t' (0, 0)) := hp
  rw [h1] at h2
  injection h2 with h2
  injection h2 with _ h2
  exact hne h2
/-- another row, of another type, is appended to -/
theorem Chain.grown (h : Chain B e n xs x l0 l3 l5 l6 s t u v w) {e' : TypeId} {size k : Nat} {r : Value} {ys : List Value} (hr : w.ownsRow B e' size r k ys) (hg : w.grownBy w' r.ownBlock) (hne : e' ≠ e) : Chain B e n xs x l0 l3 l5 l6 s t u v w' :=
  h.keep fun j _ hj => hg.block j (def_lt' hj) (fun e1 => own_ne hr hj hne e1.symm)
theorem Chain.op0 (h : Chain B e n xs x l0 false l5 l6 s t u v w) (hB : B ≤ w.heap.size) : Chain B e n xs x true false l5 l6 (.slice (some ⟨w.heap.size, 0, none⟩) 0 0) t u v (w.alloc (.cells #[] e)) := by
  have h' := h.alloc (.cells #[] e)
  refine ⟨fun _ _ => own_empty w B e 1 hB, h'.h3, fun a b => ?_, h'.h6⟩
  obtain ⟨b, h1, h2, _, h4⟩ := h.h5 a b
  exact ⟨b, h1, h2.alloc _, fun _ _ e1 => by simp [Value.ownBlock] at e1; have := def_lt' h2; omega, h4⟩
theorem Chain.op5 (h : Chain B e n xs x l0 l3 l5 false s t u v w) : Chain B e n xs x l0 l3 true false s t (.slice (some ⟨w.heap.size, 0, none⟩) 1 1) v (w.alloc (.cells #[x] e)) := by
  have h' := h.alloc (.cells #[x] e)
  refine ⟨h'.h0, h'.h3, fun _ _ => ⟨_, rfl, Bk.new w e #[x], fun a b e1 => ?_, fun a e1 => ?_⟩, by simp⟩
  · have := own_lt (h.h0 a b) _ e1; omega
  · have := own_lt (h.h3 a rfl) _ e1; omega
theorem Chain.op3 (h : Chain B e n xs x true false l5 false s t u v w) {t' : Value} (ho : w'.ownsRow B e 1 t' n xs) (hg : w.grownBy w' s.ownBlock) (ht : t'.ownBlock = s.ownBlock ∨ t'.ownBlock = some w.heap.size) : Chain B e n xs x true true l5 false s t' u v w' := by
  refine ⟨by simp, fun _ _ => ho, fun a b => ?_, by simp⟩
  obtain ⟨b, h1, h2, h3, _⟩ := h.h5 a b
  have h4 := h3 rfl rfl
  refine ⟨b, h1, h2.grown hg h4, by simp, fun _ e1 => ?_⟩
  rcases ht with ht | ht
  · exact h4 (ht.symm.trans e1)
  · rw [ht] at e1; injection e1 with e1; have := def_lt' h2; omega
theorem Chain.op6 (ho : w'.ownsRow B e 1 v (n + 1) (xs ++ [x])) : Chain B e n xs x true true true true s t u v w' := ⟨by simp, by simp, by simp, fun _ => ho⟩
end
theorem own_typ1 {w : World} {base : Nat} {e : TypeId} {size : Nat} {v : Value} {n : Nat} {xs : List Value} (h : w.ownsRow base e size v n xs) : ∀ j, v.ownBlock = some j → ∃ cur, Bk w j e cur := by
  intro j hj
  rcases h.2 with ⟨rfl, _⟩ | ⟨g, cap, cur, rfl, hg, hh, r⟩
  · simp [Value.ownBlock] at hj
  · simp [Value.ownBlock] at hj
    subst hj
    exact ⟨cur, hh⟩
theorem info_int : (Tryz.prog.info? 3).map (fun i => (i.zero, i.size, i.bytes)) = some (some (.int .i64 0), 1, 8) := by kernel_rfl
/-- what holds in the midst of 'Route{Maps: append(append(..), m), Of: append(append(..), of)}' -/
structure RA (W1 : World) (D n : Nat) (vs os : List Value) (Am Ao A : Option Addr) (cm co k c : Nat) (of : Int) (L : Nat → Bool) (r8 r18 r19 r20 r21 r22 r23 r24 r25 r26 r27 r28 r29 r30 r31 r32 : Value) (w : World) : Prop where
  below : Below W1.heap.size W1 w
  f19 : L 1 = true → r19 = .pointer (some ⟨D, 0, none⟩)
  f20 : L 2 = true → r20 = .slice Am n cm
  f22 : L 4 = true → r22 = .slice A k c
  f26 : L 8 = true → r26 = .pointer (some ⟨D, 1, none⟩)
  f27 : L 9 = true → r27 = .slice Ao n co
  f29 : L 11 = true → r29 = .int .i64 of
  ca : Chain W1.heap.size 94 n vs (.slice A k c) (L 0) (L 3) (L 5) (L 6) r18 r21 r23 r24 w
  cb : Chain W1.heap.size 3 n os (.int .i64 of) (L 7) (L 10) (L 12) (L 13) r25 r28 r30 r31 w
  f32 : L 14 = true → r32 = .agg #[r24, r31]
  f8 : L 15 = true → ∃ b8, r8 = .pointer (some ⟨b8, 0, none⟩) ∧ W1.heap.size ≤ b8 ∧ (L 16 = false → Bk w b8 245 #[.slice none 0 0, .slice none 0 0]) ∧ (L 16 = true → Bk w b8 245 #[r24, r31])
  k3 : L 3 = true → L 0 = true
  k6 : L 6 = true → L 3 = true ∧ L 5 = true
  k10 : L 10 = true → L 7 = true
  k13 : L 13 = true → L 10 = true ∧ L 12 = true
  k14 : L 14 = true → L 6 = true ∧ L 13 = true
  k16 : L 16 = true → L 14 = true ∧ L 15 = true
def RAact (A0 : Value) (Am A : Option Addr) (D cm n k c : Nat) (of : Int) (r8 r18 r19 r20 r21 r22 r23 r24 r25 r26 r27 r28 r29 r30 r31 r32 : Value) : Act :=
  { tmps := #[A0, .slice A k c, .int .i64 of, .pointer (some ⟨D, 0, none⟩), undef, undef, .pointer (some ⟨D + 1, 0, none⟩), .int .i64 0, r8, .slice A k c, .bool true, .bool false, undef,
      .pointer (some ⟨D, 0, none⟩), .slice Am n cm, .int .i64 (n : Int), .bool (decide ((5000 : Int) ≤ (n : Int))), undef, r18, r19, r20, r21, r22, r23, r24, r25, r26, r27, r28, r29, r30, r31, r32, undef, undef, undef, undef, undef, undef, undef, undef, undef, undef], defers := [] }
set_option maxRecDepth 100000 in
set_option maxHeartbeats 4000000 in
theorem radd_good (W : World) (Am Ao A : Option Addr) (cm co n k c : Nat) (vs : List Value) (ofs : List Int) (l : List Rg) (of : Int) (hr : rightM l = true) (hrd : Rd W W.heap.size 3 A k (rgs l))
    (hm : Rd W W.heap.size 1 Am n vs) (hmA : Am = none → n = 0) (hm1 : ∀ u ∈ vs, u.oneCell' = true) (ho : Rd W W.heap.size 1 Ao n (ofs.map (Value.int .i64))) (hoA : Ao = none → n = 0) (hn : n < 5000) (hof : of < n) :
    Calls Tryz.prog 182 #[.agg #[.slice Am n cm, .slice Ao n co], .slice A k c, .int .i64 of] W fun e W' => ∃ v o, e = .returned (.tuple #[.agg #[v, o], .int .i64 0]) ∧
      W'.ownsRow W.heap.size 94 1 v (n + 1) (vs ++ [.slice A k c]) ∧ W'.ownsRow W.heap.size 3 1 o (n + 1) ((if 0 ≤ of then (ofs ++ [of]).set of.toNat n else ofs ++ [of]).map (Value.int .i64)) ∧ Below W.heap.size W W' := by
  have hb0 : Below W.heap.size W ((W.alloc (.cells #[.slice Am n cm, .slice Ao n co] 245)).alloc (.cells #[.slice none 0 0, .slice none 0 0] 245)) := belowA
  have k30 := (Bk.new W 245 #[.slice Am n cm, .slice Ao n co]).alloc (.cells #[.slice none 0 0, .slice none 0 0] 245)
  have k60 : Bk ((W.alloc (.cells #[.slice Am n cm, .slice Ao n co] 245)).alloc (.cells #[.slice none 0 0, .slice none 0 0] 245)) (W.heap.size + 1) 245 #[.slice none 0 0, .slice none 0 0] := Bk.made _ _ (by simp)
  have hl := hrd.rlen
  have hri := rright_any A k c l _ (by unfold maxLen; have := right_len hr; omega) (fun _ => (hrd.below hb0).more hb0.size) hl
  rw [hr] at hri
  have HRI := Lib.hid hri
  clear hri hl hr
  go_enter Tryz.func182, Tryz.ntmps182
  go_wp2_with (go_at_call 86; refine HRI.out.mono ?_; rintro e w1 ⟨rfl, hb1⟩; have k3 := k30.ext hb1; have k6 := k60.ext hb1; have c0 := k3.cell 0; have c1 := k3.cell 1; dsimp at c0 c1; have hb2 := hb0.trans (hb1.mono hb0.size); have hz1 := def_lt' k6)
  have hz2 : W.heap.size ≤ w1.heap.size := by omega
  have hm' := hm.below hb2
  have ho' := ho.below hb2
  go_cut [8] (fun v wx => ∃ b8 r24 r31, v = .pointer (some ⟨b8, 0, none⟩) ∧ w1.heap.size ≤ b8 ∧ Below w1.heap.size w1 wx ∧ Bk wx b8 245 #[r24, r31] ∧ wx.ownsRow w1.heap.size 94 1 r24 (n + 1) (vs ++ [.slice A k c]) ∧ wx.ownsRow w1.heap.size 3 1 r31 (n + 1) (ofs.map (Value.int .i64) ++ [.int .i64 of]))
  case first =>
    refine wp_normal ?_
    refine region_inv (fun L a w => ∃ r8 r18 r19 r20 r21 r22 r23 r24 r25 r26 r27 r28 r29 r30 r31 r32, a = RAact (.agg #[.slice Am n cm, .slice Ao n co]) Am A W.heap.size cm n k c of r8 r18 r19 r20 r21 r22 r23 r24 r25 r26 r27 r28 r29 r30 r31 r32 ∧
      RA w1 W.heap.size n vs (ofs.map (Value.int .i64)) Am Ao A cm co k c of L r8 r18 r19 r20 r21 r22 r23 r24 r25 r26 r27 r28 r29 r30 r31 r32 w) (by kernel_rfl) (by kernel_rfl) ?_ ?_ ?_
    · exact ⟨_, _, _, _, _, _, _, _, _, _, _, _, _, _, _, _, rfl, ⟨(Below.refl _ _).drew, by simp, by simp, by simp, by simp, by simp, by simp, Chain.start _ _ _ _ _ _ _ _ _ _, Chain.start _ _ _ _ _ _ _ _ _ _, by simp, by simp, by simp, by simp, by simp, by simp, by simp, by simp⟩⟩
    · rintro L a w i o ⟨r8, r18, r19, r20, r21, r22, r23, r24, r25, r26, r27, r28, r29, r30, r31, r32, rfl, hI⟩ ho hL hd K hK
      match i, ho with
      | 0, ho =>
        simp only [List.getElem?_toArray, List.getElem?_cons_zero, Option.some.injEq] at ho
        subst ho
        clear hd
        unfold RAact
        have hB := hI.below.size
        have h3 : L 3 = false := by cases hx : L 3 with | false => rfl | true => exact absurd (hI.k3 hx) (by rw [hL]; simp)
        have hc := hI.ca
        rw [h3] at hc
        go_simp
        refine hK.out _ _ ⟨_, _, _, _, _, _, _, _, _, _, _, _, _, _, _, _, rfl, ⟨hI.below.alloc hB _, hI.f19, hI.f20, hI.f22, hI.f26, hI.f27, hI.f29, by have := hc.op0 hB; rw [← h3] at this; exact this, hI.cb.alloc _, hI.f32, fun h => let ⟨b8, e, hb, h1, h2⟩ := hI.f8 h; ⟨b8, e, hb, fun a => (h1 a).alloc _, fun a => (h2 a).alloc _⟩, fun _ => rfl, hI.k6, hI.k10, hI.k13, hI.k14, hI.k16⟩⟩
      | 1, ho =>
        simp only [List.getElem?_toArray, List.getElem?_cons_succ, List.getElem?_cons_zero, Option.some.injEq] at ho
        subst ho
        clear hd
        unfold RAact
        go_simp
        refine hK.out _ _ ⟨_, _, _, _, _, _, _, _, _, _, _, _, _, _, _, _, rfl, ⟨hI.below, fun _ => rfl, hI.f20, hI.f22, hI.f26, hI.f27, hI.f29, hI.ca, hI.cb, hI.f32, hI.f8, hI.k3, hI.k6, hI.k10, hI.k13, hI.k14, hI.k16⟩⟩
      | 2, ho =>
        simp only [List.getElem?_toArray, List.getElem?_cons_succ, List.getElem?_cons_zero, Option.some.injEq] at ho
        subst ho
        simp [Region.binds] at hd
        unfold RAact
        obtain rfl := hI.f19 hd
        have hc0 := (hI.below.cell (p := ⟨W.heap.size, 0, none⟩) (by simp; omega)).trans c0
        go_simp
        refine hK.out _ _ ⟨_, _, _, _, _, _, _, _, _, _, _, _, _, _, _, _, rfl, ⟨hI.below, hI.f19, fun _ => rfl, hI.f22, hI.f26, hI.f27, hI.f29, hI.ca, hI.cb, hI.f32, hI.f8, hI.k3, hI.k6, hI.k10, hI.k13, hI.k14, hI.k16⟩⟩
      | 3, ho =>
        simp only [List.getElem?_toArray, List.getElem?_cons_succ, List.getElem?_cons_zero, Option.some.injEq] at ho
        subst ho
        simp [Region.binds] at hd
        unfold RAact
        have hB := hI.below.size
        have h6 : L 6 = false := by cases hx : L 6 with | false => rfl | true => exact absurd (hI.k6 hx).1 (by rw [hL]; simp)
        obtain ⟨d0, d2⟩ := hd
        obtain rfl := hI.f20 d2
        have hc := hI.ca
        rw [d0, hL, h6] at hc
        have ho0 := hc.h0 rfl rfl
        refine app_rd_step Tryz.underlying86 info_rgs rfl (by decide) w1.heap.size _ 0 [] ho0 _ Am n cm vs (hm'.below (hI.below.mono hz2)) hmA hm1 (by unfold maxLen; omega) (by omega) hB rfl (.tmp 18) (.tmp 20) rfl rfl rfl ?_
        intro t2 w2 hown2 hgr2 hat2
        rw [Nat.zero_add] at hown2
        have hb3 := below_own hI.below ho0 hgr2 hB (Nat.le_refl _)
        refine hK.out _ _ ⟨_, _, _, _, _, _, _, _, _, _, _, _, _, _, _, _, rfl, ⟨hb3, hI.f19, hI.f20, hI.f22, hI.f26, hI.f27, hI.f29, by have := hc.op3 (by simpa using hown2) hgr2 hat2; show Chain _ _ _ _ _ (L 0) true (L 5) (L 6) _ _ _ _ _; rw [d0, h6]; exact this, hI.cb.grown ho0 hgr2 (by decide), hI.f32, fun h => let ⟨b8, e, hb, h1, h2⟩ := hI.f8 h; ⟨b8, e, hb, fun a => (h1 a).grown hgr2 (own_ne ho0 (h1 a) (by decide)), fun a => (h2 a).grown hgr2 (own_ne ho0 (h2 a) (by decide))⟩, fun _ => d0, fun h => absurd ((show L 6 = true from h).symm.trans h6) (by simp), hI.k10, hI.k13, hI.k14, hI.k16⟩⟩
      | 4, ho =>
        simp only [List.getElem?_toArray, List.getElem?_cons_succ, List.getElem?_cons_zero, Option.some.injEq] at ho
        subst ho
        clear hd
        unfold RAact
        go_simp
        refine hK.out _ _ ⟨_, _, _, _, _, _, _, _, _, _, _, _, _, _, _, _, rfl, ⟨hI.below, hI.f19, hI.f20, fun _ => rfl, hI.f26, hI.f27, hI.f29, hI.ca, hI.cb, hI.f32, hI.f8, hI.k3, hI.k6, hI.k10, hI.k13, hI.k14, hI.k16⟩⟩
      | 5, ho =>
        simp only [List.getElem?_toArray, List.getElem?_cons_succ, List.getElem?_cons_zero, Option.some.injEq] at ho
        subst ho
        simp [Region.binds] at hd
        unfold RAact
        have hB := hI.below.size
        have h6 : L 6 = false := by cases hx : L 6 with | false => rfl | true => exact absurd (hI.k6 hx).2 (by rw [hL]; simp)
        obtain rfl := hI.f22 hd
        have hc := hI.ca
        rw [h6] at hc
        go_simp
        refine hK.out _ _ ⟨_, _, _, _, _, _, _, _, _, _, _, _, _, _, _, _, rfl, ⟨hI.below.alloc hB _, hI.f19, hI.f20, hI.f22, hI.f26, hI.f27, hI.f29, by have := hc.op5; rw [← h6] at this; exact this, hI.cb.alloc _, hI.f32, fun h => let ⟨b8, e, hb, h1, h2⟩ := hI.f8 h; ⟨b8, e, hb, fun a => (h1 a).alloc _, fun a => (h2 a).alloc _⟩, hI.k3, fun h => ⟨(hI.k6 h).1, rfl⟩, hI.k10, hI.k13, hI.k14, hI.k16⟩⟩
      | 6, ho =>
        simp only [List.getElem?_toArray, List.getElem?_cons_succ, List.getElem?_cons_zero, Option.some.injEq] at ho
        subst ho
        simp [Region.binds] at hd
        unfold RAact
        have hB := hI.below.size
        have h14 : L 14 = false := by cases hx : L 14 with | false => rfl | true => exact absurd (hI.k14 hx).1 (by rw [hL]; simp)
        have h16 : L 16 = false := by cases hx : L 16 with | false => rfl | true => exact absurd ((hI.k16 hx).1.symm.trans h14) (by simp)
        obtain ⟨d3, d5, _⟩ := hd
        have hc := hI.ca
        rw [d3, d5, hL] at hc
        have ho0 := hc.h3 rfl rfl
        obtain ⟨b, rfl, hbk, _, _⟩ := hc.h5 rfl rfl
        refine app_at_step Tryz.underlying86 info_rgs rfl (by decide) w1.heap.size _ n vs ho0 (by unfold maxLen; omega) (by omega) hB b #[.slice A k c] hbk rfl (by simp [Value.oneCell']) rfl (.tmp 21) (.tmp 23) rfl rfl rfl ?_
        intro g cap w2 hown2 hgr2 hat2 hlt2
        have hb3 := below_own hI.below ho0 hgr2 hB (Nat.le_refl _)
        refine hK.out _ _ ⟨_, _, _, _, _, _, _, _, _, _, _, _, _, _, _, _, rfl, ⟨hb3, hI.f19, hI.f20, hI.f22, hI.f26, hI.f27, hI.f29, by have := Chain.op6 (s := r18) (t := r21) (u := .slice (some ⟨b, 0, none⟩) 1 1) (x := .slice A k c) (by simpa using hown2); show Chain _ _ _ _ _ (L 0) (L 3) (L 5) true _ _ _ _ _; rw [hI.k3 d3, d3, d5]; exact this, hI.cb.grown ho0 hgr2 (by decide), fun h => absurd ((show L 14 = true from h).symm.trans h14) (by simp), fun h => let ⟨b8, e, hb, h1, h2⟩ := hI.f8 h; ⟨b8, e, hb, fun a => (h1 a).grown hgr2 (own_ne ho0 (h1 a) (by decide)), fun a => absurd ((show L 16 = true from a).symm.trans h16) (by simp)⟩, hI.k3, fun _ => ⟨d3, d5⟩, hI.k10, hI.k13, fun h => absurd ((show L 14 = true from h).symm.trans h14) (by simp), hI.k16⟩⟩
      | 7, ho =>
        simp only [List.getElem?_toArray, List.getElem?_cons_succ, List.getElem?_cons_zero, Option.some.injEq] at ho
        subst ho
        clear hd
        unfold RAact
        have hB := hI.below.size
        have h10 : L 10 = false := by cases hx : L 10 with | false => rfl | true => exact absurd (hI.k10 hx) (by rw [hL]; simp)
        have hc := hI.cb
        rw [h10] at hc
        go_simp
        refine hK.out _ _ ⟨_, _, _, _, _, _, _, _, _, _, _, _, _, _, _, _, rfl, ⟨hI.below.alloc hB _, hI.f19, hI.f20, hI.f22, hI.f26, hI.f27, hI.f29, hI.ca.alloc _, by have := hc.op0 hB; rw [← h10] at this; exact this, hI.f32, fun h => let ⟨b8, e, hb, h1, h2⟩ := hI.f8 h; ⟨b8, e, hb, fun a => (h1 a).alloc _, fun a => (h2 a).alloc _⟩, hI.k3, hI.k6, fun _ => rfl, hI.k13, hI.k14, hI.k16⟩⟩
      | 8, ho =>
        simp only [List.getElem?_toArray, List.getElem?_cons_succ, List.getElem?_cons_zero, Option.some.injEq] at ho
        subst ho
        clear hd
        unfold RAact
        go_simp
        refine hK.out _ _ ⟨_, _, _, _, _, _, _, _, _, _, _, _, _, _, _, _, rfl, ⟨hI.below, hI.f19, hI.f20, hI.f22, fun _ => rfl, hI.f27, hI.f29, hI.ca, hI.cb, hI.f32, hI.f8, hI.k3, hI.k6, hI.k10, hI.k13, hI.k14, hI.k16⟩⟩
      | 9, ho =>
        simp only [List.getElem?_toArray, List.getElem?_cons_succ, List.getElem?_cons_zero, Option.some.injEq] at ho
        subst ho
        simp [Region.binds] at hd
        unfold RAact
        obtain rfl := hI.f26 hd
        have hc0 := (hI.below.cell (p := ⟨W.heap.size, 1, none⟩) (by simp; omega)).trans c1
        go_simp
        refine hK.out _ _ ⟨_, _, _, _, _, _, _, _, _, _, _, _, _, _, _, _, rfl, ⟨hI.below, hI.f19, hI.f20, hI.f22, hI.f26, fun _ => rfl, hI.f29, hI.ca, hI.cb, hI.f32, hI.f8, hI.k3, hI.k6, hI.k10, hI.k13, hI.k14, hI.k16⟩⟩
      | 10, ho =>
        simp only [List.getElem?_toArray, List.getElem?_cons_succ, List.getElem?_cons_zero, Option.some.injEq] at ho
        subst ho
        simp [Region.binds] at hd
        unfold RAact
        have hB := hI.below.size
        have h13 : L 13 = false := by cases hx : L 13 with | false => rfl | true => exact absurd (hI.k13 hx).1 (by rw [hL]; simp)
        obtain ⟨d0, d2, _⟩ := hd
        obtain rfl := hI.f27 d2
        have hc := hI.cb
        rw [d0, hL, h13] at hc
        have ho0 := hc.h0 rfl rfl
        refine app_rd_step Tryz.underlying51 info_int rfl (by decide) w1.heap.size _ 0 [] ho0 _ Ao n co _ (ho'.below (hI.below.mono hz2)) hoA (by intro u hu; obtain ⟨y, _, rfl⟩ := List.mem_map.1 hu; rfl) (by unfold maxLen; omega) (by omega) hB rfl (.tmp 25) (.tmp 27) rfl rfl rfl ?_
        intro t2 w2 hown2 hgr2 hat2
        rw [Nat.zero_add] at hown2
        have hb3 := below_own hI.below ho0 hgr2 hB (Nat.le_refl _)
        refine hK.out _ _ ⟨_, _, _, _, _, _, _, _, _, _, _, _, _, _, _, _, rfl, ⟨hb3, hI.f19, hI.f20, hI.f22, hI.f26, hI.f27, hI.f29, hI.ca.grown ho0 hgr2 (by decide), by have := hc.op3 (by simpa using hown2) hgr2 hat2; show Chain _ _ _ _ _ (L 7) true (L 12) (L 13) _ _ _ _ _; rw [d0, h13]; exact this, hI.f32, fun h => let ⟨b8, e, hb, h1, h2⟩ := hI.f8 h; ⟨b8, e, hb, fun a => (h1 a).grown hgr2 (own_ne ho0 (h1 a) (by decide)), fun a => (h2 a).grown hgr2 (own_ne ho0 (h2 a) (by decide))⟩, hI.k3, hI.k6, fun _ => d0, fun h => absurd ((show L 13 = true from h).symm.trans h13) (by simp), hI.k14, hI.k16⟩⟩
      | 11, ho =>
        simp only [List.getElem?_toArray, List.getElem?_cons_succ, List.getElem?_cons_zero, Option.some.injEq] at ho
        subst ho
        clear hd
        unfold RAact
        go_simp
        refine hK.out _ _ ⟨_, _, _, _, _, _, _, _, _, _, _, _, _, _, _, _, rfl, ⟨hI.below, hI.f19, hI.f20, hI.f22, hI.f26, hI.f27, fun _ => rfl, hI.ca, hI.cb, hI.f32, hI.f8, hI.k3, hI.k6, hI.k10, hI.k13, hI.k14, hI.k16⟩⟩
      | 12, ho =>
        simp only [List.getElem?_toArray, List.getElem?_cons_succ, List.getElem?_cons_zero, Option.some.injEq] at ho
        subst ho
        simp [Region.binds] at hd
        unfold RAact
        have hB := hI.below.size
        have h13 : L 13 = false := by cases hx : L 13 with | false => rfl | true => exact absurd (hI.k13 hx).2 (by rw [hL]; simp)
        obtain rfl := hI.f29 hd
        have hc := hI.cb
        rw [h13] at hc
        go_simp
        refine hK.out _ _ ⟨_, _, _, _, _, _, _, _, _, _, _, _, _, _, _, _, rfl, ⟨hI.below.alloc hB _, hI.f19, hI.f20, hI.f22, hI.f26, hI.f27, hI.f29, hI.ca.alloc _, by have := hc.op5; rw [← h13] at this; exact this, hI.f32, fun h => let ⟨b8, e, hb, h1, h2⟩ := hI.f8 h; ⟨b8, e, hb, fun a => (h1 a).alloc _, fun a => (h2 a).alloc _⟩, hI.k3, hI.k6, hI.k10, fun h => ⟨(hI.k13 h).1, rfl⟩, hI.k14, hI.k16⟩⟩
      | 13, ho =>
        simp only [List.getElem?_toArray, List.getElem?_cons_succ, List.getElem?_cons_zero, Option.some.injEq] at ho
        subst ho
        simp [Region.binds] at hd
        unfold RAact
        have hB := hI.below.size
        have h14 : L 14 = false := by cases hx : L 14 with | false => rfl | true => exact absurd (hI.k14 hx).2 (by rw [hL]; simp)
        have h16 : L 16 = false := by cases hx : L 16 with | false => rfl | true => exact absurd ((hI.k16 hx).1.symm.trans h14) (by simp)
        obtain ⟨d3, d5, _⟩ := hd
        have hc := hI.cb
        rw [d3, d5, hL] at hc
        have ho0 := hc.h3 rfl rfl
        obtain ⟨b, rfl, hbk, _, _⟩ := hc.h5 rfl rfl
        refine app_at_step Tryz.underlying51 info_int rfl (by decide) w1.heap.size _ n _ ho0 (by unfold maxLen; omega) (by omega) hB b #[.int .i64 of] hbk rfl (by simp [Value.oneCell']) rfl (.tmp 28) (.tmp 30) rfl rfl rfl ?_
        intro g cap w2 hown2 hgr2 hat2 hlt2
        have hb3 := below_own hI.below ho0 hgr2 hB (Nat.le_refl _)
        refine hK.out _ _ ⟨_, _, _, _, _, _, _, _, _, _, _, _, _, _, _, _, rfl, ⟨hb3, hI.f19, hI.f20, hI.f22, hI.f26, hI.f27, hI.f29, hI.ca.grown ho0 hgr2 (by decide), by have := Chain.op6 (s := r25) (t := r28) (u := .slice (some ⟨b, 0, none⟩) 1 1) (x := .int .i64 of) (by simpa using hown2); show Chain _ _ _ _ _ (L 7) (L 10) (L 12) true _ _ _ _ _; rw [hI.k10 d3, d3, d5]; exact this, fun h => absurd ((show L 14 = true from h).symm.trans h14) (by simp), fun h => let ⟨b8, e, hb, h1, h2⟩ := hI.f8 h; ⟨b8, e, hb, fun a => (h1 a).grown hgr2 (own_ne ho0 (h1 a) (by decide)), fun a => absurd ((show L 16 = true from a).symm.trans h16) (by simp)⟩, hI.k3, hI.k6, hI.k10, fun _ => ⟨d3, d5⟩, fun h => absurd ((show L 14 = true from h).symm.trans h14) (by simp), hI.k16⟩⟩
      | 14, ho =>
        simp only [List.getElem?_toArray, List.getElem?_cons_succ, List.getElem?_cons_zero, Option.some.injEq] at ho
        subst ho
        simp [Region.binds] at hd
        unfold RAact
        have h16 : L 16 = false := by cases hx : L 16 with | false => rfl | true => exact absurd ((hI.k16 hx).1.symm.trans hL) (by simp)
        obtain ⟨d6, d13⟩ := hd
        obtain ⟨A24, c24, rfl, _⟩ := own_form (hI.ca.h6 d6)
        obtain ⟨A31, c31, rfl, _⟩ := own_form (hI.cb.h6 d13)
        go_simp
        refine hK.out _ _ ⟨_, _, _, _, _, _, _, _, _, _, _, _, _, _, _, _, rfl, ⟨hI.below, hI.f19, hI.f20, hI.f22, hI.f26, hI.f27, hI.f29, hI.ca, hI.cb, fun _ => rfl, hI.f8, hI.k3, hI.k6, hI.k10, hI.k13, fun _ => ⟨d6, d13⟩, fun h => absurd ((show L 16 = true from h).symm.trans h16) (by simp)⟩⟩
      | 15, ho =>
        simp only [List.getElem?_toArray, List.getElem?_cons_succ, List.getElem?_cons_zero, Option.some.injEq] at ho
        subst ho
        clear hd
        unfold RAact
        have hB := hI.below.size
        have h16 : L 16 = false := by cases hx : L 16 with | false => rfl | true => exact absurd ((hI.k16 hx).2.symm.trans hL) (by simp)
        go_simp
        refine hK.out _ _ ⟨_, _, _, _, _, _, _, _, _, _, _, _, _, _, _, _, rfl, ⟨hI.below.alloc hB _, hI.f19, hI.f20, hI.f22, hI.f26, hI.f27, hI.f29, hI.ca.alloc _, hI.cb.alloc _, hI.f32, fun _ => ⟨_, rfl, hB, fun _ => Bk.new _ _ _, fun a => absurd ((show L 16 = true from a).symm.trans h16) (by simp)⟩, hI.k3, hI.k6, hI.k10, hI.k13, hI.k14, fun h => absurd ((show L 16 = true from h).symm.trans h16) (by simp)⟩⟩
      | 16, ho =>
        simp only [List.getElem?_toArray, List.getElem?_cons_succ, List.getElem?_cons_zero, Option.some.injEq] at ho
        subst ho
        simp [Region.binds] at hd
        unfold RAact
        have d15 : L 15 = true := hd.1
        have d14 : L 14 = true := hd.2.1
        obtain ⟨d6, d13⟩ := hI.k14 d14
        obtain ⟨b8, rfl, hb8, hz8, _⟩ := hI.f8 d15
        have hk8 := hz8 hL
        obtain rfl := hI.f32 d14
        obtain ⟨A24, c24, rfl, _⟩ := own_form (hI.ca.h6 d6)
        obtain ⟨A31, c31, rfl, _⟩ := own_form (hI.cb.h6 d13)
        have y0 := hk8.cell 0
        have y1 := hk8.cell 1
        have yf := hk8.frozen
        have yl := def_lt' hk8
        dsimp at y0 y1
        go_simp
        have hk9 := hk8.set_ 0 (.slice A24 (n + 1) c24)
        have hk10 : Bk _ b8 245 #[.slice A24 (n + 1) c24, .slice A31 (n + 1) c31] := hk9.set_ 1 (.slice A31 (n + 1) c31)
        refine hK.out _ _ ⟨_, _, _, _, _, _, _, _, _, _, _, _, _, _, _, _, rfl, ⟨(hI.below.setCell hb8 _).setCell hb8 _, hI.f19, hI.f20, hI.f22, hI.f26, hI.f27, hI.f29, (hI.ca.set_ hk8 (by decide) _).set_ hk9 (by decide) _, (hI.cb.set_ hk8 (by decide) _).set_ hk9 (by decide) _, hI.f32, fun _ => ⟨b8, rfl, hb8, fun a => absurd (show true = false from a) (by simp), fun _ => hk10⟩, hI.k3, hI.k6, hI.k10, hI.k13, hI.k14, fun _ => ⟨d14, d15⟩⟩⟩
      | n + 17, ho =>
        simp at ho
    · rintro L a w ⟨r8, r18, r19, r20, r21, r22, r23, r24, r25, r26, r27, r28, r29, r30, r31, r32, rfl, hI⟩ hall
      obtain ⟨b8, rfl, hb8, _, hk8⟩ := hI.f8 (hall 15 (by decide))
      unfold RAact
      go_wp2_with fail
      go_meet
      exact ⟨b8, r24, r31, rfl, hb8, hI.below, hk8 (hall 16 (by decide)), hI.ca.h6 (hall 6 (by decide)), hI.cb.h6 (hall 13 (by decide))⟩
  case rest =>
    obtain ⟨b8, r24, r31, rfl, hb8, hbw, hk8, hw24, hw31⟩ := hcut
    obtain ⟨g24, c24, rfl, _, hl24⟩ := hw24.form (by omega)
    obtain ⟨g31, c31, rfl, _, hl31⟩ := hw31.form (by omega)
    have q3 := k3.ext hbw
    have q6 := k6.ext hbw
    have hbB : Below W.heap.size W wc := hb2.trans (hbw.mono hz2)
    have a0 := q3.cell 0
    have y0 := hk8.cell 0; have y1 := hk8.cell 1
    have z0 := q6.cell 0; have z1 := q6.cell 1; have zf := q6.frozen
    have yl := def_lt' hk8; have zl := def_lt' q6; have al := def_lt' q3
    dsimp at a0 y0 y1 z0 z1
    by_cases hof0 : 0 ≤ of
    · obtain ⟨κ, rfl⟩ : ∃ κ : Nat, of = κ := ⟨of.toNat, by omega⟩
      have hkn : κ < n := by omega
      have hcell := hw31.cellAt κ (by omega)
      obtain ⟨u, hu⟩ : ∃ u, (ofs.map (Value.int .i64) ++ [.int .i64 (κ : Int)])[κ]? = some u := ⟨_, List.getElem?_eq_getElem (by have := ho.1; simp at this ⊢; omega)⟩
      rw [hu] at hcell
      have hfr := hw31.frozenAt κ
      obtain ⟨hst, hgr⟩ := hw31.stored κ (.int .i64 (n : Int))
      obtain ⟨cs31, hbk31⟩ := own_typ1 hw31 g31 rfl
      have ne8 : b8 ≠ g31 := fun e => own_ne hw31 hk8 (by decide) (by rw [← e]; rfl)
      have ne3 : W.heap.size ≠ g31 := fun e => own_ne hw31 q3 (by decide) (by rw [← e]; rfl)
      have ne6 : W.heap.size + 1 ≠ g31 := fun e => own_ne hw31 q6 (by decide) (by rw [← e]; rfl)
      have t8 := hk8.far (p := ⟨g31, κ, none⟩) ne8 (.int .i64 (n : Int))
      have t3 := q3.far (p := ⟨g31, κ, none⟩) ne3 (.int .i64 (n : Int))
      have t6 := q6.far (p := ⟨g31, κ, none⟩) ne6 (.int .i64 (n : Int))
      have o24 : (wc.setCell ⟨g31, κ, none⟩ (.int .i64 (n : Int))).ownsRow w1.heap.size 94 1 (.slice (some ⟨g24, 0, none⟩) (n + 1) c24) (n + 1) (vs ++ [.slice A k c]) := by
        refine ownsRow_setCell_other hw24 (fun e => ?_) _
        exact own_ne hw24 hbk31 (by decide) e
      have x8 := t8.cell 0; have x81 := t8.cell 1; have x3 := t3.cell 0; have x6 := t6.cell 0; have x61 := t6.cell 1; have x6f := t6.frozen
      have xl8 := def_lt' t8; have xl6 := def_lt' t6
      dsimp at x8 x81 x3 x6 x61
      have e1 : (κ : Int) < (n + 1 : Nat) := by omega
      go_wp2
      have r6 : Bk (((wc.setCell ⟨g31, κ, none⟩ (.int .i64 (n : Int))).setCell ⟨W.heap.size + 1, 0, none⟩ (.slice (some ⟨g24, 0, none⟩) (n + 1) c24)).setCell ⟨W.heap.size + 1, 1, none⟩ (.slice (some ⟨g31, 0, none⟩) (n + 1) c31)) (W.heap.size + 1) 245 #[.slice (some ⟨g24, 0, none⟩) (n + 1) c24, .slice (some ⟨g31, 0, none⟩) (n + 1) c31] := (t6.set_ 0 _).set_ 1 _
      have d0 := r6.cell 0; have d1 := r6.cell 1
      dsimp at d0 d1
      have t6b := t6.set_ 0 (.slice (some ⟨g24, 0, none⟩) (n + 1) c24)
      have p24 := ownsRow_setCell_other (ownsRow_setCell_other o24 (a := ⟨W.heap.size + 1, 0, none⟩) (own_ne o24 t6 (by decide)) (.slice (some ⟨g24, 0, none⟩) (n + 1) c24)) (a := ⟨W.heap.size + 1, 1, none⟩) (own_ne (ownsRow_setCell_other o24 (a := ⟨W.heap.size + 1, 0, none⟩) (own_ne o24 t6 (by decide)) (.slice (some ⟨g24, 0, none⟩) (n + 1) c24)) t6b (by decide)) (.slice (some ⟨g31, 0, none⟩) (n + 1) c31)
      have p31 := ownsRow_setCell_other (ownsRow_setCell_other hst (a := ⟨W.heap.size + 1, 0, none⟩) (own_ne hst t6 (by decide)) (.slice (some ⟨g24, 0, none⟩) (n + 1) c24)) (a := ⟨W.heap.size + 1, 1, none⟩) (own_ne (ownsRow_setCell_other hst (a := ⟨W.heap.size + 1, 0, none⟩) (own_ne hst t6 (by decide)) (.slice (some ⟨g24, 0, none⟩) (n + 1) c24)) t6b (by decide)) (.slice (some ⟨g31, 0, none⟩) (n + 1) c31)
      have hge := own_ge hw31 g31 rfl
      refine bodyPost_ret (v := .tuple #[.agg #[.slice (some ⟨g24, 0, none⟩) (n + 1) c24, .slice (some ⟨g31, 0, none⟩) (n + 1) c31], .int .i64 0]) (by simp [results, Tryz.results182, go_sem, d0, d1]) rfl ⟨_, _, rfl, own_base p24 hz2, ?_, ?_⟩
      · first | exact own_base p31 hz2 | (rw [if_pos hof0, Int.toNat_natCast, List.map_set, List.map_append]; exact own_base p31 hz2)
      · refine Below.setCell (Below.setCell ?_ (by simp) _) (by simp) _
        exact (hbB.setCell (by simp only; omega) _)
    · go_wp2
      have r6 : Bk ((wc.setCell ⟨W.heap.size + 1, 0, none⟩ (.slice (some ⟨g24, 0, none⟩) (n + 1) c24)).setCell ⟨W.heap.size + 1, 1, none⟩ (.slice (some ⟨g31, 0, none⟩) (n + 1) c31)) (W.heap.size + 1) 245 #[.slice (some ⟨g24, 0, none⟩) (n + 1) c24, .slice (some ⟨g31, 0, none⟩) (n + 1) c31] := (q6.set_ 0 _).set_ 1 _
      have d0 := r6.cell 0; have d1 := r6.cell 1
      dsimp at d0 d1
      have t6b := q6.set_ 0 (.slice (some ⟨g24, 0, none⟩) (n + 1) c24)
      have p24 := ownsRow_setCell_other (ownsRow_setCell_other hw24 (a := ⟨W.heap.size + 1, 0, none⟩) (own_ne hw24 q6 (by decide)) (.slice (some ⟨g24, 0, none⟩) (n + 1) c24)) (a := ⟨W.heap.size + 1, 1, none⟩) (own_ne (ownsRow_setCell_other hw24 (a := ⟨W.heap.size + 1, 0, none⟩) (own_ne hw24 q6 (by decide)) (.slice (some ⟨g24, 0, none⟩) (n + 1) c24)) t6b (by decide)) (.slice (some ⟨g31, 0, none⟩) (n + 1) c31)
      have p31 := ownsRow_setCell_other (ownsRow_setCell_other hw31 (a := ⟨W.heap.size + 1, 0, none⟩) (own_ne hw31 q6 (by decide)) (.slice (some ⟨g24, 0, none⟩) (n + 1) c24)) (a := ⟨W.heap.size + 1, 1, none⟩) (own_ne (ownsRow_setCell_other hw31 (a := ⟨W.heap.size + 1, 0, none⟩) (own_ne hw31 q6 (by decide)) (.slice (some ⟨g24, 0, none⟩) (n + 1) c24)) t6b (by decide)) (.slice (some ⟨g31, 0, none⟩) (n + 1) c31)
      refine bodyPost_ret (v := .tuple #[.agg #[.slice (some ⟨g24, 0, none⟩) (n + 1) c24, .slice (some ⟨g31, 0, none⟩) (n + 1) c31], .int .i64 0]) (by simp [results, Tryz.results182, go_sem, d0, d1]) rfl ⟨_, _, rfl, own_base p24 hz2, ?_, ?_⟩
      · first | exact own_base p31 hz2 | (rw [if_neg (by omega), List.map_append]; exact own_base p31 hz2)
      · exact Below.setCell (Below.setCell hbB (by simp) _) (by simp) _
theorem rightB_iff {r : Rg} {p side : Int} : rightB r p side = true ↔ ((0 < r.old ∧ p = r.at_ + r.old) ∨ (¬ (0 < r.old ∧ p = r.at_) ∧ ¬ (0 < r.old ∧ p = r.at_ + r.old) ∧ 0 ≤ side)) := by
  unfold rightB; split <;> simp <;> omega
theorem goneB_iff {r : Rg} {p side : Int} : goneB r p side = true ↔ ((side < 0 ∧ r.at_ < p) ∨ (0 ≤ side ∧ p < r.at_ + r.old)) := by
  unfold goneB; split <;> simp <;> omega
theorem wv {a o n i s p side : Int} (R G I : Bool) (hR : rightB ⟨a, o, n⟩ p side = R) (hG : goneB ⟨a, o, n⟩ p side = G) (hI : decide (a < p ∧ p < a + o) = I) :
    withinS ⟨a, o, n⟩ i s p side = ⟨a + s + (if R then n else 0), G, I, if G then i else 0, if G then p - a else 0⟩ := by subst hR hG hI; rfl
theorem Bk.at_ {W : World} {b : Nat} (t : TypeId) (cs : Array Value) (h : W.heap.size = b) : Bk (W.alloc (.cells cs t)) b t cs := by subst h; exact Bk.new W t cs
set_option maxRecDepth 100000 in
set_option maxHeartbeats 20000000 in
theorem rtell_any (A : Option Addr) (n c : Nat) (l : List Rg) (p side : Int) (w : World) (hrd : Rd w w.heap.size 3 A n (rgs l)) (hr : rightM l = true) (hp0 : 0 ≤ p) (hp1 : p ≤ 1099511627776) :
    Calls Tryz.prog 215 #[.slice A n c, .int .i64 p, .int .i64 side] w fun e w' => e = .returned (tellM l p side).val ∧ Below w.heap.size w w' := by
  have hl := hrd.rlen
  have hn2 : n ≤ 1000 := by have := right_len hr; omega
  have hsh := fun (m : Nat) (hm : m ≤ n) W (hb : Below w.heap.size w W) => rshift_any A n c m l W ((hrd.below hb).more hb.size) hr hm
  have HSH := Lib.hid hsh
  have HR := Lib.hid hr
  have HL := Lib.hid hl
  clear hsh hr hl
  have hv : ∀ x y z u v, Pl.mk x y z u v = tellM l p side → Value.agg #[.int .i64 x, .bool y, .bool z, .int .i64 u, .int .i64 v] = (tellM l p side).val := fun x y z u v h => by rw [← h]; rfl
  have HV := Lib.hid hv
  clear hv
  go_enter Tryz.func215, Tryz.ntmps215
  go_wp2
  go_loopw [7] (fun i wr => ∃ k : Nat, k ≤ n ∧ i = .int .i64 k ∧ Hid (tellFrom p side k (shiftL (l.take k)) (l.drop k) = tellM l p side) ∧ ∃ q, wr = (w.alloc (.cells #[.int .i64 0, .bool false, .bool false, .int .i64 0, .int .i64 0] 301)).drewN q) (fun i _ => n - (intOf i).toNat)
  case atStart => exact ⟨0, by omega, rfl, rfl, 0, rfl⟩
  case round =>
    obtain ⟨k, hk, rfl, hI, q, rfl⟩ := hrel
    by_cases hkn : k < n
    · obtain ⟨b, o, rfl, hbB, _⟩ := hrd.2 (by omega)
      obtain ⟨r, hx⟩ : ∃ r, l[k]? = some r := ⟨_, List.getElem?_eq_getElem (by have := HL.out; omega)⟩
      obtain ⟨hc0, hc1, hc2, hb⟩ := hrd.rg hx
      have hfit := right_fits HR.out r (List.mem_of_getElem? hx)
      have hsb := shift_take_bd HR.out k
      have hsn := shiftL_snoc hx
      have hdr := drop_cons hx
      have hI' := hI.out
      rw [hdr] at hI'
      have HI := Lib.hid hI'
      have HS := Lib.hid hsn
      clear hx hsn hdr hI hI'
      obtain ⟨f1, f2, f3, f4, f5, f6⟩ := hfit
      have e1 : IntKind.i64.wrap (r.at_ + r.old) = r.at_ + r.old := IntWalk.i64_in _ (by omega)
      have e3 : (k : Int) < n := by omega
      by_cases h1 : r.at_ + r.old < p
      · have HN := Lib.hid ((tellFrom_step h1).symm.trans HI.out)
        clear HI
        go_wp2
        go_quiet (fail)
        go_wp2
        go_roundw
        case rel => exact ⟨k + 1, by omega, by go_num, Lib.hid (by rw [HS.out]; exact HN.out), q + _, rfl⟩
        case measure => simp [intOf]; omega
      · have e4 : ((k : Int) == n) = false := by simp; omega
        by_cases h2 : r.at_ ≤ p
        · have HN := Lib.hid ((tellFrom_in h1 h2).symm.trans HI.out)
          obtain ⟨a, o1, nn⟩ := r
          simp only at f1 f2 f3 f4 f5 f6 h1 h2 hc0 hc1 hc2 e1
          generalize hs : shiftL (l.take k) = s at *
          have e5 : IntKind.i64.wrap (p + s) = p + s := IntWalk.i64_in _ (by omega)
          have e6 : IntKind.i64.wrap (a + s) = a + s := IntWalk.i64_in _ (by omega)
          have e7 : IntKind.i64.wrap (a + s + nn) = a + s + nn := IntWalk.i64_in _ (by omega)
          have e8 : IntKind.i64.wrap (p - a) = p - a := IntWalk.i64_in _ (by omega)
          have e9 : IntKind.i64.wrap (p - 1) = p - 1 := IntWalk.i64_in _ (by omega)
          have hc : (o1 = 0 ∧ p = a ∧ (p == a) = true ∧ (p == a + o1) = true) ∨ (0 < o1 ∧ p = a ∧ (p == a) = true ∧ (p == a + o1) = false) ∨ (0 < o1 ∧ p = a + o1 ∧ (p == a) = false ∧ (p == a + o1) = true) ∨ (0 < o1 ∧ a < p ∧ p < a + o1 ∧ (p == a) = false ∧ (p == a + o1) = false) := by
            simp only [beq_iff_eq, beq_eq_false_iff_ne]; omega
          have hd : side < 0 ∨ 0 ≤ side := by omega
          clear HI HS hsb
          go_wp2
          go_quiet (fail)
          go_wp2_with (go_at_call 68; refine (HSH.out k (by omega) _ belowA).mono ?_; rw [hs]; rintro e w1 ⟨rfl, q1, rfl⟩)
          go_cut [67] (fun v wx => v = .int .i64 (a + s) ∧ Below w.heap.size w wx ∧ Bk wx w.heap.size 301 #[.int .i64 0, .bool false, .bool false, .int .i64 0, .int .i64 0] ∧ Bk wx (w.heap.size + 1) 301 #[.int .i64 (a + s), .bool false, .bool false, .int .i64 0, .int .i64 0] ∧ Bk wx (w.heap.size + 1 + 1) 155 #[.int .i64 a, .int .i64 o1, .int .i64 nn])
          case first =>
            go_region_law (go_simp; go_at_call 68; refine (HSH.out k (by omega) _ belowA).mono ?_; rw [hs]; rintro e w1 ⟨rfl, q2, rfl⟩)
            all_goals
              go_wp2_with fail
              go_meet
              refine ⟨rfl, ?_, ((((((Bk.new w _ _).drewN _).alloc _).alloc _).drewN _).far (by simp) _), (((Bk.at_ _ _ (by simp)).alloc _).drewN _).set_ 0 _, ((Bk.at_ _ _ (by simp)).drewN _).far (by simp) _⟩
              exact belowA
          case rest =>
          obtain ⟨rfl, hb1, r6, r8, r9⟩ := hcut
          have c60 := r6.cell 0; have c61 := r6.cell 1; have c62 := r6.cell 2; have c63 := r6.cell 3; have c64 := r6.cell 4; have f6 := r6.frozen
          have c80 := r8.cell 0; have c81 := r8.cell 1; have c82 := r8.cell 2; have c83 := r8.cell 3; have c84 := r8.cell 4; have f8 := r8.frozen
          have c90 := r9.cell 0; have c91 := r9.cell 1; have c92 := r9.cell 2
          dsimp at c60 c61 c62 c63 c64 c80 c81 c82 c83 c84 c90 c91 c92
          have z2 := def_lt' r9
          rcases hc with ⟨c1, c2, t1, t2⟩ | ⟨c1, c2, t1, t2⟩ | ⟨c1, c2, t1, t2⟩ | ⟨c1, c2, c3, t1, t2⟩ <;> rcases hd with hd | hd
          all_goals
            have C2 := Lib.hid c2
            have C1 := Lib.hid c1
            first | (have c0 : o1 ≤ 0 := (by omega); have ho : (o1 == 0) = true := beq_iff_eq.2 (by omega)) | (have c0 : 0 < o1 := (by omega); have ho : (o1 == 0) = false := beq_eq_false_iff_ne.2 (by omega))
            clear c1
          all_goals
            first | (have hR : rightB ⟨a, o1, nn⟩ p side = true := rightB_iff.2 (by simp only; omega)) | (have hR : rightB ⟨a, o1, nn⟩ p side = false := Bool.eq_false_iff.2 (fun h => by have := rightB_iff.1 h; simp only at this; omega))
            first | (have hG : goneB ⟨a, o1, nn⟩ p side = true := goneB_iff.2 (by simp only; omega)) | (have hG : goneB ⟨a, o1, nn⟩ p side = false := Bool.eq_false_iff.2 (fun h => by have := goneB_iff.1 h; simp only at this; omega))
            first | (have hJ : decide (a < p ∧ p < a + o1) = true := decide_eq_true (by omega)) | (have hJ : decide (a < p ∧ p < a + o1) = false := decide_eq_false (by omega))
            have HV2 := (wv (i := k) (s := s) _ _ _ hR hG hJ).symm.trans HN.out
            clear hR hG hJ
          all_goals first
            | (have hx : p ≤ a := by omega
               first | (have hy : a + o1 ≤ p := by omega) | (have hy : p < a + o1 := by omega)
               have hz : p - 1 < a := by omega
               clear c2
               go_wp2)
            | (have hx : a < p := by omega
               have hy : p < a + o1 := by omega
               have hz : a ≤ p - 1 := by omega
               have hz2 : p - 1 < a + o1 := by omega
               clear c2
               go_wp2)
            | (have hx : a < p := by omega
               have hy : a + o1 ≤ p := by omega
               have hz : a ≤ p - 1 := by omega
               have hz2 : p - 1 < a + o1 := by omega
               clear c2
               go_wp2)
          all_goals
            have d2 := C2.out
            first | subst d2 | skip
            refine bodyPost_ret ?_ rfl ⟨rfl, ?_⟩
            · simp [results, Tryz.results215, go_sem, c60, c61, c62, c63, c64]
              exact HV.out _ _ _ _ _ (by rw [← HV2]; simp <;> omega)
            · exact belowA
        · have HN := Lib.hid ((tellFrom_out h1 h2).symm.trans HI.out)
          have e5 : IntKind.i64.wrap (p + shiftL (l.take k)) = p + shiftL (l.take k) := IntWalk.i64_in _ (by omega)
          clear HI
          go_wp2
          go_quiet (fail)
          go_wp2_with (go_at_call 68; refine (HSH.out k (by omega) _ belowA).mono ?_; rintro e w1 ⟨rfl, q1, rfl⟩)
          refine bodyPost_ret (v := (tellM l p side).val) ?_ rfl ⟨rfl, ?_⟩
          · rw [← HN.out]
            simp [results, Tryz.results215, go_sem, Pl.val]
          · exact belowA
    · obtain rfl : n = k := by omega
      have e0 : tellM l p side = ⟨p + shiftL (l.take n), false, false, 0, 0⟩ := by
        rw [← hI.out, List.drop_of_length_le (by rw [HL.out]; omega)]; rfl
      have hsb := shift_take_bd HR.out n
      have e1 : IntKind.i64.wrap (p + shiftL (l.take n)) = p + shiftL (l.take n) := IntWalk.i64_in _ (by omega)
      clear hI
      have e3 : decide ((n : Int) < n) = false := by simp
      have e4 : ((n : Int) == n) = true := by simp
      go_wp2
      go_quiet (fail)
      go_wp2_with (go_at_call 68; refine (HSH.out n (by omega) _ belowA).mono ?_; rintro e w1 ⟨rfl, q1, rfl⟩)
      refine bodyPost_ret (v := (tellM l p side).val) ?_ rfl ⟨rfl, ?_⟩
      · rw [e0]
        simp [results, Tryz.results215, go_sem, Pl.val]
      · exact belowA
end Go.Proofs.YtmacfoebfpljoaaGreat
