/- route: ranging over a map of integers; From -/
import Derived.Test.YtkkbmcpimglcpaaRtX
import Derived.Maps.RangeWalk
namespace Go.Proofs.Ytkkbmcpimglcpaa
open Go.RowKit Go.MapKept Go.ChangeMaps

/-- a range over a map of integers under way: which keys are still to come, and how many -/
def Iter (W : World) (b r : Nat) (f : IMap) (left : Int → Bool) (cnt : Nat) : Prop :=
  ∃ es clock since seen c0, W.heap[b]? = some (.map es clock) ∧ MapFits es clock f ∧ W.heap[r]? = some (.mapIter (some b) since seen c0) ∧ (∀ x ∈ es.toList, x.born < since) ∧ since ≤ c0 ∧ since ≤ clock ∧ (leftOf es seen).size = cnt ∧
    (∀ x ∈ es.toList, ∀ k, x.key = .int .i64 k → left k = !seen.contains x.born) ∧ (∀ k, left k = true → (f k).isSome = true)
section
variable {W W' : World} {b r : Nat} {f : IMap} {left : Int → Bool} {cnt : Nat}
theorem Iter.left_eq (h : Iter W b r f left cnt) : W.rangeLeft b r = cnt := by
  obtain ⟨es, clock, since, seen, c0, hb, _, hr, _, _, _, hc, _⟩ := h
  simp only [World.rangeLeft, hb, hr]
  exact hc
theorem Iter.ne (h : Iter W b r f left cnt) : r ≠ b := by
  obtain ⟨es, clock, since, seen, c0, hb, _, hr, _⟩ := h
  intro e
  rw [e, hb] at hr
  cases hr
theorem Iter.lt (h : Iter W b r f left cnt) : b < W.heap.size ∧ r < W.heap.size := by
  obtain ⟨es, clock, since, seen, c0, hb, _, hr, _⟩ := h
  exact ⟨(Array.getElem?_eq_some_iff.1 hb).1, (Array.getElem?_eq_some_iff.1 hr).1⟩
theorem Iter.is (h : Iter W b r f left cnt) : MapIs W b f := by
  obtain ⟨es, clock, since, seen, c0, hb, hf, _⟩ := h
  exact ⟨es, clock, hb, hf⟩
theorem Iter.keep (h : Iter W b r f left cnt) (hb' : W'.heap[b]? = W.heap[b]?) (hr' : W'.heap[r]? = W.heap[r]?) : Iter W' b r f left cnt := by
  obtain ⟨es, clock, since, seen, c0, hb, hf, hr, rest⟩ := h
  exact ⟨es, clock, since, seen, c0, hb'.trans hb, hf, hr'.trans hr, rest⟩
theorem Iter.block (h : Iter W b r f left cnt) : ∃ s q c, W.heap[r]? = some (.mapIter (some b) s q c) := by
  obtain ⟨es, clock, since, seen, c0, hb, hf, hr, rest⟩ := h
  exact ⟨_, _, _, hr⟩

theorem MapFits.one_key {es : Array MapEntry} {clock : Nat} (h : MapFits es clock f) {x y : MapEntry} {k : Int} (hx : x ∈ es.toList) (hy : y ∈ es.toList) (h1 : x.key = .int .i64 k) (h2 : y.key = .int .i64 k) : x = y := by
  obtain ⟨⟨s1, s2, s3⟩, _⟩ := h
  have hp : es.toList.Pairwise (fun x y => x.key ≠ y.key) := by
    have := List.pairwise_map.1 s3
    exact this
  exact entry_eq_of_key hp hx hy (h1.trans h2.symm)

theorem run_range_iter (h : MapIs W b f) : ∃ o, (Instr.range 49 (.map (some b))).run Try.prog W = .ok (.pointer (some ⟨W.heap.size, 0, none⟩)) (W.alloc o) ∧ ∃ cnt, Iter (W.alloc o) b W.heap.size f (fun k => (f k).isSome) cnt := by
  obtain ⟨es, clock, hb, hf⟩ := h
  have hlt := (Array.getElem?_eq_some_iff.1 hb).1
  refine ⟨_, run_range_map W 49 _ _ b es clock uMap hb, _, es, clock, clock, #[], clock, ((MapKept.heap_alloc W _).2 b hlt).trans hb, hf, (MapKept.heap_alloc W _).1, hf.1.1, Nat.le_refl _, Nat.le_refl _, rfl, fun x hx k hk => ?_, fun k hk => hk⟩
  obtain ⟨k', v, e1, _, e2⟩ := hf.2.1 x hx
  rw [hk] at e1
  injection e1 with _ e1
  subst e1
  show (f k).isSome = _
  rw [e2]; simp

theorem Iter.next (h : Iter W b r f left cnt) (ty : TypeId) :
    (cnt = 0 ∧ (∀ k, left k = false) ∧ (Instr.next (.pointer (some ⟨r, 0, none⟩)) false ty).run Try.prog W = .ok (.tuple #[.bool false]) W) ∨
    ∃ k v W' cnt', f k = some v ∧ left k = true ∧ (Instr.next (.pointer (some ⟨r, 0, none⟩)) false ty).run Try.prog W = .ok (.tuple #[.bool true, .int .i64 k, .int .i64 v]) W' ∧
      Iter W' b r f (fun x => left x && decide (x ≠ k)) cnt' ∧ cnt' < cnt ∧ W.grownBy W' (some r) ∧ W'.heap.size = W.heap.size ∧ (Instr.entry (.pointer (some ⟨r, 0, none⟩))).run Try.prog W' = .ok (.tuple #[.int .i64 k, .int .i64 v]) W' := by
  have hne := h.ne
  obtain ⟨es, clock, since, seen, c0, hb, F, hr, hold, hsc, hsk, rfl, hl1, hl2⟩ := h
  rcases run_next_at (P := Try.prog) W ty r b since c0 seen es clock hr hb hold hsc with ⟨h0, hrun⟩ | ⟨e, he, w1, hal, hrun⟩
  · refine .inl ⟨h0, fun k => ?_, hrun⟩
    cases hk : left k
    · rfl
    · obtain ⟨v, hv⟩ := Option.isSome_iff_exists.1 (hl2 k hk)
      obtain ⟨x, hx, e1, _⟩ := F.2.2 k v hv
      rw [hl1 x hx k e1, all_seen es seen h0 x hx] at hk
      cases hk
  · obtain ⟨hem, hes⟩ := mem_left he
    obtain ⟨k, v, e1, e2, e3⟩ := F.2.1 e hem
    have hr1 : w1.heap[r]? = some (.mapIter (some b) since seen c0) := by rcases hal with rfl | rfl <;> exact hr
    have hb1 : w1.heap[b]? = some (.map es clock) := by rcases hal with rfl | rfl <;> exact hb
    have hset := heap_set (o' := .mapIter (some b) since (seen.push e.born) clock) hr1
    have hb' : (setBlock w1 r (.mapIter (some b) since (seen.push e.born) clock)).heap[b]? = some (.map es clock) := (hset.2 b (fun e1 => hne e1.symm)).trans hb1
    have hen := run_entry_at (P := Try.prog) _ r b since seen es clock e hset.1 hb' hem F.1.2.1
    rw [e1, e2] at hrun hen
    refine .inr ⟨k, v, _, _, e3, by rw [hl1 e hem k e1, hes]; rfl, hrun,
      ⟨es, clock, since, seen.push e.born, clock, hb', F, hset.1, hold, hsk, hsk, rfl, fun x hx k' hk' => ?_, fun k' hk' => hl2 k' (by simp at hk'; exact hk'.1)⟩, left_shrinks es seen e he, ?_, ?_, hen⟩
    · show (left k' && decide (k' ≠ k)) = _
      rw [hl1 x hx k' hk', contains_push]
      by_cases hkk : k' = k
      · subst hkk
        obtain rfl := F.one_key hx hem hk' e1
        simp
      · have : (x.born == e.born) = false := by
          cases hc : x.born == e.born with
          | false => rfl
          | true =>
            obtain rfl := born_inj F.1.2.1 hx hem (by simpa using hc)
            rw [e1] at hk'
            injection hk' with _ hk'
            exact absurd hk'.symm hkk
        rw [this]; simp [hkk]
    · rcases hal with rfl | rfl <;> exact ⟨rfl, rfl, rfl, by simp [setBlock], fun i _ hi => hset.2 i (fun e1 => hi (by rw [e1]))⟩
    · rcases hal with rfl | rfl <;> simp [setBlock]
end

section
variable (w : World) {ops : Array Oper} {rest : List Oper} {o : Oper} {a : Act} {Q : Exit → Act → World → Prop}
theorem wpl_range (hg : o.guard = none) (m : Operand) (hop : o.op = Op.range 49 m) (b : Nat) (f : IMap) (hm : a.eval m = .map (some b)) (h : MapIs w b f)
    (hK : ∀ x cnt, Iter (w.alloc x) b w.heap.size f (fun k => (f k).isSome) cnt → wpList Try.prog ops Q rest (a.put o.dst (.pointer (some ⟨w.heap.size, 0, none⟩))) (w.alloc x)) : wpList Try.prog ops Q (o :: rest) a w := by
  refine wpList_plain hg fun K' hK' => ?_
  obtain ⟨x, hrun, cnt, r1⟩ := run_range_iter h
  unfold Oper.wp
  simp [execOp, hop, hm, hrun, Result.andThen]
  exact hK' _ _ (hK x cnt r1)
theorem wpl_next (hg : o.guard = none) (it : Operand) (hop : o.op = Op.next it false) (b r : Nat) (f : IMap) (left : Int → Bool) (cnt : Nat) (hit : a.eval it = .pointer (some ⟨r, 0, none⟩)) (h : Iter w b r f left cnt)
    (hDone : cnt = 0 → (∀ k, left k = false) → wpList Try.prog ops Q rest (a.put o.dst (.tuple #[.bool false])) w)
    (hMore : ∀ (k v : Int) (w' : World) (cnt' : Nat), f k = some v → left k = true → Iter w' b r f (fun x => left x && decide (x ≠ k)) cnt' → cnt' < cnt → w.grownBy w' (some r) → w'.heap.size = w.heap.size →
      (Instr.entry (.pointer (some ⟨r, 0, none⟩))).run Try.prog w' = .ok (.tuple #[.int .i64 k, .int .i64 v]) w' → wpList Try.prog ops Q rest (a.put o.dst (.tuple #[.bool true, .int .i64 k, .int .i64 v])) w') :
    wpList Try.prog ops Q (o :: rest) a w := by
  refine wpList_plain hg fun K' hK' => ?_
  unfold Oper.wp
  rcases h.next o.type with ⟨h0, hl, hrun⟩ | ⟨k, v, w', cnt', e1, e2, hrun, hI, hlt, hgr, hsz, hen⟩
  · simp [execOp, hop, hit, hrun, Result.andThen]
    exact hK' _ _ (hDone h0 hl)
  · simp [execOp, hop, hit, hrun, Result.andThen]
    exact hK' _ _ (hMore k v w' cnt' e1 e2 hI hlt hgr hsz hen)
end

set_option maxRecDepth 100000 in
set_option maxHeartbeats 1000000 in
theorem clone_ms (A : Option Addr) (n c : Nat) (vs : List Value) (w : World) (h : Rd w w.heap.size 1 A n vs) (hA : A = none → n = 0) (hn : n ≤ 1000000) (h1 : ∀ u ∈ vs, u.oneCell' = true) :
    Calls Try.prog 45 #[.slice A n c] w (Cloned 22 1 n vs w) := by
  cases A with
  | none =>
    obtain rfl : n = 0 := hA rfl
    clear hA
    have heq := fun w' => Lib.run_eql_slice_nil (P := Try.prog) w' 48 22 none 0 c 0 0 Try.underlying48
    go_enter Try.func45, Try.ntmps45
    go_wp2
    go_ret
    exact cloned_nil _ _ _ _ _ rfl h.1
  | some a =>
    have heq := fun w' => Lib.run_eql_slice_nil (P := Try.prog) w' 48 22 (some a) n c 0 0 Try.underlying48
    go_enter Try.func45, Try.ntmps45
    go_wp2_with (at_builtin; ((with_reducible refine app_rd Try.underlying48 info_rgs rfl (by decide) _ w.heap.size _ 0 [] (own_empty w _ _ _ (Nat.le_refl _)) _ (some a) n c vs (h.alloc (Nat.le_refl _) _) (by simp) h1 (by unfold maxLen; omega) (by omega) (by simp) rfl _ _ rfl rfl rfl ?_); intro v' w1 hown hgr hat))
    go_ret
    refine ⟨v', rfl, by simpa using hown, ((Below.refl _ w).alloc (Nat.le_refl _) _).grown hgr (by simp) (by intro k hk; simp [Value.ownBlock] at hk; omega)⟩
end Go.Proofs.Ytkkbmcpimglcpaa

namespace Go.Proofs.Ytkkbmcpimglcpaa
open Go.RowKit Go.MapKept Go.ChangeMaps

def SymF (f : IMap) : Prop := ∀ a b, f a = some b → f b = some a
/-- the mirrors from map i on, those still to come left out -/
def fromG (f : IMap) (i : Int) (left : Int → Bool) : IMap := fun x => if 0 ≤ x then (f (x + i)).bind (fun v => if i ≤ v ∧ left (min (x + i) v) = false then some (v - i) else none) else none
def fromM (f : IMap) (i : Int) : IMap := fromG f i (fun _ => false)
theorem fromG_start {f : IMap} {i : Int} (hs : SymF f) : fromG f i (fun k => (f k).isSome) = fun _ => none := by
  funext x
  unfold fromG
  split
  · cases hf : f (x + i) with
    | none => rfl
    | some v =>
      simp only [Option.bind_some]
      have h2 := hs _ _ hf
      rw [if_neg]
      rintro ⟨_, h⟩
      rcases Int.le_total (x + i) v with hle | hle
      · rw [Int.min_eq_left hle, hf] at h; cases h
      · rw [Int.min_eq_right hle, h2] at h; cases h
  · rfl
theorem fromG_skip {f : IMap} {i a b : Int} {left : Int → Bool} (hs : SymF f) (ha : f a = some b) (hn : ¬ (i ≤ a ∧ a < b)) (hne : a ≠ b) : fromG f i (fun x => left x && decide (x ≠ a)) = fromG f i left := by
  funext x
  unfold fromG
  split
  · rename_i h0
    cases hf : f (x + i) with
    | none => rfl
    | some v =>
      simp only [Option.bind_some]
      by_cases hv : i ≤ v
      · have hm : min (x + i) v ≠ a := by
          intro hm
          rcases Int.le_total (x + i) v with hle | hle
          · rw [Int.min_eq_left hle] at hm
            subst hm
            rw [hf] at ha
            injection ha with ha
            omega
          · rw [Int.min_eq_right hle] at hm
            subst hm
            have := hs _ _ hf
            rw [ha] at this
            injection this with this
            omega
        have e : (left (min (x + i) v) && decide (min (x + i) v ≠ a)) = left (min (x + i) v) := by rw [decide_eq_true hm, Bool.and_true]
        simp only [e]
      · rw [if_neg (fun h => hv h.1), if_neg (fun h => hv h.1)]
  · rfl
theorem fromG_step {f : IMap} {i a b : Int} {left : Int → Bool} (hs : SymF f) (ha : f a = some b) (h1 : i ≤ a) (h2 : a < b) : fromG f i (fun x => left x && decide (x ≠ a)) = upd (upd (fromG f i left) (a - i) (b - i)) (b - i) (a - i) := by
  have hb := hs _ _ ha
  funext x
  unfold upd
  by_cases e1 : x = b - i
  · rw [if_pos e1]
    subst e1
    unfold fromG
    rw [if_pos (by omega), show b - i + i = b by omega, hb, Option.bind_some, if_pos ⟨h1, by rw [Int.min_eq_right (by omega)]; simp⟩]
  · rw [if_neg e1]
    by_cases e2 : x = a - i
    · rw [if_pos e2]
      subst e2
      unfold fromG
      rw [if_pos (by omega), show a - i + i = a by omega, ha, Option.bind_some, if_pos ⟨by omega, by rw [Int.min_eq_left (by omega)]; simp⟩]
    · rw [if_neg e2]
      unfold fromG
      split
      · cases hf : f (x + i) with
        | none => rfl
        | some v =>
          simp only [Option.bind_some]
          have hm : min (x + i) v ≠ a := by
            intro hm
            rcases Int.le_total (x + i) v with hle | hle
            · rw [Int.min_eq_left hle] at hm; omega
            · rw [Int.min_eq_right hle] at hm
              subst hm
              have := hs _ _ hf
              rw [ha] at this
              injection this with this
              omega
          have e : (left (min (x + i) v) && decide (min (x + i) v ≠ a)) = left (min (x + i) v) := by rw [decide_eq_true hm, Bool.and_true]
          simp only [e]
      · rfl
theorem fromG_end {f : IMap} {i : Int} {left : Int → Bool} (h : ∀ k, left k = false) : fromG f i left = fromM f i := by
  have : left = fun _ => false := funext h
  rw [this]; rfl
theorem fromM_ok {f : IMap} {n i : Nat} (h : MirOk f n) (hi : i ≤ n) : MirOk (fromM f i) (n - i) := by
  intro x k hk
  unfold fromM fromG at hk
  split at hk
  · cases hf : f (x + i) with
    | none => rw [hf] at hk; cases hk
    | some v =>
      rw [hf] at hk
      simp at hk
      have := h _ _ hf
      omega
  · cases hk

theorem RouteIs.foot_iter {W : World} {base R : Nat} {ms : List (List Rg)} {f : IMap} (h : RouteIs W base R ms f) {j : Nat} (hj : Foot W R j) (m : Option Nat) (s : Nat) (q : Array Nat) (c : Nat) : W.heap[j]? ≠ some (.mapIter m s q c) := by
  obtain ⟨v, mo, vs, k1, k2, k3, k4, k5⟩ := h
  rcases (Foot.one k1).1 hj with rfl | e | e
  · have h1 : W.heap[j]? = some (.cells #[v, .map mo] 51 (0, 0)) := k1
    rw [h1]; intro h; cases h
  · obtain ⟨cur, hc⟩ := own_type k3 j e
    have h1 : W.heap[j]? = some (.cells cur 22 (0, 0)) := hc
    rw [h1]; intro h; cases h
  · rcases k5 with ⟨e2, _⟩ | ⟨b, e2, _, hm⟩
    · rw [e2] at e; cases e
    · rw [e2] at e
      injection e with e
      subst e
      obtain ⟨es, clock, h1, _⟩ := hm
      rw [h1]; intro h; cases h

theorem sub_rd {W : World} {B n i : Nat} {A : Option Addr} {vs : List Value} (h : Rd W B 1 A n vs) (hA : A = none → n = 0) (hi : i ≤ n) : Rd W B 1 (if n = i then A else A.map (fun x => x.add i)) (n - i) (vs.drop i) ∧ ((if n = i then A else A.map (fun x => x.add i)) = none → n - i = 0) := by
  by_cases e : n = i
  · subst e
    rw [if_pos rfl]
    have hv : vs.drop n = [] := List.drop_eq_nil_of_le (by have := h.1; omega)
    rw [hv, Nat.sub_self]
    exact ⟨Rd.nil_ _ _ _ _, fun _ => rfl⟩
  · rw [if_neg e]
    obtain ⟨b, o, u, rfl, _⟩ := h.at1 (k := i) (by omega)
    have hc := h.cut (k := i) (m := n) hi (Nat.le_refl _)
    simp only [Nat.mul_one] at hc
    rw [List.take_of_length_le (by have := h.1; simp; omega)] at hc
    have e2 : Option.map (fun x : Addr => x.add i) (some ⟨b, o, none⟩) = some ⟨b, o + i, none⟩ := by simp [Addr.add]
    rw [e2]
    exact ⟨hc, fun h => by simp at h⟩
theorem each_one {W : World} {base : Nat} {vs : List Value} {ms : List (List Rg)} (h : Each W base vs ms) (hl : vs.length = ms.length) (i : Nat) : ∀ u ∈ vs.drop i, u.oneCell' = true := by
  intro u hu
  obtain ⟨j, hj⟩ := List.mem_iff_getElem?.1 (List.mem_of_mem_drop hu)
  have hlt := (List.getElem?_eq_some_iff.1 hj).1
  obtain ⟨A, n, c, e1, _⟩ := h j ms[j] (List.getElem?_eq_getElem (by omega))
  rw [e1] at hj
  injection hj with hj
  subst hj
  rfl
theorem Each.drop {W : World} {base : Nat} {vs : List Value} {ms : List (List Rg)} (h : Each W base vs ms) (i : Nat) : Each W base (vs.drop i) (ms.drop i) := by
  intro k m hk
  rw [List.getElem?_drop] at hk
  obtain ⟨A, n, c, e1, e2⟩ := h _ _ hk
  exact ⟨A, n, c, by rw [List.getElem?_drop]; exact e1, e2⟩

theorem Foot.ext {W W' : World} {base R j : Nat} {ms : List (List Rg)} {f : IMap} (h : RouteIs W base R ms f) (hb : Below W.heap.size W W') : Foot W R j ↔ Foot W' R j := by
  obtain ⟨v, mo, vs, k1, _⟩ := h
  rw [Foot.one k1, Foot.one (k1.ext hb)]
theorem RouteIs.iter {W W' : World} {base R r : Nat} {ms : List (List Rg)} {f : IMap} (h : RouteIs W base R ms f) {m : Option Nat} {s : Nat} {q : Array Nat} {c : Nat} (hr : W.heap[r]? = some (.mapIter m s q c)) (hg : W.grownBy W' (some r)) : RouteIs W' base R ms f ∧ ∀ j, Foot W' R j → Foot W R j := by
  have hk : ∀ j, j < W.heap.size → j ≠ r → W'.heap[j]? = W.heap[j]? := fun j hj hne => hg.block j hj (fun e => hne (by injection e))
  have hbk : ∀ j t cs, Bk W j t cs → W'.heap[j]? = W.heap[j]? := fun j t cs hj => hk j (def_lt' hj) (fun e => by
    have hj' : W.heap[j]? = some (.cells cs t (0, 0)) := hj
    rw [e, hr] at hj'
    cases hj')
  obtain ⟨v, mo, vs, h1, h2, h3, h4, h5⟩ := h
  have h1' : Bk W' R 51 #[v, .map mo] := (hbk _ _ _ h1).trans h1
  refine ⟨⟨v, mo, vs, h1', h2, own_keep h3 (fun j hj => by obtain ⟨cur, hc⟩ := own_type h3 j hj; exact hbk _ _ _ hc), h4.keep (fun j cs hj => hbk _ _ _ hj), ?_⟩, fun j hj => (Foot.one h1).2 ((Foot.one h1').1 hj)⟩
  rcases h5 with h5 | ⟨b, e, h6, h7⟩
  · exact .inl h5
  · refine .inr ⟨b, e, h6, h7.keep (hk b h7.lt (fun e2 => ?_))⟩
    obtain ⟨es, clock, h8, _⟩ := h7
    rw [e2, hr] at h8
    cases h8
/-- a route of its own: whose blocks are all new since B -/
def NewFoot (W : World) (B R : Nat) : Prop := ∀ j, Foot W R j → B ≤ j

theorem Turned.new {W W' : World} {base R B : Nat} {ms : List (List Rg)} {f' : IMap} (ht : Turned W W' base R ms f') (hN : NewFoot W B R) (hB : B ≤ W.heap.size) : Below B W W' ∧ NewFoot W' B R := by
  obtain ⟨_, hb, hz, _, hk⟩ := ht
  refine ⟨⟨hb.os, hb.tape, hb.output, hz, fun j hj => hk.1 j (by omega) (fun hf => by have := hN j hf; omega)⟩, fun j hj => ?_⟩
  rcases hk.2 j hj with h | h
  · exact hN j h
  · omega
theorem Turned.iter {W W' : World} {base R B b r cnt : Nat} {ms ms' : List (List Rg)} {f f' g : IMap} {left : Int → Bool} (ht : Turned W W' base R ms f') (hR : RouteIs W base R ms' g) (hN : NewFoot W B R) (hb : b < B) (hI : Iter W b r f left cnt) : Iter W' b r f left cnt := by
  obtain ⟨_, _, _, _, hk⟩ := ht
  refine hI.keep (hk.1 b hI.lt.1 (fun hf => by have := hN b hf; omega)) (hk.1 r hI.lt.2 (fun hf => ?_))
  obtain ⟨s, q, c, h⟩ := hI.block
  exact hR.foot_iter hf _ _ _ _ h

set_option maxRecDepth 100000 in
set_option maxHeartbeats 4000000 in
theorem from_any (base R : Nat) (ms : List (List Rg)) (f : IMap) (at_ : Int) (i : Nat) (W : World) (hR : RouteIs W base R ms f) (hbase : base ≤ W.heap.size) (hmok : MirOk f ms.length) (hsym : SymF f) (hms : ms.length < 5000) (hi : (i : Int) = min (max at_ 0) ms.length) :
    Calls Try.prog 32 #[.pointer (some ⟨R, 0, none⟩), .int .i64 at_] W fun e W' => ∃ R', e = .returned (.pointer (some ⟨R', 0, none⟩)) ∧ RouteIs W' base R' (ms.drop i) (fromM f i) ∧ Below W.heap.size W W' ∧ NewFoot W' W.heap.size R' := by
  obtain ⟨v, mo, vs, k1, k2, k3, k4, k5⟩ := id hR
  obtain ⟨A', c', rfl, hnc, hcm, hA', hvs⟩ := own_form k3
  have z0 := k1.cell 0
  have z1 := k1.cell 1
  have zl := def_lt' k1
  dsimp at z0 z1
  have hin : i ≤ ms.length := by omega
  have hvl : vs.length = ms.length := by simpa using k3.1
  have hF : ∀ w', Below W.heap.size W w' → w'.cell? ⟨R, 0, none⟩ = some (.slice A' ms.length c') ∧ w'.cell? ⟨R, 1, none⟩ = some (.map mo) :=
    fun w' hb => ⟨(hb.cell (p := ⟨R, 0, none⟩) zl).trans z0, (hb.cell (p := ⟨R, 1, none⟩) zl).trans z1⟩
  have HF := Lib.hid hF
  have HR := Lib.hid hR
  have K5 := Lib.hid k5
  have K4 := Lib.hid k4
  have hcase : (at_ < 0 ∧ (0 : Int) ≤ ms.length ∧ 0 = i) ∨ (¬ at_ < 0 ∧ at_ ≤ ms.length ∧ at_ = i) ∨ (¬ at_ < 0 ∧ ¬ at_ ≤ ms.length ∧ ms.length = i) := by omega
  have hie : (i : Int) ≤ ms.length := by omega
  clear hF hR k4 k5 hi
  go_enter Try.func32, Try.ntmps32
  go_upto_region 3 with fail
  go_cut [1] (fun v wx => v = .int .i64 i ∧ wx = W)
  case first =>
    rcases hcase with ⟨g1, g2, g3⟩ | ⟨g1, g2, g3⟩ | ⟨g1, g2, g3⟩
    all_goals
      subst g3
      go_wp2
      go_meet
      exact ⟨by first | rfl | simp, rfl⟩
  case rest =>
    obtain ⟨rfl, rfl⟩ := hcut
    clear hcase
    go_wp2
    refine wp_normal ?_
    refine wp_region_held_drew (S := fun w' => Below wc.heap.size wc w') (by kernel_rfl) (Below.refl _ _).drew (fun hHeld => ?_)
    (refine take_if (i := 0) (oi := _) (v := ?_) (by simp only [List.getElem?_toArray, List.getElem?_cons_zero]; rfl) (by kernel_rfl) (by kernel_rfl) (by kernel_rfl) (fun _ _ _ h => h) (by rfl) ?_ (by assumption) ?_; rotate_left; (focus ((intro w hSw; (try have hSw := HF.out _ hSw); (try dsimp only at hSw); go_simp); try exact rfl)); simp only [Act.put, List.setIfInBounds_toArray, List.set_cons_zero, List.set_cons_succ]; refine take_if (i := 1) (oi := _) (v := ?_) (by simp only [List.getElem?_toArray, List.getElem?_cons_succ, List.getElem?_cons_zero]; rfl) (by kernel_rfl) (by kernel_rfl) (by kernel_rfl) (fun _ _ _ h => h) (by rfl) ?_ (by assumption) ?_; rotate_left; (focus ((intro w hSw; (try have hSw := HF.out _ hSw); (try dsimp only at hSw); go_simp); try exact rfl)); simp only [Act.put, List.setIfInBounds_toArray, List.set_cons_zero, List.set_cons_succ]; refine take_if (i := 2) (oi := _) (v := ?_) (by simp only [List.getElem?_toArray, List.getElem?_cons_succ, List.getElem?_cons_zero]; rfl) (by kernel_rfl) (by kernel_rfl) (by kernel_rfl) (fun _ _ _ h => h) (by rfl) ?_ (by assumption) ?_; rotate_left; (focus ((intro w hSw; (try have hSw := HF.out _ hSw); (try dsimp only at hSw); go_simp); try exact rfl)); simp only [Act.put, List.setIfInBounds_toArray, List.set_cons_zero, List.set_cons_succ]; refine take_if (i := 3) (oi := _) (v := ?_) (by simp only [List.getElem?_toArray, List.getElem?_cons_succ, List.getElem?_cons_zero]; rfl) (by kernel_rfl) (by kernel_rfl) (by kernel_rfl) (fun _ _ _ h => h) (by rfl) ?_ (by assumption) ?_; rotate_left; (focus ((intro w hSw; (try have hSw := HF.out _ hSw); (try dsimp only at hSw); go_simp); try exact rfl)); simp only [Act.put, List.setIfInBounds_toArray, List.set_cons_zero, List.set_cons_succ]; refine take_if (i := 4) (oi := _) (v := ?_) (by simp only [List.getElem?_toArray, List.getElem?_cons_succ, List.getElem?_cons_zero]; rfl) (by kernel_rfl) (by kernel_rfl) (by kernel_rfl) (fun _ _ _ h => h) (by rfl) ?_ (by assumption) ?_; rotate_left; (focus ((intro w hSw; (try have hSw := HF.out _ hSw); (try dsimp only at hSw); go_simp); try exact rfl)); simp only [Act.put, List.setIfInBounds_toArray, List.set_cons_zero, List.set_cons_succ]; refine take_if (i := 5) (oi := _) (v := ?_) (by simp only [List.getElem?_toArray, List.getElem?_cons_succ, List.getElem?_cons_zero]; rfl) (by kernel_rfl) (by kernel_rfl) (by kernel_rfl) (fun _ _ _ h => h) (by rfl) ?_ (by assumption) ?_; rotate_left; (focus ((intro w hSw; (try have hSw := HF.out _ hSw); (try dsimp only at hSw); go_simp); try exact rfl)); simp only [Act.put, List.setIfInBounds_toArray, List.set_cons_zero, List.set_cons_succ]; refine take_if (i := 6) (oi := _) (v := ?_) (by simp only [List.getElem?_toArray, List.getElem?_cons_succ, List.getElem?_cons_zero]; rfl) (by kernel_rfl) (by kernel_rfl) (by kernel_rfl) (fun _ _ _ h => h) (by rfl) ?_ (by assumption) ?_; rotate_left; (focus ((intro w hSw; (try have hSw := HF.out _ hSw); (try dsimp only at hSw); go_simp); try exact rfl)); simp only [Act.put, List.setIfInBounds_toArray, List.set_cons_zero, List.set_cons_succ]; refine take_if (i := 7) (oi := _) (v := ?_) (by simp only [List.getElem?_toArray, List.getElem?_cons_succ, List.getElem?_cons_zero]; rfl) (by kernel_rfl) (by kernel_rfl) (by kernel_rfl) (fun _ _ _ h => h) (by rfl) ?_ (by assumption) ?_; rotate_left; (focus ((intro w hSw; (try have hSw := HF.out _ hSw); (try dsimp only at hSw); go_simp); try exact rfl)); simp only [Act.put, List.setIfInBounds_toArray, List.set_cons_zero, List.set_cons_succ]; refine take_if (i := 8) (oi := _) (v := ?_) (by simp only [List.getElem?_toArray, List.getElem?_cons_succ, List.getElem?_cons_zero]; rfl) (by kernel_rfl) (by kernel_rfl) (by kernel_rfl) (fun _ _ _ h => h) (by rfl) ?_ (by assumption) ?_; rotate_left; (focus ((intro w hSw; (try have hSw := HF.out _ hSw); (try dsimp only at hSw); go_simp); try exact rfl)); simp only [Act.put, List.setIfInBounds_toArray, List.set_cons_zero, List.set_cons_succ]; refine take_if (i := 9) (oi := _) (v := ?_) (by simp only [List.getElem?_toArray, List.getElem?_cons_succ, List.getElem?_cons_zero]; rfl) (by kernel_rfl) (by kernel_rfl) (by kernel_rfl) (fun _ _ _ h => h) (by rfl) ?_ (by assumption) ?_; rotate_left; (focus ((intro w hSw; (try have hSw := HF.out _ hSw); (try dsimp only at hSw); go_simp); try exact rfl)); simp only [Act.put, List.setIfInBounds_toArray, List.set_cons_zero, List.set_cons_succ]; refine take_if (i := 10) (oi := _) (v := ?_) (by simp only [List.getElem?_toArray, List.getElem?_cons_succ, List.getElem?_cons_zero]; rfl) (by kernel_rfl) (by kernel_rfl) (by kernel_rfl) (fun _ _ _ h => h) (by rfl) ?_ (by assumption) ?_; rotate_left; (focus ((intro w hSw; (try have hSw := HF.out _ hSw); (try dsimp only at hSw); go_simp); try exact rfl)); simp only [Act.put, List.setIfInBounds_toArray, List.set_cons_zero, List.set_cons_succ]; refine take_if (i := 11) (oi := _) (v := ?_) (by simp only [List.getElem?_toArray, List.getElem?_cons_succ, List.getElem?_cons_zero]; rfl) (by kernel_rfl) (by kernel_rfl) (by kernel_rfl) (fun _ _ _ h => h) (by rfl) ?_ (by assumption) ?_; rotate_left; (focus ((intro w hSw; (try have hSw := HF.out _ hSw); (try dsimp only at hSw); go_simp); try exact rfl)); simp only [Act.put, List.setIfInBounds_toArray, List.set_cons_zero, List.set_cons_succ]; refine take_if (i := 12) (oi := _) (v := ?_) (by simp only [List.getElem?_toArray, List.getElem?_cons_succ, List.getElem?_cons_zero]; rfl) (by kernel_rfl) (by kernel_rfl) (by kernel_rfl) (fun _ _ _ h => h) (by rfl) ?_ (by assumption) ?_; rotate_left; (focus ((intro w hSw; (try have hSw := HF.out _ hSw); (try dsimp only at hSw); go_simp); try exact rfl)); simp only [Act.put, List.setIfInBounds_toArray, List.set_cons_zero, List.set_cons_succ]; refine take_if (i := 13) (oi := _) (v := ?_) (by simp only [List.getElem?_toArray, List.getElem?_cons_succ, List.getElem?_cons_zero]; rfl) (by kernel_rfl) (by kernel_rfl) (by kernel_rfl) (fun _ _ _ h => h) (by rfl) ?_ (by assumption) ?_; rotate_left; (focus ((intro w hSw; (try have hSw := HF.out _ hSw); (try dsimp only at hSw); go_simp); try exact rfl)); simp only [Act.put, List.setIfInBounds_toArray, List.set_cons_zero, List.set_cons_succ]; refine take_if (i := 14) (oi := _) (v := ?_) (by simp only [List.getElem?_toArray, List.getElem?_cons_succ, List.getElem?_cons_zero]; rfl) (by kernel_rfl) (by kernel_rfl) (by kernel_rfl) (fun _ _ _ h => h) (by rfl) ?_ (by assumption) ?_; rotate_left; (focus ((intro w hSw; (try have hSw := HF.out _ hSw); (try dsimp only at hSw); go_simp); try exact rfl)); simp only [Act.put, List.setIfInBounds_toArray, List.set_cons_zero, List.set_cons_succ]; refine take_if (i := 15) (oi := _) (v := ?_) (by simp only [List.getElem?_toArray, List.getElem?_cons_succ, List.getElem?_cons_zero]; rfl) (by kernel_rfl) (by kernel_rfl) (by kernel_rfl) (fun _ _ _ h => h) (by rfl) ?_ (by assumption) ?_; rotate_left; (focus ((intro w hSw; (try have hSw := HF.out _ hSw); (try dsimp only at hSw); go_simp); try exact rfl)); simp only [Act.put, List.setIfInBounds_toArray, List.set_cons_zero, List.set_cons_succ])
    have hgi : ms.length - i ≤ 1000000 := by omega
    refine wpAnyH_ready (rs := [16]) (by kernel_rfl) (by simp) ?_; refine (AllReadyH.cons (o := _) (by simp only [List.getElem?_toArray, List.getElem?_cons_succ, List.getElem?_cons_zero]; rfl) (fun K hK => ?_) AllReadyH.nil)
    go_simp
    go_at_call 45
    obtain ⟨hsub, hsubA⟩ := sub_rd (hvs.drew) (fun e => (hA' e).1) hin
    have hsub2 : Rd wc.drew wc.drew.heap.size 1 _ (ms.length - i) (vs.drop i) := hsub
    refine (clone_ms _ (ms.length - i) (ms.length - i) (vs.drop i) wc.drew hsub2 hsubA hgi (each_one K4.out hvl i)).mono ?_
    rintro e w2 ⟨v2, rfl, ho2, hb2⟩
    obtain ⟨A2, c2, rfl, _, _, _, _⟩ := own_form ho2
    have hb2' : Below wc.heap.size wc w2 := Below.trans (Below.refl _ _).drew hb2
    go_simp
    refine hK.out _ _ hb2' (fun hHeld => ?_)
    clear hK K; (try simp only [Act.put, List.setIfInBounds_toArray, List.set_cons_zero, List.set_cons_succ])
    (refine take_if (i := 17) (oi := _) (v := ?_) (by simp only [List.getElem?_toArray, List.getElem?_cons_succ, List.getElem?_cons_zero]; rfl) (by kernel_rfl) (by kernel_rfl) (by kernel_rfl) (fun _ _ _ h => h) (by rfl) ?_ (by assumption) ?_; rotate_left; (focus ((intro w hSw; (try have hSw := HF.out _ hSw); (try dsimp only at hSw); go_simp); try exact rfl)); simp only [Act.put, List.setIfInBounds_toArray, List.set_cons_zero, List.set_cons_succ])
    refine wpAnyH_ready (rs := [18]) (by kernel_rfl) (by simp) ?_; refine (AllReadyH.cons (o := _) (by simp only [List.getElem?_toArray, List.getElem?_cons_succ, List.getElem?_cons_zero]; rfl) (fun K hK => ?_) AllReadyH.nil)
    go_simp
    have hz2 : wc.heap.size ≤ w2.heap.size := hb2'.size
    have hb3 : Below wc.heap.size wc (w2.alloc (.cells #[.slice A2 (ms.length - i) c2, .map none] 51)) := hb2'.alloc hz2 _
    have kn := Bk.new w2 51 #[.slice A2 (ms.length - i) c2, .map none]
    have ho3 : (w2.alloc (.cells #[.slice A2 (ms.length - i) c2, .map none] 51)).ownsRow base 22 1 (.slice A2 (ms.length - i) c2) (ms.drop i).length (vs.drop i) := by
      rw [List.length_drop]; exact World.ownsRow.alloc (own_base ho2 hbase) _
    have hR3 : RouteIs (w2.alloc (.cells #[.slice A2 (ms.length - i) c2, .map none] 51)) base w2.heap.size (ms.drop i) (fromG f i (fun k => (f k).isSome)) := by
      rw [fromG_start hsym]
      exact ⟨_, none, _, kn, by omega, ho3, (K4.out.keep (fun j cs hj => hb3.block j (def_lt' hj))).drop i, .inl ⟨rfl, fun _ => rfl⟩⟩
    have hN3 : NewFoot (w2.alloc (.cells #[.slice A2 (ms.length - i) c2, .map none] 51)) wc.heap.size w2.heap.size := by
      intro j hj
      rcases (Foot.one kn).1 hj with rfl | e | e
      · exact hz2
      · exact own_ge (show w2.ownsRow wc.heap.size _ _ _ _ _ from ho2) j e
      · cases e
    refine hK.out _ _ hb3 (fun hHeld => ?_)
    clear hK K; (try simp only [Act.put, List.setIfInBounds_toArray, List.set_cons_zero, List.set_cons_succ])
    (refine take_if (i := 19) (oi := _) (v := ?_) (by simp only [List.getElem?_toArray, List.getElem?_cons_succ, List.getElem?_cons_zero]; rfl) (by kernel_rfl) (by kernel_rfl) (by kernel_rfl) (fun _ _ _ h => h) (by rfl) ?_ (by assumption) ?_; rotate_left; (focus ((intro w hSw; (try have hSw := HF.out _ hSw); (try dsimp only at hSw); go_simp); try exact rfl)); simp only [Act.put, List.setIfInBounds_toArray, List.set_cons_zero, List.set_cons_succ])
    refine wpAnyH_done (by kernel_rfl) ?_ _
    generalize w2.alloc (.cells #[.slice A2 (ms.length - i) c2, .map none] 51) = w3 at *
    generalize w2.heap.size = R2 at *
    clear hsub hsub2 hsubA
    generalize (if ms.length = i then A' else Option.map (fun x => x.add i) A') = AA at *
    have d0 := (HF.out _ hb3).1
    have d1 := (HF.out _ hb3).2
    have HNC := Lib.hid hb3
    clear hHeld hb2 ho2 kn ho3 hb2'
    rcases K5.out with ⟨hmo, hf⟩ | ⟨b, hmo, hb1, hmap⟩
    · subst hmo
      have hG : fromM f i = fromG f i (fun k => (f k).isSome) := by
        rw [fromG_start hsym]
        funext x
        unfold fromM fromG
        split
        · rw [hf]; rfl
        · rfl
      have hrg := run_range_nilMap (P := Try.prog) w3 49 3 3 Try.underlying49
      have hnx : ∀ ty, (Instr.next (.pointer (some ⟨w3.heap.size, 0, none⟩)) false ty).run Try.prog (w3.alloc (.mapIter none 0 #[] 0)) = _ := fun ty => run_next_nilMap w3 ty 0 0 #[]
      clear hsym
      go_wp2
      refine wp_loop_rounds 1 ?_
      rw [rounds_succ]
      go_wp2
      go_ret
      exact ⟨R2, rfl, by rw [hG]; exact hR3.ext ((Below.refl _ _).alloc (Nat.le_refl _) _), hb3.alloc hb3.size _, fun j hj => hN3 j ((Foot.ext hR3 ((Below.refl _ _).alloc (Nat.le_refl _) _)).2 hj)⟩
    · subst hmo
      have hmap3 : MapIs w3 b f := hmap.keep (hb3.block b hmap.lt)
      have hbl := hmap.lt
      have hrI := hb3.size
      go_wp2_with (at_range; refine wpl_range _ rfl _ rfl b f rfl hmap3 ?_; intro x0 cnt0 hI0)
      go_frame
      have hb4 : Below w3.heap.size w3 (w3.alloc x0) := (Below.refl _ _).alloc (Nat.le_refl _) _
      have hR4 := hR3.ext hb4
      have hN4 : NewFoot (w3.alloc x0) wc.heap.size R2 := fun j hj => hN3 j ((Foot.ext hR3 hb4).2 hj)
      have hb5 : Below wc.heap.size wc (w3.alloc x0) := HNC.out.alloc hrI _
      generalize w3.alloc x0 = w4 at *
      generalize w3.heap.size = rI at *
      have HSY := Lib.hid hsym
      clear hsym K5 hR3 hN3 hb3 hmap3 hmap hHeld d0 d1 hb4
      go_loopw [6] (fun _ wr => ∃ left cnt, Iter wr b rI f left cnt ∧ RouteIs wr base R2 (ms.drop i) (fromG f i left) ∧ Below wc.heap.size wc wr ∧ NewFoot wr wc.heap.size R2) (fun _ wr => wr.rangeLeft b rI)
      case atStart => exact ⟨_, _, hI0, hR4, hb5, hN4⟩
      case round =>
        obtain ⟨left, cnt, hI, hRr, hbr, hNr⟩ := hrel
        clear hI0 hR4 hb5 hN4
        go_wp2_with (at_next; refine wpl_next _ rfl _ rfl b rI f left cnt rfl hI ?_ ?_)
        · intro hc0 hl0
          rw [fromG_end hl0] at hRr
          go_wp2
          go_ret
          exact ⟨R2, rfl, hRr, hbr, hNr⟩
        · intro a bb w5 cnt5 hfa hla hI5 hlt hgr hsz hen
          obtain ⟨a0, a1, b0, b1, hne⟩ := hmok _ _ hfa
          have hbsz := hbr.size
          obtain ⟨s0, q0, c0, hit⟩ := hI.block
          obtain ⟨hR5, hF5⟩ := hRr.iter hit hgr
          have hN5 : NewFoot w5 wc.heap.size R2 := fun j hj => hNr j (hF5 j hj)
          have hb5 : Below wc.heap.size wc w5 := hbr.trans (gr_below hgr hbsz (fun k e => by injection e with e; omega))
          have eL : (fun x => left x && !decide (x = a)) = (fun x => left x && decide (x ≠ a)) := by funext x; simp
          rw [eL] at hI5
          have HM : Hid (wr.rangeLeft b rI = cnt ∧ cnt5 < cnt) := Lib.hid ⟨hI.left_eq, hlt⟩
          have e1 : IntKind.i64.wrap (a - i) = a - i := IntWalk.i64_in _ (by omega)
          have e2 : IntKind.i64.wrap (bb - i) = bb - i := IntWalk.i64_in _ (by omega)
          have hb5z : wc.heap.size ≤ w5.heap.size := hb5.size
          have hcond : (¬ (i : Int) ≤ a) ∨ ((i : Int) ≤ a ∧ ¬ a < bb) ∨ ((i : Int) ≤ a ∧ a < bb) := by omega
          clear hRr hNr hit hlt hgr hF5
          rcases hcond with g1 | ⟨g1, g2⟩ | ⟨g1, g2⟩
          · have hS := fromG_skip (left := left) HSY.out hfa (i := i) (fun h => g1 h.1) (by omega)
            have HS := Lib.hid hS
            clear hS
            go_wp2
            go_roundw
            case rel => exact ⟨_, _, hI5, by rw [HS.out]; exact hR5, hb5, hN5⟩
            case measure => rw [hI5.left_eq, HM.out.1]; exact HM.out.2
          · have hS := fromG_skip (left := left) HSY.out hfa (i := i) (fun h => g2 h.2) (by omega)
            have HS := Lib.hid hS
            clear hS
            go_wp2
            go_roundw
            case rel => exact ⟨_, _, hI5, by rw [HS.out]; exact hR5, hb5, hN5⟩
            case measure => rw [hI5.left_eq, HM.out.1]; exact HM.out.2
          · have hS := fromG_step (left := left) HSY.out hfa g1 g2
            have HS := Lib.hid hS
            clear hS
            go_wp2_with (go_at_call 43; refine (pair_any base R2 (ms.drop i) (fromG f i left) (a - i) (bb - i) w5 hR5 (by omega)).mono ?_; rintro e w6 ⟨⟨u6, rfl⟩, ht⟩)
            obtain ⟨hbn, hN6⟩ := Turned.new ht hN5 hb5z
            have hI6 := Turned.iter ht hR5 hN5 hbl hI5
            go_roundw
            case rel => exact ⟨_, _, hI6, by rw [HS.out]; exact ht.1, hb5.trans hbn, hN6⟩
            case measure => rw [hI6.left_eq, HM.out.1]; exact HM.out.2
end Go.Proofs.Ytkkbmcpimglcpaa
