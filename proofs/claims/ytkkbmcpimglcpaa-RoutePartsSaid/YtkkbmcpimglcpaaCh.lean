/- 'append(append([]T{}, xs...), x)' in a region that draws its order: what holds behind each set of its steps -/
import Derived.Test.YtkkbmcpimglcpaaInv
namespace Go.Proofs.Ytkkbmcpimglcpaa
open Go.RowKit

section
variable {P : Program}
/-- append of a slice that reads as a list onto an owned row: at a step of a region that draws -/
theorem app_rd_step {ops : Array Oper} {o : Oper} {a : Act} {K : Act → World → Prop} {Q : Exit → Act → World → Prop} {E : Prop} {t e : TypeId} {z : Value} {size bytes : Nat}
    (ht : P.underlying t = some (.slice e)) (hinfo : (P.info? e).map (fun i => (i.zero, i.size, i.bytes)) = some (some z, size, bytes)) (hzs : z.cells.size = size) (hsz : 0 < size)
    {w : World} (base : Nat) (v : Value) (n : Nat) (xs : List Value) (hown : w.ownsRow base e size v n xs)
    (B : Nat) (A : Option Addr) (m c : Nat) (news : List Value) (hr : Rd w B size A m news) (hA : A = none → m = 0) (h1 : ∀ u ∈ news, u.oneCell' = true)
    (hn : n + m ≤ maxLen) (hby : (n + m) * bytes ≤ 140737488355328) (hb : base ≤ w.heap.size)
    (hgd : o.guard = none) (s x : Operand) (ho : o.op = .call { callee := .builtin .append, args := #[s, x], argTypes := #[t, t] })
    (hs : a.eval s = v) (hx : a.eval x = .slice A m c)
    (h : ∀ v' w', w'.ownsRow base e size v' (n + m) (xs ++ news) → w.grownBy w' v.ownBlock → (v'.ownBlock = v.ownBlock ∨ v'.ownBlock = some w.heap.size) → K (a.put o.dst v') w') :
    if Region.wanted o (yielded ops a.tmps) = true then Oper.wp P o a w K Q else E := by
  have hw : Region.wanted o (yielded ops a.tmps) = true := by simp [Region.wanted, hgd]
  rw [if_pos hw]
  obtain ⟨i0, hi, hz0, hz1, hz2⟩ := info_parts hinfo
  rcases A with _ | ad
  · obtain rfl := hA rfl
    have hnews : news = [] := List.eq_nil_of_length_eq_zero (by simpa using hr.1)
    subst hnews
    unfold Oper.wp execOp
    simp only [ho, resolve, invoke, builtin, Sem.run_bind, Sem.run_pure, Result.andThen_ok, List.map_toArray, List.map_cons, List.map_nil, hs, hx, run_append_of_nil w base t o.type e i0 size ht hi v n xs hown c]
    exact h v w (by simpa using hown) (World.grownBy.refl w _) (.inl rfl)
  · have hnews : ∀ j u, news[j]? = some u → w.cell? (ad.add j) = some u := by
      intro j u hu
      rcases Nat.eq_zero_or_pos m with h0 | h0
      · subst h0
        have hnews : news = [] := List.eq_nil_of_length_eq_zero (by simpa using hr.1)
        subst hnews
        simp at hu
      · obtain ⟨b, o', e', _, hc⟩ := hr.2 h0
        injection e' with e'
        subst e'
        rw [add_flat]
        exact hc j u hu
    obtain ⟨v', w', hrun, h2, h3, _, h5⟩ := run_append_own_at (P := P) w base t o.type e i0 z size bytes ht hi hz0 hz1 hz2 hzs hsz v n xs hown ad m c news hr.1 hnews h1 hn hby hb
    unfold Oper.wp execOp
    simp only [ho, resolve, invoke, builtin, Sem.run_bind, Sem.run_pure, Result.andThen_ok, List.map_toArray, List.map_cons, List.map_nil, hs, hx, hrun]
    exact h v' w' h2 h3 h5
end

/-- the four steps: an empty row (s), all elements onto it (t), one element laid by itself (u), it onto the row (v) -/
structure Chain (B : Nat) (e : TypeId) (n : Nat) (xs : List Value) (x : Value) (l0 l3 l5 l6 : Bool) (s t u v : Value) (w : World) : Prop where
  h0 : l0 = true → l3 = false → w.ownsRow B e 1 s 0 []
  h3 : l3 = true → l6 = false → w.ownsRow B e 1 t n xs
  h5 : l5 = true → l6 = false → ∃ b, u = .slice (some ⟨b, 0, none⟩) 1 1 ∧ Bk w b e #[x] ∧ (l0 = true → l3 = false → s.ownBlock ≠ some b) ∧ (l3 = true → t.ownBlock ≠ some b)
  h6 : l6 = true → w.ownsRow B e 1 v (n + 1) (xs ++ [x])

section
variable {B : Nat} {e : TypeId} {n : Nat} {xs : List Value} {x : Value} {l0 l3 l5 l6 : Bool} {s t u v : Value} {w w' : World}
theorem Chain.start (B : Nat) (e : TypeId) (n : Nat) (xs : List Value) (x s t u v : Value) (w : World) : Chain B e n xs x false false false false s t u v w := ⟨by simp, by simp, by simp, by simp⟩
/-- whatever keeps the blocks of this type -/
theorem Chain.keep (h : Chain B e n xs x l0 l3 l5 l6 s t u v w) (hk : ∀ j cs, Bk w j e cs → w'.heap[j]? = w.heap[j]?) : Chain B e n xs x l0 l3 l5 l6 s t u v w' := by
  have ok : ∀ {v : Value} {n : Nat} {xs : List Value}, w.ownsRow B e 1 v n xs → w'.ownsRow B e 1 v n xs := fun h => by
    obtain ⟨h1, h2⟩ := h
    refine ⟨h1, ?_⟩
    rcases h2 with h2 | ⟨g, cap, cur, rfl, hg, hh, r⟩
    · exact .inl h2
    · exact .inr ⟨g, cap, cur, rfl, hg, (hk g cur hh).trans hh, r⟩
  refine ⟨fun a b => ok (h.h0 a b), fun a b => ok (h.h3 a b), fun a b => ?_, fun a => ok (h.h6 a)⟩
  obtain ⟨b, h1, h2, h3⟩ := h.h5 a b
  exact ⟨b, h1, (hk b _ h2).trans h2, h3⟩
theorem Chain.alloc (h : Chain B e n xs x l0 l3 l5 l6 s t u v w) (o : Obj) : Chain B e n xs x l0 l3 l5 l6 s t u v (w.alloc o) := h.keep fun j _ hj => Below.heap_alloc w o j (def_lt' hj)
theorem Chain.set_ (h : Chain B e n xs x l0 l3 l5 l6 s t u v w) {p : Addr} {t' : TypeId} {ds : Array Value} (hp : Bk w p.block t' ds) (hne : e ≠ t') (c : Value) : Chain B e n xs x l0 l3 l5 l6 s t u v (w.setCell p c) := by
  refine h.keep fun j cs hj => Below.heap_setCell w p c j ?_
  rintro rfl
  have h1 : w.heap[p.block]? = some (.cells cs e (0, 0)) := hj
  have h2 : w.heap[p.block]? = some (.cells ds t' (0, 0)) := hp
  rw [h1] at h2
  injection h2 with h2
  injection h2 with _ h2
  exact hne h2
/-- another row, of another type, is appended to -/
theorem Chain.grown (h : Chain B e n xs x l0 l3 l5 l6 s t u v w) {e' : TypeId} {size k : Nat} {r : Value} {ys : List Value} (hr : w.ownsRow B e' size r k ys) (hg : w.grownBy w' r.ownBlock) (hne : e' ≠ e) : Chain B e n xs x l0 l3 l5 l6 s t u v w' :=
  h.keep fun j _ hj => hg.block j (def_lt' hj) (fun e1 => own_ne hr hj hne e1.symm)

theorem Chain.op0 (h : Chain B e n xs x l0 false l5 l6 s t u v w) (hB : B ≤ w.heap.size) : Chain B e n xs x true false l5 l6 (.slice (some ⟨w.heap.size, 0, none⟩) 0 0) t u v (w.alloc (.cells #[] e)) := by
  have h' := h.alloc (.cells #[] e)
  refine ⟨fun _ _ => own_empty w B e 1 hB, h'.h3, fun a b => ?_, h'.h6⟩
  obtain ⟨b, h1, h2, _, h4⟩ := h.h5 a b
  exact ⟨b, h1, h2.alloc _, fun _ _ e1 => by simp [Value.ownBlock] at e1; have := def_lt' h2; omega, h4⟩
theorem Chain.op5 (h : Chain B e n xs x l0 l3 l5 false s t u v w) : Chain B e n xs x l0 l3 true false s t (.slice (some ⟨w.heap.size, 0, none⟩) 1 1) v (w.alloc (.cells #[x] e)) := by
  have h' := h.alloc (.cells #[x] e)
  refine ⟨h'.h0, h'.h3, fun _ _ => ⟨_, rfl, Bk.new w e #[x], fun a b e1 => ?_, fun a e1 => ?_⟩, by simp⟩
  · have := own_lt (h.h0 a b) _ e1; omega
  · have := own_lt (h.h3 a rfl) _ e1; omega
theorem Chain.op3 (h : Chain B e n xs x true false l5 false s t u v w) {t' : Value} (ho : w'.ownsRow B e 1 t' n xs) (hg : w.grownBy w' s.ownBlock) (ht : t'.ownBlock = s.ownBlock ∨ t'.ownBlock = some w.heap.size) : Chain B e n xs x true true l5 false s t' u v w' := by
  refine ⟨by simp, fun _ _ => ho, fun a b => ?_, by simp⟩
  obtain ⟨b, h1, h2, h3, _⟩ := h.h5 a b
  have h4 := h3 rfl rfl
  refine ⟨b, h1, h2.grown hg h4, by simp, fun _ e1 => ?_⟩
  rcases ht with ht | ht
  · exact h4 (ht.symm.trans e1)
  · rw [ht] at e1; injection e1 with e1; have := def_lt' h2; omega
theorem Chain.op6 (ho : w'.ownsRow B e 1 v (n + 1) (xs ++ [x])) : Chain B e n xs x true true true true s t u v w' := ⟨by simp, by simp, by simp, fun _ => ho⟩
end
end Go.Proofs.Ytkkbmcpimglcpaa
