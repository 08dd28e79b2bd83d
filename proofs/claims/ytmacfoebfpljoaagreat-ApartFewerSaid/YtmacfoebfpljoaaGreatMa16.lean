/- merged texts: Lm Ln Ll Lo Lp -/
import Derived.Test.YtmacfoebfpljoaaGreatMa15
import Derived.Test.YtmacfoebfpljoaaGreatMa8
set_option maxRecDepth 100000
set_option maxHeartbeats 16000000
namespace Go.Proofs.YtmacfoebfpljoaaGreat
open Go.RowKit
set_option linter.unusedVariables false
section
variable (er : Int → Bool)
/-- the places of those that are there, and the end -/
def plN : List Ent → List Nat
 | [] => [0]
 | e :: l => if thereB er e then 0 :: (plN l).map (· + 1) else (plN l).map (· + 1)
/-- how many are there -/
def cntP (l : List Ent) : Nat := (l.filter (thereB er)).length
/-- the places of those that are there and wanted -/
def sel (s : Nat → Bool) : Nat → List Ent → List Nat
 | _, [] => []
 | p, e :: l => if thereB er e then (if s p then 0 :: (sel s (p + 1) l).map (· + 1) else (sel s (p + 1) l).map (· + 1)) else (sel s p l).map (· + 1)
/-- those that are there are changed -/
def updL (u : Nat → Ent → Ent) : Nat → List Ent → List Ent
 | _, [] => []
 | p, e :: l => if thereB er e then u p e :: updL u (p + 1) l else e :: updL u p l
def modN (F : Ent → Ent) (ps : List Nat) (es : List Ent) : List Ent := ps.foldl (fun es i => es.modify i F) es
end
section
variable {er : Int → Bool}
theorem pres_cons (x : EH) (l : List EH) (q : Nat) : pres er (x :: l) (q + 1) = (if thereB er x.e then [(0, x)] else []) ++ (pres er l q).map (fun y => (y.1 + 1, y.2)) := by
 unfold pres
 rw [List.range_succ_eq_map, List.filterMap_cons, List.filterMap_map, List.map_filterMap]
 cases h : thereB er x.e
 all_goals
  simp only [List.getElem?_cons_zero, h, Bool.false_eq_true, if_false, if_true, List.nil_append, List.singleton_append, List.cons.injEq, true_and]
  congr 1
  funext i
  simp only [Function.comp, Nat.succ_eq_add_one, List.getElem?_cons_succ]
  cases l[i]? with
  | none => rfl
  | some y => cases h : thereB er y.e <;> simp [h]
theorem plc_eq (l : List EH) : plc er l = (plN er (l.map EH.e)).map (fun n : Nat => (n : Int)) := by
 induction l with
 | nil => rfl
 | cons x l ih =>
   have h : plc er (x :: l) = (if thereB er x.e then [(0 : Int)] else []) ++ (plc er l).map (· + 1) := by
    unfold plc
    rw [List.length_cons, pres_cons]
    cases h : thereB er x.e <;> simp [List.map_append]
   rw [h, ih, List.map_cons]
   simp only [plN]
   cases h : thereB er x.e <;> simp
theorem plN_len (l : List Ent) : (plN er l).length = cntP er l + 1 := by
 induction l with
 | nil => rfl
 | cons e l ih =>
   simp only [plN, cntP, List.filter_cons] at ih ⊢
   cases thereB er e <;> simp [ih]
theorem cntP_cons (e : Ent) (l : List Ent) : cntP er (e :: l) = (if thereB er e then 1 else 0) + cntP er l := by
 simp only [cntP, List.filter_cons]
 cases thereB er e <;> simp; omega
theorem cntP_le (l : List Ent) : cntP er l ≤ l.length := List.length_filter_le _ _
theorem cntP_view (l : List Ent) : (view er l).length = cntP er l := by simp [view, cntP]
theorem plN_le (l : List Ent) : ∀ i ∈ plN er l, i ≤ l.length := by
 induction l with
 | nil => intro i hi; simp [plN] at hi; omega
 | cons e l ih =>
   intro i hi
   have h : i = 0 ∨ ∃ j ∈ plN er l, j + 1 = i := by
    simp only [plN] at hi
    split at hi
    ·rcases List.mem_cons.1 hi with h | h
     ·exact .inl h
     ·exact .inr (by simpa using h)
    ·exact .inr (by simpa using hi)
   rcases h with rfl | ⟨j, hj, rfl⟩
   ·omega
   ·have := ih j hj
    simp only [List.length_cons]; omega
/-- but for the end, they are places of entries -/
theorem plN_lt (l : List Ent) : ∀ k i, (plN er l)[k]? = some i → k < cntP er l → i < l.length := by
 induction l with
 | nil => intro k i hi hk; simp [cntP] at hk
 | cons e l ih =>
   intro k i hi hk
   rw [cntP_cons] at hk
   simp only [plN] at hi
   cases ht : thereB er e with
   | true =>
     rw [ht] at hi hk
     rw [if_pos rfl] at hi hk
     cases k with
     | zero => simp at hi; subst hi; simp
     | succ k =>
       simp only [List.getElem?_cons_succ, List.getElem?_map, Option.map_eq_some_iff] at hi
       obtain ⟨j, hj, rfl⟩ := hi
       have := ih k j hj (by omega)
       simp only [List.length_cons]; omega
   | false =>
     rw [ht] at hi hk
     simp only [List.getElem?_map, Option.map_eq_some_iff, Bool.false_eq_true, if_false] at hi hk
     obtain ⟨j, hj, rfl⟩ := hi
     have := ih k j hj (by omega)
     simp only [List.length_cons]; omega
theorem plN_mono (l : List Ent) : ∀ (j k a b : Nat), (plN er l)[j]? = some a → (plN er l)[k]? = some b → j ≤ k → a ≤ b := by
 induction l with
 | nil =>
   intro j k a b ha hb h
   have h1 := (List.getElem?_eq_some_iff.1 ha).1
   have h2 := (List.getElem?_eq_some_iff.1 hb).1
   simp [plN] at h1 h2
   subst h1; subst h2
   rw [ha] at hb; injection hb with hb; omega
 | cons e l ih =>
   intro j k a b ha hb h
   simp only [plN] at ha hb
   cases ht : thereB er e with
   | true =>
     rw [ht, if_pos rfl] at ha hb
     cases j with
     | zero => simp at ha; omega
     | succ j =>
       cases k with
       | zero => omega
       | succ k =>
         simp only [List.getElem?_cons_succ, List.getElem?_map, Option.map_eq_some_iff] at ha hb
         obtain ⟨a', ha', rfl⟩ := ha
         obtain ⟨b', hb', rfl⟩ := hb
         have := ih j k a' b' ha' hb' (by omega)
         omega
   | false =>
     rw [ht] at ha hb
     simp only [List.getElem?_map, Option.map_eq_some_iff, Bool.false_eq_true, if_false] at ha hb
     obtain ⟨a', ha', rfl⟩ := ha
     obtain ⟨b', hb', rfl⟩ := hb
     have := ih j k a' b' ha' hb' h
     omega
/-- a part of the places -/
theorem sel_cut (f g : Nat) (l : List Ent) : ∀ p, g ≤ p + cntP er l → sel er (fun q => decide (f ≤ q ∧ q < g)) p l = ((plN er l).take (g - p)).drop (f - p) := by
 induction l with
 | nil =>
   intro p h
   simp only [cntP, List.filter_nil, List.length_nil] at h
   rw [show g - p = 0 by omega]
   simp [sel]
 | cons e l ih =>
   intro p h
   rw [cntP_cons] at h
   simp only [sel, plN]
   cases ht : thereB er e with
   | true =>
     rw [ht, if_pos rfl] at h
     rw [if_pos rfl, if_pos rfl, ih (p + 1) (by omega)]
     by_cases h1 : g ≤ p
     ·rw [if_neg (by simp only [decide_eq_true_eq]; omega), show g - (p + 1) = 0 by omega, show g - p = 0 by omega]
      simp
     ·rw [show g - p = (g - (p + 1)) + 1 by omega, List.take_succ_cons]
      by_cases h2 : f ≤ p
      ·rw [if_pos (by simp; omega), show f - p = 0 by omega, show f - (p + 1) = 0 by omega]
       simp
      ·rw [if_neg (by simp; omega), show f - p = (f - (p + 1)) + 1 by omega, List.drop_succ_cons, List.map_drop, List.map_take]
   | false =>
     rw [ht] at h
     simp only [Bool.false_eq_true, if_false, Nat.zero_add] at h ⊢
     rw [ih p h, List.map_drop, List.map_take]
theorem modN_shift (F : Ent → Ent) (e : Ent) : ∀ (ps : List Nat) (l : List Ent), modN F (ps.map (· + 1)) (e :: l) = e :: modN F ps l
 | [], l => rfl
 | p :: ps, l => by
   have := modN_shift F e ps (l.modify p F)
   simp only [modN, List.map_cons, List.foldl_cons, List.modify_succ_cons] at this ⊢
   exact this
theorem modN_zero (F : Ent → Ent) (e : Ent) (ps : List Nat) (l : List Ent) : modN F (0 :: ps.map (· + 1)) (e :: l) = F e :: modN F ps l := by
 rw [← modN_shift F (F e) ps l]
 simp [modN]
theorem modN_sel (F : Ent → Ent) (s : Nat → Bool) (u : Nat → Ent → Ent) (l : List Ent) : ∀ p, modN F (sel er s p l) (updL er u p l) = updL er (fun p e => if s p then F (u p e) else u p e) p l := by
 induction l with
 | nil => intro p; rfl
 | cons e l ih =>
   intro p
   simp only [sel, updL]
   cases ht : thereB er e with
   | true =>
     simp only [if_true]
     cases hs : s p with
     | true => simp only [if_true]; rw [modN_zero, ih]
     | false => simp only [Bool.false_eq_true, if_false]; rw [modN_shift, ih]
   | false => simp only [Bool.false_eq_true, if_false]; rw [modN_shift, ih]
theorem updL_id (l : List Ent) : ∀ p, updL er (fun _ e => e) p l = l := by
 induction l with
 | nil => intro p; rfl
 | cons e l ih => intro p; simp only [updL, ih]; split <;> rfl
theorem updL_congr {u v : Nat → Ent → Ent} (l : List Ent) : ∀ p, (∀ q e, p ≤ q → u q e = v q e) → updL er u p l = updL er v p l := by
 induction l with
 | nil => intro p h; rfl
 | cons e l ih => intro p h; simp only [updL]; rw [h p e (Nat.le_refl _), ih (p + 1) (fun q e hq => h q e (by omega)), ih p h]
theorem updL_len (u : Nat → Ent → Ent) (l : List Ent) : ∀ p, (updL er u p l).length = l.length := by
 induction l with
 | nil => intro p; rfl
 | cons e l ih => intro p; simp only [updL]; split <;> simp [ih]
theorem updL_mem {u : Nat → Ent → Ent} (l : List Ent) : ∀ p e, e ∈ updL er u p l → e ∈ l ∨ ∃ q, ∃ e0 ∈ l, e = u q e0 := by
 induction l with
 | nil => intro p e h; cases h
 | cons x l ih =>
   intro p e h
   simp only [updL] at h
   split at h
   ·rcases List.mem_cons.1 h with h | h
    ·exact .inr ⟨p, x, by simp, h⟩
    ·rcases ih _ _ h with h | ⟨q, e0, h1, h2⟩
     ·exact .inl (by simp [h])
     ·exact .inr ⟨q, e0, by simp [h1], h2⟩
   ·rcases List.mem_cons.1 h with h | h
    ·exact .inl (by simp [h])
    ·rcases ih _ _ h with h | ⟨q, e0, h1, h2⟩
     ·exact .inl (by simp [h])
     ·exact .inr ⟨q, e0, by simp [h1], h2⟩
/-- one of those that are there is changed -/
theorem modify_pl (F : Ent → Ent) (u : Nat → Ent → Ent) (l : List Ent) : ∀ p k i, (plN er l)[k]? = some i → k < cntP er l → (updL er u p l).modify i F = updL er (fun q e => if q = p + k then F (u q e) else u q e) p l := by
 induction l with
 | nil => intro p k i hi hk; simp [cntP] at hk
 | cons e l ih =>
   intro p k i hi hk
   rw [cntP_cons] at hk
   simp only [plN] at hi
   simp only [updL]
   cases ht : thereB er e with
   | true =>
     rw [ht] at hi hk
     rw [if_pos rfl] at hi hk
     simp only [if_true]
     cases k with
     | zero =>
       simp at hi; subst hi
       rw [if_pos (by omega), List.modify_zero_cons]
       congr 1
       exact updL_congr l _ (fun q e hq => by rw [if_neg (by omega)])
     | succ k =>
       simp only [List.getElem?_cons_succ, List.getElem?_map, Option.map_eq_some_iff] at hi
       obtain ⟨j, hj, rfl⟩ := hi
       rw [List.modify_succ_cons, if_neg (by omega), ih (p + 1) k j hj (by omega)]
       congr 1
       exact updL_congr l _ (fun q e hq => by rw [show p + 1 + k = p + (k + 1) by omega])
   | false =>
     rw [ht] at hi hk
     simp only [List.getElem?_map, Option.map_eq_some_iff, Bool.false_eq_true, if_false] at hi hk ⊢
     obtain ⟨j, hj, rfl⟩ := hi
     rw [List.modify_succ_cons, ih p k j hj (by omega)]
/-- behind both places nothing is put in -/
theorem doE_past (fr to_ : Nat) (a b : List Ent) (u : Nat → Ent → Ent) (l : List Ent) : ∀ p, fr < p → to_ < p → doE er fr to_ a b u p l = updL er u p l := by
 induction l with
 | nil => intro p h1 h2; simp only [doE, updL]; rw [if_neg (by omega), if_neg (by omega)]; rfl
 | cons e l ih =>
   intro p h1 h2
   simp only [doE, updL]
   split
   ·rw [if_neg (by omega), if_neg (by omega), ih (p + 1) (by omega) (by omega)]; rfl
   ·rw [ih p h1 h2]
theorem doE_mid (fr to_ : Nat) (a b : List Ent) (u : Nat → Ent → Ent) (l : List Ent) : ∀ p T, fr < p → p ≤ to_ → (plN er l)[to_ - p]? = some T →
 doE er fr to_ a b u p l = (updL er u p l).take T ++ b ++ (updL er u p l).drop T := by
 induction l with
 | nil =>
   intro p T h1 h2 hT
   have h3 := (List.getElem?_eq_some_iff.1 hT).1
   simp [plN] at h3
   simp only [doE, updL]
   rw [if_neg (by omega), if_pos (by omega)]
   simp
 | cons e l ih =>
   intro p T h1 h2 hT
   simp only [plN] at hT
   simp only [doE, updL]
   cases ht : thereB er e with
   | true =>
     rw [ht, if_pos rfl] at hT
     simp only [if_true]
     rw [if_neg (by omega)]
     by_cases h3 : p = to_
     ·rw [if_pos h3, doE_past _ _ _ _ _ _ _ (by omega) (by omega)]
      rw [show to_ - p = 0 by omega] at hT
      simp at hT; subst hT
      simp
     ·rw [if_neg h3]
      obtain ⟨d, hd⟩ : ∃ d, to_ - p = d + 1 := ⟨to_ - p - 1, by omega⟩
      rw [hd, List.getElem?_cons_succ, List.getElem?_map, Option.map_eq_some_iff] at hT
      obtain ⟨j, hj, rfl⟩ := hT
      rw [ih (p + 1) j (by omega) (by omega) (by rw [show to_ - (p + 1) = d by omega]; exact hj)]
      simp
   | false =>
     rw [ht] at hT
     simp only [List.getElem?_map, Option.map_eq_some_iff, Bool.false_eq_true, if_false] at hT ⊢
     obtain ⟨j, hj, rfl⟩ := hT
     rw [ih p j h1 h2 hj]
     simp
theorem doE_eq (fr to_ : Nat) (a b : List Ent) (u : Nat → Ent → Ent) (l : List Ent) : ∀ p F T, p ≤ fr → fr ≤ to_ → (plN er l)[fr - p]? = some F → (plN er l)[to_ - p]? = some T →
 doE er fr to_ a b u p l = (updL er u p l).take F ++ a ++ ((updL er u p l).take T).drop F ++ b ++ (updL er u p l).drop T := by
 induction l with
 | nil =>
   intro p F T h1 h2 hF hT
   have h3 := (List.getElem?_eq_some_iff.1 hT).1
   have h4 := (List.getElem?_eq_some_iff.1 hF).1
   simp [plN] at h3 h4
   simp only [doE, updL]
   rw [if_pos (by omega), if_pos (by omega)]
   simp
 | cons e l ih =>
   intro p F T h1 h2 hF hT
   simp only [plN] at hF hT
   simp only [doE, updL]
   cases ht : thereB er e with
   | true =>
     rw [ht, if_pos rfl] at hF hT
     simp only [if_true]
     by_cases h3 : p = fr
     ·rw [if_pos h3]
      rw [show fr - p = 0 by omega] at hF
      simp at hF; subst hF
      by_cases h4 : p = to_
      ·rw [if_pos h4, doE_past _ _ _ _ _ _ _ (by omega) (by omega)]
       rw [show to_ - p = 0 by omega] at hT
       simp at hT; subst hT
       simp
      ·rw [if_neg h4]
       obtain ⟨d, hd⟩ : ∃ d, to_ - p = d + 1 := ⟨to_ - p - 1, by omega⟩
       rw [hd, List.getElem?_cons_succ, List.getElem?_map, Option.map_eq_some_iff] at hT
       obtain ⟨j, hj, rfl⟩ := hT
       rw [doE_mid _ _ _ _ _ _ (p + 1) j (by omega) (by omega) (by rw [show to_ - (p + 1) = d by omega]; exact hj)]
       simp
     ·rw [if_neg h3, if_neg (by omega)]
      obtain ⟨d, hd⟩ : ∃ d, to_ - p = d + 1 := ⟨to_ - p - 1, by omega⟩
      obtain ⟨c, hc⟩ : ∃ c, fr - p = c + 1 := ⟨fr - p - 1, by omega⟩
      rw [hd, List.getElem?_cons_succ, List.getElem?_map, Option.map_eq_some_iff] at hT
      rw [hc, List.getElem?_cons_succ, List.getElem?_map, Option.map_eq_some_iff] at hF
      obtain ⟨j, hj, rfl⟩ := hT
      obtain ⟨i, hi, rfl⟩ := hF
      rw [ih (p + 1) i j (by omega) (by omega) (by rw [show fr - (p + 1) = c by omega]; exact hi) (by rw [show to_ - (p + 1) = d by omega]; exact hj)]
      simp
   | false =>
     rw [ht] at hF hT
     simp only [List.getElem?_map, Option.map_eq_some_iff, Bool.false_eq_true, if_false] at hF hT ⊢
     obtain ⟨j, hj, rfl⟩ := hT
     obtain ⟨i, hi, rfl⟩ := hF
     rw [ih p i j h1 h2 hi hj]
     simp
theorem tkE_modN (ev : Int) (ps : List Nat) : ∀ es : List Ent, tkE ev (ps.map (fun n : Nat => (n : Int))) es = modN (fun e => { e with tk := e.tk ++ [ev] }) ps es := by
 induction ps with
 | nil => intro es; rfl
 | cons p ps ih =>
   intro es
   have := ih (es.modify p fun e => { e with tk := e.tk ++ [ev] })
   simp only [tkE, modN, List.map_cons, List.foldl_cons, Int.toNat_natCast] at this ⊢
   exact this
end
/-- the events of an entry are among the first k -/
structure EvIn (k : Nat) (e : Ent) : Prop where
 m : e.first = true ∨ (1 ≤ e.made ∧ e.made ≤ k)
 t : ∀ v ∈ e.tk, 1 ≤ v ∧ v ≤ k
 g : ∀ v ∈ e.gv, 1 ≤ v.ev ∧ v.ev ≤ k
section
variable {er er' : Int → Bool} {k : Nat} {e : Ent}
theorem EvIn.mono {k' : Nat} (h : EvIn k e) (hk : k ≤ k') : EvIn k' e :=
 ⟨h.m.imp id (fun ⟨a, b⟩ => ⟨a, by omega⟩), fun v hv => ⟨(h.t v hv).1, by have := (h.t v hv).2; omega⟩, fun v hv => ⟨(h.g v hv).1, by have := (h.g v hv).2; omega⟩⟩
theorem all_congr' {l : List Int} {p q : Int → Bool} (h : ∀ v ∈ l, p v = q v) : l.all p = l.all q := by
 induction l with
 | nil => rfl
 | cons x l ih => simp only [List.all_cons]; rw [h x (by simp), ih (fun v hv => h v (by simp [hv]))]
theorem there_congr (h : EvIn k e) (hee : ∀ v : Int, 1 ≤ v → v ≤ k → er v = er' v) : thereB er e = thereB er' e := by
 unfold thereB
 rw [all_congr' (fun v hv => hee v (h.t v hv).1 (h.t v hv).2)]
 rcases h.m with h | h
 ·rw [h]; rfl
 ·rw [hee _ h.1 h.2]
theorem foldl_gv_congr {l : List Gv} (m : Mk) (h : ∀ g ∈ l, er g.ev = er' g.ev) : l.foldl (fun m g => if er g.ev then m else g.m) m = l.foldl (fun m g => if er' g.ev then m else g.m) m := by
 induction l generalizing m with
 | nil => rfl
 | cons x l ih => simp only [List.foldl_cons]; rw [h x (by simp)]; exact ih _ (fun g hg => h g (by simp [hg]))
theorem now_congr (h : EvIn k e) (hee : ∀ v : Int, 1 ≤ v → v ≤ k → er v = er' v) : nowT er e = nowT er' e := by
 unfold nowT nowM
 rw [foldl_gv_congr _ (fun g hg => hee g.ev (h.g g hg).1 (h.g g hg).2)]
theorem view_congr {l : List Ent} (h : ∀ e ∈ l, EvIn k e) (hee : ∀ v : Int, 1 ≤ v → v ≤ k → er v = er' v) : view er l = view er' l := by
 induction l with
 | nil => rfl
 | cons x l ih =>
   rw [view_cons, view_cons, ih (fun e he => h e (by simp [he])), there_congr (h x (by simp)) hee, now_congr (h x (by simp)) hee]
end
/-- new entries -/
def freE (ev : Int) (fi : Bool) : Int → List Tok → List Ent
 | _, [] => []
 | nx, t :: l => ⟨t, nx, ev, fi, [], [], []⟩ :: freE ev fi (nx + 1) l
section
variable {er : Int → Bool}
theorem freE_mem {ev : Int} {fi : Bool} {e : Ent} : ∀ {l : List Tok} {nx : Int}, e ∈ freE ev fi nx l → ∃ t lab, t ∈ l ∧ e = ⟨t, lab, ev, fi, [], [], []⟩
 | [], _, h => by cases h
 | t :: l, nx, h => by
   simp only [freE] at h
   rcases List.mem_cons.1 h with h | h
   ·exact ⟨t, nx, by simp, h⟩
   ·obtain ⟨t', lab, h1, h2⟩ := freE_mem h
    exact ⟨t', lab, by simp [h1], h2⟩
theorem freE_len (ev : Int) (fi : Bool) : ∀ (l : List Tok) (nx : Int), (freE ev fi nx l).length = l.length
 | [], _ => rfl
 | t :: l, nx => by simp [freE, freE_len ev fi l]
theorem view_fre_no {ev : Int} (h : er ev = true) : ∀ (l : List Tok) (nx : Int), view er (freE ev false nx l) = []
 | [], _ => rfl
 | t :: l, nx => by rw [freE, view_cons, view_fre_no h l]; simp [thereB, h]
theorem view_fre_yes {ev : Int} {fi : Bool} (h : fi = true ∨ er ev = false) : ∀ (l : List Tok) (nx : Int), view er (freE ev fi nx l) = l
 | [], _ => rfl
 | t :: l, nx => by
   rw [freE, view_cons, view_fre_yes h l]
   have : thereB er ⟨t, nx, ev, fi, [], [], []⟩ = true := by
    unfold thereB
    rcases h with h | h <;> simp [h]
   rw [if_pos this]
   rfl
/-- no new ones: only changed -/
theorem doE_none (fr to_ : Nat) (u : Nat → Ent → Ent) (l : List Ent) : ∀ p, doE er fr to_ [] [] u p l = updL er u p l := by
 induction l with
 | nil => intro p; simp only [doE, updL]; split <;> split <;> rfl
 | cons e l ih =>
   intro p
   simp only [doE, updL]
   rw [ih (p + 1), ih p]
   split <;> (try rfl)
   split <;> split <;> rfl
end
section
variable (b : List Tok) (u : Nat → Tok → List Tok)
theorem doT_behind (fr to_ : Nat) (a : List Tok) : ∀ (l : List Tok) (p : Nat), fr < p → doT fr to_ a b u p l = doT to_ to_ [] b u p l
 | [], p, h => by simp only [doT]; rw [if_neg (by omega)]; simp
 | e :: l, p, h => by simp only [doT]; rw [if_neg (by omega), doT_behind fr to_ a l (p + 1) (by omega)]; simp
theorem doT_fr (fr to_ : Nat) (a : List Tok) (l : List Tok) : doT fr to_ a b u fr l = a ++ doT to_ to_ [] b u fr l := by
 cases l with
 | nil => simp [doT]
 | cons e l => simp only [doT]; rw [doT_behind b u fr to_ a l (fr + 1) (by omega)]; simp
theorem doT_to (to_ : Nat) (l : List Tok) (hu : ∀ q y, to_ ≤ q → u q y = [y]) : doT to_ to_ [] b u to_ l = b ++ l := by
 cases l with
 | nil => simp [doT]
 | cons e l => simp only [doT]; rw [doT_past _ _ _ _ _ _ _ (fun q y hq => hu q y (by omega)) (by omega) (by omega), hu _ _ (Nat.le_refl _)]; simp
end
/-- a splice of tokens -/
theorem doT_one (f t : Nat) (sl D : List Tok) (hft : f ≤ t) (ht : t ≤ D.length) : doT t t sl [] (fun p x => if inTk 1 f t 0 0 p then [] else [x]) 0 D = D.take f ++ sl ++ D.drop t := by
 have hin : ∀ p, inTk 1 f t 0 0 p = decide (f ≤ p ∧ p < t) := fun p => by simp [inTk]
 simp only [hin]
 rw [doT_keep t t sl [] _ f D 0 (fun q y _ h => by rw [if_neg (by simp; omega)]) (fun q _ h => ⟨by omega, by omega⟩) (by omega) (by omega), Nat.sub_zero]
 rw [doT_drop t t sl [] _ t (D.drop f) f (fun q y h1 h2 => by rw [if_pos (by simp; omega)]) (fun q _ h => ⟨by omega, by omega⟩) (by simp; omega) hft, List.drop_drop]
 rw [show f + (t - f) = t by omega, doT_fr, doT_to _ _ _ _ (fun q y hq => by rw [if_neg (by simp; omega)])]
 simp
/-- an around -/
theorem doT_two (f t g h : Nat) (a b D : List Tok) (hfg : f ≤ g) (hgh : g ≤ h) (hht : h ≤ t) (ht : t ≤ D.length) :
 doT g t a b (fun p x => if inTk 2 f t g h p then [] else [x]) 0 D = D.take f ++ a ++ (D.take h).drop g ++ b ++ D.drop t := by
 have hin : ∀ p, inTk 2 f t g h p = decide (f ≤ p ∧ p < t ∧ (p < g ∨ h ≤ p)) := fun p => by simp [inTk]
 simp only [hin]
 rw [doT_keep g t a b _ f D 0 (fun q y _ h => by rw [if_neg (by simp; omega)]) (fun q _ h => ⟨by omega, by omega⟩) (by omega) (by omega), Nat.sub_zero]
 rw [doT_drop g t a b _ g (D.drop f) f (fun q y h1 h2 => by rw [if_pos (by simp; omega)]) (fun q _ h => ⟨by omega, by omega⟩) (by simp; omega) hfg, List.drop_drop]
 rw [show f + (g - f) = g by omega, doT_fr]
 rw [doT_keep t t [] b _ h (D.drop g) g (fun q y _ h => by rw [if_neg (by simp; omega)]) (fun q _ h => ⟨by omega, by omega⟩) (by simp; omega) hgh, List.drop_drop]
 rw [doT_drop t t [] b _ t (D.drop (g + (h - g))) h (fun q y h1 h2 => by rw [if_pos (by simp; omega)]) (fun q _ h => ⟨by omega, by omega⟩) (by simp; omega) hht, List.drop_drop]
 rw [show g + (h - g) = h by omega, show h + (t - h) = t by omega, doT_to _ _ _ _ (fun q y hq => by rw [if_neg (by simp; omega)]), List.drop_take]
 simp
theorem doT_map (fr to_ : Nat) (u : Nat → Tok → Tok) : ∀ (l : List Tok) (p : Nat), doT fr to_ [] [] (fun q x => [u q x]) p l = l.mapIdx fun i x => u (p + i) x
 | [], p => by simp [doT]
 | e :: l, p => by
   simp only [doT, doT_map fr to_ u l (p + 1), List.mapIdx_cons]
   simp only [ite_self, List.nil_append, List.singleton_append, Nat.add_zero, List.cons.injEq, true_and]
   congr 1
   funext i x
   rw [show p + 1 + i = p + (i + 1) by omega]
section
variable {er er' : Int → Bool} {kd f t g h : Nat} {ev : Int} {after : List Tok}
/-- what an erased event did isn't seen -/
theorem upd_erased (p : Nat) (e : Ent) (hev : er' ev = true) : thereB er' (updE er kd f t g h ev after p e) = thereB er' e ∧ nowT er' (updE er kd f t g h ev after p e) = nowT er' e := by
 unfold updE
 split
 ·split
  ·exact ⟨by simp [thereB, hev], rfl⟩
  ·exact ⟨rfl, rfl⟩
 ·split
  ·refine ⟨rfl, ?_⟩
   unfold nowT nowM
   congr 1
   split
   ·rfl
   ·rw [List.foldl_append]
    simp [hev]
  ·exact ⟨rfl, rfl⟩
theorem upd_seen_one (hev : er ev = false) (hk : kd ≤ 2) (p : Nat) (e : Ent) (ht : thereB er e = true) : view er [updE er kd f t g h ev after p e] = (fun p x => if inTk kd f t g h p then [] else [x]) p (nowT er e) := by
 unfold updE
 rw [if_pos hk]
 dsimp only
 split
 ·simp [view, thereB, hev]
 ·simp [view, ht]
theorem upd_seen_more (hev : er ev = false) (hk : ¬ kd ≤ 2) (p : Nat) (e : Ent) (ht : thereB er e = true) : view er [updE er kd f t g h ev after p e] = (fun p x => [if f ≤ p ∧ p < t then { x with m := (after.getD p default).m } else x]) p (nowT er e) := by
 unfold updE
 rw [if_neg hk]
 dsimp only
 split
 ·have h2 : thereB er { e with ov := e.ov ++ [ev], gv := if (after.getD p default).m = nowM er e then e.gv else e.gv ++ [⟨ev, (after.getD p default).m⟩] } = true := ht
  rw [view_cons, if_pos h2]
  have h3 : nowT er { e with ov := e.ov ++ [ev], gv := if (after.getD p default).m = nowM er e then e.gv else e.gv ++ [⟨ev, (after.getD p default).m⟩] } = { nowT er e with m := (after.getD p default).m } := by
   unfold nowT
   have h5 : nowM er { e with ov := e.ov ++ [ev], gv := if (after.getD p default).m = nowM er e then e.gv else e.gv ++ [⟨ev, (after.getD p default).m⟩] } = (after.getD p default).m := by
    split
    ·rename_i h4; exact h4.symm
    ·simp [nowM, hev]
   rw [h5]
  rw [h3]
  rfl
 ·simp [view, ht]
theorem upd_evIn {k : Nat} {p : Nat} {e : Ent} (he : EvIn k e) : EvIn (k + 1) (updE er kd f t g h ((k + 1 : Nat) : Int) after p e) := by
 have h1 := he.mono (Nat.le_succ k)
 unfold updE
 split
 ·split
  ·refine ⟨h1.m, fun v hv => ?_, h1.g⟩
   rcases List.mem_append.1 hv with hv | hv
   ·exact h1.t v hv
   ·rw [List.mem_singleton.1 hv]; omega
  ·exact h1
 ·split
  ·refine ⟨h1.m, h1.t, fun v hv => ?_⟩
   dsimp only at hv
   split at hv
   ·exact h1.g v hv
   ·rcases List.mem_append.1 hv with hv | hv
    ·exact h1.g v hv
    ·rw [List.mem_singleton.1 hv]; exact ⟨by simp; omega, by simp⟩
  ·exact h1
end
/-- where a step puts new ones in -/
def frontOf (kd t g : Nat) : Nat := if kd = 2 then g else t
def headOf (kd i : Nat) (sl : List Tok) : List Tok := if kd = 1 then sl else if kd = 2 then sl.take i else []
def tailOf (kd i : Nat) (sl : List Tok) : List Tok := if kd = 2 then sl.drop i else []
/-- entries behind a step that an event does -/
def stepE (er : Int → Bool) (kd f t g h i : Nat) (sl : List Tok) (ev nx : Int) (after : List Tok) (es : List Ent) : List Ent :=
 doE er (frontOf kd t g) t (freE ev false nx (headOf kd i sl)) (freE ev false (nx + (headOf kd i sl).length) (tailOf kd i sl)) (updE er kd f t g h ev after) 0 es
section
variable {er er' : Int → Bool} {kd f t g h i : Nat} {sl : List Tok} {ev nx : Int} {after : List Tok} {es : List Ent}
theorem doE_mem {fr to_ : Nat} {a b : List Ent} {u : Nat → Ent → Ent} {e : Ent} : ∀ (l : List Ent) (p : Nat), e ∈ doE er fr to_ a b u p l → e ∈ a ∨ e ∈ b ∨ e ∈ l ∨ ∃ q, ∃ e0 ∈ l, e = u q e0
 | [], p, he => by
   simp only [doE, List.mem_append] at he
   rcases he with he | he
   ·split at he
    ·exact .inl he
    ·cases he
   ·split at he
    ·exact .inr (.inl he)
    ·cases he
 | x :: l, p, he => by
   simp only [doE] at he
   split at he
   ·simp only [List.mem_append, List.mem_cons] at he
    rcases he with (he | he) | he | he
    ·split at he
     ·exact .inl he
     ·cases he
    ·split at he
     ·exact .inr (.inl he)
     ·cases he
    ·exact .inr (.inr (.inr ⟨p, x, by simp, he⟩))
    ·rcases doE_mem l (p + 1) he with h | h | h | ⟨q, e0, h, h2⟩
     ·exact .inl h
     ·exact .inr (.inl h)
     ·exact .inr (.inr (.inl (by simp [h])))
     ·exact .inr (.inr (.inr ⟨q, e0, by simp [h], h2⟩))
   ·rcases List.mem_cons.1 he with he | he
    ·exact .inr (.inr (.inl (by simp [he])))
    ·rcases doE_mem l p he with h | h | h | ⟨q, e0, h, h2⟩
     ·exact .inl h
     ·exact .inr (.inl h)
     ·exact .inr (.inr (.inl (by simp [h])))
     ·exact .inr (.inr (.inr ⟨q, e0, by simp [h], h2⟩))
theorem step_erased (hev : er' ev = true) : view er' (stepE er kd f t g h i sl ev nx after es) = view er' es :=
 view_doE_erased er' ev hev _ _ _ _ _ (view_fre_no hev _ _) (view_fre_no hev _ _) (fun p e => upd_erased p e hev) es 0
theorem step_seen (m : Nat → Mk) (hev : er ev = false) (hk : 1 ≤ kd) (hft : f ≤ t) (ht : t ≤ (view er es).length) (h2 : kd = 2 → f ≤ g ∧ g ≤ h ∧ h ≤ t) (hm : 3 ≤ kd → ∀ p, f ≤ p → p < t → (after.getD p default).m = m p) :
 view er (stepE er kd f t g h i sl ev nx after es) = doesL kd f t g h i sl m (view er es) := by
 unfold stepE
 rcases (show kd = 1 ∨ kd = 2 ∨ 3 ≤ kd by omega) with rfl | rfl | h3
 ·rw [view_doE _ _ _ _ _ (fun p x => if inTk 1 f t g h p then [] else [x]) (fun p e he => upd_seen_one (kd := 1) hev (by omega) p e he), view_fre_yes (.inr hev), view_fre_yes (.inr hev)]
  have f1 : frontOf 1 t g = t := rfl
  have f2 : headOf 1 i sl = sl := rfl
  have f3 : tailOf 1 i sl = [] := rfl
  rw [f1, f2, f3]
  have e1 : (fun (p : Nat) (x : Tok) => if inTk 1 f t g h p then ([] : List Tok) else [x]) = (fun p x => if inTk 1 f t 0 0 p then [] else [x]) := by
   funext p x
   simp [inTk]
  rw [e1, doT_one f t sl _ hft ht]
  unfold doesL
  rw [if_pos rfl]
 ·obtain ⟨a, b, c⟩ := h2 rfl
  rw [view_doE _ _ _ _ _ (fun p x => if inTk 2 f t g h p then [] else [x]) (fun p e he => upd_seen_one (kd := 2) hev (by omega) p e he), view_fre_yes (.inr hev), view_fre_yes (.inr hev)]
  have f1 : frontOf 2 t g = g := rfl
  have f2 : headOf 2 i sl = sl.take i := rfl
  have f3 : tailOf 2 i sl = sl.drop i := rfl
  rw [f1, f2, f3, doT_two f t g h _ _ _ a b c ht]
  unfold doesL
  rw [if_neg (by omega), if_pos rfl]
 ·rw [view_doE _ _ _ _ _ (fun p x => [if f ≤ p ∧ p < t then { x with m := (after.getD p default).m } else x]) (fun p e he => upd_seen_more (kd := kd) hev (by omega) p e he), view_fre_yes (.inr hev), view_fre_yes (.inr hev)]
  simp only [headOf, tailOf]
  rw [if_neg (by omega), if_neg (by omega), if_neg (by omega), doT_map]
  unfold doesL
  rw [if_neg (by omega), if_neg (by omega)]
  congr 1
  funext p x
  rw [Nat.zero_add]
  split
  ·rename_i h4
   rw [hm h3 p h4.1 h4.2]
  ·rfl
end
/-- a ledger's entries behind k events, and the documents: docs[i] is what is seen while those above i are erased -/
structure Back (k : Nat) (es : List Ent) (docs : List (List Tok)) : Prop where
 len : docs.length = k + 1
 ev : ∀ e ∈ es, EvIn k e
 seen : ∀ (i : Nat) (D : List Tok), docs[i]? = some D → ∀ er : Int → Bool, (∀ v : Int, 1 ≤ v → v ≤ k → er v = decide ((i : Int) < v)) → view er es = D
theorem Back.start (l : List Tok) (nx : Int) (ev : Int) : Back 0 (freE ev true nx l) [l] := by
 refine ⟨rfl, fun e he => ?_, fun i D hi er _ => ?_⟩
 ·obtain ⟨t, lab, -, rfl⟩ := freE_mem he
  exact ⟨.inl rfl, (fun v hv => by cases hv), (fun v hv => by cases hv)⟩
 ·have hi0 : i = 0 := by have := (List.getElem?_eq_some_iff.1 hi).1; simp at this; omega
  subst hi0
  injection hi with hi
  subst hi
  exact view_fre_yes (.inl rfl) _ _
theorem Back.step {k : Nat} {es : List Ent} {docs : List (List Tok)} {kd f t g h i : Nat} {sl D : List Tok} {nx : Int} (m : Nat → Mk) (hB : Back k es docs) (hD : docs[k]? = some D) (hk : 1 ≤ kd) (hft : f ≤ t) (ht : t ≤ D.length) (h2 : kd = 2 → f ≤ g ∧ g ≤ h ∧ h ≤ t)
 (hm : 3 ≤ kd → ∀ p, f ≤ p → p < t → ((doesL kd f t g h i sl m D).getD p default).m = m p) :
 Back (k + 1) (stepE (fun _ => false) kd f t g h i sl ((k + 1 : Nat) : Int) nx (doesL kd f t g h i sl m D) es) (docs ++ [doesL kd f t g h i sl m D]) := by
 refine ⟨by simp [hB.len], fun e he => ?_, fun j D' hj er hee => ?_⟩
 ·rcases doE_mem _ _ he with he | he | he | ⟨q, e0, h0, rfl⟩
  ·obtain ⟨t, lab, -, rfl⟩ := freE_mem he
   exact ⟨.inr ⟨by simp; omega, by simp⟩, (fun v hv => by cases hv), (fun v hv => by cases hv)⟩
  ·obtain ⟨t, lab, -, rfl⟩ := freE_mem he
   exact ⟨.inr ⟨by simp; omega, by simp⟩, (fun v hv => by cases hv), (fun v hv => by cases hv)⟩
  ·exact (hB.ev e he).mono (by omega)
  ·exact upd_evIn (hB.ev e0 h0)
 ·by_cases hjk : j ≤ k
  ·rw [List.getElem?_append_left (by rw [hB.len]; omega)] at hj
   rw [step_erased (by rw [hee _ (by omega) (by omega)]; simp; omega)]
   exact hB.seen j D' hj er (fun v h1 h2 => hee v h1 (by omega))
  ·have hj1 := (List.getElem?_eq_some_iff.1 hj).1
   simp [hB.len] at hj1
   obtain rfl : j = k + 1 := by omega
   rw [List.getElem?_append_right (by rw [hB.len]; omega), hB.len, show k + 1 - (k + 1) = 0 by omega] at hj
   injection hj with hj
   subst hj
   have hv0 := hB.seen k D hD (fun _ => false) (fun v h1 h2 => by simp; omega)
   have hev' : ∀ e ∈ stepE (fun _ => false) kd f t g h i sl ((k + 1 : Nat) : Int) nx (doesL kd f t g h i sl m D) es, EvIn (k + 1) e := fun e he => by
    rcases doE_mem _ _ he with he | he | he | ⟨q, e0, h0, rfl⟩
    ·obtain ⟨t, lab, -, rfl⟩ := freE_mem he
     exact ⟨.inr ⟨by simp; omega, by simp⟩, (fun v hv => by cases hv), (fun v hv => by cases hv)⟩
    ·obtain ⟨t, lab, -, rfl⟩ := freE_mem he
     exact ⟨.inr ⟨by simp; omega, by simp⟩, (fun v hv => by cases hv), (fun v hv => by cases hv)⟩
    ·exact (hB.ev e he).mono (by omega)
    ·exact upd_evIn (hB.ev e0 h0)
   rw [view_congr (er' := fun _ => false) hev' (fun v h1 h2 => by rw [hee v h1 h2]; simp; omega)]
   rw [step_seen m rfl hk hft (by rw [hv0]; exact ht) h2 hm, hv0]
theorem freH_in (t : Tok) (lab ev : Int) (fi : Bool) (w : World) (base : Nat) (hev : Bd ev) : (freH t lab ev fi).In w base :=
 ⟨World.ownsRow_nil _ _ _ _, World.ownsRow_nil _ _ _ _, World.ownsRow_nil _ _ _ _, (fun k hk => by cases hk), hev, (fun k hk => by cases hk), (fun k hk => by cases hk)⟩
theorem freH_has (t : Tok) (lab ev : Int) (fi : Bool) (k : Nat) : ¬ (freH t lab ev fi).Has k := by
 rintro (h | h | h) <;> cases h
theorem frs_mem {ev : Int} {fi : Bool} {x : EH} : ∀ {l : List Tok} {nx : Int}, x ∈ frs ev fi nx l → ∃ t lab, x = freH t lab ev fi
 | [], _, h => by cases h
 | t :: l, nx, h => by
   simp only [frs] at h
   rcases List.mem_cons.1 h with h | h
   ·exact ⟨t, nx, h⟩
   ·exact frs_mem h
theorem frs_apt (ev : Int) (fi : Bool) (nx : Int) (l : List Tok) : Apt (frs ev fi nx l) :=
 List.pairwise_of_forall_mem_list (fun x hx y _ k hk => by
  obtain ⟨t, lab, rfl⟩ := frs_mem hx
  exact absurd hk (freH_has _ _ _ _ _))
theorem frs_e (ev : Int) (fi : Bool) : ∀ (l : List Tok) (nx : Int), (frs ev fi nx l).map EH.e = freE ev fi nx l
 | [], _ => rfl
 | t :: l, nx => by simp [frs, freE, freH, frs_e ev fi l]
def NewOutL (l : List Tok) (w : World) (e : Ending) (w' : World) : Prop :=
 ∃ g mb sv, e = .returned (.pointer (some ⟨g, 0, none⟩)) ∧ LdIn w' w.heap.size g mb 0 sv l.length (frs (-1) true 0 l) (fun _ => false) ∧ Below w.heap.size w w'
theorem lnew_any (tA : Option Addr) (tn tc : Nat) (sl : List Tok) (w : World) (hr : Rd w w.heap.size 12 tA tn (toks sl)) (hn : tn ≤ 100000) :
 Calls Tryz.prog 11 #[.slice tA tn tc] w (NewOutL sl w) := by
 have hsl := hr.tlen
 have HR := Lib.hid hr
 have HL := Lib.hid hsl
 clear hr hsl
 have hmk : (Instr.makeMap 118 none).run Tryz.prog w = .ok (.map (some w.heap.size)) (w.alloc (.map #[] 0)) := by simp [Instr.makeMap, Result.andThen]
 go_enter Tryz.func11, Tryz.ntmps11
 go_upto_region 2 with fail
 have he0 := ErIs.made w
 have hb0 : Below w.heap.size w ((w.alloc (.map #[] 0)).alloc (.cells #[.slice none 0 0, .map (some w.heap.size), .int .i64 0] 121)) := belowA
 have kg0 : Bk ((w.alloc (.map #[] 0)).alloc (.cells #[.slice none 0 0, .map (some w.heap.size), .int .i64 0] 121)) (w.heap.size + 1) 121 #[.slice none 0 0, .map (some w.heap.size), .int .i64 0] := Bk.made _ _ (by simp)
 have he1 : ErIs ((w.alloc (.map #[] 0)).alloc (.cells #[.slice none 0 0, .map (some w.heap.size), .int .i64 0] 121)) w.heap.size 0 (fun _ => false) := he0.below belowA
 clear he0 hmk
 generalize (w.alloc (.map #[] 0)).alloc (.cells #[.slice none 0 0, .map (some w.heap.size), .int .i64 0] 121) = w0 at *
 have HE1 := Lib.hid he1
 have HB0 := Lib.hid hb0
 clear he1 hb0
 go_wp2
 go_loopw [5, 11] (fun u j wr => ∃ (q : Nat) (v : Value), q ≤ tn ∧ j = .int .i64 q ∧ Hid (wr.ownsRow w.heap.size 129 18 v q (ehs (frs (-1) true 0 (sl.take q)))) ∧ Bk wr (w.heap.size + 1) 121 #[v, .map (some w.heap.size), .int .i64 q] ∧ Hid (ErIs wr w.heap.size 0 (fun _ => false)) ∧ Hid (Below w.heap.size w wr)) (fun _ j _ => tn - (intOf j).toNat)
 case atStart => exact ⟨0, .slice none 0 0, by omega, rfl, Lib.hid (World.ownsRow_nil _ _ _ _), kg0, HE1, HB0⟩
 case round =>
  obtain ⟨q, v, hq, rfl, hO, hk, hE, hB⟩ := hrel
  by_cases hqn : q < tn
  ·have e3 : (q : Int) < tn := by omega
   obtain ⟨x, hx⟩ : ∃ x, sl[q]? = some x := ⟨_, List.getElem?_eq_getElem (by have := HL.out; omega)⟩
   obtain ⟨bb, oo, rfl, hbb, hcc⟩ := HR.out.el Tok.cells (fun _ => rfl) HL.out hx
   have hbe := hB.out.block bb hbb
   have hrg : wr.rangeAt bb (oo + q * 12) x.cells := fun j v hv => by
    have hj : j < 12 := (List.getElem?_eq_some_iff.1 hv).1
    rw [World.cell?_of_block (a := ⟨bb, oo + q * 12 + j, none⟩) hbe, hcc j hj]
    exact hv
   have hsn : frs (-1) true 0 (sl.take (q + 1)) = frs (-1) true 0 (sl.take q) ++ [freH x q (-1) true] := by
    rw [List.take_add_one, hx, Option.toList_some, frs_snoc, List.length_take, Nat.min_eq_left (by have := HL.out; omega), Int.zero_add]
   have HSN := Lib.hid hsn
   clear hcc hx hsn hbe kg0
   go_upto_region 5 with (first
    | ((with_reducible refine ld_tok wr ?hg (.tmp 13) ?ho bb (oo + q * 12) ?hx x hrg ?_); (case hg => rfl); (case ho => rfl); (case hx => rfl))
    | ((with_reducible refine st_tok (wr.alloc (.cells zeroTok 126)) ?hg (.tmp 5) (.tmp 14) ?ho wr.heap.size zeroTok x ?he ?hx (Bk.new wr _ _) rfl ?_); (case hg => rfl); (case ho => rfl); (case he => rfl); (case hx => rfl)))
   have hb2 : Below wr.heap.size wr ((wr.alloc (.cells zeroTok 126)).setRow wr.heap.size x.cells.toArray) := setRow_below belowA (Nat.le_refl _) _
   have k9 : Bk ((wr.alloc (.cells zeroTok 126)).setRow wr.heap.size x.cells.toArray) wr.heap.size 126 x.cells.toArray := setRow_bk (Bk.new wr _ _) _
   generalize (wr.alloc (.cells zeroTok 126)).setRow wr.heap.size x.cells.toArray = w2 at *
   have hk2 := hk.ext hb2
   have ho2 := own_below hO.out hb2
   have hB2 := hB.out.trans (hb2.mono hB.out.size)
   have hE2 := hE.out.below hb2
   obtain ⟨tk, tt, ta, tr, ⟨m0, m1, m2, m3, m4, m5, m6, m7⟩⟩ := x
   simp only [Tok.cells, Mk.cells] at k9
   clear hk hO hrg hb2 hE hB
   have hF : ∀ W, (Bk W (w.heap.size + 1) 121 #[v, .map (some w.heap.size), .int .i64 q] ∧ Bk W wr.heap.size 126 #[.int .i64 tk, .int .i64 tt, .int .i64 ta, .int .i32 tr, .int .u16 m0, .int .u16 m1, .int .u16 m2, .int .u16 m3, .int .u16 m4, .int .u16 m5, .int .u16 m6, .int .u16 m7]) → (W.cell? ⟨w.heap.size + 1, 0, none⟩ = some v ∧ W.cell? ⟨w.heap.size + 1, 2, none⟩ = some (.int .i64 q) ∧ W.cell? ⟨wr.heap.size, 0, none⟩ = some (.int .i64 tk) ∧ W.cell? ⟨wr.heap.size, 1, none⟩ = some (.int .i64 tt) ∧ W.cell? ⟨wr.heap.size, 2, none⟩ = some (.int .i64 ta) ∧ W.cell? ⟨wr.heap.size, 3, none⟩ = some (.int .i32 tr) ∧ W.cell? ⟨wr.heap.size, 4, none⟩ = some (.int .u16 m0) ∧ W.cell? ⟨wr.heap.size, 5, none⟩ = some (.int .u16 m1) ∧ W.cell? ⟨wr.heap.size, 6, none⟩ = some (.int .u16 m2) ∧ W.cell? ⟨wr.heap.size, 7, none⟩ = some (.int .u16 m3) ∧ W.cell? ⟨wr.heap.size, 8, none⟩ = some (.int .u16 m4) ∧ W.cell? ⟨wr.heap.size, 9, none⟩ = some (.int .u16 m5) ∧ W.cell? ⟨wr.heap.size, 10, none⟩ = some (.int .u16 m6) ∧ W.cell? ⟨wr.heap.size, 11, none⟩ = some (.int .u16 m7)) := fun W hb => ⟨hb.1.cell 0, hb.1.cell 2, bk12 hb.2⟩
   have HF := Lib.hid hF
   clear hF
   have ho3 : w2.drew.ownsRow w.heap.size 129 18 v q (ehs (frs (-1) true 0 (sl.take q))) := ho2
   have hB3 : Below w.heap.size w w2.drew := hB2.drew
   have hE3 : ErIs w2.drew w.heap.size 0 (fun _ => false) := hE2.below (Below.drew (Below.refl _ _))
   have hz4 := hB3.size
   refine wp_normal ?_
   refine region_L [15] (S := fun W => Bk W (w.heap.size + 1) 121 #[v, .map (some w.heap.size), .int .i64 q] ∧ Bk W wr.heap.size 126 #[.int .i64 tk, .int .i64 tt, .int .i64 ta, .int .i32 tr, .int .u16 m0, .int .u16 m1, .int .u16 m2, .int .u16 m3, .int .u16 m4, .int .u16 m5, .int .u16 m6, .int .u16 m7]) (by kernel_rfl) ⟨hk2.drew, k9.drew⟩ (fun hHeld => ?_)
   clear ho2 hB2 hE2 hk2 k9
   generalize w2.drew = wD at *
   (refine tkL 0 ?_; refine tkL 1 ?_; refine tkL 2 ?_; refine tkL 3 ?_; refine tkL 4 ?_; refine tkL 5 ?_; refine tkL 6 ?_; refine tkL 7 ?_; refine tkL 8 ?_; refine tkL 9 ?_; refine tkL 10 ?_)
   refine nxL 11 (fun K hK => ?_)
   go_simp
   have hb4 : Below wD.heap.size wD (wD.alloc (.cells #[.int .i64 tk, .int .i64 tt, .int .i64 ta, .int .i32 tr, .int .u16 m0, .int .u16 m1, .int .u16 m2, .int .u16 m3, .int .u16 m4, .int .u16 m5, .int .u16 m6, .int .u16 m7, .int .i64 q, .int .i64 (-1), .bool true, .slice none 0 0, .slice none 0 0, .slice none 0 0] 129)) := belowA
   refine hK.out _ _ ⟨hHeld.1.ext hb4, hHeld.2.ext hb4⟩ (fun hHeld => ?_)
   clear hK K; refine puL ?_
   have ho4 := own_below ho3 hb4
   have hB4 := hB3.trans (hb4.mono hz4)
   have hE4 := hE3.below hb4
   have k4 := Bk.new wD 129 #[.int .i64 tk, .int .i64 tt, .int .i64 ta, .int .i32 tr, .int .u16 m0, .int .u16 m1, .int .u16 m2, .int .u16 m3, .int .u16 m4, .int .u16 m5, .int .u16 m6, .int .u16 m7, .int .i64 q, .int .i64 (-1), .bool true, .slice none 0 0, .slice none 0 0, .slice none 0 0]
   have hz5 := hB4.size
   clear ho3 hB3 hE3
   generalize wD.alloc (.cells #[.int .i64 tk, .int .i64 tt, .int .i64 ta, .int .i32 tr, .int .u16 m0, .int .u16 m1, .int .u16 m2, .int .u16 m3, .int .u16 m4, .int .u16 m5, .int .u16 m6, .int .u16 m7, .int .i64 q, .int .i64 (-1), .bool true, .slice none 0 0, .slice none 0 0, .slice none 0 0] 129) = wE at *
   refine nxL 12 (fun K hK => ?_)
   refine app_at_step Tryz.underlying119 info_entry rfl (by decide) w.heap.size v q _ ho4 (by unfold maxLen; omega) (by omega) hz5 wD.heap.size #[.int .i64 tk, .int .i64 tt, .int .i64 ta, .int .i32 tr, .int .u16 m0, .int .u16 m1, .int .u16 m2, .int .u16 m3, .int .u16 m4, .int .u16 m5, .int .u16 m6, .int .u16 m7, .int .i64 q, .int .i64 (-1), .bool true, .slice none 0 0, .slice none 0 0, .slice none 0 0] k4 rfl (by simp [Value.oneCell']) rfl (.tmp 19) (.tmp 26) rfl rfl rfl ?_
   intro g5 cap5 w5 hown5 hgr5 hat5 hlt5
   have hB5 := below_own hB4 ho4 hgr5 hz5 (Nat.le_refl _)
   have hE5 : ErIs w5 w.heap.size 0 (fun _ => false) := hE4.keep (hgr5.block _ hE4.lt (fun e => by
    obtain ⟨-, -, cs, hb⟩ := own_far ho4 e.symm
    exact hE4.ne hb rfl))
   have kg5 := hHeld.1.grown hgr5 (own_ne ho4 hHeld.1 (by decide))
   refine hK.out _ _ ⟨kg5, hHeld.2.grown hgr5 (own_ne ho4 hHeld.2 (by decide))⟩ (fun hHeld => ?_)
   clear hK K; refine puL ?_
   (refine tkL 13 ?_; refine tkL 14 ?_)
   have y0 := kg5.cell 0; have y1 := kg5.frozen; have y2 := def_lt' kg5
   dsimp at y0
   refine ltL 15 (fun K hK => ?_)
   go_simp
   refine hK.out _ _ ?_
   refine anyL_done (by kernel_rfl) ?_
   have kg6 : Bk (w5.setCell ⟨w.heap.size + 1, 0, none⟩ (.slice (some ⟨g5, 0, none⟩) (q + 1) cap5)) (w.heap.size + 1) 121 #[.slice (some ⟨g5, 0, none⟩) (q + 1) cap5, .map (some w.heap.size), .int .i64 q] := kg5.set_ 0 _
   have hO6 := ownsRow_setCell_other (a := ⟨w.heap.size + 1, 0, none⟩) hown5 (own_ne (b := w.heap.size + 1) hown5 kg5 (by decide)) (.slice (some ⟨g5, 0, none⟩) (q + 1) cap5)
   have hB6 : Below w.heap.size w (w5.setCell ⟨w.heap.size + 1, 0, none⟩ (.slice (some ⟨g5, 0, none⟩) (q + 1) cap5)) := hB5.setCell (Nat.le_succ _) _
   have hE6 : ErIs (w5.setCell ⟨w.heap.size + 1, 0, none⟩ (.slice (some ⟨g5, 0, none⟩) (q + 1) cap5)) w.heap.size 0 (fun _ => false) := hE5.set_ (p := ⟨w.heap.size + 1, 0, none⟩) (hE5.ne kg5) _
   clear y0 y1 y2 hHeld hown5 hgr5 hE5 hB5 hE4 hB4 ho4 k4 hb4 hat5 hlt5 kg5
   generalize w5.setCell ⟨w.heap.size + 1, 0, none⟩ (.slice (some ⟨g5, 0, none⟩) (q + 1) cap5) = w6 at *
   have y0 := kg6.cell 2; have y1 := kg6.frozen; have y2 := def_lt' kg6
   dsimp at y0
   have kg7 : Bk (w6.setCell ⟨w.heap.size + 1, 2, none⟩ (.int .i64 ((q : Int) + 1))) (w.heap.size + 1) 121 #[.slice (some ⟨g5, 0, none⟩) (q + 1) cap5, .map (some w.heap.size), .int .i64 ((q + 1 : Nat) : Int)] := by
    have := kg6.set_ 2 (.int .i64 ((q : Int) + 1))
    rw [show ((q + 1 : Nat) : Int) = (q : Int) + 1 by omega]
    exact this
   have hO7 : (w6.setCell ⟨w.heap.size + 1, 2, none⟩ (.int .i64 ((q : Int) + 1))).ownsRow w.heap.size 129 18 (.slice (some ⟨g5, 0, none⟩) (q + 1) cap5) (q + 1) (ehs (frs (-1) true 0 (sl.take (q + 1)))) := by
    rw [HSN.out, ehs_append]
    exact ownsRow_setCell_other (a := ⟨w.heap.size + 1, 2, none⟩) hO6 (own_ne (b := w.heap.size + 1) hO6 kg6 (by decide)) _
   have hB7 : Below w.heap.size w (w6.setCell ⟨w.heap.size + 1, 2, none⟩ (.int .i64 ((q : Int) + 1))) := hB6.setCell (Nat.le_succ _) _
   have hE7 : ErIs (w6.setCell ⟨w.heap.size + 1, 2, none⟩ (.int .i64 ((q : Int) + 1))) w.heap.size 0 (fun _ => false) := hE6.set_ (p := ⟨w.heap.size + 1, 2, none⟩) (hE6.ne kg6) _
   have HO7 := Lib.hid hO7
   have HB7 := Lib.hid hB7
   have HE7 := Lib.hid hE7
   have HK7 := Lib.hid kg7
   clear hO7 hB7 hE7 kg7 hO6 hB6 hE6
   go_wp2
   go_roundw
   case rel => exact ⟨q + 1, _, by omega, by go_num, HO7, HK7.out, HE7, HB7⟩
   case measure => simp [intOf]; omega
  ·obtain rfl : tn = q := by omega
   have hO := hO.out
   rw [List.take_of_length_le (by rw [HL.out]; exact Nat.le_refl _), ← HL.out] at hO
   rw [← HL.out] at hk
   have hfin : LdIn wr w.heap.size (w.heap.size + 1) w.heap.size 0 v sl.length (frs (-1) true 0 sl) (fun _ => false) := by
    refine ⟨hk, by omega, Nat.le_refl _, by rw [frs_len]; exact hO, hE.out, fun x hx => ?_, frs_apt _ _ _ _⟩
    obtain ⟨t, lab, rfl⟩ := frs_mem hx
    exact freH_in _ _ _ _ _ _ ⟨by omega, by omega⟩
   have HFIN := Lib.hid hfin
   clear hfin hO
   go_wp2
   go_ret
   exact ⟨_, _, _, rfl, HFIN.out, hB.out⟩
abbrev zeroEnt : Array Value := #[.int .i64 0, .int .i64 0, .int .i64 0, .int .i32 0, .int .u16 0, .int .u16 0, .int .u16 0, .int .u16 0, .int .u16 0, .int .u16 0, .int .u16 0, .int .u16 0, .int .i64 0, .int .i64 0, .bool false, .slice none 0 0, .slice none 0 0, .slice none 0 0]
theorem grow_ent (w : World) (n : Nat) (hn : n ≤ 1000000) : Calls Tryz.prog 165 #[.slice none 0 0, .int .i64 n] w fun e w' => ∃ v, e = .returned v ∧ w'.ownsRow w.heap.size 129 18 v 0 [] ∧ Below w.heap.size w w' := by
 by_cases h0 : n = 0
 ·subst h0
  go_enter Tryz.func165, Tryz.ntmps165
  go_wp2
  go_ret
  exact ⟨_, rfl, World.ownsRow_nil _ _ _ _, Below.refl _ _⟩
 have e1 : (0 : Int) < n := by omega
 have hby : Tryz.t129.bytes = 144 := by kernel_rfl
 have hnc : Builtin.nextslicecap n 0 = n := nextslicecap_zero (by omega)
 have hc1 := grownCap_ge w n 0 129
 have hc2 := grownCap_le_maxLen w n 0 129 (by unfold maxLen; omega)
 have HC1 := Lib.hid hc1
 have HC2 := Lib.hid hc2
 clear hc1 hc2
 go_enter Tryz.func165, Tryz.ntmps165
 go_wp2
 have hZ : ((w.alloc (.cells (Builtin.zeroCells zeroEnt n ++ Builtin.zeroCells zeroEnt (grownCap w n 0 129 - n)) 129)).drew).ownsRow w.heap.size 129 18 (.slice (some ⟨w.heap.size, 0, none⟩) 0 (grownCap w n 0 129)) 0 [] := by
  refine ⟨rfl, .inr ⟨w.heap.size, _, _, rfl, Nat.le_refl _, heap_alloc_new w _, Nat.zero_le _, HC2.out, ?_, by simp⟩⟩
  have := HC1.out
  simp only [Array.size_append, size_zeroCells, zeroEnt, ← Nat.add_mul]
  show (n + (grownCap w n 0 129 - n)) * 18 = _
  congr 1
  omega
 go_ret
 exact ⟨_, rfl, hZ, belowA⟩
/-- a slice of entries -/
structure SlE where
 (A : Option Addr)
 (n c : Nat)
 l : List EH
def SlE.v (s : SlE) : Value := .slice s.A s.n s.c
structure SlE.In (s : SlE) (w : World) : Prop where
 r : Rd w w.heap.size 18 s.A s.n (ehs s.l)
 a : s.A = none → s.n = 0
 o : ∀ u ∈ ehs s.l, u.oneCell' = true
def sumN (l : List SlE) : Nat := (l.map SlE.n).sum
theorem sumN_take {l : List SlE} {q : Nat} {s : SlE} (h : l[q]? = some s) : sumN (l.take (q + 1)) = sumN (l.take q) + s.n := by
 unfold sumN
 rw [List.take_add_one, h]
 simp
theorem sumN_le (l : List SlE) (q : Nat) : sumN (l.take q) ≤ sumN l := by
 have h : sumN (l.take q ++ l.drop q) = sumN (l.take q) + sumN (l.drop q) := by
  unfold sumN
  rw [List.map_append, List.sum_append]
 rw [List.take_append_drop] at h
 omega
def catE (l : List SlE) : List EH := l.flatMap SlE.l
theorem catE_take {l : List SlE} {q : Nat} {s : SlE} (h : l[q]? = some s) : ehs (catE (l.take (q + 1))) = ehs (catE (l.take q)) ++ ehs s.l := by
 unfold catE
 rw [List.take_add_one, h]
 simp [ehs_append]
theorem concat_ent (B N : Nat) (Ls : List SlE) (w : World) (hN : Ls.length = N) (hk : Bk w B 119 (Ls.map SlE.v).toArray) (h : ∀ s ∈ Ls, s.In w) (hn : N ≤ 100) (hs : sumN Ls ≤ 1000000) :
 Calls Tryz.prog 121 #[.slice (some ⟨B, 0, none⟩) N N] w fun e w' => ∃ v, e = .returned v ∧ w'.ownsRow w.heap.size 129 18 v (sumN Ls) (ehs (catE Ls)) ∧ Below w.heap.size w w' := by
 have HK := Lib.hid hk
 have HN := Lib.hid hN
 have H := Lib.hid h
 have HS := Lib.hid hs
 have hlt := def_lt' hk
 clear hk hN h
 obtain ⟨S, hS⟩ : ∃ S, S = sumN Ls := ⟨_, rfl⟩
 rw [← hS] at hs ⊢
 have HSS := Lib.hid hS
 clear hS
 go_enter Tryz.func121, Tryz.ntmps121
 go_wp2
 go_loopw [3, 11] (fun t j wr => ∃ (q m : Nat), q ≤ N ∧ j = .int .i64 q ∧ t = .int .i64 m ∧ m ≤ 1000000 ∧ Hid (m = sumN (Ls.take q)) ∧ Below w.heap.size w wr) (fun _ j _ => N - (intOf j).toNat)
 case atStart => exact ⟨0, 0, by omega, rfl, rfl, by omega, Lib.hid (by simp [sumN]), Below.refl _ _⟩
 case round =>
  obtain ⟨q, m, hq, rfl, rfl, hm, hmq, hbr⟩ := hrel
  by_cases hqn : q < N
  ·have e3 : (q : Int) < N := by omega
   obtain ⟨s, hx⟩ : ∃ s, Ls[q]? = some s := ⟨_, List.getElem?_eq_getElem (by have := HN.out; omega)⟩
   have d0 : wr.cell? ⟨B, q, none⟩ = some (.slice s.A s.n s.c) := by
    rw [(HK.out.ext hbr).cell q, List.getElem?_toArray, List.getElem?_map, hx]
    rfl
   have hm2 : m + s.n = sumN (Ls.take (q + 1)) := by rw [sumN_take hx, hmq.out]
   have hm3 : m + s.n ≤ 1000000 := by rw [hm2]; exact Nat.le_trans (sumN_le _ _) HS.out
   have HM2 := Lib.hid hm2
   obtain ⟨sA, sn, sc, sl⟩ := s
   dsimp only at d0 hm3 HM2
   have e4 : IntKind.i64.wrap ((m : Int) + sn) = ((m + sn : Nat) : Int) := by rw [IntWalk.i64_in _ (by omega)]; omega
   have e5 : ¬ ((m + sn : Nat) : Int) < 0 := by omega
   clear hx hm2
   go_wp2
   go_roundw
   case rel => exact ⟨q + 1, m + sn, by omega, by go_num, by go_num, hm3, HM2, hbr⟩
   case measure => simp [intOf]; omega
  ·obtain rfl : N = q := by omega
   have hgr := grow_ent wr m (by omega)
   have HGR := Lib.hid hgr
   clear hgr
   go_wp2_with (go_at_call 165; (refine HGR.out.mono ?_); rintro e w3 ⟨v3, rfl, hown3, hb3⟩)
   have hb30 : Below w.heap.size w w3 := hbr.trans (hb3.mono hbr.size)
   have hown30 := Lib.hid (own_base hown3 hbr.size)
   clear hown3 HGR
   go_loopw [6, 27] (fun v j wr => ∃ (q : Nat), q ≤ N ∧ j = .int .i64 q ∧ Below w.heap.size w wr ∧ Hid (wr.ownsRow w.heap.size 129 18 v (sumN (Ls.take q)) (ehs (catE (Ls.take q))))) (fun _ j _ => N - (intOf j).toNat)
   case atStart => exact ⟨0, by omega, rfl, hb30, Lib.hid (by simpa [sumN, catE, ehs] using hown30.out)⟩
   case round =>
    clear hb30 hown30 hb3 hbr hm hmq
    obtain ⟨q, hq, rfl, hbr, ho⟩ := hrel
    have hbz := hbr.size
    by_cases hqn : q < N
    ·have e3 : (q : Int) < N := by omega
     obtain ⟨s, hx⟩ : ∃ s, Ls[q]? = some s := ⟨_, List.getElem?_eq_getElem (by have := HN.out; omega)⟩
     have d0 : wr.cell? ⟨B, q, none⟩ = some (.slice s.A s.n s.c) := by
      rw [(HK.out.ext hbr).cell q, List.getElem?_toArray, List.getElem?_map, hx]
      rfl
     have hm2 := sumN_take hx
     have hle : sumN (Ls.take q) + s.n ≤ 1000000 := by rw [← hm2]; exact Nat.le_trans (sumN_le _ _) HS.out
     have hc2 := catE_take hx
     have hin := H.out s (List.mem_of_getElem? hx)
     obtain ⟨sA, sn, sc, sl⟩ := s
     have hrd : Rd wr wr.heap.size 18 sA sn (ehs sl) := (hin.r.below hbr).more hbz
     have h1 : ∀ u ∈ ehs sl, u.oneCell' = true := hin.o
     have ha : sA = none → sn = 0 := hin.a
     dsimp only at d0 hle hm2 hc2
     have HM2 := Lib.hid hm2
     have HC2 := Lib.hid hc2
     have HO := Lib.hid h1
     have HA := Lib.hid ha
     have HR := Lib.hid hrd
     obtain ⟨m0, hm0⟩ : ∃ m0, m0 = sumN (Ls.take q) := ⟨_, rfl⟩
     rw [← hm0] at hle ho HM2
     clear hx hm2 hc2 hin h1 ha hrd hm0
     go_wp2_with (at_builtin; ((with_reducible refine app_rd Tryz.underlying119 info_entry rfl (by decide) _ w.heap.size _ m0 _ ho.out _ sA sn sc (ehs sl) HR.out HA.out HO.out (by unfold maxLen; omega) (by omega) hbz rfl _ _ rfl rfl rfl ?_); intro v' w1 hown hgr hat))
     have hfin : w1.ownsRow w.heap.size 129 18 v' (sumN (Ls.take (q + 1))) (ehs (catE (Ls.take (q + 1)))) := by
      rw [HM2.out, HC2.out]
      exact hown
     have HFIN := Lib.hid hfin
     have hbf := below_own hbr ho.out hgr hbz (Nat.le_refl _)
     clear hfin hown hgr hat
     go_roundw
     case rel => exact ⟨q + 1, by omega, by go_num, hbf, HFIN⟩
     case measure => simp [intOf]; omega
    ·obtain rfl : N = q := by omega
     have ho := ho.out
     rw [List.take_of_length_le (by rw [HN.out]; exact Nat.le_refl _), ← HSS.out] at ho
     have HO := Lib.hid ho
     clear ho
     go_wp2
     go_ret
     exact ⟨_, rfl, HO.out, hbr⟩
section
variable {w w1 w2 w' : World} {base g mb n : Nat} {sv : Value} {nx nx' : Int} {l l1 : List EH} {er : Int → Bool} {Y : Nat → Prop}
theorem LdIn.mine_lt (h : LdIn w base g mb n sv nx l er) {k : Nat} (hk : LdIn.Mine g mb sv l k) : k < w.heap.size := by
 rcases hk with rfl | rfl | hk | ⟨x, hx, hk⟩
 ·exact def_lt' h.k
 ·exact h.er.lt
 ·exact (own_far h.row hk).2.1
 ·exact ((h.each x hx).has hk).2.1
/-- a block of tokens, steps .. is none of a ledger's -/
theorem LdIn.not_mine (h : LdIn w base g mb n sv nx l er) {k : Nat} {t : TypeId} {cs : Array Value} (hb : Bk w k t cs) (h1 : t ≠ 3) (h2 : t ≠ 226) (h3 : t ≠ 129) (h4 : t ≠ 121) : ¬ LdIn.Mine g mb sv l k := by
 have same : ∀ {t' : TypeId} {cs' : Array Value}, Bk w k t' cs' → t' = t := fun hb' => by
  have h5 : w.heap[k]? = some (.cells cs t (0, 0)) := hb
  have h6 : w.heap[k]? = some (.cells _ _ (0, 0)) := hb'
  rw [h5] at h6
  injection h6 with h6
  injection h6 with _ h6
  exact h6.symm
 rintro (rfl | rfl | hk | ⟨x, hx, hk⟩)
 ·exact h4 (same h.k).symm
 ·exact h.er.ne hb rfl
 ·obtain ⟨-, -, cs', hb'⟩ := own_far h.row hk
  exact h3 (same hb').symm
 ·exact (h.each x hx).not hb h1 h2 hk
theorem Rd.sti {B size k : Nat} {A : Option Addr} {xs : List Value} (h : Rd w B size A k xs) (hs : Sti Y w w') (hB : B ≤ w.heap.size) (hy : 0 < k → ∀ a, A = some a → ¬ Y a.block) : Rd w' B size A k xs := by
 refine ⟨h.1, fun hn => ?_⟩
 obtain ⟨b, o, rfl, hb, hc⟩ := h.2 hn
 exact ⟨b, o, rfl, hb, fun j u hu => (World.cell?_of_block (a := ⟨b, o + j, none⟩) (hs.block b (by omega) (hy hn _ rfl))).trans (hc j u hu)⟩
theorem Rd.stiW {size k : Nat} {A : Option Addr} {xs : List Value} (h : Rd w w.heap.size size A k xs) (hs : Sti Y w w') (hy : 0 < k → ∀ a, A = some a → ¬ Y a.block) : Rd w' w'.heap.size size A k xs := (h.sti hs (Nat.le_refl _) hy).more hs.size
/-- the ledger counts on -/
theorem LdIn.count (h : LdIn w base g mb n sv nx l er) (hs : Sti (fun k => k = g) w w') (hk : Bk w' g 121 #[sv, .map (some mb), .int .i64 nx']) : LdIn w' base g mb n sv nx' l er := by
 have own_no : ∀ {e : TypeId} {size k : Nat} {v : Value} {xs : List Value}, w.ownsRow base e size v k xs → e ≠ 121 → ∀ q, v.ownBlock = some q → ¬ q = g := fun ho hne q hq e => by
  obtain ⟨-, -, cs, hb⟩ := own_far ho hq
  subst e
  have h5 : w.heap[q]? = some (.cells cs _ (0, 0)) := hb
  have h6 : w.heap[q]? = some (.cells _ _ (0, 0)) := h.k
  rw [h5] at h6
  injection h6 with h6
  injection h6 with _ h6
  exact hne h6
 exact ⟨hk, h.le, h.lm, hs.own h.row (own_no h.row (by decide)), h.er.keep (hs.block mb h.er.lt (fun e => h.er.ne h.k e)), fun x hx => (h.each x hx).sti hs (fun k hk' e => by
  subst e
  exact (h.each x hx).not h.k (by decide) (by decide) hk'), h.apt⟩
theorem LdOut.comp {es2 : List Ent} (hs : Sti (LdIn.Mine g mb sv l) w w1) (hm : ∀ k, LdIn.Mine g mb sv l1 k → LdIn.Mine g mb sv l k ∨ w.heap.size ≤ k) (h : LdOut base g mb n sv nx l1 er es2 w1 w2) : LdOut base g mb n sv nx l er es2 w w2 := by
 obtain ⟨l2, h1, h2, h3, h4⟩ := h
 refine ⟨l2, h1, h2, hs.trans h3 hm, fun k hk => ?_⟩
 rcases h4 k hk with h | h
 ·exact hm k h
 ·exact .inr (Nat.le_trans hs.size h)
/-- a ledger behind a step: its entries are es; what is none of its own is as it was -/
def LdDone (base g mb n : Nat) (sv : Value) (nx' : Int) (l : List EH) (er : Int → Bool) (es : List Ent) (w w' : World) : Prop :=
 ∃ sv' l', LdIn w' base g mb n sv' nx' l' er ∧ l'.map EH.e = es ∧ Sti (LdIn.Mine g mb sv l) w w' ∧ ∀ k, LdIn.Mine g mb sv' l' k → LdIn.Mine g mb sv l k ∨ w.heap.size ≤ k
theorem LdDone.of_out {es : List Ent} (h : LdOut base g mb n sv nx l er es w w') : LdDone base g mb n sv nx l er es w w' := by
 obtain ⟨l', h1, h2, h3, h4⟩ := h
 exact ⟨sv, l', h1, h2, h3, h4⟩
theorem LdIn.form (h : LdIn w base g mb n sv nx l er) : ∃ A c, sv = .slice A l.length c ∧ l.length ≤ c ∧ (A = none → l.length = 0 ∧ c = 0) := by
 obtain ⟨A, c, e, h1, h2, h3, -⟩ := own_form h.row
 exact ⟨A, c, e, h1, h3⟩
end
/-- a part of a slice of integers -/
theorem rd_icut {w : World} {B f t n c : Nat} {A : Option Addr} {ks : List Int} (h : Rd w B 1 A n (its ks)) (hft : f ≤ t) (htn : t ≤ n) (hnc : n ≤ c) : Rd w B 1 (if c = f then A else A.map (·.add (f * 1))) (t - f) (its ((ks.take t).drop f)) := by
 have hl : ks.length = n := by simpa [its] using h.1
 by_cases hz : t - f = 0
 ·rw [hz]
  have : (ks.take t).drop f = [] := List.eq_nil_of_length_eq_zero (by simp; omega)
  rw [this]
  exact Rd.nil_ _ _ _ _
 ·rw [if_neg (by omega)]
  obtain ⟨b, o, rfl, hb, hc⟩ := h.2 (by omega)
  refine ⟨by simp [its]; omega, fun _ => ⟨b, o + f, by simp [add_flat], hb, fun j u hu => ?_⟩⟩
  rw [Nat.add_assoc]
  refine hc _ u ?_
  have hj : j < t - f := by
   have := (List.getElem?_eq_some_iff.1 hu).1
   simp [its] at this
   omega
  simp only [its, List.getElem?_map, List.getElem?_drop, List.getElem?_take] at hu ⊢
  rw [if_pos (by omega)] at hu
  exact hu
/-- a part of a slice of tokens, of entries -/
theorem rd_fcut {α : Type} {F : α → List Value} {s : Nat} (hF : ∀ x, (F x).length = s) {w : World} {B f t n c : Nat} {A : Option Addr} {ks : List α} (h : Rd w B s A n (ks.flatMap F)) (hl : ks.length = n) (hft : f ≤ t) (htn : t ≤ n) (hnc : n ≤ c) : Rd w B s (if c = f then A else A.map (·.add (f * s))) (t - f) (((ks.take t).drop f).flatMap F) := by
 by_cases hz : t - f = 0
 ·rw [hz]
  have : (ks.take t).drop f = [] := List.eq_nil_of_length_eq_zero (by simp; omega)
  rw [this]
  exact Rd.nil_ _ _ _ _
 ·rw [if_neg (by omega)]
  obtain ⟨b, o, rfl, hb, hc⟩ := h.2 (by omega)
  refine ⟨by rw [flat_len F hF]; congr 1; simp; omega, fun _ => ⟨b, o + f * s, by simp [add_flat], hb, fun j u hu => ?_⟩⟩
  rw [Nat.add_assoc]
  refine hc _ u ?_
  have hs0 : 0 < s := by
   rcases Nat.eq_zero_or_pos s with h0 | h0
   ·have := (List.getElem?_eq_some_iff.1 hu).1
    rw [flat_len F hF, h0] at this
    omega
   ·exact h0
  have e1 : j = j / s * s + j % s := by rw [Nat.mul_comm]; exact (Nat.div_add_mod j s).symm
  have h1 : j % s < s := Nat.mod_lt _ hs0
  rw [e1, flat_get F hF h1] at hu
  rw [e1, show f * s + (j / s * s + j % s) = (f + j / s) * s + j % s by rw [Nat.add_mul]; omega, flat_get F hF h1]
  obtain ⟨y, hy, hu⟩ := Option.bind_eq_some_iff.1 hu
  rw [List.getElem?_drop, List.getElem?_take] at hy
  split at hy
  ·rw [hy]; exact hu
  ·cases hy
section
variable {er : Int → Bool}
theorem plc_cut (l : List EH) (f t : Nat) (ht : t ≤ cntP er (l.map EH.e)) : ((plc er l).take t).drop f = (sel er (fun q => decide (f ≤ q ∧ q < t)) 0 (l.map EH.e)).map (fun n : Nat => (n : Int)) := by
 rw [plc_eq, sel_cut f t _ 0 (by omega), List.map_drop, List.map_take, Nat.sub_zero, Nat.sub_zero]
theorem plc_len (l : List EH) : (plc er l).length = cntP er (l.map EH.e) + 1 := by rw [plc_eq, List.length_map, plN_len]
theorem plc_get (l : List EH) {k : Nat} {i : Int} (h : (plc er l)[k]? = some i) : ∃ j : Nat, i = (j : Int) ∧ (plN er (l.map EH.e))[k]? = some j ∧ j ≤ l.length := by
 rw [plc_eq, List.getElem?_map, Option.map_eq_some_iff] at h
 obtain ⟨j, h1, rfl⟩ := h
 exact ⟨j, rfl, h1, by have := plN_le _ j (List.mem_of_getElem? h1); simpa using this⟩
theorem plc_cut_lt (l : List EH) (f t : Nat) (ht : t ≤ cntP er (l.map EH.e)) : ∀ i ∈ ((plc er l).take t).drop f, 0 ≤ i ∧ i < l.length := by
 intro i hi
 obtain ⟨q, hq⟩ := List.mem_iff_getElem?.1 hi
 rw [List.getElem?_drop, List.getElem?_take] at hq
 split at hq
 ·obtain ⟨j, rfl, h1, -⟩ := plc_get l hq
  have := plN_lt _ _ _ h1 (by omega)
  simp at this
  omega
 ·cases hq
theorem updE_one (f t g h : Nat) (ev : Int) (after : List Tok) (q : Nat) (e : Ent) : updE er 1 f t g h ev after q e = if decide (f ≤ q ∧ q < t) = true then { e with tk := e.tk ++ [ev] } else e := by
 unfold updE inTk
 rw [if_pos (by omega)]
 simp
theorem updE_two (f t g h : Nat) (ev : Int) (after : List Tok) (q : Nat) (e : Ent) : updE er 2 f t g h ev after q e = if decide (f ≤ q ∧ q < t ∧ (q < g ∨ h ≤ q)) = true then { e with tk := e.tk ++ [ev] } else e := by
 unfold updE inTk
 rw [if_pos (by omega)]
 simp
theorem take_one (l : List EH) (f t g h : Nat) (ev : Int) (after : List Tok) (ht : t ≤ cntP er (l.map EH.e)) : tkE ev (((plc er l).take t).drop f) (l.map EH.e) = updL er (updE er 1 f t g h ev after) 0 (l.map EH.e) := by
 rw [plc_cut l f t ht, tkE_modN]
 conv => lhs; rw [← updL_id (er := er) (l.map EH.e) 0]
 have := modN_sel (er := er) (fun e : Ent => { e with tk := e.tk ++ [ev] }) (fun q => decide (f ≤ q ∧ q < t)) (fun _ e => e) (l.map EH.e) 0
 rw [updL_id] at this ⊢
 rw [this]
 exact updL_congr _ _ (fun q e _ => (updE_one f t g h ev after q e).symm)
theorem take_two (l : List EH) (f t g h : Nat) (ev : Int) (after : List Tok) (hfg : f ≤ g) (hgh : g ≤ h) (hht : h ≤ t) (ht : t ≤ cntP er (l.map EH.e)) :
 tkE ev (((plc er l).take t).drop h) (tkE ev (((plc er l).take g).drop f) (l.map EH.e)) = updL er (updE er 2 f t g h ev after) 0 (l.map EH.e) := by
 rw [plc_cut l h t ht, plc_cut l f g (by omega), tkE_modN, tkE_modN]
 have h1 := modN_sel (er := er) (fun e : Ent => { e with tk := e.tk ++ [ev] }) (fun q => decide (f ≤ q ∧ q < g)) (fun _ e => e) (l.map EH.e) 0
 rw [updL_id] at h1
 rw [h1, modN_sel (er := er) (fun e : Ent => { e with tk := e.tk ++ [ev] }) (fun q => decide (h ≤ q ∧ q < t))]
 refine updL_congr _ _ (fun q e _ => ?_)
 rw [updE_two]
 simp only [decide_eq_true_eq]
 by_cases c1 : f ≤ q ∧ q < g
 ·rw [if_neg (show ¬ (h ≤ q ∧ q < t) by omega), if_pos c1, if_pos (show f ≤ q ∧ q < t ∧ (q < g ∨ h ≤ q) by omega)]
 ·rw [if_neg c1]
  by_cases c2 : h ≤ q ∧ q < t
  ·rw [if_pos c2, if_pos (show f ≤ q ∧ q < t ∧ (q < g ∨ h ≤ q) by omega)]
  ·rw [if_neg c2, if_neg (show ¬ (f ≤ q ∧ q < t ∧ (q < g ∨ h ≤ q)) by omega)]
end
theorem rd_ftake {α : Type} {F : α → List Value} {s : Nat} (hF : ∀ x, (F x).length = s) {w : World} {B n k : Nat} {A : Option Addr} {ks : List α} (h : Rd w B s A n (ks.flatMap F)) (hl : ks.length = n) (hk : k ≤ n) : Rd w B s A k ((ks.take k).flatMap F) := by
 refine ⟨by rw [flat_len F hF]; congr 1; simp; omega, fun hp => ?_⟩
 obtain ⟨b, o, e, hb, hc⟩ := h.2 (by omega)
 refine ⟨b, o, e, hb, fun j u hu => hc j u ?_⟩
 have h2 := List.take_append_drop k ks
 have h3 : ks.flatMap F = (ks.take k).flatMap F ++ (ks.drop k).flatMap F := by
  conv => lhs; rw [← h2]
  rw [List.flatMap_append]
 rw [h3, List.getElem?_append_left (List.getElem?_eq_some_iff.1 hu).1]
 exact hu
theorem ehs_one {l : List EH} (h : ∀ x ∈ l, ∃ w base, x.In w base) : ∀ u ∈ ehs l, u.oneCell' = true := by
 intro u hu
 simp only [ehs, List.mem_flatMap] at hu
 obtain ⟨x, hx, hu⟩ := hu
 obtain ⟨w, base, hi⟩ := h x hx
 obtain ⟨A1, c1, e1, -⟩ := own_form hi.t
 obtain ⟨A2, c2, e2, -⟩ := own_form hi.o
 obtain ⟨A3, c3, e3, -⟩ := own_form hi.g
 simp only [EH.cells, e1, e2, e3, Tok.cells, Mk.cells, List.cons_append, List.nil_append, List.mem_cons, List.not_mem_nil, or_false] at hu
 rcases hu with rfl | rfl | rfl | rfl | rfl | rfl | rfl | rfl | rfl | rfl | rfl | rfl | rfl | rfl | rfl | rfl | rfl | rfl <;> simp [Value.oneCell']
/-- entries without rows put in between -/
theorem apt_in {l a b : List EH} {F T : Nat} (h : Apt l) (hF : F ≤ T) (ha : ∀ x ∈ a, ∀ k, ¬ x.Has k) (hb : ∀ x ∈ b, ∀ k, ¬ x.Has k) : Apt (l.take F ++ a ++ (l.take T).drop F ++ b ++ l.drop T) := by
 have e : l = l.take F ++ (l.take T).drop F ++ l.drop T := by
  have h1 : l.take F = (l.take T).take F := by rw [List.take_take, Nat.min_eq_left hF]
  rw [h1, List.take_append_drop, List.take_append_drop]
 unfold Apt at h ⊢
 rw [e] at h
 simp only [List.pairwise_append, List.mem_append] at h ⊢
 obtain ⟨⟨h1, h2, h3⟩, h4, h5⟩ := h
 have pa : a.Pairwise (fun x y : EH => ∀ k, x.Has k → ¬ y.Has k) := List.pairwise_of_forall_mem_list (fun x hx y _ k hk => absurd hk (ha x hx k))
 have pb : b.Pairwise (fun x y : EH => ∀ k, x.Has k → ¬ y.Has k) := List.pairwise_of_forall_mem_list (fun x hx y _ k hk => absurd hk (hb x hx k))
 refine ⟨⟨⟨⟨h1, pa, fun x hx y hy k hk => ha y hy k⟩, h2, ?_⟩, pb, ?_⟩, h4, ?_⟩
 ·rintro x (hx | hx) y hy k hk
  ·exact h3 x hx y hy k hk
  ·exact absurd hk (ha x hx k)
 ·rintro x hx y hy k hk
  exact hb y hy k
 ·rintro x (((hx | hx) | hx) | hx) y hy k hk
  ·exact h5 x (.inl hx) y hy k hk
  ·exact absurd hk (ha x hx k)
  ·exact h5 x (.inr hx) y hy k hk
  ·exact absurd hk (hb x hx k)
theorem cut_block {c f m : Nat} {A : Option Addr} {a : Addr} (h : (if c = f then A else A.map (·.add m)) = some a) : ∃ a', A = some a' ∧ a'.block = a.block := by
 split at h
 ·exact ⟨a, h, rfl⟩
 ·cases A with
  | none => cases h
  | some x =>
    injection h with h
    refine ⟨x, rfl, ?_⟩
    rw [← h]
    unfold Addr.add
    split <;> rfl
end Go.Proofs.YtmacfoebfpljoaaGreat
