/- a region that draws its order, by what holds behind each set of its operations -/
import Derived.Test.YtkkbmcpimglcpaaP
namespace Go.Proofs.Ytkkbmcpimglcpaa
open Go.RowKit

section
variable {P : Program} {ops : Array Oper} {Q : Exit → Act → World → Prop}
/-- operation i is carried out -/
def put1 (L : Nat → Bool) (i : Nat) : Nat → Bool := fun k => if k = i then true else L k
theorem put1_same (L : Nat → Bool) (i : Nat) : put1 L i i = true := if_pos rfl
theorem put1_other (L : Nat → Bool) {i k : Nat} (h : k ≠ i) : put1 L i k = L k := if_neg h
/-- each operation waits for earlier ones alone -/
def ups (ops : Array Oper) : Bool := (List.range ops.size).all fun i => match ops[i]? with | some o => o.after.all fun e => decide (e.on < i) | none => true
theorem ups_spec (h : ups ops = true) {i : Nat} {o : Oper} (ho : ops[i]? = some o) : ∀ e ∈ o.after, e.on < i := by
  intro e he
  have hi := (Array.getElem?_eq_some_iff.1 ho).1
  have := List.all_eq_true.1 h i (List.mem_range.2 hi)
  rw [ho] at this
  simpa using (Array.all_eq_true_iff_forall_mem.1 this) e he

def todo (n : Nat) (L : Nat → Bool) : List Nat := (List.range n).filter fun k => !L k
theorem todo_less {n : Nat} {L : Nat → Bool} {i : Nat} (hi : i < n) (hL : L i = false) : (todo n (put1 L i)).length < (todo n L).length := by
  have : todo n (put1 L i) = (todo n L).filter (fun k => decide (k ≠ i)) := by
    unfold todo
    rw [List.filter_filter]
    congr 1
    funext k
    by_cases h : k = i
    · subst h; simp [put1]
    · simp [put1, h]
  rw [this]
  refine List.length_filter_lt_length_iff_exists.2 ⟨i, ?_, by simp⟩
  unfold todo
  rw [List.mem_filter]
  exact ⟨List.mem_range.2 hi, by rw [hL]; rfl⟩

theorem any_inv (I : (Nat → Bool) → Act → World → Prop) (hup : ups ops = true)
    (hstep : ∀ (L : Nat → Bool) (a : Act) (w : World) (i : Nat) (o : Oper), I L a w → ops[i]? = some o → L i = false → (∀ e ∈ o.after, Region.binds .any e = true → L e.on = true) → wpOp P ops Q i (fun a' w' => I (put1 L i) a' w') a w)
    (hend : ∀ (L : Nat → Bool) (a : Act) (w : World), I L a w → (∀ i, i < ops.size → L i = true) → Q .normal a w) :
    ∀ (fuel : Nat) (listed : Array Bool) (a : Act) (w : World), listed.size = ops.size → (todo ops.size (fun k => listed.getD k false)).length ≤ fuel → I (fun k => listed.getD k false) a w → wpAny P .any ops Q fuel listed a w := by
  have conv : ∀ {listed : Array Bool}, listed.size = ops.size → ∀ i, i < ops.size → listed.getD i true = listed.getD i false := by
    intro listed hs i hi
    simp [Array.getD, hs, hi]
  have allDone : ∀ {listed : Array Bool}, listed.size = ops.size → Region.ready .any ops listed = [] → ∀ i, i < ops.size → listed.getD i false = true := by
    intro listed hs hr i
    induction i using Nat.strongRecOn with
    | _ i ih =>
      intro hi
      cases hL : listed.getD i false with
      | true => rfl
      | false =>
        exfalso
        have : i ∈ Region.ready .any ops listed := mem_ready.2 ⟨by rw [conv hs i hi]; exact hL, ops[i], Array.getElem?_eq_getElem hi, fun e he _ => ih e.on (ups_spec hup (Array.getElem?_eq_getElem hi) e he) (Nat.lt_trans (ups_spec hup (Array.getElem?_eq_getElem hi) e he) hi)⟩
        rw [hr] at this
        cases this
  have step : ∀ (fuel : Nat), (∀ (listed : Array Bool) (a : Act) (w : World), listed.size = ops.size → (todo ops.size (fun k => listed.getD k false)).length ≤ fuel → I (fun k => listed.getD k false) a w → wpAny P .any ops Q fuel listed a w) →
      ∀ (listed : Array Bool) (a : Act) (w : World), listed.size = ops.size → (todo ops.size (fun k => listed.getD k false)).length ≤ fuel + 1 → I (fun k => listed.getD k false) a w → wpAny P .any ops Q (fuel + 1) listed a w := by
    intro fuel ih listed a w hs hc hI
    refine ⟨fun hr => hend _ a w hI (allDone hs hr), fun i hi => ?_⟩
    obtain ⟨h1, o, ho, h2⟩ := mem_ready.1 hi
    have hlt := (Array.getElem?_eq_some_iff.1 ho).1
    have hL : listed.getD i false = false := by rw [← conv hs i hlt]; exact h1
    have hput : (fun k => (listed.setIfInBounds i true).getD k false) = put1 (fun k => listed.getD k false) i := by
      funext k
      by_cases hk : k = i
      · subst hk
        simp [put1, Array.getD, hs, hlt]
      · rw [put1_other _ hk]
        simp only [Array.getD_eq_getD_getElem?]
        rw [Array.getElem?_setIfInBounds_ne (Ne.symm hk)]
    refine wpOp_mono (fun a' w' hI' => ih (listed.setIfInBounds i true) a' w' (by simp [hs]) ?_ (by rw [hput]; exact hI')) (hstep _ a w i o hI ho hL h2)
    rw [hput]
    have := todo_less (L := fun k => listed.getD k false) hlt hL
    omega
  intro fuel
  induction fuel with
  | zero =>
    intro listed a w hs hc hI
    have hall : ∀ i, i < ops.size → listed.getD i false = true := by
      intro i hi
      cases hL : listed.getD i false with
      | true => rfl
      | false =>
        have : i ∈ todo ops.size (fun k => listed.getD k false) := by
          unfold todo
          rw [List.mem_filter]
          exact ⟨List.mem_range.2 hi, by show (!(listed.getD i false)) = true; rw [hL]; rfl⟩
        rw [List.eq_nil_of_length_eq_zero (Nat.le_zero.1 hc)] at this
        cases this
    refine ⟨?_, hend _ a w hI hall⟩
    refine List.eq_nil_iff_forall_not_mem.2 fun i hi => ?_
    obtain ⟨h1, o, ho, _⟩ := mem_ready.1 hi
    have hlt := (Array.getElem?_eq_some_iff.1 ho).1
    rw [conv hs i hlt, hall i hlt] at h1
    cases h1
  | succ fuel ih => exact step fuel ih

/-- a region, by what holds behind each set of its operations -/
theorem region_inv {id : Nat} {a : Act} {w : World} (I : (Nat → Bool) → Act → World → Prop) (hm : P.follows .mixedOrders = true) (hup : ups ops = true)
    (hstart : I (fun _ => false) a w.drew)
    (hstep : ∀ (L : Nat → Bool) (a : Act) (w : World) (i : Nat) (o : Oper), I L a w → ops[i]? = some o → L i = false → (o.after.toList.all fun e => !Region.binds .any e || L e.on) = true →
      ∀ K : Act → World → Prop, Shut (∀ a' w', I (put1 L i) a' w' → K a' w') → if Region.wanted o (yielded ops a.tmps) = true then Oper.wp P o a w K Q else K (a.put o.dst undef) w)
    (hend : ∀ (L : Nat → Bool) (a : Act) (w : World), I L a w → (∀ i, i < ops.size → L i = true) → Q .normal a w) : (Code.region id ops true).wp P Q a w := by
  refine wp_region_any hm (any_inv I hup (fun L a w i o hI ho hL hd => wpOp_step ho fun K hK => hstep L a w i o hI ho hL ?_ K hK) hend _ _ _ _ (by simp) ?_ ?_)
  · refine List.all_eq_true.2 fun e he => ?_
    have := hd e (by simpa using he)
    cases hb : Region.binds .any e with
    | false => rfl
    | true => rw [this hb]; rfl
  · unfold todo
    have := List.length_filter_le (fun k => !(fun k => (Array.replicate ops.size false).getD k false) k) (List.range ops.size)
    simpa using this
  · have e : (fun k => (Array.replicate ops.size false).getD k false) = fun _ => false := by
      funext k
      by_cases h : k < ops.size <;> simp [Array.getD, h]
    rw [e]
    exact hstart
end
end Go.Proofs.Ytkkbmcpimglcpaa
