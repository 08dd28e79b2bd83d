/- route: a route in memory; Add -/
import Derived.Test.YtkkbmcpimglcpaaRtA
namespace Go.Proofs.Ytkkbmcpimglcpaa
open Go.RowKit

theorem rgs_one : ∀ (l : List Rg), ∀ u ∈ rgs l, u.oneCell' = true := by
  intro l u hu
  obtain ⟨r, _, hr⟩ := List.mem_flatMap.1 hu
  simp only [Rg.cells, List.mem_cons, List.not_mem_nil, or_false] at hr
  rcases hr with rfl | rfl | rfl <;> rfl

set_option maxHeartbeats 400000 in
theorem clone_rg (A : Option Addr) (n c : Nat) (l : List Rg) (w : World) (h : Rd w w.heap.size 3 A n (rgs l)) (hA : A = none → n = 0) (hn : n ≤ 1000000) :
    Calls Try.prog 42 #[.slice A n c] w (Cloned 42 3 n (rgs l) w) := by
  cases A with
  | none =>
    obtain rfl : n = 0 := hA rfl
    clear hA
    have heq := fun w' => Lib.run_eql_slice_nil (P := Try.prog) w' 22 42 none 0 c 0 0 Try.underlying22
    go_enter Try.func42, Try.ntmps42
    go_wp2
    go_ret
    exact cloned_nil _ _ _ _ _ rfl h.1
  | some a =>
    have heq := fun w' => Lib.run_eql_slice_nil (P := Try.prog) w' 22 42 (some a) n c 0 0 Try.underlying22
    go_enter Try.func42, Try.ntmps42
    go_wp2_with (at_builtin; ((with_reducible refine app_rd Try.underlying22 info_range rfl (by decide) _ w.heap.size _ 0 [] (own_empty w _ _ _ (Nat.le_refl _)) _ (some a) n c (rgs l) (h.alloc (Nat.le_refl _) _) (by simp) (rgs_one l) (by unfold maxLen; omega) (by omega) (by simp) rfl _ _ rfl rfl rfl ?_); intro v' w1 hown hgr hat))
    go_ret
    refine ⟨v', rfl, by simpa using hown, ((Below.refl _ w).alloc (Nat.le_refl _) _).grown hgr (by simp) (by intro k hk; simp [Value.ownBlock] at hk; omega)⟩

theorem info_rgs : (Try.prog.info? 22).map (fun i => (i.zero, i.size, i.bytes)) = some (some (.slice none 0 0), 1, 24) := by kernel_rfl

theorem own_keep {w w' : World} {base : Nat} {e : TypeId} {size : Nat} {v : Value} {n : Nat} {xs : List Value} (h : w.ownsRow base e size v n xs) (hk : ∀ j, v.ownBlock = some j → w'.heap[j]? = w.heap[j]?) : w'.ownsRow base e size v n xs := by
  obtain ⟨h1, h2⟩ := h
  refine ⟨h1, ?_⟩
  rcases h2 with h2 | ⟨g, cap, cur, rfl, hg, hh, r⟩
  · exact .inl h2
  · exact .inr ⟨g, cap, cur, rfl, hg, (hk g (by simp [Value.ownBlock])).trans hh, r⟩
theorem own_type {w : World} {base : Nat} {e : TypeId} {size : Nat} {v : Value} {n : Nat} {xs : List Value} (h : w.ownsRow base e size v n xs) : ∀ j, v.ownBlock = some j → ∃ cur, Bk w j e cur := by
  intro j hj
  rcases h.2 with ⟨rfl, _⟩ | ⟨g, cap, cur, rfl, hg, hh, r⟩
  · simp [Value.ownBlock] at hj
  · simp [Value.ownBlock] at hj
    subst hj
    exact ⟨cur, hh⟩
theorem bk_ne {w : World} {a b : Nat} {s t : TypeId} {cs ds : Array Value} (ha : Bk w a s cs) (hb : Bk w b t ds) (h : s ≠ t) : a ≠ b := by
  rintro rfl
  have ha' : w.heap[a]? = some (.cells cs s (0, 0)) := ha
  have hb' : w.heap[a]? = some (.cells ds t (0, 0)) := hb
  rw [ha'] at hb'
  injection hb' with hb'
  injection hb' with _ e
  exact h e

/-- blocks of ranges are kept -/
def KeepRg (W W' : World) : Prop := ∀ j cs, Bk W j 42 cs → W'.heap[j]? = W.heap[j]?
theorem KeepRg.below {W W' : World} (h : Below W.heap.size W W') : KeepRg W W' := fun j _ hj => h.block j (def_lt' hj)
theorem KeepRg.trans {A B C : World} (h : KeepRg A B) (k : KeepRg B C) : KeepRg A C := fun j cs hj => (k j cs ((h j cs hj).trans hj)).trans (h j cs hj)
/-- a map that is handed in: it lies below the law's own memory, or in memory of its own -/
def RgArg (W : World) (base : Nat) (A : Option Addr) (n : Nat) (l : List Rg) : Prop :=
  Rd W base 3 A n (rgs l) ∨ ∃ c, W.ownsRow base 42 3 (.slice A n c) n (rgs l)
theorem RgArg.rd {W : World} {base : Nat} {A : Option Addr} {n : Nat} {l : List Rg} (h : RgArg W base A n l) (hb : base ≤ W.heap.size) : Rd W W.heap.size 3 A n (rgs l) := by
  rcases h with h | ⟨c, h⟩
  · exact h.more hb
  · exact Rd.of_own h
theorem RgArg.keep {W W' : World} {base : Nat} {A : Option Addr} {n : Nat} {l : List Rg} (h : RgArg W base A n l) (hb : Below base W W') (hk : KeepRg W W') : RgArg W' base A n l := by
  rcases h with h | ⟨c, h⟩
  · exact .inl (h.below hb)
  · exact .inr ⟨c, own_keep h (fun j hj => by obtain ⟨cur, hc⟩ := own_type h j hj; exact hk j cur hc)⟩

/-- the maps of a route, each in memory of its own -/
def Each (W : World) (base : Nat) (vs : List Value) (ms : List (List Rg)) : Prop :=
  ∀ (i : Nat) (m : List Rg), ms[i]? = some m → ∃ A n c, vs[i]? = some (.slice A n c) ∧ W.ownsRow base 42 3 (.slice A n c) n (rgs m)
/-- a route in memory: its maps, and which mirrors which -/
def RouteIs (W : World) (base R : Nat) (ms : List (List Rg)) (f : IMap) : Prop :=
  ∃ v mo vs, Bk W R 51 #[v, .map mo] ∧ base ≤ R ∧ W.ownsRow base 22 1 v ms.length vs ∧ Each W base vs ms ∧ ((mo = none ∧ ∀ k, f k = none) ∨ ∃ b, mo = some b ∧ base ≤ b ∧ MapIs W b f)

/-- a route's own blocks that a call may turn: its struct, its row of maps, its table -/
def Foot (W : World) (R j : Nat) : Prop := j = R ∨ ∃ v mo, Bk W R 51 #[v, .map mo] ∧ (v.ownBlock = some j ∨ mo = some j)
/-- all else reads as before; and these are of before, or new -/
def Kept (W W' : World) (R : Nat) : Prop := (∀ j, j < W.heap.size → ¬ Foot W R j → W'.heap[j]? = W.heap[j]?) ∧ ∀ j, Foot W' R j → Foot W R j ∨ W.heap.size ≤ j
theorem Foot.one {W : World} {R j : Nat} {v : Value} {mo : Option Nat} (h : Bk W R 51 #[v, .map mo]) : Foot W R j ↔ (j = R ∨ v.ownBlock = some j ∨ mo = some j) := by
  constructor
  · rintro (e | ⟨v', mo', h', e⟩)
    · exact .inl e
    · have h1 : W.heap[R]? = some (.cells #[v, .map mo] 51 (0, 0)) := h
      have h2 : W.heap[R]? = some (.cells #[v', .map mo'] 51 (0, 0)) := h'
      rw [h1] at h2
      injection h2 with h2
      injection h2 with h2
      injection h2 with h2
      injection h2 with e1 h2
      injection h2 with e2 _
      injection e2 with e2
      subst e1 e2
      exact .inr e
  · rintro (e | e)
    · exact .inl e
    · exact .inr ⟨v, mo, h, e⟩
theorem Kept.below {W W' : World} {R : Nat} {v : Value} {mo : Option Nat} (h : Bk W R 51 #[v, .map mo]) (hb : Below W.heap.size W W') : Kept W W' R :=
  ⟨fun j hj _ => hb.block j hj, fun _ hj => .inl ((Foot.one h).2 ((Foot.one (h.ext hb)).1 hj))⟩
theorem Kept.trans {A B C : World} {R : Nat} (h : Kept A B R) (k : Kept B C R) (hz : A.heap.size ≤ B.heap.size) : Kept A C R :=
  ⟨fun j hj hf => (k.1 j (by omega) (fun hfb => (h.2 j hfb).elim hf (fun h2 => by omega))).trans (h.1 j hj hf), fun j hj => (k.2 j hj).elim (h.2 j) (fun h2 => .inr (by omega))⟩

theorem MapIs.keep {W W' : World} {b : Nat} {f : IMap} (h : MapIs W b f) (hk : W'.heap[b]? = W.heap[b]?) : MapIs W' b f := by
  obtain ⟨es, clock, h1, h2⟩ := h
  exact ⟨es, clock, hk.trans h1, h2⟩
theorem MapIs.lt {W : World} {b : Nat} {f : IMap} (h : MapIs W b f) : b < W.heap.size := by
  obtain ⟨es, clock, h1, h2⟩ := h
  exact def_lt' h1
theorem MapIs.ne {W : World} {b a : Nat} {f : IMap} (h : MapIs W b f) {t : TypeId} {cs : Array Value} (ha : Bk W a t cs) : b ≠ a := by
  rintro rfl
  obtain ⟨es, clock, h1, h2⟩ := h
  have ha' : W.heap[b]? = some (.cells cs t (0, 0)) := ha
  rw [h1] at ha'
  cases ha'
theorem Each.keep {W W' : World} {base : Nat} {vs : List Value} {ms : List (List Rg)} (h : Each W base vs ms) (hk : ∀ j cs, Bk W j 42 cs → W'.heap[j]? = W.heap[j]?) : Each W' base vs ms := by
  intro i m hi
  obtain ⟨A, n, c, h1, h2⟩ := h i m hi
  exact ⟨A, n, c, h1, own_keep h2 (fun j hj => by obtain ⟨cur, hc⟩ := own_type h2 j hj; exact hk j cur hc)⟩
theorem RouteIs.ext {W W' : World} {base R : Nat} {ms : List (List Rg)} {f : IMap} (h : RouteIs W base R ms f) (hb : Below W.heap.size W W') : RouteIs W' base R ms f := by
  obtain ⟨v, mo, vs, h1, h2, h3, h4, h5⟩ := h
  refine ⟨v, mo, vs, h1.ext hb, h2, own_below h3 hb, h4.keep (fun j cs hj => hb.block j (def_lt' hj)), ?_⟩
  rcases h5 with h5 | ⟨b, e, h6, h7⟩
  · exact .inl h5
  · exact .inr ⟨b, e, h6, h7.keep (hb.block b h7.lt)⟩
end Go.Proofs.Ytkkbmcpimglcpaa
