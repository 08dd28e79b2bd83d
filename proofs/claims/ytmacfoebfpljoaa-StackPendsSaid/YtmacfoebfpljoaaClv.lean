/- chain: the law's example -/
import Derived.Test.YtmacfoebfpljoaaCov
namespace Go.Proofs.Ytmacfoebfpljoaa
open Go.RowKit

/-- groups come out: they read so -/
theorem grs_out {V : List GrC} {w w' : World} {e : Ending} (h : GrsOut V w e w') : ∃ (A : Option Addr) (n c : Nat) (L' : List GrH), e = .returned (.slice A n c) ∧ L'.length = n ∧ w'.ownsRow w.heap.size 36 8 (.slice A n c) n (grs L') ∧ GrsIn w' w'.heap.size A n L' ∧ (∀ g ∈ L', g.Own w' w.heap.size) ∧ L'.map GrH.val = V ∧ Below w.heap.size w w' := by
  obtain ⟨v, L', rfl, ho, hO, hV, hb⟩ := h
  obtain ⟨A, c, rfl, _, _, h3, h4⟩ := own_form ho
  exact ⟨A, L'.length, c, L', rfl, rfl, ho, ⟨h4, fun g hg => (hO g hg).in_⟩, hO, hV, hb⟩

theorem map_one {α β : Type} {f : α → β} {l : List α} {a : β} (h : l.map f = [a]) : ∃ x, l = [x] ∧ f x = a := by
  cases l with
  | nil => cases h
  | cons x l => cases l with
    | nil => exact ⟨x, rfl, by simpa using h⟩
    | cons y l => simp at h
theorem map_two {α β : Type} {f : α → β} {l : List α} {a b : β} (h : l.map f = [a, b]) : ∃ x y, l = [x, y] ∧ f x = a ∧ f y = b := by
  cases l with
  | nil => cases h
  | cons x l =>
    simp only [List.map_cons, List.cons.injEq] at h
    obtain ⟨y, rfl, h2⟩ := map_one h.2
    exact ⟨x, y, rfl, h.1, h2⟩
def exS (a b : Int) : StC := ⟨1, a, b, 0, 0, 0, 0, 0, [], []⟩
theorem ex_over : overC [⟨0, 0, 5⟩] [⟨[exS 1 3, exS 1 2], ⟨0, 0, 0⟩, ⟨0, 0, 0⟩, 0⟩] = [⟨[exS 6 8, exS 6 7], ⟨0, 0, 0⟩, ⟨0, 0, 0⟩, 0⟩] := by decide

theorem Rd.of_bk {w : World} {b B size n : Nat} {t : TypeId} {cs : Array Value} {xs : List Value} (h : Bk w b t cs) (he : cs.toList = xs) (hl : xs.length = n * size) (hb : b < B) : Rd w B size (some ⟨b, 0, none⟩) n xs := by
  refine ⟨hl, fun _ => ⟨b, 0, rfl, hb, fun j u hu => ?_⟩⟩
  rw [Nat.zero_add, h.cell j, ← he] at *
  simpa using hu
theorem stc_in (x : StC) (w : World) (B : Nat) (h1 : x.sl = []) (h2 : x.st = []) : (StH.mk none 0 0 none 0 0 x).In w B := by
  refine ⟨?_, ?_, by show (0 : Nat) ≤ 1000000; omega, by show (0 : Nat) ≤ 1000000; omega, fun _ => rfl, fun _ => rfl⟩
  · simp only [h1]; exact Rd.nil_ _ _ _ _
  · simp only [h2]; exact Rd.nil_ _ _ _ _

set_option maxRecDepth 100000 in
set_option maxHeartbeats 4000000 in
theorem live35_any (w : World) : Calls Try.prog 7 #[] w fun e w' => e = .returned (.bool true) ∧ Below w.heap.size w w' := by
  have hb0 : Below w.heap.size w (((w.alloc (.cells #[.int .i64 1, .int .i64 1, .int .i64 3, .int .i64 0, .int .i64 0, .int .i64 0, .int .i64 0, .int .i64 0, .slice none 0 0, .slice none 0 0, .int .i64 1, .int .i64 1, .int .i64 2, .int .i64 0, .int .i64 0, .int .i64 0, .int .i64 0, .int .i64 0, .slice none 0 0, .slice none 0 0] 41)).alloc (.cells #[.slice (some ⟨w.heap.size, 0, none⟩) 2 2, .int .i64 0, .int .i64 0, .int .i64 0, .int .i64 0, .int .i64 0, .int .i64 0, .int .i64 0] 36)).alloc (.cells #[.int .i64 0, .int .i64 0, .int .i64 5] 45)) := by repeat (first | with_reducible exact Below.refl _ _ | with_reducible assumption | (with_reducible refine below_drewN ?_ _) | (with_reducible refine Below.drew ?_) | (with_reducible refine Below.alloc ?_ ?_ _; rotate_left; focus (first | with_reducible assumption | omega | (simp; done) | (simp; omega))) | (with_reducible refine Below.setCell ?_ ?_ _; rotate_left; focus (first | with_reducible assumption | omega | (simp; done) | (simp; omega))))
  have k1 : Bk (((w.alloc (.cells #[.int .i64 1, .int .i64 1, .int .i64 3, .int .i64 0, .int .i64 0, .int .i64 0, .int .i64 0, .int .i64 0, .slice none 0 0, .slice none 0 0, .int .i64 1, .int .i64 1, .int .i64 2, .int .i64 0, .int .i64 0, .int .i64 0, .int .i64 0, .int .i64 0, .slice none 0 0, .slice none 0 0] 41)).alloc (.cells #[.slice (some ⟨w.heap.size, 0, none⟩) 2 2, .int .i64 0, .int .i64 0, .int .i64 0, .int .i64 0, .int .i64 0, .int .i64 0, .int .i64 0] 36)).alloc (.cells #[.int .i64 0, .int .i64 0, .int .i64 5] 45)) w.heap.size 41 #[.int .i64 1, .int .i64 1, .int .i64 3, .int .i64 0, .int .i64 0, .int .i64 0, .int .i64 0, .int .i64 0, .slice none 0 0, .slice none 0 0, .int .i64 1, .int .i64 1, .int .i64 2, .int .i64 0, .int .i64 0, .int .i64 0, .int .i64 0, .int .i64 0, .slice none 0 0, .slice none 0 0] := ((Bk.new w _ _).alloc _).alloc _
  have k2 : Bk (((w.alloc (.cells #[.int .i64 1, .int .i64 1, .int .i64 3, .int .i64 0, .int .i64 0, .int .i64 0, .int .i64 0, .int .i64 0, .slice none 0 0, .slice none 0 0, .int .i64 1, .int .i64 1, .int .i64 2, .int .i64 0, .int .i64 0, .int .i64 0, .int .i64 0, .int .i64 0, .slice none 0 0, .slice none 0 0] 41)).alloc (.cells #[.slice (some ⟨w.heap.size, 0, none⟩) 2 2, .int .i64 0, .int .i64 0, .int .i64 0, .int .i64 0, .int .i64 0, .int .i64 0, .int .i64 0] 36)).alloc (.cells #[.int .i64 0, .int .i64 0, .int .i64 5] 45)) (w.heap.size + 1) 36 #[.slice (some ⟨w.heap.size, 0, none⟩) 2 2, .int .i64 0, .int .i64 0, .int .i64 0, .int .i64 0, .int .i64 0, .int .i64 0, .int .i64 0] := (Bk.made _ _ (by simp)).alloc _
  have k3 : Bk (((w.alloc (.cells #[.int .i64 1, .int .i64 1, .int .i64 3, .int .i64 0, .int .i64 0, .int .i64 0, .int .i64 0, .int .i64 0, .slice none 0 0, .slice none 0 0, .int .i64 1, .int .i64 1, .int .i64 2, .int .i64 0, .int .i64 0, .int .i64 0, .int .i64 0, .int .i64 0, .slice none 0 0, .slice none 0 0] 41)).alloc (.cells #[.slice (some ⟨w.heap.size, 0, none⟩) 2 2, .int .i64 0, .int .i64 0, .int .i64 0, .int .i64 0, .int .i64 0, .int .i64 0, .int .i64 0] 36)).alloc (.cells #[.int .i64 0, .int .i64 0, .int .i64 5] 45)) (w.heap.size + 1 + 1) 45 #[.int .i64 0, .int .i64 0, .int .i64 5] := Bk.made _ _ (by simp)
  go_enter Try.func7, Try.ntmps7
  go_wp2_with (go_at_call 8; fail)
  generalize (((w.alloc (.cells #[.int .i64 1, .int .i64 1, .int .i64 3, .int .i64 0, .int .i64 0, .int .i64 0, .int .i64 0, .int .i64 0, .slice none 0 0, .slice none 0 0, .int .i64 1, .int .i64 1, .int .i64 2, .int .i64 0, .int .i64 0, .int .i64 0, .int .i64 0, .int .i64 0, .slice none 0 0, .slice none 0 0] 41)).alloc (.cells #[.slice (some ⟨w.heap.size, 0, none⟩) 2 2, .int .i64 0, .int .i64 0, .int .i64 0, .int .i64 0, .int .i64 0, .int .i64 0, .int .i64 0] 36)).alloc (.cells #[.int .i64 0, .int .i64 0, .int .i64 5] 45)) = w0 at *
  have hin : GrsIn w0 w0.heap.size (some ⟨w.heap.size + 1, 0, none⟩) 1 [⟨some ⟨w.heap.size, 0, none⟩, 2, 2, [⟨none, 0, 0, none, 0, 0, exS 1 3⟩, ⟨none, 0, 0, none, 0, 0, exS 1 2⟩], ⟨0, 0, 0⟩, ⟨0, 0, 0⟩, 0⟩] := by
    refine ⟨Rd.of_bk k2 rfl rfl (def_lt' k2), ?_⟩
    intro g hg
    simp only [List.mem_singleton] at hg
    subst hg
    refine ⟨⟨Rd.of_bk k1 rfl rfl (def_lt' k1), ?_⟩, by show (2 : Nat) ≤ 1000000; omega, fun h => by cases h⟩
    intro s hs
    simp only [List.mem_cons, List.not_mem_nil, or_false] at hs
    rcases hs with rfl | rfl
    · exact stc_in _ _ _ rfl rfl
    · exact stc_in _ _ _ rfl rfl
  refine (over_any _ 1 1 _ _ 1 1 [⟨0, 0, 5⟩] w0 hin (by omega) (by intro g hg; simp at hg; subst hg; show (2 : Nat) ≤ 1000; omega) (by intro g hg; simp at hg; subst hg; show -9223372036854775808 ≤ (0 : Int) ∧ (0 : Int) ≤ 9223372036854775807; omega) ⟨Rd.of_bk k3 rfl rfl (def_lt' k3), by omega⟩).mono ?_
  intro e w1 ho
  obtain ⟨A, n, c, L', rfl, hl, -, hin1, -, hV, hb1⟩ := grs_out ho
  have hV' : L'.map GrH.val = [⟨[exS 6 8, exS 6 7], ⟨0, 0, 0⟩, ⟨0, 0, 0⟩, 0⟩] := by rw [hV]; exact ex_over
  obtain ⟨g, rfl, hg⟩ := map_one hV'
  obtain rfl : n = 1 := hl.symm
  have hgs : g.L.map StH.x = [exS 6 8, exS 6 7] := congrArg GrC.steps hg
  obtain ⟨gin, b, o, rfl, hb, hcc⟩ := hin1.at_ (k := 0) (g := g) rfl
  obtain ⟨gA, gn, gc, gL, pin, back, lost⟩ := g
  simp only at hgs
  obtain ⟨s1, s2, rfl, e1, e2⟩ := map_two hgs
  obtain rfl : gn = 2 := gin.sts.len.symm
  obtain ⟨sin1, b1, o1, hA1, hb1', hc1⟩ := gin.sts.at_ (k := 0) (s := s1) rfl
  obtain ⟨sin2, b2, o2, hA2, hb2', hc2⟩ := gin.sts.at_ (k := 1) (s := s2) rfl
  simp only at hA1 hA2
  subst hA1
  simp only [Option.some.injEq, Addr.mk.injEq, and_true] at hA2
  obtain ⟨rfl, rfl⟩ := hA2
  have d0 := hcc 0 (by omega)
  have x1 := hc1 1 (by omega); have x2 := hc1 2 (by omega)
  have y1 := hc2 1 (by omega); have y2 := hc2 2 (by omega)
  simp only [StH.cells, e1, e2, exS] at x1 x2 y1 y2
  dsimp [GrH.cells] at d0 x1 x2 y1 y2
  have hbf := hb0.trans (hb1.mono hb0.size)
  clear hin hin1 gin sin1 sin2 hgs hg hV' hV hl hcc hc1 hc2 e1 e2 ho hb1' hb2'
  go_wp2
  go_ret
  exact ⟨rfl, hbf⟩
end Go.Proofs.Ytmacfoebfpljoaa
