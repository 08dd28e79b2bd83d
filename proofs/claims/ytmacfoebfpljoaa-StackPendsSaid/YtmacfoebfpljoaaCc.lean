/- chain: where a position comes to over a link without one ahead -/
import Derived.Test.YtmacfoebfpljoaaCb
import Derived.Test.YtmacfoebfpljoaaF
import Derived.Test.YtmacfoebfpljoaaQ
namespace Go.Proofs.Ytmacfoebfpljoaa
open Go.RowKit

set_option maxRecDepth 100000 in
set_option maxHeartbeats 2000000 in
theorem ltell_nil (bt b : Nat) (m : List Rg) (p s : Int) (w : World) (h : LinkAt w w.heap.size bt b m []) :
    Calls Try.prog 23 #[.pointer (some ⟨b, 0, none⟩), .int .i64 p, .int .i64 s] w (TellSays (tellL m [] p s) w) := by
  obtain ⟨hlt, A, n, c, v, hk, hm, _⟩ := h
  have ht := fun W (hb : Below w.heap.size w W) => tell_agg A n c m p s W (by have := hm.n; unfold maxLen; omega) (fun _ => (hm.rd.below hb).more hb.size) hm.rd.rlen
  have HT := Lib.hid ht
  have HLT := def_lt' hk
  have c1 := hk.cell 1; have c3 := hk.cell 3
  dsimp at c1 c3
  clear ht hm hk
  go_enter Try.func23, Try.ntmps23
  go_wp2_with (go_at_call 35; (refine (HT.out _ (by repeat (first | with_reducible exact Below.refl _ _ | with_reducible assumption | (with_reducible refine below_drewN ?_ _) | (with_reducible refine Below.drew ?_) | (with_reducible refine Below.alloc ?_ ?_ _; rotate_left; focus (first | with_reducible assumption | omega | (simp; done) | (simp; omega))) | (with_reducible refine Below.setCell ?_ ?_ _; rotate_left; focus (first | with_reducible assumption | omega | (simp; done) | (simp; omega)))))).mono ?_); rintro e w1 ⟨q, er, hq, rfl, hb1⟩; have kb := (Bk.new w 79 #[.int .i64 0, .bool false, .bool false, .int .i64 0, .int .i64 0]).ext hb1; have lb := def_lt' kb; have fb := kb.frozen; have d0 := kb.cell 0; have d1 := kb.cell 1; have d2 := kb.cell 2; have d3 := kb.cell 3; have d4 := kb.cell 4; dsimp at d0 d1 d2 d3 d4)
  have e : tellL m [] p s = (⟨q.pos, q.gone, q.inside, 0, 0⟩, er) := by simp only [tellL, hq.out]
  rw [e]
  have y : Bk ((((((w1.setCell ⟨w.heap.size, 0, none⟩ (.int .i64 q.pos)).setCell ⟨w.heap.size, 1, none⟩ (.bool q.gone)).setCell ⟨w.heap.size, 2, none⟩ (.bool q.inside)).setCell ⟨w.heap.size, 3, none⟩ (.int .i64 0)).setCell ⟨w.heap.size, 4, none⟩ (.int .i64 0)).alloc (.cells #[.int .i64 q.pos, .bool q.gone, .bool q.inside, .int .i64 0, .int .i64 0] 79)) w.heap.size 79 #[.int .i64 q.pos, .bool q.gone, .bool q.inside, .int .i64 0, .int .i64 0] := (((((kb.set_ 0 _).set_ 1 _).set_ 2 _).set_ 3 _).set_ 4 _).alloc _
  have hbe : Below w.heap.size w w1 := Below.trans (by repeat (first | with_reducible exact Below.refl _ _ | with_reducible assumption | (with_reducible refine below_drewN ?_ _) | (with_reducible refine Below.drew ?_) | (with_reducible refine Below.alloc ?_ ?_ _; rotate_left; focus (first | with_reducible assumption | omega | (simp; done) | (simp; omega))) | (with_reducible refine Below.setCell ?_ ?_ _; rotate_left; focus (first | with_reducible assumption | omega | (simp; done) | (simp; omega))))) (hb1.mono (by simp))
  have q0 := y.cell 0; have q1 := y.cell 1; have q2 := y.cell 2; have q3 := y.cell 3; have q4 := y.cell 4
  dsimp at q0 q1 q2 q3 q4
  refine bodyPost_ret (v := .tuple #[.agg #[.int .i64 q.pos, .bool q.gone, .bool q.inside, .int .i64 0, .int .i64 0], .int .i64 er]) (by simp [results, Try.results23, go_sem, q0, q1, q2, q3, q4]) rfl ⟨rfl, ?_⟩
  have hz := hbe.size
  repeat (first | with_reducible exact Below.refl _ _ | with_reducible assumption | (with_reducible refine below_drewN ?_ _) | (with_reducible refine Below.drew ?_) | (with_reducible refine Below.alloc ?_ ?_ _; rotate_left; focus (first | with_reducible assumption | omega | (simp; done) | (simp; omega))) | (with_reducible refine Below.setCell ?_ ?_ _; rotate_left; focus (first | with_reducible assumption | omega | (simp; done) | (simp; omega))))
end Go.Proofs.Ytmacfoebfpljoaa
