/- pin: By -/
import Derived.Test.YtmacfoebfpljoaaCd
import Derived.Test.YtmacfoebfpljoaaK2
namespace Go.Proofs.Ytmacfoebfpljoaa
open Go.RowKit

/-- what 'tell' of a link is, as a value -/
abbrev tellV (bl : Nat) : Value := .func (.func 23) #[.pointer (some ⟨bl, 0, none⟩)] #[]
/-- a link tells T from w on, whatever becomes of the blocks from B on -/
def Tells (T : Int → Int → Pl × Int) (bl B : Nat) (w : World) : Prop := B ≤ w.heap.size ∧ ∀ (W : World) (p s : Int), Below B w W → Calls Try.prog 23 #[.pointer (some ⟨bl, 0, none⟩), .int .i64 p, .int .i64 s] W (TellSays (T p s) W)
theorem Tells.ext {T : Int → Int → Pl × Int} {bl B : Nat} {w W : World} (h : Tells T bl B w) (hb : Below B w W) : Tells T bl B W := ⟨Nat.le_trans h.1 hb.size, fun W' p s hb' => h.2 W' p s (hb.trans hb')⟩
theorem tells_link {bt bl B : Nat} {m : List Rg} {ks : List Lk} {w : World} (h : LinkAt w B bt bl m ks) (hB : B ≤ w.heap.size) : Tells (tellL m ks) bl B w := ⟨hB, fun W p s hb => ltell_any bt m ks bl p s W ((h.below hb).more (Nat.le_trans hB hb.size))⟩
@[go_sem] theorem nilf_not (bl : Nat) (w : World) : (binOp .eql 67 (tellV bl) .nilFunc).run Try.prog w = .ok (.bool false) w := by
  kernel_rfl

set_option maxRecDepth 100000 in
set_option maxHeartbeats 2000000 in
theorem pinat_any (T : Int → Int → Pl × Int) (bl B bx : Nat) (p : Int) (w : World) (hT : Tells T bl B w) (hk : Bk w bx 67 #[tellV bl]) :
    Calls Try.prog 34 #[.int .i64 p, .pointer (some ⟨bx, 0, none⟩)] w fun e w' => e = .returned (.int .i64 (pinAt T p)) ∧ Below w.heap.size w w' := by
  have ht := fun W hb => calls_on hb (hT.2 W p 1 (hb.mono hT.1))
  have hv : pinAt T p = if (T p 1).2 = 0 then (T p 1).1.pos else 0 := rfl
  rw [hv]
  obtain ⟨⟨⟨x, g, i, r, o⟩, er⟩, hX⟩ : ∃ y, T p 1 = y := ⟨_, rfl⟩
  rw [hX]
  simp only [hX, Pl.val] at ht
  have HT := Lib.hid ht
  have c0 := hk.cell 0
  dsimp at c0
  clear ht hT hv hX
  by_cases he : er = 0
  · subst he
    rw [if_pos rfl]
    go_enter Try.func34, Try.ntmps34
    go_wp2_with (go_at_call 23; (refine (HT.out _ (by repeat (first | with_reducible exact Below.refl _ _ | with_reducible assumption | (with_reducible refine below_drewN ?_ _) | (with_reducible refine Below.drew ?_) | (with_reducible refine Below.alloc ?_ ?_ _; rotate_left; focus (first | with_reducible assumption | omega | (simp; done) | (simp; omega))) | (with_reducible refine Below.setCell ?_ ?_ _; rotate_left; focus (first | with_reducible assumption | omega | (simp; done) | (simp; omega)))))).mono ?_); rintro e w1 ⟨rfl, hb1, hz1, hx1⟩)
    go_ret
    exact ⟨rfl, by repeat (first | with_reducible exact Below.refl _ _ | with_reducible assumption | (with_reducible refine below_drewN ?_ _) | (with_reducible refine Below.drew ?_) | (with_reducible refine Below.alloc ?_ ?_ _; rotate_left; focus (first | with_reducible assumption | omega | (simp; done) | (simp; omega))) | (with_reducible refine Below.setCell ?_ ?_ _; rotate_left; focus (first | with_reducible assumption | omega | (simp; done) | (simp; omega))))⟩
  · rw [if_neg he]
    have t1 : (er == 0) = false := by simpa using he
    go_enter Try.func34, Try.ntmps34
    go_wp2_with (go_at_call 23; (refine (HT.out _ (by repeat (first | with_reducible exact Below.refl _ _ | with_reducible assumption | (with_reducible refine below_drewN ?_ _) | (with_reducible refine Below.drew ?_) | (with_reducible refine Below.alloc ?_ ?_ _; rotate_left; focus (first | with_reducible assumption | omega | (simp; done) | (simp; omega))) | (with_reducible refine Below.setCell ?_ ?_ _; rotate_left; focus (first | with_reducible assumption | omega | (simp; done) | (simp; omega)))))).mono ?_); rintro e w1 ⟨rfl, hb1, hz1, hx1⟩)
    go_ret
    exact ⟨rfl, by repeat (first | with_reducible exact Below.refl _ _ | with_reducible assumption | (with_reducible refine below_drewN ?_ _) | (with_reducible refine Below.drew ?_) | (with_reducible refine Below.alloc ?_ ?_ _; rotate_left; focus (first | with_reducible assumption | omega | (simp; done) | (simp; omega))) | (with_reducible refine Below.setCell ?_ ?_ _; rotate_left; focus (first | with_reducible assumption | omega | (simp; done) | (simp; omega))))⟩

set_option maxRecDepth 100000 in
set_option maxHeartbeats 2000000 in
theorem pinby_any (T : Int → Int → Pl × Int) (bl B : Nat) (k a b : Int) (w : World) (hT : Tells T bl B w) :
    Calls Try.prog 22 #[.agg #[.int .i64 k, .int .i64 a, .int .i64 b], tellV bl] w fun e w' => e = .returned (.agg #[.int .i64 (pinB T ⟨k, a, b⟩).k, .int .i64 (pinB T ⟨k, a, b⟩).a, .int .i64 (pinB T ⟨k, a, b⟩).b]) ∧ Below w.heap.size w w' := by
  have hat := fun W (p : Int) (hb : Below w.heap.size w W) (hk : Bk W (w.heap.size + 1) 67 #[tellV bl]) => calls_on hb (pinat_any T bl B (w.heap.size + 1) p W (hT.ext (hb.mono hT.1)) hk)
  have HA := Lib.hid hat
  clear hat hT
  have k0 : Bk (((w.alloc (.cells #[.int .i64 k, .int .i64 a, .int .i64 b] 34)).alloc (.cells #[tellV bl] 67)).alloc (.cells #[.int .i64 0, .int .i64 0, .int .i64 0] 34)) w.heap.size 34 #[.int .i64 k, .int .i64 a, .int .i64 b] := ((Bk.new w 34 _).alloc _).alloc _
  have k1 : Bk (((w.alloc (.cells #[.int .i64 k, .int .i64 a, .int .i64 b] 34)).alloc (.cells #[tellV bl] 67)).alloc (.cells #[.int .i64 0, .int .i64 0, .int .i64 0] 34)) (w.heap.size + 1) 67 #[tellV bl] := (Bk.made _ _ (by simp)).alloc _
  have k2 : Bk (((w.alloc (.cells #[.int .i64 k, .int .i64 a, .int .i64 b] 34)).alloc (.cells #[tellV bl] 67)).alloc (.cells #[.int .i64 0, .int .i64 0, .int .i64 0] 34)) (w.heap.size + 1 + 1) 34 #[.int .i64 0, .int .i64 0, .int .i64 0] := Bk.made _ _ (by simp)
  have hb0 : Below w.heap.size w (((w.alloc (.cells #[.int .i64 k, .int .i64 a, .int .i64 b] 34)).alloc (.cells #[tellV bl] 67)).alloc (.cells #[.int .i64 0, .int .i64 0, .int .i64 0] 34)) := by repeat (first | with_reducible exact Below.refl _ _ | with_reducible assumption | (with_reducible refine below_drewN ?_ _) | (with_reducible refine Below.drew ?_) | (with_reducible refine Below.alloc ?_ ?_ _; rotate_left; focus (first | with_reducible assumption | omega | (simp; done) | (simp; omega))) | (with_reducible refine Below.setCell ?_ ?_ _; rotate_left; focus (first | with_reducible assumption | omega | (simp; done) | (simp; omega))))
  by_cases h1 : k = 1
  · subst h1
    go_enter Try.func22, Try.ntmps22
    go_upto_region 6 with fail
    generalize ((w.alloc (.cells #[.int .i64 1, .int .i64 a, .int .i64 b] 34)).alloc (.cells #[tellV bl] 67)).alloc (.cells #[.int .i64 0, .int .i64 0, .int .i64 0] 34) = w0 at *
    have hF : ∀ w', Below w0.heap.size w0 w' → w'.cell? ⟨w.heap.size, 1, none⟩ = some (.int .i64 a) ∧ w'.cell? ⟨w.heap.size, 2, none⟩ = some (.int .i64 b) := fun w' hb => ⟨(k0.ext hb).cell 1, (k0.ext hb).cell 2⟩
    have HF := Lib.hid hF
    have hz0 := hb0.size
    clear hF
    refine wp_normal ?_
    refine region_L (S := fun w' => Below w0.heap.size w0 w') [9, 10, 11] (by kernel_rfl) (Below.refl _ _).drew (fun hHeld => ?_)
    (refine takeL_if (i := 0) (oi := _) (v := ?_) (by simp only [List.getElem?_toArray, List.getElem?_cons_zero]; rfl) (by kernel_rfl) (by kernel_rfl) (by kernel_rfl) (fun _ _ _ h => h) (by rfl) ?_ (by assumption) ?_; rotate_left; (focus ((intro w hSw; (try have hSw := HF.out _ hSw); (try dsimp only at hSw); go_simp); try exact rfl)); simp only [Act.put, List.setIfInBounds_toArray, List.set_cons_zero, List.set_cons_succ]; refine takeL_if (i := 1) (oi := _) (v := ?_) (by simp only [List.getElem?_toArray, List.getElem?_cons_succ, List.getElem?_cons_zero]; rfl) (by kernel_rfl) (by kernel_rfl) (by kernel_rfl) (fun _ _ _ h => h) (by rfl) ?_ (by assumption) ?_; rotate_left; (focus ((intro w hSw; (try have hSw := HF.out _ hSw); (try dsimp only at hSw); go_simp); try exact rfl)); simp only [Act.put, List.setIfInBounds_toArray, List.set_cons_zero, List.set_cons_succ]; refine takeL_if (i := 2) (oi := _) (v := ?_) (by simp only [List.getElem?_toArray, List.getElem?_cons_succ, List.getElem?_cons_zero]; rfl) (by kernel_rfl) (by kernel_rfl) (by kernel_rfl) (fun _ _ _ h => h) (by rfl) ?_ (by assumption) ?_; rotate_left; (focus ((intro w hSw; (try have hSw := HF.out _ hSw); (try dsimp only at hSw); go_simp); try exact rfl)); simp only [Act.put, List.setIfInBounds_toArray, List.set_cons_zero, List.set_cons_succ]; refine takeL_if (i := 4) (oi := _) (v := ?_) (by simp only [List.getElem?_toArray, List.getElem?_cons_succ, List.getElem?_cons_zero]; rfl) (by kernel_rfl) (by kernel_rfl) (by kernel_rfl) (fun _ _ _ h => h) (by rfl) ?_ (by assumption) ?_; rotate_left; (focus ((intro w hSw; (try have hSw := HF.out _ hSw); (try dsimp only at hSw); go_simp); try exact rfl)); simp only [Act.put, List.setIfInBounds_toArray, List.set_cons_zero, List.set_cons_succ]; refine takeL_if (i := 5) (oi := _) (v := ?_) (by simp only [List.getElem?_toArray, List.getElem?_cons_succ, List.getElem?_cons_zero]; rfl) (by kernel_rfl) (by kernel_rfl) (by kernel_rfl) (fun _ _ _ h => h) (by rfl) ?_ (by assumption) ?_; rotate_left; (focus ((intro w hSw; (try have hSw := HF.out _ hSw); (try dsimp only at hSw); go_simp); try exact rfl)); simp only [Act.put, List.setIfInBounds_toArray, List.set_cons_zero, List.set_cons_succ]; refine takeL_if (i := 6) (oi := _) (v := ?_) (by simp only [List.getElem?_toArray, List.getElem?_cons_succ, List.getElem?_cons_zero]; rfl) (by kernel_rfl) (by kernel_rfl) (by kernel_rfl) (fun _ _ _ h => h) (by rfl) ?_ (by assumption) ?_; rotate_left; (focus ((intro w hSw; (try have hSw := HF.out _ hSw); (try dsimp only at hSw); go_simp); try exact rfl)); simp only [Act.put, List.setIfInBounds_toArray, List.set_cons_zero, List.set_cons_succ])
    refine anyL_ready (rs := [3]) (by kernel_rfl) (by simp) ?_; refine (ReadyL.cons (o := _) (by simp only [List.getElem?_toArray, List.getElem?_cons_succ, List.getElem?_cons_zero]; rfl) (fun K hK => ?_) ReadyL.nil)
    go_simp
    go_at_call 34
    refine (HA.out _ a hb0.drew k1.drew).mono ?_
    rintro e w1 ⟨rfl, hb1, hz1, hx1⟩
    have hx1' : Below w0.heap.size w0 w1 := Below.trans (Below.refl _ _).drew hx1
    refine hK.out _ _ hx1' (fun hHeld => ?_)
    clear hK K; (try simp only [Act.put, List.setIfInBounds_toArray, List.set_cons_zero, List.set_cons_succ])
    (refine takeL_if (i := 8) (oi := _) (v := ?_) (by simp only [List.getElem?_toArray, List.getElem?_cons_succ, List.getElem?_cons_zero]; rfl) (by kernel_rfl) (by kernel_rfl) (by kernel_rfl) (fun _ _ _ h => h) (by rfl) ?_ (by assumption) ?_; rotate_left; (focus ((intro w hSw; (try have hSw := HF.out _ hSw); (try dsimp only at hSw); go_simp); try exact rfl)); simp only [Act.put, List.setIfInBounds_toArray, List.set_cons_zero, List.set_cons_succ])
    refine anyL_ready (rs := [7]) (by kernel_rfl) (by simp) ?_; refine (ReadyL.cons (o := _) (by simp only [List.getElem?_toArray, List.getElem?_cons_succ, List.getElem?_cons_zero]; rfl) (fun K hK => ?_) ReadyL.nil)
    go_simp
    go_at_call 34
    refine (HA.out _ b hb1 (k1.ext hx1')).mono ?_
    rintro e w2 ⟨rfl, hb2, hz2, hx2⟩
    have hx2' := hx1'.trans (hx2.mono hx1'.size)
    have n0 := k0.ext hx2'
    have n2 := k2.ext hx2'
    have f0 := n0.frozen
    have f2 := n2.frozen
    have l0 := def_lt' n0
    have l2 := def_lt' n2
    have z0 := n0.cell 0; have z1 := n0.cell 1; have z2 := n0.cell 2
    have y0 := n2.cell 0; have y1 := n2.cell 1; have y2 := n2.cell 2
    dsimp at z0 z1 z2 y0 y1 y2
    refine hK.out _ _ hx2' (fun hHeld => ?_)
    clear hK K; (try simp only [Act.put, List.setIfInBounds_toArray, List.set_cons_zero, List.set_cons_succ])
    refine anyL_late (i := 9) (o := _) (by kernel_rfl) (by kernel_rfl) (by simp only [List.getElem?_toArray, List.getElem?_cons_succ, List.getElem?_cons_zero]; rfl) (fun K hK => ?_)
    go_simp
    refine hK.out _ _ ?_
    clear hK K; (try simp only [Act.put, List.setIfInBounds_toArray, List.set_cons_zero, List.set_cons_succ])
    refine anyL_late (i := 10) (o := _) (by kernel_rfl) (by kernel_rfl) (by simp only [List.getElem?_toArray, List.getElem?_cons_succ, List.getElem?_cons_zero]; rfl) (fun K hK => ?_)
    go_simp
    refine hK.out _ _ ?_
    clear hK K; (try simp only [Act.put, List.setIfInBounds_toArray, List.set_cons_zero, List.set_cons_succ])
    refine anyL_late (i := 11) (o := _) (by kernel_rfl) (by kernel_rfl) (by simp only [List.getElem?_toArray, List.getElem?_cons_succ, List.getElem?_cons_zero]; rfl) (fun K hK => ?_)
    go_simp
    refine hK.out _ _ ?_
    clear hK K; (try simp only [Act.put, List.setIfInBounds_toArray, List.set_cons_zero, List.set_cons_succ])
    refine anyL_done (by kernel_rfl) ?_
    go_wp2
    have y : Bk (((((w2.setCell ⟨w.heap.size, 1, none⟩ (.int .i64 (pinAt T a))).setCell ⟨w.heap.size, 2, none⟩ (.int .i64 (pinAt T b))).setCell ⟨w.heap.size + 1 + 1, 0, none⟩ (.int .i64 1)).setCell ⟨w.heap.size + 1 + 1, 1, none⟩ (.int .i64 (pinAt T a))).setCell ⟨w.heap.size + 1 + 1, 2, none⟩ (.int .i64 (pinAt T b))) (w.heap.size + 1 + 1) 34 #[.int .i64 1, .int .i64 (pinAt T a), .int .i64 (pinAt T b)] := ((((n2.far (p := ⟨w.heap.size, 1, none⟩) (by simp <;> omega) (.int .i64 (pinAt T a))).far (p := ⟨w.heap.size, 2, none⟩) (by simp <;> omega) (.int .i64 (pinAt T b))).set_ 0 _).set_ 1 _).set_ 2 _
    have q0 := y.cell 0; have q1 := y.cell 1; have q2 := y.cell 2
    dsimp at q0 q1 q2
    refine bodyPost_ret (v := .agg #[.int .i64 1, .int .i64 (pinAt T a), .int .i64 (pinAt T b)]) (by simp [results, Try.results22, go_sem, q0, q1, q2]) rfl ⟨by simp [pinB], ?_⟩
    repeat (first | with_reducible exact Below.refl _ _ | with_reducible assumption | (with_reducible refine below_drewN ?_ _) | (with_reducible refine Below.drew ?_) | (with_reducible refine Below.alloc ?_ ?_ _; rotate_left; focus (first | with_reducible assumption | omega | (simp; done) | (simp; omega))) | (with_reducible refine Below.setCell ?_ ?_ _; rotate_left; focus (first | with_reducible assumption | omega | (simp; done) | (simp; omega))))
  by_cases h2 : k = 2
  · subst h2
    go_enter Try.func22, Try.ntmps22
    go_upto_region 8 with fail
    generalize ((w.alloc (.cells #[.int .i64 2, .int .i64 a, .int .i64 b] 34)).alloc (.cells #[tellV bl] 67)).alloc (.cells #[.int .i64 0, .int .i64 0, .int .i64 0] 34) = w0 at *
    have z1 := k0.cell 1
    dsimp at z1
    have hz0 := hb0.size
    go_wp2_with (go_at_call 34; (refine (HA.out _ a hb0 k1).mono ?_); rintro e w2 ⟨rfl, hb2, hz2, hx2⟩; have n0 := k0.ext hx2; have n2 := k2.ext hx2; have f0 := n0.frozen; have f2 := n2.frozen; have l0 := def_lt' n0; have l2 := def_lt' n2; have z0 := n0.cell 0; have z1 := n0.cell 1; have z2 := n0.cell 2; have y0 := n2.cell 0; have y1 := n2.cell 1; have y2 := n2.cell 2; dsimp at z0 z1 z2 y0 y1 y2)
    have y : Bk ((((w2.setCell ⟨w.heap.size, 1, none⟩ (.int .i64 (pinAt T a))).setCell ⟨w.heap.size + 1 + 1, 0, none⟩ (.int .i64 2)).setCell ⟨w.heap.size + 1 + 1, 1, none⟩ (.int .i64 (pinAt T a))).setCell ⟨w.heap.size + 1 + 1, 2, none⟩ (.int .i64 b)) (w.heap.size + 1 + 1) 34 #[.int .i64 2, .int .i64 (pinAt T a), .int .i64 b] := (((n2.far (p := ⟨w.heap.size, 1, none⟩) (by simp <;> omega) (.int .i64 (pinAt T a))).set_ 0 _).set_ 1 _).set_ 2 _
    have q0 := y.cell 0; have q1 := y.cell 1; have q2 := y.cell 2
    dsimp at q0 q1 q2
    refine bodyPost_ret (v := .agg #[.int .i64 2, .int .i64 (pinAt T a), .int .i64 b]) (by simp [results, Try.results22, go_sem, q0, q1, q2]) rfl ⟨by simp [pinB], ?_⟩
    repeat (first | with_reducible exact Below.refl _ _ | with_reducible assumption | (with_reducible refine below_drewN ?_ _) | (with_reducible refine Below.drew ?_) | (with_reducible refine Below.alloc ?_ ?_ _; rotate_left; focus (first | with_reducible assumption | omega | (simp; done) | (simp; omega))) | (with_reducible refine Below.setCell ?_ ?_ _; rotate_left; focus (first | with_reducible assumption | omega | (simp; done) | (simp; omega))))
  · have e1 : (k == 1) = false := by simpa using h1
    have e2 : (k == 2) = false := by simpa using h2
    have hp : pinB T ⟨k, a, b⟩ = ⟨k, a, b⟩ := by simp [pinB, h1, h2]
    rw [hp]
    have q : Bk (((((w.alloc (.cells #[.int .i64 k, .int .i64 a, .int .i64 b] 34)).alloc (.cells #[tellV bl] 67)).alloc (.cells #[.int .i64 k, .int .i64 a, .int .i64 b] 34)))) (w.heap.size + 1 + 1) 34 #[.int .i64 k, .int .i64 a, .int .i64 b] := Bk.made _ _ (by simp)
    have q0 := q.cell 0; have q1 := q.cell 1; have q2 := q.cell 2
    dsimp at q0 q1 q2
    clear hp h1 h2
    go_enter Try.func22, Try.ntmps22
    go_wp2
    refine bodyPost_ret (v := .agg #[.int .i64 k, .int .i64 a, .int .i64 b]) (by simp [results, Try.results22, go_sem, q0, q1, q2]) rfl ⟨rfl, ?_⟩
    repeat (first | with_reducible exact Below.refl _ _ | with_reducible assumption | (with_reducible refine below_drewN ?_ _) | (with_reducible refine Below.drew ?_) | (with_reducible refine Below.alloc ?_ ?_ _; rotate_left; focus (first | with_reducible assumption | omega | (simp; done) | (simp; omega))) | (with_reducible refine Below.setCell ?_ ?_ _; rotate_left; focus (first | with_reducible assumption | omega | (simp; done) | (simp; omega))))
end Go.Proofs.Ytmacfoebfpljoaa
