/- merged texts: RfR RfM RfQ RfP RfV RfT StF -/
import Derived.Test.YtmacfoebfpljoaaGreatMf12
import Derived.Test.YtmacfoebfpljoaaGreatMf4
import Derived.Test.YtmacfoebfpljoaaGreatMf5
import Derived.Test.YtmacfoebfpljoaaGreatMf2
import Derived.Test.YtmacfoebfpljoaaGreatMf3
import Derived.Test.YtmacfoebfpljoaaGreatMf10
import Derived.Test.YtmacfoebfpljoaaGreatMf1
import Derived.Laws.OwnMore
import Derived.Test.YtmacfoebfpljoaaGreatMf9
import Derived.Test.YtmacfoebfpljoaaGreatMf8
import Derived.Test.YtmacfoebfpljoaaGreatMf7
namespace Go.Proofs.YtmacfoebfpljoaaGreat
open Go.RowKit
/-- lists of maps, as cells: what the i-th one of l keeps -/
def MapsIn (W : World) (B : Nat) (A : Option Addr) (n : Nat) (l : List (List Rg)) : Prop := l.length = n ∧ ∃ vs, Rd W B 1 A n vs ∧ ∀ (i : Nat) (m : List Rg), l[i]? = some m → ∃ A c, vs[i]? = some (.slice A m.length c) ∧ Rd W B 3 A m.length (rgs m)
section
variable {W W' : World} {B B' n : Nat} {A : Option Addr} {l : List (List Rg)}
theorem MapsIn.below (h : MapsIn W B A n l) (hb : Below B W W') : MapsIn W' B A n l := by
  obtain ⟨h1, vs, h2, h3⟩ := h
  exact ⟨h1, vs, h2.below hb, fun i m hi => by obtain ⟨A, c, e1, e2⟩ := h3 i m hi; exact ⟨A, c, e1, e2.below hb⟩⟩
theorem MapsIn.more (h : MapsIn W B A n l) (hb : B ≤ B') : MapsIn W B' A n l := by
  obtain ⟨h1, vs, h2, h3⟩ := h
  exact ⟨h1, vs, h2.more hb, fun i m hi => by obtain ⟨A, c, e1, e2⟩ := h3 i m hi; exact ⟨A, c, e1, e2.more hb⟩⟩
theorem MapsIn.at_ (h : MapsIn W B A n l) {k : Nat} {m : List Rg} (hk : l[k]? = some m) : ∃ b o A' c, A = some ⟨b, o, none⟩ ∧ b < B ∧ W.cell? ⟨b, o + k, none⟩ = some (.slice A' m.length c) ∧ Rd W B 3 A' m.length (rgs m) := by
  obtain ⟨h1, vs, h2, h3⟩ := h
  have hkn : k < n := by have := (List.getElem?_eq_some_iff.1 hk).1; omega
  obtain ⟨A, c, e1, e2⟩ := h3 k m hk
  obtain ⟨b, o, u, e, hb, hu, hc⟩ := h2.at1 hkn
  rw [e1] at hu
  injection hu with hu
  subst hu
  exact ⟨b, o, A, c, e, hb, hc, e2⟩
end
/-- the document's trail: the links, the oldest one first -/
structure TrIs (W : World) (B : Nat) (Am : Option Addr) (nm : Nat) (Ab Ao Ak : Option Addr) (n : Nat) (m : List Rg) (kr : List Lk) : Prop where
  m : Rd W B 3 Am nm (rgs m)
  b : MapsIn W B Ab n (kr.map Lk.back)
  o : MapsIn W B Ao n (kr.map Lk.over)
  k : Rd W B 1 Ak n (kr.map fun k => Value.bool k.kept)
section
variable {W W' : World} {B B' nm n : Nat} {Am Ab Ao Ak : Option Addr} {m : List Rg} {kr : List Lk}
theorem TrIs.below (h : TrIs W B Am nm Ab Ao Ak n m kr) (hb : Below B W W') : TrIs W' B Am nm Ab Ao Ak n m kr := ⟨h.m.below hb, h.b.below hb, h.o.below hb, h.k.below hb⟩
theorem TrIs.more (h : TrIs W B Am nm Ab Ao Ak n m kr) (hb : B ≤ B') : TrIs W B' Am nm Ab Ao Ak n m kr := ⟨h.m.more hb, h.b.more hb, h.o.more hb, h.k.more hb⟩
theorem TrIs.len (h : TrIs W B Am nm Ab Ao Ak n m kr) : kr.length = n := by have := h.b.1; simpa using this
theorem TrIs.kept (h : TrIs W B Am nm Ab Ao Ak n m kr) {i : Nat} {k : Lk} (hk : kr[i]? = some k) : ∃ b o, Ak = some ⟨b, o, none⟩ ∧ b < B ∧ W.cell? ⟨b, o + i, none⟩ = some (.bool k.kept) := by
  have hlt : i < n := by rw [← h.len]; exact (List.getElem?_eq_some_iff.1 hk).1
  obtain ⟨b, o, u, e, hb, hu, hc⟩ := h.k.at1 hlt
  rw [List.getElem?_map, hk] at hu
  injection hu with hu
  subst hu
  exact ⟨b, o, e, hb, hc⟩
end
theorem drop_rev {α : Type} {l : List α} {i : Nat} {x : α} (h : l[i]? = some x) : (l.drop i).reverse = (l.drop (i + 1)).reverse ++ [x] := by
  obtain ⟨hi, e⟩ := List.getElem?_eq_some_iff.1 h
  rw [List.drop_eq_getElem_cons hi, List.reverse_cons, e]
theorem take_rev {α : Type} {l : List α} {i : Nat} {x : α} (h : l[i]? = some x) : (l.take (i + 1)).reverse = x :: (l.take i).reverse := by
  rw [List.take_add_one, h, Option.toList_some, List.reverse_append]
  rfl
theorem ofsAdd_none (l : List Int) : ofsAdd l (-1) = l ++ [-1] := by unfold ofsAdd; rw [if_neg (by omega)]
/-- the document's route on the way, in rows of its own; its maps are w's -/
structure RtOwn (w wr : World) (A : Option Addr) (c : Nat) (A' : Option Addr) (c' q : Nat) (ms : List (List Rg)) (ofs : List Int) : Prop where
  rows : ∃ vs, wr.ownsRow w.heap.size 94 1 (.slice A q c) q vs ∧ ∀ (i : Nat) (m : List Rg), ms[i]? = some m → ∃ A c, vs[i]? = some (.slice A m.length c) ∧ Rd w w.heap.size 3 A m.length (rgs m)
  len : ms.length = q
  ofr : wr.ownsRow w.heap.size 3 1 (.slice A' q c') q (ofs.map (Value.int .i64))
  ofl : ofs.length = q
section
variable {w wr wr' : World} {A A' : Option Addr} {c c' q : Nat} {ms : List (List Rg)} {ofs : List Int}
theorem RtOwn.nil_ (w wr : World) : RtOwn w wr none 0 none 0 0 [] [] := ⟨⟨[], World.ownsRow_nil _ _ _ _, fun _ _ h => by cases h⟩, rfl, World.ownsRow_nil _ _ _ _, rfl⟩
theorem RtOwn.below (h : RtOwn w wr A c A' c' q ms ofs) (hb : Below wr.heap.size wr wr') : RtOwn w wr' A c A' c' q ms ofs := by
  obtain ⟨⟨vs, h1, h2⟩, h3, h4, h5⟩ := h
  exact ⟨⟨vs, own_below h1 hb, h2⟩, h3, own_below h4 hb, h5⟩
theorem RtOwn.set_ (h : RtOwn w wr A c A' c' q ms ofs) {b : Nat} {cs : Array Value} (hk : Bk wr b 245 cs) (i : Nat) (u : Value) : RtOwn w (wr.setCell ⟨b, i, none⟩ u) A c A' c' q ms ofs := by
  obtain ⟨⟨vs, h1, h2⟩, h3, h4, h5⟩ := h
  have hg : wr.grownBy (wr.setCell ⟨b, i, none⟩ u) (some b) := gr_set (p := ⟨b, i, none⟩) (World.grownBy.refl _ _) (.inl rfl) _
  exact ⟨⟨vs, own_grow h1 hg (fun g e => by injection e with e; subst e; exact own_ne h1 hk (by decide)), h2⟩, h3, own_grow h4 hg (fun g e => by injection e with e; subst e; exact own_ne h4 hk (by decide)), h5⟩
theorem RtOwn.ref (h : RtOwn w wr A c A' c' q ms ofs) (hb : Below w.heap.size w wr) : RefIs wr wr.heap.size A A' q ms ofs := by
  obtain ⟨⟨vs, h1, h2⟩, h3, h4, h5⟩ := h
  exact ⟨h3, ⟨vs, Rd.of_own h1, fun i m hi => by obtain ⟨A, c, e1, e2⟩ := h2 i m hi; exact ⟨A, c, e1, (e2.below hb).more hb.size⟩⟩, h5, Rd.of_own h4⟩
theorem RtOwn.add (h : RtOwn w wr A c A' c' q ms ofs) (hb : Below w.heap.size w wr) {W : World} (hW : Below wr.heap.size wr W) {Am : Option Addr} {cm : Nat} {l : List Rg} (hr : rightM l = true) (hrd : Rd w w.heap.size 3 Am l.length (rgs l)) {of : Int} (hq : q < 5000) (hof : of < q) :
    Calls Tryz.prog 182 #[.agg #[.slice A q c, .slice A' q c'], .slice Am l.length cm, .int .i64 of] W fun e W' => ∃ A2 c2 A2' c2', e = .returned (.tuple #[.agg #[.slice A2 (q + 1) c2, .slice A2' (q + 1) c2'], .int .i64 0]) ∧
      RtOwn w W' A2 c2 A2' c2' (q + 1) (ms ++ [l]) (ofsAdd ofs of) ∧ Below wr.heap.size wr W' := by
  have hbW := hb.trans (hW.mono hb.size)
  obtain ⟨⟨vs, h1, h2⟩, h3, h4, h5⟩ := h.below hW
  have hvl : vs.length = q := by have := own_len h1; omega
  refine (radd_good W A A' Am c c' q l.length cm vs ofs l of hr ((hrd.below hbW).more hbW.size) (Rd.of_own h1) (own_none h1) (refis_one h3 hvl (fun i m hi => by obtain ⟨A, c, e1, _⟩ := h2 i m hi; exact ⟨A, c, e1, trivial⟩)) (Rd.of_own h4) (own_none h4) hq hof).mono ?_
  rintro e W' ⟨v, o, rfl, hv, ho, hb'⟩
  obtain ⟨A1, c1, rfl, _⟩ := own_form hv
  obtain ⟨A2, c2, rfl, _⟩ := own_form ho
  refine ⟨A1, c1, A2, c2, rfl, ⟨⟨_, own_base hv (Nat.le_trans hb.size hW.size), fun i m hi => ?_⟩, by simp [h3], ?_, by rw [ofsAdd_len, h5]⟩, hW.trans (hb'.mono hW.size)⟩
  · by_cases hin : i < q
    · rw [List.getElem?_append_left (by omega)] at hi
      obtain ⟨A, c, e1, e2⟩ := h2 i m hi
      exact ⟨A, c, by rw [List.getElem?_append_left (by omega)]; exact e1, e2⟩
    · have hlt := (List.getElem?_eq_some_iff.1 hi).1
      simp only [List.length_append, List.length_cons, List.length_nil] at hlt
      have hi' : i = q := by omega
      subst hi'
      rw [List.getElem?_append_right (by omega), h3, Nat.sub_self] at hi
      simp only [List.getElem?_cons_zero, Option.some.injEq] at hi
      subst hi
      refine ⟨Am, cm, ?_, hrd⟩
      rw [List.getElem?_append_right (by omega), hvl, Nat.sub_self]
      rfl
  · have := own_base ho (Nat.le_trans hb.size hW.size)
    unfold ofsAdd
    rw [h5]
    exact this
end
set_option maxRecDepth 100000 in
set_option maxHeartbeats 8000000 in
theorem route_any (w : World) (Am Ab Ao Ak : Option Addr) (cm nm cb co ck n : Nat) (m : List Rg) (kr : List Lk) (h : TrIs w w.heap.size Am nm Ab Ao Ak n m kr) (hn : n ≤ 1000) (hm : rightM m = true) (hbk : ∀ k ∈ kr, rightM k.back = true) (hov : ∀ k ∈ kr, rightM k.over = true) :
    Calls Tryz.prog 140 #[.agg #[.slice Am nm cm, .slice Ab n cb, .slice Ao n co, .slice Ak n ck]] w fun e w' => ∃ A' c' B' d' l, e = .returned (.agg #[.slice A' l c', .slice B' l d']) ∧ l = (mapsL m kr.reverse).length ∧
      RefIs w' w'.heap.size A' B' l (mapsL m kr.reverse) (ofsOf (mirL m kr.reverse) l) ∧ Below w.heap.size w w' := by
  have hnm : m.length = nm := h.m.rlen
  subst hnm
  have hlen := h.len
  have HH := Lib.hid h
  have HM := Lib.hid hm
  have HBK := Lib.hid hbk
  have HOV := Lib.hid hov
  have HL := Lib.hid hlen
  have k1 : Bk (((w.alloc (.cells #[.slice Am m.length cm, .slice Ab n cb, .slice Ao n co, .slice Ak n ck] 242)).alloc (.cells #[.slice none 0 0, .slice none 0 0] 245)).alloc (.cells #[.slice none 0 0, .slice none 0 0] 245)) w.heap.size 242 #[.slice Am m.length cm, .slice Ab n cb, .slice Ao n co, .slice Ak n ck] := ((Bk.new w _ _).alloc _).alloc _
  have k2 : Bk (((w.alloc (.cells #[.slice Am m.length cm, .slice Ab n cb, .slice Ao n co, .slice Ak n ck] 242)).alloc (.cells #[.slice none 0 0, .slice none 0 0] 245)).alloc (.cells #[.slice none 0 0, .slice none 0 0] 245)) (w.heap.size + 1) 245 #[.slice none 0 0, .slice none 0 0] := (Bk.made _ _ (by simp)).alloc _
  have k3 : Bk (((w.alloc (.cells #[.slice Am m.length cm, .slice Ab n cb, .slice Ao n co, .slice Ak n ck] 242)).alloc (.cells #[.slice none 0 0, .slice none 0 0] 245)).alloc (.cells #[.slice none 0 0, .slice none 0 0] 245)) (w.heap.size + 1 + 1) 245 #[.slice none 0 0, .slice none 0 0] := Bk.made _ _ (by simp)
  have hb0 : Below w.heap.size w (((w.alloc (.cells #[.slice Am m.length cm, .slice Ab n cb, .slice Ao n co, .slice Ak n ck] 242)).alloc (.cells #[.slice none 0 0, .slice none 0 0] 245)).alloc (.cells #[.slice none 0 0, .slice none 0 0] 245)) := belowA
  clear h hm hbk hov hlen
  go_enter Tryz.func140, Tryz.ntmps140
  go_upto_region 2 with fail
  generalize ((w.alloc (.cells #[.slice Am m.length cm, .slice Ab n cb, .slice Ao n co, .slice Ak n ck] 242)).alloc (.cells #[.slice none 0 0, .slice none 0 0] 245)).alloc (.cells #[.slice none 0 0, .slice none 0 0] 245) = w0 at *
  have c1 := k1.cell 1
  dsimp at c1
  have e0 : IntKind.i64.wrap ((n : Int) - 1) = n - 1 := IntWalk.i64_in _ (by omega)
  go_wp2
  go_loopw [5] (fun v wr => ∃ (j q : Nat) (p : Int) (A' : Option Addr) (c' : Nat) (B' : Option Addr) (d' : Nat), q + j = n ∧ p = (j : Int) - 1 ∧ v = .int .i64 p ∧ Hid (Below w.heap.size w wr) ∧ w.heap.size + 3 ≤ wr.heap.size ∧ Bk wr w.heap.size 242 #[.slice Am m.length cm, .slice Ab n cb, .slice Ao n co, .slice Ak n ck] ∧ Bk wr (w.heap.size + 1) 245 #[.slice none 0 0, .slice none 0 0] ∧ Bk wr (w.heap.size + 1 + 1) 245 #[.slice A' q c', .slice B' q d'] ∧ Hid (RtOwn w wr A' c' B' d' q ((kr.drop j).reverse.map Lk.back) (List.replicate q (-1)))) (fun v _ => (intOf v + 1).toNat)
  case atStart => exact ⟨n, 0, _, none, 0, none, 0, by omega, rfl, rfl, Lib.hid hb0, by have := def_lt' k3; omega, k1, k2, k3, Lib.hid (by rw [List.drop_eq_nil_of_le (by have := HL.out; omega)]; exact RtOwn.nil_ _ _)⟩
  case round =>
    obtain ⟨j, q, p, A', c', B', d', hqj, hp, rfl, hbr, hz, x1, x2, x3, hR⟩ := hrel
    by_cases hj : 0 < j
    · obtain ⟨i, rfl⟩ : ∃ i, j = i + 1 := ⟨j - 1, by omega⟩
      obtain rfl : p = (i : Int) := by omega
      obtain ⟨k, hk⟩ : ∃ k, kr[i]? = some k := ⟨_, List.getElem?_eq_getElem (by have := HL.out; omega)⟩
      obtain ⟨b, o, Ak', ck', rfl, hb, hc, hrd⟩ := HH.out.b.at_ (k := i) (m := k.back) (by rw [List.getElem?_map, hk]; rfl)
      have hkr := HBK.out k (List.mem_of_getElem? hk)
      have e1 : (0 : Int) ≤ i := by omega
      have e2 : (i : Int) < n := by omega
      have e3 : IntKind.i64.wrap ((i : Int) - 1) = i - 1 := IntWalk.i64_in _ (by omega)
      have hF : ∀ W, Below wr.heap.size wr W → W.cell? ⟨w.heap.size, 1, none⟩ = some (.slice (some ⟨b, o, none⟩) n cb) ∧ W.cell? ⟨b, o + i, none⟩ = some (.slice Ak' k.back.length ck') ∧ W.cell? ⟨w.heap.size + 1 + 1, 0, none⟩ = some (.slice A' q c') ∧ W.cell? ⟨w.heap.size + 1 + 1, 1, none⟩ = some (.slice B' q d') := fun W hW =>
        ⟨(x1.ext hW).cell 1, ((hbr.out.trans (hW.mono hbr.out.size)).cell (p := ⟨b, o + i, none⟩) hb).trans hc, (x3.ext hW).cell 0, (x3.ext hW).cell 1⟩
      have HF := Lib.hid hF
      have HK := Lib.hid hk
      have hadd := fun W (hW : Below wr.heap.size wr W) => hR.out.add hbr.out hW hkr hrd (cm := ck') (of := -1) (by omega) (by omega)
      have HADD := Lib.hid hadd
      clear hF hk hb hc hrd hkr hadd hp hj
      go_upto_region 6 with fail
      refine wp_normal ?_
      refine region_L (S := fun W => Below wr.heap.size wr W) [9, 10] (by kernel_rfl) (Below.refl _ _).drew (fun hHeld => ?_)
      (refine tkD 0 ?_; refine tkD 1 ?_; refine tkD 2 ?_; refine tkD 3 ?_; refine tkD 4 ?_; refine tkD 5 ?_)
      refine nxL 6 (fun K hK => ?_)
      go_simp
      go_at_call 182
      refine (HADD.out _ (Below.refl _ _).drew).mono ?_
      rintro e w4 ⟨A4, c4, B4, d4, rfl, hR4, hb4⟩
      refine hK.out _ _ hb4 (fun hHeld => ?_)
      clear hK K; refine puL ?_
      (refine tkD 7 ?_)
      (refine tkP 9 ?_)
      (refine tkD 8 ?_)
      have y3 := x3.ext hb4
      have f0 := y3.cell 0; have f1 := y3.cell 1; have ff := y3.frozen; have fl := def_lt' y3
      dsimp at f0 f1
      refine ltL 10 (fun K hK => ?_)
      go_simp
      refine hK.out _ _ ?_
      clear hK K; refine puL ?_
      refine anyL_done (by kernel_rfl) ?_
      go_wp2
      go_roundw
      case rel =>
        have hb5 := hbr.out.trans (hb4.mono hbr.out.size)
        refine ⟨i, q + 1, (i : Int) - 1, A4, c4, B4, d4, by omega, rfl, rfl, Lib.hid belowA, by have := hb4.size; simp <;> omega, ?_, ?_, (y3.set_ 0 _).set_ 1 _, Lib.hid ?_⟩
        · exact ((x1.ext hb4).far (p := ⟨w.heap.size + 1 + 1, 0, none⟩) (by simp <;> omega) _).far (p := ⟨w.heap.size + 1 + 1, 1, none⟩) (by simp <;> omega) _
        · exact ((x2.ext hb4).far (p := ⟨w.heap.size + 1 + 1, 0, none⟩) (by simp) _).far (p := ⟨w.heap.size + 1 + 1, 1, none⟩) (by simp) _
        · have hR5 := (hR4.set_ y3 0 (.slice A4 (q + 1) c4)).set_ (y3.set_ 0 _) 1 (.slice B4 (q + 1) d4)
          rw [ofsAdd_none] at hR5
          rw [drop_rev HK.out, List.map_append, List.map_cons, List.map_nil, List.replicate_succ']
          exact hR5
      case measure => simp [intOf] <;> omega
    · obtain rfl : j = 0 := by omega
      obtain rfl : q = n := by omega
      have e1 : ¬ (0 : Int) ≤ p := by omega
      have hR0 := hR.out
      rw [List.drop_zero] at hR0
      have HR0 := Lib.hid hR0
      have hadd := fun W (hW : Below wr.heap.size wr W) => hR0.add hbr.out hW HM.out HH.out.m (cm := cm) (of := -1) (by omega) (by omega)
      have HADD := Lib.hid hadd
      have f0 := x3.cell 0; have f1 := x3.cell 1; have g0 := x1.cell 0
      dsimp at f0 f1 g0
      clear hj hR hR0 hadd hqj
      go_wp2_with (go_at_call 182; fail)
      refine (HADD.out _ (Below.refl _ _)).mono ?_
      rintro e w4 ⟨A4, c4, B4, d4, rfl, hR4, hb4⟩
      have y1 := x1.ext hb4
      have y2 := x2.ext hb4
      have y3 := x3.ext hb4
      have f0 := y3.cell 0; have f1 := y3.cell 1; have ff := y3.frozen; have fl := def_lt' y3
      dsimp at f0 f1
      have hR5 := (hR4.set_ y3 0 (.slice A4 (q + 1) c4)).set_ (y3.set_ 0 _) 1 (.slice B4 (q + 1) d4)
      rw [ofsAdd_none] at hR5
      have hb5 : Below w.heap.size w ((w4.setCell ⟨w.heap.size + 1 + 1, 0, none⟩ (.slice A4 (q + 1) c4)).setCell ⟨w.heap.size + 1 + 1, 1, none⟩ (.slice B4 (q + 1) d4)) := by
        have := hbr.out.trans (hb4.mono hbr.out.size)
        exact belowA
      have z1 := (y1.far (p := ⟨w.heap.size + 1 + 1, 0, none⟩) (by simp; omega) (.slice A4 (q + 1) c4)).far (p := ⟨w.heap.size + 1 + 1, 1, none⟩) (by simp; omega) (.slice B4 (q + 1) d4)
      have z2 := (y2.far (p := ⟨w.heap.size + 1 + 1, 0, none⟩) (by simp) (.slice A4 (q + 1) c4)).far (p := ⟨w.heap.size + 1 + 1, 1, none⟩) (by simp) (.slice B4 (q + 1) d4)
      have z3 : Bk ((w4.setCell ⟨w.heap.size + 1 + 1, 0, none⟩ (.slice A4 (q + 1) c4)).setCell ⟨w.heap.size + 1 + 1, 1, none⟩ (.slice B4 (q + 1) d4)) (w.heap.size + 1 + 1) 245 #[.slice A4 (q + 1) c4, .slice B4 (q + 1) d4] := (y3.set_ 0 _).set_ 1 _
      have HR5 := Lib.hid hR5
      clear hR4 hR5
      go_wp2
      generalize (w4.setCell ⟨w.heap.size + 1 + 1, 0, none⟩ (.slice A4 (q + 1) c4)).setCell ⟨w.heap.size + 1 + 1, 1, none⟩ (.slice B4 (q + 1) d4) = w5 at *
      go_loopw [6] (fun v wr => ∃ (i l : Nat) (A' : Option Addr) (c' : Nat) (B' : Option Addr) (d' : Nat), i ≤ q ∧ v = .int .i64 i ∧ l ≤ q + 1 + i ∧ q + 1 ≤ l ∧ Hid (Below w.heap.size w wr) ∧ w.heap.size + 3 ≤ wr.heap.size ∧ Bk wr w.heap.size 242 #[.slice Am m.length cm, .slice Ab q cb, .slice Ao q co, .slice Ak q ck] ∧ Bk wr (w.heap.size + 1) 245 #[.slice none 0 0, .slice none 0 0] ∧ Bk wr (w.heap.size + 1 + 1) 245 #[.slice A' l c', .slice B' l d'] ∧ Hid (RtOwn w wr A' c' B' d' l (stM m (kr.drop i).reverse (kr.take i).reverse) (stO m (kr.drop i).reverse (kr.take i).reverse))) (fun v _ => q - (intOf v).toNat)
      case atStart =>
        refine ⟨0, q + 1, A4, c4, B4, d4, by omega, rfl, by omega, by omega, Lib.hid hb5, by have := def_lt' z3; omega, z1, z2, z3, Lib.hid ?_⟩
        rw [List.take_zero, List.drop_zero, List.reverse_nil, stM_start, stO_start, List.length_reverse, HL.out]
        exact HR5.out
      case round =>
        clear y1 y2 y3 z1 z2 z3 ff fl hb4 hb5 HADD HR5 HR0 x1 x2 x3 f0 f1 g0 hbr hz hp e1
        obtain ⟨i, l, A', c', B', d', hi, rfl, hl1, hl2, hbr, hz, x1, x2, x3, hR⟩ := hrel
        by_cases hiq : i < q
        · obtain ⟨⟨back, over, kept⟩, hk⟩ : ∃ k, kr[i]? = some k := ⟨_, List.getElem?_eq_getElem (by have := HL.out; omega)⟩
          obtain ⟨b, o, rfl, hb, hc⟩ := HH.out.kept hk
          simp only at hc
          have e1 : (i : Int) < q := by omega
          have g3 := x1.cell 3
          have g4 := (hbr.out.cell (p := ⟨b, o + i, none⟩) hb).trans hc
          dsimp at g3
          have hdr := drop_rev hk
          have htk := take_rev hk
          cases kept with
          | false =>
            have HK := Lib.hid hdr
            have HK2 := Lib.hid htk
            clear hk hb hc hdr htk
            go_wp2
            go_roundw
            case rel =>
              refine ⟨i + 1, l, A', c', B', d', by omega, by go_num, by omega, by omega, hbr, hz, x1, x2, x3, Lib.hid ?_⟩
              have h9 := hR.out
              rw [HK.out] at h9
              rw [HK2.out, stM_lost _ _ _ _ rfl, stO_lost _ _ _ _ rfl]
              exact h9
            case measure => simp [intOf]; omega
          | true =>
            obtain ⟨b', o', Av, cv, rfl, hb', hc', hrd⟩ := HH.out.o.at_ (k := i) (m := over) (by rw [List.getElem?_map, hk]; rfl)
            have hkr := HOV.out _ (List.mem_of_getElem? hk)
            have e2 : IntKind.i64.wrap ((q : Int) - 1) = q - 1 := IntWalk.i64_in _ (by omega)
            have e3 : IntKind.i64.wrap ((q : Int) - 1 - i) = q - 1 - i := IntWalk.i64_in _ (by omega)
            have hF : ∀ W, Below wr.heap.size wr W → W.cell? ⟨w.heap.size, 2, none⟩ = some (.slice (some ⟨b', o', none⟩) q co) ∧ W.cell? ⟨b', o' + i, none⟩ = some (.slice Av over.length cv) ∧ W.cell? ⟨w.heap.size + 1 + 1, 0, none⟩ = some (.slice A' l c') ∧ W.cell? ⟨w.heap.size + 1 + 1, 1, none⟩ = some (.slice B' l d') := fun W hW =>
              ⟨(x1.ext hW).cell 2, ((hbr.out.trans (hW.mono hbr.out.size)).cell (p := ⟨b', o' + i, none⟩) hb').trans hc', (x3.ext hW).cell 0, (x3.ext hW).cell 1⟩
            have HF := Lib.hid hF
            have hadd := fun W (hW : Below wr.heap.size wr W) => hR.out.add hbr.out hW hkr hrd (cm := cv) (of := (q : Int) - 1 - i) (by omega) (by omega)
            have HADD := Lib.hid hadd
            have HK := Lib.hid hdr
            have HK2 := Lib.hid htk
            clear hF hk hb hc hrd hkr hadd hb' hc' hdr htk
            go_upto_region 12 with fail
            refine wp_normal ?_
            refine region_L (S := fun W => Below wr.heap.size wr W) [13, 14] (by kernel_rfl) (Below.refl _ _).drew (fun hHeld => ?_)
            (refine tkD 0 ?_; refine tkD 1 ?_; refine tkD 2 ?_; refine tkD 3 ?_; refine tkD 4 ?_; refine tkD 5 ?_; refine tkD 6 ?_; refine tkD 7 ?_; refine tkD 8 ?_; refine tkD 9 ?_)
            refine nxL 10 (fun K hK => ?_)
            go_simp
            go_at_call 182
            refine (HADD.out _ (Below.refl _ _).drew).mono ?_
            rintro e w4 ⟨A4, c4, B4, d4, rfl, hR4, hb4⟩
            refine hK.out _ _ hb4 (fun hHeld => ?_)
            clear hK K; refine puL ?_
            (refine tkD 11 ?_)
            (refine tkP 13 ?_)
            (refine tkD 12 ?_)
            have y3 := x3.ext hb4
            have f0 := y3.cell 0; have f1 := y3.cell 1; have ff := y3.frozen; have fl := def_lt' y3
            dsimp at f0 f1
            refine ltL 14 (fun K hK => ?_)
            go_simp
            refine hK.out _ _ ?_
            clear hK K; refine puL ?_
            refine anyL_done (by kernel_rfl) ?_
            go_wp2
            go_roundw
            case rel =>
              have hb5 := hbr.out.trans (hb4.mono hbr.out.size)
              refine ⟨i + 1, l + 1, A4, c4, B4, d4, by omega, by go_num, by omega, by omega, Lib.hid belowA, by have := hb4.size; simp <;> omega, ?_, ?_, (y3.set_ 0 _).set_ 1 _, Lib.hid ?_⟩
              · exact ((x1.ext hb4).far (p := ⟨w.heap.size + 1 + 1, 0, none⟩) (by simp <;> omega) _).far (p := ⟨w.heap.size + 1 + 1, 1, none⟩) (by simp <;> omega) _
              · exact ((x2.ext hb4).far (p := ⟨w.heap.size + 1 + 1, 0, none⟩) (by simp) _).far (p := ⟨w.heap.size + 1 + 1, 1, none⟩) (by simp) _
              · have hR5 := (hR4.set_ y3 0 (.slice A4 (l + 1) c4)).set_ (y3.set_ 0 _) 1 (.slice B4 (l + 1) d4)
                rw [HK.out] at hR5
                rw [HK2.out, stM_kept _ _ _ _ rfl, stO_kept _ _ _ _ rfl]
                rw [show (((kr.drop (i + 1)).reverse.length : Nat) : Int) = (q : Int) - 1 - i by have := HL.out; simp; omega]
                exact hR5
            case measure => simp [intOf]; omega
        · obtain rfl : i = q := by omega
          have f0 := x3.cell 0; have f1 := x3.cell 1; have ff := x2.frozen; have fl := def_lt' x2
          have g0 := x2.cell 0; have g1 := x2.cell 1
          dsimp at f0 f1 g0 g1
          have hR9 := hR.out
          rw [List.drop_eq_nil_of_le (by have := HL.out; omega), List.take_of_length_le (by have := HL.out; omega), List.reverse_nil, stM_nil, stO_nil] at hR9
          have hll := hR9.len
          have HR9 := Lib.hid hR9
          have HLL := Lib.hid hll
          clear hR hR9 hll
          go_wp2
          have hb9 := hbr.out
          have hbe : Below w.heap.size w ((wr.setCell ⟨w.heap.size + 1, 0, none⟩ (.slice A' l c')).setCell ⟨w.heap.size + 1, 1, none⟩ (.slice B' l d')) := belowA
          have hR9 := ((HR9.out.set_ x2 0 (.slice A' l c')).set_ (x2.set_ 0 _) 1 (.slice B' l d')).ref hbe
          rw [HLL.out] at hR9
          have k9 := (x2.set_ 0 (.slice A' l c')).set_ 1 (.slice B' l d')
          generalize (wr.setCell ⟨w.heap.size + 1, 0, none⟩ (.slice A' l c')).setCell ⟨w.heap.size + 1, 1, none⟩ (.slice B' l d') = w9 at *
          have q0 : w9.cell? ⟨w.heap.size + 1, 0, none⟩ = some (.slice A' l c') := k9.cell 0
          have q1 : w9.cell? ⟨w.heap.size + 1, 1, none⟩ = some (.slice B' l d') := k9.cell 1
          exact bodyPost_ret (v := .agg #[.slice A' l c', .slice B' l d']) (by simp [results, Tryz.results140, go_sem, q0, q1]) rfl ⟨A', c', B', d', l, rfl, HLL.out.symm, hR9, hbe⟩
theorem own_lit' {W : World} {b base : Nat} (e : TypeId) (size : Nat) (cs : Array Value) (n : Nat) (hW : W.heap.size = b) (hb : base ≤ b) (hm : n ≤ maxLen) (hs : cs.size = n * size) : (W.alloc (.cells cs e)).ownsRow base e size (.slice (some ⟨b, 0, none⟩) n n) n cs.toList := by
  subst hW
  exact World.ownsRow_lit W cs n hb hm hs
/-- a map comes out, in a row of its own -/
def MapOwn (l : List Rg) (w : World) (e : Ending) (w' : World) : Prop := ∃ A c, e = .returned (.slice A l.length c) ∧ w'.ownsRow w.heap.size 155 3 (.slice A l.length c) l.length (rgs l) ∧ Below w.heap.size w w'
set_option maxRecDepth 100000 in
set_option maxHeartbeats 2000000 in
theorem rmap_any (k f t g h i m v : Int) (A A' : Option Addr) (n n' c c' : Nat) (w : World) (hsh : shB k f t g h i m v n n' = true) :
    Calls Tryz.prog 67 #[.agg #[.int .i64 k, .int .i64 f, .int .i64 t, .int .i64 g, .int .i64 h, .int .i64 i, .int .i64 m, .int .i64 v, .slice A n c, .slice A' n' c']] w (MapOwn (mapS k f t g h i n) w) := by
  obtain ⟨⟨b0, b1, b2⟩, hk, h2, h1⟩ := shB_spec hsh
  have e0 : IntKind.i64.wrap (t - f) = t - f := IntWalk.i64_in _ (by omega)
  clear hsh
  rcases hk with rfl | rfl | hk
  · have e : mapS 1 f t g h i n = [⟨f, t - f, n⟩] := by unfold mapS; rw [if_pos (.inl rfl)]
    rw [e]
    clear e h1 h2 b0 b1 b2
    go_enter Tryz.func67, Tryz.ntmps67
    go_wp2
    go_ret
    exact ⟨_, _, rfl, own_lit' _ 3 #[.int .i64 f, .int .i64 (t - f), .int .i64 (n : Int)] 1 (by simp) (by omega) (by unfold maxLen; omega) rfl, belowA⟩
  · obtain ⟨g1, g2, g3, g4, g5, g6⟩ := h2 rfl
    have e2 : IntKind.i64.wrap (g - f) = g - f := IntWalk.i64_in _ (by omega)
    have e3 : IntKind.i64.wrap (t - h) = t - h := IntWalk.i64_in _ (by omega)
    have e4 : IntKind.i64.wrap ((n : Int) - i) = n - i := IntWalk.i64_in _ (by omega)
    by_cases hgh : g = h
    · subst hgh
      have e : mapS 2 f t g g i n = [⟨f, t - f, n⟩] := by unfold mapS; rw [if_pos (.inr ⟨rfl, rfl⟩)]
      rw [e]
      clear e h1 h2 b0 b1 b2 g1 g2 g3 g4 g5 g6 e2 e3 e4
      go_enter Tryz.func67, Tryz.ntmps67
      go_wp2
      go_ret
      exact ⟨_, _, rfl, own_lit' _ 3 #[.int .i64 f, .int .i64 (t - f), .int .i64 (n : Int)] 1 (by simp) (by omega) (by unfold maxLen; omega) rfl, belowA⟩
    · have e : mapS 2 f t g h i n = [⟨f, g - f, i⟩, ⟨h, t - h, n - i⟩] := by unfold mapS; rw [if_neg (by omega), if_pos rfl]
      rw [e]
      have e5 : g < h := by omega
      clear e h1 h2 b0 b1 b2 g1 g2 g3 g4 g5 g6 hgh
      go_enter Tryz.func67, Tryz.ntmps67
      go_wp2
      go_ret
      exact ⟨_, _, rfl, own_lit' _ 3 #[.int .i64 f, .int .i64 (g - f), .int .i64 i, .int .i64 h, .int .i64 (t - h), .int .i64 ((n : Int) - i)] 2 (by simp) (by omega) (by unfold maxLen; omega) rfl, belowA⟩
  · have e : mapS k f t g h i n = [] := by unfold mapS; rw [if_neg (by omega), if_neg (by omega)]
    rw [e]
    have e1 : (k == 2) = false := by simp; omega
    have e2 : ¬ k ≤ 2 := by omega
    clear e h1 h2 b0 b1 b2 hk
    go_enter Tryz.func67, Tryz.ntmps67
    go_wp2
    go_ret
    exact ⟨none, 0, rfl, World.ownsRow_nil _ _ _ _, belowA⟩
theorem map_right {x : StC} (h : x.sh = true) : rightM x.map = true := by
  have h0 := h
  unfold StC.sh at h0
  obtain ⟨⟨b0, b1, b2⟩, hk, h2, h1⟩ := shB_spec h0
  unfold StC.map mapB
  rw [show shB x.k x.f x.t x.g x.h x.i x.m x.v x.sl.length x.st.length = true from h0, if_pos rfl]
  unfold mapS
  split
  · rename_i h3
    have hn : x.sl.length ≤ 20000 := by
      rcases h3 with h3 | h3
      · exact h1 h3
      · exact (h2 h3.1).2.2.2.2.2
    exact right1 ⟨⟨by omega, by omega⟩, ⟨by omega, by omega⟩, ⟨by omega, by omega⟩⟩
  · split
    · rename_i h3 h4
      obtain ⟨g1, g2, g3, g4, g5, g6⟩ := h2 h4
      have hgh : x.g ≠ x.h := fun e => h3 (.inr ⟨h4, e⟩)
      unfold rightM rightFrom rightFrom rightFrom inB
      simp
      omega
    · decide
/-- the document's route of links, in memory -/
theorem route_rt (w : World) (Am Ab Ao Ak : Option Addr) (cm nm cb co ck n : Nat) (m : List Rg) (ks : List Lk) (h : TrIs w w.heap.size Am nm Ab Ao Ak n m ks.reverse) (hn : n ≤ 1000) (hm : rightM m = true) (hbk : ∀ k ∈ ks, rightM k.back = true) (hov : ∀ k ∈ ks, rightM k.over = true) :
    Calls Tryz.prog 140 #[.agg #[.slice Am nm cm, .slice Ab n cb, .slice Ao n co, .slice Ak n ck]] w fun e w' => ∃ A' c' B' d' l, e = .returned (.agg #[.slice A' l c', .slice B' l d']) ∧ DocRt w' w'.heap.size (.agg #[.slice A' l c', .slice B' l d']) (docL m ks) ∧ Below w.heap.size w w' := by
  refine (route_any w Am Ab Ao Ak cm nm cb co ck n m ks.reverse h hn hm (fun k hk => hbk k (by simpa using hk)) (fun k hk => hov k (by simpa using hk))).mono ?_
  rintro e w' ⟨A', c', B', d', l, rfl, hl, hr, hb⟩
  rw [List.reverse_reverse] at hl hr
  subst hl
  refine ⟨A', c', B', d', _, rfl, docRt_of hr ?_ ?_, hb⟩
  · have h1 := mapsL_len m ks
    have h2 := h.len
    rw [List.length_reverse] at h2
    omega
  · clear hr h
    induction ks with
    | nil => intro l hl; simp only [mapsL, List.mem_singleton] at hl; subst hl; exact hm
    | cons k ks ih =>
      intro l hl
      simp only [mapsL, List.mem_cons, List.mem_append] at hl
      rcases hl with rfl | hl | hl
      · exact hbk _ (by simp)
      · exact ih (fun k hk => hbk k (by simp [hk])) (fun k hk => hov k (by simp [hk])) l hl
      · split at hl
        · simp only [List.mem_singleton] at hl
          subst hl
          exact hov _ (by simp)
        · cases hl
theorem own_stir {X : Nat → Prop} {w w' : World} {base size n : Nat} {e : TypeId} {v : Value} {xs : List Value} (h : w.ownsRow base e size v n xs) (hs : Stir X w w') (hne : ∀ i, X i → v.ownBlock ≠ some i) : w'.ownsRow base e size v n xs := by
  obtain ⟨h1, h2⟩ := h
  refine ⟨h1, ?_⟩
  rcases h2 with h2 | ⟨g, cap, cur, hv, hb, hh, r⟩
  · exact .inl h2
  · exact .inr ⟨g, cap, cur, hv, hb, (hs.block g (def_lt' hh) (fun hx => hne g hx (by rw [hv]; rfl))).trans hh, r⟩
/-- a map in a row of its own -/
structure MpH.Own (w : World) (base : Nat) (m : MpH) : Prop where
  o : w.ownsRow base 155 3 (.slice m.A m.n m.c) m.n (rgs m.l)
/-- the rows of a trail -/
structure TrOwn (w : World) (base : Nat) (vb vo vk : Value) (lb lo : List (List Rg)) (lk : List Bool) : Prop where
  b : ∃ Bs : List MpH, w.ownsRow base 94 1 vb Bs.length (Bs.map MpH.val) ∧ Bs.map MpH.l = lb ∧ ∀ m ∈ Bs, m.Own w base
  o : ∃ Bs : List MpH, w.ownsRow base 94 1 vo Bs.length (Bs.map MpH.val) ∧ Bs.map MpH.l = lo ∧ ∀ m ∈ Bs, m.Own w base
  k : w.ownsRow base 4 1 vk lk.length (lk.map Value.bool)
  ne : ∀ j, vb.ownBlock = some j → vo.ownBlock ≠ some j
section
variable {w w' : World} {base : Nat} {vb vo vk : Value} {lb lo : List (List Rg)} {lk : List Bool}
theorem TrOwn.nil_ (w : World) (base : Nat) : TrOwn w base (.slice none 0 0) (.slice none 0 0) (.slice none 0 0) [] [] [] :=
  ⟨⟨[], World.ownsRow_nil _ _ _ _, rfl, by simp⟩, ⟨[], World.ownsRow_nil _ _ _ _, rfl, by simp⟩, World.ownsRow_nil _ _ _ _, by simp [Value.ownBlock]⟩
theorem TrOwn.below (h : TrOwn w base vb vo vk lb lo lk) (hb : Below w.heap.size w w') : TrOwn w' base vb vo vk lb lo lk := by
  obtain ⟨⟨Bs, b1, b2, b3⟩, ⟨Os, o1, o2, o3⟩, h3, h4⟩ := h
  exact ⟨⟨Bs, own_below b1 hb, b2, fun m hm => ⟨own_below (b3 m hm).o hb⟩⟩, ⟨Os, own_below o1 hb, o2, fun m hm => ⟨own_below (o3 m hm).o hb⟩⟩, own_below h3 hb, h4⟩
/-- kept where a row of another kind grows -/
theorem TrOwn.grow (h : TrOwn w base vb vo vk lb lo lk) {b2 size2 n2 : Nat} {e2 : TypeId} {v2 : Value} {xs2 : List Value} (hr : w.ownsRow b2 e2 size2 v2 n2 xs2) (hg : w.grownBy w' v2.ownBlock) (h1 : 94 ≠ e2) (h2 : 155 ≠ e2) (h3 : 4 ≠ e2) : TrOwn w' base vb vo vk lb lo lk := by
  obtain ⟨⟨Bs, b1, b2, b3⟩, ⟨Os, o1, o2, o3⟩, k1, h4⟩ := h
  exact ⟨⟨Bs, own_grow b1 hg (own_type b1 hr h1), b2, fun m hm => ⟨own_grow (b3 m hm).o hg (own_type (b3 m hm).o hr h2)⟩⟩, ⟨Os, own_grow o1 hg (own_type o1 hr h1), o2, fun m hm => ⟨own_grow (o3 m hm).o hg (own_type (o3 m hm).o hr h2)⟩⟩, own_grow k1 hg (own_type k1 hr h3), h4⟩
/-- kept where a block of another kind is written -/
theorem TrOwn.grown (h : TrOwn w base vb vo vk lb lo lk) {b : Nat} {t : TypeId} {cs : Array Value} (hk : Bk w b t cs) (hg : w.grownBy w' (some b)) (h1 : 94 ≠ t) (h2 : 155 ≠ t) (h3 : 4 ≠ t) : TrOwn w' base vb vo vk lb lo lk := by
  have key : ∀ {base size n : Nat} {e : TypeId} {v : Value} {xs : List Value}, w.ownsRow base e size v n xs → e ≠ t → w'.ownsRow base e size v n xs := fun ho hne => own_grow ho hg (fun g e => by injection e with e; subst e; exact own_ne ho hk hne)
  obtain ⟨⟨Bs, b1, b2, b3⟩, ⟨Os, o1, o2, o3⟩, k1, h4⟩ := h
  exact ⟨⟨Bs, key b1 h1, b2, fun m hm => ⟨key (b3 m hm).o h2⟩⟩, ⟨Os, key o1 h1, o2, fun m hm => ⟨key (o3 m hm).o h2⟩⟩, key k1 h3, h4⟩
theorem own_pick {v : Value} {g n c H : Nat} (hat : v.ownBlock = some g ∨ H < g) {j : Nat} (hj : (Value.slice (some ⟨g, 0, none⟩) n c).ownBlock = some j) : v.ownBlock = some j ∨ H < j := by
  simp [Value.ownBlock] at hj
  subst hj
  exact hat
theorem TrOwn.addb (h : TrOwn w base vb vo vk lb lo lk) {g c : Nat} {m : MpH} (hm : m.Own w base) {Bs : List MpH} (hBs : w.ownsRow base 94 1 vb Bs.length (Bs.map MpH.val)) (hBl : Bs.map MpH.l = lb) (hBo : ∀ m ∈ Bs, m.Own w base)
    (hown : w'.ownsRow base 94 1 (.slice (some ⟨g, 0, none⟩) (Bs.length + 1) c) (Bs.length + 1) (Bs.map MpH.val ++ [m.val])) (hg : w.grownBy w' vb.ownBlock) (hat : vb.ownBlock = some g ∨ w.heap.size < g) :
    TrOwn w' base (.slice (some ⟨g, 0, none⟩) (Bs.length + 1) c) vo vk (lb ++ [m.l]) lo lk := by
  obtain ⟨-, ⟨Os, o1, o2, o3⟩, k1, h4⟩ := h
  have key : ∀ {m : MpH}, m.Own w base → m.Own w' base := fun ho => ⟨own_grow ho.o hg (own_type ho.o hBs (by decide))⟩
  refine ⟨⟨Bs ++ [m], by rw [List.map_append, List.length_append]; exact hown, by rw [List.map_append, hBl]; rfl, ?_⟩, ⟨Os, own_grow o1 hg (fun j e => h4 j e), o2, fun m hm => key (o3 m hm)⟩, own_grow k1 hg (own_type k1 hBs (by decide)), ?_⟩
  · intro x hx
    rcases List.mem_append.1 hx with hx | hx
    · exact key (hBo x hx)
    · simp only [List.mem_singleton] at hx; subst hx; exact key hm
  · intro j hj hv
    rcases own_pick hat hj with e | e
    · exact h4 j e hv
    · have := own_lt o1 j hv; omega
theorem TrOwn.addo (h : TrOwn w base vb vo vk lb lo lk) {g c : Nat} {m : MpH} (hm : m.Own w base) {Bs : List MpH} (hBs : w.ownsRow base 94 1 vo Bs.length (Bs.map MpH.val)) (hBl : Bs.map MpH.l = lo) (hBo : ∀ m ∈ Bs, m.Own w base)
    (hown : w'.ownsRow base 94 1 (.slice (some ⟨g, 0, none⟩) (Bs.length + 1) c) (Bs.length + 1) (Bs.map MpH.val ++ [m.val])) (hg : w.grownBy w' vo.ownBlock) (hat : vo.ownBlock = some g ∨ w.heap.size < g) :
    TrOwn w' base vb (.slice (some ⟨g, 0, none⟩) (Bs.length + 1) c) vk lb (lo ++ [m.l]) lk := by
  obtain ⟨⟨Os, o1, o2, o3⟩, -, k1, h4⟩ := h
  have key : ∀ {m : MpH}, m.Own w base → m.Own w' base := fun ho => ⟨own_grow ho.o hg (own_type ho.o hBs (by decide))⟩
  refine ⟨⟨Os, own_grow o1 hg (fun j e h => h4 j h e), o2, fun m hm => key (o3 m hm)⟩, ⟨Bs ++ [m], by rw [List.map_append, List.length_append]; exact hown, by rw [List.map_append, hBl]; rfl, ?_⟩, own_grow k1 hg (own_type k1 hBs (by decide)), ?_⟩
  · intro x hx
    rcases List.mem_append.1 hx with hx | hx
    · exact key (hBo x hx)
    · simp only [List.mem_singleton] at hx; subst hx; exact key hm
  · intro j hj hv
    rcases own_pick hat hv with e | e
    · exact h4 j hj e
    · have := own_lt o1 j hj; omega
theorem TrOwn.addk (h : TrOwn w base vb vo vk lb lo lk) {g c : Nat} {x : Bool}
    (hown : w'.ownsRow base 4 1 (.slice (some ⟨g, 0, none⟩) (lk.length + 1) c) (lk.length + 1) (lk.map Value.bool ++ [.bool x])) (hg : w.grownBy w' vk.ownBlock) :
    TrOwn w' base vb vo (.slice (some ⟨g, 0, none⟩) (lk.length + 1) c) lb lo (lk ++ [x]) := by
  have hr := h.k
  obtain ⟨⟨Bs, b1, b2, b3⟩, ⟨Os, o1, o2, o3⟩, k1, h4⟩ := h
  exact ⟨⟨Bs, own_grow b1 hg (own_type b1 hr (by decide)), b2, fun m hm => ⟨own_grow (b3 m hm).o hg (own_type (b3 m hm).o hr (by decide))⟩⟩, ⟨Os, own_grow o1 hg (own_type o1 hr (by decide)), o2, fun m hm => ⟨own_grow (o3 m hm).o hg (own_type (o3 m hm).o hr (by decide))⟩⟩, by rw [List.map_append, List.length_append]; exact hown, h4⟩
/-- the rows' forms -/
theorem TrOwn.form (h : TrOwn w base vb vo vk lb lo lk) : ∃ Ab cb Ao co Ak ck, vb = .slice Ab lb.length cb ∧ vo = .slice Ao lo.length co ∧ vk = .slice Ak lk.length ck := by
  obtain ⟨⟨Bs, b1, rfl, b3⟩, ⟨Os, o1, rfl, o3⟩, k1, h4⟩ := h
  obtain ⟨A1, c1, rfl, _⟩ := own_form b1
  obtain ⟨A2, c2, rfl, _⟩ := own_form o1
  obtain ⟨A3, c3, rfl, _⟩ := own_form k1
  exact ⟨A1, c1, A2, c2, A3, c3, by simp, by simp, rfl⟩
/-- the trail that they are -/
theorem TrOwn.is_ {Ab Ao Ak Am : Option Addr} {cb co ck nb no nk N nm : Nat} {m : List Rg} {kr : List Lk} (h : TrOwn w base (.slice Ab nb cb) (.slice Ao no co) (.slice Ak nk ck) (kr.map Lk.back) (kr.map Lk.over) (kr.map Lk.kept)) (hN : kr.length = N) (hm : Rd w w.heap.size 3 Am nm (rgs m)) : TrIs w w.heap.size Am nm Ab Ao Ak N m kr := by
  obtain ⟨⟨Bs, b1, b2, b3⟩, ⟨Os, o1, o2, o3⟩, k1, h4⟩ := h
  have key : ∀ {Bs : List MpH} {l : List (List Rg)} {A : Option Addr} {n c : Nat}, w.ownsRow base 94 1 (.slice A n c) Bs.length (Bs.map MpH.val) → Bs.map MpH.l = l → (∀ m ∈ Bs, m.Own w base) → MapsIn w w.heap.size A l.length l := by
    intro Bs l A n c h1 h2 h3
    have hl : l.length = Bs.length := by rw [← h2, List.length_map]
    obtain ⟨A1, c1, e, _⟩ := own_form h1
    injection e with e1 e2 e3
    subst e1; subst e2
    refine ⟨rfl, Bs.map MpH.val, by rw [hl]; exact Rd.of_own h1, fun i mm hi => ?_⟩
    rw [← h2, List.getElem?_map] at hi
    cases hx : Bs[i]? with
    | none => rw [hx] at hi; cases hi
    | some x =>
      rw [hx] at hi
      injection hi with hi
      subst hi
      have ho := (h3 x (List.mem_of_getElem? hx)).o
      have hln : x.l.length = x.n := (Rd.of_own ho).rlen
      refine ⟨x.A, x.c, by rw [List.getElem?_map, hx, hln]; rfl, ?_⟩
      rw [hln]
      exact Rd.of_own ho
  have hb := key b1 b2 b3
  have ho := key o1 o2 o3
  rw [List.length_map, hN] at hb ho
  obtain ⟨A1, c1, e, _⟩ := own_form k1
  injection e with e1 e2 e3
  subst e1; subst e2
  have hk := Rd.of_own k1
  rw [List.length_map, hN, List.map_map] at hk
  exact ⟨hm, hb, ho, hk⟩
end
set_option maxRecDepth 100000 in
set_option maxHeartbeats 2000000 in
theorem rat_any (T : Int → Int → Pl × Int) (D : Int → Int → Pl × Bool) (hD : DocTells T D) (A1 : Option Addr) (l1 c1 : Nat) (A2 : Option Addr) (l2 c2 : Nat) (p : Int) (B : Nat) (w : World)
    (hr : DocRt w B (.agg #[.slice A1 l1 c1, .slice A2 l2 c2]) D) :
    Calls Tryz.prog 181 #[.agg #[.slice A1 l1 c1, .slice A2 l2 c2], .int .i64 p] w fun e w' => e = .returned (.int .i64 (pinAt T p)) ∧ Below w.heap.size w w' := by
  have ht := fun W (hb : Below w.heap.size w W) => calls_on hb (hr.2 W (hb.mono hr.1) p 1)
  have hv : pinAt T p = if (D p 1).2 = true then (D p 1).1.pos else 0 := by
    unfold pinAt
    rw [hD.ok]
    by_cases h : (T p 1).2 = 0
    · rw [if_pos h, if_pos (by simp [h]), hD.pos _ _ h]
    · rw [if_neg h, if_neg (by simp [h])]
  rw [hv]
  obtain ⟨⟨⟨x, g, i, r, o⟩, ok⟩, hX⟩ : ∃ y, D p 1 = y := ⟨_, rfl⟩
  rw [hX]
  simp only [hX, Pl.val] at ht
  have HT := Lib.hid ht
  clear ht hr hv hX hD
  have hb0 : Below w.heap.size w (w.alloc (.cells #[.slice A1 l1 c1, .slice A2 l2 c2] 245)) := belowA
  cases ok with
  | true =>
    rw [if_pos rfl]
    go_enter Tryz.func181, Tryz.ntmps181
    go_wp2_with (go_at_call 183; (refine (HT.out _ hb0).mono ?_); rintro e w1 ⟨rfl, hb1, hz1, hx1⟩)
    go_ret
    exact ⟨rfl, belowA⟩
  | false =>
    rw [if_neg (by simp)]
    go_enter Tryz.func181, Tryz.ntmps181
    go_wp2_with (go_at_call 183; (refine (HT.out _ hb0).mono ?_); rintro e w1 ⟨rfl, hb1, hz1, hx1⟩)
    go_ret
    exact ⟨rfl, belowA⟩
set_option maxRecDepth 100000 in
set_option maxHeartbeats 2000000 in
theorem rpin_any (T : Int → Int → Pl × Int) (D : Int → Int → Pl × Bool) (hD : DocTells T D) (k a b : Int) (A1 : Option Addr) (l1 c1 : Nat) (A2 : Option Addr) (l2 c2 : Nat) (B : Nat) (w : World)
    (hr : DocRt w B (.agg #[.slice A1 l1 c1, .slice A2 l2 c2]) D) :
    Calls Tryz.prog 139 #[.agg #[.int .i64 k, .int .i64 a, .int .i64 b], .agg #[.slice A1 l1 c1, .slice A2 l2 c2]] w fun e w' => e = .returned (.agg #[.int .i64 (pinB T ⟨k, a, b⟩).k, .int .i64 (pinB T ⟨k, a, b⟩).a, .int .i64 (pinB T ⟨k, a, b⟩).b]) ∧ Below w.heap.size w w' := by
  have hat := fun W (p : Int) (hb : Below w.heap.size w W) => calls_on hb (rat_any T D hD A1 l1 c1 A2 l2 c2 p B W (hr.ext (hb.mono hr.1)))
  have HA := Lib.hid hat
  clear hat hr hD
  have k2 : Bk (((w.alloc (.cells #[.int .i64 k, .int .i64 a, .int .i64 b] 91)).alloc (.cells #[.slice A1 l1 c1, .slice A2 l2 c2] 245)).alloc (.cells #[.int .i64 0, .int .i64 0, .int .i64 0] 91)) w.heap.size 91 #[.int .i64 k, .int .i64 a, .int .i64 b] := ((Bk.new w _ _).alloc _).alloc _
  have k3 : Bk (((w.alloc (.cells #[.int .i64 k, .int .i64 a, .int .i64 b] 91)).alloc (.cells #[.slice A1 l1 c1, .slice A2 l2 c2] 245)).alloc (.cells #[.int .i64 0, .int .i64 0, .int .i64 0] 91)) (w.heap.size + 1) 245 #[.slice A1 l1 c1, .slice A2 l2 c2] := (Bk.made _ _ (by simp)).alloc _
  have k4 : Bk (((w.alloc (.cells #[.int .i64 k, .int .i64 a, .int .i64 b] 91)).alloc (.cells #[.slice A1 l1 c1, .slice A2 l2 c2] 245)).alloc (.cells #[.int .i64 0, .int .i64 0, .int .i64 0] 91)) (w.heap.size + 1 + 1) 91 #[.int .i64 0, .int .i64 0, .int .i64 0] := Bk.made _ _ (by simp)
  have hb0 : Below w.heap.size w (((w.alloc (.cells #[.int .i64 k, .int .i64 a, .int .i64 b] 91)).alloc (.cells #[.slice A1 l1 c1, .slice A2 l2 c2] 245)).alloc (.cells #[.int .i64 0, .int .i64 0, .int .i64 0] 91)) := belowA
  have h12 : ∀ (W : World) (x y z : Int) (k2 : Bk W w.heap.size 91 #[.int .i64 x, .int .i64 y, .int .i64 z]) (k4 : Bk W (w.heap.size + 1 + 1) 91 #[.int .i64 0, .int .i64 0, .int .i64 0]), Below w.heap.size w W → Below w.heap.size w (((W.setCell ⟨w.heap.size + 1 + 1, 0, none⟩ (.int .i64 x)).setCell ⟨w.heap.size + 1 + 1, 1, none⟩ (.int .i64 y)).setCell ⟨w.heap.size + 1 + 1, 2, none⟩ (.int .i64 z)) ∧ Bk (((W.setCell ⟨w.heap.size + 1 + 1, 0, none⟩ (.int .i64 x)).setCell ⟨w.heap.size + 1 + 1, 1, none⟩ (.int .i64 y)).setCell ⟨w.heap.size + 1 + 1, 2, none⟩ (.int .i64 z)) (w.heap.size + 1 + 1) 91 #[.int .i64 x, .int .i64 y, .int .i64 z] := by
    intro W x y z h1 h2 hb
    have := hb.size
    exact ⟨belowA, ((h2.set_ 0 _).set_ 1 _).set_ 2 _⟩
  have H12 := Lib.hid h12
  clear h12
  go_enter Tryz.func139, Tryz.ntmps139
  go_upto_region 1 with fail
  generalize ((w.alloc (.cells #[.int .i64 k, .int .i64 a, .int .i64 b] 91)).alloc (.cells #[.slice A1 l1 c1, .slice A2 l2 c2] 245)).alloc (.cells #[.int .i64 0, .int .i64 0, .int .i64 0] 91) = w0 at *
  have p0 := k2.cell 0; have p1 := k2.cell 1; have p2 := k2.cell 2; have r0 := k3.cell 0; have r1 := k3.cell 1; have f2 := k2.frozen; have l2' := def_lt' k2; have f4 := k4.frozen; have l4 := def_lt' k4; have q0 := k4.cell 0; have q1 := k4.cell 1; have q2 := k4.cell 2
  dsimp at p0 p1 p2 r0 r1 q0 q1 q2
  by_cases h1 : k = 1
  · subst h1
    have hv : pinB T ⟨1, a, b⟩ = ⟨1, pinAt T a, pinAt T b⟩ := rfl
    have HV := Lib.hid hv
    clear hv
    go_upto_region 3 with (go_at_call 181; (refine (HA.out _ a hb0).mono ?_); rintro e w1 ⟨rfl, hb1, hz1, hx1⟩; have p0 := (k2.ext hx1).cell 0; have p1 := (k2.ext hx1).cell 1; have f2 := (k2.ext hx1).frozen; have l2' := def_lt' (k2.ext hx1); dsimp at p0 p1)
    have j2 : Bk (w1.setCell ⟨w.heap.size, 1, none⟩ (.int .i64 (pinAt T a))) w.heap.size 91 #[.int .i64 1, .int .i64 (pinAt T a), .int .i64 b] := (k2.ext hx1).set_ 1 (.int .i64 (pinAt T a)); have j3 := (k3.ext hx1).far (p := ⟨w.heap.size, 1, none⟩) (by simp) (.int .i64 (pinAt T a)); have j4 := (k4.ext hx1).far (p := ⟨w.heap.size, 1, none⟩) (by simp <;> omega) (.int .i64 (pinAt T a))
    have hbj : Below w.heap.size w (w1.setCell ⟨w.heap.size, 1, none⟩ (.int .i64 (pinAt T a))) := belowA
    generalize w1.setCell ⟨w.heap.size, 1, none⟩ (.int .i64 (pinAt T a)) = w2 at *
    clear p0 p1 p2 r0 r1 f2 l2' f4 l4 q0 q1 q2
    have p0 := j2.cell 0; have p1 := j2.cell 1; have p2 := j2.cell 2; have r0 := j3.cell 0; have r1 := j3.cell 1
    dsimp at p0 p1 p2 r0 r1
    go_upto_region 5 with (go_at_call 181; (refine (HA.out _ b hbj).mono ?_); rintro e w3 ⟨rfl, hb3, hz3, hx3⟩; have p0 := (j2.ext hx3).cell 0; have p2 := (j2.ext hx3).cell 2; have f2 := (j2.ext hx3).frozen; have l2' := def_lt' (j2.ext hx3); dsimp at p0 p2)
    have i2 : Bk (w3.setCell ⟨w.heap.size, 2, none⟩ (.int .i64 (pinAt T b))) w.heap.size 91 #[.int .i64 1, .int .i64 (pinAt T a), .int .i64 (pinAt T b)] := (j2.ext hx3).set_ 2 (.int .i64 (pinAt T b)); have i4 := (j4.ext hx3).far (p := ⟨w.heap.size, 2, none⟩) (by simp <;> omega) (.int .i64 (pinAt T b))
    have hbi : Below w.heap.size w (w3.setCell ⟨w.heap.size, 2, none⟩ (.int .i64 (pinAt T b))) := belowA
    generalize w3.setCell ⟨w.heap.size, 2, none⟩ (.int .i64 (pinAt T b)) = w4 at *
    clear p0 p1 p2 r0 r1 f2 l2'
    have p0 := i2.cell 0; have p1 := i2.cell 1; have p2 := i2.cell 2; have q0 := i4.cell 0; have q1 := i4.cell 1; have q2 := i4.cell 2; have f4 := i4.frozen; have l4 := def_lt' i4
    dsimp at p0 p1 p2 q0 q1 q2
    obtain ⟨hbe, ke⟩ := H12.out w4 1 (pinAt T a) (pinAt T b) i2 i4 hbi
    go_wp2
    have z0 := ke.cell 0; have z1 := ke.cell 1; have z2 := ke.cell 2
    dsimp at z0 z1 z2
    exact bodyPost_ret (v := .agg #[.int .i64 1, .int .i64 (pinAt T a), .int .i64 (pinAt T b)]) (by simp [results, Tryz.results139, go_sem, z0, z1, z2]) rfl ⟨by rw [HV.out], hbe⟩
  · by_cases h2 : k = 2
    · subst h2
      have hv : pinB T ⟨2, a, b⟩ = ⟨2, pinAt T a, b⟩ := rfl
      have HV := Lib.hid hv
      clear hv
      go_upto_region 3 with (go_at_call 181; (refine (HA.out _ a hb0).mono ?_); rintro e w1 ⟨rfl, hb1, hz1, hx1⟩; have p0 := (k2.ext hx1).cell 0; have p1 := (k2.ext hx1).cell 1; have f2 := (k2.ext hx1).frozen; have l2' := def_lt' (k2.ext hx1); dsimp at p0 p1)
      have j2 := (k2.ext hx1).set_ 1 (.int .i64 (pinAt T a)); have j4 := (k4.ext hx1).far (p := ⟨w.heap.size, 1, none⟩) (by simp <;> omega) (.int .i64 (pinAt T a))
      have hbj : Below w.heap.size w (w1.setCell ⟨w.heap.size, 1, none⟩ (.int .i64 (pinAt T a))) := belowA
      generalize w1.setCell ⟨w.heap.size, 1, none⟩ (.int .i64 (pinAt T a)) = w2 at *
      clear p0 p1 p2 r0 r1 f2 l2' f4 l4 q0 q1 q2
      have p0 := j2.cell 0; have p1 := j2.cell 1; have p2 := j2.cell 2; have q0 := j4.cell 0; have q1 := j4.cell 1; have q2 := j4.cell 2; have f4 := j4.frozen; have l4 := def_lt' j4
      dsimp at p0 p1 p2 q0 q1 q2
      obtain ⟨hbe, ke⟩ := H12.out w2 2 (pinAt T a) b j2 j4 hbj
      go_wp2
      have z0 := ke.cell 0; have z1 := ke.cell 1; have z2 := ke.cell 2
      dsimp at z0 z1 z2
      exact bodyPost_ret (v := .agg #[.int .i64 2, .int .i64 (pinAt T a), .int .i64 b]) (by simp [results, Tryz.results139, go_sem, z0, z1, z2]) rfl ⟨by rw [HV.out], hbe⟩
    · have hv : pinB T ⟨k, a, b⟩ = ⟨k, a, b⟩ := by unfold pinB; rw [if_neg h1, if_neg h2]
      have HV := Lib.hid hv
      have t1 : (k == 1) = false := by simpa using h1
      have t2 : (k == 2) = false := by simpa using h2
      clear hv
      obtain ⟨hbe, ke⟩ := H12.out w0 k a b k2 k4 hb0
      go_wp2
      have z0 := ke.cell 0; have z1 := ke.cell 1; have z2 := ke.cell 2
      dsimp at z0 z1 z2
      exact bodyPost_ret (v := .agg #[.int .i64 k, .int .i64 a, .int .i64 b]) (by simp [results, Tryz.results139, go_sem, z0, z1, z2]) rfl ⟨by rw [HV.out], hbe⟩
theorem grp_setR {W : World} {b : Nat} {v0 : Value} {p0 p1 p2 p3 p4 p5 p6 : Int} (hb : Bk W b 93 (grp v0 p0 p1 p2 p3 p4 p5 p6)) (v : Value) (pk pa pb bk ba bb lost : Int) : Bk (set8 W b v pk pa pb bk ba bb lost) b 93 (grp v pk pa pb bk ba bb lost) := by
  have q0 : Bk _ b 93 (grp v p0 p1 p2 p3 p4 p5 p6) := hb.set_ 0 v
  have q1 : Bk _ b 93 (grp v pk p1 p2 p3 p4 p5 p6) := q0.set_ 1 (.int .i64 pk)
  have q2 : Bk _ b 93 (grp v pk pa p2 p3 p4 p5 p6) := q1.set_ 2 (.int .i64 pa)
  have q3 : Bk _ b 93 (grp v pk pa pb p3 p4 p5 p6) := q2.set_ 3 (.int .i64 pb)
  have q4 : Bk _ b 93 (grp v pk pa pb bk p4 p5 p6) := q3.set_ 4 (.int .i64 bk)
  have q5 : Bk _ b 93 (grp v pk pa pb bk ba p5 p6) := q4.set_ 5 (.int .i64 ba)
  have q6 : Bk _ b 93 (grp v pk pa pb bk ba bb p6) := q5.set_ 6 (.int .i64 bb)
  exact q6.set_ 7 (.int .i64 lost)
theorem info_groupR : (Tryz.prog.info? 93).map (fun i => (i.zero, i.size, i.bytes)) = some (some (.agg #[.slice none 0 0, .int .i64 0, .int .i64 0, .int .i64 0, .int .i64 0, .int .i64 0, .int .i64 0, .int .i64 0]), 8, 80) := by kernel_rfl
theorem info_bool : (Tryz.prog.info? 4).map (fun i => (i.zero, i.size, i.bytes)) = some (some (.bool false), 1, 1) := by kernel_rfl
/-- a slice lies in none of some blocks -/
def Av (Y : Nat → Prop) (A : Option Addr) (n : Nat) : Prop := 0 < n → ∀ a, A = some a → ¬ Y a.block
theorem av_own {Y : Nat → Prop} {W : World} {base size n c m : Nat} {e : TypeId} {A : Option Addr} {xs : List Value} (h : W.ownsRow base e size (.slice A n c) m xs) (hY : ∀ i, Y i → i < base) : Av Y A n := by
  rintro _ a rfl hy
  have h1 := own_ge h a.block rfl
  have h2 := hY _ hy
  omega
def StH.Av (Y : Nat → Prop) (s : StH) : Prop := Go.Proofs.YtmacfoebfpljoaaGreat.Av Y s.A s.n ∧ Go.Proofs.YtmacfoebfpljoaaGreat.Av Y s.A' s.n'
/-- few steps with short lists, off some blocks -/
def Sml (Y : Nat → Prop) (L : List GrH) : Prop := ∀ g ∈ L, g.n ≤ 1000 ∧ ∀ s ∈ g.L, s.n ≤ 20000 ∧ s.n' ≤ 20000 ∧ s.Av Y
/-- groups that read, off some blocks -/
structure GrsX (w : World) (Y : Nat → Prop) (A : Option Addr) (n : Nat) (L : List GrH) : Prop where
  in_ : GrsIn w w.heap.size A n L
  no : A = none → n = 0
  sml : Sml Y L
  av : Av Y A n
  avg : ∀ g ∈ L, Av Y g.A g.n
/-- links that are right -/
def AllR (ks : List Lk) : Prop := ∀ k ∈ ks, rightM k.back = true ∧ rightM k.over = true
theorem shift_sh {T : Int → Int → Pl × Int} {x z : StC} (h : shiftB T x = some z) : z.sh = true := by
  unfold shiftB at h
  split at h
  · exact (Option.filter_eq_some_iff.1 h).2
  · cases h
theorem kind_keep {T : Int → Int → Pl × Int} {x z : StC} {f t e : Int} (h : kindB T x f t e = some z) : z.sl = x.sl ∧ z.st = x.st := by
  unfold kindB at h
  split at h
  · split at h
    · injection h with h; subst h; exact ⟨rfl, rfl⟩
    · cases h
  · split at h
    · split at h
      · injection h with h; subst h; exact ⟨rfl, rfl⟩
      · cases h
    · split at h
      · split at h
        · injection h with h; subst h; exact ⟨rfl, rfl⟩
        · cases h
      · injection h with h; subst h; exact ⟨rfl, rfl⟩
theorem shift_keep {T : Int → Int → Pl × Int} {x z : StC} (h : shiftB T x = some z) : z.sl = x.sl ∧ z.st = x.st := by
  unfold shiftB at h
  split at h
  · exact kind_keep (Option.filter_eq_some_iff.1 h).1
  · cases h
theorem invS_of {x : StC} (hs : x.sh = true) : invS x.map = invM x.map := by unfold invS; rw [if_pos (map_right hs)]
theorem stepT_out {m : List Rg} {ks : List Lk} {x : StC} (hs : x.sh = true) (hr : rightM (invM x.map) = false) : stepT m ks x = (ks, shiftB (tellL m ks) x) := by
  unfold stepT
  rw [if_pos hs, invS_of hs]
  simp only
  rw [if_neg (by simp [hr])]
def overY : Option StC → List Rg
  | some z => z.map
  | none => []
theorem stepT_in {m : List Rg} {ks : List Lk} {x : StC} (hs : x.sh = true) (hr : rightM (invM x.map) = true) : stepT m ks x = (⟨invM x.map, overY (shiftB (tellL m ks) x), (shiftB (tellL m ks) x).isSome⟩ :: ks, shiftB (tellL m ks) x) := by
  unfold stepT
  rw [if_pos hs, invS_of hs]
  simp only
  rw [if_pos hr]
  cases shiftB (tellL m ks) x <;> rfl
theorem map_is {x : StC} (hs : x.sh = true) : x.map = mapS x.k x.f x.t x.g x.h x.i x.sl.length := by
  unfold StC.map mapB
  rw [show shB x.k x.f x.t x.g x.h x.i x.m x.v x.sl.length x.st.length = true from hs, if_pos rfl]
theorem stepT_right {m : List Rg} {ks : List Lk} (x : StC) (h : AllR ks) : AllR (stepT m ks x).1 := by
  unfold stepT
  split
  · simp only
    split
    · rename_i h2
      intro k hk
      simp only [List.mem_cons] at hk
      rcases hk with rfl | hk
      · refine ⟨h2, ?_⟩
        cases hy : shiftB (tellL m ks) x with
        | none => rfl
        | some z => exact map_right (shift_sh hy)
      · exact h k hk
    · exact h
  · exact h
theorem runG_right {m : List Rg} : ∀ (xs : List StC) (ks : List Lk), AllR ks → AllR (runG m ks xs).1 := by
  intro xs
  induction xs with
  | nil => intro ks h; exact h
  | cons x xs ih => intro ks h; exact ih _ (stepT_right x h)
theorem overG_right {m : List Rg} : ∀ (L : List GrC) (ks : List Lk), AllR ks → AllR (overG m ks L).1 := by
  intro L
  induction L with
  | nil => intro ks h; exact h
  | cons g L ih => intro ks h; exact ih _ (runG_right _ _ h)
theorem stepT_len {m : List Rg} {ks : List Lk} (x : StC) : (stepT m ks x).1.length ≤ ks.length + 1 := by
  unfold stepT
  split
  · simp only
    split
    · simp
    · simp
  · simp
theorem runG_len {m : List Rg} : ∀ (xs : List StC) (ks : List Lk), (runG m ks xs).1.length ≤ ks.length + xs.length := by
  intro xs
  induction xs with
  | nil => intro ks; simp [runG]
  | cons x xs ih =>
    intro ks
    have h1 := ih (stepT m ks x).1
    have h2 := stepT_len (m := m) (ks := ks) x
    simp only [runG, List.length_cons]
    omega
theorem totC_cons (g : GrC) (V : List GrC) : totC (g :: V) = g.steps.length + totC V := by simp [totC]
theorem overG_llen {m : List Rg} : ∀ (L : List GrC) (ks : List Lk), (overG m ks L).1.length ≤ ks.length + totC L := by
  intro L
  induction L with
  | nil => intro ks; simp [overG, totC]
  | cons g L ih =>
    intro ks
    have h1 := ih (runG m ks g.steps).1
    have h2 := runG_len (m := m) g.steps ks
    rw [totC_cons]
    simp only [overG]
    omega
theorem totC_append (a b : List GrC) : totC (a ++ b) = totC a + totC b := by simp [totC]
theorem totC_at {V : List GrC} {q : Nat} {g : GrC} (h : V[q]? = some g) : totC (V.take q) + g.steps.length ≤ totC V := by
  have e : totC V = totC (V.take q) + totC (V.drop q) := by rw [← totC_append, List.take_append_drop]
  obtain ⟨hq, hg⟩ := List.getElem?_eq_some_iff.1 h
  rw [List.drop_eq_getElem_cons hq, totC_cons, hg] at e
  omega
theorem totC_take (V : List GrC) (q : Nat) : totC (V.take q) ≤ totC V := by
  have e : totC V = totC (V.take q) + totC (V.drop q) := by rw [← totC_append, List.take_append_drop]
  omega
/-- a group whose steps' row is its own, and whose steps' lists were there -/
structure GrH.HOwn (w W : World) (Y : Nat → Prop) (g : GrH) : Prop where
  o : W.ownsRow w.heap.size 45 10 (.slice g.A g.n g.c) g.n (sts g.L)
  l : ∀ s ∈ g.L, s.In w w.heap.size ∧ s.n ≤ 20000 ∧ s.n' ≤ 20000 ∧ s.Av Y
  n : g.n ≤ 1000
theorem GrH.HOwn.in_ {w W : World} {Y : Nat → Prop} {g : GrH} (h : g.HOwn w W Y) (hb : Below w.heap.size w W) : g.In W W.heap.size :=
  ⟨⟨Rd.of_own h.o, fun s hs => ((h.l s hs).1.below hb).more hb.size⟩, by have := h.n; omega, own_none h.o⟩
/-- what holds while a group's steps are gone through: the trail in block bT, the new group in block b8 -/
structure RSt (w wo W : World) (X : Nat → Prop) (bT b8 : Nat) (Am : Option Addr) (nm cm : Nat) (vb vv vk v5 : Value) (lb lo : List (List Rg)) (lk : List Bool) (Lp : List StH) (P : Pn) (z : Int) : Prop where
  bz : w.heap.size ≤ wo.heap.size
  ge8 : wo.heap.size ≤ b8
  xT : X bT
  xw : ∀ i, X i → w.heap.size ≤ i
  stir : Stir X wo W
  kT : Bk W bT 242 #[.slice Am nm cm, vb, vv, vk]
  k8 : Bk W b8 93 (grp v5 0 0 0 P.k P.a P.b z)
  tr : TrOwn W w.heap.size vb vv vk lb lo lk
  st : W.ownsRow wo.heap.size 45 10 v5 Lp.length (sts Lp)
  hb : ∀ i, vb.ownBlock = some i → X i ∨ wo.heap.size ≤ i
  hv : ∀ i, vv.ownBlock = some i → X i ∨ wo.heap.size ≤ i
  hk : ∀ i, vk.ownBlock = some i → X i ∨ wo.heap.size ≤ i
section
variable {w wo W W' W4 : World} {X : Nat → Prop} {bT b8 : Nat} {Am : Option Addr} {nm cm : Nat} {vb vv vk v5 : Value} {lb lo : List (List Rg)} {lk : List Bool} {Lp : List StH} {P : Pn} {z : Int}
theorem RSt.below (h : RSt w wo W X bT b8 Am nm cm vb vv vk v5 lb lo lk Lp P z) (hb : Below w.heap.size w wo) : Below w.heap.size w W := hb.trans (h.stir.below h.xw h.bz)
theorem RSt.ext (h : RSt w wo W X bT b8 Am nm cm vb vv vk v5 lb lo lk Lp P z) (hb : Below W.heap.size W W') : RSt w wo W' X bT b8 Am nm cm vb vv vk v5 lb lo lk Lp P z :=
  ⟨h.bz, h.ge8, h.xT, h.xw, h.stir.trans (Stir.of_below hb), h.kT.ext hb, h.k8.ext hb, h.tr.below hb, own_below h.st hb, h.hb, h.hv, h.hk⟩
theorem RSt.ne (h : RSt w wo W X bT b8 Am nm cm vb vv vk v5 lb lo lk Lp P z) : bT ≠ b8 := bk_ne h.kT h.k8 (by decide)
/-- a cell of the new group is written -/
theorem RSt.set8 (h : RSt w wo W X bT b8 Am nm cm vb vv vk v5 lb lo lk Lp P z) (i : Nat) (u : Value) : RSt w wo W X bT b8 Am nm cm vb vv vk v5 lb lo lk Lp P z ∧ Bk (W.setCell ⟨b8, i, none⟩ u) bT 242 #[.slice Am nm cm, vb, vv, vk] ∧ TrOwn (W.setCell ⟨b8, i, none⟩ u) w.heap.size vb vv vk lb lo lk ∧ Stir X wo (W.setCell ⟨b8, i, none⟩ u) ∧ (W.setCell ⟨b8, i, none⟩ u).ownsRow wo.heap.size 45 10 v5 Lp.length (sts Lp) := by
  have gr : W.grownBy (W.setCell ⟨b8, i, none⟩ u) (some b8) := gr_set (p := ⟨b8, i, none⟩) (World.grownBy.refl _ _) (.inl rfl) _
  exact ⟨h, h.kT.far (p := ⟨b8, i, none⟩) h.ne _, h.tr.grown h.k8 gr (by decide) (by decide) (by decide), h.stir.fresh (Stir.of_gr (X := fun j => j = b8) gr (fun j e => by injection e with e; exact e.symm)) (fun j e => .inr (by have : j = b8 := e; subst this; exact h.ge8)), own_grow h.st gr (fun g e => by injection e with e; subst e; exact own_ne h.st h.k8 (by decide))⟩
theorem RSt.lost (h : RSt w wo W X bT b8 Am nm cm vb vv vk v5 lb lo lk Lp P z) (z' : Int) : RSt w wo (W.setCell ⟨b8, 7, none⟩ (.int .i64 z')) X bT b8 Am nm cm vb vv vk v5 lb lo lk Lp P z' := by
  obtain ⟨-, h1, h2, h3, h4⟩ := h.set8 7 (.int .i64 z')
  exact ⟨h.bz, h.ge8, h.xT, h.xw, h3, h1, h.k8.set_ 7 _, h2, h4, h.hb, h.hv, h.hk⟩
theorem RSt.push (h : RSt w wo W X bT b8 Am nm cm vb vv vk v5 lb lo lk Lp P z) {s : StH} {g c : Nat} (hown : W4.ownsRow wo.heap.size 45 10 (.slice (some ⟨g, 0, none⟩) (Lp.length + 1) c) (Lp.length + 1) (sts Lp ++ s.cells)) (hg : W.grownBy W4 v5.ownBlock) :
    RSt w wo (W4.setCell ⟨b8, 0, none⟩ (.slice (some ⟨g, 0, none⟩) (Lp.length + 1) c)) X bT b8 Am nm cm vb vv vk (.slice (some ⟨g, 0, none⟩) (Lp.length + 1) c) lb lo lk (Lp ++ [s]) P z := by
  have h4 : RSt w wo W4 X bT b8 Am nm cm vb vv vk v5 lb lo lk [] P z ∨ True := .inr trivial
  have kT4 := h.kT.grown hg (own_ne h.st h.kT (by decide))
  have k84 := h.k8.grown hg (own_ne h.st h.k8 (by decide))
  have tr4 := h.tr.grow h.st hg (by decide) (by decide) (by decide)
  have st4 : Stir X wo W4 := h.stir.fresh (Stir.of_gr (X := fun j => v5.ownBlock = some j) hg (fun j e => e)) (fun j e => .inr (own_ge h.st j e))
  have gr : W4.grownBy (W4.setCell ⟨b8, 0, none⟩ (.slice (some ⟨g, 0, none⟩) (Lp.length + 1) c)) (some b8) := gr_set (p := ⟨b8, 0, none⟩) (World.grownBy.refl _ _) (.inl rfl) _
  refine ⟨h.bz, h.ge8, h.xT, h.xw, st4.fresh (Stir.of_gr (X := fun j => j = b8) gr (fun j e => by injection e with e; exact e.symm)) (fun j e => .inr (by have : j = b8 := e; subst this; exact h.ge8)), kT4.far (p := ⟨b8, 0, none⟩) h.ne _, k84.set_ 0 _, tr4.grown k84 gr (by decide) (by decide) (by decide), ?_, h.hb, h.hv, h.hk⟩
  rw [sts_append, List.length_append]
  exact own_grow hown gr (fun g e => by injection e with e; subst e; exact own_ne hown k84 (by decide))
/-- a row of the trail grows, and is written -/
theorem RSt.trail (h : RSt w wo W X bT b8 Am nm cm vb vv vk v5 lb lo lk Lp P z) {v : Value} {e2 : TypeId} {base2 size2 n2 : Nat} {xs2 : List Value} (hr : W.ownsRow base2 e2 size2 v n2 xs2) (he : e2 = 94 ∨ e2 = 4) (hv : ∀ i, v.ownBlock = some i → X i ∨ wo.heap.size ≤ i)
    (hg : W.grownBy W4 v.ownBlock) (i : Nat) (u : Value) {vb' vv' vk' : Value} (hc : #[.slice Am nm cm, vb', vv', vk'] = (#[.slice Am nm cm, vb, vv, vk] : Array Value).setIfInBounds i u) {lb' lo' : List (List Rg)} {lk' : List Bool} (tr4 : TrOwn W4 w.heap.size vb' vv' vk' lb' lo' lk')
    (hb' : ∀ i, vb'.ownBlock = some i → X i ∨ wo.heap.size ≤ i) (hv' : ∀ i, vv'.ownBlock = some i → X i ∨ wo.heap.size ≤ i) (hk' : ∀ i, vk'.ownBlock = some i → X i ∨ wo.heap.size ≤ i) :
    RSt w wo (W4.setCell ⟨bT, i, none⟩ u) X bT b8 Am nm cm vb' vv' vk' v5 lb' lo' lk' Lp P z := by
  have n1 : e2 ≠ 242 := by rcases he with rfl | rfl <;> decide
  have n2 : e2 ≠ 93 := by rcases he with rfl | rfl <;> decide
  have n3 : 45 ≠ e2 := by rcases he with rfl | rfl <;> decide
  have kT4 := h.kT.grown hg (own_ne hr h.kT n1)
  have k84 := h.k8.grown hg (own_ne hr h.k8 n2)
  have s4 := own_grow h.st hg (own_type h.st hr n3)
  have st4 : Stir X wo W4 := h.stir.fresh (Stir.of_gr (X := fun j => v.ownBlock = some j) hg (fun j e => e)) hv
  have gr : W4.grownBy (W4.setCell ⟨bT, i, none⟩ u) (some bT) := gr_set (p := ⟨bT, i, none⟩) (World.grownBy.refl _ _) (.inl rfl) _
  refine ⟨h.bz, h.ge8, h.xT, h.xw, st4.trans (Stir.of_gr gr (fun j e => by injection e with e; subst e; exact h.xT)), ?_, k84.far (p := ⟨bT, i, none⟩) h.ne.symm _, tr4.grown kT4 gr (by decide) (by decide) (by decide), own_grow s4 gr (fun g e => by injection e with e; subst e; exact own_ne s4 kT4 (by decide)), hb', hv', hk'⟩
  rw [hc]
  exact kT4.set_ i u
theorem RSt.pick (h : RSt w wo W X bT b8 Am nm cm vb vv vk v5 lb lo lk Lp P z) {v : Value} {g n c : Nat} (hv : ∀ i, v.ownBlock = some i → X i ∨ wo.heap.size ≤ i) (hat : v.ownBlock = some g ∨ W.heap.size < g) : ∀ i, (Value.slice (some ⟨g, 0, none⟩) n c).ownBlock = some i → X i ∨ wo.heap.size ≤ i := by
  intro i hi
  rcases own_pick hat hi with e | e
  · exact hv i e
  · have := h.stir.size; exact .inr (by omega)
end
theorem rowB_succ (T : Int → Int → Pl × Int) (from_ to_ : Int) (q : Nat) : rowB T from_ to_ (q + 1) = (rowB T from_ to_ q && (decide ((T (from_ + q) 1).2 = 0) && !(T (from_ + q) 1).1.gone && decide ((T (from_ + q) 1).1.pos = to_ + q))) := rfl
theorem rowB_down (T : Int → Int → Pl × Int) (from_ to_ : Int) {q : Nat} (h : rowB T from_ to_ q = false) : ∀ {N : Nat}, q ≤ N → rowB T from_ to_ N = false := by
  intro N hN
  induction N with
  | zero => obtain rfl : q = 0 := by omega
            exact h
  | succ N ih =>
    by_cases hq : q ≤ N
    · rw [rowB_succ, ih hq]; rfl
    · obtain rfl : q = N + 1 := by omega
      exact h
/-- where a position comes to in the document, and whether that is said rightly -/
theorem DocTells.row {T : Int → Int → Pl × Int} {D : Int → Int → Pl × Bool} (h : DocTells T D) (from_ to_ : Int) (q : Nat) :
    (decide ((T (from_ + q) 1).2 = 0) && !(T (from_ + q) 1).1.gone && decide ((T (from_ + q) 1).1.pos = to_ + q)) = ((D (from_ + q) 1).2 && !(D (from_ + q) 1).1.gone && decide ((D (from_ + q) 1).1.pos = to_ + q)) := by
  rw [h.ok]
  by_cases h0 : (T (from_ + q) 1).2 = 0
  · rw [h.gone _ _ h0, h.pos _ _ h0]
  · simp [h0]
set_option maxRecDepth 100000 in
set_option maxHeartbeats 4000000 in
theorem rrow_any (T : Int → Int → Pl × Int) (D : Int → Int → Pl × Bool) (hD : DocTells T D) (x : StC) (A : Option Addr) (n c : Nat) (A' : Option Addr) (n' c' : Nat) (A1 : Option Addr) (l1 c1 : Nat) (A2 : Option Addr) (l2 c2 : Nat) (from_ : Int) (B : Nat) (w : World)
    (hr : DocRt w B (.agg #[.slice A1 l1 c1, .slice A2 l2 c2]) D) (hx : 0 ≤ x.f ∧ x.f ≤ x.t ∧ x.t ≤ 1073741824) (hfr : -4398046511104 ≤ from_ ∧ from_ ≤ 4398046511104) :
    Calls Tryz.prog 184 #[.agg (stp x.k x.f x.t x.g x.h x.i x.m x.v A n c A' n' c'), .agg #[.slice A1 l1 c1, .slice A2 l2 c2], .int .i64 from_] w fun e w' => e = .returned (.bool (rowB T x.f from_ (x.t - x.f).toNat)) ∧ Below w.heap.size w w' := by
  have k1 : Bk ((w.alloc (.cells (stp x.k x.f x.t x.g x.h x.i x.m x.v A n c A' n' c') 45)).alloc (.cells #[.slice A1 l1 c1, .slice A2 l2 c2] 245)) w.heap.size 45 (stp x.k x.f x.t x.g x.h x.i x.m x.v A n c A' n' c') := (Bk.new w _ _).alloc _
  have k2 : Bk ((w.alloc (.cells (stp x.k x.f x.t x.g x.h x.i x.m x.v A n c A' n' c') 45)).alloc (.cells #[.slice A1 l1 c1, .slice A2 l2 c2] 245)) (w.heap.size + 1) 245 #[.slice A1 l1 c1, .slice A2 l2 c2] := Bk.made _ _ (by simp)
  have hb0 : Below w.heap.size w ((w.alloc (.cells (stp x.k x.f x.t x.g x.h x.i x.m x.v A n c A' n' c') 45)).alloc (.cells #[.slice A1 l1 c1, .slice A2 l2 c2] 245)) := belowA
  have hr0 := hr.ext (hb0.mono hr.1)
  have hB := hr.1
  obtain ⟨N, hN⟩ : ∃ N : Nat, x.t = x.f + N := ⟨(x.t - x.f).toNat, by omega⟩
  have hN2 : (x.t - x.f).toNat = N := by omega
  rw [hN2]
  obtain ⟨xk, xf, xt, xg, xh, xi, xm, xv, xsl, xst⟩ := x
  simp only at hN hx
  subst hN
  have HD := Lib.hid hD
  clear hr hN2 hD
  go_enter Tryz.func184, Tryz.ntmps184
  go_upto_region 1 with fail
  generalize (w.alloc (.cells #[.int .i64 xk, .int .i64 xf, .int .i64 (xf + N), .int .i64 xg, .int .i64 xh, .int .i64 xi, .int .i64 xm, .int .i64 xv, .slice A n c, .slice A' n' c'] 45)).alloc (.cells #[.slice A1 l1 c1, .slice A2 l2 c2] 245) = w0 at *
  have z1 := k1.cell 1; have z2 := k1.cell 2
  dsimp [stp] at z1 z2
  have HR := Lib.hid hr0
  clear hr0
  go_wp2
  go_loopw [7] (fun v wr => ∃ (q : Nat), q ≤ N ∧ v = .int .i64 (xf + q) ∧ Below w0.heap.size w0 wr ∧ Hid (rowB T xf from_ q = true)) (fun v _ => (xf + N - intOf v).toNat)
  case atStart => exact ⟨0, by omega, by simp, Below.refl _ _, Lib.hid rfl⟩
  case round =>
    obtain ⟨q, hq, rfl, hbr, hrow⟩ := hrel
    have x1 := k1.ext hbr
    have x2 := k2.ext hbr
    have b1 := x1.cell 1; have b2 := x1.cell 2; have r0 := x2.cell 0; have r1 := x2.cell 1
    dsimp [stp] at b1 b2 r0 r1
    have hbw := hb0.trans (hbr.mono hb0.size)
    by_cases hqn : q < N
    · have e1 : xf + (q : Int) < xf + N := by omega
      have ht := HR.out.2 wr (hbr.mono HR.out.1) (xf + q) 1
      have hs := rowB_succ T xf from_ q
      rw [hrow.out, HD.out.row, Bool.true_and] at hs
      obtain ⟨⟨⟨p, g, i, rr, o⟩, ok⟩, hX⟩ : ∃ y, D (xf + q) 1 = y := ⟨_, rfl⟩
      rw [hX] at ht hs
      simp only [Pl.val] at ht hs
      have HT := Lib.hid ht
      have HS := Lib.hid hs
      have e2 : IntKind.i64.wrap (from_ + (xf + q)) = from_ + (xf + q) := IntWalk.i64_in _ (by omega)
      have e3 : IntKind.i64.wrap (from_ + (xf + q) - xf) = from_ + q := by rw [IntWalk.i64_in _ (by omega)]; omega
      have e4 : IntKind.i64.wrap (xf + (q : Int) + 1) = xf + q + 1 := IntWalk.i64_in _ (by omega)
      have hbad := fun (h : rowB T xf from_ (q + 1) = false) => rowB_down T xf from_ h (N := N) (by omega)
      have HBAD := Lib.hid hbad
      have hz := hbr.size
      clear ht hs hX hrow hbad z1 z2
      cases ok with
      | false =>
        go_wp2_with (go_at_call 183; (refine HT.out.mono ?_); rintro e w3 ⟨rfl, hb3⟩; have y1 := x1.ext hb3; have b1 := y1.cell 1; dsimp [stp] at b1; have ly := def_lt' y1)
        go_ret
        have hb9 := hbw.trans (hb3.mono hbw.size)
        have hz9 := hb9.size
        exact ⟨by rw [HBAD.out HS.out]; rfl, belowA⟩
      | true =>
        cases g with
        | true =>
          go_wp2_with (go_at_call 183; (refine HT.out.mono ?_); rintro e w3 ⟨rfl, hb3⟩; have y1 := x1.ext hb3; have b1 := y1.cell 1; dsimp [stp] at b1; have ly := def_lt' y1)
          go_ret
          have hb9 := hbw.trans (hb3.mono hbw.size)
          have hz9 := hb9.size
          exact ⟨by rw [HBAD.out HS.out]; rfl, belowA⟩
        | false =>
          by_cases hp : p = from_ + q
          · subst hp
            have t1 : ((from_ + (q : Int) != from_ + (q : Int)) : Bool) = false := by simp
            go_wp2_with (go_at_call 183; (refine HT.out.mono ?_); rintro e w3 ⟨rfl, hb3⟩; have y1 := x1.ext hb3; have b1 := y1.cell 1; dsimp [stp] at b1; have ly := def_lt' y1)
            have hb4 := hbr.trans (hb3.mono hz)
            have hz4 := hb4.size
            go_roundw
            case rel => exact ⟨q + 1, by omega, by go_num, belowA, Lib.hid (by rw [HS.out]; simp)⟩
            case measure => simp [intOf]; omega
          · have t1 : ((p != from_ + (q : Int)) : Bool) = true := by simpa using hp
            go_wp2_with (go_at_call 183; (refine HT.out.mono ?_); rintro e w3 ⟨rfl, hb3⟩; have y1 := x1.ext hb3; have b1 := y1.cell 1; dsimp [stp] at b1; have ly := def_lt' y1)
            go_ret
            have hb9 := hbw.trans (hb3.mono hbw.size)
            have hz9 := hb9.size
            exact ⟨by rw [HBAD.out (by rw [HS.out]; simp [hp])]; rfl, belowA⟩
    · obtain rfl : N = q := by omega
      have HROW := hrow
      clear hrow
      go_wp2
      go_ret
      exact ⟨by rw [HROW.out]; rfl, hbw⟩
set_option maxRecDepth 100000 in
set_option maxHeartbeats 4000000 in
theorem rshape_any (k f t g h i m v : Int) (A A' : Option Addr) (n n' c c' : Nat) (w : World) (hn : n ≤ 20000) (hn' : n' ≤ 20000) :
    Calls Tryz.prog 65 #[.agg #[.int .i64 k, .int .i64 f, .int .i64 t, .int .i64 g, .int .i64 h, .int .i64 i, .int .i64 m, .int .i64 v, .slice A n c, .slice A' n' c']] w fun e w' => e = .returned (.bool (shB k f t g h i m v n n')) ∧ Below w.heap.size w w' := by
  by_cases hbox : 0 ≤ f ∧ f ≤ t ∧ t ≤ 1073741824
  · obtain ⟨h0, h1, h2⟩ := hbox
    have e3 : ¬ (20000 : Int) < n := by omega
    have e4 : ¬ (20000 : Int) < n' := by omega
    have e5 : ¬ f < 0 := by omega
    have e6 : ¬ t < f := by omega
    have e7 : ¬ 1073741824 < t := by omega
    have e8 : IntKind.i64.wrap (t - f) = t - f := IntWalk.i64_in _ (by omega)
    have hbx : boxes f t = true := decide_eq_true ⟨h0, h1, h2⟩
    have HN := Lib.hid hn
    have HN' := Lib.hid hn'
    have H0 := Lib.hid h0
    have H1 := Lib.hid h1
    have H2 := Lib.hid h2
    have HBX := Lib.hid hbx
    clear hn hn' h0 h1 h2 hbx
    go_enter Tryz.func65, Tryz.ntmps65
    go_upto_region 3 with fail
    go_cut [3] (fun b wx => b = .bool (decide (¬ (g = 0 ∧ h = 0 ∧ i = 0))) ∧ wx = w.alloc (.cells #[.int .i64 k, .int .i64 f, .int .i64 t, .int .i64 g, .int .i64 h, .int .i64 i, .int .i64 m, .int .i64 v, .slice A n c, .slice A' n' c'] 45))
    case first =>
      have hc : ((g != 0) = true) ∨ (g = 0 ∧ (h != 0) = true) ∨ (g = 0 ∧ h = 0 ∧ (i != 0) = true) ∨ (g = 0 ∧ h = 0 ∧ i = 0) := by
        simp only [bne_iff_ne, ne_eq]; omega
      rcases hc with g1 | ⟨rfl, g1⟩ | ⟨rfl, rfl, g1⟩ | ⟨rfl, rfl, rfl⟩
      all_goals
        go_wp2
        go_meet
      · exact ⟨congrArg Value.bool (decide_eq_true (by intro h; rw [h.1] at g1; cases g1)).symm, rfl⟩
      · exact ⟨congrArg Value.bool (decide_eq_true (by intro h; rw [h.2.1] at g1; cases g1)).symm, rfl⟩
      · exact ⟨congrArg Value.bool (decide_eq_true (by intro h; rw [h.2.2] at g1; cases g1)).symm, rfl⟩
      · exact ⟨rfl, rfl⟩
    case rest =>
      obtain ⟨rfl, rfl⟩ := hcut
      obtain ⟨gB, hgB⟩ : ∃ b, decide (¬ (g = 0 ∧ h = 0 ∧ i = 0)) = b := ⟨_, rfl⟩
      rw [hgB]
      have HG := Lib.hid hgB
      clear hgB
      go_upto_region 4 with fail
      go_cut [4] (fun b wx => b = .bool (decide (¬ (m = 0 ∧ v = 0))) ∧ wx = w.alloc (.cells #[.int .i64 k, .int .i64 f, .int .i64 t, .int .i64 g, .int .i64 h, .int .i64 i, .int .i64 m, .int .i64 v, .slice A n c, .slice A' n' c'] 45))
      case first =>
        have hc : ((m != 0) = true) ∨ (m = 0 ∧ (v != 0) = true) ∨ (m = 0 ∧ v = 0) := by
          simp only [bne_iff_ne, ne_eq]; omega
        rcases hc with g1 | ⟨rfl, g1⟩ | ⟨rfl, rfl⟩
        all_goals
          go_wp2
          go_meet
        · exact ⟨congrArg Value.bool (decide_eq_true (by intro h; rw [h.1] at g1; cases g1)).symm, rfl⟩
        · exact ⟨congrArg Value.bool (decide_eq_true (by intro h; rw [h.2] at g1; cases g1)).symm, rfl⟩
        · exact ⟨rfl, rfl⟩
      case rest =>
        obtain ⟨rfl, rfl⟩ := hcut
        obtain ⟨mB, hmB⟩ : ∃ b, decide (¬ (m = 0 ∧ v = 0)) = b := ⟨_, rfl⟩
        rw [hmB]
        have HM := Lib.hid hmB
        clear hmB
        have hk : k = 1 ∨ k = 2 ∨ k = 3 ∨ k = 4 ∨ k = 5 ∨ (k < 1 ∨ 5 < k) := by omega
        rcases hk with rfl | rfl | rfl | rfl | rfl | hk
        · cases gB <;> cases mB
          all_goals
            go_wp2
            go_ret
            exact ⟨ret_bool (by have a := HG.out; have b := HM.out; have c := HBX.out; have d := HN.out; have d' := HN'.out; have x := H0.out; have y := H1.out; have z := H2.out; unfold shB; rw [c]; rw [Bool.eq_iff_iff]; simp [sh1] at a b ⊢; omega), belowA⟩
        · cases mB
          all_goals
            go_wp2
            all_goals go_ret
            all_goals exact ⟨ret_bool (by have a := HG.out; have b := HM.out; have c := HBX.out; have d := HN.out; have d' := HN'.out; have x := H0.out; have y := H1.out; have z := H2.out; unfold shB; rw [c]; rw [Bool.eq_iff_iff]; simp [sh2] at a b ⊢; omega), belowA⟩
        · cases gB
          all_goals
            go_wp2
            all_goals go_ret
            all_goals exact ⟨ret_bool (by have a := HG.out; have b := HM.out; have c := HBX.out; have d := HN.out; have d' := HN'.out; have x := H0.out; have y := H1.out; have z := H2.out; unfold shB; rw [c]; rw [Bool.eq_iff_iff]; simp [sh3] at a b ⊢; omega), belowA⟩
        · cases gB
          all_goals
            go_wp2
            all_goals go_ret
            all_goals exact ⟨ret_bool (by have a := HG.out; have b := HM.out; have c := HBX.out; have d := HN.out; have d' := HN'.out; have x := H0.out; have y := H1.out; have z := H2.out; unfold shB; rw [c]; rw [Bool.eq_iff_iff]; simp [sh3] at a b ⊢; omega), belowA⟩
        · cases gB <;> cases mB
          all_goals
            go_wp2
            all_goals go_ret
            all_goals exact ⟨ret_bool (by have a := HG.out; have b := HM.out; have c := HBX.out; have d := HN.out; have d' := HN'.out; have x := H0.out; have y := H1.out; have z := H2.out; unfold shB; rw [c]; rw [Bool.eq_iff_iff]; simp [sh5] at a b ⊢; omega), belowA⟩
        · have e11 : (k == 1) = false := by simp; omega
          have e12 : (k == 2) = false := by simp; omega
          have e13 : (k == 3) = false := by simp; omega
          have e14 : (k == 4) = false := by simp; omega
          have e15 : (k == 5) = false := by simp; omega
          have HK := Lib.hid hk
          clear hk
          go_wp2
          go_ret
          exact ⟨ret_bool (by have hk := HK.out; unfold shB; rw [if_neg (by omega), if_neg (by omega), if_neg (by omega), if_neg (by omega), Bool.and_false]), belowA⟩
  · have hres : shB k f t g h i m v n n' = false := by
      unfold shB boxes
      rw [decide_eq_false hbox, Bool.false_and]
    rw [hres]
    have hc : f < 0 ∨ (¬ f < 0 ∧ t < f) ∨ (¬ f < 0 ∧ ¬ t < f ∧ 1073741824 < t) := by omega
    clear hres hbox
    rcases hc with e1 | ⟨e1, e2⟩ | ⟨e1, e2, e3⟩
    all_goals
      go_enter Tryz.func65, Tryz.ntmps65
      go_wp2
      go_ret
      exact ⟨rfl, belowA⟩
end Go.Proofs.YtmacfoebfpljoaaGreat
