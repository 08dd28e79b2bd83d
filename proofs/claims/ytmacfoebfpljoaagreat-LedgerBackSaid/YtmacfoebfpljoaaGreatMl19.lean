/- merged texts: Lv Lu Lw Lx Ly I M N Ca Cb Craw Cfw -/
import Derived.Test.YtmacfoebfpljoaaGreatMl18
import Derived.Test.YtmacfoebfpljoaaGreatMl17
import Derived.Test.YtmacfoebfpljoaaGreatMl1
import Derived.Deep.RegionLaw
import Derived.Laws.StructEq
import Derived.Test.YtmacfoebfpljoaaGreatMl9
import Derived.Test.YtmacfoebfpljoaaGreatMl13
namespace Go.Proofs.YtmacfoebfpljoaaGreat
open Go.RowKit
set_option linter.unusedVariables false
theorem doesL_m {k f t g h i : Nat} {sl D : List Tok} {m : Nat → Mk} (hk : 3 ≤ k) (ht : t ≤ D.length) (p : Nat) (hf : f ≤ p) (hp : p < t) : ((doesL k f t g h i sl m D).getD p default).m = m p := by
  unfold doesL
  rw [if_neg (by omega), if_neg (by omega), List.getD_eq_getElem?_getD, List.getElem?_mapIdx]
  obtain ⟨x, hx⟩ : ∃ x, D[p]? = some x := ⟨_, List.getElem?_eq_getElem (by omega)⟩
  rw [hx]
  simp [hf, hp]
theorem stepE_len {er : Int → Bool} {kd f t g h i : Nat} {sl : List Tok} {ev nx : Int} {after : List Tok} {es : List Ent} (hk : 1 ≤ kd) (hft : f ≤ t) (ht : t ≤ cntP er es) (h2 : kd = 2 → f ≤ g ∧ g ≤ h ∧ h ≤ t) : (stepE er kd f t g h i sl ev nx after es).length ≤ es.length + sl.length := by
  have hfr : frontOf kd t g ≤ t := by
    unfold frontOf
    split
    · rename_i e
      have := h2 e
      omega
    · exact Nat.le_refl _
  obtain ⟨F, hF⟩ : ∃ F, (plN er es)[frontOf kd t g]? = some F := ⟨_, List.getElem?_eq_getElem (by rw [plN_len]; omega)⟩
  obtain ⟨T, hT⟩ : ∃ T, (plN er es)[t]? = some T := ⟨_, List.getElem?_eq_getElem (by rw [plN_len]; omega)⟩
  have hFT := plN_mono _ _ _ _ _ hF hT hfr
  have hTl := plN_le _ T (List.mem_of_getElem? hT)
  unfold stepE
  rw [doE_eq _ _ _ _ _ _ 0 F T (Nat.zero_le _) hfr hF hT]
  simp only [List.length_append, List.length_take, List.length_drop, updL_len, freE_len]
  have hh : (headOf kd i sl).length + (tailOf kd i sl).length ≤ sl.length := by
    unfold headOf tailOf
    rcases (show kd = 1 ∨ kd = 2 ∨ 3 ≤ kd by omega) with rfl | rfl | h3
    · simp
    · simp; omega
    · rw [if_neg (by omega), if_neg (by omega), if_neg (by omega)]; simp
  omega
/-- at most so many events at each entry -/
def Lim (B : Nat) (es : List Ent) : Prop := ∀ e ∈ es, e.tk.length ≤ B ∧ e.ov.length ≤ B ∧ e.gv.length ≤ B
theorem Lim.step {B : Nat} {er : Int → Bool} {kd f t g h i : Nat} {sl : List Tok} {ev nx : Int} {after : List Tok} {es : List Ent} (hl : Lim B es) : Lim (B + 1) (stepE er kd f t g h i sl ev nx after es) := by
  intro e he
  rcases doE_mem _ _ he with he | he | he | ⟨q, e0, h0, rfl⟩
  · obtain ⟨t, lab, -, rfl⟩ := freE_mem he
    simp
  · obtain ⟨t, lab, -, rfl⟩ := freE_mem he
    simp
  · have := hl e he
    omega
  · have := hl e0 h0
    have h5 := updE_lens (er := er) (ev := ev) (kd := kd) (f := f) (t := t) (gp := g) (hp := h) (p := q) (after := after) (e := e0)
    omega
theorem Lim.start (ev : Int) (fi : Bool) (nx : Int) (l : List Tok) : Lim 0 (freE ev fi nx l) := fun e he => by
  obtain ⟨t, lab, -, rfl⟩ := freE_mem he
  simp
/-- a ledger behind k steps, none of which is erased -/
structure LdB (k : Nat) (base g mb n : Nat) (sv : Value) (nx : Int) (l : List EH) (docs : List (List Tok)) (W : World) : Prop where
  in_ : LdIn W base g mb n sv nx l (fun _ => false)
  back : Back k (l.map EH.e) docs
  lim : Lim k (l.map EH.e)
  len : l.length ≤ 1000 + 1000 * k
  nx0 : 0 ≤ nx
  nx1 : nx ≤ 1000 + 1000 * k
theorem LdB.below {k base g mb n : Nat} {sv : Value} {nx : Int} {l : List EH} {docs : List (List Tok)} {W W' : World} (h : LdB k base g mb n sv nx l docs W) (hb : Below W.heap.size W W') : LdB k base g mb n sv nx l docs W' :=
  ⟨h.in_.below hb, h.back, h.lim, h.len, h.nx0, h.nx1⟩
theorem LdB.view {k base g mb n : Nat} {sv : Value} {nx : Int} {l : List EH} {docs : List (List Tok)} {W : World} {D : List Tok} (h : LdB k base g mb n sv nx l docs W) (hD : docs[k]? = some D) : view (fun _ => false) (l.map EH.e) = D :=
  h.back.seen k D hD _ (fun v h1 h2 => by simp; omega)
/-- what is a ledger's own grows at its end alone -/
def Owns (g mb : Nat) (sv : Value) (l : List EH) (sv' : Value) (l' : List EH) (W W' : World) : Prop := Sti (LdIn.Mine g mb sv l) W W' ∧ ∀ k, LdIn.Mine g mb sv' l' k → LdIn.Mine g mb sv l k ∨ W.heap.size ≤ k
def LdStep (k base g mb n : Nat) (sv : Value) (l : List EH) (docs : List (List Tok)) (D' : List Tok) (W : World) (e : Ending) (W' : World) : Prop :=
  e = .returned (.int .i64 0) ∧ ∃ sv' nx' l', LdB (k + 1) base g mb n sv' nx' l' (docs ++ [D']) W' ∧ Owns g mb sv l sv' l' W W'
theorem ldb_step (j base g mb n : Nat) (sv : Value) (nx : Int) (el : List EH) (docs : List (List Tok)) (k f t gp hp i m v : Int) (XA YA PA : Option Addr) (xn xc yn yc pn pc : Nat) (sl D : List Tok) (st : List Mk) (mk : Nat → Mk) (w : World)
    (h : LdB j base g mb n sv nx el docs w) (hD : docs[j]? = some D) (hb : base ≤ w.heap.size) (hj : j ≤ 30) (hsh : shB k f t gp hp i m v xn yn = true) (ht : t ≤ D.length)
    (hx : Rd w w.heap.size 12 XA xn (toks sl)) (hxc : xn ≤ xc) (hxn : xn ≤ 1000) (hxA : 0 < xn → ∀ a, XA = some a → ¬ LdIn.Mine g mb sv el a.block) (hy : Rd w w.heap.size 8 YA yn (mks st)) (hyn : yn ≤ 20000)
    (ha : Rd w w.heap.size 12 PA pn (toks (doesL k.toNat f.toNat t.toNat gp.toNat hp.toNat i.toNat sl mk D))) (haA : 0 < pn → ∀ a, PA = some a → ¬ LdIn.Mine g mb sv el a.block) :
    Calls Tryz.prog 13 #[.pointer (some ⟨g, 0, none⟩), .agg #[.int .i64 k, .int .i64 f, .int .i64 t, .int .i64 gp, .int .i64 hp, .int .i64 i, .int .i64 m, .int .i64 v, .slice XA xn xc, .slice YA yn yc], .int .i64 ((j + 1 : Nat) : Int), .slice PA pn pc] w
      (LdStep j base g mb n sv el docs (doesL k.toNat f.toNat t.toNat gp.toNat hp.toNat i.toNat sl mk D) w) := by
  have hv := h.view hD
  have hcn : cntP (fun _ => false) (el.map EH.e) = D.length := by rw [← cntP_view, hv]
  obtain ⟨⟨b0, b1, b2⟩, hk, h2, h1⟩ := shB_spec hsh
  have hxl := hx.tlen
  have hal := ha.tlen
  have hjl := h.len
  have h0 := h.nx0
  have hn1 := h.nx1
  refine (ldo_any base g mb n sv nx ((j + 1 : Nat) : Int) el (fun _ => false) k f t gp hp i m v XA YA PA xn xc yn yc pn pc sl _ st w h.in_ hb (by omega) ⟨h.nx0, by omega⟩ hsh (by rw [hcn]; exact ht) hx hxc (by omega) hxA hy hyn ha (by rw [hcn, ← hal]; exact doesL_shift hsh sl D mk hxl ht) haA ⟨by omega, by omega⟩ (fun x hx => by
    have := h.lim x.e (List.mem_map.2 ⟨x, hx, rfl⟩)
    omega)).mono ?_
  rintro e w' ⟨rfl, sv', l', hL, hm, hs, hmi⟩
  have hk2 : (k.toNat = 2 → f.toNat ≤ gp.toNat ∧ gp.toNat ≤ hp.toNat ∧ hp.toNat ≤ t.toNat) := fun e => by have := h2 (by omega); omega
  have hlen' : l'.length ≤ 1000 + 1000 * (j + 1) := by
    have h3 := congrArg List.length hm
    rw [List.length_map] at h3
    have h4 := stepE_len (er := fun _ => false) (kd := k.toNat) (f := f.toNat) (t := t.toNat) (g := gp.toNat) (h := hp.toNat) (i := i.toNat) (sl := sl) (ev := ((j + 1 : Nat) : Int)) (nx := nx) (after := doesL k.toNat f.toNat t.toNat gp.toNat hp.toNat i.toNat sl mk D) (es := el.map EH.e) (by omega) (by omega) (by rw [hcn]; omega) hk2
    rw [List.length_map] at h4
    omega
  refine ⟨rfl, sv', _, l', ⟨hL, ?_, ?_, hlen', by omega, by omega⟩, hs, hmi⟩
  · rw [hm]
    exact h.back.step mk hD (by omega) (by omega) (by omega) hk2 (fun h3 p hf hp => doesL_m h3 (by omega) p hf hp)
  · rw [hm]
    exact h.lim.step
/-- the beginning -/
theorem ldb_new (tA : Option Addr) (tn tc : Nat) (sl : List Tok) (w : World) (hr : Rd w w.heap.size 12 tA tn (toks sl)) (hn : tn ≤ 1000) :
    Calls Tryz.prog 11 #[.slice tA tn tc] w fun e w' => ∃ g mb sv nx l, e = .returned (.pointer (some ⟨g, 0, none⟩)) ∧ LdB 0 w.heap.size g mb 0 sv nx l [sl] w' ∧ Below w.heap.size w w' := by
  have hl := hr.tlen
  refine (lnew_any tA tn tc sl w hr (by omega)).mono ?_
  rintro e w' ⟨g, mb, sv, rfl, hL, hb⟩
  refine ⟨g, mb, sv, _, _, rfl, ⟨hL, ?_, ?_, by rw [frs_len]; omega, by omega, by omega⟩, hb⟩
  · rw [frs_e]
    exact Back.start _ _ _
  · rw [frs_e]
    exact Lim.start _ _ _ _
/-- which events are erased while those above i are -/
theorem LdB.erased {k base g mb n : Nat} {sv : Value} {nx : Int} {l : List EH} {docs : List (List Tok)} {W : World} (h : LdB k base g mb n sv nx l docs W) {i : Nat} {D : List Tok} (hi : docs[i]? = some D) (er : Int → Bool) (he : ∀ v : Int, 1 ≤ v → v ≤ k → er v = decide ((i : Int) < v)) : Go.Proofs.YtmacfoebfpljoaaGreat.view er (l.map EH.e) = D :=
  h.back.seen i D hi er he
def chr (r : Int) : Tok := ⟨4, 0, 0, r, ⟨0, 0, 0, 0, 0, 0, 0, 0⟩⟩
def TextOut (n : Nat) (rs : List Int) (w : World) (e : Ending) (w' : World) : Prop := ∃ v, e = .returned v ∧ w'.ownsRow w.heap.size 126 12 v n (toks (rs.map chr)) ∧ Below w.heap.size w w'
theorem info_tok' : (Tryz.prog.info? 126).map (fun i => (i.zero, i.size, i.bytes)) = some (some (.agg zeroTok), 12, 48) := by kernel_rfl
theorem toks_append (a b : List Tok) : toks (a ++ b) = toks a ++ toks b := by simp [toks]
set_option maxRecDepth 100000 in
set_option maxHeartbeats 1000000 in
theorem text_gen (n : Nat) (rs : List Int) (b : Nat) (Z : Array Value) (w : World) (hn : rs.length = n) (hn1 : n ≤ 100) (hb : b < w.heap.size) (hc : ∀ q r, rs[q]? = some r → w.cell? ⟨b, q, none⟩ = some (.int .i32 r))
    (hmk : ∀ w, (Instr.makeSlice 22 (.int .i64 0) (.int .i64 (n : Int))).run Tryz.prog w = .ok (.slice (some ⟨w.heap.size, 0, none⟩) 0 n) (w.alloc (.cells Z 126))) (hZ : Z.size = n * 12) :
    Calls Tryz.prog 52 #[.slice (some ⟨b, 0, none⟩) n n] w (TextOut n rs w) := by
  have hown0 : (w.alloc (.cells Z 126)).ownsRow w.heap.size 126 12 (.slice (some ⟨w.heap.size, 0, none⟩) 0 n) 0 [] :=
    ⟨by simp, .inr ⟨w.heap.size, n, _, rfl, Nat.le_refl _, heap_alloc_new w _, by omega, by unfold maxLen; omega, by simp [hZ], by simp⟩⟩
  have hb1 : Below w.heap.size w (w.alloc (.cells Z 126)) := belowA
  have HC := Lib.hid hc
  have HN := Lib.hid hn
  have HO := Lib.hid hown0
  clear hc hn hZ hown0
  go_enter Tryz.func52, Tryz.ntmps52
  go_wp2
  generalize w.alloc (.cells Z 126) = w0 at *
  clear hmk
  go_loopw [3, 11] (fun v j wr => ∃ q : Nat, q ≤ n ∧ j = .int .i64 q ∧ Below w.heap.size w wr ∧ Hid (wr.ownsRow w.heap.size 126 12 v q (toks ((rs.take q).map chr)))) (fun _ j _ => n - (intOf j).toNat)
  case atStart => exact ⟨0, by omega, rfl, hb1, HO⟩
  case round =>
    obtain ⟨q, hq, rfl, hbr, hown⟩ := hrel
    have hbz := hbr.size
    by_cases hqn : q < n
    · have e3 : (q : Int) < n := by omega
      obtain ⟨r, hr⟩ : ∃ r, rs[q]? = some r := ⟨_, List.getElem?_eq_getElem (by have := HN.out; omega)⟩
      have hcr := (hbr.cell (p := ⟨b, q, none⟩) hb).trans (HC.out q r hr)
      have hsn : toks ((rs.take (q + 1)).map chr) = toks ((rs.take q).map chr) ++ (chr r).cells := by
        rw [List.take_add_one, hr, Option.toList_some, List.map_append, toks_append]
        simp [toks]
      have HSN := Lib.hid hsn
      clear hr hsn hb1
      go_wp2_with (at_builtin; ((refine app_one Tryz.underlying22 info_tok' rfl (by decide) wr w.heap.size _ q _ hown.out (by unfold maxLen; omega) (by omega) hbz _ rfl (by simp [Value.oneCell']) rfl _ _ rfl rfl rfl ?_); intro g4 cap4 w4 hown4 hgr4 hat4 hlt4))
      have hb4 := below_own hbr hown.out hgr4 hbz (Nat.le_refl _)
      have hfin : w4.ownsRow w.heap.size 126 12 (.slice (some ⟨g4, 0, none⟩) (q + 1) cap4) (q + 1) (toks ((rs.take (q + 1)).map chr)) := by
        rw [HSN.out]
        exact hown4
      have HFIN := Lib.hid hfin
      clear hown4 hgr4 hfin
      go_roundw
      case rel => exact ⟨q + 1, by omega, by go_num, hb4, HFIN⟩
      case measure => simp [intOf]; omega
    · obtain rfl : n = q := by omega
      have ho := hown.out
      rw [List.take_of_length_le (by rw [HN.out]; exact Nat.le_refl _)] at ho
      have HO2 := Lib.hid ho
      clear ho hown
      go_wp2
      go_ret
      exact ⟨_, rfl, HO2.out, hbr⟩
abbrev zeroToks2 : Array Value := zeroTok ++ zeroTok
abbrev zeroToks3 : Array Value := zeroTok ++ zeroTok ++ zeroTok
theorem text1_any (r : Int) (b : Nat) (w : World) (k : Bk w b 21 #[.int .i32 r]) : Calls Tryz.prog 52 #[.slice (some ⟨b, 0, none⟩) 1 1] w (TextOut 1 [r] w) :=
  text_gen 1 [r] b zeroTok w rfl (by omega) (def_lt' k) (fun q x hx => by
    rw [k.cell]
    have : q = 0 := by have := (List.getElem?_eq_some_iff.1 hx).1; simp at this; omega
    subst this
    injection hx with hx
    subst hx
    rfl) (fun _ => by kernel_rfl) rfl
theorem text2_any (r s : Int) (b : Nat) (w : World) (k : Bk w b 21 #[.int .i32 r, .int .i32 s]) : Calls Tryz.prog 52 #[.slice (some ⟨b, 0, none⟩) 2 2] w (TextOut 2 [r, s] w) :=
  text_gen 2 [r, s] b zeroToks2 w rfl (by omega) (def_lt' k) (fun q x hx => by
    rw [k.cell]
    have : q < 2 := (List.getElem?_eq_some_iff.1 hx).1
    obtain rfl | rfl : q = 0 ∨ q = 1 := by omega
    all_goals (injection hx with hx; subst hx; rfl)) (fun _ => by kernel_rfl) rfl
theorem text3_any (r s u : Int) (b : Nat) (w : World) (k : Bk w b 21 #[.int .i32 r, .int .i32 s, .int .i32 u]) : Calls Tryz.prog 52 #[.slice (some ⟨b, 0, none⟩) 3 3] w (TextOut 3 [r, s, u] w) :=
  text_gen 3 [r, s, u] b zeroToks3 w rfl (by omega) (def_lt' k) (fun q x hx => by
    rw [k.cell]
    have : q < 3 := (List.getElem?_eq_some_iff.1 hx).1
    obtain rfl | rfl | rfl : q = 0 ∨ q = 1 ∨ q = 2 := by omega
    all_goals (injection hx with hx; subst hx; rfl)) (fun _ => by kernel_rfl) rfl
set_option maxRecDepth 100000 in
set_option maxHeartbeats 4000000 in
theorem toks13_same (A A' : Option Addr) (n c c' : Nat) (l : List Tok) (w : World) (hn : n ≤ maxLen) (hrd : Rd w w.heap.size 12 A n (toks l)) (hrd' : Rd w w.heap.size 12 A' n (toks l)) :
    Calls Tryz.prog 14 #[.slice A n c, .slice A' n c'] w fun e w' => e = .returned (.bool true) ∧ Below w.heap.size w w' := by
  have hl := hrd.tlen
  have HL := Lib.hid hl
  clear hl
  unfold maxLen at hn
  go_enter Tryz.func14, Tryz.ntmps14
  go_wp2
  go_loopw [5] (fun i wr => ∃ k : Nat, k ≤ n ∧ i = .int .i64 k ∧ Below w.heap.size w wr) (fun i _ => n - (intOf i).toNat)
  case atStart => exact ⟨0, by omega, rfl, Below.refl _ _⟩
  case round =>
    obtain ⟨k, hk, rfl, hbr⟩ := hrel
    by_cases hkn : k < n
    · obtain ⟨r, hx⟩ : ∃ r, l[k]? = some r := ⟨_, List.getElem?_eq_getElem (by have := HL.out; omega)⟩
      obtain ⟨b, o, rfl, hb, hcc⟩ := (hrd.below hbr).el Tok.cells (fun _ => rfl) HL.out hx
      obtain ⟨b', o', rfl, hb', hdd⟩ := (hrd'.below hbr).el Tok.cells (fun _ => rfl) HL.out hx
      have e3 : (k : Int) < n := by omega
      have hc0 := hcc 0 (by omega); have hd0 := hdd 0 (by omega)
      have hc1 := hcc 1 (by omega); have hd1 := hdd 1 (by omega)
      have hc2 := hcc 2 (by omega); have hd2 := hdd 2 (by omega)
      have hc3 := hcc 3 (by omega); have hd3 := hdd 3 (by omega)
      have hc4 := hcc 4 (by omega); have hd4 := hdd 4 (by omega)
      have hc5 := hcc 5 (by omega); have hd5 := hdd 5 (by omega)
      have hc6 := hcc 6 (by omega); have hd6 := hdd 6 (by omega)
      have hc7 := hcc 7 (by omega); have hd7 := hdd 7 (by omega)
      have hc8 := hcc 8 (by omega); have hd8 := hdd 8 (by omega)
      have hc9 := hcc 9 (by omega); have hd9 := hdd 9 (by omega)
      have hc10 := hcc 10 (by omega); have hd10 := hdd 10 (by omega)
      have hc11 := hcc 11 (by omega); have hd11 := hdd 11 (by omega)
      clear hx hcc hdd
      have hq := fun w => eq_tok r r w
      rw [decide_eq_true rfl] at hq
      obtain ⟨a0, a1, a2, a3, ⟨m0, m1, m2, m3, m4, m5, m6, m7⟩⟩ := r
      dsimp [Tok.cells, Mk.cells] at hc0 hd0 hc1 hd1 hc2 hd2 hc3 hd3 hc4 hd4 hc5 hd5 hc6 hd6 hc7 hd7 hc8 hd8 hc9 hd9 hc10 hd10 hc11 hd11 hq
      go_wp2
      go_quiet (fail)
      go_wp2
      go_roundw
      case rel => exact ⟨k + 1, by omega, by go_num, below_drewN hbr _⟩
      case measure => simp [intOf]; omega
    · obtain rfl : n = k := by omega
      go_wp2
      go_ret
      exact ⟨rfl, hbr⟩
/-- a slice of tokens in a block of tokens -/
structure Tks (W : World) (A : Option Addr) (n : Nat) (D : List Tok) : Prop where
  r : Rd W W.heap.size 12 A n (toks D)
  b : ∀ a, A = some a → ∃ cs, Bk W a.block 126 cs
theorem Tks.below {W W' : World} {A : Option Addr} {n : Nat} {D : List Tok} (h : Tks W A n D) (hb : Below W.heap.size W W') : Tks W' A n D :=
  ⟨(h.r.below hb).more hb.size, fun a e => by
    obtain ⟨cs, k⟩ := h.b a e
    exact ⟨cs, k.ext hb⟩⟩
theorem Tks.of_own {W : World} {base n : Nat} {v : Value} {D : List Tok} (h : W.ownsRow base 126 12 v n (toks D)) : ∃ A c, v = .slice A n c ∧ n ≤ c ∧ Tks W A n D := by
  rcases h.2 with ⟨rfl, h0⟩ | ⟨g, cap, cur, rfl, -, hh, hc, -⟩
  · subst h0
    have : D = [] := List.eq_nil_of_length_eq_zero (by have := h.1; rw [toks_len] at this; omega)
    subst this
    exact ⟨none, 0, rfl, Nat.le_refl _, Rd.nil_ _ _ _ _, fun a e => by cases e⟩
  · exact ⟨_, cap, rfl, hc, Rd.of_own h, fun a e => by injection e with e; subst e; exact ⟨cur, hh⟩⟩
theorem Tks.not {W : World} {base g mb n m : Nat} {sv : Value} {nx : Int} {l : List EH} {er : Int → Bool} {A : Option Addr} {D : List Tok} (h : Tks W A m D) (hL : LdIn W base g mb n sv nx l er) : ∀ a, A = some a → ¬ LdIn.Mine g mb sv l a.block := fun a e => by
  obtain ⟨cs, k⟩ := h.b a e
  exact hL.not_mine k (by decide) (by decide) (by decide) (by decide)
theorem Owns.below {W W' : World} {base g mb n : Nat} {sv sv' : Value} {nx : Int} {l l' : List EH} {er : Int → Bool} (h : Owns g mb sv l sv' l' W W') (hL : LdIn W base g mb n sv nx l er) (hb : base ≤ W.heap.size) : Below base W W' := h.1.below (fun k hk => hL.ge hk) hb
/-- Tokens, as a slice of tokens -/
theorem ltoks_is {base g mb n : Nat} {sv : Value} {nx : Int} {l : List EH} {er : Int → Bool} {w : World} {D : List Tok} (h : LdIn w base g mb n sv nx l er) (hlen : l.length ≤ 100000) (hv : view er (l.map EH.e) = D) :
    Calls Tryz.prog 15 #[.pointer (some ⟨g, 0, none⟩)] w fun e w' => ∃ A c, e = .returned (.slice A D.length c) ∧ Tks w' A D.length D ∧ Below w.heap.size w w' := by
  obtain ⟨A, c, rfl, -, -⟩ := h.form
  refine (ltokens_any base g mb n A c nx l er w h hlen).mono ?_
  rintro e w' ⟨v, rfl, ho, hb⟩
  rw [hv] at ho
  obtain ⟨A', c', rfl, -, ht⟩ := Tks.of_own ho
  exact ⟨A', c', rfl, ht, hb⟩
theorem tsame_yes {A A' : Option Addr} {n c c' : Nat} {D : List Tok} {w : World} (hn : n ≤ 100000) (h : Tks w A n D) (h' : Tks w A' n D) : Calls Tryz.prog 53 #[.slice A n c, .slice A' n c'] w fun e w' => e = .returned (.bool true) ∧ Below w.heap.size w w' := by
  refine (tsame_any A A' n n c c' D D w (by unfold maxLen; omega) (fun _ => h.r) (fun _ => h'.r) h.r.tlen h'.r.tlen).mono ?_
  rintro e w' ⟨rfl, hb⟩
  exact ⟨by simp, hb⟩
set_option maxRecDepth 100000 in
set_option maxHeartbeats 4000000 in
theorem live42_any (w : World) : Calls Tryz.prog 10 #[] w fun e w' => e = .returned (.bool true) ∧ Below w.heap.size w w' := by
  go_enter Tryz.func10, Tryz.ntmps10
  go_wp2_with (go_at_call 52; fail)
  refine (text2_any 97 98 w.heap.size _ (Bk.new w _ _)).mono ?_
  rintro e w1 ⟨v1, rfl, ho1, hb1⟩
  obtain ⟨A1, c1, rfl, hc1, t1⟩ := Tks.of_own ho1
  have hb01 : Below w.heap.size w w1 := Below.trans belowA (hb1.mono (by simp))
  clear ho1 hb1
  go_wp2_with (go_at_call 11; fail)
  refine (ldb_new A1 2 c1 [chr 97, chr 98] w1 t1.r (by omega)).mono ?_
  rintro e w2 ⟨g, mb, sv, nx, l, rfl, h2, hb2⟩
  have hz12 := hb2.size
  have hb02 : Below w.heap.size w w2 := hb01.trans (hb2.mono hb01.size)
  clear hb2 t1
  go_wp2_with (go_at_call 52; fail)
  refine (text1_any 120 w2.heap.size _ (Bk.new w2 _ _)).mono ?_
  rintro e w3 ⟨v3, rfl, ho3, hb3⟩
  obtain ⟨A3, c3, rfl, hc3, t3⟩ := Tks.of_own ho3
  have hb23 : Below w2.heap.size w2 w3 := Below.trans belowA (hb3.mono (by simp))
  have h3 := h2.below hb23
  have hz13 := hb23.size
  have hb03 : Below w.heap.size w w3 := hb02.trans (hb23.mono hb02.size)
  clear ho3 hb3 hb23 h2
  go_wp2_with (go_at_call 52; fail)
  refine (text3_any 97 120 98 w3.heap.size _ (Bk.new w3 _ _)).mono ?_
  rintro e w4 ⟨v4, rfl, ho4, hb4⟩
  obtain ⟨A4, c4, rfl, hc4, t4⟩ := Tks.of_own ho4
  have hb34 : Below w3.heap.size w3 w4 := Below.trans belowA (hb4.mono (by simp))
  have h4 := h3.below hb34
  have t34 := t3.below hb34
  have hz14 := hb34.size
  have hb04 : Below w.heap.size w w4 := hb03.trans (hb34.mono hb03.size)
  clear ho4 hb4 hb34 h3 t3
  have hd : Calls Tryz.prog 13 #[.pointer (some ⟨g, 0, none⟩), .agg #[.int .i64 1, .int .i64 1, .int .i64 1, .int .i64 0, .int .i64 0, .int .i64 0, .int .i64 0, .int .i64 0, .slice A3 1 c3, .slice none 0 0], .int .i64 1, .slice A4 3 c4] w4 (LdStep 0 w1.heap.size g mb 0 sv l [[chr 97, chr 98]] [chr 97, chr 120, chr 98] w4) :=
    ldb_step 0 w1.heap.size g mb 0 sv nx l [[chr 97, chr 98]] 1 1 1 0 0 0 0 0 A3 none A4 1 c3 0 0 3 c4 [chr 120] [chr 97, chr 98] [] (fun _ => default) w4 h4 rfl (by omega) (by omega) (by decide) (by decide) t34.r hc3 (by omega) (fun _ => t34.not h4.in_) (Rd.nil_ _ _ _ _) (by omega) t4.r (fun _ => t4.not h4.in_)
  have HD := Lib.hid hd
  clear hd
  go_wp2_with (go_at_call 13; fail)
  refine HD.out.mono ?_
  rintro e w5 ⟨rfl, sv5, nx5, l5, h5, ho5⟩
  have hz15 := ho5.1.size
  have hb45 : Below w1.heap.size w4 w5 := ho5.below h4.in_ (by omega)
  have hb05 : Below w.heap.size w w5 := hb04.trans (hb45.mono hb01.size)
  clear ho5 hb45 h4 t34 t4 HD
  go_wp2_with (go_at_call 52; fail)
  refine (text2_any 97 120 w5.heap.size _ (Bk.new w5 _ _)).mono ?_
  rintro e w6 ⟨v6, rfl, ho6, hb6⟩
  obtain ⟨A6, c6, rfl, hc6, t6⟩ := Tks.of_own ho6
  have hb56 : Below w5.heap.size w5 w6 := Below.trans belowA (hb6.mono (by simp))
  have h6 := h5.below hb56
  have hz16 := hb56.size
  have hb06 : Below w.heap.size w w6 := hb05.trans (hb56.mono hb05.size)
  clear ho6 hb6 hb56 h5
  have hd : Calls Tryz.prog 13 #[.pointer (some ⟨g, 0, none⟩), .agg #[.int .i64 1, .int .i64 2, .int .i64 3, .int .i64 0, .int .i64 0, .int .i64 0, .int .i64 0, .int .i64 0, .slice none 0 0, .slice none 0 0], .int .i64 2, .slice A6 2 c6] w6 (LdStep 1 w1.heap.size g mb 0 sv5 l5 [[chr 97, chr 98], [chr 97, chr 120, chr 98]] [chr 97, chr 120] w6) :=
    ldb_step 1 w1.heap.size g mb 0 sv5 nx5 l5 [[chr 97, chr 98], [chr 97, chr 120, chr 98]] 1 2 3 0 0 0 0 0 none none A6 0 0 0 0 2 c6 [] [chr 97, chr 120, chr 98] [] (fun _ => default) w6 h6 rfl (by omega) (by omega) (by decide) (by decide) (Rd.nil_ _ _ _ _) (by omega) (by omega) (fun _ a e => by cases e) (Rd.nil_ _ _ _ _) (by omega) t6.r (fun _ => t6.not h6.in_)
  have HD := Lib.hid hd
  clear hd
  go_wp2_with (go_at_call 13; fail)
  refine HD.out.mono ?_
  rintro e w7 ⟨rfl, sv7, nx7, l7, h7, ho7⟩
  have hz17 := ho7.1.size
  have hb67 : Below w1.heap.size w6 w7 := ho7.below h6.in_ (by omega)
  have hb07 : Below w.heap.size w w7 := hb06.trans (hb67.mono hb01.size)
  have hl7 := h7.len
  have h7 : LdB 2 w1.heap.size g mb 0 sv7 nx7 l7 [[chr 97, chr 98], [chr 97, chr 120, chr 98], [chr 97, chr 120]] w7 := h7
  clear ho7 hb67 h6 t6 HD
  go_wp2_with (go_at_call 15; fail)
  refine (ltoks_is h7.in_ (by omega) (h7.view (D := [chr 97, chr 120]) rfl)).mono ?_
  rintro e w8 ⟨A8, c8, rfl, t8, hb8⟩
  have h8 := h7.below hb8
  have hb08 : Below w.heap.size w w8 := hb07.trans (hb8.mono hb07.size)
  have hz18 := hb8.size
  clear h7 hb8
  go_wp2_with (go_at_call 52; fail)
  refine (text2_any 97 120 w8.heap.size _ (Bk.new w8 _ _)).mono ?_
  rintro e w9 ⟨v9, rfl, ho9, hb9⟩
  obtain ⟨A9, c9, rfl, hc9, t9⟩ := Tks.of_own ho9
  have hb89 : Below w8.heap.size w8 w9 := Below.trans belowA (hb9.mono (by simp))
  have h9 := h8.below hb89
  have t89 := t8.below hb89
  have hz19 := hb89.size
  have hb09 : Below w.heap.size w w9 := hb08.trans (hb89.mono hb08.size)
  clear ho9 hb9 hb89 h8 t8
  go_wp2_with (go_at_call 53; fail)
  refine (tsame_yes (by simp) t89 t9).mono ?_
  rintro e wa ⟨rfl, hba⟩
  have ha := h9.below hba
  have hza := hba.size
  have hb0a : Below w.heap.size w wa := hb09.trans (hba.mono hb09.size)
  clear h9 t89 t9 hba
  go_wp2_with (go_at_call 16; fail)
  have HBK := Lib.hid ha.back
  have hin := ha.in_
  have hge := hin.lm
  clear ha
  refine (lerase_any w1.heap.size g mb 0 sv7 nx7 2 l7 _ wa hin (by unfold maxLen; omega) ⟨by omega, by omega⟩).mono ?_
  rintro e wb ⟨⟨vb, rfl⟩, hLb, hgb⟩
  have hzb := hgb.size
  have hbab : Below w1.heap.size wa wb := gr_below hgb (by omega) (fun k e => by injection e with e; omega)
  have hb0b : Below w.heap.size w wb := hb0a.trans (hbab.mono hb01.size)
  clear hin hgb hbab
  go_wp2_with (go_at_call 15; fail)
  refine (ltoks_is hLb (by omega) (HBK.out.seen 1 [chr 97, chr 120, chr 98] rfl _ (fun v q1 q2 => by
    unfold erAdd
    have q2 : v ≤ 2 := q2
    by_cases e : v = 2
    · subst e; rfl
    · rw [if_neg e]; simp; omega))).mono ?_
  rintro e wc ⟨Ac, cc, rfl, tc, hbc⟩
  have hLc := hLb.below hbc
  have hzc := hbc.size
  have hb0c : Below w.heap.size w wc := hb0b.trans (hbc.mono hb0b.size)
  clear hLb hbc
  go_wp2_with (go_at_call 52; fail)
  refine (text3_any 97 120 98 wc.heap.size _ (Bk.new wc _ _)).mono ?_
  rintro e wd ⟨vd, rfl, hod, hbd⟩
  obtain ⟨Ad, cd, rfl, hcd, td⟩ := Tks.of_own hod
  have hbcd : Below wc.heap.size wc wd := Below.trans belowA (hbd.mono (by simp))
  have hLd := hLc.below hbcd
  have tcd := tc.below hbcd
  have hzd := hbcd.size
  have hb0d : Below w.heap.size w wd := hb0c.trans (hbcd.mono hb0c.size)
  clear hod hbd hbcd hLc tc
  go_wp2_with (go_at_call 53; fail)
  refine (tsame_yes (by simp) tcd td).mono ?_
  rintro e we ⟨rfl, hbe⟩
  have hLe := hLd.below hbe
  have hze := hbe.size
  have hb0e : Below w.heap.size w we := hb0d.trans (hbe.mono hb0d.size)
  clear hLd tcd td hbe
  go_wp2_with (go_at_call 16; fail)
  refine (lerase_any w1.heap.size g mb 1 sv7 nx7 1 l7 _ we hLe (by unfold maxLen; omega) ⟨by omega, by omega⟩).mono ?_
  rintro e wf ⟨⟨vf, rfl⟩, hLf, hgf⟩
  have hzf := hgf.size
  have hbef : Below w1.heap.size we wf := gr_below hgf (by omega) (fun k e => by injection e with e; omega)
  have hb0f : Below w.heap.size w wf := hb0e.trans (hbef.mono hb01.size)
  clear hLe hgf hbef
  go_wp2_with (go_at_call 15; fail)
  refine (ltoks_is hLf (by omega) (HBK.out.seen 0 [chr 97, chr 98] rfl _ (fun v q1 q2 => by
    unfold erAdd
    have q2 : v ≤ 2 := q2
    by_cases e : v = 1
    · subst e; rfl
    · rw [if_neg e, if_pos (by omega)]; simp; omega))).mono ?_
  rintro e wg ⟨Ag, cg, rfl, tg, hbg⟩
  have hzg := hbg.size
  have hb0g : Below w.heap.size w wg := hb0f.trans (hbg.mono hb0f.size)
  clear hLf hbg
  go_wp2_with (go_at_call 52; fail)
  refine (text2_any 97 98 wg.heap.size _ (Bk.new wg _ _)).mono ?_
  rintro e wh ⟨vh, rfl, hoh, hbh⟩
  obtain ⟨Ah, ch, rfl, hch, th⟩ := Tks.of_own hoh
  have hbgh : Below wg.heap.size wg wh := Below.trans belowA (hbh.mono (by simp))
  have tgh := tg.below hbgh
  have hb0h : Below w.heap.size w wh := hb0g.trans (hbgh.mono hb0g.size)
  clear hoh hbh hbgh tg
  go_wp2_with (go_at_call 53; fail)
  refine (tsame_yes (by simp) tgh th).mono ?_
  rintro e wi ⟨rfl, hbi⟩
  have hb0i : Below w.heap.size w wi := hb0h.trans (hbi.mono hb0h.size)
  clear tgh th hbi
  go_wp2
  go_ret
  exact ⟨rfl, hb0i⟩
section
variable {W W' : World} {base g mb n : Nat} {sv sv' : Value} {nx : Int} {el el' : List EH} {er : Int → Bool} {Y : Nat → Prop}
theorem LdIn.sti (h : LdIn W base g mb n sv nx el er) (hs : Sti Y W W') (hy : ∀ k, LdIn.Mine g mb sv el k → ¬ Y k) : LdIn W' base g mb n sv nx el er :=
  ⟨hs.bk h.k (hy g (.inl rfl)), h.le, h.lm, hs.own h.row (fun k hk => hy k (.inr (.inr (.inl hk)))), h.er.keep (hs.block mb h.er.lt (hy mb (.inr (.inl rfl)))), fun x hx => (h.each x hx).sti hs (fun k hk => hy k (.inr (.inr (.inr ⟨x, hx, hk⟩)))), h.apt⟩
theorem LdB.sti {j : Nat} {docs : List (List Tok)} (h : LdB j base g mb n sv nx el docs W) (hs : Sti Y W W') (hy : ∀ k, LdIn.Mine g mb sv el k → ¬ Y k) : LdB j base g mb n sv nx el docs W' :=
  ⟨h.in_.sti hs hy, h.back, h.lim, h.len, h.nx0, h.nx1⟩
end
/-- a document's tokens, as they lie -/
def DocAt (g mb : Nat) (sv : Value) (el : List EH) (dv : Value) (W : World) (u : Value) (D : List Tok) : Prop :=
  ∃ A n c, u = .slice A n c ∧ Rd W W.heap.size 12 A n (toks D) ∧ n ≤ c ∧ (A = none → n = 0) ∧ (0 < n → ∀ a, A = some a → ¬ LdIn.Mine g mb sv el a.block ∧ dv.ownBlock ≠ some a.block)
section
variable {W W' : World} {g mb : Nat} {sv sv' dv dv' u : Value} {el el' : List EH} {D : List Tok}
theorem DocAt.lt {A : Option Addr} {n : Nat} (h : Rd W W.heap.size 12 A n (toks D)) (hn : 0 < n) : ∀ a, A = some a → a.block < W.heap.size := by
  intro a e
  obtain ⟨b, o, rfl, hb, -⟩ := h.2 hn
  injection e with e
  subst e
  exact hb
theorem DocAt.below (h : DocAt g mb sv el dv W u D) (hb : Below W.heap.size W W') : DocAt g mb sv el dv W' u D := by
  obtain ⟨A, n, c, h1, h2, h3⟩ := h
  exact ⟨A, n, c, h1, (h2.below hb).more hb.size, h3⟩
theorem DocAt.owns (h : DocAt g mb sv el dv W u D) (ho : Owns g mb sv el sv' el' W W') : DocAt g mb sv' el' dv W' u D := by
  obtain ⟨A, n, c, h1, h2, h3, h4, h5⟩ := h
  refine ⟨A, n, c, h1, h2.stiW ho.1 (fun hn a e => (h5 hn a e).1), h3, h4, fun hn a e => ⟨fun hm => ?_, (h5 hn a e).2⟩⟩
  rcases ho.2 _ hm with hm | hm
  · exact (h5 hn a e).1 hm
  · have := DocAt.lt h2 hn a e
    omega
theorem DocAt.row (h : DocAt g mb sv el dv W u D) (hg : W.grownBy W' dv.ownBlock) (hd : ∀ k, dv'.ownBlock = some k → dv.ownBlock = some k ∨ W.heap.size ≤ k) : DocAt g mb sv el dv' W' u D := by
  obtain ⟨A, n, c, h1, h2, h3, h4, h5⟩ := h
  refine ⟨A, n, c, h1, h2.stiW (Sti.of_gr (Y := fun i => dv.ownBlock = some i) hg (fun i e => e)) (fun hn a e => (h5 hn a e).2), h3, h4, fun hn a e => ⟨(h5 hn a e).1, fun hk => ?_⟩⟩
  rcases hd _ hk with hk | hk
  · exact (h5 hn a e).2 hk
  · have := DocAt.lt h2 hn a e
    omega
end
/-- between two rounds -/
structure BkI (w1 : World) (g mb j : Nat) (sv : Value) (nx : Int) (el : List EH) (docs : List (List Tok)) (dv : Value) (vs : List Value) (W : World) : Prop where
  ld : LdB j w1.heap.size g mb 0 sv nx el docs W
  row : W.ownsRow w1.heap.size 22 1 dv (j + 1) vs
  each : ∀ (i : Nat) (D : List Tok) (u : Value), docs[i]? = some D → vs[i]? = some u → DocAt g mb sv el dv W u D
  b : Below w1.heap.size w1 W
  sz : ∀ D ∈ docs, D.length ≤ 200
section
variable {w1 W W' : World} {g mb j : Nat} {sv sv' dv : Value} {nx nx' : Int} {el el' : List EH} {docs : List (List Tok)} {vs : List Value}
theorem BkI.below (h : BkI w1 g mb j sv nx el docs dv vs W) (hb : Below W.heap.size W W') : BkI w1 g mb j sv nx el docs dv vs W' :=
  ⟨h.ld.below hb, own_below h.row hb, fun i D u h1 h2 => (h.each i D u h1 h2).below hb, h.b.trans (hb.mono h.b.size), h.sz⟩
/-- the documents' row is none of the ledger's -/
theorem row_not {base n k : Nat} {er : Int → Bool} (hL : LdIn W base g mb n sv nx el er) {b1 : Nat} (hr : W.ownsRow b1 22 1 dv k vs) : ∀ q, dv.ownBlock = some q → ¬ LdIn.Mine g mb sv el q := fun q hq => by
  obtain ⟨-, -, cs, hb⟩ := own_far hr hq
  exact hL.not_mine hb (by decide) (by decide) (by decide) (by decide)
theorem BkI.len (h : BkI w1 g mb j sv nx el docs dv vs W) : vs.length = j + 1 := by simpa using h.row.1
theorem BkI.docs_len (h : BkI w1 g mb j sv nx el docs dv vs W) : docs.length = j + 1 := h.ld.back.len
/-- a step is done, and the document behind it is kept -/
theorem BkI.step {W4 W5 W6 W7 : World} {D' : List Tok} {A : Option Addr} {n c g5 cap5 : Nat} {e : Ending} (h : BkI w1 g mb j sv nx el docs dv vs W) (hb4 : Below W.heap.size W W4) (hr : Rd W4 W4.heap.size 12 A n (toks D')) (hnc : n ≤ c) (hA : A = none → n = 0) (hnew : ∀ a, A = some a → W.heap.size ≤ a.block) (hn : n ≤ 200)
    (hd : LdStep j w1.heap.size g mb 0 sv el docs D' W4 e W5) (hb5 : Below W5.heap.size W5 W6) (hgr : W6.grownBy W7 dv.ownBlock) (hrow : W7.ownsRow w1.heap.size 22 1 (.slice (some ⟨g5, 0, none⟩) (j + 1 + 1) cap5) (j + 1 + 1) (vs ++ [.slice A n c])) (hat : dv.ownBlock = some g5 ∨ W6.heap.size ≤ g5) :
    ∃ sv' nx' el', BkI w1 g mb (j + 1) sv' nx' el' (docs ++ [D']) (.slice (some ⟨g5, 0, none⟩) (j + 1 + 1) cap5) (vs ++ [.slice A n c]) W7 := by
  obtain ⟨-, sv', nx', el', hL, ho⟩ := hd
  have h4 := h.below hb4
  have hdv := row_not h4.ld.in_ h4.row
  have hrow5 := ho.1.own h4.row hdv
  have hdvl := own_lt h.row
  have hz4 := hb4.size
  have hz45 := ho.1.size
  have hz56 := hb5.size
  have hL6 := hL.below hb5
  have hdv6 : ∀ q, dv.ownBlock = some q → ¬ LdIn.Mine g mb sv' el' q := row_not hL6.in_ (own_below hrow5 hb5)
  have hnewdv : ∀ k, (Value.slice (some ⟨g5, 0, none⟩) (j + 1 + 1) cap5).ownBlock = some k → dv.ownBlock = some k ∨ W6.heap.size ≤ k := fun k hk => by
    have hk : some g5 = some k := hk
    injection hk with hk
    subst hk
    exact hat
  have hmine : ∀ k, LdIn.Mine g mb sv' el' k → LdIn.Mine g mb sv el k ∨ W4.heap.size ≤ k := ho.2
  have hlast : DocAt g mb sv' el' (.slice (some ⟨g5, 0, none⟩) (j + 1 + 1) cap5) W7 (.slice A n c) D' := by
    have q1 : DocAt g mb sv el dv W4 (.slice A n c) D' := ⟨A, n, c, rfl, hr, hnc, hA, fun hn a e => ⟨fun hm => by
      have := h.ld.in_.mine_lt hm
      have := hnew a e
      omega, fun hk => by
      have := hdvl _ hk
      have := hnew a e
      omega⟩⟩
    exact ((q1.owns ho).below hb5).row hgr hnewdv
  have hb17 : Below w1.heap.size w1 W7 := by
    have q1 : Below w1.heap.size W4 W5 := ho.below h4.ld.in_ h4.b.size
    have q2 : Below w1.heap.size w1 W5 := h4.b.trans q1
    have q3 : Below w1.heap.size w1 W6 := q2.trans (hb5.mono q2.size)
    exact below_own q3 (own_below hrow5 hb5) hgr q3.size (Nat.le_refl _)
  refine ⟨sv', nx', el', ⟨hL6.sti (Sti.of_gr (Y := fun i => dv.ownBlock = some i) hgr (fun i e => e)) (fun k hm hk => hdv6 k hk hm), hrow, ?_, hb17, ?_⟩⟩
  · intro i D u h1 h2
    by_cases hi : i < docs.length
    · rw [List.getElem?_append_left hi] at h1
      rw [List.getElem?_append_left (by rw [h.len, ← h.docs_len]; exact hi)] at h2
      exact (((h4.each i D u h1 h2).owns ho).below hb5).row hgr hnewdv
    · have hi1 := (List.getElem?_eq_some_iff.1 h1).1
      simp at hi1
      obtain rfl : i = docs.length := by omega
      rw [List.getElem?_append_right (Nat.le_refl _), Nat.sub_self] at h1
      rw [List.getElem?_append_right (by rw [h.len, ← h.docs_len]; exact Nat.le_refl _), show docs.length - vs.length = 0 by rw [h.len, h.docs_len]; omega] at h2
      injection h1 with h1
      injection h2 with h2
      subst h1
      subst h2
      exact hlast
  · intro D hD
    rcases List.mem_append.1 hD with hD | hD
    · exact h.sz D hD
    · rw [List.mem_singleton.1 hD, hr.tlen]
      exact hn
end
end Go.Proofs.YtmacfoebfpljoaaGreat
namespace Go.Proofs.YtmacfoebfpljoaaGreat
open Go.RowKit
@[go_sem] theorem eq_range (a b c a' b' c' : Int) (w : World) : (Op.equalIn 10000 155 (.agg #[.int .i64 a, .int .i64 b, .int .i64 c]) (.agg #[.int .i64 a', .int .i64 b', .int .i64 c'])).run Tryz.prog w = .ok (a == a' && b == b' && c == c') w := by
  have u3 := Tryz.underlying3
  have a3 := Tryz.isAgg3
  have z3 := Tryz.sizeOf3
  have hS : Tryz.prog.underlying 155 = some (.struct (Tryz.prog.fieldsOf 155)) := by kernel_rfl
  have hp : Tryz.prog.stoodInHeld 155 = false := by kernel_rfl
  rw [show (10000 : Nat) = 9999 + 1 from rfl, run_equalIn_agg w 9999 155 _ _ hS hp]
  simp only [Program.fieldsOf, Tryz.underlying155]
  go_simp
  by_cases h1 : a = a' <;> by_cases h2 : b = b' <;> by_cases h3 : c = c' <;> simp [h1, h2, h3]
attribute [local go_sem] Oper.semAt_some
attribute [local go_sem] Oper.semAt_some
/-- what a step says -/
structure StC where
  (k f t g h i m v : Int)
  sl : List Tok
  st : List Mk
deriving DecidableEq, Inhabited
def StC.sh (x : StC) : Bool := shB x.k x.f x.t x.g x.h x.i x.m x.v x.sl.length x.st.length
def StC.map (x : StC) : List Rg := mapB x.k x.f x.t x.g x.h x.i x.m x.v x.sl.length x.st.length
/-- a map back, a map over, and whether it was kept -/
structure Lk where
  (back over : List Rg)
  kept : Bool
deriving DecidableEq, Inhabited
/-- a pin -/
structure Pn where
  (k a b : Int)
deriving DecidableEq, Inhabited
/-- what a group says -/
structure GrC where
  steps : List StC
  (pin back : Pn)
  lost : Int
deriving DecidableEq, Inhabited
section
variable {m : List Rg}
end
/-- a slice doesn't lie in block bt -/
def Off (bt : Nat) (A : Option Addr) : Prop := ∀ a, A = some a → a.block ≠ bt
theorem Off.of_own {w : World} {base : Nat} {e : TypeId} {size : Nat} {A : Option Addr} {c n m bt : Nat} {xs : List Value} (h : w.ownsRow base e size (.slice A n c) m xs) (hb : bt < base) : Off bt A := by
  rintro a rfl
  have := own_ge h a.block rfl
  omega
theorem Rd.grown {w w' : World} {B size n bt : Nat} {A : Option Addr} {xs : List Value} (h : Rd w B size A n xs) (hg : w.grownBy w' (some bt)) (hA : n = 0 ∨ Off bt A) (hB : B ≤ w.heap.size) : Rd w' B size A n xs := by
  refine ⟨h.1, fun hn => ?_⟩
  obtain ⟨b, o, e, hb, hc⟩ := h.2 hn
  refine ⟨b, o, e, hb, fun j u hu => ?_⟩
  have hne : b ≠ bt := by
    rcases hA with hA | hA
    · omega
    · exact hA _ e
  exact (World.cell?_of_block (a := ⟨b, o + j, none⟩) (hg.block b (by omega) (fun e => hne (by injection e)))).trans (hc j u hu)
/-- a step as it lies -/
structure StH where
  A : Option Addr
  n : Nat
  c : Nat
  A' : Option Addr
  n' : Nat
  c' : Nat
  x : StC
deriving Inhabited
def StH.cells (s : StH) : List Value := [.int .i64 s.x.k, .int .i64 s.x.f, .int .i64 s.x.t, .int .i64 s.x.g, .int .i64 s.x.h, .int .i64 s.x.i, .int .i64 s.x.m, .int .i64 s.x.v, .slice s.A s.n s.c, .slice s.A' s.n' s.c']
/-- what a step's lists are -/
structure StH.In (w : World) (B : Nat) (s : StH) : Prop where
  rd : Rd w B 12 s.A s.n (toks s.x.sl)
  rd' : Rd w B 8 s.A' s.n' (mks s.x.st)
  n : s.n ≤ 1000000
  n' : s.n' ≤ 1000000
  A : s.A = none → s.n = 0
  A' : s.A' = none → s.n' = 0
/-- its lists don't lie in block bt -/
def StH.Off (bt : Nat) (s : StH) : Prop := (s.n = 0 ∨ Go.Proofs.YtmacfoebfpljoaaGreat.Off bt s.A) ∧ (s.n' = 0 ∨ Go.Proofs.YtmacfoebfpljoaaGreat.Off bt s.A')
def sts (L : List StH) : List Value := L.flatMap StH.cells
theorem sts_len (L : List StH) : (sts L).length = L.length * 10 := by
  induction L with
  | nil => rfl
  | cons r l ih => simp only [sts, List.flatMap_cons, List.length_append] at *; rw [ih]; simp [StH.cells]; omega
/-- steps as they lie -/
def StsIn (w : World) (B : Nat) (A : Option Addr) (n : Nat) (L : List StH) : Prop := Rd w B 10 A n (sts L) ∧ ∀ s ∈ L, s.In w B
section
variable {w w' : World} {B B' n bt : Nat} {A : Option Addr} {L : List StH} {s : StH}
theorem StH.In.len (h : s.In w B) : s.x.sl.length = s.n := h.rd.tlen
theorem StH.In.below (h : s.In w B) (hb : Below B w w') : s.In w' B := ⟨h.rd.below hb, h.rd'.below hb, h.n, h.n', h.A, h.A'⟩
theorem StH.In.more (h : s.In w B) (hb : B ≤ B') : s.In w B' := ⟨h.rd.more hb, h.rd'.more hb, h.n, h.n', h.A, h.A'⟩
theorem StH.In.ext (h : s.In w w.heap.size) (hb : Below w.heap.size w w') : s.In w' w'.heap.size := (h.below hb).more hb.size
theorem StH.In.grown (h : s.In w B) (hg : w.grownBy w' (some bt)) (ho : s.Off bt) (hB : B ≤ w.heap.size) : s.In w' B := ⟨h.rd.grown hg ho.1 hB, h.rd'.grown hg ho.2 hB, h.n, h.n', h.A, h.A'⟩
theorem StsIn.len (h : StsIn w B A n L) : L.length = n := by
  have := h.1.1
  rw [sts_len] at this
  omega
theorem StsIn.below (h : StsIn w B A n L) (hb : Below B w w') : StsIn w' B A n L := ⟨h.1.below hb, fun x hx => (h.2 x hx).below hb⟩
theorem StsIn.more (h : StsIn w B A n L) (hb : B ≤ B') : StsIn w B' A n L := ⟨h.1.more hb, fun x hx => (h.2 x hx).more hb⟩
theorem StsIn.ext (h : StsIn w w.heap.size A n L) (hb : Below w.heap.size w w') : StsIn w' w'.heap.size A n L := (h.below hb).more hb.size
theorem StsIn.at_ {k : Nat} (h : StsIn w B A n L) (hx : L[k]? = some s) : s.In w B ∧ ∃ b o, A = some ⟨b, o, none⟩ ∧ b < B ∧ ∀ i, i < 10 → w.cell? ⟨b, o + k * 10 + i, none⟩ = s.cells[i]? :=
  ⟨h.2 s (List.mem_of_getElem? hx), h.1.el StH.cells (fun _ => rfl) h.len hx⟩
theorem StsIn.nil_ (w : World) (B : Nat) (A : Option Addr) : StsIn w B A 0 [] := ⟨Rd.nil_ _ _ _ _, fun _ h => by cases h⟩
end
/-- a group as it lies -/
structure GrH where
  A : Option Addr
  n : Nat
  c : Nat
  L : List StH
  pin : Pn
  back : Pn
  lost : Int
deriving Inhabited
def GrH.cells (g : GrH) : List Value := [.slice g.A g.n g.c, .int .i64 g.pin.k, .int .i64 g.pin.a, .int .i64 g.pin.b, .int .i64 g.back.k, .int .i64 g.back.a, .int .i64 g.back.b, .int .i64 g.lost]
def GrH.val (g : GrH) : GrC := ⟨g.L.map StH.x, g.pin, g.back, g.lost⟩
structure GrH.In (w : World) (B : Nat) (g : GrH) : Prop where
  sts : StsIn w B g.A g.n g.L
  n : g.n ≤ 1000000
  A : g.A = none → g.n = 0
def grs (L : List GrH) : List Value := L.flatMap GrH.cells
theorem grs_len (L : List GrH) : (grs L).length = L.length * 8 := by
  induction L with
  | nil => rfl
  | cons r l ih => simp only [grs, List.flatMap_cons, List.length_append] at *; rw [ih]; simp [GrH.cells]; omega
def GrsIn (w : World) (B : Nat) (A : Option Addr) (n : Nat) (L : List GrH) : Prop := Rd w B 8 A n (grs L) ∧ ∀ g ∈ L, g.In w B
section
variable {w w' : World} {B B' n bt : Nat} {A : Option Addr} {L : List GrH} {g : GrH}
theorem GrH.In.below (h : g.In w B) (hb : Below B w w') : g.In w' B := ⟨h.sts.below hb, h.n, h.A⟩
theorem GrH.In.more (h : g.In w B) (hb : B ≤ B') : g.In w B' := ⟨h.sts.more hb, h.n, h.A⟩
theorem GrH.In.ext (h : g.In w w.heap.size) (hb : Below w.heap.size w w') : g.In w' w'.heap.size := (h.below hb).more hb.size
theorem GrsIn.len (h : GrsIn w B A n L) : L.length = n := by
  have := h.1.1
  rw [grs_len] at this
  omega
theorem GrsIn.below (h : GrsIn w B A n L) (hb : Below B w w') : GrsIn w' B A n L := ⟨h.1.below hb, fun x hx => (h.2 x hx).below hb⟩
theorem GrsIn.more (h : GrsIn w B A n L) (hb : B ≤ B') : GrsIn w B' A n L := ⟨h.1.more hb, fun x hx => (h.2 x hx).more hb⟩
theorem GrsIn.ext (h : GrsIn w w.heap.size A n L) (hb : Below w.heap.size w w') : GrsIn w' w'.heap.size A n L := (h.below hb).more hb.size
theorem GrsIn.at_ {k : Nat} (h : GrsIn w B A n L) (hx : L[k]? = some g) : g.In w B ∧ ∃ b o, A = some ⟨b, o, none⟩ ∧ b < B ∧ ∀ i, i < 8 → w.cell? ⟨b, o + k * 8 + i, none⟩ = g.cells[i]? :=
  ⟨h.2 g (List.mem_of_getElem? hx), h.1.el GrH.cells (fun _ => rfl) h.len hx⟩
end
/-- a map as it lies -/
structure MapAt (w : World) (B : Nat) (A : Option Addr) (n : Nat) (l : List Rg) : Prop where
  rd : Rd w B 3 A n (rgs l)
  n : n ≤ 1000
section
variable {w w' : World} {B B' n bt : Nat} {A : Option Addr} {l : List Rg}
theorem MapAt.below (h : MapAt w B A n l) (hb : Below B w w') : MapAt w' B A n l := ⟨h.rd.below hb, h.n⟩
theorem MapAt.more (h : MapAt w B A n l) (hb : B ≤ B') : MapAt w B' A n l := ⟨h.rd.more hb, h.n⟩
theorem MapAt.grown (h : MapAt w B A n l) (hg : w.grownBy w' (some bt)) (hA : n = 0 ∨ Off bt A) (hB : B ≤ w.heap.size) : MapAt w' B A n l := ⟨h.rd.grown hg hA hB, h.n⟩
end
/-- links as they lie; none of it in block bt -/
def LinkAt (w : World) (B bt : Nat) : Nat → List Rg → List Lk → Prop
  | b, m, [] => b < B ∧ ∃ A n c v, Bk w b 291 #[v, .slice A n c, .bool false, .pointer none] ∧ MapAt w B A n m ∧ (n = 0 ∨ Off bt A)
  | b, m, k :: ks => b < B ∧ ∃ A n c A' n' c' b', Bk w b 291 #[.slice A n c, .slice A' n' c', .bool k.kept, .pointer (some ⟨b', 0, none⟩)] ∧ MapAt w B A n k.back ∧ MapAt w B A' n' k.over ∧ (n = 0 ∨ Off bt A) ∧ (n' = 0 ∨ Off bt A') ∧ LinkAt w B bt b' m ks
section
variable {w w' : World} {B B' bt : Nat} {m : List Rg}
theorem LinkAt.lt {b : Nat} {ks : List Lk} (h : LinkAt w B bt b m ks) : b < B := by
  cases ks <;> exact h.1
theorem LinkAt.below {b : Nat} {ks : List Lk} (h : LinkAt w B bt b m ks) (hb : Below B w w') : LinkAt w' B bt b m ks := by
  induction ks generalizing b with
  | nil =>
    obtain ⟨h1, A, n, c, v, h2, h3, h4⟩ := h
    exact ⟨h1, A, n, c, v, (hb.block b h1).trans h2, h3.below hb, h4⟩
  | cons k ks ih =>
    obtain ⟨h1, A, n, c, A', n', c', b', h2, h3, h4, h5, h6, h7⟩ := h
    exact ⟨h1, A, n, c, A', n', c', b', (hb.block b h1).trans h2, h3.below hb, h4.below hb, h5, h6, ih h7⟩
theorem LinkAt.more {b : Nat} {ks : List Lk} (h : LinkAt w B bt b m ks) (hb : B ≤ B') : LinkAt w B' bt b m ks := by
  induction ks generalizing b with
  | nil =>
    obtain ⟨h1, A, n, c, v, h2, h3, h4⟩ := h
    exact ⟨by omega, A, n, c, v, h2, h3.more hb, h4⟩
  | cons k ks ih =>
    obtain ⟨h1, A, n, c, A', n', c', b', h2, h3, h4, h5, h6, h7⟩ := h
    exact ⟨by omega, A, n, c, A', n', c', b', h2, h3.more hb, h4.more hb, h5, h6, ih h7⟩
theorem LinkAt.ext {b : Nat} {ks : List Lk} (h : LinkAt w w.heap.size bt b m ks) (hb : Below w.heap.size w w') : LinkAt w' w'.heap.size bt b m ks := (h.below hb).more hb.size
theorem LinkAt.grown {b : Nat} {ks : List Lk} (h : LinkAt w B bt b m ks) (hg : w.grownBy w' (some bt)) {t : TypeId} {cs : Array Value} (hk : Bk w bt t cs) (ht : t ≠ 291) (hB : B ≤ w.heap.size) : LinkAt w' B bt b m ks := by
  have hne : ∀ {x : Nat} {cs' : Array Value}, Bk w x 291 cs' → some bt ≠ some x := by
    intro x cs' hx e
    injection e with e
    subst e
    have hx' : w.heap[bt]? = some (.cells cs' 291 (0, 0)) := hx
    have hk' : w.heap[bt]? = some (.cells cs t (0, 0)) := hk
    rw [hk'] at hx'
    injection hx' with hx'
    injection hx' with _ e2
    exact ht e2
  induction ks generalizing b with
  | nil =>
    obtain ⟨h1, A, n, c, v, h2, h3, h4⟩ := h
    exact ⟨h1, A, n, c, v, h2.grown hg (hne h2), h3.grown hg h4 hB, h4⟩
  | cons k ks ih =>
    obtain ⟨h1, A, n, c, A', n', c', b', h2, h3, h4, h5, h6, h7⟩ := h
    exact ⟨h1, A, n, c, A', n', c', b', h2.grown hg (hne h2), h3.grown hg h5 hB, h4.grown hg h6 hB, h5, h6, ih h7⟩
end
/-- what a step's lists are, of any size -/
structure StH.Raw (w : World) (B : Nat) (s : StH) : Prop where
  rd : Rd w B 12 s.A s.n (toks s.x.sl)
  rd' : Rd w B 8 s.A' s.n' (mks s.x.st)
  n : s.n ≤ maxLen
  n' : s.n' ≤ maxLen
  A : s.A = none → s.n = 0
  A' : s.A' = none → s.n' = 0
def StsRaw (w : World) (B : Nat) (A : Option Addr) (n : Nat) (L : List StH) : Prop := Rd w B 10 A n (sts L) ∧ ∀ s ∈ L, s.Raw w B
structure GrH.Raw (w : World) (B : Nat) (g : GrH) : Prop where
  sts : StsRaw w B g.A g.n g.L
  n : g.n ≤ maxLen
  A : g.A = none → g.n = 0
  lost : -9223372036854775808 ≤ g.lost ∧ g.lost ≤ 9223372036854775807
def GrsRaw (w : World) (B : Nat) (A : Option Addr) (n : Nat) (L : List GrH) : Prop := Rd w B 8 A n (grs L) ∧ ∀ g ∈ L, g.Raw w B
section
variable {w w' : World} {B B' n : Nat} {A : Option Addr} {L : List StH} {s : StH}
theorem StH.Raw.below (h : s.Raw w B) (hb : Below B w w') : s.Raw w' B := ⟨h.rd.below hb, h.rd'.below hb, h.n, h.n', h.A, h.A'⟩
theorem StH.Raw.more (h : s.Raw w B) (hb : B ≤ B') : s.Raw w B' := ⟨h.rd.more hb, h.rd'.more hb, h.n, h.n', h.A, h.A'⟩
theorem StH.Raw.in_ (h : s.Raw w B) (h1 : s.n ≤ 1000000) (h2 : s.n' ≤ 1000000) : s.In w B := ⟨h.rd, h.rd', h1, h2, h.A, h.A'⟩
theorem StsRaw.below (h : StsRaw w B A n L) (hb : Below B w w') : StsRaw w' B A n L := ⟨h.1.below hb, fun x hx => (h.2 x hx).below hb⟩
theorem StsRaw.more (h : StsRaw w B A n L) (hb : B ≤ B') : StsRaw w B' A n L := ⟨h.1.more hb, fun x hx => (h.2 x hx).more hb⟩
theorem StsRaw.len (h : StsRaw w B A n L) : L.length = n := by
  have := h.1.1
  rw [sts_len] at this
  omega
theorem StsRaw.at_ {k : Nat} (h : StsRaw w B A n L) (hx : L[k]? = some s) : s.Raw w B ∧ ∃ b o, A = some ⟨b, o, none⟩ ∧ b < B ∧ ∀ i, i < 10 → w.cell? ⟨b, o + k * 10 + i, none⟩ = s.cells[i]? :=
  ⟨h.2 s (List.mem_of_getElem? hx), h.1.el StH.cells (fun _ => rfl) h.len hx⟩
theorem StsRaw.in_ (h : StsRaw w B A n L) (h1 : ∀ s ∈ L, s.n ≤ 1000000 ∧ s.n' ≤ 1000000) : StsIn w B A n L := ⟨h.1, fun s hs => (h.2 s hs).in_ (h1 s hs).1 (h1 s hs).2⟩
end
section
variable {w w' : World} {B B' n : Nat} {A : Option Addr} {L : List GrH} {g : GrH}
theorem GrH.Raw.below (h : g.Raw w B) (hb : Below B w w') : g.Raw w' B := ⟨h.sts.below hb, h.n, h.A, h.lost⟩
theorem GrH.Raw.more (h : g.Raw w B) (hb : B ≤ B') : g.Raw w B' := ⟨h.sts.more hb, h.n, h.A, h.lost⟩
theorem GrsRaw.below (h : GrsRaw w B A n L) (hb : Below B w w') : GrsRaw w' B A n L := ⟨h.1.below hb, fun x hx => (h.2 x hx).below hb⟩
theorem GrsRaw.more (h : GrsRaw w B A n L) (hb : B ≤ B') : GrsRaw w B' A n L := ⟨h.1.more hb, fun x hx => (h.2 x hx).more hb⟩
theorem GrsRaw.len (h : GrsRaw w B A n L) : L.length = n := by
  have := h.1.1
  rw [grs_len] at this
  omega
theorem GrsRaw.at_ {k : Nat} (h : GrsRaw w B A n L) (hx : L[k]? = some g) : g.Raw w B ∧ ∃ b o, A = some ⟨b, o, none⟩ ∧ b < B ∧ ∀ i, i < 8 → w.cell? ⟨b, o + k * 8 + i, none⟩ = g.cells[i]? :=
  ⟨h.2 g (List.mem_of_getElem? hx), h.1.el GrH.cells (fun _ => rfl) h.len hx⟩
/-- small enough to be gone through -/
def Small (L : List GrH) : Prop := ∀ g ∈ L, g.n ≤ 20 ∧ ∀ s ∈ g.L, s.n ≤ 60 ∧ s.n' ≤ 150
theorem GrsRaw.in_ (h : GrsRaw w B A n L) (h1 : Small L) : GrsIn w B A n L := ⟨h.1, fun g hg => ⟨(h.2 g hg).sts.in_ (fun s hs => by have := (h1 g hg).2 s hs; omega), by have := (h1 g hg).1; omega, (h.2 g hg).A⟩⟩
end
set_option maxHeartbeats 400000 in
theorem few25_any (k f t g h i m v : Int) (A A' : Option Addr) (n n' c c' : Nat) (w : World) :
    Calls Tryz.prog 18 #[.agg #[.int .i64 k, .int .i64 f, .int .i64 t, .int .i64 g, .int .i64 h, .int .i64 i, .int .i64 m, .int .i64 v, .slice A n c, .slice A' n' c']] w fun e w' => e = .returned (.bool (decide (n ≤ 60 ∧ n' ≤ 150))) ∧ Below w.heap.size w w' := by
  go_enter Tryz.func18, Tryz.ntmps18
  go_wp2
  all_goals go_ret
  all_goals exact ⟨ret_bool (by rw [Bool.eq_iff_iff]; simp; try omega), belowA⟩
/-- a Boolean comes out; if it is true, so is P -/
def SaysIf (P : Prop) (w : World) (e : Ending) (w' : World) : Prop := ∃ b : Bool, e = .returned (.bool b) ∧ (b = true → P) ∧ Below w.heap.size w w'
def SmallS (L : List StH) : Prop := ∀ s ∈ L, s.n ≤ 60 ∧ s.n' ≤ 150
theorem small_take {L : List StH} {q : Nat} {s : StH} (h : SmallS (L.take q)) (hx : L[q]? = some s) (h1 : s.n ≤ 60 ∧ s.n' ≤ 150) : SmallS (L.take (q + 1)) := by
  intro y hy
  rw [List.take_add_one, hx] at hy
  rcases List.mem_append.1 hy with hy | hy
  · exact h y hy
  · simp at hy; subst hy; exact h1
set_option maxRecDepth 100000 in
set_option maxHeartbeats 4000000 in
theorem few27_any (A : Option Addr) (n c : Nat) (L : List StH) (w : World) (h : StsRaw w w.heap.size A n L) (hn : n ≤ maxLen) :
    Calls Tryz.prog 9 #[.slice A n c] w (SaysIf (n ≤ 20 ∧ SmallS L) w) := by
  have hlen := h.len
  have H := Lib.hid h
  have HLEN := Lib.hid hlen
  clear h hlen
  unfold maxLen at hn
  go_enter Tryz.func9, Tryz.ntmps9
  go_wp2
  go_loopw [3] (fun j wr => ∃ q : Nat, q ≤ n ∧ q ≤ 20 ∧ j = .int .i64 q ∧ Hid (SmallS (L.take q)) ∧ Below w.heap.size w wr) (fun j _ => n - (intOf j).toNat)
  case atStart => exact ⟨0, by omega, by omega, rfl, Lib.hid (fun s hs => by simp at hs), Below.refl _ _⟩
  case round =>
    obtain ⟨q, hq, hq20, rfl, hsm, hbr⟩ := hrel
    by_cases hqn : q < n
    · have e1 : (q : Int) < n := by omega
      by_cases h20 : q < 20
      · have e2 : (q : Int) < 20 := by omega
        obtain ⟨s, hx⟩ : ∃ s, L[q]? = some s := ⟨_, List.getElem?_eq_getElem (by have := HLEN.out; omega)⟩
        obtain ⟨sin, b, o, rfl, hb, hcc⟩ := StsRaw.at_ (H.out.below hbr) hx
        obtain ⟨sA, sn, sc, sA', sn', sc', ⟨xk, xf, xt, xg, xh, xi, xm, xv, xsl, xst⟩⟩ := s
        have c0 := hcc 0 (by omega); have c1 := hcc 1 (by omega); have c2 := hcc 2 (by omega); have c3 := hcc 3 (by omega); have c4 := hcc 4 (by omega); have c5 := hcc 5 (by omega); have c6 := hcc 6 (by omega); have c7 := hcc 7 (by omega); have c8 := hcc 8 (by omega); have c9 := hcc 9 (by omega)
        dsimp [StH.cells] at c0 c1 c2 c3 c4 c5 c6 c7 c8 c9
        have hfw := few25_any xk xf xt xg xh xi xm xv sA sA' sn sn' sc sc' wr
        have HX := Lib.hid hx
        clear hx hcc sin
        cases hfe : decide (sn ≤ 60 ∧ sn' ≤ 150) with
        | false =>
          rw [hfe] at hfw
          have HFW := Lib.hid hfw
          clear hfw hfe
          go_wp2_with (go_at_call 18; (refine HFW.out.mono ?_); rintro e w1 ⟨rfl, hb1⟩)
          go_ret
          exact ⟨false, rfl, fun h => (by cases h), hbr.trans (hb1.mono hbr.size)⟩
        | true =>
          rw [hfe] at hfw
          have HFW := Lib.hid hfw
          have hfe := Lib.hid (of_decide_eq_true hfe)
          clear hfw
          go_wp2_with (go_at_call 18; (refine HFW.out.mono ?_); rintro e w1 ⟨rfl, hb1⟩)
          go_roundw
          case rel => exact ⟨q + 1, by omega, by omega, by go_num, Lib.hid (small_take hsm.out HX.out hfe.out), hbr.trans (hb1.mono hbr.size)⟩
          case measure => simp [intOf]; omega
      · obtain rfl : q = 20 := by omega
        have e3 : ¬ (n : Int) ≤ 20 := by omega
        go_wp2
        go_ret
        exact ⟨false, rfl, fun h => (by cases h), hbr⟩
    · obtain rfl : q = n := by omega
      have e3 : (q : Int) ≤ 20 := by omega
      go_wp2
      go_ret
      refine ⟨true, rfl, fun _ => ⟨by omega, ?_⟩, hbr⟩
      have := hsm.out
      rwa [List.take_of_length_le (by rw [HLEN.out]; omega)] at this
/-- the eight cells of a group -/
abbrev grp (v : Value) (pk pa pb bk ba bb lost : Int) : Array Value := #[v, .int .i64 pk, .int .i64 pa, .int .i64 pb, .int .i64 bk, .int .i64 ba, .int .i64 bb, .int .i64 lost]
theorem GrsRaw.ext {w w' : World} {n : Nat} {A : Option Addr} {L : List GrH} (h : GrsRaw w w.heap.size A n L) (hb : Below w.heap.size w w') : GrsRaw w' w'.heap.size A n L := ⟨(h.1.below hb).more hb.size, fun g hg => ⟨((h.2 g hg).sts.below hb).more hb.size, (h.2 g hg).n, (h.2 g hg).A, (h.2 g hg).lost⟩⟩
end Go.Proofs.YtmacfoebfpljoaaGreat
