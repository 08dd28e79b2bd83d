/- merged texts: Hwb Hwc Hwd Hve Hvf Hse Hta -/
import Derived.Test.YtmacfoebfpljoaaGreatMl7
import Derived.Test.YtmacfoebfpljoaaGreatMl3
import Derived.Test.YtmacfoebfpljoaaGreatMl6
import Derived.Deep.CutBlock
namespace Go.Proofs.YtmacfoebfpljoaaGreat
open Go.RowKit
set_option linter.unusedVariables false
/-- letters, from one place to another -/
def Lets (l : List Tok) (a : Nat) (r : Nat) : Prop := ∀ j, a ≤ j → j ≤ r → ∃ t, l[j]? = some t ∧ t.k = 4
/-- where the node at a place is shut -/
def ShutIs (l : List Tok) (a : Nat) (r : Int) : Prop :=
  (∃ q : Nat, r = q ∧ a ≤ q ∧ q < l.length ∧ Lets l a q) ∨
  (∃ t, l[a]? = some t ∧ t.k ≠ 4 ∧ ((r = -1 ∧ ∀ j, a < j → j ≤ l.length → dep l a < dep l j) ∨ ∃ q : Nat, r = q ∧ a ≤ q ∧ q < l.length ∧ dep l (q + 1) ≤ dep l a ∧ ∀ j, a < j → j ≤ q → dep l a < dep l j))
def ShutOut (l : List Tok) (a : Nat) (w : World) (e : Ending) (w' : World) : Prop := ∃ r : Int, e = .returned (.int .i64 r) ∧ -1 ≤ r ∧ r < l.length ∧ ShutIs l a r ∧ Below w.heap.size w w'
theorem mkB_cases (a b : Mk) : mkB a b = true ∨ mkB a b = false := by cases mkB a b <;> simp
set_option maxRecDepth 100000 in
set_option maxHeartbeats 8000000 in
theorem shut14_any (A : Option Addr) (n c a : Nat) (l : List Tok) (w : World) (h : Rd w w.heap.size 12 A n (toks l)) (hn : n ≤ 100000) (ha : a < n) : Calls Tryz.prog 164 #[.slice A n c, .int .i64 a] w (ShutOut l a w) := by
  have hl := h.tlen
  obtain ⟨b, o, t, ht, rfl, hb, hc⟩ := tok_at h ha
  have c0 : w.cell? ⟨b, o + a * 12, none⟩ = some (.int .i64 t.k) := hc 0 (by omega)
  have H := Lib.hid h
  have a0 : (0 : Int) ≤ a := by omega
  have a1 : (a : Int) < n := by omega
  have HT := Lib.hid ht
  have HL := Lib.hid hl
  clear h hc ht hl
  by_cases h4 : t.k = 4
  · have e4 : (t.k == 4) = true := by simp [h4]
    have hst : Lets l a a := fun j h1 h2 => by
      obtain rfl : j = a := by omega
      exact ⟨t, HT.out, h4⟩
    have HST := Lib.hid hst
    generalize t.k = tk at *
    clear h4 hst
    go_enter Tryz.func164, Tryz.ntmps164
    go_wp2
    clear c0 a0 a1
    go_loopw [1] (fun j wr => ∃ q : Nat, a ≤ q ∧ q < n ∧ j = .int .i64 q ∧ Hid (Lets l a q) ∧ Below w.heap.size w wr) (fun j _ => n - (intOf j).toNat)
    case atStart => exact ⟨a, by omega, ha, rfl, HST, Below.refl _ _⟩
    case round =>
      obtain ⟨q, hq1, hq2, rfl, hle, hbr⟩ := hrel
      have q0 : (0 : Int) ≤ q := by omega
      have q1 : (q : Int) < n := by omega
      have hEnd : ∀ W, Below w.heap.size w W → ShutOut l a w (.returned (.int .i64 (q : Int))) W := fun W hW => ⟨q, rfl, by omega, by rw [HL.out]; omega, .inl ⟨q, rfl, hq1, by rw [HL.out]; omega, hle.out⟩, hW⟩
      have HE := Lib.hid hEnd
      clear hEnd
      by_cases hlt : q + 1 < n
      · have e3 : (q : Int) + 1 < n := by omega
        have e3' : ((q + 1 : Nat) : Int) < n := by omega
        obtain ⟨b1, o1, y, hy, hA, -, hcy⟩ := tok_at ((H.out.below hbr).more hbr.size) hlt
        obtain ⟨b2, o2, z, hz, hA', hb2, hcz⟩ := tok_at ((H.out.below hbr).more hbr.size) hq2
        obtain ⟨rfl, rfl⟩ : b = b1 ∧ o = o1 := by simpa using hA
        obtain ⟨rfl, rfl⟩ : b = b2 ∧ o = o2 := by simpa using hA'
        obtain ⟨yk, yt, ya, yr, y0, y1, y2, y3, y4, y5, y6, y7⟩ := y
        obtain ⟨zk, zt, za, zr, z0, z1, z2, z3, z4, z5, z6, z7⟩ := z
        have p0 : wr.cell? ⟨b, o + (q + 1) * 12, none⟩ = some (.int .i64 yk) := hcy 0 (by omega)
        have p4 : wr.cell? ⟨b, o + (q + 1) * 12 + 4, none⟩ = some (.int .u16 y0) := hcy 4 (by omega)
        have p5 : wr.cell? ⟨b, o + (q + 1) * 12 + 5, none⟩ = some (.int .u16 y1) := hcy 5 (by omega)
        have p6 : wr.cell? ⟨b, o + (q + 1) * 12 + 6, none⟩ = some (.int .u16 y2) := hcy 6 (by omega)
        have p7 : wr.cell? ⟨b, o + (q + 1) * 12 + 7, none⟩ = some (.int .u16 y3) := hcy 7 (by omega)
        have p8 : wr.cell? ⟨b, o + (q + 1) * 12 + 8, none⟩ = some (.int .u16 y4) := hcy 8 (by omega)
        have p9 : wr.cell? ⟨b, o + (q + 1) * 12 + 9, none⟩ = some (.int .u16 y5) := hcy 9 (by omega)
        have p10 : wr.cell? ⟨b, o + (q + 1) * 12 + 10, none⟩ = some (.int .u16 y6) := hcy 10 (by omega)
        have p11 : wr.cell? ⟨b, o + (q + 1) * 12 + 11, none⟩ = some (.int .u16 y7) := hcy 11 (by omega)
        have r4 : wr.cell? ⟨b, o + q * 12 + 4, none⟩ = some (.int .u16 z0) := hcz 4 (by omega)
        have r5 : wr.cell? ⟨b, o + q * 12 + 5, none⟩ = some (.int .u16 z1) := hcz 5 (by omega)
        have r6 : wr.cell? ⟨b, o + q * 12 + 6, none⟩ = some (.int .u16 z2) := hcz 6 (by omega)
        have r7 : wr.cell? ⟨b, o + q * 12 + 7, none⟩ = some (.int .u16 z3) := hcz 7 (by omega)
        have r8 : wr.cell? ⟨b, o + q * 12 + 8, none⟩ = some (.int .u16 z4) := hcz 8 (by omega)
        have r9 : wr.cell? ⟨b, o + q * 12 + 9, none⟩ = some (.int .u16 z5) := hcz 9 (by omega)
        have r10 : wr.cell? ⟨b, o + q * 12 + 10, none⟩ = some (.int .u16 z6) := hcz 10 (by omega)
        have r11 : wr.cell? ⟨b, o + q * 12 + 11, none⟩ = some (.int .u16 z7) := hcz 11 (by omega)
        have HY := Lib.hid hy
        clear hA hA' hcy hcz hy hz
        by_cases h4 : yk = 4
        · have e5 : (yk == 4) = true := by simp [h4]
          have hnx : Lets l a (q + 1) := fun j h1 h2 => by
            by_cases hj : j = q + 1
            · subst hj; exact ⟨_, HY.out, h4⟩
            · exact hle.out j h1 (by omega)
          have HNX := Lib.hid hnx
          clear hnx h4
          rcases mkB_cases (Mk.mk y0 y1 y2 y3 y4 y5 y6 y7) (Mk.mk z0 z1 z2 z3 z4 z5 z6 z7) with hm | hm
          · go_upto_region 2 with fail
            go_quiet (fail)
            rename_i nq
            have hbq := below_drewN hbr nq
            go_wp2
            go_roundw
            case rel => exact ⟨q + 1, by omega, by omega, by go_num, HNX, hbq⟩
            case measure => simp [intOf]; omega
          · go_upto_region 2 with fail
            go_quiet (fail)
            rename_i nq
            have hbq := below_drewN hbr nq
            go_wp2
            go_ret
            exact HE.out _ hbq
        · have e5 : (yk == 4) = false := beq_false_of_ne h4
          clear h4
          go_upto_region 2 with fail
          go_quiet (fail)
          rename_i nq
          have hbq := below_drewN hbr nq
          go_wp2
          go_ret
          exact HE.out _ hbq
      · have e3 : ¬ ((q : Int) + 1 < n) := by omega
        have hd3 : decide ((q : Int) + 1 < n) = false := decide_eq_false e3
        go_upto_region 2 with fail
        go_quiet (fail)
        rename_i nq
        have hbq := below_drewN hbr nq
        go_wp2
        go_ret
        exact HE.out _ hbq
  · have e4 : (t.k == 4) = false := beq_false_of_ne h4
    have H4 := Lib.hid h4
    clear h4
    go_enter Tryz.func164, Tryz.ntmps164
    go_wp2
    clear c0 a0 a1 e4
    go_loop [5, 6] (fun d j => ∃ (k : Nat) (z : Int), a ≤ k ∧ k ≤ n ∧ j = .int .i64 k ∧ d = .int .i64 z ∧ 0 ≤ z ∧ z + a ≤ k ∧ Hid (z = dep l k - dep l a ∧ ∀ i, a < i → i ≤ k → dep l a < dep l i)) (fun _ j => n - (intOf j).toNat)
    case atStart => exact ⟨a, 0, by omega, by omega, rfl, rfl, by omega, by omega, Lib.hid ⟨by omega, fun i h1 h2 => by omega⟩⟩
    case round =>
      obtain ⟨k, z, hk0, hk, rfl, rfl, hz0, hz1, hz⟩ := hrel
      by_cases hlt : k < n
      · have e3 : (k : Int) < n := by omega
        have k0 : (0 : Int) ≤ k := by omega
        obtain ⟨b1, o1, y, hy, hA, -, hc⟩ := tok_at H.out hlt
        obtain ⟨rfl, rfl⟩ : b = b1 ∧ o = o1 := by simpa using hA
        have c0 : w.cell? ⟨b, o + k * 12, none⟩ = some (.int .i64 y.k) := hc 0 (by omega)
        have hd := dep_succ hy
        generalize y.k = tk at *
        have HD := Lib.hid hd
        clear hc hd hy hA
        have hstep : ∀ z' : Int, z' = z + dk tk → 0 < z' → Hid (z' = dep l (k + 1) - dep l a ∧ ∀ i, a < i → i ≤ k + 1 → dep l a < dep l i) := fun z' h1 h2 => Lib.hid (by
          have h5 := hz.out.1
          have h3 : z' = dep l (k + 1) - dep l a := by rw [HD.out, h1]; omega
          refine ⟨h3, fun i hi hi2 => ?_⟩
          by_cases hi' : i = k + 1
          · subst hi'; omega
          · exact hz.out.2 i hi (by omega))
        have hend : ∀ z' : Int, z' = z + dk tk → z' ≤ 0 → ShutOut l a w (.returned (.int .i64 (k : Int))) w := fun z' h1 h2 => by
          have h5 := hz.out.1
          exact ⟨k, rfl, by omega, by rw [HL.out]; omega, .inr ⟨t, HT.out, H4.out, .inr ⟨k, rfl, hk0, by rw [HL.out]; omega, by rw [HD.out]; omega, hz.out.2⟩⟩, Below.refl _ _⟩
        have HS := Lib.hid hstep
        have HE := Lib.hid hend
        clear hstep hend
        by_cases h1 : tk = 1
        · have e1 : (tk == 1) = true := by simp [h1]
          have e2 : (tk == 2) = false := by simp [h1]
          have HK := Lib.hid (show dk tk = 1 by simp [dk, h1])
          clear h1
          have h40 : 0 < z + 1 := by omega
          go_wp2
          go_round
          case rel => exact ⟨k + 1, z + 1, by omega, by omega, by go_num, rfl, by omega, by omega, HS.out _ (by rw [HK.out]) (by omega)⟩
          case measure => simp [intOf]; omega
        · have e1 : (tk == 1) = false := beq_false_of_ne h1
          by_cases h2 : tk = 2
          · have e2 : (tk == 2) = true := by simp [h2]
            have HK := Lib.hid (show dk tk = -1 by simp [dk, h2])
            clear h1 h2
            by_cases h40 : z - 1 ≤ 0
            · go_wp2
              go_ret
              exact HE.out (z - 1) (by rw [HK.out]; omega) h40
            · have h41 : 0 < z - 1 := by omega
              go_wp2
              go_round
              case rel => exact ⟨k + 1, z - 1, by omega, by omega, by go_num, rfl, by omega, by omega, HS.out _ (by rw [HK.out]; omega) (by omega)⟩
              case measure => simp [intOf]; omega
          · have e2 : (tk == 2) = false := beq_false_of_ne h2
            have HK := Lib.hid (show dk tk = 0 by simp [dk, h1, h2])
            clear h1 h2
            by_cases h40 : z ≤ 0
            · go_wp2
              go_ret
              exact HE.out z (by rw [HK.out]; omega) h40
            · have h41 : 0 < z := by omega
              go_wp2
              go_round
              case rel => exact ⟨k + 1, z, by omega, by omega, by go_num, rfl, by omega, by omega, HS.out _ (by rw [HK.out]; omega) (by omega)⟩
              case measure => simp [intOf]; omega
      · obtain rfl : k = n := by omega
        have hend : ShutOut l a w (.returned (.int .i64 (-1))) w := ⟨-1, rfl, by omega, by omega, .inr ⟨t, HT.out, H4.out, .inl ⟨rfl, by rw [HL.out]; exact hz.out.2⟩⟩, Below.refl _ _⟩
        have HE := Lib.hid hend
        clear hend
        go_wp2
        go_ret
        exact HE.out
theorem toks_drop (l : List Tok) : ∀ k, (toks l).drop (k * 12) = toks (l.drop k) := by
  induction l with
  | nil => intro k; simp [toks]
  | cons t l ih =>
    intro k
    cases k with
    | zero => simp
    | succ k =>
      have h1 : toks (t :: l) = t.cells ++ toks l := by simp [toks]
      rw [h1, List.drop_succ_cons, ← ih k, Nat.add_mul, Nat.one_mul, Nat.add_comm, ← List.drop_drop]
      congr 1
theorem toks_take (l : List Tok) : ∀ k, (toks l).take (k * 12) = toks (l.take k) := by
  induction l with
  | nil => intro k; simp [toks]
  | cons t l ih =>
    intro k
    cases k with
    | zero => simp [toks]
    | succ k =>
      have h1 : toks (t :: l) = t.cells ++ toks l := by simp [toks]
      have h2 : toks (t :: l.take k) = t.cells ++ toks (l.take k) := by simp [toks]
      rw [h1, List.take_succ_cons, h2, ← ih k, Nat.add_mul, Nat.one_mul, Nat.add_comm, List.take_append, List.take_of_length_le (by rw [show t.cells.length = 12 from rfl]; omega)]
      congr 2
      rw [show t.cells.length = 12 from rfl]; omega
theorem Rd.tcut {w : World} {B n b o k m : Nat} {l : List Tok} (h : Rd w B 12 (some ⟨b, o, none⟩) n (toks l)) (hkm : k ≤ m) (hm : m ≤ n) : Rd w B 12 (some ⟨b, o + k * 12, none⟩) (m - k) (toks ((l.drop k).take (m - k))) := by
  have := h.cut hkm hm
  rwa [toks_drop, toks_take] at this
theorem dep_cut (l : List Tok) (k d j : Nat) (hj : j ≤ d) : dep ((l.drop k).take d) j = dep l (k + j) - dep l k := by
  have h1 : ((l.drop k).take d).take j = (l.drop k).take j := by rw [List.take_take, Nat.min_eq_left hj]
  have h2 : l.take (k + j) = l.take k ++ (l.drop k).take j := List.take_add
  unfold dep
  rw [h1, h2, List.map_append, List.sum_append]
  omega
theorem lets_dep {l : List Tok} {a q : Nat} (h : Lets l a q) : ∀ j, a ≤ j → j ≤ q + 1 → dep l j = dep l a := by
  intro j h1 h2
  induction j with
  | zero => obtain rfl : a = 0 := by omega
            rfl
  | succ j ih =>
    by_cases hj : a = j + 1
    · rw [hj]
    · obtain ⟨t, ht, h4⟩ := h j (by omega) (by omega)
      rw [dep_succ ht, ih (by omega) (by omega), h4]
      simp [dk]
/-- in a whole row, where nothing is open, a node ends where nothing is open -/
theorem Wh.next {l : List Tok} {a : Nat} {r : Int} (h : Wh l) (ha : a < l.length) (h0 : dep l a = 0) (hs : ShutIs l a r) : ∃ q : Nat, r = q ∧ a ≤ q ∧ q < l.length ∧ dep l (q + 1) = 0 := by
  rcases hs with ⟨q, h1, h2, h3, h4⟩ | ⟨t, h1, h2, ⟨h3, h4⟩ | ⟨q, h3, h4, h5, h6, h7⟩⟩
  · exact ⟨q, h1, h2, h3, by rw [lets_dep h4 (q + 1) (by omega) (by omega), h0]⟩
  · have := h4 l.length ha (Nat.le_refl _)
    have := h.z
    omega
  · have := h.nn (q + 1) (by omega)
    exact ⟨q, h3, h4, h5, by omega⟩
/-- in a whole row, what is within a node is whole -/
theorem Wh.within {l : List Tok} {a : Nat} {r : Int} {t : Tok} (h : Wh l) (ht : l[a]? = some t) (hk : t.k = 1) (hs : ShutIs l a r) : ∃ q : Nat, r = q ∧ a + 1 ≤ q ∧ q < l.length ∧ Wh ((l.drop (a + 1)).take (q - (a + 1))) := by
  have ha := (List.getElem?_eq_some_iff.1 ht).1
  have hd1 : dep l (a + 1) = dep l a + 1 := by rw [dep_succ ht, hk]; rfl
  rcases hs with ⟨q, h1, h2, h3, h4⟩ | ⟨t', h1, h2, ⟨h3, h4⟩ | ⟨q, h3, h4, h5, h6, h7⟩⟩
  · obtain ⟨t', e, h5⟩ := h4 a (Nat.le_refl _) h2
    rw [ht] at e
    injection e with e
    subst e
    omega
  · have h5 := h4 l.length ha (Nat.le_refl _)
    have h6 := h.z
    have h7 := h.nn a (by omega)
    omega
  · have hq : a + 1 ≤ q := by
      rcases Nat.lt_or_ge a q with h | h
      · omega
      · obtain rfl : q = a := by omega
        omega
    have hl : ((l.drop (a + 1)).take (q - (a + 1))).length = q - (a + 1) := by simp; omega
    have hge : ∀ j, a + 1 ≤ j → j ≤ q → dep l (a + 1) ≤ dep l j := fun j h1 h2 => by have := h7 j (by omega) h2; omega
    obtain ⟨tq, htq⟩ : ∃ tq, l[q]? = some tq := ⟨_, List.getElem?_eq_getElem h5⟩
    have hd2 := dep_succ htq
    have hbd := dk_bd tq.k
    have h9 := hge q hq (Nat.le_refl _)
    refine ⟨q, h3, hq, h5, fun i hi => ?_, ?_⟩
    · rw [hl] at hi
      rw [dep_cut _ _ _ _ hi]
      have := hge (a + 1 + i) (by omega) (by omega)
      omega
    · rw [hl, dep_cut _ _ _ _ (Nat.le_refl _), show a + 1 + (q - (a + 1)) = q by omega]
      omega
/-- where nodes begin, and end -/
def prs (l : List (Nat × Nat)) : List Value := l.flatMap fun p => [.int .i64 (p.1 : Int), .int .i64 (p.2 : Int)]
theorem prs_len (l : List (Nat × Nat)) : (prs l).length = l.length * 2 := by
  induction l with
  | nil => rfl
  | cons r l ih => simp only [prs, List.flatMap_cons, List.length_append] at *; rw [ih]; simp; omega
theorem prs_snoc (l : List (Nat × Nat)) (p : Nat × Nat) : prs (l ++ [p]) = prs l ++ [.int .i64 (p.1 : Int), .int .i64 (p.2 : Int)] := by simp [prs]
theorem info_p2 : (Tryz.prog.info? 65).map (fun i => (i.zero, i.size, i.bytes)) = some (some (.agg #[.int .i64 0, .int .i64 0]), 2, 16) := by kernel_rfl
def KidsOut14 (l : List Tok) (w : World) (e : Ending) (w' : World) : Prop := ∃ (A : Option Addr) (c : Nat) (ps : List (Nat × Nat)), e = .returned (.slice A ps.length c) ∧ w'.ownsRow w.heap.size 65 2 (.slice A ps.length c) ps.length (prs ps) ∧ (∀ p ∈ ps, p.1 < l.length) ∧ ps.length ≤ l.length ∧ Below w.heap.size w w'
set_option maxRecDepth 100000 in
set_option maxHeartbeats 8000000 in
theorem kids14_any (A : Option Addr) (n c : Nat) (l : List Tok) (w : World) (h : Rd w w.heap.size 12 A n (toks l)) (hn : n ≤ 100000) (hw : Wh l) : Calls Tryz.prog 203 #[.slice A n c] w (KidsOut14 l w) := by
  have hl := Lib.hid h.tlen
  have hsh := fun (a : Nat) (ha : a < n) W (hb : Below w.heap.size w W) => shut14_any A n c a l W ((h.below hb).more hb.size) hn ha
  have HSH := Lib.hid hsh
  have HW := Lib.hid hw
  clear h hw hsh
  go_enter Tryz.func203, Tryz.ntmps203
  go_wp2
  go_loopw [3, 4] (fun v j wr => ∃ (k : Nat) (ps : List (Nat × Nat)), k ≤ n ∧ j = .int .i64 k ∧ Hid (dep l k = 0) ∧ Hid (wr.ownsRow w.heap.size 65 2 v ps.length (prs ps)) ∧ Hid (∀ p ∈ ps, p.1 < l.length) ∧ ps.length ≤ k ∧ Below w.heap.size w wr) (fun _ j _ => n - (intOf j).toNat)
  case atStart => exact ⟨0, [], by omega, rfl, Lib.hid (dep_zero l), Lib.hid (World.ownsRow_nil _ _ _ _), Lib.hid (fun p h => by cases h), by simp, Below.refl _ _⟩
  case round =>
    obtain ⟨k, ps, hk, rfl, hz, hown, hps, hpl, hbr⟩ := hrel
    have hzr := hbr.size
    obtain ⟨A1, c1, rfl, -, -, -, -⟩ := own_form hown.out
    by_cases hlt : k < n
    · have e3 : (k : Int) < n := by omega
      go_wp2_with (go_at_call 164; fail)
      refine (HSH.out k hlt _ hbr).mono ?_
      rintro e w1 ⟨r, rfl, hr1, hr2, hs, hb1⟩
      obtain ⟨q, rfl, hq1, hq2, hq3⟩ := HW.out.next (by rw [hl.out]; exact hlt) hz.out hs
      have hqn : q < n := by rw [hl.out] at hq2; exact hq2
      have HQ := Lib.hid hq3
      have hb01 := hbr.trans (hb1.mono hzr)
      have hz1 := hb01.size
      have hown1 := own_below hown.out hb1
      clear hr1 hr2 hs hq2 hq3
      go_wp2_with (at_builtin; ((refine app_one Tryz.underlying63 info_p2 rfl (by decide) w1 w.heap.size _ ps.length _ hown1 (by unfold maxLen; omega) (by omega) hz1 _ rfl (by simp [Value.oneCell']) rfl _ _ rfl rfl rfl ?_); intro g4 cap4 w4 hown4 hgr4 hat4 hlt4))
      have hb4 := below_own hb01 hown1 hgr4 hz1 (Nat.le_refl _)
      have hps2 : ∀ p ∈ ps ++ [((k : Nat), q + 1)], p.1 < l.length := fun p hp => by
        rcases List.mem_append.1 hp with hp | hp
        · exact hps.out p hp
        · simp at hp; subst hp; rw [hl.out]; exact hlt
      go_roundw
      case rel => exact ⟨q + 1, ps ++ [(k, q + 1)], by omega, by go_num, HQ, Lib.hid (by rw [List.length_append, prs_snoc]; exact hown4), Lib.hid hps2, by simp; omega, hb4⟩
      case measure => simp [intOf]; omega
    · obtain rfl : k = n := by omega
      go_wp2
      exact bodyPost_ret (v := .slice A1 ps.length c1) (by simp [results, Tryz.results203, go_sem]) rfl ⟨A1, c1, ps, rfl, hown.out, hps.out, by rw [hl.out]; exact hpl, hbr⟩
abbrev tokA (k t a r m0 m1 m2 m3 m4 m5 m6 m7 : Int) : Array Value := #[.int .i64 k, .int .i64 t, .int .i64 a, .int .i32 r, .int .u16 m0, .int .u16 m1, .int .u16 m2, .int .u16 m3, .int .u16 m4, .int .u16 m5, .int .u16 m6, .int .u16 m7]
theorem tok12 {w : World} {b o : Nat} {k t a r m0 m1 m2 m3 m4 m5 m6 m7 : Int} (hc : ∀ i, i < 12 → w.cell? ⟨b, o + i, none⟩ = (Tok.mk k t a r ⟨m0, m1, m2, m3, m4, m5, m6, m7⟩).cells[i]?) : w.cell? ⟨b, o, none⟩ = some (.int .i64 k) ∧ w.cell? ⟨b, o + 1, none⟩ = some (.int .i64 t) ∧ w.cell? ⟨b, o + 2, none⟩ = some (.int .i64 a) ∧ w.cell? ⟨b, o + 3, none⟩ = some (.int .i32 r) ∧ w.cell? ⟨b, o + 4, none⟩ = some (.int .u16 m0) ∧ w.cell? ⟨b, o + 5, none⟩ = some (.int .u16 m1) ∧ w.cell? ⟨b, o + 6, none⟩ = some (.int .u16 m2) ∧ w.cell? ⟨b, o + 7, none⟩ = some (.int .u16 m3) ∧ w.cell? ⟨b, o + 8, none⟩ = some (.int .u16 m4) ∧ w.cell? ⟨b, o + 9, none⟩ = some (.int .u16 m5) ∧ w.cell? ⟨b, o + 10, none⟩ = some (.int .u16 m6) ∧ w.cell? ⟨b, o + 11, none⟩ = some (.int .u16 m7) :=
  ⟨hc 0 (by omega), hc 1 (by omega), hc 2 (by omega), hc 3 (by omega), hc 4 (by omega), hc 5 (by omega), hc 6 (by omega), hc 7 (by omega), hc 8 (by omega), hc 9 (by omega), hc 10 (by omega), hc 11 (by omega)⟩
theorem bk12 {w : World} {b : Nat} {t : TypeId} {x0 x1 x2 x3 x4 x5 x6 x7 x8 x9 x10 x11 : Value} (k : Bk w b t #[x0, x1, x2, x3, x4, x5, x6, x7, x8, x9, x10, x11]) : w.cell? ⟨b, 0, none⟩ = some x0 ∧ w.cell? ⟨b, 1, none⟩ = some x1 ∧ w.cell? ⟨b, 2, none⟩ = some x2 ∧ w.cell? ⟨b, 3, none⟩ = some x3 ∧ w.cell? ⟨b, 4, none⟩ = some x4 ∧ w.cell? ⟨b, 5, none⟩ = some x5 ∧ w.cell? ⟨b, 6, none⟩ = some x6 ∧ w.cell? ⟨b, 7, none⟩ = some x7 ∧ w.cell? ⟨b, 8, none⟩ = some x8 ∧ w.cell? ⟨b, 9, none⟩ = some x9 ∧ w.cell? ⟨b, 10, none⟩ = some x10 ∧ w.cell? ⟨b, 11, none⟩ = some x11 :=
  ⟨k.cell 0, k.cell 1, k.cell 2, k.cell 3, k.cell 4, k.cell 5, k.cell 6, k.cell 7, k.cell 8, k.cell 9, k.cell 10, k.cell 11⟩
theorem pr_at {w : World} {A : Option Addr} {n k : Nat} {l : List (Nat × Nat)} (h : Rd w w.heap.size 2 A n (prs l)) (hk : k < n) : ∃ (b o : Nat) (p : Nat × Nat), l[k]? = some p ∧ A = some ⟨b, o, none⟩ ∧ b < w.heap.size ∧ w.cell? ⟨b, o + k * 2, none⟩ = some (.int .i64 (p.1 : Int)) ∧ w.cell? ⟨b, o + k * 2 + 1, none⟩ = some (.int .i64 (p.2 : Int)) := by
  have hl : l.length = n := by have := h.1; rw [prs_len] at this; omega
  have hx : l[k]? = some l[k] := List.getElem?_eq_getElem (by omega)
  obtain ⟨b, o, e, hb, hc⟩ := Rd.el (fun p : Nat × Nat => [.int .i64 (p.1 : Int), .int .i64 (p.2 : Int)]) (fun _ => rfl) h hl hx
  exact ⟨b, o, _, hx, e, hb, hc 0 (by omega), hc 1 (by omega)⟩
def KidsOut17 (l : List Tok) (w : World) (e : Ending) (w' : World) : Prop := ∃ (A : Option Addr) (c : Nat) (kl : List Int), e = .returned (.slice A kl.length c) ∧ w'.ownsRow w.heap.size 3 1 (.slice A kl.length c) kl.length (is kl) ∧ kl.length ≤ l.length ∧ Below w.heap.size w w'
theorem is_snoc (l : List Int) (x : Int) : is (l ++ [x]) = is l ++ [.int .i64 x] := by simp [is]
set_option maxRecDepth 100000 in
set_option maxHeartbeats 8000000 in
theorem kids17_any (A : Option Addr) (n c : Nat) (l : List Tok) (w : World) (h : Rd w w.heap.size 12 A n (toks l)) (hn : n ≤ 100000) (hw : Wh l) : Calls Tryz.prog 202 #[.slice A n c] w (KidsOut17 l w) := by
  have hl := h.tlen
  have H := Lib.hid h
  have hkd := Lib.hid (kids14_any A n c l w h hn hw)
  clear h hw
  go_enter Tryz.func202, Tryz.ntmps202
  go_wp2_with (go_at_call 203; fail)
  refine hkd.out.mono ?_
  rintro e w1 ⟨KA, kc, ps, rfl, hko, hps, hpl, hb1⟩
  obtain ⟨KA', kc', le, -, -, -, hkr⟩ := own_form hko
  injection le with le1 le2 le3
  rw [← le1] at hkr
  obtain ⟨kn, hkn⟩ : ∃ kn, kn = ps.length := ⟨_, rfl⟩
  rw [← hkn] at hkr hpl ⊢
  have HKR := Lib.hid hkr
  have HPS := Lib.hid hps
  rw [hl] at hpl
  have HL := Lib.hid hl
  clear hko le1 le3 hkr hps hkn hkd hl
  go_wp2
  go_loopw [3, 5] (fun v j wr => ∃ (k : Nat) (kl : List Int), k ≤ kn ∧ j = .int .i64 k ∧ Hid (wr.ownsRow w1.heap.size 3 1 v kl.length (is kl)) ∧ kl.length ≤ k ∧ Below w1.heap.size w1 wr) (fun _ j _ => kn - (intOf j).toNat)
  case atStart => exact ⟨0, [], by omega, rfl, Lib.hid (World.ownsRow_nil _ _ _ _), by simp, Below.refl _ _⟩
  case round =>
    obtain ⟨k, kl, hk, rfl, hown, hkll, hbr⟩ := hrel
    have hzr := hbr.size
    have hz1 := hb1.size
    obtain ⟨A1, c1, rfl, -, -, -, -⟩ := own_form hown.out
    have hbw : Below w.heap.size w wr := hb1.trans (hbr.mono hz1)
    by_cases hlt : k < kn
    · have e3 : (k : Int) < kn := by omega
      obtain ⟨kb, ko, p, hp, rfl, hkb, hpc, -⟩ := pr_at ((HKR.out.below hbr).more hbr.size) hlt
      have hpn : p.1 < n := by have := HPS.out p (List.mem_of_getElem? hp); rw [HL.out] at this; exact this
      obtain ⟨pq, pe⟩ := p
      dsimp only at hpc hpn
      obtain ⟨tb, tq, tk, htk, rfl, htb, htc⟩ := tok_at ((H.out.below hbw).more hbw.size) hpn
      obtain ⟨k0, t0, a0, r0, m0, m1, m2, m3, m4, m5, m6, m7⟩ := tk
      obtain ⟨q0, q1, q2, q3, q4, q5, q6, q7, q8, q9, q10, q11⟩ := tok12 htc
      have e4 : (pq : Int) < n := by omega
      have e5 : (0 : Int) ≤ pq := by omega
      clear hp htk htc
      go_upto_region 7 with fail
      have kt := Bk.new wr 126 (tokA k0 t0 a0 r0 m0 m1 m2 m3 m4 m5 m6 m7)
      have hba : Below wr.heap.size wr (wr.alloc (.cells (tokA k0 t0 a0 r0 m0 m1 m2 m3 m4 m5 m6 m7) 126)) := belowA
      have hpc2 := (hba.cell (p := ⟨kb, ko + k * 2, none⟩) hkb).trans hpc
      generalize wr.alloc (.cells (tokA k0 t0 a0 r0 m0 m1 m2 m3 m4 m5 m6 m7) 126) = w2 at *
      have hb2 := hbr.trans (hba.mono hzr)
      have hb02 := hbw.trans (hba.mono hbw.size)
      have hz2 := hb2.size
      have hown2 := own_below hown.out hba
      clear q0 q1 q2 q3 q4 q5 q6 q7 q8 q9 q10 q11 hpc
      obtain ⟨q0, q1, q2, q3, q4, q5, q6, q7, q8, q9, q10, q11⟩ := bk12 kt
      have hskip : (k0 == 4) = false ∨ ((k0 == 4) = true ∧ pq = 0) ∨ ((k0 == 4) = true ∧ 0 < pq) := by cases (k0 == 4) <;> simp; omega
      rcases hskip with e6 | ⟨e6, rfl⟩ | ⟨e6, h0⟩
      · go_wp2_with (at_builtin; ((refine app_one Tryz.underlying51 info_in rfl (by decide) w2 w1.heap.size _ kl.length _ hown2 (by unfold maxLen; omega) (by omega) hz2 _ rfl (by simp [Value.oneCell']) rfl _ _ rfl rfl rfl ?_); intro g4 cap4 w4 hown4 hgr4 hat4 hlt4))
        have hb4 := below_own hb2 hown2 hgr4 hz2 (Nat.le_refl _)
        go_roundw
        case rel => exact ⟨k + 1, kl ++ [t0], by omega, by go_num, Lib.hid (by rw [List.length_append, is_snoc]; exact hown4), by simp; omega, hb4⟩
        case measure => simp [intOf]; omega
      · go_wp2_with (at_builtin; ((refine app_one Tryz.underlying51 info_in rfl (by decide) w2 w1.heap.size _ kl.length _ hown2 (by unfold maxLen; omega) (by omega) hz2 _ rfl (by simp [Value.oneCell']) rfl _ _ rfl rfl rfl ?_); intro g4 cap4 w4 hown4 hgr4 hat4 hlt4))
        have hb4 := below_own hb2 hown2 hgr4 hz2 (Nat.le_refl _)
        go_roundw
        case rel => exact ⟨k + 1, kl ++ [t0], by omega, by go_num, Lib.hid (by rw [List.length_append, is_snoc]; exact hown4), by simp; omega, hb4⟩
        case measure => simp [intOf]; omega
      · obtain ⟨p', rfl⟩ : ∃ p', pq = p' + 1 := ⟨pq - 1, by omega⟩
        obtain ⟨tb2, tq2, tk2, -, hA, -, htc2⟩ := tok_at ((H.out.below hb02).more hb02.size) (show p' < n by omega)
        obtain ⟨rfl, rfl⟩ : tb = tb2 ∧ tq = tq2 := by simpa using hA
        have v0 : w2.cell? ⟨tb, tq + p' * 12, none⟩ = some (.int .i64 tk2.k) := htc2 0 (by omega)
        generalize tk2.k = y0 at *
        have e7 : (0 : Int) < ((p' + 1 : Nat) : Int) := by omega
        have e8 : (0 : Int) ≤ (p' : Int) := by omega
        have e9 : (p' : Int) < n := by omega
        have e10 : (p' : Int) ≤ 100000 := by omega
        clear htc2 hA h0
        cases e11 : (y0 == 4) with
        | true =>
          go_wp2
          go_roundw
          case rel => exact ⟨k + 1, kl, by omega, by go_num, Lib.hid hown2, by omega, hb2⟩
          case measure => simp [intOf]; omega
        | false =>
          go_wp2_with (at_builtin; ((refine app_one Tryz.underlying51 info_in rfl (by decide) w2 w1.heap.size _ kl.length _ hown2 (by unfold maxLen; omega) (by omega) hz2 _ rfl (by simp [Value.oneCell']) rfl _ _ rfl rfl rfl ?_); intro g4 cap4 w4 hown4 hgr4 hat4 hlt4))
          have hb4 := below_own hb2 hown2 hgr4 hz2 (Nat.le_refl _)
          go_roundw
          case rel => exact ⟨k + 1, kl ++ [t0], by omega, by go_num, Lib.hid (by rw [List.length_append, is_snoc]; exact hown4), by simp; omega, hb4⟩
          case measure => simp [intOf]; omega
    · obtain rfl : k = kn := by omega
      go_wp2
      exact bodyPost_ret (v := .slice A1 kl.length c1) (by simp [results, Tryz.results202, go_sem]) rfl ⟨A1, c1, kl, rfl, own_base hown.out hb1.size, by rw [HL.out]; omega, hbw⟩
@[go_sem] theorem field_nd5 (x0 x1 x2 x3 x4 x5 x6 x7 x8 : Value) (w : World) : (Instr.field 113 (.agg #[x0, x1, x2, x3, x4, x5, x6, x7, x8]) 5).run Tryz.prog w = .ok x5 w := by kernel_rfl
set_option maxRecDepth 100000 in
set_option maxHeartbeats 1000000 in
theorem right01_any (r : Int) (w : World) : Calls Tryz.prog 200 #[.int .i32 r] w (AnyB w) := by
  go_enter Tryz.func200, Tryz.ntmps200
  by_cases h1 : 0 ≤ r
  · by_cases h2 : r ≤ 1114111
    · by_cases h3 : r < 55296
      all_goals
        go_wp2
        all_goals go_ret
        all_goals exact ⟨⟨_, rfl⟩, belowA⟩
    · go_wp2
      all_goals go_ret
      all_goals exact ⟨⟨_, rfl⟩, belowA⟩
  · go_wp2
    all_goals go_ret
    all_goals exact ⟨⟨_, rfl⟩, belowA⟩
section
variable (base : Nat) (nv mv : Value) (ns : List Nd) (ms : List Mr) (PA TA EA : Option Addr) (pn pc tn tc en ec : Nat) (w : World)
set_option maxRecDepth 100000 in
set_option maxHeartbeats 2000000 in
theorem max13_any (k : Nat) (p : Nd) (hp : ns[k]? = some p) (hD : DeclIn w base nv mv ns ms) : Calls Tryz.prog 198 #[.agg #[nv, mv, .slice PA pn pc, .slice TA tn tc, .slice EA en ec], .int .i64 ((k : Int) + 1)] w (AnyI w) := by
  obtain ⟨NA, nc, rfl, -, -, -, -⟩ := own_form hD.n
  obtain ⟨MA, mc, rfl, -, -, -, -⟩ := own_form hD.m
  have hnd := fun W (hb : Below w.heap.size w W) => node11_any base _ _ ns ms PA TA EA pn pc tn tc en ec W k p hp (hD.below hb)
  have HND := Lib.hid hnd
  have hpi := hD.ni p (List.mem_of_getElem? hp)
  obtain ⟨nm, gv, gs, il, pk, lf, at_, all, mk, ml, ex⟩ := p
  obtain ⟨Ag, cg, eg, -, -, -, -⟩ := own_form hpi.g
  obtain ⟨Ak, ck, ek, -, -, -, -⟩ := own_form hpi.m
  dsimp only at eg ek
  subst eg
  subst ek
  clear hpi hp hnd hD
  go_enter Tryz.func198, Tryz.ntmps198
  go_upto_region 1 with fail
  have ks : Bk (w.alloc (.cells #[.slice NA ns.length nc, .slice MA ms.length mc, .slice PA pn pc, .slice TA tn tc, .slice EA en ec] 32)) w.heap.size 32 #[.slice NA ns.length nc, .slice MA ms.length mc, .slice PA pn pc, .slice TA tn tc, .slice EA en ec] := Bk.new w _ _
  have hb0 : Below w.heap.size w (w.alloc (.cells #[.slice NA ns.length nc, .slice MA ms.length mc, .slice PA pn pc, .slice TA tn tc, .slice EA en ec] 32)) := belowA
  generalize w.alloc (.cells #[.slice NA ns.length nc, .slice MA ms.length mc, .slice PA pn pc, .slice TA tn tc, .slice EA en ec] 32) = w0 at *
  obtain ⟨s0, s1, s2, s3, s4⟩ := bk5 ks
  go_wp2_with (go_at_call 153; fail)
  refine (HND.out w0 hb0).mono ?_
  rintro e w2 ⟨rfl, hb2⟩
  dsimp only [Nd.arr]
  go_wp2
  go_ret
  exact ⟨⟨_, rfl⟩, hb0.trans (hb2.mono hb0.size)⟩
/-- on the way: the schema, a token -/
structure TI (w wr : World) (S M : Array Value) : Prop where
  s : Bk wr w.heap.size 32 S
  m : Bk wr (w.heap.size + 1) 126 M
  b : Below w.heap.size w wr
omit w in
theorem TI.below {w wr w' : World} {S M : Array Value} (h : TI w wr S M) (hb : Below wr.heap.size wr w') : TI w w' S M := ⟨h.s.ext hb, h.m.ext hb, h.b.trans (hb.mono h.b.size)⟩
set_option maxRecDepth 100000 in
set_option maxHeartbeats 4000000 in
theorem inline13_any (k t a r m0 m1 m2 m3 m4 m5 m6 m7 : Int) (hD : DeclIn w base nv mv ns ms) : Calls Tryz.prog 111 #[.agg #[nv, mv, .slice PA pn pc, .slice TA tn tc, .slice EA en ec], .agg (tokA k t a r m0 m1 m2 m3 m4 m5 m6 m7)] w (AnyB w) := by
  obtain ⟨NA, nc, rfl, -, -, -, -⟩ := own_form hD.n
  obtain ⟨MA, mc, rfl, -, -, -, -⟩ := own_form hD.m
  have hil := fun W (hb : Below w.heap.size w W) => inline_any base _ _ ns ms PA TA EA pn pc tn tc en ec W t (hD.below hb)
  have HIL := Lib.hid hil
  clear hil hD
  have h3 : (k == 4) = true ∨ ((k == 4) = false ∧ (k == 3) = true) ∨ ((k == 4) = false ∧ (k == 3) = false) := by cases (k == 4) <;> cases (k == 3) <;> simp
  go_enter Tryz.func111, Tryz.ntmps111
  go_upto_region 1 with fail
  have hI0 : TI w ((w.alloc (.cells #[.slice NA ns.length nc, .slice MA ms.length mc, .slice PA pn pc, .slice TA tn tc, .slice EA en ec] 32)).alloc (.cells (tokA k t a r m0 m1 m2 m3 m4 m5 m6 m7) 126)) #[.slice NA ns.length nc, .slice MA ms.length mc, .slice PA pn pc, .slice TA tn tc, .slice EA en ec] (tokA k t a r m0 m1 m2 m3 m4 m5 m6 m7) := ⟨(Bk.new w _ _).alloc _, Bk.made _ _ (by simp), belowA⟩
  generalize (w.alloc (.cells #[.slice NA ns.length nc, .slice MA ms.length mc, .slice PA pn pc, .slice TA tn tc, .slice EA en ec] 32)).alloc (.cells (tokA k t a r m0 m1 m2 m3 m4 m5 m6 m7) 126) = w0 at *
  obtain ⟨q0, q1, q2, q3, q4, q5, q6, q7, q8, q9, q10, q11⟩ := bk12 hI0.m
  obtain ⟨s0, s1, s2, s3, s4⟩ := bk5 hI0.s
  rcases h3 with e | ⟨e, e'⟩ | ⟨e, e'⟩
  · go_wp2
    go_ret
    exact ⟨⟨_, rfl⟩, hI0.b⟩
  · go_wp2_with (go_at_call 103; fail)
    refine (HIL.out _ hI0.b).mono ?_
    rintro e w1 ⟨⟨b1, rfl⟩, hb1⟩
    go_wp2
    go_ret
    exact ⟨⟨_, rfl⟩, (hI0.below hb1).b⟩
  · go_wp2
    go_ret
    exact ⟨⟨_, rfl⟩, hI0.b⟩
end
section
variable (base : Nat) (nv mv : Value) (ns : List Nd) (ms : List Mr) (PA TA EA : Option Addr) (pn pc tn tc en ec : Nat) (w : World)
set_option maxRecDepth 100000 in
set_option maxHeartbeats 16000000 in
theorem right13_any (k t a r m0 m1 m2 m3 m4 m5 m6 m7 : Int) (hD : DeclIn w base nv mv ns ms) : Calls Tryz.prog 158 #[.agg #[nv, mv, .slice PA pn pc, .slice TA tn tc, .slice EA en ec], .agg (tokA k t a r m0 m1 m2 m3 m4 m5 m6 m7)] w (AnyB w) := by
  obtain ⟨NA, nc, rfl, -, -, -, -⟩ := own_form hD.n
  obtain ⟨MA, mc, rfl, -, -, -, -⟩ := own_form hD.m
  have hth := fun W (hb : Below w.heap.size w W) => there_any base _ _ ns ms PA TA EA pn pc tn tc en ec W t (hD.below hb)
  have hma := fun (k : Nat) (p : Nd) (hp : ns[k]? = some p) W (hb : Below w.heap.size w W) => max13_any base _ _ ns ms PA TA EA pn pc tn tc en ec W k p hp (hD.below hb)
  have hlf := fun W (hb : Below w.heap.size w W) => leaf_any base _ _ ns ms PA TA EA pn pc tn tc en ec W t (hD.below hb)
  have hil := fun W (hb : Below w.heap.size w W) => inline_any base _ _ ns ms PA TA EA pn pc tn tc en ec W t (hD.below hb)
  have hr2 := fun a0 a1 a2 a3 a4 a5 a6 a7 W (hb : Below w.heap.size w W) => right12_any base _ _ ns ms PA TA EA pn pc tn tc en ec W a0 a1 a2 a3 a4 a5 a6 a7 (hD.below hb)
  have hr1 := fun W (hb : Below w.heap.size w W) => right01_any r W
  have HTH := Lib.hid hth
  have HMA := Lib.hid hma
  have HLF := Lib.hid hlf
  have HIL := Lib.hid hil
  have HR2 := Lib.hid hr2
  have HR1 := Lib.hid hr1
  clear hth hma hlf hil hr2 hr1 hD
  go_enter Tryz.func158, Tryz.ntmps158
  go_upto_region 1 with fail
  have hI0 : TI w ((w.alloc (.cells #[.slice NA ns.length nc, .slice MA ms.length mc, .slice PA pn pc, .slice TA tn tc, .slice EA en ec] 32)).alloc (.cells (tokA k t a r m0 m1 m2 m3 m4 m5 m6 m7) 126)) #[.slice NA ns.length nc, .slice MA ms.length mc, .slice PA pn pc, .slice TA tn tc, .slice EA en ec] (tokA k t a r m0 m1 m2 m3 m4 m5 m6 m7) := ⟨(Bk.new w _ _).alloc _, Bk.made _ _ (by simp), belowA⟩
  generalize (w.alloc (.cells #[.slice NA ns.length nc, .slice MA ms.length mc, .slice PA pn pc, .slice TA tn tc, .slice EA en ec] 32)).alloc (.cells (tokA k t a r m0 m1 m2 m3 m4 m5 m6 m7) 126) = w0 at *
  have hF : ∀ W, TI w W #[.slice NA ns.length nc, .slice MA ms.length mc, .slice PA pn pc, .slice TA tn tc, .slice EA en ec] (tokA k t a r m0 m1 m2 m3 m4 m5 m6 m7) → (W.cell? ⟨w.heap.size, 0, none⟩ = some (.slice NA ns.length nc) ∧ W.cell? ⟨w.heap.size, 1, none⟩ = some (.slice MA ms.length mc) ∧ W.cell? ⟨w.heap.size, 2, none⟩ = some (.slice PA pn pc) ∧ W.cell? ⟨w.heap.size, 3, none⟩ = some (.slice TA tn tc) ∧ W.cell? ⟨w.heap.size, 4, none⟩ = some (.slice EA en ec)) ∧ W.cell? ⟨w.heap.size + 1, 1, none⟩ = some (.int .i64 t) ∧ W.cell? ⟨w.heap.size + 1, 2, none⟩ = some (.int .i64 a) ∧ W.cell? ⟨w.heap.size + 1, 3, none⟩ = some (.int .i32 r) := fun W h => ⟨bk5 h.s, h.m.cell 1, h.m.cell 2, h.m.cell 3⟩
  have HF := Lib.hid hF
  clear hF
  go_cut [5] (fun u wx => ∃ b : Bool, u = .bool b ∧ Hid (TI w wx #[.slice NA ns.length nc, .slice MA ms.length mc, .slice PA pn pc, .slice TA tn tc, .slice EA en ec] (tokA k t a r m0 m1 m2 m3 m4 m5 m6 m7)))
  case first =>
    by_cases hin : 1 ≤ t ∧ t ≤ ns.length
    · obtain ⟨k', rfl⟩ : ∃ k : Nat, t = (k : Int) + 1 := ⟨(t - 1).toNat, by omega⟩
      obtain ⟨p, hp⟩ : ∃ p, ns[k']? = some p := ⟨_, List.getElem?_eq_getElem (by omega)⟩
      have HP := Lib.hid hp
      have HT := Lib.hid (show decide (1 ≤ (k' : Int) + 1 ∧ (k' : Int) + 1 ≤ ns.length) = true from decide_eq_true hin)
      clear hp hin
      by_cases ha : 0 ≤ a
      all_goals
        refine wp_normal ?_
        refine wp_region_held_drew (S := fun W => TI w W #[.slice NA ns.length nc, .slice MA ms.length mc, .slice PA pn pc, .slice TA tn tc, .slice EA en ec] (tokA k ((k' : Int) + 1) a r m0 m1 m2 m3 m4 m5 m6 m7)) (by kernel_rfl) (show TI w w0.drew _ _ from ⟨hI0.s.drew, hI0.m.drew, hI0.b.drew⟩) (fun hHeld => ?_)
        (refine tkH 0 ?_; refine tkH 1 ?_; refine tkH 2 ?_)
        refine nxH 3 (fun K hK => ?_)
        go_simp
        go_at_call 152
        refine (HTH.out _ hHeld.b).mono ?_
        rw [HT.out]
        rintro e w1 ⟨rfl, hb1⟩
        refine hK.out _ _ (hHeld.below hb1) (fun hHeld => ?_)
        clear hK K; (try simp only [Act.put, List.setIfInBounds_toArray, List.set_cons_zero, List.set_cons_succ])
        (refine tkH 4 ?_; refine tkH 5 ?_; refine tkH 6 ?_; refine tkH 7 ?_; refine tkH 8 ?_; refine tkH 9 ?_)
        first
        | ((refine tkH 10 ?_; refine tkH 11 ?_; refine tkH 12 ?_; refine tkH 13 ?_; refine tkH 14 ?_)
           refine nxH 15 (fun K hK => ?_)
           go_simp
           go_at_call 198
           refine (HMA.out k' _ HP.out _ hHeld.b).mono ?_
           rintro e w2 ⟨⟨v, rfl⟩, hb2⟩
           refine hK.out _ _ (hHeld.below hb2) (fun hHeld => ?_)
           clear hK K; (try simp only [Act.put, List.setIfInBounds_toArray, List.set_cons_zero, List.set_cons_succ])
           by_cases hav : a ≤ v
           · (refine tkH 16 ?_; refine tkH 17 ?_; refine tkH 18 ?_; refine tkH 19 ?_; refine tkH 20 ?_; refine tkH 21 ?_; refine tkH 22 ?_; refine tkH 23 ?_)
             refine wpAnyH_done (by kernel_rfl) ?_ _
             go_wp2
             go_meet
             exact ⟨_, rfl, Lib.hid hHeld⟩
           · (refine tkH 16 ?_; refine tkH 17 ?_; refine tkH 18 ?_; refine tnH 19 ?_; refine tnH 20 ?_; refine tnH 21 ?_; refine tkH 22 ?_; refine tkH 23 ?_)
             refine wpAnyH_done (by kernel_rfl) ?_ _
             go_wp2
             go_meet
             exact ⟨_, rfl, Lib.hid hHeld⟩)
        | ((refine tnH 10 ?_; refine tnH 11 ?_; refine tnH 12 ?_; refine tnH 13 ?_; refine tnH 14 ?_; refine tnH 15 ?_; refine tnH 16 ?_; refine tkH 17 ?_; refine tkH 18 ?_; refine tnH 19 ?_; refine tnH 20 ?_; refine tnH 21 ?_; refine tkH 22 ?_; refine tkH 23 ?_)
           refine wpAnyH_done (by kernel_rfl) ?_ _
           go_wp2
           go_meet
           exact ⟨_, rfl, Lib.hid hHeld⟩)
    · have HT := Lib.hid (show decide (1 ≤ t ∧ t ≤ ns.length) = false from decide_eq_false hin)
      clear hin
      refine wp_normal ?_
      refine wp_region_held_drew (S := fun W => TI w W #[.slice NA ns.length nc, .slice MA ms.length mc, .slice PA pn pc, .slice TA tn tc, .slice EA en ec] (tokA k t a r m0 m1 m2 m3 m4 m5 m6 m7)) (by kernel_rfl) (show TI w w0.drew _ _ from ⟨hI0.s.drew, hI0.m.drew, hI0.b.drew⟩) (fun hHeld => ?_)
      (refine tkH 0 ?_; refine tkH 1 ?_; refine tkH 2 ?_)
      refine nxH 3 (fun K hK => ?_)
      go_simp
      go_at_call 152
      refine (HTH.out _ hHeld.b).mono ?_
      rw [HT.out]
      rintro e w1 ⟨rfl, hb1⟩
      refine hK.out _ _ (hHeld.below hb1) (fun hHeld => ?_)
      clear hK K; (try simp only [Act.put, List.setIfInBounds_toArray, List.set_cons_zero, List.set_cons_succ])
      (refine tkH 4 ?_; refine tnH 5 ?_; refine tnH 6 ?_; refine tnH 7 ?_; refine tkH 8 ?_; refine tkH 9 ?_; refine tnH 10 ?_; refine tnH 11 ?_; refine tnH 12 ?_; refine tnH 13 ?_; refine tnH 14 ?_; refine tnH 15 ?_; refine tnH 16 ?_; refine tkH 17 ?_; refine tkH 18 ?_; refine tnH 19 ?_; refine tnH 20 ?_; refine tnH 21 ?_; refine tkH 22 ?_; refine tkH 23 ?_)
      refine wpAnyH_done (by kernel_rfl) ?_ _
      go_wp2
      go_meet
      exact ⟨_, rfl, Lib.hid hHeld⟩
  case rest =>
  obtain ⟨nd, rfl, hI1⟩ := hcut
  clear hI0 HF HTH HMA
  obtain ⟨q0, q1, q2, q3, q4, q5, q6, q7, q8, q9, q10, q11⟩ := bk12 hI1.out.m
  obtain ⟨s0, s1, s2, s3, s4⟩ := bk5 hI1.out.s
  by_cases h1 : k = 1
  · subst h1
    cases nd with
    | false =>
      go_wp2
      go_ret
      exact ⟨⟨_, rfl⟩, hI1.out.b⟩
    | true =>
      go_wp2_with (go_at_call 199; fail)
      refine (HLF.out _ hI1.out.b).mono ?_
      rintro e w2 ⟨⟨b2, rfl⟩, hb2⟩
      have hI2 := Lib.hid (hI1.out.below hb2)
      clear q0 q1 q2 q3 q4 q5 q6 q7 q8 q9 q10 q11 s0 s1 s2 s3 s4 hI1 hb2
      obtain ⟨q0, q1, q2, q3, q4, q5, q6, q7, q8, q9, q10, q11⟩ := bk12 hI2.out.m
      obtain ⟨s0, s1, s2, s3, s4⟩ := bk5 hI2.out.s
      cases b2 with
      | true =>
        go_wp2
        go_ret
        exact ⟨⟨_, rfl⟩, hI2.out.b⟩
      | false =>
        go_wp2
        go_ret
        exact ⟨⟨_, rfl⟩, hI2.out.b⟩
  by_cases h2 : k = 2
  · subst h2
    go_wp2
    all_goals go_ret
    all_goals exact ⟨⟨_, rfl⟩, hI1.out.b⟩
  by_cases h3 : k = 3
  · subst h3
    cases nd with
    | false =>
      go_wp2
      go_ret
      exact ⟨⟨_, rfl⟩, hI1.out.b⟩
    | true =>
      go_wp2_with (go_at_call 199; fail)
      refine (HLF.out _ hI1.out.b).mono ?_
      rintro e w2 ⟨⟨b2, rfl⟩, hb2⟩
      have hI2 := Lib.hid (hI1.out.below hb2)
      clear q0 q1 q2 q3 q4 q5 q6 q7 q8 q9 q10 q11 s0 s1 s2 s3 s4 hI1 hb2
      obtain ⟨q0, q1, q2, q3, q4, q5, q6, q7, q8, q9, q10, q11⟩ := bk12 hI2.out.m
      obtain ⟨s0, s1, s2, s3, s4⟩ := bk5 hI2.out.s
      cases b2 with
      | true =>
        cases hbare : mkB (Mk.mk m0 m1 m2 m3 m4 m5 m6 m7) (Mk.mk 0 0 0 0 0 0 0 0) with
        | true =>
          go_wp2
          go_ret
          exact ⟨⟨_, rfl⟩, hI2.out.b⟩
        | false =>
          go_wp2_with (go_at_call 103; fail)
          refine (HIL.out _ hI2.out.b).mono ?_
          rintro e w3 ⟨⟨b3, rfl⟩, hb3⟩
          have hI3 := Lib.hid (hI2.out.below hb3)
          clear q0 q1 q2 q3 q4 q5 q6 q7 q8 q9 q10 q11 s0 s1 s2 s3 s4 hI2 hb3
          obtain ⟨q0, q1, q2, q3, q4, q5, q6, q7, q8, q9, q10, q11⟩ := bk12 hI3.out.m
          obtain ⟨s0, s1, s2, s3, s4⟩ := bk5 hI3.out.s
          cases b3 with
          | true =>
            go_wp2_with (go_at_call 109; fail)
            refine (HR2.out m0 m1 m2 m3 m4 m5 m6 m7 _ hI3.out.b).mono ?_
            rintro e w4 ⟨⟨b4, rfl⟩, hb4⟩
            have hI4 := Lib.hid (hI3.out.below hb4)
            clear q0 q1 q2 q3 q4 q5 q6 q7 q8 q9 q10 q11 s0 s1 s2 s3 s4 hI3 hb4
            obtain ⟨q0, q1, q2, q3, q4, q5, q6, q7, q8, q9, q10, q11⟩ := bk12 hI4.out.m
            obtain ⟨s0, s1, s2, s3, s4⟩ := bk5 hI4.out.s
            cases b4 with
            | true =>
              go_wp2
              go_ret
              exact ⟨⟨_, rfl⟩, hI4.out.b⟩
            | false =>
              go_wp2
              go_ret
              exact ⟨⟨_, rfl⟩, hI4.out.b⟩
          | false =>
            go_wp2
            go_ret
            exact ⟨⟨_, rfl⟩, hI3.out.b⟩
      | false =>
        go_wp2
        go_ret
        exact ⟨⟨_, rfl⟩, hI2.out.b⟩
  by_cases h4 : k = 4
  · subst h4
    cases ht0 : (t == 0) with
    | false =>
      go_wp2
      go_ret
      exact ⟨⟨_, rfl⟩, hI1.out.b⟩
    | true =>
      cases ha0 : (a == 0) with
      | false =>
        go_wp2
        go_ret
        exact ⟨⟨_, rfl⟩, hI1.out.b⟩
      | true =>
        go_wp2_with (go_at_call 200; fail)
        refine (HR1.out _ hI1.out.b).mono ?_
        rintro e w2 ⟨⟨b2, rfl⟩, hb2⟩
        have hI2 := Lib.hid (hI1.out.below hb2)
        clear q0 q1 q2 q3 q4 q5 q6 q7 q8 q9 q10 q11 s0 s1 s2 s3 s4 hI1 hb2
        obtain ⟨q0, q1, q2, q3, q4, q5, q6, q7, q8, q9, q10, q11⟩ := bk12 hI2.out.m
        obtain ⟨s0, s1, s2, s3, s4⟩ := bk5 hI2.out.s
        cases b2 with
        | true =>
          go_wp2_with (go_at_call 109; fail)
          refine (HR2.out m0 m1 m2 m3 m4 m5 m6 m7 _ hI2.out.b).mono ?_
          rintro e w3 ⟨⟨b3, rfl⟩, hb3⟩
          have hI3 := Lib.hid (hI2.out.below hb3)
          clear q0 q1 q2 q3 q4 q5 q6 q7 q8 q9 q10 q11 s0 s1 s2 s3 s4 hI2 hb3
          obtain ⟨q0, q1, q2, q3, q4, q5, q6, q7, q8, q9, q10, q11⟩ := bk12 hI3.out.m
          obtain ⟨s0, s1, s2, s3, s4⟩ := bk5 hI3.out.s
          cases b3 with
          | true =>
            go_wp2
            go_ret
            exact ⟨⟨_, rfl⟩, hI3.out.b⟩
          | false =>
            go_wp2
            go_ret
            exact ⟨⟨_, rfl⟩, hI3.out.b⟩
        | false =>
          go_wp2
          go_ret
          exact ⟨⟨_, rfl⟩, hI2.out.b⟩
  have e1 : (k == 1) = false := beq_false_of_ne h1
  have e2 : (k == 2) = false := beq_false_of_ne h2
  have e3 : (k == 3) = false := beq_false_of_ne h3
  have e4 : (k == 4) = false := beq_false_of_ne h4
  clear h1 h2 h3 h4
  go_wp2
  go_ret
  exact ⟨⟨_, rfl⟩, hI1.out.b⟩
end
/-- a name, and the symbols that it means -/
structure Mg where
  nm : ByteArray
  v : Value
  on : List Int
def Mg.cells (p : Mg) : List Value := [.string p.nm, p.v]
def mgs (l : List Mg) : List Value := l.flatMap Mg.cells
theorem mgs_append (a b : List Mg) : mgs (a ++ b) = mgs a ++ mgs b := by simp [mgs]
theorem mgs_one (p : Mg) : mgs [p] = [.string p.nm, p.v] := by simp [mgs, Mg.cells]
theorem info_mg : (Tryz.prog.info? 195).map (fun i => (i.zero, i.size, i.bytes)) = some (some (.agg #[.string ByteArray.empty, .slice none 0 0]), 2, 40) := by kernel_rfl
structure MgsIn (w : World) (base : Nat) (v : Value) (l : List Mg) : Prop where
  row : w.ownsRow base 195 2 v l.length (mgs l)
  own : ∀ p ∈ l, w.ownsRow base 3 1 p.v p.on.length (is p.on)
  ol : ∀ p ∈ l, p.on.length ≤ 24
section
variable {w w' : World} {base : Nat} {v v' : Value} {l : List Mg}
theorem MgsIn.nil (w : World) (base : Nat) : MgsIn w base (.slice none 0 0) [] := ⟨World.ownsRow_nil _ _ _ _, (fun p h => by cases h), (fun p h => by cases h)⟩
theorem MgsIn.below (h : MgsIn w base v l) (hb : Below w.heap.size w w') : MgsIn w' base v l := ⟨own_below h.row hb, fun p hp => own_below (h.own p hp) hb, h.ol⟩
theorem MgsIn.base_ {base' : Nat} (h : MgsIn w base v l) (hb : base' ≤ base) : MgsIn w base' v l := ⟨own_base h.row hb, fun p hp => own_base (h.own p hp) hb, h.ol⟩
theorem MgsIn.push {p : Mg} (h : MgsIn w base v l) (hp : w.ownsRow base 3 1 p.v p.on.length (is p.on)) (hl : p.on.length ≤ 24) (hg : w.grownBy w' v.ownBlock) (ho : w'.ownsRow base 195 2 v' (l.length + 1) (mgs l ++ [.string p.nm, p.v])) : MgsIn w' base v' (l ++ [p]) := by
  refine ⟨by rw [List.length_append, mgs_append, mgs_one]; exact ho, fun q hq => ?_, fun q hq => ?_⟩
  · rcases List.mem_append.1 hq with hq | hq
    · exact hown_grow (h.own q hq) hg (hown_type (h.own q hq) h.row (by decide))
    · simp at hq; subst hq; exact hown_grow hp hg (hown_type hp h.row (by decide))
  · rcases List.mem_append.1 hq with hq | hq
    · exact h.ol q hq
    · simp at hq; subst hq; exact hl
theorem MgsIn.at_ {k n c : Nat} {A : Option Addr} {p : Mg} (h : MgsIn w base (.slice A n c) l) (hk : l[k]? = some p) : ∃ b o, A = some ⟨b, o, none⟩ ∧ b < w.heap.size ∧ w.cell? ⟨b, o + k * 2, none⟩ = some (.string p.nm) ∧ w.cell? ⟨b, o + k * 2 + 1, none⟩ = some p.v := by
  obtain ⟨A', c', e, -, -, -, r⟩ := own_form h.row
  injection e with e1 e2 e3
  subst e1
  obtain ⟨b, o, e, hb, hc⟩ := Rd.el Mg.cells (fun _ => rfl) r rfl hk
  exact ⟨b, o, e, hb, hc 0 (by omega), hc 1 (by omega)⟩
end
def MgsOut (m : Nat) (w : World) (e : Ending) (w' : World) : Prop := ∃ (v : Value) (l : List Mg), e = .returned v ∧ MgsIn w' w.heap.size v l ∧ l.length ≤ m ∧ Below w.heap.size w w'
section
variable (base : Nat) (nv mv : Value) (ns : List Nd) (ms : List Mr) (PA TA EA : Option Addr) (pn pc tn tc en ec : Nat) (w : World)
set_option maxRecDepth 100000 in
set_option maxHeartbeats 16000000 in
theorem means_any (pb n c : Nat) (A : Option Addr) (l : List Pt) (hD : DeclIn w base nv mv ns ms) (hp : Parts w pb (.slice A n c) n l) (hn : n ≤ 1000) : Calls Tryz.prog 50 #[.agg #[nv, mv, .slice PA pn pc, .slice TA tn tc, .slice EA en ec], .slice A n c] w (MgsOut n w) := by
  obtain ⟨NA, nc, rfl, -, -, -, -⟩ := own_form hD.n
  obtain ⟨MA, mc, rfl, -, -, -, -⟩ := own_form hD.m
  have hfi := fun s W (hb : Below w.heap.size w W) => find_any base _ _ ns ms PA TA EA pn pc tn tc en ec W s (hD.below hb)
  have hgp := fun s W (hb : Below w.heap.size w W) => group_any base _ _ ns ms PA TA EA pn pc tn tc en ec W s (hD.below hb)
  have HFI := Lib.hid hfi
  have HGP := Lib.hid hgp
  have HP := Lib.hid hp
  clear hfi hgp hD hp
  go_enter Tryz.func50, Tryz.ntmps50
  go_upto_region 1 with fail
  have kss : Bk (w.alloc (.cells #[.slice NA ns.length nc, .slice MA ms.length mc, .slice PA pn pc, .slice TA tn tc, .slice EA en ec] 32)) w.heap.size 32 #[.slice NA ns.length nc, .slice MA ms.length mc, .slice PA pn pc, .slice TA tn tc, .slice EA en ec] := Bk.new w _ _
  have hbs : Below w.heap.size w (w.alloc (.cells #[.slice NA ns.length nc, .slice MA ms.length mc, .slice PA pn pc, .slice TA tn tc, .slice EA en ec] 32)) := belowA
  generalize w.alloc (.cells #[.slice NA ns.length nc, .slice MA ms.length mc, .slice PA pn pc, .slice TA tn tc, .slice EA en ec] 32) = w0 at *
  have hz0 := hbs.size
  go_wp2
  go_loopw [5, 6] (fun v j wr => ∃ (q : Nat) (L : List Mg), q ≤ n ∧ j = .int .i64 q ∧ L.length ≤ q ∧ Hid (MgsIn wr w.heap.size v L) ∧ Below w.heap.size w wr ∧ Bk wr w.heap.size 32 #[.slice NA ns.length nc, .slice MA ms.length mc, .slice PA pn pc, .slice TA tn tc, .slice EA en ec]) (fun _ j _ => n - (intOf j).toNat)
  case atStart => exact ⟨0, [], by omega, rfl, by simp, Lib.hid (MgsIn.nil _ _), hbs, kss⟩
  case round =>
    clear hbs kss
    obtain ⟨q, L, hq, rfl, hL, hM, hbr, ksr⟩ := hrel
    have hz := hbr.size
    obtain ⟨A5, c5, rfl, -, -, -, -⟩ := own_form hM.out.row
    by_cases hlt : q < n
    · have e3 : (q : Int) < n := by omega
      obtain ⟨p, hp⟩ : ∃ p, l[q]? = some p := ⟨_, List.getElem?_eq_getElem (by rw [HP.out.len]; exact hlt)⟩
      have hPr := HP.out.below hbr
      obtain ⟨ab, ao, rfl, hab, hcc⟩ := hPr.at_ hp
      have d0 : wr.cell? ⟨ab, ao + q * 5, none⟩ = some (.int .i64 p.k) := hcc 0 (by omega)
      have d3 : wr.cell? ⟨ab, ao + q * 5 + 3, none⟩ = some (.string p.nm) := hcc 3 (by omega)
      generalize p.k = pk at *
      generalize p.nm = nm at *
      clear hcc hp hPr
      by_cases hk1 : pk = 1
      · have e4 : (pk != 1) = false := by simp [hk1]
        clear hk1
        have hF : ∀ W, Below wr.heap.size wr W → W.cell? ⟨w.heap.size, 0, none⟩ = some (.slice NA ns.length nc) ∧ W.cell? ⟨w.heap.size, 1, none⟩ = some (.slice MA ms.length mc) ∧ W.cell? ⟨w.heap.size, 2, none⟩ = some (.slice PA pn pc) ∧ W.cell? ⟨w.heap.size, 3, none⟩ = some (.slice TA tn tc) ∧ W.cell? ⟨w.heap.size, 4, none⟩ = some (.slice EA en ec) ∧ W.cell? ⟨ab, ao + q * 5 + 3, none⟩ = some (.string nm) := fun W h => ⟨(ksr.ext h).cell 0, (ksr.ext h).cell 1, (ksr.ext h).cell 2, (ksr.ext h).cell 3, (ksr.ext h).cell 4, (h.cell (by simpa using hab)).trans d3⟩
        have HF := Lib.hid hF
        clear hF
        go_upto_region 6 with fail
        go_cut [7] (fun u wx => ∃ (b7 : Nat) (v7 : Value) (on : List Int), u = .pointer (some ⟨b7, 0, none⟩) ∧ wr.heap.size ≤ b7 ∧ Bk wx b7 195 #[.string nm, v7] ∧ Hid (wx.ownsRow wr.heap.size 3 1 v7 on.length (is on)) ∧ on.length ≤ 24 ∧ Below wr.heap.size wr wx)
        case first =>
          refine wp_normal ?_
          refine wp_region_held_drew (S := fun W => Below wr.heap.size wr W) (by kernel_rfl) (Below.refl _ _).drew (fun hHeld => ?_)
          (refine tkH 0 ?_; refine tkH 1 ?_; refine tkH 2 ?_; refine tkH 3 ?_; refine tkH 4 ?_; refine tkH 5 ?_; refine tkH 6 ?_; refine tkH 7 ?_; refine tkH 8 ?_; refine tkH 9 ?_; refine tkH 10 ?_)
          refine wpAnyH_ready (rs := [11, 13]) (by kernel_rfl) (by simp) ?_; refine (AllReadyH.cons (o := _) (by simp only [List.getElem?_toArray, List.getElem?_cons_succ, List.getElem?_cons_zero]; rfl) (fun K hK => ?_) (AllReadyH.cons (o := _) (by simp only [List.getElem?_toArray, List.getElem?_cons_succ, List.getElem?_cons_zero]; rfl) (fun K hK => ?_) AllReadyH.nil))
          · go_simp
            go_at_call 102
            refine (HGP.out nm _ hbr.drew).mono ?_
            rintro e w5 ⟨v5, on, rfl, ho5, hl5, hb5⟩
            obtain ⟨A7, c7, rfl, -, -, -, -⟩ := own_form ho5
            have hb05 : Below wr.heap.size wr w5 := Below.trans (Below.refl _ _).drew hb5
            have hz05 := hb05.size
            refine hK.out _ _ hb05 (fun hHeld => ?_)
            clear hK K; (try simp only [Act.put, List.setIfInBounds_toArray, List.set_cons_zero, List.set_cons_succ])
            (refine tkH 12 ?_)
            refine nxH 13 (fun K hK => ?_)
            go_simp
            refine hK.out _ _ belowA (fun hHeld => ?_)
            clear hK K; (try simp only [Act.put, List.setIfInBounds_toArray, List.set_cons_zero, List.set_cons_succ])
            refine nxH 14 (fun K hK => ?_)
            go_simp
            refine hK.out _ _ belowA (fun hHeld => ?_)
            clear hK K; (try simp only [Act.put, List.setIfInBounds_toArray, List.set_cons_zero, List.set_cons_succ])
            refine wpAnyH_done (by kernel_rfl) ?_ _
            go_wp2
            go_meet
            exact ⟨_, _, on, rfl, hb05.size, Bk.new w5 _ _, Lib.hid (own_below ho5 ((Below.refl _ _).alloc (Nat.le_refl _) _)), hl5, hHeld⟩
          · go_simp
            refine hK.out _ _ belowA (fun hHeld => ?_)
            clear hK K; (try simp only [Act.put, List.setIfInBounds_toArray, List.set_cons_zero, List.set_cons_succ])
            refine nxH 11 (fun K hK => ?_)
            go_simp
            go_at_call 102
            refine (HGP.out nm _ belowA).mono ?_
            rintro e w5 ⟨v5, on, rfl, ho5, hl5, hb5⟩
            obtain ⟨A7, c7, rfl, -, -, -, -⟩ := own_form ho5
            have hb05 : Below wr.heap.size wr w5 := Below.trans hHeld (hb5.mono (by simp))
            have hz05 := hb05.size
            have k7 : Bk w5 wr.heap.size 195 #[.string { data := #[] }, .slice none 0 0] := (Bk.drew (Bk.new wr 195 _)).ext hb5
            obtain ⟨y0, y1⟩ := bk2 k7
            have yf := k7.frozen; have yl := def_lt' k7
            refine hK.out _ _ hb05 (fun hHeld => ?_)
            clear hK K; (try simp only [Act.put, List.setIfInBounds_toArray, List.set_cons_zero, List.set_cons_succ])
            (refine tkH 12 ?_)
            refine nxH 14 (fun K hK => ?_)
            go_simp
            refine hK.out _ _ belowA (fun hHeld => ?_)
            clear hK K; (try simp only [Act.put, List.setIfInBounds_toArray, List.set_cons_zero, List.set_cons_succ])
            refine wpAnyH_done (by kernel_rfl) ?_ _
            go_wp2
            go_meet
            have k71 : Bk _ wr.heap.size 195 #[.string nm, .slice none 0 0] := k7.set_ 0 (.string nm)
            have ho6 := own_base ho5 (show wr.heap.size ≤ _ by simp)
            have ho7 := ownsRow_setCell_other ho6 (own_ne ho6 k7 (by decide)) (a := ⟨wr.heap.size, 0, none⟩) (.string nm)
            exact ⟨_, _, on, rfl, Nat.le_refl _, k71.set_ 1 _, Lib.hid (ownsRow_setCell_other ho7 (own_ne ho7 k71 (by decide)) _), hl5, hHeld⟩
        case rest =>
        obtain ⟨b7, v7, on, rfl, hb7, k7, ho7, hl7, hbc⟩ := hcut
        have hb0c := hbr.trans (hbc.mono hz)
        have hzc := hbc.size
        have hMc := Lib.hid (hM.out.below hbc)
        have ksc := ksr.ext hbc
        obtain ⟨A7, c7, rfl, -, -, -, -⟩ := own_form ho7.out
        have hF : ∀ W, Below wc.heap.size wc W → W.cell? ⟨w.heap.size, 0, none⟩ = some (.slice NA ns.length nc) ∧ W.cell? ⟨w.heap.size, 1, none⟩ = some (.slice MA ms.length mc) ∧ W.cell? ⟨w.heap.size, 2, none⟩ = some (.slice PA pn pc) ∧ W.cell? ⟨w.heap.size, 3, none⟩ = some (.slice TA tn tc) ∧ W.cell? ⟨w.heap.size, 4, none⟩ = some (.slice EA en ec) ∧ W.cell? ⟨ab, ao + q * 5 + 3, none⟩ = some (.string nm) := fun W h => HF.out W (hbc.trans (h.mono hzc))
        have HF := Lib.hid hF
        clear hF
        go_upto_region 7 with fail
        refine wp_normal ?_
        refine wp_region_held_drew (S := fun W => Below wc.heap.size wc W) (by kernel_rfl) (Below.refl _ _).drew (fun hHeld => ?_)
        (refine tkH 0 ?_; refine tkH 1 ?_; refine tkH 2 ?_; refine tkH 3 ?_; refine tkH 4 ?_; refine tkH 5 ?_)
        refine nxH 6 (fun K hK => ?_)
        go_simp
        go_at_call 97
        refine (HFI.out nm _ hb0c.drew).mono ?_
        rintro e w6 ⟨x, rfl, hx1, hx2, hb6⟩
        replace hb6 : Below wc.heap.size wc w6 := Below.trans (Below.refl _ _).drew hb6
        refine hK.out _ _ hb6 (fun hHeld => ?_)
        clear hK K; (try simp only [Act.put, List.setIfInBounds_toArray, List.set_cons_zero, List.set_cons_succ])
        (refine tkH 7 ?_)
        refine wpAnyH_done (by kernel_rfl) ?_ _
        have hb06 := hb0c.trans (hb6.mono hb0c.size)
        have hM6 := Lib.hid (hMc.out.below hb6)
        have ks6 := ksc.ext hb6
        have k76 := k7.ext hb6
        have ho6 := own_base (own_below ho7.out hb6) hz
        have hz6 := hb06.size
        have hl6 := def_lt' k76
        obtain ⟨y0, y1⟩ := bk2 k76
        have yf := k76.frozen
        have ksr0 := ksr
        have hrb : (Value.slice A5 L.length c5).ownBlock ≠ some b7 := fun e => by have := own_lt hM.out.row _ e; omega
        clear d0 d3 HF hM ho7 hMc ksc ksr k7
        by_cases hx : 0 ≤ x
        · have k7s : Bk _ b7 195 #[.string nm, (.slice (some ⟨w6.heap.size, 0, none⟩) 1 1)] := k76.set_ 1 (.slice (some ⟨w6.heap.size, 0, none⟩) 1 1)
          have hM7 : MgsIn (w6.setCell ⟨b7, 1, none⟩ (.slice (some ⟨w6.heap.size, 0, none⟩) 1 1)) w.heap.size (.slice A5 L.length c5) L := ⟨ownsRow_setCell_other hM6.out.row hrb _, fun p hp => ownsRow_setCell_other (hM6.out.own p hp) (own_ne (hM6.out.own p hp) k76 (by decide)) _, hM6.out.ol⟩
          have hb7w : w.heap.size < b7 := by have := def_lt' ksr0; omega
          have hb7s : Below w.heap.size w (w6.setCell ⟨b7, 1, none⟩ (.slice (some ⟨w6.heap.size, 0, none⟩) 1 1)) := hb06.setCell (show w.heap.size ≤ b7 by omega) _
          have hbx : Below (World.heap (w6.setCell ⟨b7, 1, none⟩ (.slice (some ⟨w6.heap.size, 0, none⟩) 1 1))).size (w6.setCell ⟨b7, 1, none⟩ (.slice (some ⟨w6.heap.size, 0, none⟩) 1 1)) ((w6.setCell ⟨b7, 1, none⟩ (.slice (some ⟨w6.heap.size, 0, none⟩) 1 1)).alloc (.cells #[.int .i64 x] 3)) := (Below.refl _ _).alloc (Nat.le_refl _) _
          have hsz : (World.heap (w6.setCell ⟨b7, 1, none⟩ (.slice (some ⟨w6.heap.size, 0, none⟩) 1 1))).size = w6.heap.size := by simp
          have kx1 := k7s.ext hbx
          have hM8 := Lib.hid (hM7.below hbx)
          have ks8 := (ks6.far (p := ⟨b7, 1, none⟩) (by simp; omega) (.slice (some ⟨w6.heap.size, 0, none⟩) 1 1)).ext hbx
          have hb8 := hb7s.trans (hbx.mono hb7s.size)
          have ho8 := own_sole (w6.setCell ⟨b7, 1, none⟩ (.slice (some ⟨w6.heap.size, 0, none⟩) 1 1)) w.heap.size 3 #[.int .i64 x] hb7s.size
          rw [hsz] at ho8
          go_upto_region 10 with fail
          generalize ((w6.setCell ⟨b7, 1, none⟩ (.slice (some ⟨w6.heap.size, 0, none⟩) 1 1)).alloc (.cells #[.int .i64 x] 3)) = w8 at *
          clear hbx hsz k7s hM7 hb7s
          have hz8 := hb8.size
          clear y0 y1
          obtain ⟨y0, y1⟩ := bk2 kx1
          go_wp2_with (at_builtin; ((refine app_one Tryz.underlying30 info_mg rfl (by decide) _ w.heap.size _ L.length _ hM8.out.row (by unfold maxLen; omega) (by omega) (by omega) _ rfl (by simp [Value.oneCell']) rfl _ _ rfl rfl rfl ?_); intro g9 cap9 w9 hown9 hgr9 hat9 hlt9))
          have hP8 := hM8.out.push (p := ⟨nm, .slice (some ⟨w6.heap.size, 0, none⟩) 1 1, [x]⟩) ho8 (by simp) hgr9 hown9
          go_roundw
          case rel => exact ⟨q + 1, _, by omega, by go_num, by simp; omega, Lib.hid hP8, below_own hb8 hM8.out.row hgr9 hz8 (Nat.le_refl _), ks8.grown hgr9 (own_ne hM8.out.row ks8 (by decide))⟩
          case measure => simp [intOf]; omega
        · go_upto_region 10 with fail
          go_wp2_with (at_builtin; ((refine app_one Tryz.underlying30 info_mg rfl (by decide) _ w.heap.size _ L.length _ hM6.out.row (by unfold maxLen; omega) (by omega) (by omega) _ rfl (by simp [Value.oneCell']) rfl _ _ rfl rfl rfl ?_); intro g9 cap9 w9 hown9 hgr9 hat9 hlt9))
          have hP8 := hM6.out.push (p := ⟨nm, .slice A7 on.length c7, on⟩) ho6 hl7 hgr9 hown9
          go_roundw
          case rel => exact ⟨q + 1, _, by omega, by go_num, by simp; omega, Lib.hid hP8, below_own hb06 hM6.out.row hgr9 hz6 (Nat.le_refl _), ks6.grown hgr9 (own_ne hM6.out.row ks6 (by decide))⟩
          case measure => simp [intOf]; omega
      · have e4 : (pk != 1) = true := by simp [hk1]
        clear hk1
        go_wp2
        go_roundw
        case rel => exact ⟨q + 1, L, by omega, by go_num, by omega, hM, hbr, ksr⟩
        case measure => simp [intOf]; omega
    · obtain rfl : q = n := by omega
      go_wp2
      exact bodyPost_ret (v := .slice A5 L.length c5) (by simp [results, Tryz.results50, go_sem]) rfl ⟨_, L, rfl, hM.out, hL, hbr⟩
end
set_option maxRecDepth 100000 in
set_option maxHeartbeats 2000000 in
theorem means7_any (base c : Nat) (A : Option Addr) (l : List Mg) (s : ByteArray) (w : World) (h : MgsIn w base (.slice A l.length c) l) (hl : l.length ≤ 100000) : Calls Tryz.prog 195 #[.slice A l.length c, .string s] w (NsOut 256 w) := by
  have H := Lib.hid h
  clear h
  obtain ⟨n, hn⟩ : ∃ n, n = l.length := ⟨_, rfl⟩
  rw [← hn] at H hl ⊢
  have HN := Lib.hid hn
  clear hn
  go_enter Tryz.func195, Tryz.ntmps195
  go_wp2
  go_loop [5] (fun j => ∃ k : Nat, k ≤ n ∧ j = .int .i64 k) (fun j => n - (intOf j).toNat)
  case atStart => exact ⟨0, by omega, rfl⟩
  case round =>
    obtain ⟨k, hk, rfl⟩ := hrel
    by_cases hlt : k < n
    · have e3 : (k : Int) < n := by omega
      obtain ⟨p, hp⟩ : ∃ p, l[k]? = some p := ⟨_, List.getElem?_eq_getElem (by have := HN.out; omega)⟩
      have hpo := H.out.own p (List.mem_of_getElem? hp)
      have hpl := H.out.ol p (List.mem_of_getElem? hp)
      obtain ⟨b, o, rfl, hb, c0, c1⟩ := H.out.at_ hp
      obtain ⟨Ap, cp, ep, -, -, -, hr⟩ := own_form hpo
      rw [ep] at c1
      have hls := Lib.hid (list3_any Ap p.on.length cp p.on w hr (by unfold maxLen; omega))
      clear hp hpo hr ep
      cases he : (p.nm.toList == s.toList) with
      | true =>
        go_wp2_with (go_at_call 222; fail)
        refine hls.out.mono ?_
        rintro e w1 ⟨v, rfl, hv, hb1⟩
        go_wp2
        go_ret
        exact ⟨v, rfl, hv, hb1⟩
      | false =>
        go_wp2
        go_round
        case rel => exact ⟨k + 1, by omega, by go_num⟩
        case measure => simp [intOf]; omega
    · obtain rfl : k = n := by omega
      go_wp2
      go_ret
      exact ⟨_, rfl, NsIn.nil _ _ _, Below.refl _ _⟩
/-- how often a part is laid -/
def tms (p : Pt) : Nat := if p.k = 4 then (if p.hi < 0 then (max p.lo 1).toNat else p.hi.toNat) else 1
/-- how many places a part has -/
def mn (l : List Pt) (i : Nat) : Nat :=
  match l[i]? with
  | none => 0
  | some p => if p.k = 1 then 1 else ((p.ks.map fun x => if x < i then mn l x else 0).sum) * tms p
termination_by i
theorem mn_eq {l : List Pt} {i : Nat} {p : Pt} (hp : l[i]? = some p) (hk : ∀ x ∈ p.ks, x < i) : mn l i = if p.k = 1 then 1 else (p.ks.map (mn l)).sum * tms p := by
  rw [mn, hp]
  dsimp only
  split
  · rfl
  · congr 2
    exact List.map_congr_left fun x hx => by rw [if_pos (hk x hx)]
theorem map_take {l : List Pt} {ks : List Nat} {q x : Nat} (h : ks[q]? = some x) : ((ks.take (q + 1)).map (mn l)).sum = ((ks.take q).map (mn l)).sum + mn l x := by
  rw [List.take_add_one, h, Option.toList_some, List.map_append, List.sum_append]; simp
theorem min_mul (a t : Nat) (ht : t ≤ 20) : min (min a 257 * t) 257 = min (a * t) 257 := by
  rcases Nat.lt_or_ge 257 a with h | h
  · rw [Nat.min_eq_right (Nat.le_of_lt h)]
    rcases Nat.eq_zero_or_pos t with rfl | ht
    · simp
    · rw [Nat.min_eq_right (Nat.le_mul_of_pos_right 257 ht), Nat.min_eq_right (Nat.le_trans (Nat.le_of_lt h) (Nat.le_mul_of_pos_right a ht))]
  · rw [Nat.min_eq_left h]
def ManyAny (n c : Nat) (A : Option Addr) (l : List Pt) (i : Nat) : Prop := ∀ (base : Nat) (w : World), Parts w base (.slice A n c) n l → i < n → n ≤ 1000 → Calls Tryz.prog 104 #[.slice A n c, .int .i64 i] w fun e w' => e = .returned (.int .i64 (min (mn l i) 257 : Nat)) ∧ Below w.heap.size w w'
set_option maxRecDepth 100000 in
set_option maxHeartbeats 8000000 in
theorem many_step (n c : Nat) (A : Option Addr) (l : List Pt) (i : Nat) (ih : ∀ i', i' < i → ManyAny n c A l i') : ManyAny n c A l i := by
  intro base w hp hi hn
  obtain ⟨p, hpi⟩ : ∃ p, l[i]? = some p := ⟨_, List.getElem?_eq_getElem (by rw [hp.len]; exact hi)⟩
  have hok := hp.ok i p hpi
  have hkown := hp.own i p hpi
  have hkl : p.ks.length = p.m := by have := hkown.1; simpa [nts] using this
  have hmn := mn_eq hpi hok.kid
  obtain ⟨ab, ao, rfl, hab, hcc⟩ := hp.at_ hpi
  have c0 : w.cell? ⟨ab, ao + i * 5, none⟩ = some (.int .i64 p.k) := hcc 0 (by omega)
  have c1 : w.cell? ⟨ab, ao + i * 5 + 1, none⟩ = some (.int .i64 p.lo) := hcc 1 (by omega)
  have c2 : w.cell? ⟨ab, ao + i * 5 + 2, none⟩ = some (.int .i64 p.hi) := hcc 2 (by omega)
  have c3 : w.cell? ⟨ab, ao + i * 5 + 3, none⟩ = some (.string p.nm) := hcc 3 (by omega)
  have c4 : w.cell? ⟨ab, ao + i * 5 + 4, none⟩ = some (.slice p.A p.m p.c) := hcc 4 (by omega)
  unfold tms at hmn
  obtain ⟨pk, plo, phi, pnm, pA, pm, pc, pks, ps⟩ := p
  obtain ⟨⟨k1, k2⟩, ⟨lo1, lo2⟩, ⟨hi1, hi2⟩, nm1, -, -, m1, kid1⟩ := hok
  dsimp only at *
  have HP := Lib.hid hp
  have HKO := Lib.hid hkown
  have HKL := Lib.hid hkl
  have HKID := Lib.hid kid1
  have IH := Lib.hid ih
  have HMN := Lib.hid hmn
  have i0 : (0 : Int) ≤ i := by omega
  have i1 : (i : Int) < n := by omega
  clear hp hkown hkl kid1 ih hcc hpi hmn
  go_enter Tryz.func104, Tryz.ntmps104
  go_upto_region 2 with fail
  have kp := Bk.new w 192 #[.int .i64 pk, .int .i64 plo, .int .i64 phi, .string pnm, .slice pA pm pc]
  have hb0 : Below w.heap.size w (w.alloc (.cells #[.int .i64 pk, .int .i64 plo, .int .i64 phi, .string pnm, .slice pA pm pc] 192)) := belowA
  generalize w.alloc (.cells #[.int .i64 pk, .int .i64 plo, .int .i64 phi, .string pnm, .slice pA pm pc] 192) = w0 at *
  clear c0 c1 c2 c3 c4
  obtain ⟨q0, q1, q2, q3, q4⟩ := bk5 kp
  by_cases hk1 : pk = 1
  · have e1 : (pk == 1) = true := by simp [hk1]
    have HE := Lib.hid (show mn l i = 1 by rw [HMN.out, if_pos hk1])
    clear hk1
    go_wp2
    go_ret
    exact ⟨ret_int (by rw [HE.out]; rfl), hb0⟩
  have e1 : (pk == 1) = false := beq_false_of_ne hk1
  have HE := Lib.hid (show mn l i = _ by rw [HMN.out, if_neg hk1])
  clear hk1 HMN
  go_wp2
  go_loopw [6, 7] (fun v j wr => ∃ (q : Nat) (z : Int), q ≤ pm ∧ j = .int .i64 q ∧ v = .int .i64 z ∧ 0 ≤ z ∧ z ≤ 257 ∧ Hid (z = (min ((pks.take q).map (mn l)).sum 257 : Nat)) ∧ Below w0.heap.size w0 wr) (fun _ j _ => pm - (intOf j).toNat)
  case atStart => exact ⟨0, 0, by omega, rfl, rfl, by omega, by omega, Lib.hid (by simp), Below.refl _ _⟩
  case round =>
    obtain ⟨q, z, hq, rfl, rfl, hz1, hz2, hz, hbr⟩ := hrel
    have kpr := kp.ext hbr
    clear q0 q1 q2 q3 q4
    obtain ⟨q0, q1, q2, q3, q4⟩ := bk5 kpr
    have hbw := hb0.trans (hbr.mono hb0.size)
    by_cases hlt : q < pm
    · have e3 : (q : Int) < pm := by omega
      obtain ⟨x, hx⟩ : ∃ x, pks[q]? = some x := ⟨_, List.getElem?_eq_getElem (by rw [HKL.out]; exact hlt)⟩
      have hxi := HKID.out x (List.mem_of_getElem? hx)
      have hkx := map_take (l := l) hx
      obtain ⟨kb, ko, rfl, hkc⟩ := nts_cell (own_below HKO.out hbw) (show 0 < pm by omega)
      have hk0 := hkc q x hx
      have hih := Lib.hid (IH.out x hxi base wr (HP.out.below hbw) (by omega) hn)
      have HKX := Lib.hid hkx
      clear hx hkc hkx
      go_wp2_with (go_at_call 104; fail)
      refine hih.out.mono ?_
      rintro e w1 ⟨rfl, hb1⟩
      obtain ⟨y, hy⟩ : ∃ y : Nat, y = min (mn l x) 257 := ⟨_, rfl⟩
      have hy2 : y ≤ 257 := by omega
      have HY := Lib.hid hy
      rw [← hy]
      clear hy
      go_wp2
      all_goals
        (go_roundw
         case rel => exact ⟨q + 1, _, by omega, by go_num, rfl, by omega, by omega, Lib.hid (by rw [HKX.out]; have h1 := hz.out; have h2 := HY.out; omega), hbr.trans (hb1.mono hbr.size)⟩
         case measure => simp [intOf]; omega)
    · obtain rfl : pm = q := by omega
      have hfull : z = (min (pks.map (mn l)).sum 257 : Nat) := by
        have := hz.out
        rwa [List.take_of_length_le (by rw [HKL.out]; exact Nat.le_refl _)] at this
      obtain ⟨S, hS⟩ : ∃ S, S = (pks.map (mn l)).sum := ⟨_, rfl⟩
      rw [← hS] at hfull
      have HES : Hid (mn l i = S * (if pk = 4 then (if phi < 0 then (max plo 1).toNat else phi.toNat) else 1)) := Lib.hid (by rw [HE.out, hS])
      clear hz HE hS
      by_cases hk4 : pk = 4
      · have e4 : (pk == 4) = true := by simp [hk4]
        by_cases hneg : phi < 0
        · obtain ⟨t, ht⟩ : ∃ t : Nat, (t : Int) = max plo 1 := ⟨(max plo 1).toNat, by omega⟩
          have ht1 : t ≤ 20 ∧ 1 ≤ t := by omega
          have HR : Hid (min (mn l i) 257 = min (min S 257 * t) 257) := Lib.hid (by rw [HES.out, if_pos hk4, if_pos hneg, min_mul S t ht1.1, ← ht, Int.toNat_natCast])
          have HF := Lib.hid hfull
          have HT := Lib.hid ht
          by_cases hl : plo < 1
          · have hzz : z = ((min S 257 * t : Nat) : Int) := by
              have h1 := HT.out
              have h2 : t = 1 := by omega
              rw [h2, Nat.mul_one]
              exact HF.out
            have HZ := Lib.hid hzz
            clear hzz
            clear hk4 hfull ht
            go_wp2
            all_goals
              go_ret
              exact ⟨ret_int (by rw [HR.out]; have h1 := HZ.out; omega), hbw⟩
          · have hzz : ∀ u : Int, u = z * plo → u = ((min S 257 * t : Nat) : Int) := by
              intro u hu
              have h1 := HT.out
              have h2 : plo = t := by omega
              rw [hu, h2, HF.out]
              simp
            have HZ := Lib.hid hzz
            clear hzz
            have hp1 : 0 ≤ z * plo := Int.mul_nonneg hz1 (by omega)
            have hp2 : z * plo ≤ 5140 := Int.le_trans (Int.mul_le_mul hz2 (show plo ≤ 20 by omega) (by omega) (by omega)) (by omega)
            clear hk4 hfull ht
            go_wp2
            all_goals
              go_ret
              exact ⟨ret_int (by rw [HR.out]; have h1 := HZ.out _ rfl; omega), hbw⟩
        · obtain ⟨t, rfl⟩ : ∃ t : Nat, phi = (t : Int) := ⟨phi.toNat, by omega⟩
          have ht1 : t ≤ 20 := by omega
          have HR : Hid (min (mn l i) 257 = min (min S 257 * t) 257) := Lib.hid (by rw [HES.out, if_pos hk4, if_neg hneg, min_mul S t ht1, Int.toNat_natCast])
          have HF := Lib.hid hfull
          have hprod : (0 : Int) ≤ z * t ∧ z * t ≤ 5140 :=
            ⟨Int.mul_nonneg hz1 (by omega), Int.le_trans (Int.mul_le_mul hz2 (show (t : Int) ≤ 20 by omega) (by omega) (by omega)) (by omega)⟩
          obtain ⟨hp1, hp2⟩ := hprod
          have HZ : Hid (∀ u : Int, u = z * t → u = ((min S 257 * t : Nat) : Int)) := Lib.hid (fun u hu => by rw [hu, HF.out]; simp)
          clear hk4 hfull
          go_wp2
          all_goals
            go_ret
            exact ⟨ret_int (by rw [HR.out]; have h1 := HZ.out _ rfl; omega), hbw⟩
      · have e4 : (pk == 4) = false := beq_false_of_ne hk4
        have HR : Hid (min (mn l i) 257 = min S 257) := Lib.hid (by rw [HES.out, if_neg hk4, Nat.mul_one])
        have HF := Lib.hid hfull
        clear hk4 hfull
        go_wp2
        all_goals
          go_ret
          exact ⟨ret_int (by rw [HR.out]; have := HF.out; omega), hbw⟩
end Go.Proofs.YtmacfoebfpljoaaGreat
