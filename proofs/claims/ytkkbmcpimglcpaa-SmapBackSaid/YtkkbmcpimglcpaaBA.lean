/- smap: SmapBack whole -/
import Derived.Test.YtkkbmcpimglcpaaBW
namespace Go.Proofs.Ytkkbmcpimglcpaa
open Go.RowKit

theorem back_any (A : Option Addr) (n c : Nat) (l : List Rg) (a b side : Int) (w : World) (hn : n ≤ maxLen) (hrd : Rd w w.heap.size 3 A n (rgs l)) :
    Calls Try.prog 5 #[.slice A n c, .agg #[.int .i64 a, .int .i64 b], .int .i64 side] w fun e w' => e = .returned (.bool true) ∧ Below w.heap.size w w' := by
  obtain ⟨lo, hi, hab⟩ : ∃ lo hi, LoHi a b lo hi := by
    by_cases h1 : a < b
    · exact ⟨a, b, .inl ⟨h1, by omega, rfl, rfl⟩⟩
    · by_cases h2 : b < a
      · exact ⟨b, a, .inr (.inr ⟨h1, h2, rfl, rfl⟩)⟩
      · exact ⟨a, a, .inr (.inl ⟨h1, h2, rfl, rfl⟩)⟩
  have early := fun hc => back_early A n c l a b lo hi side w hn hrd hab _ _ _ rfl rfl rfl hc
  by_cases h60 : 60 < n
  · exact early (.inl h60)
  · cases hr : rightM l with
    | false => exact early (.inr (.inl ⟨by omega, hr⟩))
    | true =>
      by_cases h1 : 0 ≤ lo ∧ lo ≤ 1099511627776
      · by_cases h2 : 0 ≤ hi ∧ hi ≤ 1099511627776
        · exact back_main A n c l a b lo hi side w (by omega) hrd hab hr h1 h2
        · exact early (.inr (.inr (.inr ⟨by omega, hr, decide_eq_true h1, decide_eq_false h2⟩)))
      · exact early (.inr (.inr (.inl ⟨by omega, hr, decide_eq_false h1⟩)))
end Go.Proofs.Ytkkbmcpimglcpaa
