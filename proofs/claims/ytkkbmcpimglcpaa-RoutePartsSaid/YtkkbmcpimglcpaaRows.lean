/-
  No cell of these rows narrows 'for every input' (looked for: loops, veiled, ifaces, maps, wideKeys, modest, calm, conditions, laid).
  DERIVED. THE GIVEN ROWS OF THIS SEAT. 6 by the template 'for every input the law returns true; each argument reads behind the call as it read before'; 0 by the template 'total and deterministic' (their statements: YtkkbmcpimglcpaaTotals.lean).
  GIVEN WITH THE SEED: the statements are not yours to turn. If you find one false, say at which input.
  Laid BY PROGRAM, IN A SANDBOX (cutbox-rows.mjs): the forced cells as the released guide's own fill.sh prints them over the translation 6b038cbe5aa5ea5a… (all of the seat's roots in one cut). By AI agents, Wed Nov 11 2026. No macro, syntax, notation, axiom, sorry.
-/
import Derived.Test.YtkkbmcpimglcpaaChecked
import GoSem.Claim
import GoSem.ClaimJoined
import GoSem.ClaimMapViews
import Derived.JoinedTies
import Derived.KernelRfl
namespace Go.Proofs.Ytkkbmcpimglcpaa
/- THE CELL 'sum', in the pinned program and in every row, IS THE sha256 OF THE DUMP (.gsa) THAT YtkkbmcpimglcpaaProg.lean LOADS. Nothing in Lean hashes anything: it is a label: what it is worth is what the hold of that sum in a sandbox is worth. -/
noncomputable def Try.pinned : Pinned := { name := "ytkkbmcpimglcpaa", sum := "6b038cbe5aa5ea5aef1dfcb0519ca15522d0bc29b73a603d32533494c36b17bb", checked := Try.checked }
namespace Rows
def none {H : Type} : Left H := { results := [], args := [] }

/-- 'stetlaw23.SmapTells': WHATEVER THE INPUT: true; the input reads as it did. -/
def smapTellsSpec : ChangeSpec := { name := "smapTells", fn := fun _ => fun
  | [d1, d2, d3] => { results := [.lit (.bool true)], args := [d1, d2, d3] }
  | _ => none }
def smapTellsRow : OpenClaim := { program := "ytkkbmcpimglcpaa", sum := "6b038cbe5aa5ea5aef1dfcb0519ca15522d0bc29b73a603d32533494c36b17bb", func := "stet/stetlaw23.SmapTells", spec := "smapTells", unfollowed := true, recurses := true, apart := false }
def SmapTellsSaid : Prop := smapTellsRow.holds Try.pinned (OpenSpec.ofChange smapTellsSpec)

/-- ITS FALSE NEIGHBOUR: 'it returns false'. Refute it at one input. -/
def smapTellsWrong : ChangeSpec := { name := "smapTells", fn := fun _ => fun
  | [d1, d2, d3] => { results := [.lit (.bool false)], args := [d1, d2, d3] }
  | _ => none }
def SmapTellsWrongFalsely : Prop := smapTellsRow.holds Try.pinned (OpenSpec.ofChange smapTellsWrong)

/-- 'stetlaw23.SmapInverts': WHATEVER THE INPUT: true; the input reads as it did. -/
def smapInvertsSpec : ChangeSpec := { name := "smapInverts", fn := fun _ => fun
  | [d1, d2, d3] => { results := [.lit (.bool true)], args := [d1, d2, d3] }
  | _ => none }
def smapInvertsRow : OpenClaim := { program := "ytkkbmcpimglcpaa", sum := "6b038cbe5aa5ea5aef1dfcb0519ca15522d0bc29b73a603d32533494c36b17bb", func := "stet/stetlaw23.SmapInverts", spec := "smapInverts", unfollowed := true, recurses := true, apart := false }
def SmapInvertsSaid : Prop := smapInvertsRow.holds Try.pinned (OpenSpec.ofChange smapInvertsSpec)

/-- ITS FALSE NEIGHBOUR: 'it returns false'. Refute it at one input. -/
def smapInvertsWrong : ChangeSpec := { name := "smapInverts", fn := fun _ => fun
  | [d1, d2, d3] => { results := [.lit (.bool false)], args := [d1, d2, d3] }
  | _ => none }
def SmapInvertsWrongFalsely : Prop := smapInvertsRow.holds Try.pinned (OpenSpec.ofChange smapInvertsWrong)

/-- 'stetlaw23.SmapBack': WHATEVER THE INPUT: true; the input reads as it did. -/
def smapBackSpec : ChangeSpec := { name := "smapBack", fn := fun _ => fun
  | [d1, d2, d3] => { results := [.lit (.bool true)], args := [d1, d2, d3] }
  | _ => none }
def smapBackRow : OpenClaim := { program := "ytkkbmcpimglcpaa", sum := "6b038cbe5aa5ea5aef1dfcb0519ca15522d0bc29b73a603d32533494c36b17bb", func := "stet/stetlaw23.SmapBack", spec := "smapBack", unfollowed := true, recurses := true, apart := false }
def SmapBackSaid : Prop := smapBackRow.holds Try.pinned (OpenSpec.ofChange smapBackSpec)

/-- ITS FALSE NEIGHBOUR: 'it returns false'. Refute it at one input. -/
def smapBackWrong : ChangeSpec := { name := "smapBack", fn := fun _ => fun
  | [d1, d2, d3] => { results := [.lit (.bool false)], args := [d1, d2, d3] }
  | _ => none }
def SmapBackWrongFalsely : Prop := smapBackRow.holds Try.pinned (OpenSpec.ofChange smapBackWrong)

/-- 'stetlaw24.RouteBack': WHATEVER THE INPUT: true; the input reads as it did. -/
def routeBackSpec : ChangeSpec := { name := "routeBack", fn := fun _ => fun
  | [d1, d2, d3] => { results := [.lit (.bool true)], args := [d1, d2, d3] }
  | _ => none }
def routeBackRow : OpenClaim := { program := "ytkkbmcpimglcpaa", sum := "6b038cbe5aa5ea5aef1dfcb0519ca15522d0bc29b73a603d32533494c36b17bb", func := "stet/stetlaw24.RouteBack", spec := "routeBack", unfollowed := true, recurses := true, apart := false }
def RouteBackSaid : Prop := routeBackRow.holds Try.pinned (OpenSpec.ofChange routeBackSpec)

/-- ITS FALSE NEIGHBOUR: 'it returns false'. Refute it at one input. -/
def routeBackWrong : ChangeSpec := { name := "routeBack", fn := fun _ => fun
  | [d1, d2, d3] => { results := [.lit (.bool false)], args := [d1, d2, d3] }
  | _ => none }
def RouteBackWrongFalsely : Prop := routeBackRow.holds Try.pinned (OpenSpec.ofChange routeBackWrong)

/-- 'stetlaw24.RouteTells': WHATEVER THE INPUT: true; the input reads as it did. -/
def routeTellsSpec : ChangeSpec := { name := "routeTells", fn := fun _ => fun
  | [d1, d2, d3] => { results := [.lit (.bool true)], args := [d1, d2, d3] }
  | _ => none }
def routeTellsRow : OpenClaim := { program := "ytkkbmcpimglcpaa", sum := "6b038cbe5aa5ea5aef1dfcb0519ca15522d0bc29b73a603d32533494c36b17bb", func := "stet/stetlaw24.RouteTells", spec := "routeTells", unfollowed := true, recurses := true, apart := false }
def RouteTellsSaid : Prop := routeTellsRow.holds Try.pinned (OpenSpec.ofChange routeTellsSpec)

/-- ITS FALSE NEIGHBOUR: 'it returns false'. Refute it at one input. -/
def routeTellsWrong : ChangeSpec := { name := "routeTells", fn := fun _ => fun
  | [d1, d2, d3] => { results := [.lit (.bool false)], args := [d1, d2, d3] }
  | _ => none }
def RouteTellsWrongFalsely : Prop := routeTellsRow.holds Try.pinned (OpenSpec.ofChange routeTellsWrong)

/-- 'stetlaw24.RouteParts': WHATEVER THE INPUT: true; the input reads as it did. -/
def routePartsSpec : ChangeSpec := { name := "routeParts", fn := fun _ => fun
  | [d1, d2] => { results := [.lit (.bool true)], args := [d1, d2] }
  | _ => none }
def routePartsRow : OpenClaim := { program := "ytkkbmcpimglcpaa", sum := "6b038cbe5aa5ea5aef1dfcb0519ca15522d0bc29b73a603d32533494c36b17bb", func := "stet/stetlaw24.RouteParts", spec := "routeParts", unfollowed := true, recurses := true, apart := false }
def RoutePartsSaid : Prop := routePartsRow.holds Try.pinned (OpenSpec.ofChange routePartsSpec)

/-- ITS FALSE NEIGHBOUR: 'it returns false'. Refute it at one input. -/
def routePartsWrong : ChangeSpec := { name := "routeParts", fn := fun _ => fun
  | [d1, d2] => { results := [.lit (.bool false)], args := [d1, d2] }
  | _ => none }
def RoutePartsWrongFalsely : Prop := routePartsRow.holds Try.pinned (OpenSpec.ofChange routePartsWrong)

/- THE SECOND FORM. 'bulk': how many values and letters a reading holds, each counted each time it is reached (what is shared counts as often as it is met; a slice's spare places count too). A statement '..UptoSaid' is the law's where the arguments, and the package variables that the reading takes, are together of bulk at most 1048576: NARROWER than '..Said'. Prove '..Said' where nothing that the law and all that it calls make is longer than what came in: it says more and counts as full. Else prove '..UptoSaid'. A law counts once. -/
mutual
def uptoBulk {H : Type} : DataW H → Nat
  | .lit (.string bytes) => bytes.length + 1
  | .lit _ => 1
  | .nil => 1
  | .ptr d => uptoBulk d + 1
  | .slice elems spare => uptoBulkAll elems + uptoBulkAll spare + 1
  | .agg parts => uptoBulkAll parts + 1
  | .iface _ d => uptoBulk d + 1
  | .map entries => uptoBulkEntries entries + 1
  | .held _ => 1
def uptoBulkAll {H : Type} : List (DataW H) → Nat
  | [] => 0
  | d :: r => uptoBulk d + uptoBulkAll r
def uptoBulkEntries {H : Type} : List (Lit × DataW H) → Nat
  | [] => 0
  | x :: r => uptoBulkEntry x + uptoBulkEntries r
def uptoBulkEntry {H : Type} : Lit × DataW H → Nat
  | (.string bytes, d) => bytes.length + uptoBulk d + 1
  | (_, d) => uptoBulk d + 1
 end
def uptoSmall : (H : Type) → List (DataW H) → Bool := fun _ ds => decide (uptoBulkAll ds ≤ 1048576)
def OpenSpec.upto (s : _root_.Go.ChangeSpec) : _root_.Go.OpenSpec := { _root_.Go.OpenSpec.ofChange s with cond := some uptoSmall }

/-- 'stetlaw23.SmapTells', WHERE WHAT IT READS IS OF BULK AT MOST 1048576: true; the input reads as it did. -/
def smapTellsUptoRow : OpenClaim := { program := "ytkkbmcpimglcpaa", sum := "6b038cbe5aa5ea5aef1dfcb0519ca15522d0bc29b73a603d32533494c36b17bb", func := "stet/stetlaw23.SmapTells", spec := "smapTells", unfollowed := true, recurses := true, apart := false, narrowed := true }
def SmapTellsUptoSaid : Prop := smapTellsUptoRow.holds Try.pinned (OpenSpec.upto smapTellsSpec)

/-- 'stetlaw23.SmapInverts', WHERE WHAT IT READS IS OF BULK AT MOST 1048576: true; the input reads as it did. -/
def smapInvertsUptoRow : OpenClaim := { program := "ytkkbmcpimglcpaa", sum := "6b038cbe5aa5ea5aef1dfcb0519ca15522d0bc29b73a603d32533494c36b17bb", func := "stet/stetlaw23.SmapInverts", spec := "smapInverts", unfollowed := true, recurses := true, apart := false, narrowed := true }
def SmapInvertsUptoSaid : Prop := smapInvertsUptoRow.holds Try.pinned (OpenSpec.upto smapInvertsSpec)

/-- 'stetlaw23.SmapBack', WHERE WHAT IT READS IS OF BULK AT MOST 1048576: true; the input reads as it did. -/
def smapBackUptoRow : OpenClaim := { program := "ytkkbmcpimglcpaa", sum := "6b038cbe5aa5ea5aef1dfcb0519ca15522d0bc29b73a603d32533494c36b17bb", func := "stet/stetlaw23.SmapBack", spec := "smapBack", unfollowed := true, recurses := true, apart := false, narrowed := true }
def SmapBackUptoSaid : Prop := smapBackUptoRow.holds Try.pinned (OpenSpec.upto smapBackSpec)

/-- 'stetlaw24.RouteBack', WHERE WHAT IT READS IS OF BULK AT MOST 1048576: true; the input reads as it did. -/
def routeBackUptoRow : OpenClaim := { program := "ytkkbmcpimglcpaa", sum := "6b038cbe5aa5ea5aef1dfcb0519ca15522d0bc29b73a603d32533494c36b17bb", func := "stet/stetlaw24.RouteBack", spec := "routeBack", unfollowed := true, recurses := true, apart := false, narrowed := true }
def RouteBackUptoSaid : Prop := routeBackUptoRow.holds Try.pinned (OpenSpec.upto routeBackSpec)

/-- 'stetlaw24.RouteTells', WHERE WHAT IT READS IS OF BULK AT MOST 1048576: true; the input reads as it did. -/
def routeTellsUptoRow : OpenClaim := { program := "ytkkbmcpimglcpaa", sum := "6b038cbe5aa5ea5aef1dfcb0519ca15522d0bc29b73a603d32533494c36b17bb", func := "stet/stetlaw24.RouteTells", spec := "routeTells", unfollowed := true, recurses := true, apart := false, narrowed := true }
def RouteTellsUptoSaid : Prop := routeTellsUptoRow.holds Try.pinned (OpenSpec.upto routeTellsSpec)

/-- 'stetlaw24.RouteParts', WHERE WHAT IT READS IS OF BULK AT MOST 1048576: true; the input reads as it did. -/
def routePartsUptoRow : OpenClaim := { program := "ytkkbmcpimglcpaa", sum := "6b038cbe5aa5ea5aef1dfcb0519ca15522d0bc29b73a603d32533494c36b17bb", func := "stet/stetlaw24.RouteParts", spec := "routeParts", unfollowed := true, recurses := true, apart := false, narrowed := true }
def RoutePartsUptoSaid : Prop := routePartsUptoRow.holds Try.pinned (OpenSpec.upto routePartsSpec)

end Rows
end Go.Proofs.Ytkkbmcpimglcpaa
