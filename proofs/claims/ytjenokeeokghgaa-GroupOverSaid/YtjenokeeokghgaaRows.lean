/-
  No cell of these rows narrows 'for every input' (looked for: loops, veiled, ifaces, maps, wideKeys, modest, calm, conditions, laid).
  DERIVED. THE GIVEN ROWS OF THIS SEAT. 3 by the template 'for every input the law returns true; each argument reads behind the call as it read before'; 0 by the template 'total and deterministic' (their statements: YtjenokeeokghgaaTotals.lean).
  GIVEN WITH THE SEED: the statements are not yours to turn. If you find one false, say at which input.
  Laid BY PROGRAM, IN A SANDBOX (cutbox-rows.mjs): the forced cells as the released guide's own fill.sh prints them over the translation 1bd373011c2870d4… (all of the seat's roots in one cut). By AI agents, Wed Nov 11 2026. No macro, syntax, notation, axiom, sorry.
-/
import Derived.Test.YtjenokeeokghgaaChecked
import GoSem.Claim
import GoSem.ClaimJoined
import GoSem.ClaimMapViews
import Derived.JoinedTies
import Derived.KernelRfl
namespace Go.Proofs.Ytjenokeeokghgaa
/- THE CELL 'sum', in the pinned program and in every row, IS THE sha256 OF THE DUMP (.gsa) THAT YtjenokeeokghgaaProg.lean LOADS. Nothing in Lean hashes anything: it is a label: what it is worth is what the hold of that sum in a sandbox is worth. -/
noncomputable def Try.pinned : Pinned := { name := "ytjenokeeokghgaa", sum := "1bd373011c2870d4d60ceed8b2f0a91f560336d6122da86ed030cd1448aa4d37", checked := Try.checked }
namespace Rows
def none {H : Type} : Left H := { results := [], args := [] }

/-- 'stetlaw36.GroupFresh': WHATEVER THE INPUT: true; the input reads as it did. -/
def groupFreshSpec : ChangeSpec := { name := "groupFresh", fn := fun _ => fun
  | [d1, d2, d3, d4] => { results := [.lit (.bool true)], args := [d1, d2, d3, d4] }
  | _ => none }
def groupFreshRow : OpenClaim := { program := "ytjenokeeokghgaa", sum := "1bd373011c2870d4d60ceed8b2f0a91f560336d6122da86ed030cd1448aa4d37", func := "stet/stetlaw36.GroupFresh", spec := "groupFresh", unfollowed := true, recurses := true, apart := false }
def GroupFreshSaid : Prop := groupFreshRow.holds Try.pinned (OpenSpec.ofChange groupFreshSpec)

/-- ITS FALSE NEIGHBOUR: 'it returns false'. Refute it at one input. -/
def groupFreshWrong : ChangeSpec := { name := "groupFresh", fn := fun _ => fun
  | [d1, d2, d3, d4] => { results := [.lit (.bool false)], args := [d1, d2, d3, d4] }
  | _ => none }
def GroupFreshWrongFalsely : Prop := groupFreshRow.holds Try.pinned (OpenSpec.ofChange groupFreshWrong)

/-- 'stetlaw36.GroupShifts': WHATEVER THE INPUT: true; the input reads as it did. -/
def groupShiftsSpec : ChangeSpec := { name := "groupShifts", fn := fun _ => fun
  | [d1, d2, d3, d4, d5] => { results := [.lit (.bool true)], args := [d1, d2, d3, d4, d5] }
  | _ => none }
def groupShiftsRow : OpenClaim := { program := "ytjenokeeokghgaa", sum := "1bd373011c2870d4d60ceed8b2f0a91f560336d6122da86ed030cd1448aa4d37", func := "stet/stetlaw36.GroupShifts", spec := "groupShifts", unfollowed := true, recurses := true, apart := false }
def GroupShiftsSaid : Prop := groupShiftsRow.holds Try.pinned (OpenSpec.ofChange groupShiftsSpec)

/-- ITS FALSE NEIGHBOUR: 'it returns false'. Refute it at one input. -/
def groupShiftsWrong : ChangeSpec := { name := "groupShifts", fn := fun _ => fun
  | [d1, d2, d3, d4, d5] => { results := [.lit (.bool false)], args := [d1, d2, d3, d4, d5] }
  | _ => none }
def GroupShiftsWrongFalsely : Prop := groupShiftsRow.holds Try.pinned (OpenSpec.ofChange groupShiftsWrong)

/-- 'stetlaw36.GroupOver': WHATEVER THE INPUT: true; the input reads as it did. -/
def groupOverSpec : ChangeSpec := { name := "groupOver", fn := fun _ => fun
  | [d1, d2] => { results := [.lit (.bool true)], args := [d1, d2] }
  | _ => none }
def groupOverRow : OpenClaim := { program := "ytjenokeeokghgaa", sum := "1bd373011c2870d4d60ceed8b2f0a91f560336d6122da86ed030cd1448aa4d37", func := "stet/stetlaw36.GroupOver", spec := "groupOver", unfollowed := true, recurses := true, apart := false }
def GroupOverSaid : Prop := groupOverRow.holds Try.pinned (OpenSpec.ofChange groupOverSpec)

/-- ITS FALSE NEIGHBOUR: 'it returns false'. Refute it at one input. -/
def groupOverWrong : ChangeSpec := { name := "groupOver", fn := fun _ => fun
  | [d1, d2] => { results := [.lit (.bool false)], args := [d1, d2] }
  | _ => none }
def GroupOverWrongFalsely : Prop := groupOverRow.holds Try.pinned (OpenSpec.ofChange groupOverWrong)

/- THE SECOND FORM. 'bulk': how many values and letters a reading holds, each counted each time it is reached (what is shared counts as often as it is met; a slice's spare places count too). A statement '..UptoSaid' is the law's where the arguments, and the package variables that the reading takes, are together of bulk at most 1048576: NARROWER than '..Said'. Prove '..Said' where nothing that the law and all that it calls make is longer than what came in: it says more and counts as full. Else prove '..UptoSaid'. A law counts once. -/
mutual
def uptoBulk {H : Type} : DataW H → Nat
  | .lit (.string bytes) => bytes.length + 1
  | .lit _ => 1
  | .nil => 1
  | .ptr d => uptoBulk d + 1
  | .slice elems spare => uptoBulkAll elems + uptoBulkAll spare + 1
  | .agg parts => uptoBulkAll parts + 1
  | .iface _ d => uptoBulk d + 1
  | .map entries => uptoBulkEntries entries + 1
  | .held _ => 1
def uptoBulkAll {H : Type} : List (DataW H) → Nat
  | [] => 0
  | d :: r => uptoBulk d + uptoBulkAll r
def uptoBulkEntries {H : Type} : List (Lit × DataW H) → Nat
  | [] => 0
  | x :: r => uptoBulkEntry x + uptoBulkEntries r
def uptoBulkEntry {H : Type} : Lit × DataW H → Nat
  | (.string bytes, d) => bytes.length + uptoBulk d + 1
  | (_, d) => uptoBulk d + 1
 end
def uptoSmall : (H : Type) → List (DataW H) → Bool := fun _ ds => decide (uptoBulkAll ds ≤ 1048576)
def OpenSpec.upto (s : _root_.Go.ChangeSpec) : _root_.Go.OpenSpec := { _root_.Go.OpenSpec.ofChange s with cond := some uptoSmall }

/-- 'stetlaw36.GroupFresh', WHERE WHAT IT READS IS OF BULK AT MOST 1048576: true; the input reads as it did. -/
def groupFreshUptoRow : OpenClaim := { program := "ytjenokeeokghgaa", sum := "1bd373011c2870d4d60ceed8b2f0a91f560336d6122da86ed030cd1448aa4d37", func := "stet/stetlaw36.GroupFresh", spec := "groupFresh", unfollowed := true, recurses := true, apart := false, narrowed := true }
def GroupFreshUptoSaid : Prop := groupFreshUptoRow.holds Try.pinned (OpenSpec.upto groupFreshSpec)

/-- 'stetlaw36.GroupShifts', WHERE WHAT IT READS IS OF BULK AT MOST 1048576: true; the input reads as it did. -/
def groupShiftsUptoRow : OpenClaim := { program := "ytjenokeeokghgaa", sum := "1bd373011c2870d4d60ceed8b2f0a91f560336d6122da86ed030cd1448aa4d37", func := "stet/stetlaw36.GroupShifts", spec := "groupShifts", unfollowed := true, recurses := true, apart := false, narrowed := true }
def GroupShiftsUptoSaid : Prop := groupShiftsUptoRow.holds Try.pinned (OpenSpec.upto groupShiftsSpec)

/-- 'stetlaw36.GroupOver', WHERE WHAT IT READS IS OF BULK AT MOST 1048576: true; the input reads as it did. -/
def groupOverUptoRow : OpenClaim := { program := "ytjenokeeokghgaa", sum := "1bd373011c2870d4d60ceed8b2f0a91f560336d6122da86ed030cd1448aa4d37", func := "stet/stetlaw36.GroupOver", spec := "groupOver", unfollowed := true, recurses := true, apart := false, narrowed := true }
def GroupOverUptoSaid : Prop := groupOverUptoRow.holds Try.pinned (OpenSpec.upto groupOverSpec)

end Rows
end Go.Proofs.Ytjenokeeokghgaa
