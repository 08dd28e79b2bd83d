/-
  No cell of these rows narrows 'for every input' (looked for: loops, veiled, ifaces, maps, wideKeys, modest, calm, conditions, laid).
  DERIVED. THE GIVEN ROWS OF THIS SEAT. 5 by the template 'for every input the law returns true; each argument reads behind the call as it read before'; 0 by the template 'total and deterministic' (their statements: YtmacfoebfpljoaaGreatTotals.lean).
  GIVEN WITH THE SEED: the statements are not yours to turn. If you find one false, say at which input.
  Laid BY PROGRAM, IN A SANDBOX (cutbox-rows.mjs): the forced cells as the released guide's own fill.sh prints them over the translation bb2064ef5ca9e61a… (all of the seat's roots in one cut). By AI agents, Wed Nov 11 2026. No macro, syntax, notation, axiom, sorry.
-/
import Derived.Test.YtmacfoebfpljoaaGreatChecked
import GoSem.Claim
import GoSem.ClaimJoined
import GoSem.ClaimMapViews
import Derived.JoinedTies
import Derived.KernelRfl
namespace Go.Proofs.YtmacfoebfpljoaaGreat
/- THE CELL 'sum', in the pinned program and in every row, IS THE sha256 OF THE DUMP (.gsa) THAT YtmacfoebfpljoaaGreatProg.lean LOADS. Nothing in Lean hashes anything: it is a label: what it is worth is what the hold of that sum in a sandbox is worth. -/
noncomputable def Tryz.pinned : Pinned := { name := "ytmacfoebfpljoaagreat", sum := "bb2064ef5ca9e61a201439964721cb341572b05fb7b624e894774a4bbdea4be8", checked := Tryz.checked }
namespace Rows
def none {H : Type} : Left H := { results := [], args := [] }

/-- 'stetlaw42.LedgerBack': WHATEVER THE INPUT: true; the input reads as it did. -/
def ledgerBackSpec : ChangeSpec := { name := "ledgerBack", fn := fun _ => fun
  | [d1, d2, d3] => { results := [.lit (.bool true)], args := [d1, d2, d3] }
  | _ => none }
def ledgerBackRow : OpenClaim := { program := "ytmacfoebfpljoaagreat", sum := "bb2064ef5ca9e61a201439964721cb341572b05fb7b624e894774a4bbdea4be8", func := "stet/stetlaw42.LedgerBack", spec := "ledgerBack", unfollowed := true, recurses := true, apart := false }
def LedgerBackSaid : Prop := ledgerBackRow.holds Tryz.pinned (OpenSpec.ofChange ledgerBackSpec)

/-- ITS FALSE NEIGHBOUR: 'it returns false'. Refute it at one input. -/
def ledgerBackWrong : ChangeSpec := { name := "ledgerBack", fn := fun _ => fun
  | [d1, d2, d3] => { results := [.lit (.bool false)], args := [d1, d2, d3] }
  | _ => none }
def LedgerBackWrongFalsely : Prop := ledgerBackRow.holds Tryz.pinned (OpenSpec.ofChange ledgerBackWrong)

/-- 'stetlaw43.ApartTells': WHATEVER THE INPUT: true; the input reads as it did. -/
def apartTellsSpec : ChangeSpec := { name := "apartTells", fn := fun _ => fun
  | [d1, d2, d3, d4, d5] => { results := [.lit (.bool true)], args := [d1, d2, d3, d4, d5] }
  | _ => none }
def apartTellsRow : OpenClaim := { program := "ytmacfoebfpljoaagreat", sum := "bb2064ef5ca9e61a201439964721cb341572b05fb7b624e894774a4bbdea4be8", func := "stet/stetlaw43.ApartTells", spec := "apartTells", unfollowed := true, recurses := true, apart := false }
def ApartTellsSaid : Prop := apartTellsRow.holds Tryz.pinned (OpenSpec.ofChange apartTellsSpec)

/-- ITS FALSE NEIGHBOUR: 'it returns false'. Refute it at one input. -/
def apartTellsWrong : ChangeSpec := { name := "apartTells", fn := fun _ => fun
  | [d1, d2, d3, d4, d5] => { results := [.lit (.bool false)], args := [d1, d2, d3, d4, d5] }
  | _ => none }
def ApartTellsWrongFalsely : Prop := apartTellsRow.holds Tryz.pinned (OpenSpec.ofChange apartTellsWrong)

/-- 'stetlaw43.ApartFewer': WHATEVER THE INPUT: true; the input reads as it did. -/
def apartFewerSpec : ChangeSpec := { name := "apartFewer", fn := fun _ => fun
  | [d1, d2, d3, d4, d5] => { results := [.lit (.bool true)], args := [d1, d2, d3, d4, d5] }
  | _ => none }
def apartFewerRow : OpenClaim := { program := "ytmacfoebfpljoaagreat", sum := "bb2064ef5ca9e61a201439964721cb341572b05fb7b624e894774a4bbdea4be8", func := "stet/stetlaw43.ApartFewer", spec := "apartFewer", unfollowed := true, recurses := true, apart := false }
def ApartFewerSaid : Prop := apartFewerRow.holds Tryz.pinned (OpenSpec.ofChange apartFewerSpec)

/-- ITS FALSE NEIGHBOUR: 'it returns false'. Refute it at one input. -/
def apartFewerWrong : ChangeSpec := { name := "apartFewer", fn := fun _ => fun
  | [d1, d2, d3, d4, d5] => { results := [.lit (.bool false)], args := [d1, d2, d3, d4, d5] }
  | _ => none }
def ApartFewerWrongFalsely : Prop := apartFewerRow.holds Tryz.pinned (OpenSpec.ofChange apartFewerWrong)

/-- 'stetlaw37.StackPlays': WHATEVER THE INPUT: true; the input reads as it did. -/
def stackPlaysSpec : ChangeSpec := { name := "stackPlays", fn := fun _ => fun
  | [d1, d2] => { results := [.lit (.bool true)], args := [d1, d2] }
  | _ => none }
def stackPlaysRow : OpenClaim := { program := "ytmacfoebfpljoaagreat", sum := "bb2064ef5ca9e61a201439964721cb341572b05fb7b624e894774a4bbdea4be8", func := "stet/stetlaw37.StackPlays", spec := "stackPlays", unfollowed := true, recurses := true, apart := false }
def StackPlaysSaid : Prop := stackPlaysRow.holds Tryz.pinned (OpenSpec.ofChange stackPlaysSpec)

/-- ITS FALSE NEIGHBOUR: 'it returns false'. Refute it at one input. -/
def stackPlaysWrong : ChangeSpec := { name := "stackPlays", fn := fun _ => fun
  | [d1, d2] => { results := [.lit (.bool false)], args := [d1, d2] }
  | _ => none }
def StackPlaysWrongFalsely : Prop := stackPlaysRow.holds Tryz.pinned (OpenSpec.ofChange stackPlaysWrong)

/-- 'stetlaw37.StackFolds': WHATEVER THE INPUT: true; the input reads as it did. -/
def stackFoldsSpec : ChangeSpec := { name := "stackFolds", fn := fun _ => fun
  | [d1, d2, d3] => { results := [.lit (.bool true)], args := [d1, d2, d3] }
  | _ => none }
def stackFoldsRow : OpenClaim := { program := "ytmacfoebfpljoaagreat", sum := "bb2064ef5ca9e61a201439964721cb341572b05fb7b624e894774a4bbdea4be8", func := "stet/stetlaw37.StackFolds", spec := "stackFolds", unfollowed := true, recurses := true, apart := false }
def StackFoldsSaid : Prop := stackFoldsRow.holds Tryz.pinned (OpenSpec.ofChange stackFoldsSpec)

/-- ITS FALSE NEIGHBOUR: 'it returns false'. Refute it at one input. -/
def stackFoldsWrong : ChangeSpec := { name := "stackFolds", fn := fun _ => fun
  | [d1, d2, d3] => { results := [.lit (.bool false)], args := [d1, d2, d3] }
  | _ => none }
def StackFoldsWrongFalsely : Prop := stackFoldsRow.holds Tryz.pinned (OpenSpec.ofChange stackFoldsWrong)

/- THE SECOND FORM. 'bulk': how many values and letters a reading holds, each counted each time it is reached (what is shared counts as often as it is met; a slice's spare places count too). A statement '..UptoSaid' is the law's where the arguments, and the package variables that the reading takes, are together of bulk at most 1048576: NARROWER than '..Said'. Prove '..Said' where nothing that the law and all that it calls make is longer than what came in: it says more and counts as full. Else prove '..UptoSaid'. A law counts once. -/
mutual
def uptoBulk {H : Type} : DataW H → Nat
  | .lit (.string bytes) => bytes.length + 1
  | .lit _ => 1
  | .nil => 1
  | .ptr d => uptoBulk d + 1
  | .slice elems spare => uptoBulkAll elems + uptoBulkAll spare + 1
  | .agg parts => uptoBulkAll parts + 1
  | .iface _ d => uptoBulk d + 1
  | .map entries => uptoBulkEntries entries + 1
  | .held _ => 1
def uptoBulkAll {H : Type} : List (DataW H) → Nat
  | [] => 0
  | d :: r => uptoBulk d + uptoBulkAll r
def uptoBulkEntries {H : Type} : List (Lit × DataW H) → Nat
  | [] => 0
  | x :: r => uptoBulkEntry x + uptoBulkEntries r
def uptoBulkEntry {H : Type} : Lit × DataW H → Nat
  | (.string bytes, d) => bytes.length + uptoBulk d + 1
  | (_, d) => uptoBulk d + 1
 end
def uptoSmall : (H : Type) → List (DataW H) → Bool := fun _ ds => decide (uptoBulkAll ds ≤ 1048576)
def OpenSpec.upto (s : _root_.Go.ChangeSpec) : _root_.Go.OpenSpec := { _root_.Go.OpenSpec.ofChange s with cond := some uptoSmall }

/-- 'stetlaw42.LedgerBack', WHERE WHAT IT READS IS OF BULK AT MOST 1048576: true; the input reads as it did. -/
def ledgerBackUptoRow : OpenClaim := { program := "ytmacfoebfpljoaagreat", sum := "bb2064ef5ca9e61a201439964721cb341572b05fb7b624e894774a4bbdea4be8", func := "stet/stetlaw42.LedgerBack", spec := "ledgerBack", unfollowed := true, recurses := true, apart := false, narrowed := true }
def LedgerBackUptoSaid : Prop := ledgerBackUptoRow.holds Tryz.pinned (OpenSpec.upto ledgerBackSpec)

/-- 'stetlaw43.ApartTells', WHERE WHAT IT READS IS OF BULK AT MOST 1048576: true; the input reads as it did. -/
def apartTellsUptoRow : OpenClaim := { program := "ytmacfoebfpljoaagreat", sum := "bb2064ef5ca9e61a201439964721cb341572b05fb7b624e894774a4bbdea4be8", func := "stet/stetlaw43.ApartTells", spec := "apartTells", unfollowed := true, recurses := true, apart := false, narrowed := true }
def ApartTellsUptoSaid : Prop := apartTellsUptoRow.holds Tryz.pinned (OpenSpec.upto apartTellsSpec)

/-- 'stetlaw43.ApartFewer', WHERE WHAT IT READS IS OF BULK AT MOST 1048576: true; the input reads as it did. -/
def apartFewerUptoRow : OpenClaim := { program := "ytmacfoebfpljoaagreat", sum := "bb2064ef5ca9e61a201439964721cb341572b05fb7b624e894774a4bbdea4be8", func := "stet/stetlaw43.ApartFewer", spec := "apartFewer", unfollowed := true, recurses := true, apart := false, narrowed := true }
def ApartFewerUptoSaid : Prop := apartFewerUptoRow.holds Tryz.pinned (OpenSpec.upto apartFewerSpec)

/-- 'stetlaw37.StackPlays', WHERE WHAT IT READS IS OF BULK AT MOST 1048576: true; the input reads as it did. -/
def stackPlaysUptoRow : OpenClaim := { program := "ytmacfoebfpljoaagreat", sum := "bb2064ef5ca9e61a201439964721cb341572b05fb7b624e894774a4bbdea4be8", func := "stet/stetlaw37.StackPlays", spec := "stackPlays", unfollowed := true, recurses := true, apart := false, narrowed := true }
def StackPlaysUptoSaid : Prop := stackPlaysUptoRow.holds Tryz.pinned (OpenSpec.upto stackPlaysSpec)

/-- 'stetlaw37.StackFolds', WHERE WHAT IT READS IS OF BULK AT MOST 1048576: true; the input reads as it did. -/
def stackFoldsUptoRow : OpenClaim := { program := "ytmacfoebfpljoaagreat", sum := "bb2064ef5ca9e61a201439964721cb341572b05fb7b624e894774a4bbdea4be8", func := "stet/stetlaw37.StackFolds", spec := "stackFolds", unfollowed := true, recurses := true, apart := false, narrowed := true }
def StackFoldsUptoSaid : Prop := stackFoldsUptoRow.holds Tryz.pinned (OpenSpec.upto stackFoldsSpec)

end Rows
end Go.Proofs.YtmacfoebfpljoaaGreat
