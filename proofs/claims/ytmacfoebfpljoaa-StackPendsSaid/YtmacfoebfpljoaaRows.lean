/-
  No cell of these rows narrows 'for every input' (looked for: loops, veiled, ifaces, maps, wideKeys, modest, calm, conditions, laid).
  DERIVED. THE GIVEN ROWS OF THIS SEAT. 3 by the template 'for every input the law returns true; each argument reads behind the call as it read before'; 0 by the template 'total and deterministic' (their statements: YtmacfoebfpljoaaTotals.lean).
  GIVEN WITH THE SEED: the statements are not yours to turn. If you find one false, say at which input.
  Laid BY PROGRAM, IN A SANDBOX (cutbox-rows.mjs): the forced cells as the released guide's own fill.sh prints them over the translation da78b76b35b5095b… (all of the seat's roots in one cut). By AI agents, Wed Nov 11 2026. No macro, syntax, notation, axiom, sorry.
-/
import Derived.Test.YtmacfoebfpljoaaChecked
import GoSem.Claim
import GoSem.ClaimJoined
import GoSem.ClaimMapViews
import Derived.JoinedTies
import Derived.KernelRfl
namespace Go.Proofs.Ytmacfoebfpljoaa
/- THE CELL 'sum', in the pinned program and in every row, IS THE sha256 OF THE DUMP (.gsa) THAT YtmacfoebfpljoaaProg.lean LOADS. Nothing in Lean hashes anything: it is a label: what it is worth is what the hold of that sum in a sandbox is worth. -/
noncomputable def Try.pinned : Pinned := { name := "ytmacfoebfpljoaa", sum := "da78b76b35b5095b05754bfb6c2c21a42684b1db6fed95c61da47d3df5ceb7bb", checked := Try.checked }
namespace Rows
def none {H : Type} : Left H := { results := [], args := [] }

/-- 'stetlaw35.ChainCut': WHATEVER THE INPUT: true; the input reads as it did. -/
def chainCutSpec : ChangeSpec := { name := "chainCut", fn := fun _ => fun
  | [d1, d2] => { results := [.lit (.bool true)], args := [d1, d2] }
  | _ => none }
def chainCutRow : OpenClaim := { program := "ytmacfoebfpljoaa", sum := "da78b76b35b5095b05754bfb6c2c21a42684b1db6fed95c61da47d3df5ceb7bb", func := "stet/stetlaw35.ChainCut", spec := "chainCut", unfollowed := true, recurses := true, apart := false }
def ChainCutSaid : Prop := chainCutRow.holds Try.pinned (OpenSpec.ofChange chainCutSpec)

/-- ITS FALSE NEIGHBOUR: 'it returns false'. Refute it at one input. -/
def chainCutWrong : ChangeSpec := { name := "chainCut", fn := fun _ => fun
  | [d1, d2] => { results := [.lit (.bool false)], args := [d1, d2] }
  | _ => none }
def ChainCutWrongFalsely : Prop := chainCutRow.holds Try.pinned (OpenSpec.ofChange chainCutWrong)

/-- 'stetlaw35.ChainMoves': WHATEVER THE INPUT: true; the input reads as it did. -/
def chainMovesSpec : ChangeSpec := { name := "chainMoves", fn := fun _ => fun
  | [d1, d2] => { results := [.lit (.bool true)], args := [d1, d2] }
  | _ => none }
def chainMovesRow : OpenClaim := { program := "ytmacfoebfpljoaa", sum := "da78b76b35b5095b05754bfb6c2c21a42684b1db6fed95c61da47d3df5ceb7bb", func := "stet/stetlaw35.ChainMoves", spec := "chainMoves", unfollowed := true, recurses := true, apart := false }
def ChainMovesSaid : Prop := chainMovesRow.holds Try.pinned (OpenSpec.ofChange chainMovesSpec)

/-- ITS FALSE NEIGHBOUR: 'it returns false'. Refute it at one input. -/
def chainMovesWrong : ChangeSpec := { name := "chainMoves", fn := fun _ => fun
  | [d1, d2] => { results := [.lit (.bool false)], args := [d1, d2] }
  | _ => none }
def ChainMovesWrongFalsely : Prop := chainMovesRow.holds Try.pinned (OpenSpec.ofChange chainMovesWrong)

/-- 'stetlaw37.StackPends': WHATEVER THE INPUT: true; the input reads as it did. -/
def stackPendsSpec : ChangeSpec := { name := "stackPends", fn := fun _ => fun
  | [d] => { results := [.lit (.bool true)], args := [d] }
  | _ => none }
def stackPendsRow : OpenClaim := { program := "ytmacfoebfpljoaa", sum := "da78b76b35b5095b05754bfb6c2c21a42684b1db6fed95c61da47d3df5ceb7bb", func := "stet/stetlaw37.StackPends", spec := "stackPends", unfollowed := true, recurses := true, apart := false }
def StackPendsSaid : Prop := stackPendsRow.holds Try.pinned (OpenSpec.ofChange stackPendsSpec)

/-- ITS FALSE NEIGHBOUR: 'it returns false'. Refute it at one input. -/
def stackPendsWrong : ChangeSpec := { name := "stackPends", fn := fun _ => fun
  | [d] => { results := [.lit (.bool false)], args := [d] }
  | _ => none }
def StackPendsWrongFalsely : Prop := stackPendsRow.holds Try.pinned (OpenSpec.ofChange stackPendsWrong)

/- THE SECOND FORM. 'bulk': how many values and letters a reading holds, each counted each time it is reached (what is shared counts as often as it is met; a slice's spare places count too). A statement '..UptoSaid' is the law's where the arguments, and the package variables that the reading takes, are together of bulk at most 1048576: NARROWER than '..Said'. Prove '..Said' where nothing that the law and all that it calls make is longer than what came in: it says more and counts as full. Else prove '..UptoSaid'. A law counts once. -/
mutual
def uptoBulk {H : Type} : DataW H → Nat
  | .lit (.string bytes) => bytes.length + 1
  | .lit _ => 1
  | .nil => 1
  | .ptr d => uptoBulk d + 1
  | .slice elems spare => uptoBulkAll elems + uptoBulkAll spare + 1
  | .agg parts => uptoBulkAll parts + 1
  | .iface _ d => uptoBulk d + 1
  | .map entries => uptoBulkEntries entries + 1
  | .held _ => 1
def uptoBulkAll {H : Type} : List (DataW H) → Nat
  | [] => 0
  | d :: r => uptoBulk d + uptoBulkAll r
def uptoBulkEntries {H : Type} : List (Lit × DataW H) → Nat
  | [] => 0
  | x :: r => uptoBulkEntry x + uptoBulkEntries r
def uptoBulkEntry {H : Type} : Lit × DataW H → Nat
  | (.string bytes, d) => bytes.length + uptoBulk d + 1
  | (_, d) => uptoBulk d + 1
 end
def uptoSmall : (H : Type) → List (DataW H) → Bool := fun _ ds => decide (uptoBulkAll ds ≤ 1048576)
def OpenSpec.upto (s : _root_.Go.ChangeSpec) : _root_.Go.OpenSpec := { _root_.Go.OpenSpec.ofChange s with cond := some uptoSmall }

/-- 'stetlaw35.ChainCut', WHERE WHAT IT READS IS OF BULK AT MOST 1048576: true; the input reads as it did. -/
def chainCutUptoRow : OpenClaim := { program := "ytmacfoebfpljoaa", sum := "da78b76b35b5095b05754bfb6c2c21a42684b1db6fed95c61da47d3df5ceb7bb", func := "stet/stetlaw35.ChainCut", spec := "chainCut", unfollowed := true, recurses := true, apart := false, narrowed := true }
def ChainCutUptoSaid : Prop := chainCutUptoRow.holds Try.pinned (OpenSpec.upto chainCutSpec)

/-- 'stetlaw35.ChainMoves', WHERE WHAT IT READS IS OF BULK AT MOST 1048576: true; the input reads as it did. -/
def chainMovesUptoRow : OpenClaim := { program := "ytmacfoebfpljoaa", sum := "da78b76b35b5095b05754bfb6c2c21a42684b1db6fed95c61da47d3df5ceb7bb", func := "stet/stetlaw35.ChainMoves", spec := "chainMoves", unfollowed := true, recurses := true, apart := false, narrowed := true }
def ChainMovesUptoSaid : Prop := chainMovesUptoRow.holds Try.pinned (OpenSpec.upto chainMovesSpec)

/-- 'stetlaw37.StackPends', WHERE WHAT IT READS IS OF BULK AT MOST 1048576: true; the input reads as it did. -/
def stackPendsUptoRow : OpenClaim := { program := "ytmacfoebfpljoaa", sum := "da78b76b35b5095b05754bfb6c2c21a42684b1db6fed95c61da47d3df5ceb7bb", func := "stet/stetlaw37.StackPends", spec := "stackPends", unfollowed := true, recurses := true, apart := false, narrowed := true }
def StackPendsUptoSaid : Prop := stackPendsUptoRow.holds Try.pinned (OpenSpec.upto stackPendsSpec)

end Rows
end Go.Proofs.Ytmacfoebfpljoaa
