/-
  No cell of these rows narrows 'for every input' (looked for: loops, veiled, ifaces, maps, wideKeys, modest, calm, conditions, laid).
  DERIVED. THE GIVEN ROWS OF THIS SEAT. 2 by the template 'for every input the law returns true; each argument reads behind the call as it read before'; 0 by the template 'total and deterministic' (their statements: YtiimjkpcljelpaaTotals.lean).
  GIVEN WITH THE SEED: the statements are not yours to turn. If you find one false, say at which input.
  Laid BY PROGRAM, IN A SANDBOX (cutbox-rows.mjs): the forced cells as the released guide's own fill.sh prints them over the translation 11e2101547d7700a… (all of the seat's roots in one cut). By AI agents, Wed Nov 11 2026. No macro, syntax, notation, axiom, sorry.
-/
import Derived.Test.YtiimjkpcljelpaaChecked
import GoSem.Claim
import GoSem.ClaimJoined
import GoSem.ClaimMapViews
import Derived.JoinedTies
import Derived.KernelRfl
namespace Go.Proofs.Ytiimjkpcljelpaa
/- THE CELL 'sum', in the pinned program and in every row, IS THE sha256 OF THE DUMP (.gsa) THAT YtiimjkpcljelpaaProg.lean LOADS. Nothing in Lean hashes anything: it is a label: what it is worth is what the hold of that sum in a sandbox is worth. -/
noncomputable def Try.pinned : Pinned := { name := "ytiimjkpcljelpaa", sum := "11e2101547d7700a2315a36db447580ba2c18a00cd22639b98a3cbfb2dd85fd5", checked := Try.checked }
namespace Rows
def none {H : Type} : Left H := { results := [], args := [] }

/-- 'palfreylaw10.GcmOneBit': WHATEVER THE INPUT: true; the input reads as it did. -/
def gcmOneBitSpec : ChangeSpec := { name := "gcmOneBit", fn := fun _ => fun
  | [d] => { results := [.lit (.bool true)], args := [d] }
  | _ => none }
def gcmOneBitRow : OpenClaim := { program := "ytiimjkpcljelpaa", sum := "11e2101547d7700a2315a36db447580ba2c18a00cd22639b98a3cbfb2dd85fd5", func := "palfrey/palfreylaw10.GcmOneBit", spec := "gcmOneBit", unfollowed := true, recurses := true, apart := false }
def GcmOneBitSaid : Prop := gcmOneBitRow.holds Try.pinned (OpenSpec.ofChange gcmOneBitSpec)

/-- ITS FALSE NEIGHBOUR: 'it returns false'. Refute it at one input. -/
def gcmOneBitWrong : ChangeSpec := { name := "gcmOneBit", fn := fun _ => fun
  | [d] => { results := [.lit (.bool false)], args := [d] }
  | _ => none }
def GcmOneBitWrongFalsely : Prop := gcmOneBitRow.holds Try.pinned (OpenSpec.ofChange gcmOneBitWrong)

/-- 'palfreylaw10.GcmAad': WHATEVER THE INPUT: true; the input reads as it did. -/
def gcmAadSpec : ChangeSpec := { name := "gcmAad", fn := fun _ => fun
  | [d1, d2, d3] => { results := [.lit (.bool true)], args := [d1, d2, d3] }
  | _ => none }
def gcmAadRow : OpenClaim := { program := "ytiimjkpcljelpaa", sum := "11e2101547d7700a2315a36db447580ba2c18a00cd22639b98a3cbfb2dd85fd5", func := "palfrey/palfreylaw10.GcmAad", spec := "gcmAad", unfollowed := true, recurses := true, apart := false }
def GcmAadSaid : Prop := gcmAadRow.holds Try.pinned (OpenSpec.ofChange gcmAadSpec)

/-- ITS FALSE NEIGHBOUR: 'it returns false'. Refute it at one input. -/
def gcmAadWrong : ChangeSpec := { name := "gcmAad", fn := fun _ => fun
  | [d1, d2, d3] => { results := [.lit (.bool false)], args := [d1, d2, d3] }
  | _ => none }
def GcmAadWrongFalsely : Prop := gcmAadRow.holds Try.pinned (OpenSpec.ofChange gcmAadWrong)

/- THE SECOND FORM. 'bulk': how many values and letters a reading holds, each counted each time it is reached (what is shared counts as often as it is met; a slice's spare places count too). A statement '..UptoSaid' is the law's where the arguments, and the package variables that the reading takes, are together of bulk at most 1048576: NARROWER than '..Said'. Prove '..Said' where nothing that the law and all that it calls make is longer than what came in: it says more and counts as full. Else prove '..UptoSaid'. A law counts once. -/
mutual
def uptoBulk {H : Type} : DataW H → Nat
  | .lit (.string bytes) => bytes.length + 1
  | .lit _ => 1
  | .nil => 1
  | .ptr d => uptoBulk d + 1
  | .slice elems spare => uptoBulkAll elems + uptoBulkAll spare + 1
  | .agg parts => uptoBulkAll parts + 1
  | .iface _ d => uptoBulk d + 1
  | .map entries => uptoBulkEntries entries + 1
  | .held _ => 1
def uptoBulkAll {H : Type} : List (DataW H) → Nat
  | [] => 0
  | d :: r => uptoBulk d + uptoBulkAll r
def uptoBulkEntries {H : Type} : List (Lit × DataW H) → Nat
  | [] => 0
  | x :: r => uptoBulkEntry x + uptoBulkEntries r
def uptoBulkEntry {H : Type} : Lit × DataW H → Nat
  | (.string bytes, d) => bytes.length + uptoBulk d + 1
  | (_, d) => uptoBulk d + 1
 end
def uptoSmall : (H : Type) → List (DataW H) → Bool := fun _ ds => decide (uptoBulkAll ds ≤ 1048576)
def OpenSpec.upto (s : _root_.Go.ChangeSpec) : _root_.Go.OpenSpec := { _root_.Go.OpenSpec.ofChange s with cond := some uptoSmall }

/-- 'palfreylaw10.GcmOneBit', WHERE WHAT IT READS IS OF BULK AT MOST 1048576: true; the input reads as it did. -/
def gcmOneBitUptoRow : OpenClaim := { program := "ytiimjkpcljelpaa", sum := "11e2101547d7700a2315a36db447580ba2c18a00cd22639b98a3cbfb2dd85fd5", func := "palfrey/palfreylaw10.GcmOneBit", spec := "gcmOneBit", unfollowed := true, recurses := true, apart := false, narrowed := true }
def GcmOneBitUptoSaid : Prop := gcmOneBitUptoRow.holds Try.pinned (OpenSpec.upto gcmOneBitSpec)

/-- 'palfreylaw10.GcmAad', WHERE WHAT IT READS IS OF BULK AT MOST 1048576: true; the input reads as it did. -/
def gcmAadUptoRow : OpenClaim := { program := "ytiimjkpcljelpaa", sum := "11e2101547d7700a2315a36db447580ba2c18a00cd22639b98a3cbfb2dd85fd5", func := "palfrey/palfreylaw10.GcmAad", spec := "gcmAad", unfollowed := true, recurses := true, apart := false, narrowed := true }
def GcmAadUptoSaid : Prop := gcmAadUptoRow.holds Try.pinned (OpenSpec.upto gcmAadSpec)

end Rows
end Go.Proofs.Ytiimjkpcljelpaa
