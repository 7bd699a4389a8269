/-
  No cell of these rows narrows 'for every input' (looked for: loops, veiled, ifaces, maps, wideKeys, modest, calm, conditions, laid).
  DERIVED. THE GIVEN ROWS OF THIS SEAT. 12 by the template 'for every input the law returns true; each argument reads behind the call as it read before'; 0 by the template 'total and deterministic' (their statements: YtjbfppakafkkoaaTotals.lean).
  GIVEN WITH THE SEED: the statements are not yours to turn. If you find one false, say at which input.
  Laid BY PROGRAM, IN A SANDBOX (cutbox-rows.mjs): the forced cells as the released guide's own fill.sh prints them over the translation 9272200ace5e928d… (all of the seat's roots in one cut). By AI agents, Wed Nov 11 2026. No macro, syntax, notation, axiom, sorry.
-/
import Derived.Test.YtjbfppakafkkoaaChecked
import GoSem.Claim
import GoSem.ClaimJoined
import GoSem.ClaimMapViews
import Derived.JoinedTies
import Derived.KernelRfl
namespace Go.Proofs.Ytjbfppakafkkoaa
/- THE CELL 'sum', in the pinned program and in every row, IS THE sha256 OF THE DUMP (.gsa) THAT YtjbfppakafkkoaaProg.lean LOADS. Nothing in Lean hashes anything: it is a label: what it is worth is what the hold of that sum in a sandbox is worth. -/
noncomputable def Try.pinned : Pinned := { name := "ytjbfppakafkkoaa", sum := "9272200ace5e928dff416029ffcf8e08f7252abe36ea6edd5483ec0af136872e", checked := Try.checked }
namespace Rows
def none {H : Type} : Left H := { results := [], args := [] }

/-- 'laws.FnExactUnhex': WHATEVER THE INPUT: true; the input reads as it did. -/
def fnExactUnhexSpec : ChangeSpec := { name := "fnExactUnhex", fn := fun _ => fun
  | [d] => { results := [.lit (.bool true)], args := [d] }
  | _ => none }
def fnExactUnhexRow : OpenClaim := { program := "ytjbfppakafkkoaa", sum := "9272200ace5e928dff416029ffcf8e08f7252abe36ea6edd5483ec0af136872e", func := "loop.example/g00237/laws.FnExactUnhex", spec := "fnExactUnhex", inPlace := ["internal/bytealg.IndexByteString"], apart := false }
def FnExactUnhexSaid : Prop := fnExactUnhexRow.holds Try.pinned (OpenSpec.ofChange fnExactUnhexSpec)

/-- ITS FALSE NEIGHBOUR: 'it returns false'. Refute it at one input. -/
def fnExactUnhexWrong : ChangeSpec := { name := "fnExactUnhex", fn := fun _ => fun
  | [d] => { results := [.lit (.bool false)], args := [d] }
  | _ => none }
def FnExactUnhexWrongFalsely : Prop := fnExactUnhexRow.holds Try.pinned (OpenSpec.ofChange fnExactUnhexWrong)

/-- 'laws.FnExactUnsealed': WHATEVER THE INPUT: true; the input reads as it did. -/
def fnExactUnsealedSpec : ChangeSpec := { name := "fnExactUnsealed", fn := fun _ => fun
  | [d] => { results := [.lit (.bool true)], args := [d] }
  | _ => none }
def fnExactUnsealedRow : OpenClaim := { program := "ytjbfppakafkkoaa", sum := "9272200ace5e928dff416029ffcf8e08f7252abe36ea6edd5483ec0af136872e", func := "loop.example/g00237/laws.FnExactUnsealed", spec := "fnExactUnsealed", apart := false }
def FnExactUnsealedSaid : Prop := fnExactUnsealedRow.holds Try.pinned (OpenSpec.ofChange fnExactUnsealedSpec)

/-- ITS FALSE NEIGHBOUR: 'it returns false'. Refute it at one input. -/
def fnExactUnsealedWrong : ChangeSpec := { name := "fnExactUnsealed", fn := fun _ => fun
  | [d] => { results := [.lit (.bool false)], args := [d] }
  | _ => none }
def FnExactUnsealedWrongFalsely : Prop := fnExactUnsealedRow.holds Try.pinned (OpenSpec.ofChange fnExactUnsealedWrong)

/-- 'laws.FnTurned': WHATEVER THE INPUT: true; the input reads as it did. -/
def fnTurnedSpec : ChangeSpec := { name := "fnTurned", fn := fun _ => fun
  | [d] => { results := [.lit (.bool true)], args := [d] }
  | _ => none }
def fnTurnedRow : OpenClaim := { program := "ytjbfppakafkkoaa", sum := "9272200ace5e928dff416029ffcf8e08f7252abe36ea6edd5483ec0af136872e", func := "loop.example/g00237/laws.FnTurned", spec := "fnTurned", apart := false }
def FnTurnedSaid : Prop := fnTurnedRow.holds Try.pinned (OpenSpec.ofChange fnTurnedSpec)

/-- ITS FALSE NEIGHBOUR: 'it returns false'. Refute it at one input. -/
def fnTurnedWrong : ChangeSpec := { name := "fnTurned", fn := fun _ => fun
  | [d] => { results := [.lit (.bool false)], args := [d] }
  | _ => none }
def FnTurnedWrongFalsely : Prop := fnTurnedRow.holds Try.pinned (OpenSpec.ofChange fnTurnedWrong)

/-- 'laws.FnIsNums': WHATEVER THE INPUT: true; the input reads as it did. -/
def fnIsNumsSpec : ChangeSpec := { name := "fnIsNums", fn := fun _ => fun
  | [d] => { results := [.lit (.bool true)], args := [d] }
  | _ => none }
def fnIsNumsRow : OpenClaim := { program := "ytjbfppakafkkoaa", sum := "9272200ace5e928dff416029ffcf8e08f7252abe36ea6edd5483ec0af136872e", func := "loop.example/g00237/laws.FnIsNums", spec := "fnIsNums", apart := false }
def FnIsNumsSaid : Prop := fnIsNumsRow.holds Try.pinned (OpenSpec.ofChange fnIsNumsSpec)

/-- ITS FALSE NEIGHBOUR: 'it returns false'. Refute it at one input. -/
def fnIsNumsWrong : ChangeSpec := { name := "fnIsNums", fn := fun _ => fun
  | [d] => { results := [.lit (.bool false)], args := [d] }
  | _ => none }
def FnIsNumsWrongFalsely : Prop := fnIsNumsRow.holds Try.pinned (OpenSpec.ofChange fnIsNumsWrong)

/-- 'laws.FnExactPatternOk': WHATEVER THE INPUT: true; the input reads as it did. -/
def fnExactPatternOkSpec : ChangeSpec := { name := "fnExactPatternOk", fn := fun _ => fun
  | [d] => { results := [.lit (.bool true)], args := [d] }
  | _ => none }
def fnExactPatternOkRow : OpenClaim := { program := "ytjbfppakafkkoaa", sum := "9272200ace5e928dff416029ffcf8e08f7252abe36ea6edd5483ec0af136872e", func := "loop.example/g00237/laws.FnExactPatternOk", spec := "fnExactPatternOk", apart := false }
def FnExactPatternOkSaid : Prop := fnExactPatternOkRow.holds Try.pinned (OpenSpec.ofChange fnExactPatternOkSpec)

/-- ITS FALSE NEIGHBOUR: 'it returns false'. Refute it at one input. -/
def fnExactPatternOkWrong : ChangeSpec := { name := "fnExactPatternOk", fn := fun _ => fun
  | [d] => { results := [.lit (.bool false)], args := [d] }
  | _ => none }
def FnExactPatternOkWrongFalsely : Prop := fnExactPatternOkRow.holds Try.pinned (OpenSpec.ofChange fnExactPatternOkWrong)

/-- 'laws.FnExactVarOf': WHATEVER THE INPUT: true; the input reads as it did. -/
def fnExactVarOfSpec : ChangeSpec := { name := "fnExactVarOf", fn := fun _ => fun
  | [d1, d2] => { results := [.lit (.bool true)], args := [d1, d2] }
  | _ => none }
def fnExactVarOfRow : OpenClaim := { program := "ytjbfppakafkkoaa", sum := "9272200ace5e928dff416029ffcf8e08f7252abe36ea6edd5483ec0af136872e", func := "loop.example/g00237/laws.FnExactVarOf", spec := "fnExactVarOf", apart := false }
def FnExactVarOfSaid : Prop := fnExactVarOfRow.holds Try.pinned (OpenSpec.ofChange fnExactVarOfSpec)

/-- ITS FALSE NEIGHBOUR: 'it returns false'. Refute it at one input. -/
def fnExactVarOfWrong : ChangeSpec := { name := "fnExactVarOf", fn := fun _ => fun
  | [d1, d2] => { results := [.lit (.bool false)], args := [d1, d2] }
  | _ => none }
def FnExactVarOfWrongFalsely : Prop := fnExactVarOfRow.holds Try.pinned (OpenSpec.ofChange fnExactVarOfWrong)

/-- 'laws.FnDumps': WHATEVER THE INPUT: true; the input reads as it did. -/
def fnDumpsSpec : ChangeSpec := { name := "fnDumps", fn := fun _ => fun
  | [d] => { results := [.lit (.bool true)], args := [d] }
  | _ => none }
def fnDumpsRow : OpenClaim := { program := "ytjbfppakafkkoaa", sum := "9272200ace5e928dff416029ffcf8e08f7252abe36ea6edd5483ec0af136872e", func := "loop.example/g00237/laws.FnDumps", spec := "fnDumps", inPlace := ["internal/bytealg.abigen_runtime_cmpstring"], unfollowed := true, recurses := true, apart := false }
def FnDumpsSaid : Prop := fnDumpsRow.holds Try.pinned (OpenSpec.ofChange fnDumpsSpec)

/-- ITS FALSE NEIGHBOUR: 'it returns false'. Refute it at one input. -/
def fnDumpsWrong : ChangeSpec := { name := "fnDumps", fn := fun _ => fun
  | [d] => { results := [.lit (.bool false)], args := [d] }
  | _ => none }
def FnDumpsWrongFalsely : Prop := fnDumpsRow.holds Try.pinned (OpenSpec.ofChange fnDumpsWrong)

/-- 'laws.FnExactCellOf': WHATEVER THE INPUT: true; the input reads as it did. -/
def fnExactCellOfSpec : ChangeSpec := { name := "fnExactCellOf", fn := fun _ => fun
  | [d1, d2, d3] => { results := [.lit (.bool true)], args := [d1, d2, d3] }
  | _ => none }
def fnExactCellOfRow : OpenClaim := { program := "ytjbfppakafkkoaa", sum := "9272200ace5e928dff416029ffcf8e08f7252abe36ea6edd5483ec0af136872e", func := "loop.example/g00237/laws.FnExactCellOf", spec := "fnExactCellOf", apart := false }
def FnExactCellOfSaid : Prop := fnExactCellOfRow.holds Try.pinned (OpenSpec.ofChange fnExactCellOfSpec)

/-- ITS FALSE NEIGHBOUR: 'it returns false'. Refute it at one input. -/
def fnExactCellOfWrong : ChangeSpec := { name := "fnExactCellOf", fn := fun _ => fun
  | [d1, d2, d3] => { results := [.lit (.bool false)], args := [d1, d2, d3] }
  | _ => none }
def FnExactCellOfWrongFalsely : Prop := fnExactCellOfRow.holds Try.pinned (OpenSpec.ofChange fnExactCellOfWrong)

/-- 'laws.FnExactSameStore': WHATEVER THE INPUT: true; the input reads as it did. -/
def fnExactSameStoreSpec : ChangeSpec := { name := "fnExactSameStore", fn := fun _ => fun
  | [d1, d2] => { results := [.lit (.bool true)], args := [d1, d2] }
  | _ => none }
def fnExactSameStoreRow : OpenClaim := { program := "ytjbfppakafkkoaa", sum := "9272200ace5e928dff416029ffcf8e08f7252abe36ea6edd5483ec0af136872e", func := "loop.example/g00237/laws.FnExactSameStore", spec := "fnExactSameStore", apart := false }
def FnExactSameStoreSaid : Prop := fnExactSameStoreRow.holds Try.pinned (OpenSpec.ofChange fnExactSameStoreSpec)

/-- ITS FALSE NEIGHBOUR: 'it returns false'. Refute it at one input. -/
def fnExactSameStoreWrong : ChangeSpec := { name := "fnExactSameStore", fn := fun _ => fun
  | [d1, d2] => { results := [.lit (.bool false)], args := [d1, d2] }
  | _ => none }
def FnExactSameStoreWrongFalsely : Prop := fnExactSameStoreRow.holds Try.pinned (OpenSpec.ofChange fnExactSameStoreWrong)

/-- 'laws.FnSays': WHATEVER THE INPUT: true; the input reads as it did. -/
def fnSaysSpec : ChangeSpec := { name := "fnSays", fn := fun _ => fun
  | [d] => { results := [.lit (.bool true)], args := [d] }
  | _ => none }
def fnSaysRow : OpenClaim := { program := "ytjbfppakafkkoaa", sum := "9272200ace5e928dff416029ffcf8e08f7252abe36ea6edd5483ec0af136872e", func := "loop.example/g00237/laws.FnSays", spec := "fnSays", apart := false }
def FnSaysSaid : Prop := fnSaysRow.holds Try.pinned (OpenSpec.ofChange fnSaysSpec)

/-- ITS FALSE NEIGHBOUR: 'it returns false'. Refute it at one input. -/
def fnSaysWrong : ChangeSpec := { name := "fnSays", fn := fun _ => fun
  | [d] => { results := [.lit (.bool false)], args := [d] }
  | _ => none }
def FnSaysWrongFalsely : Prop := fnSaysRow.holds Try.pinned (OpenSpec.ofChange fnSaysWrong)

/-- 'laws.FnExactSameProgram': WHATEVER THE INPUT: true; the input reads as it did. -/
def fnExactSameProgramSpec : ChangeSpec := { name := "fnExactSameProgram", fn := fun _ => fun
  | [d1, d2] => { results := [.lit (.bool true)], args := [d1, d2] }
  | _ => none }
def fnExactSameProgramRow : OpenClaim := { program := "ytjbfppakafkkoaa", sum := "9272200ace5e928dff416029ffcf8e08f7252abe36ea6edd5483ec0af136872e", func := "loop.example/g00237/laws.FnExactSameProgram", spec := "fnExactSameProgram", unfollowed := true, recurses := true, apart := false }
def FnExactSameProgramSaid : Prop := fnExactSameProgramRow.holds Try.pinned (OpenSpec.ofChange fnExactSameProgramSpec)

/-- ITS FALSE NEIGHBOUR: 'it returns false'. Refute it at one input. -/
def fnExactSameProgramWrong : ChangeSpec := { name := "fnExactSameProgram", fn := fun _ => fun
  | [d1, d2] => { results := [.lit (.bool false)], args := [d1, d2] }
  | _ => none }
def FnExactSameProgramWrongFalsely : Prop := fnExactSameProgramRow.holds Try.pinned (OpenSpec.ofChange fnExactSameProgramWrong)

/-- 'laws.FnExactStoreOk': WHATEVER THE INPUT: true; the input reads as it did. -/
def fnExactStoreOkSpec : ChangeSpec := { name := "fnExactStoreOk", fn := fun _ => fun
  | [d] => { results := [.lit (.bool true)], args := [d] }
  | _ => none }
def fnExactStoreOkRow : OpenClaim := { program := "ytjbfppakafkkoaa", sum := "9272200ace5e928dff416029ffcf8e08f7252abe36ea6edd5483ec0af136872e", func := "loop.example/g00237/laws.FnExactStoreOk", spec := "fnExactStoreOk", inPlace := ["internal/bytealg.abigen_runtime_cmpstring"], apart := false }
def FnExactStoreOkSaid : Prop := fnExactStoreOkRow.holds Try.pinned (OpenSpec.ofChange fnExactStoreOkSpec)

/-- ITS FALSE NEIGHBOUR: 'it returns false'. Refute it at one input. -/
def fnExactStoreOkWrong : ChangeSpec := { name := "fnExactStoreOk", fn := fun _ => fun
  | [d] => { results := [.lit (.bool false)], args := [d] }
  | _ => none }
def FnExactStoreOkWrongFalsely : Prop := fnExactStoreOkRow.holds Try.pinned (OpenSpec.ofChange fnExactStoreOkWrong)

/- THE SECOND FORM. 'bulk': how many values and letters a reading holds, each counted each time it is reached (what is shared counts as often as it is met; a slice's spare places count too). A statement '..UptoSaid' is the law's where the arguments, and the package variables that the reading takes, are together of bulk at most 1048576: NARROWER than '..Said'. Prove '..Said' where nothing that the law and all that it calls make is longer than what came in: it says more and counts as full. Else prove '..UptoSaid'. A law counts once. -/
mutual
def uptoBulk {H : Type} : DataW H → Nat
  | .lit (.string bytes) => bytes.length + 1
  | .lit _ => 1
  | .nil => 1
  | .ptr d => uptoBulk d + 1
  | .slice elems spare => uptoBulkAll elems + uptoBulkAll spare + 1
  | .agg parts => uptoBulkAll parts + 1
  | .iface _ d => uptoBulk d + 1
  | .map entries => uptoBulkEntries entries + 1
  | .held _ => 1
def uptoBulkAll {H : Type} : List (DataW H) → Nat
  | [] => 0
  | d :: r => uptoBulk d + uptoBulkAll r
def uptoBulkEntries {H : Type} : List (Lit × DataW H) → Nat
  | [] => 0
  | x :: r => uptoBulkEntry x + uptoBulkEntries r
def uptoBulkEntry {H : Type} : Lit × DataW H → Nat
  | (.string bytes, d) => bytes.length + uptoBulk d + 1
  | (_, d) => uptoBulk d + 1
 end
def uptoSmall : (H : Type) → List (DataW H) → Bool := fun _ ds => decide (uptoBulkAll ds ≤ 1048576)
def OpenSpec.upto (s : _root_.Go.ChangeSpec) : _root_.Go.OpenSpec := { _root_.Go.OpenSpec.ofChange s with cond := some uptoSmall }

/-- 'laws.FnExactUnhex', WHERE WHAT IT READS IS OF BULK AT MOST 1048576: true; the input reads as it did. -/
def fnExactUnhexUptoRow : OpenClaim := { program := "ytjbfppakafkkoaa", sum := "9272200ace5e928dff416029ffcf8e08f7252abe36ea6edd5483ec0af136872e", func := "loop.example/g00237/laws.FnExactUnhex", spec := "fnExactUnhex", inPlace := ["internal/bytealg.IndexByteString"], apart := false, narrowed := true }
def FnExactUnhexUptoSaid : Prop := fnExactUnhexUptoRow.holds Try.pinned (OpenSpec.upto fnExactUnhexSpec)

/-- 'laws.FnExactUnsealed', WHERE WHAT IT READS IS OF BULK AT MOST 1048576: true; the input reads as it did. -/
def fnExactUnsealedUptoRow : OpenClaim := { program := "ytjbfppakafkkoaa", sum := "9272200ace5e928dff416029ffcf8e08f7252abe36ea6edd5483ec0af136872e", func := "loop.example/g00237/laws.FnExactUnsealed", spec := "fnExactUnsealed", apart := false, narrowed := true }
def FnExactUnsealedUptoSaid : Prop := fnExactUnsealedUptoRow.holds Try.pinned (OpenSpec.upto fnExactUnsealedSpec)

/-- 'laws.FnTurned', WHERE WHAT IT READS IS OF BULK AT MOST 1048576: true; the input reads as it did. -/
def fnTurnedUptoRow : OpenClaim := { program := "ytjbfppakafkkoaa", sum := "9272200ace5e928dff416029ffcf8e08f7252abe36ea6edd5483ec0af136872e", func := "loop.example/g00237/laws.FnTurned", spec := "fnTurned", apart := false, narrowed := true }
def FnTurnedUptoSaid : Prop := fnTurnedUptoRow.holds Try.pinned (OpenSpec.upto fnTurnedSpec)

/-- 'laws.FnIsNums', WHERE WHAT IT READS IS OF BULK AT MOST 1048576: true; the input reads as it did. -/
def fnIsNumsUptoRow : OpenClaim := { program := "ytjbfppakafkkoaa", sum := "9272200ace5e928dff416029ffcf8e08f7252abe36ea6edd5483ec0af136872e", func := "loop.example/g00237/laws.FnIsNums", spec := "fnIsNums", apart := false, narrowed := true }
def FnIsNumsUptoSaid : Prop := fnIsNumsUptoRow.holds Try.pinned (OpenSpec.upto fnIsNumsSpec)

/-- 'laws.FnExactPatternOk', WHERE WHAT IT READS IS OF BULK AT MOST 1048576: true; the input reads as it did. -/
def fnExactPatternOkUptoRow : OpenClaim := { program := "ytjbfppakafkkoaa", sum := "9272200ace5e928dff416029ffcf8e08f7252abe36ea6edd5483ec0af136872e", func := "loop.example/g00237/laws.FnExactPatternOk", spec := "fnExactPatternOk", apart := false, narrowed := true }
def FnExactPatternOkUptoSaid : Prop := fnExactPatternOkUptoRow.holds Try.pinned (OpenSpec.upto fnExactPatternOkSpec)

/-- 'laws.FnExactVarOf', WHERE WHAT IT READS IS OF BULK AT MOST 1048576: true; the input reads as it did. -/
def fnExactVarOfUptoRow : OpenClaim := { program := "ytjbfppakafkkoaa", sum := "9272200ace5e928dff416029ffcf8e08f7252abe36ea6edd5483ec0af136872e", func := "loop.example/g00237/laws.FnExactVarOf", spec := "fnExactVarOf", apart := false, narrowed := true }
def FnExactVarOfUptoSaid : Prop := fnExactVarOfUptoRow.holds Try.pinned (OpenSpec.upto fnExactVarOfSpec)

/-- 'laws.FnDumps', WHERE WHAT IT READS IS OF BULK AT MOST 1048576: true; the input reads as it did. -/
def fnDumpsUptoRow : OpenClaim := { program := "ytjbfppakafkkoaa", sum := "9272200ace5e928dff416029ffcf8e08f7252abe36ea6edd5483ec0af136872e", func := "loop.example/g00237/laws.FnDumps", spec := "fnDumps", inPlace := ["internal/bytealg.abigen_runtime_cmpstring"], unfollowed := true, recurses := true, apart := false, narrowed := true }
def FnDumpsUptoSaid : Prop := fnDumpsUptoRow.holds Try.pinned (OpenSpec.upto fnDumpsSpec)

/-- 'laws.FnExactCellOf', WHERE WHAT IT READS IS OF BULK AT MOST 1048576: true; the input reads as it did. -/
def fnExactCellOfUptoRow : OpenClaim := { program := "ytjbfppakafkkoaa", sum := "9272200ace5e928dff416029ffcf8e08f7252abe36ea6edd5483ec0af136872e", func := "loop.example/g00237/laws.FnExactCellOf", spec := "fnExactCellOf", apart := false, narrowed := true }
def FnExactCellOfUptoSaid : Prop := fnExactCellOfUptoRow.holds Try.pinned (OpenSpec.upto fnExactCellOfSpec)

/-- 'laws.FnExactSameStore', WHERE WHAT IT READS IS OF BULK AT MOST 1048576: true; the input reads as it did. -/
def fnExactSameStoreUptoRow : OpenClaim := { program := "ytjbfppakafkkoaa", sum := "9272200ace5e928dff416029ffcf8e08f7252abe36ea6edd5483ec0af136872e", func := "loop.example/g00237/laws.FnExactSameStore", spec := "fnExactSameStore", apart := false, narrowed := true }
def FnExactSameStoreUptoSaid : Prop := fnExactSameStoreUptoRow.holds Try.pinned (OpenSpec.upto fnExactSameStoreSpec)

/-- 'laws.FnSays', WHERE WHAT IT READS IS OF BULK AT MOST 1048576: true; the input reads as it did. -/
def fnSaysUptoRow : OpenClaim := { program := "ytjbfppakafkkoaa", sum := "9272200ace5e928dff416029ffcf8e08f7252abe36ea6edd5483ec0af136872e", func := "loop.example/g00237/laws.FnSays", spec := "fnSays", apart := false, narrowed := true }
def FnSaysUptoSaid : Prop := fnSaysUptoRow.holds Try.pinned (OpenSpec.upto fnSaysSpec)

/-- 'laws.FnExactSameProgram', WHERE WHAT IT READS IS OF BULK AT MOST 1048576: true; the input reads as it did. -/
def fnExactSameProgramUptoRow : OpenClaim := { program := "ytjbfppakafkkoaa", sum := "9272200ace5e928dff416029ffcf8e08f7252abe36ea6edd5483ec0af136872e", func := "loop.example/g00237/laws.FnExactSameProgram", spec := "fnExactSameProgram", unfollowed := true, recurses := true, apart := false, narrowed := true }
def FnExactSameProgramUptoSaid : Prop := fnExactSameProgramUptoRow.holds Try.pinned (OpenSpec.upto fnExactSameProgramSpec)

/-- 'laws.FnExactStoreOk', WHERE WHAT IT READS IS OF BULK AT MOST 1048576: true; the input reads as it did. -/
def fnExactStoreOkUptoRow : OpenClaim := { program := "ytjbfppakafkkoaa", sum := "9272200ace5e928dff416029ffcf8e08f7252abe36ea6edd5483ec0af136872e", func := "loop.example/g00237/laws.FnExactStoreOk", spec := "fnExactStoreOk", inPlace := ["internal/bytealg.abigen_runtime_cmpstring"], apart := false, narrowed := true }
def FnExactStoreOkUptoSaid : Prop := fnExactStoreOkUptoRow.holds Try.pinned (OpenSpec.upto fnExactStoreOkSpec)

end Rows
end Go.Proofs.Ytjbfppakafkkoaa
