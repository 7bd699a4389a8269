/-
  No cell of these rows narrows 'for every input' (looked for: loops, veiled, ifaces, maps, wideKeys, modest, calm, conditions, laid).
  DERIVED. THE GIVEN ROWS OF THIS SEAT. 4 by the template 'for every input the law returns true; each argument reads behind the call as it read before'; 0 by the template 'total and deterministic' (their statements: YtnjomkadjcjcnaaTotals.lean).
  GIVEN WITH THE SEED: the statements are not yours to turn. If you find one false, say at which input.
  Laid BY PROGRAM, IN A SANDBOX (cutbox-rows.mjs): the forced cells as the released guide's own fill.sh prints them over the translation c3aa8f7b1d084265… (all of the seat's roots in one cut). By AI agents, Wed Nov 11 2026. No macro, syntax, notation, axiom, sorry.
-/
import Derived.Test.YtnjomkadjcjcnaaChecked
import GoSem.Claim
import GoSem.ClaimJoined
import GoSem.ClaimMapViews
import Derived.JoinedTies
import Derived.KernelRfl
namespace Go.Proofs.Ytnjomkadjcjcnaa
/- THE CELL 'sum', in the pinned program and in every row, IS THE sha256 OF THE DUMP (.gsa) THAT YtnjomkadjcjcnaaProg.lean LOADS. Nothing in Lean hashes anything: it is a label: what it is worth is what the hold of that sum in a sandbox is worth. -/
noncomputable def Try.pinned : Pinned := { name := "ytnjomkadjcjcnaa", sum := "c3aa8f7b1d0842655271e44dccc3beaa0b2b4d32c27b84e393d4663c83bd8ea5", checked := Try.checked }
namespace Rows
def none {H : Type} : Left H := { results := [], args := [] }

/-- 'laws.FnExactFindIn': WHATEVER THE INPUT: true; the input reads as it did. -/
def fnExactFindInSpec : ChangeSpec := { name := "fnExactFindIn", fn := fun _ => fun
  | [d1, d2] => { results := [.lit (.bool true)], args := [d1, d2] }
  | _ => none }
def fnExactFindInRow : OpenClaim := { program := "ytnjomkadjcjcnaa", sum := "c3aa8f7b1d0842655271e44dccc3beaa0b2b4d32c27b84e393d4663c83bd8ea5", func := "loop.example/g00237/laws.FnExactFindIn", spec := "fnExactFindIn", inPlace := ["internal/bytealg.IndexByteString"], recurses := true, apart := false }
def FnExactFindInSaid : Prop := fnExactFindInRow.holds Try.pinned (OpenSpec.ofChange fnExactFindInSpec)

/-- ITS FALSE NEIGHBOUR: 'it returns false'. Refute it at one input. -/
def fnExactFindInWrong : ChangeSpec := { name := "fnExactFindIn", fn := fun _ => fun
  | [d1, d2] => { results := [.lit (.bool false)], args := [d1, d2] }
  | _ => none }
def FnExactFindInWrongFalsely : Prop := fnExactFindInRow.holds Try.pinned (OpenSpec.ofChange fnExactFindInWrong)

/-- 'laws.FnExactEndsAt': WHATEVER THE INPUT: true; the input reads as it did. -/
def fnExactEndsAtSpec : ChangeSpec := { name := "fnExactEndsAt", fn := fun _ => fun
  | [d1, d2, d3, d4] => { results := [.lit (.bool true)], args := [d1, d2, d3, d4] }
  | _ => none }
def fnExactEndsAtRow : OpenClaim := { program := "ytnjomkadjcjcnaa", sum := "c3aa8f7b1d0842655271e44dccc3beaa0b2b4d32c27b84e393d4663c83bd8ea5", func := "loop.example/g00237/laws.FnExactEndsAt", spec := "fnExactEndsAt", inPlace := ["internal/bytealg.IndexByteString"], recurses := true, apart := false }
def FnExactEndsAtSaid : Prop := fnExactEndsAtRow.holds Try.pinned (OpenSpec.ofChange fnExactEndsAtSpec)

/-- ITS FALSE NEIGHBOUR: 'it returns false'. Refute it at one input. -/
def fnExactEndsAtWrong : ChangeSpec := { name := "fnExactEndsAt", fn := fun _ => fun
  | [d1, d2, d3, d4] => { results := [.lit (.bool false)], args := [d1, d2, d3, d4] }
  | _ => none }
def FnExactEndsAtWrongFalsely : Prop := fnExactEndsAtRow.holds Try.pinned (OpenSpec.ofChange fnExactEndsAtWrong)

/-- 'laws.FnExactReadPattern': WHATEVER THE INPUT: true; the input reads as it did. -/
def fnExactReadPatternSpec : ChangeSpec := { name := "fnExactReadPattern", fn := fun _ => fun
  | [d] => { results := [.lit (.bool true)], args := [d] }
  | _ => none }
def fnExactReadPatternRow : OpenClaim := { program := "ytnjomkadjcjcnaa", sum := "c3aa8f7b1d0842655271e44dccc3beaa0b2b4d32c27b84e393d4663c83bd8ea5", func := "loop.example/g00237/laws.FnExactReadPattern", spec := "fnExactReadPattern", inPlace := ["internal/bytealg.IndexByteString", "internal/bytealg.IndexString"], recurses := true, named := ["internal/bytealg.MaxLen"], apart := false }
def FnExactReadPatternSaid : Prop := fnExactReadPatternRow.holds Try.pinned (OpenSpec.ofChange fnExactReadPatternSpec)

/-- ITS FALSE NEIGHBOUR: 'it returns false'. Refute it at one input. -/
def fnExactReadPatternWrong : ChangeSpec := { name := "fnExactReadPattern", fn := fun _ => fun
  | [d] => { results := [.lit (.bool false)], args := [d] }
  | _ => none }
def FnExactReadPatternWrongFalsely : Prop := fnExactReadPatternRow.holds Try.pinned (OpenSpec.ofChange fnExactReadPatternWrong)

/-- 'laws.FnBroken': WHATEVER THE INPUT: true; the input reads as it did. -/
def fnBrokenSpec : ChangeSpec := { name := "fnBroken", fn := fun _ => fun
  | [d] => { results := [.lit (.bool true)], args := [d] }
  | _ => none }
def fnBrokenRow : OpenClaim := { program := "ytnjomkadjcjcnaa", sum := "c3aa8f7b1d0842655271e44dccc3beaa0b2b4d32c27b84e393d4663c83bd8ea5", func := "loop.example/g00237/laws.FnBroken", spec := "fnBroken", inPlace := ["internal/bytealg.IndexByteString", "internal/bytealg.IndexString"], unfollowed := true, recurses := true, named := ["internal/bytealg.MaxLen"], apart := false }
def FnBrokenSaid : Prop := fnBrokenRow.holds Try.pinned (OpenSpec.ofChange fnBrokenSpec)

/-- ITS FALSE NEIGHBOUR: 'it returns false'. Refute it at one input. -/
def fnBrokenWrong : ChangeSpec := { name := "fnBroken", fn := fun _ => fun
  | [d] => { results := [.lit (.bool false)], args := [d] }
  | _ => none }
def FnBrokenWrongFalsely : Prop := fnBrokenRow.holds Try.pinned (OpenSpec.ofChange fnBrokenWrong)

/- THE SECOND FORM. 'bulk': how many values and letters a reading holds, each counted each time it is reached (what is shared counts as often as it is met; a slice's spare places count too). A statement '..UptoSaid' is the law's where the arguments, and the package variables that the reading takes, are together of bulk at most 1048576: NARROWER than '..Said'. Prove '..Said' where nothing that the law and all that it calls make is longer than what came in: it says more and counts as full. Else prove '..UptoSaid'. A law counts once. -/
mutual
def uptoBulk {H : Type} : DataW H → Nat
  | .lit (.string bytes) => bytes.length + 1
  | .lit _ => 1
  | .nil => 1
  | .ptr d => uptoBulk d + 1
  | .slice elems spare => uptoBulkAll elems + uptoBulkAll spare + 1
  | .agg parts => uptoBulkAll parts + 1
  | .iface _ d => uptoBulk d + 1
  | .map entries => uptoBulkEntries entries + 1
  | .held _ => 1
def uptoBulkAll {H : Type} : List (DataW H) → Nat
  | [] => 0
  | d :: r => uptoBulk d + uptoBulkAll r
def uptoBulkEntries {H : Type} : List (Lit × DataW H) → Nat
  | [] => 0
  | x :: r => uptoBulkEntry x + uptoBulkEntries r
def uptoBulkEntry {H : Type} : Lit × DataW H → Nat
  | (.string bytes, d) => bytes.length + uptoBulk d + 1
  | (_, d) => uptoBulk d + 1
 end
def uptoSmall : (H : Type) → List (DataW H) → Bool := fun _ ds => decide (uptoBulkAll ds ≤ 1048576)
def OpenSpec.upto (s : _root_.Go.ChangeSpec) : _root_.Go.OpenSpec := { _root_.Go.OpenSpec.ofChange s with cond := some uptoSmall }

/-- 'laws.FnExactFindIn', WHERE WHAT IT READS IS OF BULK AT MOST 1048576: true; the input reads as it did. -/
def fnExactFindInUptoRow : OpenClaim := { program := "ytnjomkadjcjcnaa", sum := "c3aa8f7b1d0842655271e44dccc3beaa0b2b4d32c27b84e393d4663c83bd8ea5", func := "loop.example/g00237/laws.FnExactFindIn", spec := "fnExactFindIn", inPlace := ["internal/bytealg.IndexByteString"], recurses := true, apart := false, narrowed := true }
def FnExactFindInUptoSaid : Prop := fnExactFindInUptoRow.holds Try.pinned (OpenSpec.upto fnExactFindInSpec)

/-- 'laws.FnExactEndsAt', WHERE WHAT IT READS IS OF BULK AT MOST 1048576: true; the input reads as it did. -/
def fnExactEndsAtUptoRow : OpenClaim := { program := "ytnjomkadjcjcnaa", sum := "c3aa8f7b1d0842655271e44dccc3beaa0b2b4d32c27b84e393d4663c83bd8ea5", func := "loop.example/g00237/laws.FnExactEndsAt", spec := "fnExactEndsAt", inPlace := ["internal/bytealg.IndexByteString"], recurses := true, apart := false, narrowed := true }
def FnExactEndsAtUptoSaid : Prop := fnExactEndsAtUptoRow.holds Try.pinned (OpenSpec.upto fnExactEndsAtSpec)

/-- 'laws.FnExactReadPattern', WHERE WHAT IT READS IS OF BULK AT MOST 1048576: true; the input reads as it did. -/
def fnExactReadPatternUptoRow : OpenClaim := { program := "ytnjomkadjcjcnaa", sum := "c3aa8f7b1d0842655271e44dccc3beaa0b2b4d32c27b84e393d4663c83bd8ea5", func := "loop.example/g00237/laws.FnExactReadPattern", spec := "fnExactReadPattern", inPlace := ["internal/bytealg.IndexByteString", "internal/bytealg.IndexString"], recurses := true, named := ["internal/bytealg.MaxLen"], apart := false, narrowed := true }
def FnExactReadPatternUptoSaid : Prop := fnExactReadPatternUptoRow.holds Try.pinned (OpenSpec.upto fnExactReadPatternSpec)

/-- 'laws.FnBroken', WHERE WHAT IT READS IS OF BULK AT MOST 1048576: true; the input reads as it did. -/
def fnBrokenUptoRow : OpenClaim := { program := "ytnjomkadjcjcnaa", sum := "c3aa8f7b1d0842655271e44dccc3beaa0b2b4d32c27b84e393d4663c83bd8ea5", func := "loop.example/g00237/laws.FnBroken", spec := "fnBroken", inPlace := ["internal/bytealg.IndexByteString", "internal/bytealg.IndexString"], unfollowed := true, recurses := true, named := ["internal/bytealg.MaxLen"], apart := false, narrowed := true }
def FnBrokenUptoSaid : Prop := fnBrokenUptoRow.holds Try.pinned (OpenSpec.upto fnBrokenSpec)

end Rows
end Go.Proofs.Ytnjomkadjcjcnaa
