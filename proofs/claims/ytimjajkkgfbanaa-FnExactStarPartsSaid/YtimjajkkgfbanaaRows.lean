/-
  No cell of these rows narrows 'for every input' (looked for: loops, veiled, ifaces, maps, wideKeys, modest, calm, conditions, laid).
  DERIVED. THE GIVEN ROWS OF THIS SEAT. 6 by the template 'for every input the law returns true; each argument reads behind the call as it read before'; 0 by the template 'total and deterministic' (their statements: YtimjajkkgfbanaaTotals.lean).
  GIVEN WITH THE SEED: the statements are not yours to turn. If you find one false, say at which input.
  Laid BY PROGRAM, IN A SANDBOX (cutbox-rows.mjs): the forced cells as the released guide's own fill.sh prints them over the translation 01a3ac7fdfdb341d… (all of the seat's roots in one cut). By AI agents, Wed Nov 11 2026. No macro, syntax, notation, axiom, sorry.
-/
import Derived.Test.YtimjajkkgfbanaaChecked
import GoSem.Claim
import GoSem.ClaimJoined
import GoSem.ClaimMapViews
import Derived.JoinedTies
import Derived.KernelRfl
namespace Go.Proofs.Ytimjajkkgfbanaa
/- THE CELL 'sum', in the pinned program and in every row, IS THE sha256 OF THE DUMP (.gsa) THAT YtimjajkkgfbanaaProg.lean LOADS. Nothing in Lean hashes anything: it is a label: what it is worth is what the hold of that sum in a sandbox is worth. -/
noncomputable def Try.pinned : Pinned := { name := "ytimjajkkgfbanaa", sum := "01a3ac7fdfdb341d6f4057d17a28aed34be980333a317d22c03628b8e4876c29", checked := Try.checked }
namespace Rows
def none {H : Type} : Left H := { results := [], args := [] }

/-- 'laws.FnExactStarParts': WHATEVER THE INPUT: true; the input reads as it did. -/
def fnExactStarPartsSpec : ChangeSpec := { name := "fnExactStarParts", fn := fun _ => fun
  | [d] => { results := [.lit (.bool true)], args := [d] }
  | _ => none }
def fnExactStarPartsRow : OpenClaim := { program := "ytimjajkkgfbanaa", sum := "01a3ac7fdfdb341d6f4057d17a28aed34be980333a317d22c03628b8e4876c29", func := "loop.example/oneletter/laws.FnExactStarParts", spec := "fnExactStarParts", inPlace := ["internal/bytealg.IndexByteString", "internal/bytealg.IndexString"], recurses := true, named := ["internal/bytealg.MaxLen"], apart := false }
def FnExactStarPartsSaid : Prop := fnExactStarPartsRow.holds Try.pinned (OpenSpec.ofChange fnExactStarPartsSpec)

/-- ITS FALSE NEIGHBOUR: 'it returns false'. Refute it at one input. -/
def fnExactStarPartsWrong : ChangeSpec := { name := "fnExactStarParts", fn := fun _ => fun
  | [d] => { results := [.lit (.bool false)], args := [d] }
  | _ => none }
def FnExactStarPartsWrongFalsely : Prop := fnExactStarPartsRow.holds Try.pinned (OpenSpec.ofChange fnExactStarPartsWrong)

/-- 'laws.FnExactSumOf': WHATEVER THE INPUT: true; the input reads as it did. -/
def fnExactSumOfSpec : ChangeSpec := { name := "fnExactSumOf", fn := fun _ => fun
  | [d1, d2] => { results := [.lit (.bool true)], args := [d1, d2] }
  | _ => none }
def fnExactSumOfRow : OpenClaim := { program := "ytimjajkkgfbanaa", sum := "01a3ac7fdfdb341d6f4057d17a28aed34be980333a317d22c03628b8e4876c29", func := "loop.example/oneletter/laws.FnExactSumOf", spec := "fnExactSumOf", inPlace := ["internal/bytealg.IndexByteString", "internal/bytealg.IndexString", "internal/abi.NoEscape"], unfollowed := true, recurses := true, named := ["internal/bytealg.MaxLen"], apart := false }
def FnExactSumOfSaid : Prop := fnExactSumOfRow.holds Try.pinned (OpenSpec.ofChange fnExactSumOfSpec)

/-- ITS FALSE NEIGHBOUR: 'it returns false'. Refute it at one input. -/
def fnExactSumOfWrong : ChangeSpec := { name := "fnExactSumOf", fn := fun _ => fun
  | [d1, d2] => { results := [.lit (.bool false)], args := [d1, d2] }
  | _ => none }
def FnExactSumOfWrongFalsely : Prop := fnExactSumOfRow.holds Try.pinned (OpenSpec.ofChange fnExactSumOfWrong)

/-- 'laws.FnExactSumDouble': WHATEVER THE INPUT: true; the input reads as it did. -/
def fnExactSumDoubleSpec : ChangeSpec := { name := "fnExactSumDouble", fn := fun _ => fun
  | [d] => { results := [.lit (.bool true)], args := [d] }
  | _ => none }
def fnExactSumDoubleRow : OpenClaim := { program := "ytimjajkkgfbanaa", sum := "01a3ac7fdfdb341d6f4057d17a28aed34be980333a317d22c03628b8e4876c29", func := "loop.example/oneletter/laws.FnExactSumDouble", spec := "fnExactSumDouble", inPlace := ["internal/bytealg.IndexByteString", "internal/bytealg.IndexString", "internal/abi.NoEscape"], unfollowed := true, recurses := true, named := ["internal/bytealg.MaxLen"], apart := false }
def FnExactSumDoubleSaid : Prop := fnExactSumDoubleRow.holds Try.pinned (OpenSpec.ofChange fnExactSumDoubleSpec)

/-- ITS FALSE NEIGHBOUR: 'it returns false'. Refute it at one input. -/
def fnExactSumDoubleWrong : ChangeSpec := { name := "fnExactSumDouble", fn := fun _ => fun
  | [d] => { results := [.lit (.bool false)], args := [d] }
  | _ => none }
def FnExactSumDoubleWrongFalsely : Prop := fnExactSumDoubleRow.holds Try.pinned (OpenSpec.ofChange fnExactSumDoubleWrong)

/-- 'laws.FnExactSumTimes': WHATEVER THE INPUT: true; the input reads as it did. -/
def fnExactSumTimesSpec : ChangeSpec := { name := "fnExactSumTimes", fn := fun _ => fun
  | [d1, d2] => { results := [.lit (.bool true)], args := [d1, d2] }
  | _ => none }
def fnExactSumTimesRow : OpenClaim := { program := "ytimjajkkgfbanaa", sum := "01a3ac7fdfdb341d6f4057d17a28aed34be980333a317d22c03628b8e4876c29", func := "loop.example/oneletter/laws.FnExactSumTimes", spec := "fnExactSumTimes", inPlace := ["internal/bytealg.IndexByteString", "internal/bytealg.IndexString", "internal/abi.NoEscape"], unfollowed := true, recurses := true, named := ["internal/bytealg.MaxLen"], apart := false }
def FnExactSumTimesSaid : Prop := fnExactSumTimesRow.holds Try.pinned (OpenSpec.ofChange fnExactSumTimesSpec)

/-- ITS FALSE NEIGHBOUR: 'it returns false'. Refute it at one input. -/
def fnExactSumTimesWrong : ChangeSpec := { name := "fnExactSumTimes", fn := fun _ => fun
  | [d1, d2] => { results := [.lit (.bool false)], args := [d1, d2] }
  | _ => none }
def FnExactSumTimesWrongFalsely : Prop := fnExactSumTimesRow.holds Try.pinned (OpenSpec.ofChange fnExactSumTimesWrong)

/-- 'laws.FnExactStarOf': WHATEVER THE INPUT: true; the input reads as it did. -/
def fnExactStarOfSpec : ChangeSpec := { name := "fnExactStarOf", fn := fun _ => fun
  | [d] => { results := [.lit (.bool true)], args := [d] }
  | _ => none }
def fnExactStarOfRow : OpenClaim := { program := "ytimjajkkgfbanaa", sum := "01a3ac7fdfdb341d6f4057d17a28aed34be980333a317d22c03628b8e4876c29", func := "loop.example/oneletter/laws.FnExactStarOf", spec := "fnExactStarOf", inPlace := ["internal/bytealg.IndexByteString", "internal/bytealg.IndexString", "internal/abi.NoEscape"], unfollowed := true, recurses := true, named := ["internal/bytealg.MaxLen"], apart := false }
def FnExactStarOfSaid : Prop := fnExactStarOfRow.holds Try.pinned (OpenSpec.ofChange fnExactStarOfSpec)

/-- ITS FALSE NEIGHBOUR: 'it returns false'. Refute it at one input. -/
def fnExactStarOfWrong : ChangeSpec := { name := "fnExactStarOf", fn := fun _ => fun
  | [d] => { results := [.lit (.bool false)], args := [d] }
  | _ => none }
def FnExactStarOfWrongFalsely : Prop := fnExactStarOfRow.holds Try.pinned (OpenSpec.ofChange fnExactStarOfWrong)

/-- 'laws.FnExactStarPlus': WHATEVER THE INPUT: true; the input reads as it did. -/
def fnExactStarPlusSpec : ChangeSpec := { name := "fnExactStarPlus", fn := fun _ => fun
  | [d] => { results := [.lit (.bool true)], args := [d] }
  | _ => none }
def fnExactStarPlusRow : OpenClaim := { program := "ytimjajkkgfbanaa", sum := "01a3ac7fdfdb341d6f4057d17a28aed34be980333a317d22c03628b8e4876c29", func := "loop.example/oneletter/laws.FnExactStarPlus", spec := "fnExactStarPlus", inPlace := ["internal/bytealg.IndexByteString", "internal/bytealg.IndexString", "internal/abi.NoEscape"], unfollowed := true, recurses := true, named := ["internal/bytealg.MaxLen"], apart := false }
def FnExactStarPlusSaid : Prop := fnExactStarPlusRow.holds Try.pinned (OpenSpec.ofChange fnExactStarPlusSpec)

/-- ITS FALSE NEIGHBOUR: 'it returns false'. Refute it at one input. -/
def fnExactStarPlusWrong : ChangeSpec := { name := "fnExactStarPlus", fn := fun _ => fun
  | [d] => { results := [.lit (.bool false)], args := [d] }
  | _ => none }
def FnExactStarPlusWrongFalsely : Prop := fnExactStarPlusRow.holds Try.pinned (OpenSpec.ofChange fnExactStarPlusWrong)

/- THE SECOND FORM. 'bulk': how many values and letters a reading holds, each counted each time it is reached (what is shared counts as often as it is met; a slice's spare places count too). A statement '..UptoSaid' is the law's where the arguments, and the package variables that the reading takes, are together of bulk at most 1048576: NARROWER than '..Said'. Prove '..Said' where nothing that the law and all that it calls make is longer than what came in: it says more and counts as full. Else prove '..UptoSaid'. A law counts once. -/
mutual
def uptoBulk {H : Type} : DataW H → Nat
  | .lit (.string bytes) => bytes.length + 1
  | .lit _ => 1
  | .nil => 1
  | .ptr d => uptoBulk d + 1
  | .slice elems spare => uptoBulkAll elems + uptoBulkAll spare + 1
  | .agg parts => uptoBulkAll parts + 1
  | .iface _ d => uptoBulk d + 1
  | .map entries => uptoBulkEntries entries + 1
  | .held _ => 1
def uptoBulkAll {H : Type} : List (DataW H) → Nat
  | [] => 0
  | d :: r => uptoBulk d + uptoBulkAll r
def uptoBulkEntries {H : Type} : List (Lit × DataW H) → Nat
  | [] => 0
  | x :: r => uptoBulkEntry x + uptoBulkEntries r
def uptoBulkEntry {H : Type} : Lit × DataW H → Nat
  | (.string bytes, d) => bytes.length + uptoBulk d + 1
  | (_, d) => uptoBulk d + 1
 end
def uptoSmall : (H : Type) → List (DataW H) → Bool := fun _ ds => decide (uptoBulkAll ds ≤ 1048576)
def OpenSpec.upto (s : _root_.Go.ChangeSpec) : _root_.Go.OpenSpec := { _root_.Go.OpenSpec.ofChange s with cond := some uptoSmall }

/-- 'laws.FnExactStarParts', WHERE WHAT IT READS IS OF BULK AT MOST 1048576: true; the input reads as it did. -/
def fnExactStarPartsUptoRow : OpenClaim := { program := "ytimjajkkgfbanaa", sum := "01a3ac7fdfdb341d6f4057d17a28aed34be980333a317d22c03628b8e4876c29", func := "loop.example/oneletter/laws.FnExactStarParts", spec := "fnExactStarParts", inPlace := ["internal/bytealg.IndexByteString", "internal/bytealg.IndexString"], recurses := true, named := ["internal/bytealg.MaxLen"], apart := false, narrowed := true }
def FnExactStarPartsUptoSaid : Prop := fnExactStarPartsUptoRow.holds Try.pinned (OpenSpec.upto fnExactStarPartsSpec)

/-- 'laws.FnExactSumOf', WHERE WHAT IT READS IS OF BULK AT MOST 1048576: true; the input reads as it did. -/
def fnExactSumOfUptoRow : OpenClaim := { program := "ytimjajkkgfbanaa", sum := "01a3ac7fdfdb341d6f4057d17a28aed34be980333a317d22c03628b8e4876c29", func := "loop.example/oneletter/laws.FnExactSumOf", spec := "fnExactSumOf", inPlace := ["internal/bytealg.IndexByteString", "internal/bytealg.IndexString", "internal/abi.NoEscape"], unfollowed := true, recurses := true, named := ["internal/bytealg.MaxLen"], apart := false, narrowed := true }
def FnExactSumOfUptoSaid : Prop := fnExactSumOfUptoRow.holds Try.pinned (OpenSpec.upto fnExactSumOfSpec)

/-- 'laws.FnExactSumDouble', WHERE WHAT IT READS IS OF BULK AT MOST 1048576: true; the input reads as it did. -/
def fnExactSumDoubleUptoRow : OpenClaim := { program := "ytimjajkkgfbanaa", sum := "01a3ac7fdfdb341d6f4057d17a28aed34be980333a317d22c03628b8e4876c29", func := "loop.example/oneletter/laws.FnExactSumDouble", spec := "fnExactSumDouble", inPlace := ["internal/bytealg.IndexByteString", "internal/bytealg.IndexString", "internal/abi.NoEscape"], unfollowed := true, recurses := true, named := ["internal/bytealg.MaxLen"], apart := false, narrowed := true }
def FnExactSumDoubleUptoSaid : Prop := fnExactSumDoubleUptoRow.holds Try.pinned (OpenSpec.upto fnExactSumDoubleSpec)

/-- 'laws.FnExactSumTimes', WHERE WHAT IT READS IS OF BULK AT MOST 1048576: true; the input reads as it did. -/
def fnExactSumTimesUptoRow : OpenClaim := { program := "ytimjajkkgfbanaa", sum := "01a3ac7fdfdb341d6f4057d17a28aed34be980333a317d22c03628b8e4876c29", func := "loop.example/oneletter/laws.FnExactSumTimes", spec := "fnExactSumTimes", inPlace := ["internal/bytealg.IndexByteString", "internal/bytealg.IndexString", "internal/abi.NoEscape"], unfollowed := true, recurses := true, named := ["internal/bytealg.MaxLen"], apart := false, narrowed := true }
def FnExactSumTimesUptoSaid : Prop := fnExactSumTimesUptoRow.holds Try.pinned (OpenSpec.upto fnExactSumTimesSpec)

/-- 'laws.FnExactStarOf', WHERE WHAT IT READS IS OF BULK AT MOST 1048576: true; the input reads as it did. -/
def fnExactStarOfUptoRow : OpenClaim := { program := "ytimjajkkgfbanaa", sum := "01a3ac7fdfdb341d6f4057d17a28aed34be980333a317d22c03628b8e4876c29", func := "loop.example/oneletter/laws.FnExactStarOf", spec := "fnExactStarOf", inPlace := ["internal/bytealg.IndexByteString", "internal/bytealg.IndexString", "internal/abi.NoEscape"], unfollowed := true, recurses := true, named := ["internal/bytealg.MaxLen"], apart := false, narrowed := true }
def FnExactStarOfUptoSaid : Prop := fnExactStarOfUptoRow.holds Try.pinned (OpenSpec.upto fnExactStarOfSpec)

/-- 'laws.FnExactStarPlus', WHERE WHAT IT READS IS OF BULK AT MOST 1048576: true; the input reads as it did. -/
def fnExactStarPlusUptoRow : OpenClaim := { program := "ytimjajkkgfbanaa", sum := "01a3ac7fdfdb341d6f4057d17a28aed34be980333a317d22c03628b8e4876c29", func := "loop.example/oneletter/laws.FnExactStarPlus", spec := "fnExactStarPlus", inPlace := ["internal/bytealg.IndexByteString", "internal/bytealg.IndexString", "internal/abi.NoEscape"], unfollowed := true, recurses := true, named := ["internal/bytealg.MaxLen"], apart := false, narrowed := true }
def FnExactStarPlusUptoSaid : Prop := fnExactStarPlusUptoRow.holds Try.pinned (OpenSpec.upto fnExactStarPlusSpec)

end Rows
end Go.Proofs.Ytimjajkkgfbanaa
