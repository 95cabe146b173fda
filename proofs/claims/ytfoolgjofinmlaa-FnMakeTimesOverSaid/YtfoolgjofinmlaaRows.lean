/-
  No cell of these rows narrows 'for every input' (looked for: loops, veiled, ifaces, maps, wideKeys, modest, calm, conditions, laid).
  DERIVED. THE GIVEN ROWS OF THIS SEAT. 6 by the template 'for every input the law returns true; each argument reads behind the call as it read before'; 0 by the template 'total and deterministic' (their statements: YtfoolgjofinmlaaTotals.lean).
  GIVEN WITH THE SEED: the statements are not yours to turn. If you find one false, say at which input.
  Laid BY PROGRAM, IN A SANDBOX (cutbox-rows.mjs): the forced cells as the released guide's own fill.sh prints them over the translation c92f3cfdeec96c98… (all of the seat's roots in one cut). By AI agents, Wed Nov 11 2026. No macro, syntax, notation, axiom, sorry.
-/
import Derived.Test.YtfoolgjofinmlaaChecked
import GoSem.Claim
import GoSem.ClaimJoined
import GoSem.ClaimMapViews
import Derived.JoinedTies
import Derived.KernelRfl
namespace Go.Proofs.Ytfoolgjofinmlaa
/- THE CELL 'sum', in the pinned program and in every row, IS THE sha256 OF THE DUMP (.gsa) THAT YtfoolgjofinmlaaProg.lean LOADS. Nothing in Lean hashes anything: it is a label: what it is worth is what the hold of that sum in a sandbox is worth. -/
noncomputable def Try.pinned : Pinned := { name := "ytfoolgjofinmlaa", sum := "c92f3cfdeec96c9884b4579b3e91a7689bab4c8b8b2d8aa17a8d735befc8e3bf", checked := Try.checked }
namespace Rows
def none {H : Type} : Left H := { results := [], args := [] }

/-- 'laws.FnMakeBoth': WHATEVER THE INPUT: true; the input reads as it did. -/
def fnMakeBothSpec : ChangeSpec := { name := "fnMakeBoth", fn := fun _ => fun
  | [d] => { results := [.lit (.bool true)], args := [d] }
  | _ => none }
def fnMakeBothRow : OpenClaim := { program := "ytfoolgjofinmlaa", sum := "c92f3cfdeec96c9884b4579b3e91a7689bab4c8b8b2d8aa17a8d735befc8e3bf", func := "loop.example/oneletter/laws.FnMakeBoth", spec := "fnMakeBoth", inPlace := ["internal/bytealg.IndexByteString", "internal/bytealg.IndexString", "internal/abi.NoEscape"], unfollowed := true, recurses := true, named := ["internal/bytealg.MaxLen"], apart := false }
def FnMakeBothSaid : Prop := fnMakeBothRow.holds Try.pinned (OpenSpec.ofChange fnMakeBothSpec)

/-- ITS FALSE NEIGHBOUR: 'it returns false'. Refute it at one input. -/
def fnMakeBothWrong : ChangeSpec := { name := "fnMakeBoth", fn := fun _ => fun
  | [d] => { results := [.lit (.bool false)], args := [d] }
  | _ => none }
def FnMakeBothWrongFalsely : Prop := fnMakeBothRow.holds Try.pinned (OpenSpec.ofChange fnMakeBothWrong)

/-- 'laws.FnMakeEither': WHATEVER THE INPUT: true; the input reads as it did. -/
def fnMakeEitherSpec : ChangeSpec := { name := "fnMakeEither", fn := fun _ => fun
  | [d] => { results := [.lit (.bool true)], args := [d] }
  | _ => none }
def fnMakeEitherRow : OpenClaim := { program := "ytfoolgjofinmlaa", sum := "c92f3cfdeec96c9884b4579b3e91a7689bab4c8b8b2d8aa17a8d735befc8e3bf", func := "loop.example/oneletter/laws.FnMakeEither", spec := "fnMakeEither", inPlace := ["internal/bytealg.IndexByteString", "internal/bytealg.IndexString", "internal/abi.NoEscape"], unfollowed := true, recurses := true, named := ["internal/bytealg.MaxLen"], apart := false }
def FnMakeEitherSaid : Prop := fnMakeEitherRow.holds Try.pinned (OpenSpec.ofChange fnMakeEitherSpec)

/-- ITS FALSE NEIGHBOUR: 'it returns false'. Refute it at one input. -/
def fnMakeEitherWrong : ChangeSpec := { name := "fnMakeEither", fn := fun _ => fun
  | [d] => { results := [.lit (.bool false)], args := [d] }
  | _ => none }
def FnMakeEitherWrongFalsely : Prop := fnMakeEitherRow.holds Try.pinned (OpenSpec.ofChange fnMakeEitherWrong)

/-- 'laws.FnMakeWithout': WHATEVER THE INPUT: true; the input reads as it did. -/
def fnMakeWithoutSpec : ChangeSpec := { name := "fnMakeWithout", fn := fun _ => fun
  | [d] => { results := [.lit (.bool true)], args := [d] }
  | _ => none }
def fnMakeWithoutRow : OpenClaim := { program := "ytfoolgjofinmlaa", sum := "c92f3cfdeec96c9884b4579b3e91a7689bab4c8b8b2d8aa17a8d735befc8e3bf", func := "loop.example/oneletter/laws.FnMakeWithout", spec := "fnMakeWithout", inPlace := ["internal/bytealg.IndexByteString", "internal/bytealg.IndexString", "internal/abi.NoEscape"], unfollowed := true, recurses := true, named := ["internal/bytealg.MaxLen"], apart := false }
def FnMakeWithoutSaid : Prop := fnMakeWithoutRow.holds Try.pinned (OpenSpec.ofChange fnMakeWithoutSpec)

/-- ITS FALSE NEIGHBOUR: 'it returns false'. Refute it at one input. -/
def fnMakeWithoutWrong : ChangeSpec := { name := "fnMakeWithout", fn := fun _ => fun
  | [d] => { results := [.lit (.bool false)], args := [d] }
  | _ => none }
def FnMakeWithoutWrongFalsely : Prop := fnMakeWithoutRow.holds Try.pinned (OpenSpec.ofChange fnMakeWithoutWrong)

/-- 'laws.FnMakeMorgan': WHATEVER THE INPUT: true; the input reads as it did. -/
def fnMakeMorganSpec : ChangeSpec := { name := "fnMakeMorgan", fn := fun _ => fun
  | [d] => { results := [.lit (.bool true)], args := [d] }
  | _ => none }
def fnMakeMorganRow : OpenClaim := { program := "ytfoolgjofinmlaa", sum := "c92f3cfdeec96c9884b4579b3e91a7689bab4c8b8b2d8aa17a8d735befc8e3bf", func := "loop.example/oneletter/laws.FnMakeMorgan", spec := "fnMakeMorgan", inPlace := ["internal/bytealg.IndexByteString", "internal/bytealg.IndexString", "internal/abi.NoEscape"], unfollowed := true, recurses := true, named := ["internal/bytealg.MaxLen"], apart := false }
def FnMakeMorganSaid : Prop := fnMakeMorganRow.holds Try.pinned (OpenSpec.ofChange fnMakeMorganSpec)

/-- ITS FALSE NEIGHBOUR: 'it returns false'. Refute it at one input. -/
def fnMakeMorganWrong : ChangeSpec := { name := "fnMakeMorgan", fn := fun _ => fun
  | [d] => { results := [.lit (.bool false)], args := [d] }
  | _ => none }
def FnMakeMorganWrongFalsely : Prop := fnMakeMorganRow.holds Try.pinned (OpenSpec.ofChange fnMakeMorganWrong)

/-- 'laws.FnMakeSplit': WHATEVER THE INPUT: true; the input reads as it did. -/
def fnMakeSplitSpec : ChangeSpec := { name := "fnMakeSplit", fn := fun _ => fun
  | [d] => { results := [.lit (.bool true)], args := [d] }
  | _ => none }
def fnMakeSplitRow : OpenClaim := { program := "ytfoolgjofinmlaa", sum := "c92f3cfdeec96c9884b4579b3e91a7689bab4c8b8b2d8aa17a8d735befc8e3bf", func := "loop.example/oneletter/laws.FnMakeSplit", spec := "fnMakeSplit", inPlace := ["internal/bytealg.IndexByteString", "internal/bytealg.IndexString", "internal/abi.NoEscape"], unfollowed := true, recurses := true, named := ["internal/bytealg.MaxLen"], apart := false }
def FnMakeSplitSaid : Prop := fnMakeSplitRow.holds Try.pinned (OpenSpec.ofChange fnMakeSplitSpec)

/-- ITS FALSE NEIGHBOUR: 'it returns false'. Refute it at one input. -/
def fnMakeSplitWrong : ChangeSpec := { name := "fnMakeSplit", fn := fun _ => fun
  | [d] => { results := [.lit (.bool false)], args := [d] }
  | _ => none }
def FnMakeSplitWrongFalsely : Prop := fnMakeSplitRow.holds Try.pinned (OpenSpec.ofChange fnMakeSplitWrong)

/-- 'laws.FnMakeTimesOver': WHATEVER THE INPUT: true; the input reads as it did. -/
def fnMakeTimesOverSpec : ChangeSpec := { name := "fnMakeTimesOver", fn := fun _ => fun
  | [d] => { results := [.lit (.bool true)], args := [d] }
  | _ => none }
def fnMakeTimesOverRow : OpenClaim := { program := "ytfoolgjofinmlaa", sum := "c92f3cfdeec96c9884b4579b3e91a7689bab4c8b8b2d8aa17a8d735befc8e3bf", func := "loop.example/oneletter/laws.FnMakeTimesOver", spec := "fnMakeTimesOver", inPlace := ["internal/bytealg.IndexByteString", "internal/bytealg.IndexString", "internal/abi.NoEscape"], unfollowed := true, recurses := true, named := ["internal/bytealg.MaxLen"], apart := false }
def FnMakeTimesOverSaid : Prop := fnMakeTimesOverRow.holds Try.pinned (OpenSpec.ofChange fnMakeTimesOverSpec)

/-- ITS FALSE NEIGHBOUR: 'it returns false'. Refute it at one input. -/
def fnMakeTimesOverWrong : ChangeSpec := { name := "fnMakeTimesOver", fn := fun _ => fun
  | [d] => { results := [.lit (.bool false)], args := [d] }
  | _ => none }
def FnMakeTimesOverWrongFalsely : Prop := fnMakeTimesOverRow.holds Try.pinned (OpenSpec.ofChange fnMakeTimesOverWrong)

/- THE SECOND FORM. 'bulk': how many values and letters a reading holds, each counted each time it is reached (what is shared counts as often as it is met; a slice's spare places count too). A statement '..UptoSaid' is the law's where the arguments, and the package variables that the reading takes, are together of bulk at most 1048576: NARROWER than '..Said'. Prove '..Said' where nothing that the law and all that it calls make is longer than what came in: it says more and counts as full. Else prove '..UptoSaid'. A law counts once. -/
mutual
def uptoBulk {H : Type} : DataW H → Nat
  | .lit (.string bytes) => bytes.length + 1
  | .lit _ => 1
  | .nil => 1
  | .ptr d => uptoBulk d + 1
  | .slice elems spare => uptoBulkAll elems + uptoBulkAll spare + 1
  | .agg parts => uptoBulkAll parts + 1
  | .iface _ d => uptoBulk d + 1
  | .map entries => uptoBulkEntries entries + 1
  | .held _ => 1
def uptoBulkAll {H : Type} : List (DataW H) → Nat
  | [] => 0
  | d :: r => uptoBulk d + uptoBulkAll r
def uptoBulkEntries {H : Type} : List (Lit × DataW H) → Nat
  | [] => 0
  | x :: r => uptoBulkEntry x + uptoBulkEntries r
def uptoBulkEntry {H : Type} : Lit × DataW H → Nat
  | (.string bytes, d) => bytes.length + uptoBulk d + 1
  | (_, d) => uptoBulk d + 1
 end
def uptoSmall : (H : Type) → List (DataW H) → Bool := fun _ ds => decide (uptoBulkAll ds ≤ 1048576)
def OpenSpec.upto (s : _root_.Go.ChangeSpec) : _root_.Go.OpenSpec := { _root_.Go.OpenSpec.ofChange s with cond := some uptoSmall }

/-- 'laws.FnMakeBoth', WHERE WHAT IT READS IS OF BULK AT MOST 1048576: true; the input reads as it did. -/
def fnMakeBothUptoRow : OpenClaim := { program := "ytfoolgjofinmlaa", sum := "c92f3cfdeec96c9884b4579b3e91a7689bab4c8b8b2d8aa17a8d735befc8e3bf", func := "loop.example/oneletter/laws.FnMakeBoth", spec := "fnMakeBoth", inPlace := ["internal/bytealg.IndexByteString", "internal/bytealg.IndexString", "internal/abi.NoEscape"], unfollowed := true, recurses := true, named := ["internal/bytealg.MaxLen"], apart := false, narrowed := true }
def FnMakeBothUptoSaid : Prop := fnMakeBothUptoRow.holds Try.pinned (OpenSpec.upto fnMakeBothSpec)

/-- 'laws.FnMakeEither', WHERE WHAT IT READS IS OF BULK AT MOST 1048576: true; the input reads as it did. -/
def fnMakeEitherUptoRow : OpenClaim := { program := "ytfoolgjofinmlaa", sum := "c92f3cfdeec96c9884b4579b3e91a7689bab4c8b8b2d8aa17a8d735befc8e3bf", func := "loop.example/oneletter/laws.FnMakeEither", spec := "fnMakeEither", inPlace := ["internal/bytealg.IndexByteString", "internal/bytealg.IndexString", "internal/abi.NoEscape"], unfollowed := true, recurses := true, named := ["internal/bytealg.MaxLen"], apart := false, narrowed := true }
def FnMakeEitherUptoSaid : Prop := fnMakeEitherUptoRow.holds Try.pinned (OpenSpec.upto fnMakeEitherSpec)

/-- 'laws.FnMakeWithout', WHERE WHAT IT READS IS OF BULK AT MOST 1048576: true; the input reads as it did. -/
def fnMakeWithoutUptoRow : OpenClaim := { program := "ytfoolgjofinmlaa", sum := "c92f3cfdeec96c9884b4579b3e91a7689bab4c8b8b2d8aa17a8d735befc8e3bf", func := "loop.example/oneletter/laws.FnMakeWithout", spec := "fnMakeWithout", inPlace := ["internal/bytealg.IndexByteString", "internal/bytealg.IndexString", "internal/abi.NoEscape"], unfollowed := true, recurses := true, named := ["internal/bytealg.MaxLen"], apart := false, narrowed := true }
def FnMakeWithoutUptoSaid : Prop := fnMakeWithoutUptoRow.holds Try.pinned (OpenSpec.upto fnMakeWithoutSpec)

/-- 'laws.FnMakeMorgan', WHERE WHAT IT READS IS OF BULK AT MOST 1048576: true; the input reads as it did. -/
def fnMakeMorganUptoRow : OpenClaim := { program := "ytfoolgjofinmlaa", sum := "c92f3cfdeec96c9884b4579b3e91a7689bab4c8b8b2d8aa17a8d735befc8e3bf", func := "loop.example/oneletter/laws.FnMakeMorgan", spec := "fnMakeMorgan", inPlace := ["internal/bytealg.IndexByteString", "internal/bytealg.IndexString", "internal/abi.NoEscape"], unfollowed := true, recurses := true, named := ["internal/bytealg.MaxLen"], apart := false, narrowed := true }
def FnMakeMorganUptoSaid : Prop := fnMakeMorganUptoRow.holds Try.pinned (OpenSpec.upto fnMakeMorganSpec)

/-- 'laws.FnMakeSplit', WHERE WHAT IT READS IS OF BULK AT MOST 1048576: true; the input reads as it did. -/
def fnMakeSplitUptoRow : OpenClaim := { program := "ytfoolgjofinmlaa", sum := "c92f3cfdeec96c9884b4579b3e91a7689bab4c8b8b2d8aa17a8d735befc8e3bf", func := "loop.example/oneletter/laws.FnMakeSplit", spec := "fnMakeSplit", inPlace := ["internal/bytealg.IndexByteString", "internal/bytealg.IndexString", "internal/abi.NoEscape"], unfollowed := true, recurses := true, named := ["internal/bytealg.MaxLen"], apart := false, narrowed := true }
def FnMakeSplitUptoSaid : Prop := fnMakeSplitUptoRow.holds Try.pinned (OpenSpec.upto fnMakeSplitSpec)

/-- 'laws.FnMakeTimesOver', WHERE WHAT IT READS IS OF BULK AT MOST 1048576: true; the input reads as it did. -/
def fnMakeTimesOverUptoRow : OpenClaim := { program := "ytfoolgjofinmlaa", sum := "c92f3cfdeec96c9884b4579b3e91a7689bab4c8b8b2d8aa17a8d735befc8e3bf", func := "loop.example/oneletter/laws.FnMakeTimesOver", spec := "fnMakeTimesOver", inPlace := ["internal/bytealg.IndexByteString", "internal/bytealg.IndexString", "internal/abi.NoEscape"], unfollowed := true, recurses := true, named := ["internal/bytealg.MaxLen"], apart := false, narrowed := true }
def FnMakeTimesOverUptoSaid : Prop := fnMakeTimesOverUptoRow.holds Try.pinned (OpenSpec.upto fnMakeTimesOverSpec)

end Rows
end Go.Proofs.Ytfoolgjofinmlaa
