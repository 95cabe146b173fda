/-
  No cell of these rows narrows 'for every input' (looked for: loops, veiled, ifaces, maps, wideKeys, modest, calm, conditions, laid).
  DERIVED. THE GIVEN ROWS OF THIS SEAT. 6 by the template 'for every input the law returns true; each argument reads behind the call as it read before'; 0 by the template 'total and deterministic' (their statements: YtgheopbdmijlkaaTotals.lean).
  GIVEN WITH THE SEED: the statements are not yours to turn. If you find one false, say at which input.
  Laid BY PROGRAM, IN A SANDBOX (cutbox-rows.mjs): the forced cells as the released guide's own fill.sh prints them over the translation a87ecaa13ccc4d1b… (all of the seat's roots in one cut). By AI agents, Wed Nov 11 2026. No macro, syntax, notation, axiom, sorry.
-/
import Derived.Test.YtgheopbdmijlkaaChecked
import GoSem.Claim
import GoSem.ClaimJoined
import GoSem.ClaimMapViews
import Derived.JoinedTies
import Derived.KernelRfl
namespace Go.Proofs.Ytgheopbdmijlkaa
/- THE CELL 'sum', in the pinned program and in every row, IS THE sha256 OF THE DUMP (.gsa) THAT YtgheopbdmijlkaaProg.lean LOADS. Nothing in Lean hashes anything: it is a label: what it is worth is what the hold of that sum in a sandbox is worth. -/
noncomputable def Try.pinned : Pinned := { name := "ytgheopbdmijlkaa", sum := "a87ecaa13ccc4d1b915df34f5ee1ee4b1767a07ad2b6e190ca610f07049ef852", checked := Try.checked }
namespace Rows
def none {H : Type} : Left H := { results := [], args := [] }

/-- 'laws.FnExactMakeBoth': WHATEVER THE INPUT: true; the input reads as it did. -/
def fnExactMakeBothSpec : ChangeSpec := { name := "fnExactMakeBoth", fn := fun _ => fun
  | [d1, d2] => { results := [.lit (.bool true)], args := [d1, d2] }
  | _ => none }
def fnExactMakeBothRow : OpenClaim := { program := "ytgheopbdmijlkaa", sum := "a87ecaa13ccc4d1b915df34f5ee1ee4b1767a07ad2b6e190ca610f07049ef852", func := "loop.example/oneletter/laws.FnExactMakeBoth", spec := "fnExactMakeBoth", inPlace := ["internal/bytealg.IndexByteString", "internal/bytealg.IndexString", "internal/abi.NoEscape"], unfollowed := true, recurses := true, named := ["internal/bytealg.MaxLen"], apart := false }
def FnExactMakeBothSaid : Prop := fnExactMakeBothRow.holds Try.pinned (OpenSpec.ofChange fnExactMakeBothSpec)

/-- ITS FALSE NEIGHBOUR: 'it returns false'. Refute it at one input. -/
def fnExactMakeBothWrong : ChangeSpec := { name := "fnExactMakeBoth", fn := fun _ => fun
  | [d1, d2] => { results := [.lit (.bool false)], args := [d1, d2] }
  | _ => none }
def FnExactMakeBothWrongFalsely : Prop := fnExactMakeBothRow.holds Try.pinned (OpenSpec.ofChange fnExactMakeBothWrong)

/-- 'laws.FnExactMakeEither': WHATEVER THE INPUT: true; the input reads as it did. -/
def fnExactMakeEitherSpec : ChangeSpec := { name := "fnExactMakeEither", fn := fun _ => fun
  | [d1, d2] => { results := [.lit (.bool true)], args := [d1, d2] }
  | _ => none }
def fnExactMakeEitherRow : OpenClaim := { program := "ytgheopbdmijlkaa", sum := "a87ecaa13ccc4d1b915df34f5ee1ee4b1767a07ad2b6e190ca610f07049ef852", func := "loop.example/oneletter/laws.FnExactMakeEither", spec := "fnExactMakeEither", inPlace := ["internal/bytealg.IndexByteString", "internal/bytealg.IndexString", "internal/abi.NoEscape"], unfollowed := true, recurses := true, named := ["internal/bytealg.MaxLen"], apart := false }
def FnExactMakeEitherSaid : Prop := fnExactMakeEitherRow.holds Try.pinned (OpenSpec.ofChange fnExactMakeEitherSpec)

/-- ITS FALSE NEIGHBOUR: 'it returns false'. Refute it at one input. -/
def fnExactMakeEitherWrong : ChangeSpec := { name := "fnExactMakeEither", fn := fun _ => fun
  | [d1, d2] => { results := [.lit (.bool false)], args := [d1, d2] }
  | _ => none }
def FnExactMakeEitherWrongFalsely : Prop := fnExactMakeEitherRow.holds Try.pinned (OpenSpec.ofChange fnExactMakeEitherWrong)

/-- 'laws.FnExactMakeWithout': WHATEVER THE INPUT: true; the input reads as it did. -/
def fnExactMakeWithoutSpec : ChangeSpec := { name := "fnExactMakeWithout", fn := fun _ => fun
  | [d1, d2] => { results := [.lit (.bool true)], args := [d1, d2] }
  | _ => none }
def fnExactMakeWithoutRow : OpenClaim := { program := "ytgheopbdmijlkaa", sum := "a87ecaa13ccc4d1b915df34f5ee1ee4b1767a07ad2b6e190ca610f07049ef852", func := "loop.example/oneletter/laws.FnExactMakeWithout", spec := "fnExactMakeWithout", inPlace := ["internal/bytealg.IndexByteString", "internal/bytealg.IndexString", "internal/abi.NoEscape"], unfollowed := true, recurses := true, named := ["internal/bytealg.MaxLen"], apart := false }
def FnExactMakeWithoutSaid : Prop := fnExactMakeWithoutRow.holds Try.pinned (OpenSpec.ofChange fnExactMakeWithoutSpec)

/-- ITS FALSE NEIGHBOUR: 'it returns false'. Refute it at one input. -/
def fnExactMakeWithoutWrong : ChangeSpec := { name := "fnExactMakeWithout", fn := fun _ => fun
  | [d1, d2] => { results := [.lit (.bool false)], args := [d1, d2] }
  | _ => none }
def FnExactMakeWithoutWrongFalsely : Prop := fnExactMakeWithoutRow.holds Try.pinned (OpenSpec.ofChange fnExactMakeWithoutWrong)

/-- 'laws.FnExactRestAll': WHATEVER THE INPUT: true; the input reads as it did. -/
def fnExactRestAllSpec : ChangeSpec := { name := "fnExactRestAll", fn := fun _ => fun
  | [d1, d2] => { results := [.lit (.bool true)], args := [d1, d2] }
  | _ => none }
def fnExactRestAllRow : OpenClaim := { program := "ytgheopbdmijlkaa", sum := "a87ecaa13ccc4d1b915df34f5ee1ee4b1767a07ad2b6e190ca610f07049ef852", func := "loop.example/oneletter/laws.FnExactRestAll", spec := "fnExactRestAll", inPlace := ["internal/bytealg.IndexByteString", "internal/bytealg.IndexString", "internal/abi.NoEscape"], unfollowed := true, recurses := true, named := ["internal/bytealg.MaxLen"], apart := false }
def FnExactRestAllSaid : Prop := fnExactRestAllRow.holds Try.pinned (OpenSpec.ofChange fnExactRestAllSpec)

/-- ITS FALSE NEIGHBOUR: 'it returns false'. Refute it at one input. -/
def fnExactRestAllWrong : ChangeSpec := { name := "fnExactRestAll", fn := fun _ => fun
  | [d1, d2] => { results := [.lit (.bool false)], args := [d1, d2] }
  | _ => none }
def FnExactRestAllWrongFalsely : Prop := fnExactRestAllRow.holds Try.pinned (OpenSpec.ofChange fnExactRestAllWrong)

/-- 'laws.FnExactRestSome': WHATEVER THE INPUT: true; the input reads as it did. -/
def fnExactRestSomeSpec : ChangeSpec := { name := "fnExactRestSome", fn := fun _ => fun
  | [d1, d2] => { results := [.lit (.bool true)], args := [d1, d2] }
  | _ => none }
def fnExactRestSomeRow : OpenClaim := { program := "ytgheopbdmijlkaa", sum := "a87ecaa13ccc4d1b915df34f5ee1ee4b1767a07ad2b6e190ca610f07049ef852", func := "loop.example/oneletter/laws.FnExactRestSome", spec := "fnExactRestSome", inPlace := ["internal/bytealg.IndexByteString", "internal/bytealg.IndexString", "internal/abi.NoEscape"], unfollowed := true, recurses := true, named := ["internal/bytealg.MaxLen"], apart := false }
def FnExactRestSomeSaid : Prop := fnExactRestSomeRow.holds Try.pinned (OpenSpec.ofChange fnExactRestSomeSpec)

/-- ITS FALSE NEIGHBOUR: 'it returns false'. Refute it at one input. -/
def fnExactRestSomeWrong : ChangeSpec := { name := "fnExactRestSome", fn := fun _ => fun
  | [d1, d2] => { results := [.lit (.bool false)], args := [d1, d2] }
  | _ => none }
def FnExactRestSomeWrongFalsely : Prop := fnExactRestSomeRow.holds Try.pinned (OpenSpec.ofChange fnExactRestSomeWrong)

/-- 'laws.FnExactMachFew': WHATEVER THE INPUT: true; the input reads as it did. -/
def fnExactMachFewSpec : ChangeSpec := { name := "fnExactMachFew", fn := fun _ => fun
  | [d] => { results := [.lit (.bool true)], args := [d] }
  | _ => none }
def fnExactMachFewRow : OpenClaim := { program := "ytgheopbdmijlkaa", sum := "a87ecaa13ccc4d1b915df34f5ee1ee4b1767a07ad2b6e190ca610f07049ef852", func := "loop.example/oneletter/laws.FnExactMachFew", spec := "fnExactMachFew", inPlace := ["internal/abi.NoEscape", "internal/bytealg.IndexByteString", "internal/bytealg.IndexString"], unfollowed := true, recurses := true, named := ["internal/bytealg.MaxLen"], apart := false }
def FnExactMachFewSaid : Prop := fnExactMachFewRow.holds Try.pinned (OpenSpec.ofChange fnExactMachFewSpec)

/-- ITS FALSE NEIGHBOUR: 'it returns false'. Refute it at one input. -/
def fnExactMachFewWrong : ChangeSpec := { name := "fnExactMachFew", fn := fun _ => fun
  | [d] => { results := [.lit (.bool false)], args := [d] }
  | _ => none }
def FnExactMachFewWrongFalsely : Prop := fnExactMachFewRow.holds Try.pinned (OpenSpec.ofChange fnExactMachFewWrong)

/- THE SECOND FORM. 'bulk': how many values and letters a reading holds, each counted each time it is reached (what is shared counts as often as it is met; a slice's spare places count too). A statement '..UptoSaid' is the law's where the arguments, and the package variables that the reading takes, are together of bulk at most 1048576: NARROWER than '..Said'. Prove '..Said' where nothing that the law and all that it calls make is longer than what came in: it says more and counts as full. Else prove '..UptoSaid'. A law counts once. -/
mutual
def uptoBulk {H : Type} : DataW H → Nat
  | .lit (.string bytes) => bytes.length + 1
  | .lit _ => 1
  | .nil => 1
  | .ptr d => uptoBulk d + 1
  | .slice elems spare => uptoBulkAll elems + uptoBulkAll spare + 1
  | .agg parts => uptoBulkAll parts + 1
  | .iface _ d => uptoBulk d + 1
  | .map entries => uptoBulkEntries entries + 1
  | .held _ => 1
def uptoBulkAll {H : Type} : List (DataW H) → Nat
  | [] => 0
  | d :: r => uptoBulk d + uptoBulkAll r
def uptoBulkEntries {H : Type} : List (Lit × DataW H) → Nat
  | [] => 0
  | x :: r => uptoBulkEntry x + uptoBulkEntries r
def uptoBulkEntry {H : Type} : Lit × DataW H → Nat
  | (.string bytes, d) => bytes.length + uptoBulk d + 1
  | (_, d) => uptoBulk d + 1
 end
def uptoSmall : (H : Type) → List (DataW H) → Bool := fun _ ds => decide (uptoBulkAll ds ≤ 1048576)
def OpenSpec.upto (s : _root_.Go.ChangeSpec) : _root_.Go.OpenSpec := { _root_.Go.OpenSpec.ofChange s with cond := some uptoSmall }

/-- 'laws.FnExactMakeBoth', WHERE WHAT IT READS IS OF BULK AT MOST 1048576: true; the input reads as it did. -/
def fnExactMakeBothUptoRow : OpenClaim := { program := "ytgheopbdmijlkaa", sum := "a87ecaa13ccc4d1b915df34f5ee1ee4b1767a07ad2b6e190ca610f07049ef852", func := "loop.example/oneletter/laws.FnExactMakeBoth", spec := "fnExactMakeBoth", inPlace := ["internal/bytealg.IndexByteString", "internal/bytealg.IndexString", "internal/abi.NoEscape"], unfollowed := true, recurses := true, named := ["internal/bytealg.MaxLen"], apart := false, narrowed := true }
def FnExactMakeBothUptoSaid : Prop := fnExactMakeBothUptoRow.holds Try.pinned (OpenSpec.upto fnExactMakeBothSpec)

/-- 'laws.FnExactMakeEither', WHERE WHAT IT READS IS OF BULK AT MOST 1048576: true; the input reads as it did. -/
def fnExactMakeEitherUptoRow : OpenClaim := { program := "ytgheopbdmijlkaa", sum := "a87ecaa13ccc4d1b915df34f5ee1ee4b1767a07ad2b6e190ca610f07049ef852", func := "loop.example/oneletter/laws.FnExactMakeEither", spec := "fnExactMakeEither", inPlace := ["internal/bytealg.IndexByteString", "internal/bytealg.IndexString", "internal/abi.NoEscape"], unfollowed := true, recurses := true, named := ["internal/bytealg.MaxLen"], apart := false, narrowed := true }
def FnExactMakeEitherUptoSaid : Prop := fnExactMakeEitherUptoRow.holds Try.pinned (OpenSpec.upto fnExactMakeEitherSpec)

/-- 'laws.FnExactMakeWithout', WHERE WHAT IT READS IS OF BULK AT MOST 1048576: true; the input reads as it did. -/
def fnExactMakeWithoutUptoRow : OpenClaim := { program := "ytgheopbdmijlkaa", sum := "a87ecaa13ccc4d1b915df34f5ee1ee4b1767a07ad2b6e190ca610f07049ef852", func := "loop.example/oneletter/laws.FnExactMakeWithout", spec := "fnExactMakeWithout", inPlace := ["internal/bytealg.IndexByteString", "internal/bytealg.IndexString", "internal/abi.NoEscape"], unfollowed := true, recurses := true, named := ["internal/bytealg.MaxLen"], apart := false, narrowed := true }
def FnExactMakeWithoutUptoSaid : Prop := fnExactMakeWithoutUptoRow.holds Try.pinned (OpenSpec.upto fnExactMakeWithoutSpec)

/-- 'laws.FnExactRestAll', WHERE WHAT IT READS IS OF BULK AT MOST 1048576: true; the input reads as it did. -/
def fnExactRestAllUptoRow : OpenClaim := { program := "ytgheopbdmijlkaa", sum := "a87ecaa13ccc4d1b915df34f5ee1ee4b1767a07ad2b6e190ca610f07049ef852", func := "loop.example/oneletter/laws.FnExactRestAll", spec := "fnExactRestAll", inPlace := ["internal/bytealg.IndexByteString", "internal/bytealg.IndexString", "internal/abi.NoEscape"], unfollowed := true, recurses := true, named := ["internal/bytealg.MaxLen"], apart := false, narrowed := true }
def FnExactRestAllUptoSaid : Prop := fnExactRestAllUptoRow.holds Try.pinned (OpenSpec.upto fnExactRestAllSpec)

/-- 'laws.FnExactRestSome', WHERE WHAT IT READS IS OF BULK AT MOST 1048576: true; the input reads as it did. -/
def fnExactRestSomeUptoRow : OpenClaim := { program := "ytgheopbdmijlkaa", sum := "a87ecaa13ccc4d1b915df34f5ee1ee4b1767a07ad2b6e190ca610f07049ef852", func := "loop.example/oneletter/laws.FnExactRestSome", spec := "fnExactRestSome", inPlace := ["internal/bytealg.IndexByteString", "internal/bytealg.IndexString", "internal/abi.NoEscape"], unfollowed := true, recurses := true, named := ["internal/bytealg.MaxLen"], apart := false, narrowed := true }
def FnExactRestSomeUptoSaid : Prop := fnExactRestSomeUptoRow.holds Try.pinned (OpenSpec.upto fnExactRestSomeSpec)

/-- 'laws.FnExactMachFew', WHERE WHAT IT READS IS OF BULK AT MOST 1048576: true; the input reads as it did. -/
def fnExactMachFewUptoRow : OpenClaim := { program := "ytgheopbdmijlkaa", sum := "a87ecaa13ccc4d1b915df34f5ee1ee4b1767a07ad2b6e190ca610f07049ef852", func := "loop.example/oneletter/laws.FnExactMachFew", spec := "fnExactMachFew", inPlace := ["internal/abi.NoEscape", "internal/bytealg.IndexByteString", "internal/bytealg.IndexString"], unfollowed := true, recurses := true, named := ["internal/bytealg.MaxLen"], apart := false, narrowed := true }
def FnExactMachFewUptoSaid : Prop := fnExactMachFewUptoRow.holds Try.pinned (OpenSpec.upto fnExactMachFewSpec)

end Rows
end Go.Proofs.Ytgheopbdmijlkaa
