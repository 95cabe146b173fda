/-
  No cell of these rows narrows 'for every input' (looked for: loops, veiled, ifaces, maps, wideKeys, modest, calm, conditions, laid).
  DERIVED. THE GIVEN ROWS OF THIS SEAT. 5 by the template 'for every input the law returns true; each argument reads behind the call as it read before'; 0 by the template 'total and deterministic' (their statements: YtneadgionjlicaaTotals.lean).
  GIVEN WITH THE SEED: the statements are not yours to turn. If you find one false, say at which input.
  Laid BY PROGRAM, IN A SANDBOX (cutbox-rows.mjs): the forced cells as the released guide's own fill.sh prints them over the translation 75e8312c8213c916… (all of the seat's roots in one cut). By AI agents, Wed Nov 11 2026. No macro, syntax, notation, axiom, sorry.
-/
import Derived.Test.YtneadgionjlicaaChecked
import GoSem.Claim
import GoSem.ClaimJoined
import GoSem.ClaimMapViews
import Derived.JoinedTies
import Derived.KernelRfl
namespace Go.Proofs.Ytneadgionjlicaa
/- THE CELL 'sum', in the pinned program and in every row, IS THE sha256 OF THE DUMP (.gsa) THAT YtneadgionjlicaaProg.lean LOADS. Nothing in Lean hashes anything: it is a label: what it is worth is what the hold of that sum in a sandbox is worth. -/
noncomputable def Try.pinned : Pinned := { name := "ytneadgionjlicaa", sum := "75e8312c8213c9168c1f11ce4f3e3f72f341d5d169fc2d0f8cab555fa8031d96", checked := Try.checked }
namespace Rows
def none {H : Type} : Left H := { results := [], args := [] }

/-- 'laws.FnRestSome': WHATEVER THE INPUT: true; the input reads as it did. -/
def fnRestSomeSpec : ChangeSpec := { name := "fnRestSome", fn := fun _ => fun
  | [d] => { results := [.lit (.bool true)], args := [d] }
  | _ => none }
def fnRestSomeRow : OpenClaim := { program := "ytneadgionjlicaa", sum := "75e8312c8213c9168c1f11ce4f3e3f72f341d5d169fc2d0f8cab555fa8031d96", func := "loop.example/oneletter/laws.FnRestSome", spec := "fnRestSome", inPlace := ["internal/bytealg.IndexByteString", "internal/bytealg.IndexString", "internal/abi.NoEscape"], unfollowed := true, recurses := true, named := ["internal/bytealg.MaxLen"], apart := false }
def FnRestSomeSaid : Prop := fnRestSomeRow.holds Try.pinned (OpenSpec.ofChange fnRestSomeSpec)

/-- ITS FALSE NEIGHBOUR: 'it returns false'. Refute it at one input. -/
def fnRestSomeWrong : ChangeSpec := { name := "fnRestSome", fn := fun _ => fun
  | [d] => { results := [.lit (.bool false)], args := [d] }
  | _ => none }
def FnRestSomeWrongFalsely : Prop := fnRestSomeRow.holds Try.pinned (OpenSpec.ofChange fnRestSomeWrong)

/-- 'laws.FnRestAll': WHATEVER THE INPUT: true; the input reads as it did. -/
def fnRestAllSpec : ChangeSpec := { name := "fnRestAll", fn := fun _ => fun
  | [d] => { results := [.lit (.bool true)], args := [d] }
  | _ => none }
def fnRestAllRow : OpenClaim := { program := "ytneadgionjlicaa", sum := "75e8312c8213c9168c1f11ce4f3e3f72f341d5d169fc2d0f8cab555fa8031d96", func := "loop.example/oneletter/laws.FnRestAll", spec := "fnRestAll", inPlace := ["internal/bytealg.IndexByteString", "internal/bytealg.IndexString", "internal/abi.NoEscape"], unfollowed := true, recurses := true, named := ["internal/bytealg.MaxLen"], apart := false }
def FnRestAllSaid : Prop := fnRestAllRow.holds Try.pinned (OpenSpec.ofChange fnRestAllSpec)

/-- ITS FALSE NEIGHBOUR: 'it returns false'. Refute it at one input. -/
def fnRestAllWrong : ChangeSpec := { name := "fnRestAll", fn := fun _ => fun
  | [d] => { results := [.lit (.bool false)], args := [d] }
  | _ => none }
def FnRestAllWrongFalsely : Prop := fnRestAllRow.holds Try.pinned (OpenSpec.ofChange fnRestAllWrong)

/-- 'laws.FnMachFew': WHATEVER THE INPUT: true; the input reads as it did. -/
def fnMachFewSpec : ChangeSpec := { name := "fnMachFew", fn := fun _ => fun
  | [d] => { results := [.lit (.bool true)], args := [d] }
  | _ => none }
def fnMachFewRow : OpenClaim := { program := "ytneadgionjlicaa", sum := "75e8312c8213c9168c1f11ce4f3e3f72f341d5d169fc2d0f8cab555fa8031d96", func := "loop.example/oneletter/laws.FnMachFew", spec := "fnMachFew", inPlace := ["internal/abi.NoEscape", "internal/bytealg.IndexByteString", "internal/bytealg.IndexString"], unfollowed := true, recurses := true, named := ["internal/bytealg.MaxLen"], apart := false }
def FnMachFewSaid : Prop := fnMachFewRow.holds Try.pinned (OpenSpec.ofChange fnMachFewSpec)

/-- ITS FALSE NEIGHBOUR: 'it returns false'. Refute it at one input. -/
def fnMachFewWrong : ChangeSpec := { name := "fnMachFew", fn := fun _ => fun
  | [d] => { results := [.lit (.bool false)], args := [d] }
  | _ => none }
def FnMachFewWrongFalsely : Prop := fnMachFewRow.holds Try.pinned (OpenSpec.ofChange fnMachFewWrong)

/-- 'laws.FnMachSum': WHATEVER THE INPUT: true; the input reads as it did. -/
def fnMachSumSpec : ChangeSpec := { name := "fnMachSum", fn := fun _ => fun
  | [d] => { results := [.lit (.bool true)], args := [d] }
  | _ => none }
def fnMachSumRow : OpenClaim := { program := "ytneadgionjlicaa", sum := "75e8312c8213c9168c1f11ce4f3e3f72f341d5d169fc2d0f8cab555fa8031d96", func := "loop.example/oneletter/laws.FnMachSum", spec := "fnMachSum", inPlace := ["internal/abi.NoEscape", "internal/bytealg.IndexByteString", "internal/bytealg.IndexString"], unfollowed := true, recurses := true, named := ["internal/bytealg.MaxLen"], apart := false }
def FnMachSumSaid : Prop := fnMachSumRow.holds Try.pinned (OpenSpec.ofChange fnMachSumSpec)

/-- ITS FALSE NEIGHBOUR: 'it returns false'. Refute it at one input. -/
def fnMachSumWrong : ChangeSpec := { name := "fnMachSum", fn := fun _ => fun
  | [d] => { results := [.lit (.bool false)], args := [d] }
  | _ => none }
def FnMachSumWrongFalsely : Prop := fnMachSumRow.holds Try.pinned (OpenSpec.ofChange fnMachSumWrong)

/-- 'laws.FnMachSet': WHATEVER THE INPUT: true; the input reads as it did. -/
def fnMachSetSpec : ChangeSpec := { name := "fnMachSet", fn := fun _ => fun
  | [d] => { results := [.lit (.bool true)], args := [d] }
  | _ => none }
def fnMachSetRow : OpenClaim := { program := "ytneadgionjlicaa", sum := "75e8312c8213c9168c1f11ce4f3e3f72f341d5d169fc2d0f8cab555fa8031d96", func := "loop.example/oneletter/laws.FnMachSet", spec := "fnMachSet", inPlace := ["internal/abi.NoEscape", "internal/bytealg.IndexByteString", "internal/bytealg.IndexString"], unfollowed := true, recurses := true, named := ["internal/bytealg.MaxLen"], apart := false }
def FnMachSetSaid : Prop := fnMachSetRow.holds Try.pinned (OpenSpec.ofChange fnMachSetSpec)

/-- ITS FALSE NEIGHBOUR: 'it returns false'. Refute it at one input. -/
def fnMachSetWrong : ChangeSpec := { name := "fnMachSet", fn := fun _ => fun
  | [d] => { results := [.lit (.bool false)], args := [d] }
  | _ => none }
def FnMachSetWrongFalsely : Prop := fnMachSetRow.holds Try.pinned (OpenSpec.ofChange fnMachSetWrong)

/- THE SECOND FORM. 'bulk': how many values and letters a reading holds, each counted each time it is reached (what is shared counts as often as it is met; a slice's spare places count too). A statement '..UptoSaid' is the law's where the arguments, and the package variables that the reading takes, are together of bulk at most 1048576: NARROWER than '..Said'. Prove '..Said' where nothing that the law and all that it calls make is longer than what came in: it says more and counts as full. Else prove '..UptoSaid'. A law counts once. -/
mutual
def uptoBulk {H : Type} : DataW H → Nat
  | .lit (.string bytes) => bytes.length + 1
  | .lit _ => 1
  | .nil => 1
  | .ptr d => uptoBulk d + 1
  | .slice elems spare => uptoBulkAll elems + uptoBulkAll spare + 1
  | .agg parts => uptoBulkAll parts + 1
  | .iface _ d => uptoBulk d + 1
  | .map entries => uptoBulkEntries entries + 1
  | .held _ => 1
def uptoBulkAll {H : Type} : List (DataW H) → Nat
  | [] => 0
  | d :: r => uptoBulk d + uptoBulkAll r
def uptoBulkEntries {H : Type} : List (Lit × DataW H) → Nat
  | [] => 0
  | x :: r => uptoBulkEntry x + uptoBulkEntries r
def uptoBulkEntry {H : Type} : Lit × DataW H → Nat
  | (.string bytes, d) => bytes.length + uptoBulk d + 1
  | (_, d) => uptoBulk d + 1
 end
def uptoSmall : (H : Type) → List (DataW H) → Bool := fun _ ds => decide (uptoBulkAll ds ≤ 1048576)
def OpenSpec.upto (s : _root_.Go.ChangeSpec) : _root_.Go.OpenSpec := { _root_.Go.OpenSpec.ofChange s with cond := some uptoSmall }

/-- 'laws.FnRestSome', WHERE WHAT IT READS IS OF BULK AT MOST 1048576: true; the input reads as it did. -/
def fnRestSomeUptoRow : OpenClaim := { program := "ytneadgionjlicaa", sum := "75e8312c8213c9168c1f11ce4f3e3f72f341d5d169fc2d0f8cab555fa8031d96", func := "loop.example/oneletter/laws.FnRestSome", spec := "fnRestSome", inPlace := ["internal/bytealg.IndexByteString", "internal/bytealg.IndexString", "internal/abi.NoEscape"], unfollowed := true, recurses := true, named := ["internal/bytealg.MaxLen"], apart := false, narrowed := true }
def FnRestSomeUptoSaid : Prop := fnRestSomeUptoRow.holds Try.pinned (OpenSpec.upto fnRestSomeSpec)

/-- 'laws.FnRestAll', WHERE WHAT IT READS IS OF BULK AT MOST 1048576: true; the input reads as it did. -/
def fnRestAllUptoRow : OpenClaim := { program := "ytneadgionjlicaa", sum := "75e8312c8213c9168c1f11ce4f3e3f72f341d5d169fc2d0f8cab555fa8031d96", func := "loop.example/oneletter/laws.FnRestAll", spec := "fnRestAll", inPlace := ["internal/bytealg.IndexByteString", "internal/bytealg.IndexString", "internal/abi.NoEscape"], unfollowed := true, recurses := true, named := ["internal/bytealg.MaxLen"], apart := false, narrowed := true }
def FnRestAllUptoSaid : Prop := fnRestAllUptoRow.holds Try.pinned (OpenSpec.upto fnRestAllSpec)

/-- 'laws.FnMachFew', WHERE WHAT IT READS IS OF BULK AT MOST 1048576: true; the input reads as it did. -/
def fnMachFewUptoRow : OpenClaim := { program := "ytneadgionjlicaa", sum := "75e8312c8213c9168c1f11ce4f3e3f72f341d5d169fc2d0f8cab555fa8031d96", func := "loop.example/oneletter/laws.FnMachFew", spec := "fnMachFew", inPlace := ["internal/abi.NoEscape", "internal/bytealg.IndexByteString", "internal/bytealg.IndexString"], unfollowed := true, recurses := true, named := ["internal/bytealg.MaxLen"], apart := false, narrowed := true }
def FnMachFewUptoSaid : Prop := fnMachFewUptoRow.holds Try.pinned (OpenSpec.upto fnMachFewSpec)

/-- 'laws.FnMachSum', WHERE WHAT IT READS IS OF BULK AT MOST 1048576: true; the input reads as it did. -/
def fnMachSumUptoRow : OpenClaim := { program := "ytneadgionjlicaa", sum := "75e8312c8213c9168c1f11ce4f3e3f72f341d5d169fc2d0f8cab555fa8031d96", func := "loop.example/oneletter/laws.FnMachSum", spec := "fnMachSum", inPlace := ["internal/abi.NoEscape", "internal/bytealg.IndexByteString", "internal/bytealg.IndexString"], unfollowed := true, recurses := true, named := ["internal/bytealg.MaxLen"], apart := false, narrowed := true }
def FnMachSumUptoSaid : Prop := fnMachSumUptoRow.holds Try.pinned (OpenSpec.upto fnMachSumSpec)

/-- 'laws.FnMachSet', WHERE WHAT IT READS IS OF BULK AT MOST 1048576: true; the input reads as it did. -/
def fnMachSetUptoRow : OpenClaim := { program := "ytneadgionjlicaa", sum := "75e8312c8213c9168c1f11ce4f3e3f72f341d5d169fc2d0f8cab555fa8031d96", func := "loop.example/oneletter/laws.FnMachSet", spec := "fnMachSet", inPlace := ["internal/abi.NoEscape", "internal/bytealg.IndexByteString", "internal/bytealg.IndexString"], unfollowed := true, recurses := true, named := ["internal/bytealg.MaxLen"], apart := false, narrowed := true }
def FnMachSetUptoSaid : Prop := fnMachSetUptoRow.holds Try.pinned (OpenSpec.upto fnMachSetSpec)

end Rows
end Go.Proofs.Ytneadgionjlicaa
