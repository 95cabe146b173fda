/-
  No cell of these rows narrows 'for every input' (looked for: loops, veiled, ifaces, maps, wideKeys, modest, calm, conditions, laid).
  DERIVED. THE GIVEN ROWS OF THIS SEAT. 6 by the template 'for every input the law returns true; each argument reads behind the call as it read before'; 0 by the template 'total and deterministic' (their statements: YtpammnkboogceaaTotals.lean).
  GIVEN WITH THE SEED: the statements are not yours to turn. If you find one false, say at which input.
  Laid BY PROGRAM, IN A SANDBOX (cutbox-rows.mjs): the forced cells as the released guide's own fill.sh prints them over the translation 10aad3596e23cbd1… (all of the seat's roots in one cut). By AI agents, Wed Nov 11 2026. No macro, syntax, notation, axiom, sorry.
-/
import Derived.Test.YtpammnkboogceaaChecked
import GoSem.Claim
import GoSem.ClaimJoined
import GoSem.ClaimMapViews
import Derived.JoinedTies
import Derived.KernelRfl
namespace Go.Proofs.Ytpammnkboogceaa
/- THE CELL 'sum', in the pinned program and in every row, IS THE sha256 OF THE DUMP (.gsa) THAT YtpammnkboogceaaProg.lean LOADS. Nothing in Lean hashes anything: it is a label: what it is worth is what the hold of that sum in a sandbox is worth. -/
noncomputable def Try.pinned : Pinned := { name := "ytpammnkboogceaa", sum := "10aad3596e23cbd1d21097dc73083d3c66b5debd0c50963e1174a14c57956ce1", checked := Try.checked }
namespace Rows
def none {H : Type} : Left H := { results := [], args := [] }

/-- 'laws.FnExactMakeEvery': WHATEVER THE INPUT: true; the input reads as it did. -/
def fnExactMakeEverySpec : ChangeSpec := { name := "fnExactMakeEvery", fn := fun _ => fun
  | [d1, d2, d3] => { results := [.lit (.bool true)], args := [d1, d2, d3] }
  | _ => none }
def fnExactMakeEveryRow : OpenClaim := { program := "ytpammnkboogceaa", sum := "10aad3596e23cbd1d21097dc73083d3c66b5debd0c50963e1174a14c57956ce1", func := "loop.example/oneletter/laws.FnExactMakeEvery", spec := "fnExactMakeEvery", inPlace := ["internal/bytealg.IndexByteString", "internal/bytealg.IndexString", "internal/abi.NoEscape"], unfollowed := true, recurses := true, named := ["internal/bytealg.MaxLen"], apart := false }
def FnExactMakeEverySaid : Prop := fnExactMakeEveryRow.holds Try.pinned (OpenSpec.ofChange fnExactMakeEverySpec)

/-- ITS FALSE NEIGHBOUR: 'it returns false'. Refute it at one input. -/
def fnExactMakeEveryWrong : ChangeSpec := { name := "fnExactMakeEvery", fn := fun _ => fun
  | [d1, d2, d3] => { results := [.lit (.bool false)], args := [d1, d2, d3] }
  | _ => none }
def FnExactMakeEveryWrongFalsely : Prop := fnExactMakeEveryRow.holds Try.pinned (OpenSpec.ofChange fnExactMakeEveryWrong)

/-- 'laws.FnExactMakeDown': WHATEVER THE INPUT: true; the input reads as it did. -/
def fnExactMakeDownSpec : ChangeSpec := { name := "fnExactMakeDown", fn := fun _ => fun
  | [d1, d2] => { results := [.lit (.bool true)], args := [d1, d2] }
  | _ => none }
def fnExactMakeDownRow : OpenClaim := { program := "ytpammnkboogceaa", sum := "10aad3596e23cbd1d21097dc73083d3c66b5debd0c50963e1174a14c57956ce1", func := "loop.example/oneletter/laws.FnExactMakeDown", spec := "fnExactMakeDown", inPlace := ["internal/bytealg.IndexByteString", "internal/bytealg.IndexString", "internal/abi.NoEscape"], unfollowed := true, recurses := true, named := ["internal/bytealg.MaxLen"], apart := false }
def FnExactMakeDownSaid : Prop := fnExactMakeDownRow.holds Try.pinned (OpenSpec.ofChange fnExactMakeDownSpec)

/-- ITS FALSE NEIGHBOUR: 'it returns false'. Refute it at one input. -/
def fnExactMakeDownWrong : ChangeSpec := { name := "fnExactMakeDown", fn := fun _ => fun
  | [d1, d2] => { results := [.lit (.bool false)], args := [d1, d2] }
  | _ => none }
def FnExactMakeDownWrongFalsely : Prop := fnExactMakeDownRow.holds Try.pinned (OpenSpec.ofChange fnExactMakeDownWrong)

/-- 'laws.FnExactMakeOver': WHATEVER THE INPUT: true; the input reads as it did. -/
def fnExactMakeOverSpec : ChangeSpec := { name := "fnExactMakeOver", fn := fun _ => fun
  | [d1, d2] => { results := [.lit (.bool true)], args := [d1, d2] }
  | _ => none }
def fnExactMakeOverRow : OpenClaim := { program := "ytpammnkboogceaa", sum := "10aad3596e23cbd1d21097dc73083d3c66b5debd0c50963e1174a14c57956ce1", func := "loop.example/oneletter/laws.FnExactMakeOver", spec := "fnExactMakeOver", inPlace := ["internal/bytealg.IndexByteString", "internal/bytealg.IndexString", "internal/abi.NoEscape"], unfollowed := true, recurses := true, named := ["internal/bytealg.MaxLen"], apart := false }
def FnExactMakeOverSaid : Prop := fnExactMakeOverRow.holds Try.pinned (OpenSpec.ofChange fnExactMakeOverSpec)

/-- ITS FALSE NEIGHBOUR: 'it returns false'. Refute it at one input. -/
def fnExactMakeOverWrong : ChangeSpec := { name := "fnExactMakeOver", fn := fun _ => fun
  | [d1, d2] => { results := [.lit (.bool false)], args := [d1, d2] }
  | _ => none }
def FnExactMakeOverWrongFalsely : Prop := fnExactMakeOverRow.holds Try.pinned (OpenSpec.ofChange fnExactMakeOverWrong)

/-- 'laws.FnExactMakeOther': WHATEVER THE INPUT: true; the input reads as it did. -/
def fnExactMakeOtherSpec : ChangeSpec := { name := "fnExactMakeOther", fn := fun _ => fun
  | [d] => { results := [.lit (.bool true)], args := [d] }
  | _ => none }
def fnExactMakeOtherRow : OpenClaim := { program := "ytpammnkboogceaa", sum := "10aad3596e23cbd1d21097dc73083d3c66b5debd0c50963e1174a14c57956ce1", func := "loop.example/oneletter/laws.FnExactMakeOther", spec := "fnExactMakeOther", inPlace := ["internal/bytealg.IndexByteString", "internal/bytealg.IndexString", "internal/abi.NoEscape"], unfollowed := true, recurses := true, named := ["internal/bytealg.MaxLen"], apart := false }
def FnExactMakeOtherSaid : Prop := fnExactMakeOtherRow.holds Try.pinned (OpenSpec.ofChange fnExactMakeOtherSpec)

/-- ITS FALSE NEIGHBOUR: 'it returns false'. Refute it at one input. -/
def fnExactMakeOtherWrong : ChangeSpec := { name := "fnExactMakeOther", fn := fun _ => fun
  | [d] => { results := [.lit (.bool false)], args := [d] }
  | _ => none }
def FnExactMakeOtherWrongFalsely : Prop := fnExactMakeOtherRow.holds Try.pinned (OpenSpec.ofChange fnExactMakeOtherWrong)

/-- 'laws.FnExactMakeTimes': WHATEVER THE INPUT: true; the input reads as it did. -/
def fnExactMakeTimesSpec : ChangeSpec := { name := "fnExactMakeTimes", fn := fun _ => fun
  | [d1, d2] => { results := [.lit (.bool true)], args := [d1, d2] }
  | _ => none }
def fnExactMakeTimesRow : OpenClaim := { program := "ytpammnkboogceaa", sum := "10aad3596e23cbd1d21097dc73083d3c66b5debd0c50963e1174a14c57956ce1", func := "loop.example/oneletter/laws.FnExactMakeTimes", spec := "fnExactMakeTimes", inPlace := ["internal/bytealg.IndexByteString", "internal/bytealg.IndexString", "internal/abi.NoEscape"], unfollowed := true, recurses := true, named := ["internal/bytealg.MaxLen"], apart := false }
def FnExactMakeTimesSaid : Prop := fnExactMakeTimesRow.holds Try.pinned (OpenSpec.ofChange fnExactMakeTimesSpec)

/-- ITS FALSE NEIGHBOUR: 'it returns false'. Refute it at one input. -/
def fnExactMakeTimesWrong : ChangeSpec := { name := "fnExactMakeTimes", fn := fun _ => fun
  | [d1, d2] => { results := [.lit (.bool false)], args := [d1, d2] }
  | _ => none }
def FnExactMakeTimesWrongFalsely : Prop := fnExactMakeTimesRow.holds Try.pinned (OpenSpec.ofChange fnExactMakeTimesWrong)

/-- 'laws.FnExactRowsOf': WHATEVER THE INPUT: true; the input reads as it did. -/
def fnExactRowsOfSpec : ChangeSpec := { name := "fnExactRowsOf", fn := fun _ => fun
  | [d] => { results := [.lit (.bool true)], args := [d] }
  | _ => none }
def fnExactRowsOfRow : OpenClaim := { program := "ytpammnkboogceaa", sum := "10aad3596e23cbd1d21097dc73083d3c66b5debd0c50963e1174a14c57956ce1", func := "loop.example/oneletter/laws.FnExactRowsOf", spec := "fnExactRowsOf", inPlace := ["internal/bytealg.IndexByteString", "internal/bytealg.IndexString"], recurses := true, named := ["internal/bytealg.MaxLen"], apart := false }
def FnExactRowsOfSaid : Prop := fnExactRowsOfRow.holds Try.pinned (OpenSpec.ofChange fnExactRowsOfSpec)

/-- ITS FALSE NEIGHBOUR: 'it returns false'. Refute it at one input. -/
def fnExactRowsOfWrong : ChangeSpec := { name := "fnExactRowsOf", fn := fun _ => fun
  | [d] => { results := [.lit (.bool false)], args := [d] }
  | _ => none }
def FnExactRowsOfWrongFalsely : Prop := fnExactRowsOfRow.holds Try.pinned (OpenSpec.ofChange fnExactRowsOfWrong)

/- THE SECOND FORM. 'bulk': how many values and letters a reading holds, each counted each time it is reached (what is shared counts as often as it is met; a slice's spare places count too). A statement '..UptoSaid' is the law's where the arguments, and the package variables that the reading takes, are together of bulk at most 1048576: NARROWER than '..Said'. Prove '..Said' where nothing that the law and all that it calls make is longer than what came in: it says more and counts as full. Else prove '..UptoSaid'. A law counts once. -/
mutual
def uptoBulk {H : Type} : DataW H → Nat
  | .lit (.string bytes) => bytes.length + 1
  | .lit _ => 1
  | .nil => 1
  | .ptr d => uptoBulk d + 1
  | .slice elems spare => uptoBulkAll elems + uptoBulkAll spare + 1
  | .agg parts => uptoBulkAll parts + 1
  | .iface _ d => uptoBulk d + 1
  | .map entries => uptoBulkEntries entries + 1
  | .held _ => 1
def uptoBulkAll {H : Type} : List (DataW H) → Nat
  | [] => 0
  | d :: r => uptoBulk d + uptoBulkAll r
def uptoBulkEntries {H : Type} : List (Lit × DataW H) → Nat
  | [] => 0
  | x :: r => uptoBulkEntry x + uptoBulkEntries r
def uptoBulkEntry {H : Type} : Lit × DataW H → Nat
  | (.string bytes, d) => bytes.length + uptoBulk d + 1
  | (_, d) => uptoBulk d + 1
 end
def uptoSmall : (H : Type) → List (DataW H) → Bool := fun _ ds => decide (uptoBulkAll ds ≤ 1048576)
def OpenSpec.upto (s : _root_.Go.ChangeSpec) : _root_.Go.OpenSpec := { _root_.Go.OpenSpec.ofChange s with cond := some uptoSmall }

/-- 'laws.FnExactMakeEvery', WHERE WHAT IT READS IS OF BULK AT MOST 1048576: true; the input reads as it did. -/
def fnExactMakeEveryUptoRow : OpenClaim := { program := "ytpammnkboogceaa", sum := "10aad3596e23cbd1d21097dc73083d3c66b5debd0c50963e1174a14c57956ce1", func := "loop.example/oneletter/laws.FnExactMakeEvery", spec := "fnExactMakeEvery", inPlace := ["internal/bytealg.IndexByteString", "internal/bytealg.IndexString", "internal/abi.NoEscape"], unfollowed := true, recurses := true, named := ["internal/bytealg.MaxLen"], apart := false, narrowed := true }
def FnExactMakeEveryUptoSaid : Prop := fnExactMakeEveryUptoRow.holds Try.pinned (OpenSpec.upto fnExactMakeEverySpec)

/-- 'laws.FnExactMakeDown', WHERE WHAT IT READS IS OF BULK AT MOST 1048576: true; the input reads as it did. -/
def fnExactMakeDownUptoRow : OpenClaim := { program := "ytpammnkboogceaa", sum := "10aad3596e23cbd1d21097dc73083d3c66b5debd0c50963e1174a14c57956ce1", func := "loop.example/oneletter/laws.FnExactMakeDown", spec := "fnExactMakeDown", inPlace := ["internal/bytealg.IndexByteString", "internal/bytealg.IndexString", "internal/abi.NoEscape"], unfollowed := true, recurses := true, named := ["internal/bytealg.MaxLen"], apart := false, narrowed := true }
def FnExactMakeDownUptoSaid : Prop := fnExactMakeDownUptoRow.holds Try.pinned (OpenSpec.upto fnExactMakeDownSpec)

/-- 'laws.FnExactMakeOver', WHERE WHAT IT READS IS OF BULK AT MOST 1048576: true; the input reads as it did. -/
def fnExactMakeOverUptoRow : OpenClaim := { program := "ytpammnkboogceaa", sum := "10aad3596e23cbd1d21097dc73083d3c66b5debd0c50963e1174a14c57956ce1", func := "loop.example/oneletter/laws.FnExactMakeOver", spec := "fnExactMakeOver", inPlace := ["internal/bytealg.IndexByteString", "internal/bytealg.IndexString", "internal/abi.NoEscape"], unfollowed := true, recurses := true, named := ["internal/bytealg.MaxLen"], apart := false, narrowed := true }
def FnExactMakeOverUptoSaid : Prop := fnExactMakeOverUptoRow.holds Try.pinned (OpenSpec.upto fnExactMakeOverSpec)

/-- 'laws.FnExactMakeOther', WHERE WHAT IT READS IS OF BULK AT MOST 1048576: true; the input reads as it did. -/
def fnExactMakeOtherUptoRow : OpenClaim := { program := "ytpammnkboogceaa", sum := "10aad3596e23cbd1d21097dc73083d3c66b5debd0c50963e1174a14c57956ce1", func := "loop.example/oneletter/laws.FnExactMakeOther", spec := "fnExactMakeOther", inPlace := ["internal/bytealg.IndexByteString", "internal/bytealg.IndexString", "internal/abi.NoEscape"], unfollowed := true, recurses := true, named := ["internal/bytealg.MaxLen"], apart := false, narrowed := true }
def FnExactMakeOtherUptoSaid : Prop := fnExactMakeOtherUptoRow.holds Try.pinned (OpenSpec.upto fnExactMakeOtherSpec)

/-- 'laws.FnExactMakeTimes', WHERE WHAT IT READS IS OF BULK AT MOST 1048576: true; the input reads as it did. -/
def fnExactMakeTimesUptoRow : OpenClaim := { program := "ytpammnkboogceaa", sum := "10aad3596e23cbd1d21097dc73083d3c66b5debd0c50963e1174a14c57956ce1", func := "loop.example/oneletter/laws.FnExactMakeTimes", spec := "fnExactMakeTimes", inPlace := ["internal/bytealg.IndexByteString", "internal/bytealg.IndexString", "internal/abi.NoEscape"], unfollowed := true, recurses := true, named := ["internal/bytealg.MaxLen"], apart := false, narrowed := true }
def FnExactMakeTimesUptoSaid : Prop := fnExactMakeTimesUptoRow.holds Try.pinned (OpenSpec.upto fnExactMakeTimesSpec)

/-- 'laws.FnExactRowsOf', WHERE WHAT IT READS IS OF BULK AT MOST 1048576: true; the input reads as it did. -/
def fnExactRowsOfUptoRow : OpenClaim := { program := "ytpammnkboogceaa", sum := "10aad3596e23cbd1d21097dc73083d3c66b5debd0c50963e1174a14c57956ce1", func := "loop.example/oneletter/laws.FnExactRowsOf", spec := "fnExactRowsOf", inPlace := ["internal/bytealg.IndexByteString", "internal/bytealg.IndexString"], recurses := true, named := ["internal/bytealg.MaxLen"], apart := false, narrowed := true }
def FnExactRowsOfUptoSaid : Prop := fnExactRowsOfUptoRow.holds Try.pinned (OpenSpec.upto fnExactRowsOfSpec)

end Rows
end Go.Proofs.Ytpammnkboogceaa
