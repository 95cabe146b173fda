/-
  No cell of these rows narrows 'for every input' (looked for: loops, veiled, ifaces, maps, wideKeys, modest, calm, conditions, laid).
  DERIVED. THE GIVEN ROWS OF THIS SEAT. 6 by the template 'for every input the law returns true; each argument reads behind the call as it read before'; 0 by the template 'total and deterministic' (their statements: YtflfabdfkfigcaaTotals.lean).
  GIVEN WITH THE SEED: the statements are not yours to turn. If you find one false, say at which input.
  Laid BY PROGRAM, IN A SANDBOX (cutbox-rows.mjs): the forced cells as the released guide's own fill.sh prints them over the translation eed5331fd37321d6… (all of the seat's roots in one cut). By AI agents, Wed Nov 11 2026. No macro, syntax, notation, axiom, sorry.
-/
import Derived.Test.YtflfabdfkfigcaaChecked
import GoSem.Claim
import GoSem.ClaimJoined
import GoSem.ClaimMapViews
import Derived.JoinedTies
import Derived.KernelRfl
namespace Go.Proofs.Ytflfabdfkfigcaa
/- THE CELL 'sum', in the pinned program and in every row, IS THE sha256 OF THE DUMP (.gsa) THAT YtflfabdfkfigcaaProg.lean LOADS. Nothing in Lean hashes anything: it is a label: what it is worth is what the hold of that sum in a sandbox is worth. -/
noncomputable def Try.pinned : Pinned := { name := "ytflfabdfkfigcaa", sum := "eed5331fd37321d6c9bf32c5a3d3087d8d56ae098ddff86ad17c1706ba4bffaa", checked := Try.checked }
namespace Rows
def none {H : Type} : Left H := { results := [], args := [] }

/-- 'laws.FnMakeOver': WHATEVER THE INPUT: true; the input reads as it did. -/
def fnMakeOverSpec : ChangeSpec := { name := "fnMakeOver", fn := fun _ => fun
  | [d] => { results := [.lit (.bool true)], args := [d] }
  | _ => none }
def fnMakeOverRow : OpenClaim := { program := "ytflfabdfkfigcaa", sum := "eed5331fd37321d6c9bf32c5a3d3087d8d56ae098ddff86ad17c1706ba4bffaa", func := "loop.example/oneletter/laws.FnMakeOver", spec := "fnMakeOver", inPlace := ["internal/bytealg.IndexByteString", "internal/bytealg.IndexString", "internal/abi.NoEscape"], unfollowed := true, recurses := true, named := ["internal/bytealg.MaxLen"], apart := false }
def FnMakeOverSaid : Prop := fnMakeOverRow.holds Try.pinned (OpenSpec.ofChange fnMakeOverSpec)

/-- ITS FALSE NEIGHBOUR: 'it returns false'. Refute it at one input. -/
def fnMakeOverWrong : ChangeSpec := { name := "fnMakeOver", fn := fun _ => fun
  | [d] => { results := [.lit (.bool false)], args := [d] }
  | _ => none }
def FnMakeOverWrongFalsely : Prop := fnMakeOverRow.holds Try.pinned (OpenSpec.ofChange fnMakeOverWrong)

/-- 'laws.FnMakeUp': WHATEVER THE INPUT: true; the input reads as it did. -/
def fnMakeUpSpec : ChangeSpec := { name := "fnMakeUp", fn := fun _ => fun
  | [d] => { results := [.lit (.bool true)], args := [d] }
  | _ => none }
def fnMakeUpRow : OpenClaim := { program := "ytflfabdfkfigcaa", sum := "eed5331fd37321d6c9bf32c5a3d3087d8d56ae098ddff86ad17c1706ba4bffaa", func := "loop.example/oneletter/laws.FnMakeUp", spec := "fnMakeUp", inPlace := ["internal/bytealg.IndexByteString", "internal/bytealg.IndexString", "internal/abi.NoEscape"], unfollowed := true, recurses := true, named := ["internal/bytealg.MaxLen"], apart := false }
def FnMakeUpSaid : Prop := fnMakeUpRow.holds Try.pinned (OpenSpec.ofChange fnMakeUpSpec)

/-- ITS FALSE NEIGHBOUR: 'it returns false'. Refute it at one input. -/
def fnMakeUpWrong : ChangeSpec := { name := "fnMakeUp", fn := fun _ => fun
  | [d] => { results := [.lit (.bool false)], args := [d] }
  | _ => none }
def FnMakeUpWrongFalsely : Prop := fnMakeUpRow.holds Try.pinned (OpenSpec.ofChange fnMakeUpWrong)

/-- 'laws.FnMakeEvery': WHATEVER THE INPUT: true; the input reads as it did. -/
def fnMakeEverySpec : ChangeSpec := { name := "fnMakeEvery", fn := fun _ => fun
  | [d] => { results := [.lit (.bool true)], args := [d] }
  | _ => none }
def fnMakeEveryRow : OpenClaim := { program := "ytflfabdfkfigcaa", sum := "eed5331fd37321d6c9bf32c5a3d3087d8d56ae098ddff86ad17c1706ba4bffaa", func := "loop.example/oneletter/laws.FnMakeEvery", spec := "fnMakeEvery", inPlace := ["internal/bytealg.IndexByteString", "internal/bytealg.IndexString", "internal/abi.NoEscape"], unfollowed := true, recurses := true, named := ["internal/bytealg.MaxLen"], apart := false }
def FnMakeEverySaid : Prop := fnMakeEveryRow.holds Try.pinned (OpenSpec.ofChange fnMakeEverySpec)

/-- ITS FALSE NEIGHBOUR: 'it returns false'. Refute it at one input. -/
def fnMakeEveryWrong : ChangeSpec := { name := "fnMakeEvery", fn := fun _ => fun
  | [d] => { results := [.lit (.bool false)], args := [d] }
  | _ => none }
def FnMakeEveryWrongFalsely : Prop := fnMakeEveryRow.holds Try.pinned (OpenSpec.ofChange fnMakeEveryWrong)

/-- 'laws.FnMakeDown': WHATEVER THE INPUT: true; the input reads as it did. -/
def fnMakeDownSpec : ChangeSpec := { name := "fnMakeDown", fn := fun _ => fun
  | [d] => { results := [.lit (.bool true)], args := [d] }
  | _ => none }
def fnMakeDownRow : OpenClaim := { program := "ytflfabdfkfigcaa", sum := "eed5331fd37321d6c9bf32c5a3d3087d8d56ae098ddff86ad17c1706ba4bffaa", func := "loop.example/oneletter/laws.FnMakeDown", spec := "fnMakeDown", inPlace := ["internal/bytealg.IndexByteString", "internal/bytealg.IndexString", "internal/abi.NoEscape"], unfollowed := true, recurses := true, named := ["internal/bytealg.MaxLen"], apart := false }
def FnMakeDownSaid : Prop := fnMakeDownRow.holds Try.pinned (OpenSpec.ofChange fnMakeDownSpec)

/-- ITS FALSE NEIGHBOUR: 'it returns false'. Refute it at one input. -/
def fnMakeDownWrong : ChangeSpec := { name := "fnMakeDown", fn := fun _ => fun
  | [d] => { results := [.lit (.bool false)], args := [d] }
  | _ => none }
def FnMakeDownWrongFalsely : Prop := fnMakeDownRow.holds Try.pinned (OpenSpec.ofChange fnMakeDownWrong)

/-- 'laws.FnMakeOther': WHATEVER THE INPUT: true; the input reads as it did. -/
def fnMakeOtherSpec : ChangeSpec := { name := "fnMakeOther", fn := fun _ => fun
  | [d] => { results := [.lit (.bool true)], args := [d] }
  | _ => none }
def fnMakeOtherRow : OpenClaim := { program := "ytflfabdfkfigcaa", sum := "eed5331fd37321d6c9bf32c5a3d3087d8d56ae098ddff86ad17c1706ba4bffaa", func := "loop.example/oneletter/laws.FnMakeOther", spec := "fnMakeOther", inPlace := ["internal/bytealg.IndexByteString", "internal/bytealg.IndexString", "internal/abi.NoEscape"], unfollowed := true, recurses := true, named := ["internal/bytealg.MaxLen"], apart := false }
def FnMakeOtherSaid : Prop := fnMakeOtherRow.holds Try.pinned (OpenSpec.ofChange fnMakeOtherSpec)

/-- ITS FALSE NEIGHBOUR: 'it returns false'. Refute it at one input. -/
def fnMakeOtherWrong : ChangeSpec := { name := "fnMakeOther", fn := fun _ => fun
  | [d] => { results := [.lit (.bool false)], args := [d] }
  | _ => none }
def FnMakeOtherWrongFalsely : Prop := fnMakeOtherRow.holds Try.pinned (OpenSpec.ofChange fnMakeOtherWrong)

/-- 'laws.FnMakeTimes': WHATEVER THE INPUT: true; the input reads as it did. -/
def fnMakeTimesSpec : ChangeSpec := { name := "fnMakeTimes", fn := fun _ => fun
  | [d] => { results := [.lit (.bool true)], args := [d] }
  | _ => none }
def fnMakeTimesRow : OpenClaim := { program := "ytflfabdfkfigcaa", sum := "eed5331fd37321d6c9bf32c5a3d3087d8d56ae098ddff86ad17c1706ba4bffaa", func := "loop.example/oneletter/laws.FnMakeTimes", spec := "fnMakeTimes", inPlace := ["internal/bytealg.IndexByteString", "internal/bytealg.IndexString", "internal/abi.NoEscape"], unfollowed := true, recurses := true, named := ["internal/bytealg.MaxLen"], apart := false }
def FnMakeTimesSaid : Prop := fnMakeTimesRow.holds Try.pinned (OpenSpec.ofChange fnMakeTimesSpec)

/-- ITS FALSE NEIGHBOUR: 'it returns false'. Refute it at one input. -/
def fnMakeTimesWrong : ChangeSpec := { name := "fnMakeTimes", fn := fun _ => fun
  | [d] => { results := [.lit (.bool false)], args := [d] }
  | _ => none }
def FnMakeTimesWrongFalsely : Prop := fnMakeTimesRow.holds Try.pinned (OpenSpec.ofChange fnMakeTimesWrong)

/- THE SECOND FORM. 'bulk': how many values and letters a reading holds, each counted each time it is reached (what is shared counts as often as it is met; a slice's spare places count too). A statement '..UptoSaid' is the law's where the arguments, and the package variables that the reading takes, are together of bulk at most 1048576: NARROWER than '..Said'. Prove '..Said' where nothing that the law and all that it calls make is longer than what came in: it says more and counts as full. Else prove '..UptoSaid'. A law counts once. -/
mutual
def uptoBulk {H : Type} : DataW H → Nat
  | .lit (.string bytes) => bytes.length + 1
  | .lit _ => 1
  | .nil => 1
  | .ptr d => uptoBulk d + 1
  | .slice elems spare => uptoBulkAll elems + uptoBulkAll spare + 1
  | .agg parts => uptoBulkAll parts + 1
  | .iface _ d => uptoBulk d + 1
  | .map entries => uptoBulkEntries entries + 1
  | .held _ => 1
def uptoBulkAll {H : Type} : List (DataW H) → Nat
  | [] => 0
  | d :: r => uptoBulk d + uptoBulkAll r
def uptoBulkEntries {H : Type} : List (Lit × DataW H) → Nat
  | [] => 0
  | x :: r => uptoBulkEntry x + uptoBulkEntries r
def uptoBulkEntry {H : Type} : Lit × DataW H → Nat
  | (.string bytes, d) => bytes.length + uptoBulk d + 1
  | (_, d) => uptoBulk d + 1
 end
def uptoSmall : (H : Type) → List (DataW H) → Bool := fun _ ds => decide (uptoBulkAll ds ≤ 1048576)
def OpenSpec.upto (s : _root_.Go.ChangeSpec) : _root_.Go.OpenSpec := { _root_.Go.OpenSpec.ofChange s with cond := some uptoSmall }

/-- 'laws.FnMakeOver', WHERE WHAT IT READS IS OF BULK AT MOST 1048576: true; the input reads as it did. -/
def fnMakeOverUptoRow : OpenClaim := { program := "ytflfabdfkfigcaa", sum := "eed5331fd37321d6c9bf32c5a3d3087d8d56ae098ddff86ad17c1706ba4bffaa", func := "loop.example/oneletter/laws.FnMakeOver", spec := "fnMakeOver", inPlace := ["internal/bytealg.IndexByteString", "internal/bytealg.IndexString", "internal/abi.NoEscape"], unfollowed := true, recurses := true, named := ["internal/bytealg.MaxLen"], apart := false, narrowed := true }
def FnMakeOverUptoSaid : Prop := fnMakeOverUptoRow.holds Try.pinned (OpenSpec.upto fnMakeOverSpec)

/-- 'laws.FnMakeUp', WHERE WHAT IT READS IS OF BULK AT MOST 1048576: true; the input reads as it did. -/
def fnMakeUpUptoRow : OpenClaim := { program := "ytflfabdfkfigcaa", sum := "eed5331fd37321d6c9bf32c5a3d3087d8d56ae098ddff86ad17c1706ba4bffaa", func := "loop.example/oneletter/laws.FnMakeUp", spec := "fnMakeUp", inPlace := ["internal/bytealg.IndexByteString", "internal/bytealg.IndexString", "internal/abi.NoEscape"], unfollowed := true, recurses := true, named := ["internal/bytealg.MaxLen"], apart := false, narrowed := true }
def FnMakeUpUptoSaid : Prop := fnMakeUpUptoRow.holds Try.pinned (OpenSpec.upto fnMakeUpSpec)

/-- 'laws.FnMakeEvery', WHERE WHAT IT READS IS OF BULK AT MOST 1048576: true; the input reads as it did. -/
def fnMakeEveryUptoRow : OpenClaim := { program := "ytflfabdfkfigcaa", sum := "eed5331fd37321d6c9bf32c5a3d3087d8d56ae098ddff86ad17c1706ba4bffaa", func := "loop.example/oneletter/laws.FnMakeEvery", spec := "fnMakeEvery", inPlace := ["internal/bytealg.IndexByteString", "internal/bytealg.IndexString", "internal/abi.NoEscape"], unfollowed := true, recurses := true, named := ["internal/bytealg.MaxLen"], apart := false, narrowed := true }
def FnMakeEveryUptoSaid : Prop := fnMakeEveryUptoRow.holds Try.pinned (OpenSpec.upto fnMakeEverySpec)

/-- 'laws.FnMakeDown', WHERE WHAT IT READS IS OF BULK AT MOST 1048576: true; the input reads as it did. -/
def fnMakeDownUptoRow : OpenClaim := { program := "ytflfabdfkfigcaa", sum := "eed5331fd37321d6c9bf32c5a3d3087d8d56ae098ddff86ad17c1706ba4bffaa", func := "loop.example/oneletter/laws.FnMakeDown", spec := "fnMakeDown", inPlace := ["internal/bytealg.IndexByteString", "internal/bytealg.IndexString", "internal/abi.NoEscape"], unfollowed := true, recurses := true, named := ["internal/bytealg.MaxLen"], apart := false, narrowed := true }
def FnMakeDownUptoSaid : Prop := fnMakeDownUptoRow.holds Try.pinned (OpenSpec.upto fnMakeDownSpec)

/-- 'laws.FnMakeOther', WHERE WHAT IT READS IS OF BULK AT MOST 1048576: true; the input reads as it did. -/
def fnMakeOtherUptoRow : OpenClaim := { program := "ytflfabdfkfigcaa", sum := "eed5331fd37321d6c9bf32c5a3d3087d8d56ae098ddff86ad17c1706ba4bffaa", func := "loop.example/oneletter/laws.FnMakeOther", spec := "fnMakeOther", inPlace := ["internal/bytealg.IndexByteString", "internal/bytealg.IndexString", "internal/abi.NoEscape"], unfollowed := true, recurses := true, named := ["internal/bytealg.MaxLen"], apart := false, narrowed := true }
def FnMakeOtherUptoSaid : Prop := fnMakeOtherUptoRow.holds Try.pinned (OpenSpec.upto fnMakeOtherSpec)

/-- 'laws.FnMakeTimes', WHERE WHAT IT READS IS OF BULK AT MOST 1048576: true; the input reads as it did. -/
def fnMakeTimesUptoRow : OpenClaim := { program := "ytflfabdfkfigcaa", sum := "eed5331fd37321d6c9bf32c5a3d3087d8d56ae098ddff86ad17c1706ba4bffaa", func := "loop.example/oneletter/laws.FnMakeTimes", spec := "fnMakeTimes", inPlace := ["internal/bytealg.IndexByteString", "internal/bytealg.IndexString", "internal/abi.NoEscape"], unfollowed := true, recurses := true, named := ["internal/bytealg.MaxLen"], apart := false, narrowed := true }
def FnMakeTimesUptoSaid : Prop := fnMakeTimesUptoRow.holds Try.pinned (OpenSpec.upto fnMakeTimesSpec)

end Rows
end Go.Proofs.Ytflfabdfkfigcaa
