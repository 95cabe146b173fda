/-
  No cell of these rows narrows 'for every input' (looked for: loops, veiled, ifaces, maps, wideKeys, modest, calm, conditions, laid).
  DERIVED. THE GIVEN ROWS OF THIS SEAT. 6 by the template 'for every input the law returns true; each argument reads behind the call as it read before'; 0 by the template 'total and deterministic' (their statements: YtaebonckcbhofaaTotals.lean).
  GIVEN WITH THE SEED: the statements are not yours to turn. If you find one false, say at which input.
  Laid BY PROGRAM, IN A SANDBOX (cutbox-rows.mjs): the forced cells as the released guide's own fill.sh prints them over the translation 9415ae49beb03cd1… (all of the seat's roots in one cut). By AI agents, Wed Nov 11 2026. No macro, syntax, notation, axiom, sorry.
-/
import Derived.Test.YtaebonckcbhofaaChecked
import GoSem.Claim
import GoSem.ClaimJoined
import GoSem.ClaimMapViews
import Derived.JoinedTies
import Derived.KernelRfl
namespace Go.Proofs.Ytaebonckcbhofaa
/- THE CELL 'sum', in the pinned program and in every row, IS THE sha256 OF THE DUMP (.gsa) THAT YtaebonckcbhofaaProg.lean LOADS. Nothing in Lean hashes anything: it is a label: what it is worth is what the hold of that sum in a sandbox is worth. -/
noncomputable def Try.pinned : Pinned := { name := "ytaebonckcbhofaa", sum := "9415ae49beb03cd1f92700d3d34235e5dde2605377fb0effd4a5598aaa99c62f", checked := Try.checked }
namespace Rows
def none {H : Type} : Left H := { results := [], args := [] }

/-- 'laws.FnSumDouble': WHATEVER THE INPUT: true; the input reads as it did. -/
def fnSumDoubleSpec : ChangeSpec := { name := "fnSumDouble", fn := fun _ => fun
  | [d] => { results := [.lit (.bool true)], args := [d] }
  | _ => none }
def fnSumDoubleRow : OpenClaim := { program := "ytaebonckcbhofaa", sum := "9415ae49beb03cd1f92700d3d34235e5dde2605377fb0effd4a5598aaa99c62f", func := "loop.example/oneletter/laws.FnSumDouble", spec := "fnSumDouble", inPlace := ["internal/bytealg.IndexByteString", "internal/bytealg.IndexString", "internal/abi.NoEscape"], unfollowed := true, recurses := true, named := ["internal/bytealg.MaxLen"], apart := false }
def FnSumDoubleSaid : Prop := fnSumDoubleRow.holds Try.pinned (OpenSpec.ofChange fnSumDoubleSpec)

/-- ITS FALSE NEIGHBOUR: 'it returns false'. Refute it at one input. -/
def fnSumDoubleWrong : ChangeSpec := { name := "fnSumDouble", fn := fun _ => fun
  | [d] => { results := [.lit (.bool false)], args := [d] }
  | _ => none }
def FnSumDoubleWrongFalsely : Prop := fnSumDoubleRow.holds Try.pinned (OpenSpec.ofChange fnSumDoubleWrong)

/-- 'laws.FnSumOf': WHATEVER THE INPUT: true; the input reads as it did. -/
def fnSumOfSpec : ChangeSpec := { name := "fnSumOf", fn := fun _ => fun
  | [d] => { results := [.lit (.bool true)], args := [d] }
  | _ => none }
def fnSumOfRow : OpenClaim := { program := "ytaebonckcbhofaa", sum := "9415ae49beb03cd1f92700d3d34235e5dde2605377fb0effd4a5598aaa99c62f", func := "loop.example/oneletter/laws.FnSumOf", spec := "fnSumOf", inPlace := ["internal/bytealg.IndexByteString", "internal/bytealg.IndexString", "internal/abi.NoEscape"], unfollowed := true, recurses := true, named := ["internal/bytealg.MaxLen"], apart := false }
def FnSumOfSaid : Prop := fnSumOfRow.holds Try.pinned (OpenSpec.ofChange fnSumOfSpec)

/-- ITS FALSE NEIGHBOUR: 'it returns false'. Refute it at one input. -/
def fnSumOfWrong : ChangeSpec := { name := "fnSumOf", fn := fun _ => fun
  | [d] => { results := [.lit (.bool false)], args := [d] }
  | _ => none }
def FnSumOfWrongFalsely : Prop := fnSumOfRow.holds Try.pinned (OpenSpec.ofChange fnSumOfWrong)

/-- 'laws.FnSumEither': WHATEVER THE INPUT: true; the input reads as it did. -/
def fnSumEitherSpec : ChangeSpec := { name := "fnSumEither", fn := fun _ => fun
  | [d1, d2] => { results := [.lit (.bool true)], args := [d1, d2] }
  | _ => none }
def fnSumEitherRow : OpenClaim := { program := "ytaebonckcbhofaa", sum := "9415ae49beb03cd1f92700d3d34235e5dde2605377fb0effd4a5598aaa99c62f", func := "loop.example/oneletter/laws.FnSumEither", spec := "fnSumEither", inPlace := ["internal/bytealg.IndexByteString", "internal/bytealg.IndexString", "internal/abi.NoEscape"], unfollowed := true, recurses := true, named := ["internal/bytealg.MaxLen"], apart := false }
def FnSumEitherSaid : Prop := fnSumEitherRow.holds Try.pinned (OpenSpec.ofChange fnSumEitherSpec)

/-- ITS FALSE NEIGHBOUR: 'it returns false'. Refute it at one input. -/
def fnSumEitherWrong : ChangeSpec := { name := "fnSumEither", fn := fun _ => fun
  | [d1, d2] => { results := [.lit (.bool false)], args := [d1, d2] }
  | _ => none }
def FnSumEitherWrongFalsely : Prop := fnSumEitherRow.holds Try.pinned (OpenSpec.ofChange fnSumEitherWrong)

/-- 'laws.FnRestUndo': WHATEVER THE INPUT: true; the input reads as it did. -/
def fnRestUndoSpec : ChangeSpec := { name := "fnRestUndo", fn := fun _ => fun
  | [d] => { results := [.lit (.bool true)], args := [d] }
  | _ => none }
def fnRestUndoRow : OpenClaim := { program := "ytaebonckcbhofaa", sum := "9415ae49beb03cd1f92700d3d34235e5dde2605377fb0effd4a5598aaa99c62f", func := "loop.example/oneletter/laws.FnRestUndo", spec := "fnRestUndo", inPlace := ["internal/bytealg.IndexByteString", "internal/bytealg.IndexString", "internal/abi.NoEscape"], unfollowed := true, recurses := true, named := ["internal/bytealg.MaxLen"], apart := false }
def FnRestUndoSaid : Prop := fnRestUndoRow.holds Try.pinned (OpenSpec.ofChange fnRestUndoSpec)

/-- ITS FALSE NEIGHBOUR: 'it returns false'. Refute it at one input. -/
def fnRestUndoWrong : ChangeSpec := { name := "fnRestUndo", fn := fun _ => fun
  | [d] => { results := [.lit (.bool false)], args := [d] }
  | _ => none }
def FnRestUndoWrongFalsely : Prop := fnRestUndoRow.holds Try.pinned (OpenSpec.ofChange fnRestUndoWrong)

/-- 'laws.FnStarHas': WHATEVER THE INPUT: true; the input reads as it did. -/
def fnStarHasSpec : ChangeSpec := { name := "fnStarHas", fn := fun _ => fun
  | [d] => { results := [.lit (.bool true)], args := [d] }
  | _ => none }
def fnStarHasRow : OpenClaim := { program := "ytaebonckcbhofaa", sum := "9415ae49beb03cd1f92700d3d34235e5dde2605377fb0effd4a5598aaa99c62f", func := "loop.example/oneletter/laws.FnStarHas", spec := "fnStarHas", inPlace := ["internal/bytealg.IndexByteString", "internal/bytealg.IndexString", "internal/abi.NoEscape"], unfollowed := true, recurses := true, named := ["internal/bytealg.MaxLen"], apart := false }
def FnStarHasSaid : Prop := fnStarHasRow.holds Try.pinned (OpenSpec.ofChange fnStarHasSpec)

/-- ITS FALSE NEIGHBOUR: 'it returns false'. Refute it at one input. -/
def fnStarHasWrong : ChangeSpec := { name := "fnStarHas", fn := fun _ => fun
  | [d] => { results := [.lit (.bool false)], args := [d] }
  | _ => none }
def FnStarHasWrongFalsely : Prop := fnStarHasRow.holds Try.pinned (OpenSpec.ofChange fnStarHasWrong)

/-- 'laws.FnStarGap': WHATEVER THE INPUT: true; the input reads as it did. -/
def fnStarGapSpec : ChangeSpec := { name := "fnStarGap", fn := fun _ => fun
  | [d] => { results := [.lit (.bool true)], args := [d] }
  | _ => none }
def fnStarGapRow : OpenClaim := { program := "ytaebonckcbhofaa", sum := "9415ae49beb03cd1f92700d3d34235e5dde2605377fb0effd4a5598aaa99c62f", func := "loop.example/oneletter/laws.FnStarGap", spec := "fnStarGap", inPlace := ["internal/bytealg.IndexByteString", "internal/bytealg.IndexString"], unfollowed := true, recurses := true, named := ["internal/bytealg.MaxLen"], apart := false }
def FnStarGapSaid : Prop := fnStarGapRow.holds Try.pinned (OpenSpec.ofChange fnStarGapSpec)

/-- ITS FALSE NEIGHBOUR: 'it returns false'. Refute it at one input. -/
def fnStarGapWrong : ChangeSpec := { name := "fnStarGap", fn := fun _ => fun
  | [d] => { results := [.lit (.bool false)], args := [d] }
  | _ => none }
def FnStarGapWrongFalsely : Prop := fnStarGapRow.holds Try.pinned (OpenSpec.ofChange fnStarGapWrong)

/- THE SECOND FORM. 'bulk': how many values and letters a reading holds, each counted each time it is reached (what is shared counts as often as it is met; a slice's spare places count too). A statement '..UptoSaid' is the law's where the arguments, and the package variables that the reading takes, are together of bulk at most 1048576: NARROWER than '..Said'. Prove '..Said' where nothing that the law and all that it calls make is longer than what came in: it says more and counts as full. Else prove '..UptoSaid'. A law counts once. -/
mutual
def uptoBulk {H : Type} : DataW H → Nat
  | .lit (.string bytes) => bytes.length + 1
  | .lit _ => 1
  | .nil => 1
  | .ptr d => uptoBulk d + 1
  | .slice elems spare => uptoBulkAll elems + uptoBulkAll spare + 1
  | .agg parts => uptoBulkAll parts + 1
  | .iface _ d => uptoBulk d + 1
  | .map entries => uptoBulkEntries entries + 1
  | .held _ => 1
def uptoBulkAll {H : Type} : List (DataW H) → Nat
  | [] => 0
  | d :: r => uptoBulk d + uptoBulkAll r
def uptoBulkEntries {H : Type} : List (Lit × DataW H) → Nat
  | [] => 0
  | x :: r => uptoBulkEntry x + uptoBulkEntries r
def uptoBulkEntry {H : Type} : Lit × DataW H → Nat
  | (.string bytes, d) => bytes.length + uptoBulk d + 1
  | (_, d) => uptoBulk d + 1
 end
def uptoSmall : (H : Type) → List (DataW H) → Bool := fun _ ds => decide (uptoBulkAll ds ≤ 1048576)
def OpenSpec.upto (s : _root_.Go.ChangeSpec) : _root_.Go.OpenSpec := { _root_.Go.OpenSpec.ofChange s with cond := some uptoSmall }

/-- 'laws.FnSumDouble', WHERE WHAT IT READS IS OF BULK AT MOST 1048576: true; the input reads as it did. -/
def fnSumDoubleUptoRow : OpenClaim := { program := "ytaebonckcbhofaa", sum := "9415ae49beb03cd1f92700d3d34235e5dde2605377fb0effd4a5598aaa99c62f", func := "loop.example/oneletter/laws.FnSumDouble", spec := "fnSumDouble", inPlace := ["internal/bytealg.IndexByteString", "internal/bytealg.IndexString", "internal/abi.NoEscape"], unfollowed := true, recurses := true, named := ["internal/bytealg.MaxLen"], apart := false, narrowed := true }
def FnSumDoubleUptoSaid : Prop := fnSumDoubleUptoRow.holds Try.pinned (OpenSpec.upto fnSumDoubleSpec)

/-- 'laws.FnSumOf', WHERE WHAT IT READS IS OF BULK AT MOST 1048576: true; the input reads as it did. -/
def fnSumOfUptoRow : OpenClaim := { program := "ytaebonckcbhofaa", sum := "9415ae49beb03cd1f92700d3d34235e5dde2605377fb0effd4a5598aaa99c62f", func := "loop.example/oneletter/laws.FnSumOf", spec := "fnSumOf", inPlace := ["internal/bytealg.IndexByteString", "internal/bytealg.IndexString", "internal/abi.NoEscape"], unfollowed := true, recurses := true, named := ["internal/bytealg.MaxLen"], apart := false, narrowed := true }
def FnSumOfUptoSaid : Prop := fnSumOfUptoRow.holds Try.pinned (OpenSpec.upto fnSumOfSpec)

/-- 'laws.FnSumEither', WHERE WHAT IT READS IS OF BULK AT MOST 1048576: true; the input reads as it did. -/
def fnSumEitherUptoRow : OpenClaim := { program := "ytaebonckcbhofaa", sum := "9415ae49beb03cd1f92700d3d34235e5dde2605377fb0effd4a5598aaa99c62f", func := "loop.example/oneletter/laws.FnSumEither", spec := "fnSumEither", inPlace := ["internal/bytealg.IndexByteString", "internal/bytealg.IndexString", "internal/abi.NoEscape"], unfollowed := true, recurses := true, named := ["internal/bytealg.MaxLen"], apart := false, narrowed := true }
def FnSumEitherUptoSaid : Prop := fnSumEitherUptoRow.holds Try.pinned (OpenSpec.upto fnSumEitherSpec)

/-- 'laws.FnRestUndo', WHERE WHAT IT READS IS OF BULK AT MOST 1048576: true; the input reads as it did. -/
def fnRestUndoUptoRow : OpenClaim := { program := "ytaebonckcbhofaa", sum := "9415ae49beb03cd1f92700d3d34235e5dde2605377fb0effd4a5598aaa99c62f", func := "loop.example/oneletter/laws.FnRestUndo", spec := "fnRestUndo", inPlace := ["internal/bytealg.IndexByteString", "internal/bytealg.IndexString", "internal/abi.NoEscape"], unfollowed := true, recurses := true, named := ["internal/bytealg.MaxLen"], apart := false, narrowed := true }
def FnRestUndoUptoSaid : Prop := fnRestUndoUptoRow.holds Try.pinned (OpenSpec.upto fnRestUndoSpec)

/-- 'laws.FnStarHas', WHERE WHAT IT READS IS OF BULK AT MOST 1048576: true; the input reads as it did. -/
def fnStarHasUptoRow : OpenClaim := { program := "ytaebonckcbhofaa", sum := "9415ae49beb03cd1f92700d3d34235e5dde2605377fb0effd4a5598aaa99c62f", func := "loop.example/oneletter/laws.FnStarHas", spec := "fnStarHas", inPlace := ["internal/bytealg.IndexByteString", "internal/bytealg.IndexString", "internal/abi.NoEscape"], unfollowed := true, recurses := true, named := ["internal/bytealg.MaxLen"], apart := false, narrowed := true }
def FnStarHasUptoSaid : Prop := fnStarHasUptoRow.holds Try.pinned (OpenSpec.upto fnStarHasSpec)

/-- 'laws.FnStarGap', WHERE WHAT IT READS IS OF BULK AT MOST 1048576: true; the input reads as it did. -/
def fnStarGapUptoRow : OpenClaim := { program := "ytaebonckcbhofaa", sum := "9415ae49beb03cd1f92700d3d34235e5dde2605377fb0effd4a5598aaa99c62f", func := "loop.example/oneletter/laws.FnStarGap", spec := "fnStarGap", inPlace := ["internal/bytealg.IndexByteString", "internal/bytealg.IndexString"], unfollowed := true, recurses := true, named := ["internal/bytealg.MaxLen"], apart := false, narrowed := true }
def FnStarGapUptoSaid : Prop := fnStarGapUptoRow.holds Try.pinned (OpenSpec.upto fnStarGapSpec)

end Rows
end Go.Proofs.Ytaebonckcbhofaa
