/-
  No cell of these rows narrows 'for every input' (looked for: loops, veiled, ifaces, maps, wideKeys, modest, calm, conditions, laid).
  DERIVED. THE GIVEN ROWS OF THIS SEAT. 3 by the template 'for every input the law returns true; each argument reads behind the call as it read before'; 0 by the template 'total and deterministic' (their statements: YticdcfgjpopkoaaTotals.lean).
  GIVEN WITH THE SEED: the statements are not yours to turn. If you find one false, say at which input.
  Laid BY PROGRAM, IN A SANDBOX (cutbox-rows.mjs): the forced cells as the released guide's own fill.sh prints them over the translation db6383c3cbf39538… (all of the seat's roots in one cut). By AI agents, Wed Nov 11 2026. No macro, syntax, notation, axiom, sorry.
-/
import Derived.Test.YticdcfgjpopkoaaChecked
import GoSem.Claim
import GoSem.ClaimJoined
import GoSem.ClaimMapViews
import Derived.JoinedTies
import Derived.KernelRfl
namespace Go.Proofs.Yticdcfgjpopkoaa
/- THE CELL 'sum', in the pinned program and in every row, IS THE sha256 OF THE DUMP (.gsa) THAT YticdcfgjpopkoaaProg.lean LOADS. Nothing in Lean hashes anything: it is a label: what it is worth is what the hold of that sum in a sandbox is worth. -/
noncomputable def Try.pinned : Pinned := { name := "yticdcfgjpopkoaa", sum := "db6383c3cbf3953825275862ccf83521f8831d7c8adadf5e99180f3ae67454ad", checked := Try.checked }
namespace Rows
def none {H : Type} : Left H := { results := [], args := [] }

/-- 'laws.FnStarOf': WHATEVER THE INPUT: true; the input reads as it did. -/
def fnStarOfSpec : ChangeSpec := { name := "fnStarOf", fn := fun _ => fun
  | [d] => { results := [.lit (.bool true)], args := [d] }
  | _ => none }
def fnStarOfRow : OpenClaim := { program := "yticdcfgjpopkoaa", sum := "db6383c3cbf3953825275862ccf83521f8831d7c8adadf5e99180f3ae67454ad", func := "loop.example/oneletter/laws.FnStarOf", spec := "fnStarOf", inPlace := ["internal/bytealg.IndexByteString", "internal/bytealg.IndexString", "internal/abi.NoEscape"], unfollowed := true, recurses := true, named := ["internal/bytealg.MaxLen"], apart := false }
def FnStarOfSaid : Prop := fnStarOfRow.holds Try.pinned (OpenSpec.ofChange fnStarOfSpec)

/-- ITS FALSE NEIGHBOUR: 'it returns false'. Refute it at one input. -/
def fnStarOfWrong : ChangeSpec := { name := "fnStarOf", fn := fun _ => fun
  | [d] => { results := [.lit (.bool false)], args := [d] }
  | _ => none }
def FnStarOfWrongFalsely : Prop := fnStarOfRow.holds Try.pinned (OpenSpec.ofChange fnStarOfWrong)

/-- 'laws.FnStarParts': WHATEVER THE INPUT: true; the input reads as it did. -/
def fnStarPartsSpec : ChangeSpec := { name := "fnStarParts", fn := fun _ => fun
  | [d] => { results := [.lit (.bool true)], args := [d] }
  | _ => none }
def fnStarPartsRow : OpenClaim := { program := "yticdcfgjpopkoaa", sum := "db6383c3cbf3953825275862ccf83521f8831d7c8adadf5e99180f3ae67454ad", func := "loop.example/oneletter/laws.FnStarParts", spec := "fnStarParts", inPlace := ["internal/bytealg.IndexByteString", "internal/bytealg.IndexString", "internal/abi.NoEscape"], unfollowed := true, recurses := true, named := ["internal/bytealg.MaxLen"], apart := false }
def FnStarPartsSaid : Prop := fnStarPartsRow.holds Try.pinned (OpenSpec.ofChange fnStarPartsSpec)

/-- ITS FALSE NEIGHBOUR: 'it returns false'. Refute it at one input. -/
def fnStarPartsWrong : ChangeSpec := { name := "fnStarParts", fn := fun _ => fun
  | [d] => { results := [.lit (.bool false)], args := [d] }
  | _ => none }
def FnStarPartsWrongFalsely : Prop := fnStarPartsRow.holds Try.pinned (OpenSpec.ofChange fnStarPartsWrong)

/-- 'laws.FnStarEither': WHATEVER THE INPUT: true; the input reads as it did. -/
def fnStarEitherSpec : ChangeSpec := { name := "fnStarEither", fn := fun _ => fun
  | [d] => { results := [.lit (.bool true)], args := [d] }
  | _ => none }
def fnStarEitherRow : OpenClaim := { program := "yticdcfgjpopkoaa", sum := "db6383c3cbf3953825275862ccf83521f8831d7c8adadf5e99180f3ae67454ad", func := "loop.example/oneletter/laws.FnStarEither", spec := "fnStarEither", inPlace := ["internal/bytealg.IndexByteString", "internal/bytealg.IndexString", "internal/abi.NoEscape"], unfollowed := true, recurses := true, named := ["internal/bytealg.MaxLen"], apart := false }
def FnStarEitherSaid : Prop := fnStarEitherRow.holds Try.pinned (OpenSpec.ofChange fnStarEitherSpec)

/-- ITS FALSE NEIGHBOUR: 'it returns false'. Refute it at one input. -/
def fnStarEitherWrong : ChangeSpec := { name := "fnStarEither", fn := fun _ => fun
  | [d] => { results := [.lit (.bool false)], args := [d] }
  | _ => none }
def FnStarEitherWrongFalsely : Prop := fnStarEitherRow.holds Try.pinned (OpenSpec.ofChange fnStarEitherWrong)

/- THE SECOND FORM. 'bulk': how many values and letters a reading holds, each counted each time it is reached (what is shared counts as often as it is met; a slice's spare places count too). A statement '..UptoSaid' is the law's where the arguments, and the package variables that the reading takes, are together of bulk at most 1048576: NARROWER than '..Said'. Prove '..Said' where nothing that the law and all that it calls make is longer than what came in: it says more and counts as full. Else prove '..UptoSaid'. A law counts once. -/
mutual
def uptoBulk {H : Type} : DataW H → Nat
  | .lit (.string bytes) => bytes.length + 1
  | .lit _ => 1
  | .nil => 1
  | .ptr d => uptoBulk d + 1
  | .slice elems spare => uptoBulkAll elems + uptoBulkAll spare + 1
  | .agg parts => uptoBulkAll parts + 1
  | .iface _ d => uptoBulk d + 1
  | .map entries => uptoBulkEntries entries + 1
  | .held _ => 1
def uptoBulkAll {H : Type} : List (DataW H) → Nat
  | [] => 0
  | d :: r => uptoBulk d + uptoBulkAll r
def uptoBulkEntries {H : Type} : List (Lit × DataW H) → Nat
  | [] => 0
  | x :: r => uptoBulkEntry x + uptoBulkEntries r
def uptoBulkEntry {H : Type} : Lit × DataW H → Nat
  | (.string bytes, d) => bytes.length + uptoBulk d + 1
  | (_, d) => uptoBulk d + 1
 end
def uptoSmall : (H : Type) → List (DataW H) → Bool := fun _ ds => decide (uptoBulkAll ds ≤ 1048576)
def OpenSpec.upto (s : _root_.Go.ChangeSpec) : _root_.Go.OpenSpec := { _root_.Go.OpenSpec.ofChange s with cond := some uptoSmall }

/-- 'laws.FnStarOf', WHERE WHAT IT READS IS OF BULK AT MOST 1048576: true; the input reads as it did. -/
def fnStarOfUptoRow : OpenClaim := { program := "yticdcfgjpopkoaa", sum := "db6383c3cbf3953825275862ccf83521f8831d7c8adadf5e99180f3ae67454ad", func := "loop.example/oneletter/laws.FnStarOf", spec := "fnStarOf", inPlace := ["internal/bytealg.IndexByteString", "internal/bytealg.IndexString", "internal/abi.NoEscape"], unfollowed := true, recurses := true, named := ["internal/bytealg.MaxLen"], apart := false, narrowed := true }
def FnStarOfUptoSaid : Prop := fnStarOfUptoRow.holds Try.pinned (OpenSpec.upto fnStarOfSpec)

/-- 'laws.FnStarParts', WHERE WHAT IT READS IS OF BULK AT MOST 1048576: true; the input reads as it did. -/
def fnStarPartsUptoRow : OpenClaim := { program := "yticdcfgjpopkoaa", sum := "db6383c3cbf3953825275862ccf83521f8831d7c8adadf5e99180f3ae67454ad", func := "loop.example/oneletter/laws.FnStarParts", spec := "fnStarParts", inPlace := ["internal/bytealg.IndexByteString", "internal/bytealg.IndexString", "internal/abi.NoEscape"], unfollowed := true, recurses := true, named := ["internal/bytealg.MaxLen"], apart := false, narrowed := true }
def FnStarPartsUptoSaid : Prop := fnStarPartsUptoRow.holds Try.pinned (OpenSpec.upto fnStarPartsSpec)

/-- 'laws.FnStarEither', WHERE WHAT IT READS IS OF BULK AT MOST 1048576: true; the input reads as it did. -/
def fnStarEitherUptoRow : OpenClaim := { program := "yticdcfgjpopkoaa", sum := "db6383c3cbf3953825275862ccf83521f8831d7c8adadf5e99180f3ae67454ad", func := "loop.example/oneletter/laws.FnStarEither", spec := "fnStarEither", inPlace := ["internal/bytealg.IndexByteString", "internal/bytealg.IndexString", "internal/abi.NoEscape"], unfollowed := true, recurses := true, named := ["internal/bytealg.MaxLen"], apart := false, narrowed := true }
def FnStarEitherUptoSaid : Prop := fnStarEitherUptoRow.holds Try.pinned (OpenSpec.upto fnStarEitherSpec)

end Rows
end Go.Proofs.Yticdcfgjpopkoaa
