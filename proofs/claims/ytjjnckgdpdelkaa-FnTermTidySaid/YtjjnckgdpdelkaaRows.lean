/-
  No cell of these rows narrows 'for every input' (looked for: loops, veiled, ifaces, maps, wideKeys, modest, calm, conditions, laid).
  DERIVED. THE GIVEN ROWS OF THIS SEAT. 5 by the template 'for every input the law returns true; each argument reads behind the call as it read before'; 0 by the template 'total and deterministic' (their statements: YtjjnckgdpdelkaaTotals.lean).
  GIVEN WITH THE SEED: the statements are not yours to turn. If you find one false, say at which input.
  Laid BY PROGRAM, IN A SANDBOX (cutbox-rows.mjs): the forced cells as the released guide's own fill.sh prints them over the translation 5fecb48491296ebd… (all of the seat's roots in one cut). By AI agents, Wed Nov 11 2026. No macro, syntax, notation, axiom, sorry.
-/
import Derived.Test.YtjjnckgdpdelkaaChecked
import GoSem.Claim
import GoSem.ClaimJoined
import GoSem.ClaimMapViews
import Derived.JoinedTies
import Derived.KernelRfl
namespace Go.Proofs.Ytjjnckgdpdelkaa
/- THE CELL 'sum', in the pinned program and in every row, IS THE sha256 OF THE DUMP (.gsa) THAT YtjjnckgdpdelkaaProg.lean LOADS. Nothing in Lean hashes anything: it is a label: what it is worth is what the hold of that sum in a sandbox is worth. -/
noncomputable def Try.pinned : Pinned := { name := "ytjjnckgdpdelkaa", sum := "5fecb48491296ebd92b5b2c192e5a38fcb958cc7cca67807ddd22d007fdf7f9c", checked := Try.checked }
namespace Rows
def none {H : Type} : Left H := { results := [], args := [] }

/-- 'laws.FnTermEmpty': WHATEVER THE INPUT: true; the input reads as it did. -/
def fnTermEmptySpec : ChangeSpec := { name := "fnTermEmpty", fn := fun _ => fun
  | [d] => { results := [.lit (.bool true)], args := [d] }
  | _ => none }
def fnTermEmptyRow : OpenClaim := { program := "ytjjnckgdpdelkaa", sum := "5fecb48491296ebd92b5b2c192e5a38fcb958cc7cca67807ddd22d007fdf7f9c", func := "loop.example/oneletter/laws.FnTermEmpty", spec := "fnTermEmpty", inPlace := ["internal/bytealg.IndexByteString", "internal/bytealg.IndexString"], recurses := true, named := ["internal/bytealg.MaxLen"], apart := false }
def FnTermEmptySaid : Prop := fnTermEmptyRow.holds Try.pinned (OpenSpec.ofChange fnTermEmptySpec)

/-- ITS FALSE NEIGHBOUR: 'it returns false'. Refute it at one input. -/
def fnTermEmptyWrong : ChangeSpec := { name := "fnTermEmpty", fn := fun _ => fun
  | [d] => { results := [.lit (.bool false)], args := [d] }
  | _ => none }
def FnTermEmptyWrongFalsely : Prop := fnTermEmptyRow.holds Try.pinned (OpenSpec.ofChange fnTermEmptyWrong)

/-- 'laws.FnTermStar': WHATEVER THE INPUT: true; the input reads as it did. -/
def fnTermStarSpec : ChangeSpec := { name := "fnTermStar", fn := fun _ => fun
  | [d1, d2] => { results := [.lit (.bool true)], args := [d1, d2] }
  | _ => none }
def fnTermStarRow : OpenClaim := { program := "ytjjnckgdpdelkaa", sum := "5fecb48491296ebd92b5b2c192e5a38fcb958cc7cca67807ddd22d007fdf7f9c", func := "loop.example/oneletter/laws.FnTermStar", spec := "fnTermStar", inPlace := ["internal/bytealg.IndexByteString", "internal/bytealg.IndexString"], recurses := true, named := ["internal/bytealg.MaxLen"], apart := false }
def FnTermStarSaid : Prop := fnTermStarRow.holds Try.pinned (OpenSpec.ofChange fnTermStarSpec)

/-- ITS FALSE NEIGHBOUR: 'it returns false'. Refute it at one input. -/
def fnTermStarWrong : ChangeSpec := { name := "fnTermStar", fn := fun _ => fun
  | [d1, d2] => { results := [.lit (.bool false)], args := [d1, d2] }
  | _ => none }
def FnTermStarWrongFalsely : Prop := fnTermStarRow.holds Try.pinned (OpenSpec.ofChange fnTermStarWrong)

/-- 'laws.FnExactTermList': WHATEVER THE INPUT: true; the input reads as it did. -/
def fnExactTermListSpec : ChangeSpec := { name := "fnExactTermList", fn := fun _ => fun
  | [d1, d2] => { results := [.lit (.bool true)], args := [d1, d2] }
  | _ => none }
def fnExactTermListRow : OpenClaim := { program := "ytjjnckgdpdelkaa", sum := "5fecb48491296ebd92b5b2c192e5a38fcb958cc7cca67807ddd22d007fdf7f9c", func := "loop.example/oneletter/laws.FnExactTermList", spec := "fnExactTermList", inPlace := ["internal/bytealg.IndexByteString", "internal/bytealg.IndexString"], recurses := true, named := ["internal/bytealg.MaxLen"], apart := false }
def FnExactTermListSaid : Prop := fnExactTermListRow.holds Try.pinned (OpenSpec.ofChange fnExactTermListSpec)

/-- ITS FALSE NEIGHBOUR: 'it returns false'. Refute it at one input. -/
def fnExactTermListWrong : ChangeSpec := { name := "fnExactTermList", fn := fun _ => fun
  | [d1, d2] => { results := [.lit (.bool false)], args := [d1, d2] }
  | _ => none }
def FnExactTermListWrongFalsely : Prop := fnExactTermListRow.holds Try.pinned (OpenSpec.ofChange fnExactTermListWrong)

/-- 'laws.FnTermList': WHATEVER THE INPUT: true; the input reads as it did. -/
def fnTermListSpec : ChangeSpec := { name := "fnTermList", fn := fun _ => fun
  | [d] => { results := [.lit (.bool true)], args := [d] }
  | _ => none }
def fnTermListRow : OpenClaim := { program := "ytjjnckgdpdelkaa", sum := "5fecb48491296ebd92b5b2c192e5a38fcb958cc7cca67807ddd22d007fdf7f9c", func := "loop.example/oneletter/laws.FnTermList", spec := "fnTermList", inPlace := ["internal/bytealg.IndexByteString", "internal/bytealg.IndexString"], recurses := true, named := ["internal/bytealg.MaxLen"], apart := false }
def FnTermListSaid : Prop := fnTermListRow.holds Try.pinned (OpenSpec.ofChange fnTermListSpec)

/-- ITS FALSE NEIGHBOUR: 'it returns false'. Refute it at one input. -/
def fnTermListWrong : ChangeSpec := { name := "fnTermList", fn := fun _ => fun
  | [d] => { results := [.lit (.bool false)], args := [d] }
  | _ => none }
def FnTermListWrongFalsely : Prop := fnTermListRow.holds Try.pinned (OpenSpec.ofChange fnTermListWrong)

/-- 'laws.FnTermTidy': WHATEVER THE INPUT: true; the input reads as it did. -/
def fnTermTidySpec : ChangeSpec := { name := "fnTermTidy", fn := fun _ => fun
  | [d] => { results := [.lit (.bool true)], args := [d] }
  | _ => none }
def fnTermTidyRow : OpenClaim := { program := "ytjjnckgdpdelkaa", sum := "5fecb48491296ebd92b5b2c192e5a38fcb958cc7cca67807ddd22d007fdf7f9c", func := "loop.example/oneletter/laws.FnTermTidy", spec := "fnTermTidy", inPlace := ["internal/bytealg.IndexByteString", "internal/bytealg.IndexString", "internal/bytealg.CountString"], recurses := true, named := ["internal/bytealg.MaxLen"], apart := false }
def FnTermTidySaid : Prop := fnTermTidyRow.holds Try.pinned (OpenSpec.ofChange fnTermTidySpec)

/-- ITS FALSE NEIGHBOUR: 'it returns false'. Refute it at one input. -/
def fnTermTidyWrong : ChangeSpec := { name := "fnTermTidy", fn := fun _ => fun
  | [d] => { results := [.lit (.bool false)], args := [d] }
  | _ => none }
def FnTermTidyWrongFalsely : Prop := fnTermTidyRow.holds Try.pinned (OpenSpec.ofChange fnTermTidyWrong)

/- THE SECOND FORM. 'bulk': how many values and letters a reading holds, each counted each time it is reached (what is shared counts as often as it is met; a slice's spare places count too). A statement '..UptoSaid' is the law's where the arguments, and the package variables that the reading takes, are together of bulk at most 1048576: NARROWER than '..Said'. Prove '..Said' where nothing that the law and all that it calls make is longer than what came in: it says more and counts as full. Else prove '..UptoSaid'. A law counts once. -/
mutual
def uptoBulk {H : Type} : DataW H → Nat
  | .lit (.string bytes) => bytes.length + 1
  | .lit _ => 1
  | .nil => 1
  | .ptr d => uptoBulk d + 1
  | .slice elems spare => uptoBulkAll elems + uptoBulkAll spare + 1
  | .agg parts => uptoBulkAll parts + 1
  | .iface _ d => uptoBulk d + 1
  | .map entries => uptoBulkEntries entries + 1
  | .held _ => 1
def uptoBulkAll {H : Type} : List (DataW H) → Nat
  | [] => 0
  | d :: r => uptoBulk d + uptoBulkAll r
def uptoBulkEntries {H : Type} : List (Lit × DataW H) → Nat
  | [] => 0
  | x :: r => uptoBulkEntry x + uptoBulkEntries r
def uptoBulkEntry {H : Type} : Lit × DataW H → Nat
  | (.string bytes, d) => bytes.length + uptoBulk d + 1
  | (_, d) => uptoBulk d + 1
 end
def uptoSmall : (H : Type) → List (DataW H) → Bool := fun _ ds => decide (uptoBulkAll ds ≤ 1048576)
def OpenSpec.upto (s : _root_.Go.ChangeSpec) : _root_.Go.OpenSpec := { _root_.Go.OpenSpec.ofChange s with cond := some uptoSmall }

/-- 'laws.FnTermEmpty', WHERE WHAT IT READS IS OF BULK AT MOST 1048576: true; the input reads as it did. -/
def fnTermEmptyUptoRow : OpenClaim := { program := "ytjjnckgdpdelkaa", sum := "5fecb48491296ebd92b5b2c192e5a38fcb958cc7cca67807ddd22d007fdf7f9c", func := "loop.example/oneletter/laws.FnTermEmpty", spec := "fnTermEmpty", inPlace := ["internal/bytealg.IndexByteString", "internal/bytealg.IndexString"], recurses := true, named := ["internal/bytealg.MaxLen"], apart := false, narrowed := true }
def FnTermEmptyUptoSaid : Prop := fnTermEmptyUptoRow.holds Try.pinned (OpenSpec.upto fnTermEmptySpec)

/-- 'laws.FnTermStar', WHERE WHAT IT READS IS OF BULK AT MOST 1048576: true; the input reads as it did. -/
def fnTermStarUptoRow : OpenClaim := { program := "ytjjnckgdpdelkaa", sum := "5fecb48491296ebd92b5b2c192e5a38fcb958cc7cca67807ddd22d007fdf7f9c", func := "loop.example/oneletter/laws.FnTermStar", spec := "fnTermStar", inPlace := ["internal/bytealg.IndexByteString", "internal/bytealg.IndexString"], recurses := true, named := ["internal/bytealg.MaxLen"], apart := false, narrowed := true }
def FnTermStarUptoSaid : Prop := fnTermStarUptoRow.holds Try.pinned (OpenSpec.upto fnTermStarSpec)

/-- 'laws.FnExactTermList', WHERE WHAT IT READS IS OF BULK AT MOST 1048576: true; the input reads as it did. -/
def fnExactTermListUptoRow : OpenClaim := { program := "ytjjnckgdpdelkaa", sum := "5fecb48491296ebd92b5b2c192e5a38fcb958cc7cca67807ddd22d007fdf7f9c", func := "loop.example/oneletter/laws.FnExactTermList", spec := "fnExactTermList", inPlace := ["internal/bytealg.IndexByteString", "internal/bytealg.IndexString"], recurses := true, named := ["internal/bytealg.MaxLen"], apart := false, narrowed := true }
def FnExactTermListUptoSaid : Prop := fnExactTermListUptoRow.holds Try.pinned (OpenSpec.upto fnExactTermListSpec)

/-- 'laws.FnTermList', WHERE WHAT IT READS IS OF BULK AT MOST 1048576: true; the input reads as it did. -/
def fnTermListUptoRow : OpenClaim := { program := "ytjjnckgdpdelkaa", sum := "5fecb48491296ebd92b5b2c192e5a38fcb958cc7cca67807ddd22d007fdf7f9c", func := "loop.example/oneletter/laws.FnTermList", spec := "fnTermList", inPlace := ["internal/bytealg.IndexByteString", "internal/bytealg.IndexString"], recurses := true, named := ["internal/bytealg.MaxLen"], apart := false, narrowed := true }
def FnTermListUptoSaid : Prop := fnTermListUptoRow.holds Try.pinned (OpenSpec.upto fnTermListSpec)

/-- 'laws.FnTermTidy', WHERE WHAT IT READS IS OF BULK AT MOST 1048576: true; the input reads as it did. -/
def fnTermTidyUptoRow : OpenClaim := { program := "ytjjnckgdpdelkaa", sum := "5fecb48491296ebd92b5b2c192e5a38fcb958cc7cca67807ddd22d007fdf7f9c", func := "loop.example/oneletter/laws.FnTermTidy", spec := "fnTermTidy", inPlace := ["internal/bytealg.IndexByteString", "internal/bytealg.IndexString", "internal/bytealg.CountString"], recurses := true, named := ["internal/bytealg.MaxLen"], apart := false, narrowed := true }
def FnTermTidyUptoSaid : Prop := fnTermTidyUptoRow.holds Try.pinned (OpenSpec.upto fnTermTidySpec)

end Rows
end Go.Proofs.Ytjjnckgdpdelkaa
