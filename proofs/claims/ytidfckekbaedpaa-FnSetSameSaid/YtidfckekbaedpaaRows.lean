/-
  No cell of these rows narrows 'for every input' (looked for: loops, veiled, ifaces, maps, wideKeys, modest, calm, conditions, laid).
  DERIVED. THE GIVEN ROWS OF THIS SEAT. 6 by the template 'for every input the law returns true; each argument reads behind the call as it read before'; 0 by the template 'total and deterministic' (their statements: YtidfckekbaedpaaTotals.lean).
  GIVEN WITH THE SEED: the statements are not yours to turn. If you find one false, say at which input.
  Laid BY PROGRAM, IN A SANDBOX (cutbox-rows.mjs): the forced cells as the released guide's own fill.sh prints them over the translation c2c3bed80f111bb2… (all of the seat's roots in one cut). By AI agents, Wed Nov 11 2026. No macro, syntax, notation, axiom, sorry.
-/
import Derived.Test.YtidfckekbaedpaaChecked
import GoSem.Claim
import GoSem.ClaimJoined
import GoSem.ClaimMapViews
import Derived.JoinedTies
import Derived.KernelRfl
namespace Go.Proofs.Ytidfckekbaedpaa
/- THE CELL 'sum', in the pinned program and in every row, IS THE sha256 OF THE DUMP (.gsa) THAT YtidfckekbaedpaaProg.lean LOADS. Nothing in Lean hashes anything: it is a label: what it is worth is what the hold of that sum in a sandbox is worth. -/
noncomputable def Try.pinned : Pinned := { name := "ytidfckekbaedpaa", sum := "c2c3bed80f111bb273d5e940dc5d064c9d8902b58ba7ba8839553ed33cc2e11d", checked := Try.checked }
namespace Rows
def none {H : Type} : Left H := { results := [], args := [] }

/-- 'laws.FnSetTidy': WHATEVER THE INPUT: true; the input reads as it did. -/
def fnSetTidySpec : ChangeSpec := { name := "fnSetTidy", fn := fun _ => fun
  | [d] => { results := [.lit (.bool true)], args := [d] }
  | _ => none }
def fnSetTidyRow : OpenClaim := { program := "ytidfckekbaedpaa", sum := "c2c3bed80f111bb273d5e940dc5d064c9d8902b58ba7ba8839553ed33cc2e11d", func := "loop.example/oneletter/laws.FnSetTidy", spec := "fnSetTidy", inPlace := ["internal/bytealg.IndexByteString", "internal/bytealg.IndexString", "internal/abi.NoEscape"], recurses := true, named := ["internal/bytealg.MaxLen"], apart := false }
def FnSetTidySaid : Prop := fnSetTidyRow.holds Try.pinned (OpenSpec.ofChange fnSetTidySpec)

/-- ITS FALSE NEIGHBOUR: 'it returns false'. Refute it at one input. -/
def fnSetTidyWrong : ChangeSpec := { name := "fnSetTidy", fn := fun _ => fun
  | [d] => { results := [.lit (.bool false)], args := [d] }
  | _ => none }
def FnSetTidyWrongFalsely : Prop := fnSetTidyRow.holds Try.pinned (OpenSpec.ofChange fnSetTidyWrong)

/-- 'laws.FnSetSame': WHATEVER THE INPUT: true; the input reads as it did. -/
def fnSetSameSpec : ChangeSpec := { name := "fnSetSame", fn := fun _ => fun
  | [d] => { results := [.lit (.bool true)], args := [d] }
  | _ => none }
def fnSetSameRow : OpenClaim := { program := "ytidfckekbaedpaa", sum := "c2c3bed80f111bb273d5e940dc5d064c9d8902b58ba7ba8839553ed33cc2e11d", func := "loop.example/oneletter/laws.FnSetSame", spec := "fnSetSame", inPlace := ["internal/bytealg.IndexByteString", "internal/bytealg.IndexString", "internal/abi.NoEscape"], recurses := true, named := ["internal/bytealg.MaxLen"], apart := false }
def FnSetSameSaid : Prop := fnSetSameRow.holds Try.pinned (OpenSpec.ofChange fnSetSameSpec)

/-- ITS FALSE NEIGHBOUR: 'it returns false'. Refute it at one input. -/
def fnSetSameWrong : ChangeSpec := { name := "fnSetSame", fn := fun _ => fun
  | [d] => { results := [.lit (.bool false)], args := [d] }
  | _ => none }
def FnSetSameWrongFalsely : Prop := fnSetSameRow.holds Try.pinned (OpenSpec.ofChange fnSetSameWrong)

/-- 'laws.FnRestFirst': WHATEVER THE INPUT: true; the input reads as it did. -/
def fnRestFirstSpec : ChangeSpec := { name := "fnRestFirst", fn := fun _ => fun
  | [d] => { results := [.lit (.bool true)], args := [d] }
  | _ => none }
def fnRestFirstRow : OpenClaim := { program := "ytidfckekbaedpaa", sum := "c2c3bed80f111bb273d5e940dc5d064c9d8902b58ba7ba8839553ed33cc2e11d", func := "loop.example/oneletter/laws.FnRestFirst", spec := "fnRestFirst", inPlace := ["internal/bytealg.IndexByteString", "internal/bytealg.IndexString"], recurses := true, named := ["internal/bytealg.MaxLen"], apart := false }
def FnRestFirstSaid : Prop := fnRestFirstRow.holds Try.pinned (OpenSpec.ofChange fnRestFirstSpec)

/-- ITS FALSE NEIGHBOUR: 'it returns false'. Refute it at one input. -/
def fnRestFirstWrong : ChangeSpec := { name := "fnRestFirst", fn := fun _ => fun
  | [d] => { results := [.lit (.bool false)], args := [d] }
  | _ => none }
def FnRestFirstWrongFalsely : Prop := fnRestFirstRow.holds Try.pinned (OpenSpec.ofChange fnRestFirstWrong)

/-- 'laws.FnRestSame': WHATEVER THE INPUT: true; the input reads as it did. -/
def fnRestSameSpec : ChangeSpec := { name := "fnRestSame", fn := fun _ => fun
  | [d] => { results := [.lit (.bool true)], args := [d] }
  | _ => none }
def fnRestSameRow : OpenClaim := { program := "ytidfckekbaedpaa", sum := "c2c3bed80f111bb273d5e940dc5d064c9d8902b58ba7ba8839553ed33cc2e11d", func := "loop.example/oneletter/laws.FnRestSame", spec := "fnRestSame", inPlace := ["internal/bytealg.IndexByteString", "internal/bytealg.IndexString", "internal/abi.NoEscape"], unfollowed := true, recurses := true, named := ["internal/bytealg.MaxLen"], apart := false }
def FnRestSameSaid : Prop := fnRestSameRow.holds Try.pinned (OpenSpec.ofChange fnRestSameSpec)

/-- ITS FALSE NEIGHBOUR: 'it returns false'. Refute it at one input. -/
def fnRestSameWrong : ChangeSpec := { name := "fnRestSame", fn := fun _ => fun
  | [d] => { results := [.lit (.bool false)], args := [d] }
  | _ => none }
def FnRestSameWrongFalsely : Prop := fnRestSameRow.holds Try.pinned (OpenSpec.ofChange fnRestSameWrong)

/-- 'laws.FnRestText': WHATEVER THE INPUT: true; the input reads as it did. -/
def fnRestTextSpec : ChangeSpec := { name := "fnRestText", fn := fun _ => fun
  | [d] => { results := [.lit (.bool true)], args := [d] }
  | _ => none }
def fnRestTextRow : OpenClaim := { program := "ytidfckekbaedpaa", sum := "c2c3bed80f111bb273d5e940dc5d064c9d8902b58ba7ba8839553ed33cc2e11d", func := "loop.example/oneletter/laws.FnRestText", spec := "fnRestText", inPlace := ["internal/bytealg.IndexByteString", "internal/bytealg.IndexString", "internal/abi.NoEscape"], unfollowed := true, recurses := true, named := ["internal/bytealg.MaxLen"], apart := false }
def FnRestTextSaid : Prop := fnRestTextRow.holds Try.pinned (OpenSpec.ofChange fnRestTextSpec)

/-- ITS FALSE NEIGHBOUR: 'it returns false'. Refute it at one input. -/
def fnRestTextWrong : ChangeSpec := { name := "fnRestText", fn := fun _ => fun
  | [d] => { results := [.lit (.bool false)], args := [d] }
  | _ => none }
def FnRestTextWrongFalsely : Prop := fnRestTextRow.holds Try.pinned (OpenSpec.ofChange fnRestTextWrong)

/-- 'laws.FnSetOf': WHATEVER THE INPUT: true; the input reads as it did. -/
def fnSetOfSpec : ChangeSpec := { name := "fnSetOf", fn := fun _ => fun
  | [d] => { results := [.lit (.bool true)], args := [d] }
  | _ => none }
def fnSetOfRow : OpenClaim := { program := "ytidfckekbaedpaa", sum := "c2c3bed80f111bb273d5e940dc5d064c9d8902b58ba7ba8839553ed33cc2e11d", func := "loop.example/oneletter/laws.FnSetOf", spec := "fnSetOf", inPlace := ["internal/abi.NoEscape", "internal/bytealg.IndexByteString", "internal/bytealg.IndexString"], unfollowed := true, recurses := true, named := ["internal/bytealg.MaxLen"], apart := false }
def FnSetOfSaid : Prop := fnSetOfRow.holds Try.pinned (OpenSpec.ofChange fnSetOfSpec)

/-- ITS FALSE NEIGHBOUR: 'it returns false'. Refute it at one input. -/
def fnSetOfWrong : ChangeSpec := { name := "fnSetOf", fn := fun _ => fun
  | [d] => { results := [.lit (.bool false)], args := [d] }
  | _ => none }
def FnSetOfWrongFalsely : Prop := fnSetOfRow.holds Try.pinned (OpenSpec.ofChange fnSetOfWrong)

/- THE SECOND FORM. 'bulk': how many values and letters a reading holds, each counted each time it is reached (what is shared counts as often as it is met; a slice's spare places count too). A statement '..UptoSaid' is the law's where the arguments, and the package variables that the reading takes, are together of bulk at most 1048576: NARROWER than '..Said'. Prove '..Said' where nothing that the law and all that it calls make is longer than what came in: it says more and counts as full. Else prove '..UptoSaid'. A law counts once. -/
mutual
def uptoBulk {H : Type} : DataW H → Nat
  | .lit (.string bytes) => bytes.length + 1
  | .lit _ => 1
  | .nil => 1
  | .ptr d => uptoBulk d + 1
  | .slice elems spare => uptoBulkAll elems + uptoBulkAll spare + 1
  | .agg parts => uptoBulkAll parts + 1
  | .iface _ d => uptoBulk d + 1
  | .map entries => uptoBulkEntries entries + 1
  | .held _ => 1
def uptoBulkAll {H : Type} : List (DataW H) → Nat
  | [] => 0
  | d :: r => uptoBulk d + uptoBulkAll r
def uptoBulkEntries {H : Type} : List (Lit × DataW H) → Nat
  | [] => 0
  | x :: r => uptoBulkEntry x + uptoBulkEntries r
def uptoBulkEntry {H : Type} : Lit × DataW H → Nat
  | (.string bytes, d) => bytes.length + uptoBulk d + 1
  | (_, d) => uptoBulk d + 1
 end
def uptoSmall : (H : Type) → List (DataW H) → Bool := fun _ ds => decide (uptoBulkAll ds ≤ 1048576)
def OpenSpec.upto (s : _root_.Go.ChangeSpec) : _root_.Go.OpenSpec := { _root_.Go.OpenSpec.ofChange s with cond := some uptoSmall }

/-- 'laws.FnSetTidy', WHERE WHAT IT READS IS OF BULK AT MOST 1048576: true; the input reads as it did. -/
def fnSetTidyUptoRow : OpenClaim := { program := "ytidfckekbaedpaa", sum := "c2c3bed80f111bb273d5e940dc5d064c9d8902b58ba7ba8839553ed33cc2e11d", func := "loop.example/oneletter/laws.FnSetTidy", spec := "fnSetTidy", inPlace := ["internal/bytealg.IndexByteString", "internal/bytealg.IndexString", "internal/abi.NoEscape"], recurses := true, named := ["internal/bytealg.MaxLen"], apart := false, narrowed := true }
def FnSetTidyUptoSaid : Prop := fnSetTidyUptoRow.holds Try.pinned (OpenSpec.upto fnSetTidySpec)

/-- 'laws.FnSetSame', WHERE WHAT IT READS IS OF BULK AT MOST 1048576: true; the input reads as it did. -/
def fnSetSameUptoRow : OpenClaim := { program := "ytidfckekbaedpaa", sum := "c2c3bed80f111bb273d5e940dc5d064c9d8902b58ba7ba8839553ed33cc2e11d", func := "loop.example/oneletter/laws.FnSetSame", spec := "fnSetSame", inPlace := ["internal/bytealg.IndexByteString", "internal/bytealg.IndexString", "internal/abi.NoEscape"], recurses := true, named := ["internal/bytealg.MaxLen"], apart := false, narrowed := true }
def FnSetSameUptoSaid : Prop := fnSetSameUptoRow.holds Try.pinned (OpenSpec.upto fnSetSameSpec)

/-- 'laws.FnRestFirst', WHERE WHAT IT READS IS OF BULK AT MOST 1048576: true; the input reads as it did. -/
def fnRestFirstUptoRow : OpenClaim := { program := "ytidfckekbaedpaa", sum := "c2c3bed80f111bb273d5e940dc5d064c9d8902b58ba7ba8839553ed33cc2e11d", func := "loop.example/oneletter/laws.FnRestFirst", spec := "fnRestFirst", inPlace := ["internal/bytealg.IndexByteString", "internal/bytealg.IndexString"], recurses := true, named := ["internal/bytealg.MaxLen"], apart := false, narrowed := true }
def FnRestFirstUptoSaid : Prop := fnRestFirstUptoRow.holds Try.pinned (OpenSpec.upto fnRestFirstSpec)

/-- 'laws.FnRestSame', WHERE WHAT IT READS IS OF BULK AT MOST 1048576: true; the input reads as it did. -/
def fnRestSameUptoRow : OpenClaim := { program := "ytidfckekbaedpaa", sum := "c2c3bed80f111bb273d5e940dc5d064c9d8902b58ba7ba8839553ed33cc2e11d", func := "loop.example/oneletter/laws.FnRestSame", spec := "fnRestSame", inPlace := ["internal/bytealg.IndexByteString", "internal/bytealg.IndexString", "internal/abi.NoEscape"], unfollowed := true, recurses := true, named := ["internal/bytealg.MaxLen"], apart := false, narrowed := true }
def FnRestSameUptoSaid : Prop := fnRestSameUptoRow.holds Try.pinned (OpenSpec.upto fnRestSameSpec)

/-- 'laws.FnRestText', WHERE WHAT IT READS IS OF BULK AT MOST 1048576: true; the input reads as it did. -/
def fnRestTextUptoRow : OpenClaim := { program := "ytidfckekbaedpaa", sum := "c2c3bed80f111bb273d5e940dc5d064c9d8902b58ba7ba8839553ed33cc2e11d", func := "loop.example/oneletter/laws.FnRestText", spec := "fnRestText", inPlace := ["internal/bytealg.IndexByteString", "internal/bytealg.IndexString", "internal/abi.NoEscape"], unfollowed := true, recurses := true, named := ["internal/bytealg.MaxLen"], apart := false, narrowed := true }
def FnRestTextUptoSaid : Prop := fnRestTextUptoRow.holds Try.pinned (OpenSpec.upto fnRestTextSpec)

/-- 'laws.FnSetOf', WHERE WHAT IT READS IS OF BULK AT MOST 1048576: true; the input reads as it did. -/
def fnSetOfUptoRow : OpenClaim := { program := "ytidfckekbaedpaa", sum := "c2c3bed80f111bb273d5e940dc5d064c9d8902b58ba7ba8839553ed33cc2e11d", func := "loop.example/oneletter/laws.FnSetOf", spec := "fnSetOf", inPlace := ["internal/abi.NoEscape", "internal/bytealg.IndexByteString", "internal/bytealg.IndexString"], unfollowed := true, recurses := true, named := ["internal/bytealg.MaxLen"], apart := false, narrowed := true }
def FnSetOfUptoSaid : Prop := fnSetOfUptoRow.holds Try.pinned (OpenSpec.upto fnSetOfSpec)

end Rows
end Go.Proofs.Ytidfckekbaedpaa
