/-
  No cell of these rows narrows 'for every input' (looked for: loops, veiled, ifaces, maps, wideKeys, modest, calm, conditions, laid).
  DERIVED. THE GIVEN ROWS OF THIS SEAT. 12 by the template 'for every input the law returns true; each argument reads behind the call as it read before'; 0 by the template 'total and deterministic' (their statements: YtndkcifblnfaoaaTotals.lean).
  GIVEN WITH THE SEED: the statements are not yours to turn. If you find one false, say at which input.
  Laid BY PROGRAM, IN A SANDBOX (cutbox-rows.mjs): the forced cells as the released guide's own fill.sh prints them over the translation 493d0f44da7a21a5… (all of the seat's roots in one cut). By AI agents, Wed Nov 11 2026. No macro, syntax, notation, axiom, sorry.
-/
import Derived.Test.YtndkcifblnfaoaaChecked
import GoSem.Claim
import GoSem.ClaimJoined
import GoSem.ClaimMapViews
import Derived.JoinedTies
import Derived.KernelRfl
namespace Go.Proofs.Ytndkcifblnfaoaa
/- THE CELL 'sum', in the pinned program and in every row, IS THE sha256 OF THE DUMP (.gsa) THAT YtndkcifblnfaoaaProg.lean LOADS. Nothing in Lean hashes anything: it is a label: what it is worth is what the hold of that sum in a sandbox is worth. -/
noncomputable def Try.pinned : Pinned := { name := "ytndkcifblnfaoaa", sum := "493d0f44da7a21a58b59d0943ff14dcfe56d12e2afa4811bdc9ddae6645c7446", checked := Try.checked }
namespace Rows
def none {H : Type} : Left H := { results := [], args := [] }

/-- 'laws.FnExactConstants': WHATEVER THE INPUT: true; the input reads as it did. -/
def fnExactConstantsSpec : ChangeSpec := { name := "fnExactConstants", fn := fun _ => fun
  | [] => { results := [.lit (.bool true)], args := [] }
  | _ => none }
def fnExactConstantsRow : OpenClaim := { program := "ytndkcifblnfaoaa", sum := "493d0f44da7a21a58b59d0943ff14dcfe56d12e2afa4811bdc9ddae6645c7446", func := "loop.example/g00194/laws.FnExactConstants", spec := "fnExactConstants", apart := false }
def FnExactConstantsSaid : Prop := fnExactConstantsRow.holds Try.pinned (OpenSpec.ofChange fnExactConstantsSpec)

/-- ITS FALSE NEIGHBOUR: 'it returns false'. Refute it at one input. -/
def fnExactConstantsWrong : ChangeSpec := { name := "fnExactConstants", fn := fun _ => fun
  | [] => { results := [.lit (.bool false)], args := [] }
  | _ => none }
def FnExactConstantsWrongFalsely : Prop := fnExactConstantsRow.holds Try.pinned (OpenSpec.ofChange fnExactConstantsWrong)

/-- 'laws.FnExactNameOk': WHATEVER THE INPUT: true; the input reads as it did. -/
def fnExactNameOkSpec : ChangeSpec := { name := "fnExactNameOk", fn := fun _ => fun
  | [d] => { results := [.lit (.bool true)], args := [d] }
  | _ => none }
def fnExactNameOkRow : OpenClaim := { program := "ytndkcifblnfaoaa", sum := "493d0f44da7a21a58b59d0943ff14dcfe56d12e2afa4811bdc9ddae6645c7446", func := "loop.example/g00194/laws.FnExactNameOk", spec := "fnExactNameOk", apart := false }
def FnExactNameOkSaid : Prop := fnExactNameOkRow.holds Try.pinned (OpenSpec.ofChange fnExactNameOkSpec)

/-- ITS FALSE NEIGHBOUR: 'it returns false'. Refute it at one input. -/
def fnExactNameOkWrong : ChangeSpec := { name := "fnExactNameOk", fn := fun _ => fun
  | [d] => { results := [.lit (.bool false)], args := [d] }
  | _ => none }
def FnExactNameOkWrongFalsely : Prop := fnExactNameOkRow.holds Try.pinned (OpenSpec.ofChange fnExactNameOkWrong)

/-- 'laws.FnExactHexOf': WHATEVER THE INPUT: true; the input reads as it did. -/
def fnExactHexOfSpec : ChangeSpec := { name := "fnExactHexOf", fn := fun _ => fun
  | [d] => { results := [.lit (.bool true)], args := [d] }
  | _ => none }
def fnExactHexOfRow : OpenClaim := { program := "ytndkcifblnfaoaa", sum := "493d0f44da7a21a58b59d0943ff14dcfe56d12e2afa4811bdc9ddae6645c7446", func := "loop.example/g00194/laws.FnExactHexOf", spec := "fnExactHexOf", inPlace := ["internal/abi.NoEscape"], apart := false }
def FnExactHexOfSaid : Prop := fnExactHexOfRow.holds Try.pinned (OpenSpec.ofChange fnExactHexOfSpec)

/-- ITS FALSE NEIGHBOUR: 'it returns false'. Refute it at one input. -/
def fnExactHexOfWrong : ChangeSpec := { name := "fnExactHexOf", fn := fun _ => fun
  | [d] => { results := [.lit (.bool false)], args := [d] }
  | _ => none }
def FnExactHexOfWrongFalsely : Prop := fnExactHexOfRow.holds Try.pinned (OpenSpec.ofChange fnExactHexOfWrong)

/-- 'laws.FnExactUnHex': WHATEVER THE INPUT: true; the input reads as it did. -/
def fnExactUnHexSpec : ChangeSpec := { name := "fnExactUnHex", fn := fun _ => fun
  | [d] => { results := [.lit (.bool true)], args := [d] }
  | _ => none }
def fnExactUnHexRow : OpenClaim := { program := "ytndkcifblnfaoaa", sum := "493d0f44da7a21a58b59d0943ff14dcfe56d12e2afa4811bdc9ddae6645c7446", func := "loop.example/g00194/laws.FnExactUnHex", spec := "fnExactUnHex", inPlace := ["internal/bytealg.IndexByteString"], apart := false }
def FnExactUnHexSaid : Prop := fnExactUnHexRow.holds Try.pinned (OpenSpec.ofChange fnExactUnHexSpec)

/-- ITS FALSE NEIGHBOUR: 'it returns false'. Refute it at one input. -/
def fnExactUnHexWrong : ChangeSpec := { name := "fnExactUnHex", fn := fun _ => fun
  | [d] => { results := [.lit (.bool false)], args := [d] }
  | _ => none }
def FnExactUnHexWrongFalsely : Prop := fnExactUnHexRow.holds Try.pinned (OpenSpec.ofChange fnExactUnHexWrong)

/-- 'laws.FnExactTxOk': WHATEVER THE INPUT: true; the input reads as it did. -/
def fnExactTxOkSpec : ChangeSpec := { name := "fnExactTxOk", fn := fun _ => fun
  | [d] => { results := [.lit (.bool true)], args := [d] }
  | _ => none }
def fnExactTxOkRow : OpenClaim := { program := "ytndkcifblnfaoaa", sum := "493d0f44da7a21a58b59d0943ff14dcfe56d12e2afa4811bdc9ddae6645c7446", func := "loop.example/g00194/laws.FnExactTxOk", spec := "fnExactTxOk", apart := false }
def FnExactTxOkSaid : Prop := fnExactTxOkRow.holds Try.pinned (OpenSpec.ofChange fnExactTxOkSpec)

/-- ITS FALSE NEIGHBOUR: 'it returns false'. Refute it at one input. -/
def fnExactTxOkWrong : ChangeSpec := { name := "fnExactTxOk", fn := fun _ => fun
  | [d] => { results := [.lit (.bool false)], args := [d] }
  | _ => none }
def FnExactTxOkWrongFalsely : Prop := fnExactTxOkRow.holds Try.pinned (OpenSpec.ofChange fnExactTxOkWrong)

/-- 'laws.FnExactApply': WHATEVER THE INPUT: true; the input reads as it did. -/
def fnExactApplySpec : ChangeSpec := { name := "fnExactApply", fn := fun _ => fun
  | [d1, d2] => { results := [.lit (.bool true)], args := [d1, d2] }
  | _ => none }
def fnExactApplyRow : OpenClaim := { program := "ytndkcifblnfaoaa", sum := "493d0f44da7a21a58b59d0943ff14dcfe56d12e2afa4811bdc9ddae6645c7446", func := "loop.example/g00194/laws.FnExactApply", spec := "fnExactApply", inPlace := ["slices.overlaps[loop.example/g00194/impl.Acct]", "slices.overlaps[loop.example/g00194/impl.Leave]"], unfollowed := true, recurses := true, apart := false }
def FnExactApplySaid : Prop := fnExactApplyRow.holds Try.pinned (OpenSpec.ofChange fnExactApplySpec)

/-- ITS FALSE NEIGHBOUR: 'it returns false'. Refute it at one input. -/
def fnExactApplyWrong : ChangeSpec := { name := "fnExactApply", fn := fun _ => fun
  | [d1, d2] => { results := [.lit (.bool false)], args := [d1, d2] }
  | _ => none }
def FnExactApplyWrongFalsely : Prop := fnExactApplyRow.holds Try.pinned (OpenSpec.ofChange fnExactApplyWrong)

/-- 'laws.FnExactGetNum': WHATEVER THE INPUT: true; the input reads as it did. -/
def fnExactGetNumSpec : ChangeSpec := { name := "fnExactGetNum", fn := fun _ => fun
  | [d1, d2] => { results := [.lit (.bool true)], args := [d1, d2] }
  | _ => none }
def fnExactGetNumRow : OpenClaim := { program := "ytndkcifblnfaoaa", sum := "493d0f44da7a21a58b59d0943ff14dcfe56d12e2afa4811bdc9ddae6645c7446", func := "loop.example/g00194/laws.FnExactGetNum", spec := "fnExactGetNum", apart := false }
def FnExactGetNumSaid : Prop := fnExactGetNumRow.holds Try.pinned (OpenSpec.ofChange fnExactGetNumSpec)

/-- ITS FALSE NEIGHBOUR: 'it returns false'. Refute it at one input. -/
def fnExactGetNumWrong : ChangeSpec := { name := "fnExactGetNum", fn := fun _ => fun
  | [d1, d2] => { results := [.lit (.bool false)], args := [d1, d2] }
  | _ => none }
def FnExactGetNumWrongFalsely : Prop := fnExactGetNumRow.holds Try.pinned (OpenSpec.ofChange fnExactGetNumWrong)

/-- 'laws.FnExactPadded': WHATEVER THE INPUT: true; the input reads as it did. -/
def fnExactPaddedSpec : ChangeSpec := { name := "fnExactPadded", fn := fun _ => fun
  | [d] => { results := [.lit (.bool true)], args := [d] }
  | _ => none }
def fnExactPaddedRow : OpenClaim := { program := "ytndkcifblnfaoaa", sum := "493d0f44da7a21a58b59d0943ff14dcfe56d12e2afa4811bdc9ddae6645c7446", func := "loop.example/g00194/laws.FnExactPadded", spec := "fnExactPadded", apart := false }
def FnExactPaddedSaid : Prop := fnExactPaddedRow.holds Try.pinned (OpenSpec.ofChange fnExactPaddedSpec)

/-- ITS FALSE NEIGHBOUR: 'it returns false'. Refute it at one input. -/
def fnExactPaddedWrong : ChangeSpec := { name := "fnExactPadded", fn := fun _ => fun
  | [d] => { results := [.lit (.bool false)], args := [d] }
  | _ => none }
def FnExactPaddedWrongFalsely : Prop := fnExactPaddedRow.holds Try.pinned (OpenSpec.ofChange fnExactPaddedWrong)

/-- 'laws.FnExactLeaderOf': WHATEVER THE INPUT: true; the input reads as it did. -/
def fnExactLeaderOfSpec : ChangeSpec := { name := "fnExactLeaderOf", fn := fun _ => fun
  | [d1, d2] => { results := [.lit (.bool true)], args := [d1, d2] }
  | _ => none }
def fnExactLeaderOfRow : OpenClaim := { program := "ytndkcifblnfaoaa", sum := "493d0f44da7a21a58b59d0943ff14dcfe56d12e2afa4811bdc9ddae6645c7446", func := "loop.example/g00194/laws.FnExactLeaderOf", spec := "fnExactLeaderOf", apart := false }
def FnExactLeaderOfSaid : Prop := fnExactLeaderOfRow.holds Try.pinned (OpenSpec.ofChange fnExactLeaderOfSpec)

/-- ITS FALSE NEIGHBOUR: 'it returns false'. Refute it at one input. -/
def fnExactLeaderOfWrong : ChangeSpec := { name := "fnExactLeaderOf", fn := fun _ => fun
  | [d1, d2] => { results := [.lit (.bool false)], args := [d1, d2] }
  | _ => none }
def FnExactLeaderOfWrongFalsely : Prop := fnExactLeaderOfRow.holds Try.pinned (OpenSpec.ofChange fnExactLeaderOfWrong)

/-- 'laws.FnExactNamesOk': WHATEVER THE INPUT: true; the input reads as it did. -/
def fnExactNamesOkSpec : ChangeSpec := { name := "fnExactNamesOk", fn := fun _ => fun
  | [d] => { results := [.lit (.bool true)], args := [d] }
  | _ => none }
def fnExactNamesOkRow : OpenClaim := { program := "ytndkcifblnfaoaa", sum := "493d0f44da7a21a58b59d0943ff14dcfe56d12e2afa4811bdc9ddae6645c7446", func := "loop.example/g00194/laws.FnExactNamesOk", spec := "fnExactNamesOk", apart := false }
def FnExactNamesOkSaid : Prop := fnExactNamesOkRow.holds Try.pinned (OpenSpec.ofChange fnExactNamesOkSpec)

/-- ITS FALSE NEIGHBOUR: 'it returns false'. Refute it at one input. -/
def fnExactNamesOkWrong : ChangeSpec := { name := "fnExactNamesOk", fn := fun _ => fun
  | [d] => { results := [.lit (.bool false)], args := [d] }
  | _ => none }
def FnExactNamesOkWrongFalsely : Prop := fnExactNamesOkRow.holds Try.pinned (OpenSpec.ofChange fnExactNamesOkWrong)

/-- 'laws.FnExactTxLess': WHATEVER THE INPUT: true; the input reads as it did. -/
def fnExactTxLessSpec : ChangeSpec := { name := "fnExactTxLess", fn := fun _ => fun
  | [d1, d2] => { results := [.lit (.bool true)], args := [d1, d2] }
  | _ => none }
def fnExactTxLessRow : OpenClaim := { program := "ytndkcifblnfaoaa", sum := "493d0f44da7a21a58b59d0943ff14dcfe56d12e2afa4811bdc9ddae6645c7446", func := "loop.example/g00194/laws.FnExactTxLess", spec := "fnExactTxLess", apart := false }
def FnExactTxLessSaid : Prop := fnExactTxLessRow.holds Try.pinned (OpenSpec.ofChange fnExactTxLessSpec)

/-- ITS FALSE NEIGHBOUR: 'it returns false'. Refute it at one input. -/
def fnExactTxLessWrong : ChangeSpec := { name := "fnExactTxLess", fn := fun _ => fun
  | [d1, d2] => { results := [.lit (.bool false)], args := [d1, d2] }
  | _ => none }
def FnExactTxLessWrongFalsely : Prop := fnExactTxLessRow.holds Try.pinned (OpenSpec.ofChange fnExactTxLessWrong)

/-- 'laws.FnConserved': WHATEVER THE INPUT: true; the input reads as it did. -/
def fnConservedSpec : ChangeSpec := { name := "fnConserved", fn := fun _ => fun
  | [d] => { results := [.lit (.bool true)], args := [d] }
  | _ => none }
def fnConservedRow : OpenClaim := { program := "ytndkcifblnfaoaa", sum := "493d0f44da7a21a58b59d0943ff14dcfe56d12e2afa4811bdc9ddae6645c7446", func := "loop.example/g00194/laws.FnConserved", spec := "fnConserved", inPlace := ["slices.overlaps[loop.example/g00194/impl.Acct]", "slices.overlaps[loop.example/g00194/impl.Leave]"], unfollowed := true, recurses := true, apart := false }
def FnConservedSaid : Prop := fnConservedRow.holds Try.pinned (OpenSpec.ofChange fnConservedSpec)

/-- ITS FALSE NEIGHBOUR: 'it returns false'. Refute it at one input. -/
def fnConservedWrong : ChangeSpec := { name := "fnConserved", fn := fun _ => fun
  | [d] => { results := [.lit (.bool false)], args := [d] }
  | _ => none }
def FnConservedWrongFalsely : Prop := fnConservedRow.holds Try.pinned (OpenSpec.ofChange fnConservedWrong)

/- THE SECOND FORM. 'bulk': how many values and letters a reading holds, each counted each time it is reached (what is shared counts as often as it is met; a slice's spare places count too). A statement '..UptoSaid' is the law's where the arguments, and the package variables that the reading takes, are together of bulk at most 1048576: NARROWER than '..Said'. Prove '..Said' where nothing that the law and all that it calls make is longer than what came in: it says more and counts as full. Else prove '..UptoSaid'. A law counts once. -/
mutual
def uptoBulk {H : Type} : DataW H → Nat
  | .lit (.string bytes) => bytes.length + 1
  | .lit _ => 1
  | .nil => 1
  | .ptr d => uptoBulk d + 1
  | .slice elems spare => uptoBulkAll elems + uptoBulkAll spare + 1
  | .agg parts => uptoBulkAll parts + 1
  | .iface _ d => uptoBulk d + 1
  | .map entries => uptoBulkEntries entries + 1
  | .held _ => 1
def uptoBulkAll {H : Type} : List (DataW H) → Nat
  | [] => 0
  | d :: r => uptoBulk d + uptoBulkAll r
def uptoBulkEntries {H : Type} : List (Lit × DataW H) → Nat
  | [] => 0
  | x :: r => uptoBulkEntry x + uptoBulkEntries r
def uptoBulkEntry {H : Type} : Lit × DataW H → Nat
  | (.string bytes, d) => bytes.length + uptoBulk d + 1
  | (_, d) => uptoBulk d + 1
 end
def uptoSmall : (H : Type) → List (DataW H) → Bool := fun _ ds => decide (uptoBulkAll ds ≤ 1048576)
def OpenSpec.upto (s : _root_.Go.ChangeSpec) : _root_.Go.OpenSpec := { _root_.Go.OpenSpec.ofChange s with cond := some uptoSmall }

/-- 'laws.FnExactConstants', WHERE WHAT IT READS IS OF BULK AT MOST 1048576: true; the input reads as it did. -/
def fnExactConstantsUptoRow : OpenClaim := { program := "ytndkcifblnfaoaa", sum := "493d0f44da7a21a58b59d0943ff14dcfe56d12e2afa4811bdc9ddae6645c7446", func := "loop.example/g00194/laws.FnExactConstants", spec := "fnExactConstants", apart := false, narrowed := true }
def FnExactConstantsUptoSaid : Prop := fnExactConstantsUptoRow.holds Try.pinned (OpenSpec.upto fnExactConstantsSpec)

/-- 'laws.FnExactNameOk', WHERE WHAT IT READS IS OF BULK AT MOST 1048576: true; the input reads as it did. -/
def fnExactNameOkUptoRow : OpenClaim := { program := "ytndkcifblnfaoaa", sum := "493d0f44da7a21a58b59d0943ff14dcfe56d12e2afa4811bdc9ddae6645c7446", func := "loop.example/g00194/laws.FnExactNameOk", spec := "fnExactNameOk", apart := false, narrowed := true }
def FnExactNameOkUptoSaid : Prop := fnExactNameOkUptoRow.holds Try.pinned (OpenSpec.upto fnExactNameOkSpec)

/-- 'laws.FnExactHexOf', WHERE WHAT IT READS IS OF BULK AT MOST 1048576: true; the input reads as it did. -/
def fnExactHexOfUptoRow : OpenClaim := { program := "ytndkcifblnfaoaa", sum := "493d0f44da7a21a58b59d0943ff14dcfe56d12e2afa4811bdc9ddae6645c7446", func := "loop.example/g00194/laws.FnExactHexOf", spec := "fnExactHexOf", inPlace := ["internal/abi.NoEscape"], apart := false, narrowed := true }
def FnExactHexOfUptoSaid : Prop := fnExactHexOfUptoRow.holds Try.pinned (OpenSpec.upto fnExactHexOfSpec)

/-- 'laws.FnExactUnHex', WHERE WHAT IT READS IS OF BULK AT MOST 1048576: true; the input reads as it did. -/
def fnExactUnHexUptoRow : OpenClaim := { program := "ytndkcifblnfaoaa", sum := "493d0f44da7a21a58b59d0943ff14dcfe56d12e2afa4811bdc9ddae6645c7446", func := "loop.example/g00194/laws.FnExactUnHex", spec := "fnExactUnHex", inPlace := ["internal/bytealg.IndexByteString"], apart := false, narrowed := true }
def FnExactUnHexUptoSaid : Prop := fnExactUnHexUptoRow.holds Try.pinned (OpenSpec.upto fnExactUnHexSpec)

/-- 'laws.FnExactTxOk', WHERE WHAT IT READS IS OF BULK AT MOST 1048576: true; the input reads as it did. -/
def fnExactTxOkUptoRow : OpenClaim := { program := "ytndkcifblnfaoaa", sum := "493d0f44da7a21a58b59d0943ff14dcfe56d12e2afa4811bdc9ddae6645c7446", func := "loop.example/g00194/laws.FnExactTxOk", spec := "fnExactTxOk", apart := false, narrowed := true }
def FnExactTxOkUptoSaid : Prop := fnExactTxOkUptoRow.holds Try.pinned (OpenSpec.upto fnExactTxOkSpec)

/-- 'laws.FnExactApply', WHERE WHAT IT READS IS OF BULK AT MOST 1048576: true; the input reads as it did. -/
def fnExactApplyUptoRow : OpenClaim := { program := "ytndkcifblnfaoaa", sum := "493d0f44da7a21a58b59d0943ff14dcfe56d12e2afa4811bdc9ddae6645c7446", func := "loop.example/g00194/laws.FnExactApply", spec := "fnExactApply", inPlace := ["slices.overlaps[loop.example/g00194/impl.Acct]", "slices.overlaps[loop.example/g00194/impl.Leave]"], unfollowed := true, recurses := true, apart := false, narrowed := true }
def FnExactApplyUptoSaid : Prop := fnExactApplyUptoRow.holds Try.pinned (OpenSpec.upto fnExactApplySpec)

/-- 'laws.FnExactGetNum', WHERE WHAT IT READS IS OF BULK AT MOST 1048576: true; the input reads as it did. -/
def fnExactGetNumUptoRow : OpenClaim := { program := "ytndkcifblnfaoaa", sum := "493d0f44da7a21a58b59d0943ff14dcfe56d12e2afa4811bdc9ddae6645c7446", func := "loop.example/g00194/laws.FnExactGetNum", spec := "fnExactGetNum", apart := false, narrowed := true }
def FnExactGetNumUptoSaid : Prop := fnExactGetNumUptoRow.holds Try.pinned (OpenSpec.upto fnExactGetNumSpec)

/-- 'laws.FnExactPadded', WHERE WHAT IT READS IS OF BULK AT MOST 1048576: true; the input reads as it did. -/
def fnExactPaddedUptoRow : OpenClaim := { program := "ytndkcifblnfaoaa", sum := "493d0f44da7a21a58b59d0943ff14dcfe56d12e2afa4811bdc9ddae6645c7446", func := "loop.example/g00194/laws.FnExactPadded", spec := "fnExactPadded", apart := false, narrowed := true }
def FnExactPaddedUptoSaid : Prop := fnExactPaddedUptoRow.holds Try.pinned (OpenSpec.upto fnExactPaddedSpec)

/-- 'laws.FnExactLeaderOf', WHERE WHAT IT READS IS OF BULK AT MOST 1048576: true; the input reads as it did. -/
def fnExactLeaderOfUptoRow : OpenClaim := { program := "ytndkcifblnfaoaa", sum := "493d0f44da7a21a58b59d0943ff14dcfe56d12e2afa4811bdc9ddae6645c7446", func := "loop.example/g00194/laws.FnExactLeaderOf", spec := "fnExactLeaderOf", apart := false, narrowed := true }
def FnExactLeaderOfUptoSaid : Prop := fnExactLeaderOfUptoRow.holds Try.pinned (OpenSpec.upto fnExactLeaderOfSpec)

/-- 'laws.FnExactNamesOk', WHERE WHAT IT READS IS OF BULK AT MOST 1048576: true; the input reads as it did. -/
def fnExactNamesOkUptoRow : OpenClaim := { program := "ytndkcifblnfaoaa", sum := "493d0f44da7a21a58b59d0943ff14dcfe56d12e2afa4811bdc9ddae6645c7446", func := "loop.example/g00194/laws.FnExactNamesOk", spec := "fnExactNamesOk", apart := false, narrowed := true }
def FnExactNamesOkUptoSaid : Prop := fnExactNamesOkUptoRow.holds Try.pinned (OpenSpec.upto fnExactNamesOkSpec)

/-- 'laws.FnExactTxLess', WHERE WHAT IT READS IS OF BULK AT MOST 1048576: true; the input reads as it did. -/
def fnExactTxLessUptoRow : OpenClaim := { program := "ytndkcifblnfaoaa", sum := "493d0f44da7a21a58b59d0943ff14dcfe56d12e2afa4811bdc9ddae6645c7446", func := "loop.example/g00194/laws.FnExactTxLess", spec := "fnExactTxLess", apart := false, narrowed := true }
def FnExactTxLessUptoSaid : Prop := fnExactTxLessUptoRow.holds Try.pinned (OpenSpec.upto fnExactTxLessSpec)

/-- 'laws.FnConserved', WHERE WHAT IT READS IS OF BULK AT MOST 1048576: true; the input reads as it did. -/
def fnConservedUptoRow : OpenClaim := { program := "ytndkcifblnfaoaa", sum := "493d0f44da7a21a58b59d0943ff14dcfe56d12e2afa4811bdc9ddae6645c7446", func := "loop.example/g00194/laws.FnConserved", spec := "fnConserved", inPlace := ["slices.overlaps[loop.example/g00194/impl.Acct]", "slices.overlaps[loop.example/g00194/impl.Leave]"], unfollowed := true, recurses := true, apart := false, narrowed := true }
def FnConservedUptoSaid : Prop := fnConservedUptoRow.holds Try.pinned (OpenSpec.upto fnConservedSpec)

end Rows
end Go.Proofs.Ytndkcifblnfaoaa
