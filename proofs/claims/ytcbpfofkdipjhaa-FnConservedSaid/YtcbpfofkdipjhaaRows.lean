/-
  No cell of these rows narrows 'for every input' (looked for: loops, veiled, ifaces, maps, wideKeys, modest, calm, conditions, laid).
  DERIVED. THE GIVEN ROWS OF THIS SEAT. 10 by the template 'for every input the law returns true; each argument reads behind the call as it read before'; 0 by the template 'total and deterministic' (their statements: YtcbpfofkdipjhaaTotals.lean).
  GIVEN WITH THE SEED: the statements are not yours to turn. If you find one false, say at which input.
  Laid BY PROGRAM, IN A SANDBOX (cutbox-rows.mjs): the forced cells as the released guide's own fill.sh prints them over the translation 745ab9075d628981… (all of the seat's roots in one cut). By AI agents, Wed Nov 11 2026. No macro, syntax, notation, axiom, sorry.
-/
import Derived.Test.YtcbpfofkdipjhaaChecked
import GoSem.Claim
import GoSem.ClaimJoined
import GoSem.ClaimMapViews
import Derived.JoinedTies
import Derived.KernelRfl
namespace Go.Proofs.Ytcbpfofkdipjhaa
/- THE CELL 'sum', in the pinned program and in every row, IS THE sha256 OF THE DUMP (.gsa) THAT YtcbpfofkdipjhaaProg.lean LOADS. Nothing in Lean hashes anything: it is a label: what it is worth is what the hold of that sum in a sandbox is worth. -/
noncomputable def Try.pinned : Pinned := { name := "ytcbpfofkdipjhaa", sum := "745ab9075d628981153b5b6689a63859eea54301d0c43be73d71282369a68916", checked := Try.checked }
namespace Rows
def none {H : Type} : Left H := { results := [], args := [] }

/-- 'laws.FnExactApply': WHATEVER THE INPUT: true; the input reads as it did. -/
def fnExactApplySpec : ChangeSpec := { name := "fnExactApply", fn := fun _ => fun
  | [d1, d2] => { results := [.lit (.bool true)], args := [d1, d2] }
  | _ => none }
def fnExactApplyRow : OpenClaim := { program := "ytcbpfofkdipjhaa", sum := "745ab9075d628981153b5b6689a63859eea54301d0c43be73d71282369a68916", func := "loop.example/g00194/laws.FnExactApply", spec := "fnExactApply", inPlace := ["slices.overlaps[loop.example/g00194/impl.Acct]", "slices.overlaps[loop.example/g00194/impl.Leave]"], unfollowed := true, recurses := true, apart := false }
def FnExactApplySaid : Prop := fnExactApplyRow.holds Try.pinned (OpenSpec.ofChange fnExactApplySpec)

/-- ITS FALSE NEIGHBOUR: 'it returns false'. Refute it at one input. -/
def fnExactApplyWrong : ChangeSpec := { name := "fnExactApply", fn := fun _ => fun
  | [d1, d2] => { results := [.lit (.bool false)], args := [d1, d2] }
  | _ => none }
def FnExactApplyWrongFalsely : Prop := fnExactApplyRow.holds Try.pinned (OpenSpec.ofChange fnExactApplyWrong)

/-- 'laws.FnConserved': WHATEVER THE INPUT: true; the input reads as it did. -/
def fnConservedSpec : ChangeSpec := { name := "fnConserved", fn := fun _ => fun
  | [d] => { results := [.lit (.bool true)], args := [d] }
  | _ => none }
def fnConservedRow : OpenClaim := { program := "ytcbpfofkdipjhaa", sum := "745ab9075d628981153b5b6689a63859eea54301d0c43be73d71282369a68916", func := "loop.example/g00194/laws.FnConserved", spec := "fnConserved", inPlace := ["slices.overlaps[loop.example/g00194/impl.Acct]", "slices.overlaps[loop.example/g00194/impl.Leave]"], unfollowed := true, recurses := true, apart := false }
def FnConservedSaid : Prop := fnConservedRow.holds Try.pinned (OpenSpec.ofChange fnConservedSpec)

/-- ITS FALSE NEIGHBOUR: 'it returns false'. Refute it at one input. -/
def fnConservedWrong : ChangeSpec := { name := "fnConserved", fn := fun _ => fun
  | [d] => { results := [.lit (.bool false)], args := [d] }
  | _ => none }
def FnConservedWrongFalsely : Prop := fnConservedRow.holds Try.pinned (OpenSpec.ofChange fnConservedWrong)

/-- 'laws.FnExactApplyAll': WHATEVER THE INPUT: true; the input reads as it did. -/
def fnExactApplyAllSpec : ChangeSpec := { name := "fnExactApplyAll", fn := fun _ => fun
  | [d1, d2] => { results := [.lit (.bool true)], args := [d1, d2] }
  | _ => none }
def fnExactApplyAllRow : OpenClaim := { program := "ytcbpfofkdipjhaa", sum := "745ab9075d628981153b5b6689a63859eea54301d0c43be73d71282369a68916", func := "loop.example/g00194/laws.FnExactApplyAll", spec := "fnExactApplyAll", inPlace := ["slices.overlaps[loop.example/g00194/impl.Acct]", "slices.overlaps[loop.example/g00194/impl.Leave]"], unfollowed := true, recurses := true, apart := false }
def FnExactApplyAllSaid : Prop := fnExactApplyAllRow.holds Try.pinned (OpenSpec.ofChange fnExactApplyAllSpec)

/-- ITS FALSE NEIGHBOUR: 'it returns false'. Refute it at one input. -/
def fnExactApplyAllWrong : ChangeSpec := { name := "fnExactApplyAll", fn := fun _ => fun
  | [d1, d2] => { results := [.lit (.bool false)], args := [d1, d2] }
  | _ => none }
def FnExactApplyAllWrongFalsely : Prop := fnExactApplyAllRow.holds Try.pinned (OpenSpec.ofChange fnExactApplyAllWrong)

/-- 'laws.FnHex': WHATEVER THE INPUT: true; the input reads as it did. -/
def fnHexSpec : ChangeSpec := { name := "fnHex", fn := fun _ => fun
  | [d] => { results := [.lit (.bool true)], args := [d] }
  | _ => none }
def fnHexRow : OpenClaim := { program := "ytcbpfofkdipjhaa", sum := "745ab9075d628981153b5b6689a63859eea54301d0c43be73d71282369a68916", func := "loop.example/g00194/laws.FnHex", spec := "fnHex", inPlace := ["internal/abi.NoEscape", "internal/bytealg.IndexByteString"], apart := false }
def FnHexSaid : Prop := fnHexRow.holds Try.pinned (OpenSpec.ofChange fnHexSpec)

/-- ITS FALSE NEIGHBOUR: 'it returns false'. Refute it at one input. -/
def fnHexWrong : ChangeSpec := { name := "fnHex", fn := fun _ => fun
  | [d] => { results := [.lit (.bool false)], args := [d] }
  | _ => none }
def FnHexWrongFalsely : Prop := fnHexRow.holds Try.pinned (OpenSpec.ofChange fnHexWrong)

/-- 'laws.FnFreed': WHATEVER THE INPUT: true; the input reads as it did. -/
def fnFreedSpec : ChangeSpec := { name := "fnFreed", fn := fun _ => fun
  | [d] => { results := [.lit (.bool true)], args := [d] }
  | _ => none }
def fnFreedRow : OpenClaim := { program := "ytcbpfofkdipjhaa", sum := "745ab9075d628981153b5b6689a63859eea54301d0c43be73d71282369a68916", func := "loop.example/g00194/laws.FnFreed", spec := "fnFreed", apart := false }
def FnFreedSaid : Prop := fnFreedRow.holds Try.pinned (OpenSpec.ofChange fnFreedSpec)

/-- ITS FALSE NEIGHBOUR: 'it returns false'. Refute it at one input. -/
def fnFreedWrong : ChangeSpec := { name := "fnFreed", fn := fun _ => fun
  | [d] => { results := [.lit (.bool false)], args := [d] }
  | _ => none }
def FnFreedWrongFalsely : Prop := fnFreedRow.holds Try.pinned (OpenSpec.ofChange fnFreedWrong)

/-- 'laws.FnCredited': WHATEVER THE INPUT: true; the input reads as it did. -/
def fnCreditedSpec : ChangeSpec := { name := "fnCredited", fn := fun _ => fun
  | [d] => { results := [.lit (.bool true)], args := [d] }
  | _ => none }
def fnCreditedRow : OpenClaim := { program := "ytcbpfofkdipjhaa", sum := "745ab9075d628981153b5b6689a63859eea54301d0c43be73d71282369a68916", func := "loop.example/g00194/laws.FnCredited", spec := "fnCredited", inPlace := ["slices.overlaps[loop.example/g00194/impl.Acct]"], unfollowed := true, recurses := true, apart := false }
def FnCreditedSaid : Prop := fnCreditedRow.holds Try.pinned (OpenSpec.ofChange fnCreditedSpec)

/-- ITS FALSE NEIGHBOUR: 'it returns false'. Refute it at one input. -/
def fnCreditedWrong : ChangeSpec := { name := "fnCredited", fn := fun _ => fun
  | [d] => { results := [.lit (.bool false)], args := [d] }
  | _ => none }
def FnCreditedWrongFalsely : Prop := fnCreditedRow.holds Try.pinned (OpenSpec.ofChange fnCreditedWrong)

/-- 'laws.FnExactNextEpoch': WHATEVER THE INPUT: true; the input reads as it did. -/
def fnExactNextEpochSpec : ChangeSpec := { name := "fnExactNextEpoch", fn := fun _ => fun
  | [d] => { results := [.lit (.bool true)], args := [d] }
  | _ => none }
def fnExactNextEpochRow : OpenClaim := { program := "ytcbpfofkdipjhaa", sum := "745ab9075d628981153b5b6689a63859eea54301d0c43be73d71282369a68916", func := "loop.example/g00194/laws.FnExactNextEpoch", spec := "fnExactNextEpoch", apart := false }
def FnExactNextEpochSaid : Prop := fnExactNextEpochRow.holds Try.pinned (OpenSpec.ofChange fnExactNextEpochSpec)

/-- ITS FALSE NEIGHBOUR: 'it returns false'. Refute it at one input. -/
def fnExactNextEpochWrong : ChangeSpec := { name := "fnExactNextEpoch", fn := fun _ => fun
  | [d] => { results := [.lit (.bool false)], args := [d] }
  | _ => none }
def FnExactNextEpochWrongFalsely : Prop := fnExactNextEpochRow.holds Try.pinned (OpenSpec.ofChange fnExactNextEpochWrong)

/-- 'laws.FnStateRoots': WHATEVER THE INPUT: true; the input reads as it did. -/
def fnStateRootsSpec : ChangeSpec := { name := "fnStateRoots", fn := fun _ => fun
  | [d] => { results := [.lit (.bool true)], args := [d] }
  | _ => none }
def fnStateRootsRow : OpenClaim := { program := "ytcbpfofkdipjhaa", sum := "745ab9075d628981153b5b6689a63859eea54301d0c43be73d71282369a68916", func := "loop.example/g00194/laws.FnStateRoots", spec := "fnStateRoots", unfollowed := true, recurses := true, apart := false }
def FnStateRootsSaid : Prop := fnStateRootsRow.holds Try.pinned (OpenSpec.ofChange fnStateRootsSpec)

/-- ITS FALSE NEIGHBOUR: 'it returns false'. Refute it at one input. -/
def fnStateRootsWrong : ChangeSpec := { name := "fnStateRoots", fn := fun _ => fun
  | [d] => { results := [.lit (.bool false)], args := [d] }
  | _ => none }
def FnStateRootsWrongFalsely : Prop := fnStateRootsRow.holds Try.pinned (OpenSpec.ofChange fnStateRootsWrong)

/-- 'laws.FnExactCredit': WHATEVER THE INPUT: true; the input reads as it did. -/
def fnExactCreditSpec : ChangeSpec := { name := "fnExactCredit", fn := fun _ => fun
  | [d1, d2, d3] => { results := [.lit (.bool true)], args := [d1, d2, d3] }
  | _ => none }
def fnExactCreditRow : OpenClaim := { program := "ytcbpfofkdipjhaa", sum := "745ab9075d628981153b5b6689a63859eea54301d0c43be73d71282369a68916", func := "loop.example/g00194/laws.FnExactCredit", spec := "fnExactCredit", inPlace := ["slices.overlaps[loop.example/g00194/impl.Acct]"], unfollowed := true, recurses := true, apart := false }
def FnExactCreditSaid : Prop := fnExactCreditRow.holds Try.pinned (OpenSpec.ofChange fnExactCreditSpec)

/-- ITS FALSE NEIGHBOUR: 'it returns false'. Refute it at one input. -/
def fnExactCreditWrong : ChangeSpec := { name := "fnExactCredit", fn := fun _ => fun
  | [d1, d2, d3] => { results := [.lit (.bool false)], args := [d1, d2, d3] }
  | _ => none }
def FnExactCreditWrongFalsely : Prop := fnExactCreditRow.holds Try.pinned (OpenSpec.ofChange fnExactCreditWrong)

/-- 'laws.FnApplied': WHATEVER THE INPUT: true; the input reads as it did. -/
def fnAppliedSpec : ChangeSpec := { name := "fnApplied", fn := fun _ => fun
  | [d] => { results := [.lit (.bool true)], args := [d] }
  | _ => none }
def fnAppliedRow : OpenClaim := { program := "ytcbpfofkdipjhaa", sum := "745ab9075d628981153b5b6689a63859eea54301d0c43be73d71282369a68916", func := "loop.example/g00194/laws.FnApplied", spec := "fnApplied", inPlace := ["slices.overlaps[loop.example/g00194/impl.Acct]", "slices.overlaps[loop.example/g00194/impl.Leave]"], unfollowed := true, recurses := true, apart := false }
def FnAppliedSaid : Prop := fnAppliedRow.holds Try.pinned (OpenSpec.ofChange fnAppliedSpec)

/-- ITS FALSE NEIGHBOUR: 'it returns false'. Refute it at one input. -/
def fnAppliedWrong : ChangeSpec := { name := "fnApplied", fn := fun _ => fun
  | [d] => { results := [.lit (.bool false)], args := [d] }
  | _ => none }
def FnAppliedWrongFalsely : Prop := fnAppliedRow.holds Try.pinned (OpenSpec.ofChange fnAppliedWrong)

/- THE SECOND FORM. 'bulk': how many values and letters a reading holds, each counted each time it is reached (what is shared counts as often as it is met; a slice's spare places count too). A statement '..UptoSaid' is the law's where the arguments, and the package variables that the reading takes, are together of bulk at most 1048576: NARROWER than '..Said'. Prove '..Said' where nothing that the law and all that it calls make is longer than what came in: it says more and counts as full. Else prove '..UptoSaid'. A law counts once. -/
mutual
def uptoBulk {H : Type} : DataW H → Nat
  | .lit (.string bytes) => bytes.length + 1
  | .lit _ => 1
  | .nil => 1
  | .ptr d => uptoBulk d + 1
  | .slice elems spare => uptoBulkAll elems + uptoBulkAll spare + 1
  | .agg parts => uptoBulkAll parts + 1
  | .iface _ d => uptoBulk d + 1
  | .map entries => uptoBulkEntries entries + 1
  | .held _ => 1
def uptoBulkAll {H : Type} : List (DataW H) → Nat
  | [] => 0
  | d :: r => uptoBulk d + uptoBulkAll r
def uptoBulkEntries {H : Type} : List (Lit × DataW H) → Nat
  | [] => 0
  | x :: r => uptoBulkEntry x + uptoBulkEntries r
def uptoBulkEntry {H : Type} : Lit × DataW H → Nat
  | (.string bytes, d) => bytes.length + uptoBulk d + 1
  | (_, d) => uptoBulk d + 1
 end
def uptoSmall : (H : Type) → List (DataW H) → Bool := fun _ ds => decide (uptoBulkAll ds ≤ 1048576)
def OpenSpec.upto (s : _root_.Go.ChangeSpec) : _root_.Go.OpenSpec := { _root_.Go.OpenSpec.ofChange s with cond := some uptoSmall }

/-- 'laws.FnExactApply', WHERE WHAT IT READS IS OF BULK AT MOST 1048576: true; the input reads as it did. -/
def fnExactApplyUptoRow : OpenClaim := { program := "ytcbpfofkdipjhaa", sum := "745ab9075d628981153b5b6689a63859eea54301d0c43be73d71282369a68916", func := "loop.example/g00194/laws.FnExactApply", spec := "fnExactApply", inPlace := ["slices.overlaps[loop.example/g00194/impl.Acct]", "slices.overlaps[loop.example/g00194/impl.Leave]"], unfollowed := true, recurses := true, apart := false, narrowed := true }
def FnExactApplyUptoSaid : Prop := fnExactApplyUptoRow.holds Try.pinned (OpenSpec.upto fnExactApplySpec)

/-- 'laws.FnConserved', WHERE WHAT IT READS IS OF BULK AT MOST 1048576: true; the input reads as it did. -/
def fnConservedUptoRow : OpenClaim := { program := "ytcbpfofkdipjhaa", sum := "745ab9075d628981153b5b6689a63859eea54301d0c43be73d71282369a68916", func := "loop.example/g00194/laws.FnConserved", spec := "fnConserved", inPlace := ["slices.overlaps[loop.example/g00194/impl.Acct]", "slices.overlaps[loop.example/g00194/impl.Leave]"], unfollowed := true, recurses := true, apart := false, narrowed := true }
def FnConservedUptoSaid : Prop := fnConservedUptoRow.holds Try.pinned (OpenSpec.upto fnConservedSpec)

/-- 'laws.FnExactApplyAll', WHERE WHAT IT READS IS OF BULK AT MOST 1048576: true; the input reads as it did. -/
def fnExactApplyAllUptoRow : OpenClaim := { program := "ytcbpfofkdipjhaa", sum := "745ab9075d628981153b5b6689a63859eea54301d0c43be73d71282369a68916", func := "loop.example/g00194/laws.FnExactApplyAll", spec := "fnExactApplyAll", inPlace := ["slices.overlaps[loop.example/g00194/impl.Acct]", "slices.overlaps[loop.example/g00194/impl.Leave]"], unfollowed := true, recurses := true, apart := false, narrowed := true }
def FnExactApplyAllUptoSaid : Prop := fnExactApplyAllUptoRow.holds Try.pinned (OpenSpec.upto fnExactApplyAllSpec)

/-- 'laws.FnHex', WHERE WHAT IT READS IS OF BULK AT MOST 1048576: true; the input reads as it did. -/
def fnHexUptoRow : OpenClaim := { program := "ytcbpfofkdipjhaa", sum := "745ab9075d628981153b5b6689a63859eea54301d0c43be73d71282369a68916", func := "loop.example/g00194/laws.FnHex", spec := "fnHex", inPlace := ["internal/abi.NoEscape", "internal/bytealg.IndexByteString"], apart := false, narrowed := true }
def FnHexUptoSaid : Prop := fnHexUptoRow.holds Try.pinned (OpenSpec.upto fnHexSpec)

/-- 'laws.FnFreed', WHERE WHAT IT READS IS OF BULK AT MOST 1048576: true; the input reads as it did. -/
def fnFreedUptoRow : OpenClaim := { program := "ytcbpfofkdipjhaa", sum := "745ab9075d628981153b5b6689a63859eea54301d0c43be73d71282369a68916", func := "loop.example/g00194/laws.FnFreed", spec := "fnFreed", apart := false, narrowed := true }
def FnFreedUptoSaid : Prop := fnFreedUptoRow.holds Try.pinned (OpenSpec.upto fnFreedSpec)

/-- 'laws.FnCredited', WHERE WHAT IT READS IS OF BULK AT MOST 1048576: true; the input reads as it did. -/
def fnCreditedUptoRow : OpenClaim := { program := "ytcbpfofkdipjhaa", sum := "745ab9075d628981153b5b6689a63859eea54301d0c43be73d71282369a68916", func := "loop.example/g00194/laws.FnCredited", spec := "fnCredited", inPlace := ["slices.overlaps[loop.example/g00194/impl.Acct]"], unfollowed := true, recurses := true, apart := false, narrowed := true }
def FnCreditedUptoSaid : Prop := fnCreditedUptoRow.holds Try.pinned (OpenSpec.upto fnCreditedSpec)

/-- 'laws.FnExactNextEpoch', WHERE WHAT IT READS IS OF BULK AT MOST 1048576: true; the input reads as it did. -/
def fnExactNextEpochUptoRow : OpenClaim := { program := "ytcbpfofkdipjhaa", sum := "745ab9075d628981153b5b6689a63859eea54301d0c43be73d71282369a68916", func := "loop.example/g00194/laws.FnExactNextEpoch", spec := "fnExactNextEpoch", apart := false, narrowed := true }
def FnExactNextEpochUptoSaid : Prop := fnExactNextEpochUptoRow.holds Try.pinned (OpenSpec.upto fnExactNextEpochSpec)

/-- 'laws.FnStateRoots', WHERE WHAT IT READS IS OF BULK AT MOST 1048576: true; the input reads as it did. -/
def fnStateRootsUptoRow : OpenClaim := { program := "ytcbpfofkdipjhaa", sum := "745ab9075d628981153b5b6689a63859eea54301d0c43be73d71282369a68916", func := "loop.example/g00194/laws.FnStateRoots", spec := "fnStateRoots", unfollowed := true, recurses := true, apart := false, narrowed := true }
def FnStateRootsUptoSaid : Prop := fnStateRootsUptoRow.holds Try.pinned (OpenSpec.upto fnStateRootsSpec)

/-- 'laws.FnExactCredit', WHERE WHAT IT READS IS OF BULK AT MOST 1048576: true; the input reads as it did. -/
def fnExactCreditUptoRow : OpenClaim := { program := "ytcbpfofkdipjhaa", sum := "745ab9075d628981153b5b6689a63859eea54301d0c43be73d71282369a68916", func := "loop.example/g00194/laws.FnExactCredit", spec := "fnExactCredit", inPlace := ["slices.overlaps[loop.example/g00194/impl.Acct]"], unfollowed := true, recurses := true, apart := false, narrowed := true }
def FnExactCreditUptoSaid : Prop := fnExactCreditUptoRow.holds Try.pinned (OpenSpec.upto fnExactCreditSpec)

/-- 'laws.FnApplied', WHERE WHAT IT READS IS OF BULK AT MOST 1048576: true; the input reads as it did. -/
def fnAppliedUptoRow : OpenClaim := { program := "ytcbpfofkdipjhaa", sum := "745ab9075d628981153b5b6689a63859eea54301d0c43be73d71282369a68916", func := "loop.example/g00194/laws.FnApplied", spec := "fnApplied", inPlace := ["slices.overlaps[loop.example/g00194/impl.Acct]", "slices.overlaps[loop.example/g00194/impl.Leave]"], unfollowed := true, recurses := true, apart := false, narrowed := true }
def FnAppliedUptoSaid : Prop := fnAppliedUptoRow.holds Try.pinned (OpenSpec.upto fnAppliedSpec)

end Rows
end Go.Proofs.Ytcbpfofkdipjhaa
