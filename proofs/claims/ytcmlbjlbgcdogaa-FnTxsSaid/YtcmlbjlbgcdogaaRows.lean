/-
  No cell of these rows narrows 'for every input' (looked for: loops, veiled, ifaces, maps, wideKeys, modest, calm, conditions, laid).
  DERIVED. THE GIVEN ROWS OF THIS SEAT. 12 by the template 'for every input the law returns true; each argument reads behind the call as it read before'; 0 by the template 'total and deterministic' (their statements: YtcmlbjlbgcdogaaTotals.lean).
  GIVEN WITH THE SEED: the statements are not yours to turn. If you find one false, say at which input.
  Laid BY PROGRAM, IN A SANDBOX (cutbox-rows.mjs): the forced cells as the released guide's own fill.sh prints them over the translation c1cec94c78a7d106… (all of the seat's roots in one cut). By AI agents, Wed Nov 11 2026. No macro, syntax, notation, axiom, sorry.
-/
import Derived.Test.YtcmlbjlbgcdogaaChecked
import GoSem.Claim
import GoSem.ClaimJoined
import GoSem.ClaimMapViews
import Derived.JoinedTies
import Derived.KernelRfl
namespace Go.Proofs.Ytcmlbjlbgcdogaa
/- THE CELL 'sum', in the pinned program and in every row, IS THE sha256 OF THE DUMP (.gsa) THAT YtcmlbjlbgcdogaaProg.lean LOADS. Nothing in Lean hashes anything: it is a label: what it is worth is what the hold of that sum in a sandbox is worth. -/
noncomputable def Try.pinned : Pinned := { name := "ytcmlbjlbgcdogaa", sum := "c1cec94c78a7d106a760f333755b3ff1395c8a399192118feb80c5c9eef1b485", checked := Try.checked }
namespace Rows
def none {H : Type} : Left H := { results := [], args := [] }

/-- 'laws.FnExactPutNum': WHATEVER THE INPUT: true; the input reads as it did. -/
def fnExactPutNumSpec : ChangeSpec := { name := "fnExactPutNum", fn := fun _ => fun
  | [d1, d2] => { results := [.lit (.bool true)], args := [d1, d2] }
  | _ => none }
def fnExactPutNumRow : OpenClaim := { program := "ytcmlbjlbgcdogaa", sum := "c1cec94c78a7d106a760f333755b3ff1395c8a399192118feb80c5c9eef1b485", func := "loop.example/g00194/laws.FnExactPutNum", spec := "fnExactPutNum", apart := false }
def FnExactPutNumSaid : Prop := fnExactPutNumRow.holds Try.pinned (OpenSpec.ofChange fnExactPutNumSpec)

/-- ITS FALSE NEIGHBOUR: 'it returns false'. Refute it at one input. -/
def fnExactPutNumWrong : ChangeSpec := { name := "fnExactPutNum", fn := fun _ => fun
  | [d1, d2] => { results := [.lit (.bool false)], args := [d1, d2] }
  | _ => none }
def FnExactPutNumWrongFalsely : Prop := fnExactPutNumRow.holds Try.pinned (OpenSpec.ofChange fnExactPutNumWrong)

/-- 'laws.FnExactGetText': WHATEVER THE INPUT: true; the input reads as it did. -/
def fnExactGetTextSpec : ChangeSpec := { name := "fnExactGetText", fn := fun _ => fun
  | [d1, d2] => { results := [.lit (.bool true)], args := [d1, d2] }
  | _ => none }
def fnExactGetTextRow : OpenClaim := { program := "ytcmlbjlbgcdogaa", sum := "c1cec94c78a7d106a760f333755b3ff1395c8a399192118feb80c5c9eef1b485", func := "loop.example/g00194/laws.FnExactGetText", spec := "fnExactGetText", apart := false }
def FnExactGetTextSaid : Prop := fnExactGetTextRow.holds Try.pinned (OpenSpec.ofChange fnExactGetTextSpec)

/-- ITS FALSE NEIGHBOUR: 'it returns false'. Refute it at one input. -/
def fnExactGetTextWrong : ChangeSpec := { name := "fnExactGetText", fn := fun _ => fun
  | [d1, d2] => { results := [.lit (.bool false)], args := [d1, d2] }
  | _ => none }
def FnExactGetTextWrongFalsely : Prop := fnExactGetTextRow.holds Try.pinned (OpenSpec.ofChange fnExactGetTextWrong)

/-- 'laws.FnExactPutText': WHATEVER THE INPUT: true; the input reads as it did. -/
def fnExactPutTextSpec : ChangeSpec := { name := "fnExactPutText", fn := fun _ => fun
  | [d1, d2] => { results := [.lit (.bool true)], args := [d1, d2] }
  | _ => none }
def fnExactPutTextRow : OpenClaim := { program := "ytcmlbjlbgcdogaa", sum := "c1cec94c78a7d106a760f333755b3ff1395c8a399192118feb80c5c9eef1b485", func := "loop.example/g00194/laws.FnExactPutText", spec := "fnExactPutText", apart := false }
def FnExactPutTextSaid : Prop := fnExactPutTextRow.holds Try.pinned (OpenSpec.ofChange fnExactPutTextSpec)

/-- ITS FALSE NEIGHBOUR: 'it returns false'. Refute it at one input. -/
def fnExactPutTextWrong : ChangeSpec := { name := "fnExactPutText", fn := fun _ => fun
  | [d1, d2] => { results := [.lit (.bool false)], args := [d1, d2] }
  | _ => none }
def FnExactPutTextWrongFalsely : Prop := fnExactPutTextRow.holds Try.pinned (OpenSpec.ofChange fnExactPutTextWrong)

/-- 'laws.FnNums': WHATEVER THE INPUT: true; the input reads as it did. -/
def fnNumsSpec : ChangeSpec := { name := "fnNums", fn := fun _ => fun
  | [d] => { results := [.lit (.bool true)], args := [d] }
  | _ => none }
def fnNumsRow : OpenClaim := { program := "ytcmlbjlbgcdogaa", sum := "c1cec94c78a7d106a760f333755b3ff1395c8a399192118feb80c5c9eef1b485", func := "loop.example/g00194/laws.FnNums", spec := "fnNums", apart := false }
def FnNumsSaid : Prop := fnNumsRow.holds Try.pinned (OpenSpec.ofChange fnNumsSpec)

/-- ITS FALSE NEIGHBOUR: 'it returns false'. Refute it at one input. -/
def fnNumsWrong : ChangeSpec := { name := "fnNums", fn := fun _ => fun
  | [d] => { results := [.lit (.bool false)], args := [d] }
  | _ => none }
def FnNumsWrongFalsely : Prop := fnNumsRow.holds Try.pinned (OpenSpec.ofChange fnNumsWrong)

/-- 'laws.FnNames': WHATEVER THE INPUT: true; the input reads as it did. -/
def fnNamesSpec : ChangeSpec := { name := "fnNames", fn := fun _ => fun
  | [d] => { results := [.lit (.bool true)], args := [d] }
  | _ => none }
def fnNamesRow : OpenClaim := { program := "ytcmlbjlbgcdogaa", sum := "c1cec94c78a7d106a760f333755b3ff1395c8a399192118feb80c5c9eef1b485", func := "loop.example/g00194/laws.FnNames", spec := "fnNames", apart := false }
def FnNamesSaid : Prop := fnNamesRow.holds Try.pinned (OpenSpec.ofChange fnNamesSpec)

/-- ITS FALSE NEIGHBOUR: 'it returns false'. Refute it at one input. -/
def fnNamesWrong : ChangeSpec := { name := "fnNames", fn := fun _ => fun
  | [d] => { results := [.lit (.bool false)], args := [d] }
  | _ => none }
def FnNamesWrongFalsely : Prop := fnNamesRow.holds Try.pinned (OpenSpec.ofChange fnNamesWrong)

/-- 'laws.FnLess': WHATEVER THE INPUT: true; the input reads as it did. -/
def fnLessSpec : ChangeSpec := { name := "fnLess", fn := fun _ => fun
  | [d] => { results := [.lit (.bool true)], args := [d] }
  | _ => none }
def fnLessRow : OpenClaim := { program := "ytcmlbjlbgcdogaa", sum := "c1cec94c78a7d106a760f333755b3ff1395c8a399192118feb80c5c9eef1b485", func := "loop.example/g00194/laws.FnLess", spec := "fnLess", apart := false }
def FnLessSaid : Prop := fnLessRow.holds Try.pinned (OpenSpec.ofChange fnLessSpec)

/-- ITS FALSE NEIGHBOUR: 'it returns false'. Refute it at one input. -/
def fnLessWrong : ChangeSpec := { name := "fnLess", fn := fun _ => fun
  | [d] => { results := [.lit (.bool false)], args := [d] }
  | _ => none }
def FnLessWrongFalsely : Prop := fnLessRow.holds Try.pinned (OpenSpec.ofChange fnLessWrong)

/-- 'laws.FnHex': WHATEVER THE INPUT: true; the input reads as it did. -/
def fnHexSpec : ChangeSpec := { name := "fnHex", fn := fun _ => fun
  | [d] => { results := [.lit (.bool true)], args := [d] }
  | _ => none }
def fnHexRow : OpenClaim := { program := "ytcmlbjlbgcdogaa", sum := "c1cec94c78a7d106a760f333755b3ff1395c8a399192118feb80c5c9eef1b485", func := "loop.example/g00194/laws.FnHex", spec := "fnHex", inPlace := ["internal/abi.NoEscape", "internal/bytealg.IndexByteString"], apart := false }
def FnHexSaid : Prop := fnHexRow.holds Try.pinned (OpenSpec.ofChange fnHexSpec)

/-- ITS FALSE NEIGHBOUR: 'it returns false'. Refute it at one input. -/
def fnHexWrong : ChangeSpec := { name := "fnHex", fn := fun _ => fun
  | [d] => { results := [.lit (.bool false)], args := [d] }
  | _ => none }
def FnHexWrongFalsely : Prop := fnHexRow.holds Try.pinned (OpenSpec.ofChange fnHexWrong)

/-- 'laws.FnExactPutNames': WHATEVER THE INPUT: true; the input reads as it did. -/
def fnExactPutNamesSpec : ChangeSpec := { name := "fnExactPutNames", fn := fun _ => fun
  | [d1, d2] => { results := [.lit (.bool true)], args := [d1, d2] }
  | _ => none }
def fnExactPutNamesRow : OpenClaim := { program := "ytcmlbjlbgcdogaa", sum := "c1cec94c78a7d106a760f333755b3ff1395c8a399192118feb80c5c9eef1b485", func := "loop.example/g00194/laws.FnExactPutNames", spec := "fnExactPutNames", apart := false }
def FnExactPutNamesSaid : Prop := fnExactPutNamesRow.holds Try.pinned (OpenSpec.ofChange fnExactPutNamesSpec)

/-- ITS FALSE NEIGHBOUR: 'it returns false'. Refute it at one input. -/
def fnExactPutNamesWrong : ChangeSpec := { name := "fnExactPutNames", fn := fun _ => fun
  | [d1, d2] => { results := [.lit (.bool false)], args := [d1, d2] }
  | _ => none }
def FnExactPutNamesWrongFalsely : Prop := fnExactPutNamesRow.holds Try.pinned (OpenSpec.ofChange fnExactPutNamesWrong)

/-- 'laws.FnTexts': WHATEVER THE INPUT: true; the input reads as it did. -/
def fnTextsSpec : ChangeSpec := { name := "fnTexts", fn := fun _ => fun
  | [d] => { results := [.lit (.bool true)], args := [d] }
  | _ => none }
def fnTextsRow : OpenClaim := { program := "ytcmlbjlbgcdogaa", sum := "c1cec94c78a7d106a760f333755b3ff1395c8a399192118feb80c5c9eef1b485", func := "loop.example/g00194/laws.FnTexts", spec := "fnTexts", apart := false }
def FnTextsSaid : Prop := fnTextsRow.holds Try.pinned (OpenSpec.ofChange fnTextsSpec)

/-- ITS FALSE NEIGHBOUR: 'it returns false'. Refute it at one input. -/
def fnTextsWrong : ChangeSpec := { name := "fnTexts", fn := fun _ => fun
  | [d] => { results := [.lit (.bool false)], args := [d] }
  | _ => none }
def FnTextsWrongFalsely : Prop := fnTextsRow.holds Try.pinned (OpenSpec.ofChange fnTextsWrong)

/-- 'laws.FnExactGetNames': WHATEVER THE INPUT: true; the input reads as it did. -/
def fnExactGetNamesSpec : ChangeSpec := { name := "fnExactGetNames", fn := fun _ => fun
  | [d1, d2] => { results := [.lit (.bool true)], args := [d1, d2] }
  | _ => none }
def fnExactGetNamesRow : OpenClaim := { program := "ytcmlbjlbgcdogaa", sum := "c1cec94c78a7d106a760f333755b3ff1395c8a399192118feb80c5c9eef1b485", func := "loop.example/g00194/laws.FnExactGetNames", spec := "fnExactGetNames", apart := false }
def FnExactGetNamesSaid : Prop := fnExactGetNamesRow.holds Try.pinned (OpenSpec.ofChange fnExactGetNamesSpec)

/-- ITS FALSE NEIGHBOUR: 'it returns false'. Refute it at one input. -/
def fnExactGetNamesWrong : ChangeSpec := { name := "fnExactGetNames", fn := fun _ => fun
  | [d1, d2] => { results := [.lit (.bool false)], args := [d1, d2] }
  | _ => none }
def FnExactGetNamesWrongFalsely : Prop := fnExactGetNamesRow.holds Try.pinned (OpenSpec.ofChange fnExactGetNamesWrong)

/-- 'laws.FnExactPutTx': WHATEVER THE INPUT: true; the input reads as it did. -/
def fnExactPutTxSpec : ChangeSpec := { name := "fnExactPutTx", fn := fun _ => fun
  | [d1, d2] => { results := [.lit (.bool true)], args := [d1, d2] }
  | _ => none }
def fnExactPutTxRow : OpenClaim := { program := "ytcmlbjlbgcdogaa", sum := "c1cec94c78a7d106a760f333755b3ff1395c8a399192118feb80c5c9eef1b485", func := "loop.example/g00194/laws.FnExactPutTx", spec := "fnExactPutTx", apart := false }
def FnExactPutTxSaid : Prop := fnExactPutTxRow.holds Try.pinned (OpenSpec.ofChange fnExactPutTxSpec)

/-- ITS FALSE NEIGHBOUR: 'it returns false'. Refute it at one input. -/
def fnExactPutTxWrong : ChangeSpec := { name := "fnExactPutTx", fn := fun _ => fun
  | [d1, d2] => { results := [.lit (.bool false)], args := [d1, d2] }
  | _ => none }
def FnExactPutTxWrongFalsely : Prop := fnExactPutTxRow.holds Try.pinned (OpenSpec.ofChange fnExactPutTxWrong)

/-- 'laws.FnTxs': WHATEVER THE INPUT: true; the input reads as it did. -/
def fnTxsSpec : ChangeSpec := { name := "fnTxs", fn := fun _ => fun
  | [d] => { results := [.lit (.bool true)], args := [d] }
  | _ => none }
def fnTxsRow : OpenClaim := { program := "ytcmlbjlbgcdogaa", sum := "c1cec94c78a7d106a760f333755b3ff1395c8a399192118feb80c5c9eef1b485", func := "loop.example/g00194/laws.FnTxs", spec := "fnTxs", apart := false }
def FnTxsSaid : Prop := fnTxsRow.holds Try.pinned (OpenSpec.ofChange fnTxsSpec)

/-- ITS FALSE NEIGHBOUR: 'it returns false'. Refute it at one input. -/
def fnTxsWrong : ChangeSpec := { name := "fnTxs", fn := fun _ => fun
  | [d] => { results := [.lit (.bool false)], args := [d] }
  | _ => none }
def FnTxsWrongFalsely : Prop := fnTxsRow.holds Try.pinned (OpenSpec.ofChange fnTxsWrong)

/- THE SECOND FORM. 'bulk': how many values and letters a reading holds, each counted each time it is reached (what is shared counts as often as it is met; a slice's spare places count too). A statement '..UptoSaid' is the law's where the arguments, and the package variables that the reading takes, are together of bulk at most 1048576: NARROWER than '..Said'. Prove '..Said' where nothing that the law and all that it calls make is longer than what came in: it says more and counts as full. Else prove '..UptoSaid'. A law counts once. -/
mutual
def uptoBulk {H : Type} : DataW H → Nat
  | .lit (.string bytes) => bytes.length + 1
  | .lit _ => 1
  | .nil => 1
  | .ptr d => uptoBulk d + 1
  | .slice elems spare => uptoBulkAll elems + uptoBulkAll spare + 1
  | .agg parts => uptoBulkAll parts + 1
  | .iface _ d => uptoBulk d + 1
  | .map entries => uptoBulkEntries entries + 1
  | .held _ => 1
def uptoBulkAll {H : Type} : List (DataW H) → Nat
  | [] => 0
  | d :: r => uptoBulk d + uptoBulkAll r
def uptoBulkEntries {H : Type} : List (Lit × DataW H) → Nat
  | [] => 0
  | x :: r => uptoBulkEntry x + uptoBulkEntries r
def uptoBulkEntry {H : Type} : Lit × DataW H → Nat
  | (.string bytes, d) => bytes.length + uptoBulk d + 1
  | (_, d) => uptoBulk d + 1
 end
def uptoSmall : (H : Type) → List (DataW H) → Bool := fun _ ds => decide (uptoBulkAll ds ≤ 1048576)
def OpenSpec.upto (s : _root_.Go.ChangeSpec) : _root_.Go.OpenSpec := { _root_.Go.OpenSpec.ofChange s with cond := some uptoSmall }

/-- 'laws.FnExactPutNum', WHERE WHAT IT READS IS OF BULK AT MOST 1048576: true; the input reads as it did. -/
def fnExactPutNumUptoRow : OpenClaim := { program := "ytcmlbjlbgcdogaa", sum := "c1cec94c78a7d106a760f333755b3ff1395c8a399192118feb80c5c9eef1b485", func := "loop.example/g00194/laws.FnExactPutNum", spec := "fnExactPutNum", apart := false, narrowed := true }
def FnExactPutNumUptoSaid : Prop := fnExactPutNumUptoRow.holds Try.pinned (OpenSpec.upto fnExactPutNumSpec)

/-- 'laws.FnExactGetText', WHERE WHAT IT READS IS OF BULK AT MOST 1048576: true; the input reads as it did. -/
def fnExactGetTextUptoRow : OpenClaim := { program := "ytcmlbjlbgcdogaa", sum := "c1cec94c78a7d106a760f333755b3ff1395c8a399192118feb80c5c9eef1b485", func := "loop.example/g00194/laws.FnExactGetText", spec := "fnExactGetText", apart := false, narrowed := true }
def FnExactGetTextUptoSaid : Prop := fnExactGetTextUptoRow.holds Try.pinned (OpenSpec.upto fnExactGetTextSpec)

/-- 'laws.FnExactPutText', WHERE WHAT IT READS IS OF BULK AT MOST 1048576: true; the input reads as it did. -/
def fnExactPutTextUptoRow : OpenClaim := { program := "ytcmlbjlbgcdogaa", sum := "c1cec94c78a7d106a760f333755b3ff1395c8a399192118feb80c5c9eef1b485", func := "loop.example/g00194/laws.FnExactPutText", spec := "fnExactPutText", apart := false, narrowed := true }
def FnExactPutTextUptoSaid : Prop := fnExactPutTextUptoRow.holds Try.pinned (OpenSpec.upto fnExactPutTextSpec)

/-- 'laws.FnNums', WHERE WHAT IT READS IS OF BULK AT MOST 1048576: true; the input reads as it did. -/
def fnNumsUptoRow : OpenClaim := { program := "ytcmlbjlbgcdogaa", sum := "c1cec94c78a7d106a760f333755b3ff1395c8a399192118feb80c5c9eef1b485", func := "loop.example/g00194/laws.FnNums", spec := "fnNums", apart := false, narrowed := true }
def FnNumsUptoSaid : Prop := fnNumsUptoRow.holds Try.pinned (OpenSpec.upto fnNumsSpec)

/-- 'laws.FnNames', WHERE WHAT IT READS IS OF BULK AT MOST 1048576: true; the input reads as it did. -/
def fnNamesUptoRow : OpenClaim := { program := "ytcmlbjlbgcdogaa", sum := "c1cec94c78a7d106a760f333755b3ff1395c8a399192118feb80c5c9eef1b485", func := "loop.example/g00194/laws.FnNames", spec := "fnNames", apart := false, narrowed := true }
def FnNamesUptoSaid : Prop := fnNamesUptoRow.holds Try.pinned (OpenSpec.upto fnNamesSpec)

/-- 'laws.FnLess', WHERE WHAT IT READS IS OF BULK AT MOST 1048576: true; the input reads as it did. -/
def fnLessUptoRow : OpenClaim := { program := "ytcmlbjlbgcdogaa", sum := "c1cec94c78a7d106a760f333755b3ff1395c8a399192118feb80c5c9eef1b485", func := "loop.example/g00194/laws.FnLess", spec := "fnLess", apart := false, narrowed := true }
def FnLessUptoSaid : Prop := fnLessUptoRow.holds Try.pinned (OpenSpec.upto fnLessSpec)

/-- 'laws.FnHex', WHERE WHAT IT READS IS OF BULK AT MOST 1048576: true; the input reads as it did. -/
def fnHexUptoRow : OpenClaim := { program := "ytcmlbjlbgcdogaa", sum := "c1cec94c78a7d106a760f333755b3ff1395c8a399192118feb80c5c9eef1b485", func := "loop.example/g00194/laws.FnHex", spec := "fnHex", inPlace := ["internal/abi.NoEscape", "internal/bytealg.IndexByteString"], apart := false, narrowed := true }
def FnHexUptoSaid : Prop := fnHexUptoRow.holds Try.pinned (OpenSpec.upto fnHexSpec)

/-- 'laws.FnExactPutNames', WHERE WHAT IT READS IS OF BULK AT MOST 1048576: true; the input reads as it did. -/
def fnExactPutNamesUptoRow : OpenClaim := { program := "ytcmlbjlbgcdogaa", sum := "c1cec94c78a7d106a760f333755b3ff1395c8a399192118feb80c5c9eef1b485", func := "loop.example/g00194/laws.FnExactPutNames", spec := "fnExactPutNames", apart := false, narrowed := true }
def FnExactPutNamesUptoSaid : Prop := fnExactPutNamesUptoRow.holds Try.pinned (OpenSpec.upto fnExactPutNamesSpec)

/-- 'laws.FnTexts', WHERE WHAT IT READS IS OF BULK AT MOST 1048576: true; the input reads as it did. -/
def fnTextsUptoRow : OpenClaim := { program := "ytcmlbjlbgcdogaa", sum := "c1cec94c78a7d106a760f333755b3ff1395c8a399192118feb80c5c9eef1b485", func := "loop.example/g00194/laws.FnTexts", spec := "fnTexts", apart := false, narrowed := true }
def FnTextsUptoSaid : Prop := fnTextsUptoRow.holds Try.pinned (OpenSpec.upto fnTextsSpec)

/-- 'laws.FnExactGetNames', WHERE WHAT IT READS IS OF BULK AT MOST 1048576: true; the input reads as it did. -/
def fnExactGetNamesUptoRow : OpenClaim := { program := "ytcmlbjlbgcdogaa", sum := "c1cec94c78a7d106a760f333755b3ff1395c8a399192118feb80c5c9eef1b485", func := "loop.example/g00194/laws.FnExactGetNames", spec := "fnExactGetNames", apart := false, narrowed := true }
def FnExactGetNamesUptoSaid : Prop := fnExactGetNamesUptoRow.holds Try.pinned (OpenSpec.upto fnExactGetNamesSpec)

/-- 'laws.FnExactPutTx', WHERE WHAT IT READS IS OF BULK AT MOST 1048576: true; the input reads as it did. -/
def fnExactPutTxUptoRow : OpenClaim := { program := "ytcmlbjlbgcdogaa", sum := "c1cec94c78a7d106a760f333755b3ff1395c8a399192118feb80c5c9eef1b485", func := "loop.example/g00194/laws.FnExactPutTx", spec := "fnExactPutTx", apart := false, narrowed := true }
def FnExactPutTxUptoSaid : Prop := fnExactPutTxUptoRow.holds Try.pinned (OpenSpec.upto fnExactPutTxSpec)

/-- 'laws.FnTxs', WHERE WHAT IT READS IS OF BULK AT MOST 1048576: true; the input reads as it did. -/
def fnTxsUptoRow : OpenClaim := { program := "ytcmlbjlbgcdogaa", sum := "c1cec94c78a7d106a760f333755b3ff1395c8a399192118feb80c5c9eef1b485", func := "loop.example/g00194/laws.FnTxs", spec := "fnTxs", apart := false, narrowed := true }
def FnTxsUptoSaid : Prop := fnTxsUptoRow.holds Try.pinned (OpenSpec.upto fnTxsSpec)

end Rows
end Go.Proofs.Ytcmlbjlbgcdogaa
