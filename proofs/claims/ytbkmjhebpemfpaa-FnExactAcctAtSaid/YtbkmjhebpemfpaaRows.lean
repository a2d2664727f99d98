/-
  No cell of these rows narrows 'for every input' (looked for: loops, veiled, ifaces, maps, wideKeys, modest, calm, conditions, laid).
  DERIVED. THE GIVEN ROWS OF THIS SEAT. 12 by the template 'for every input the law returns true; each argument reads behind the call as it read before'; 0 by the template 'total and deterministic' (their statements: YtbkmjhebpemfpaaTotals.lean).
  GIVEN WITH THE SEED: the statements are not yours to turn. If you find one false, say at which input.
  Laid BY PROGRAM, IN A SANDBOX (cutbox-rows.mjs): the forced cells as the released guide's own fill.sh prints them over the translation b003381d806fef37… (all of the seat's roots in one cut). By AI agents, Wed Nov 11 2026. No macro, syntax, notation, axiom, sorry.
-/
import Derived.Test.YtbkmjhebpemfpaaChecked
import GoSem.Claim
import GoSem.ClaimJoined
import GoSem.ClaimMapViews
import Derived.JoinedTies
import Derived.KernelRfl
namespace Go.Proofs.Ytbkmjhebpemfpaa
/- THE CELL 'sum', in the pinned program and in every row, IS THE sha256 OF THE DUMP (.gsa) THAT YtbkmjhebpemfpaaProg.lean LOADS. Nothing in Lean hashes anything: it is a label: what it is worth is what the hold of that sum in a sandbox is worth. -/
noncomputable def Try.pinned : Pinned := { name := "ytbkmjhebpemfpaa", sum := "b003381d806fef376d15c48c0c9188ba5add82b310174f42c3de263f5397389a", checked := Try.checked }
namespace Rows
def none {H : Type} : Left H := { results := [], args := [] }

/-- 'laws.FnExactGetTx': WHATEVER THE INPUT: true; the input reads as it did. -/
def fnExactGetTxSpec : ChangeSpec := { name := "fnExactGetTx", fn := fun _ => fun
  | [d1, d2] => { results := [.lit (.bool true)], args := [d1, d2] }
  | _ => none }
def fnExactGetTxRow : OpenClaim := { program := "ytbkmjhebpemfpaa", sum := "b003381d806fef376d15c48c0c9188ba5add82b310174f42c3de263f5397389a", func := "loop.example/g00194/laws.FnExactGetTx", spec := "fnExactGetTx", apart := false }
def FnExactGetTxSaid : Prop := fnExactGetTxRow.holds Try.pinned (OpenSpec.ofChange fnExactGetTxSpec)

/-- ITS FALSE NEIGHBOUR: 'it returns false'. Refute it at one input. -/
def fnExactGetTxWrong : ChangeSpec := { name := "fnExactGetTx", fn := fun _ => fun
  | [d1, d2] => { results := [.lit (.bool false)], args := [d1, d2] }
  | _ => none }
def FnExactGetTxWrongFalsely : Prop := fnExactGetTxRow.holds Try.pinned (OpenSpec.ofChange fnExactGetTxWrong)

/-- 'laws.FnExactAcctOk': WHATEVER THE INPUT: true; the input reads as it did. -/
def fnExactAcctOkSpec : ChangeSpec := { name := "fnExactAcctOk", fn := fun _ => fun
  | [d] => { results := [.lit (.bool true)], args := [d] }
  | _ => none }
def fnExactAcctOkRow : OpenClaim := { program := "ytbkmjhebpemfpaa", sum := "b003381d806fef376d15c48c0c9188ba5add82b310174f42c3de263f5397389a", func := "loop.example/g00194/laws.FnExactAcctOk", spec := "fnExactAcctOk", apart := false }
def FnExactAcctOkSaid : Prop := fnExactAcctOkRow.holds Try.pinned (OpenSpec.ofChange fnExactAcctOkSpec)

/-- ITS FALSE NEIGHBOUR: 'it returns false'. Refute it at one input. -/
def fnExactAcctOkWrong : ChangeSpec := { name := "fnExactAcctOk", fn := fun _ => fun
  | [d] => { results := [.lit (.bool false)], args := [d] }
  | _ => none }
def FnExactAcctOkWrongFalsely : Prop := fnExactAcctOkRow.holds Try.pinned (OpenSpec.ofChange fnExactAcctOkWrong)

/-- 'laws.FnExactAcctAt': WHATEVER THE INPUT: true; the input reads as it did. -/
def fnExactAcctAtSpec : ChangeSpec := { name := "fnExactAcctAt", fn := fun _ => fun
  | [d1, d2] => { results := [.lit (.bool true)], args := [d1, d2] }
  | _ => none }
def fnExactAcctAtRow : OpenClaim := { program := "ytbkmjhebpemfpaa", sum := "b003381d806fef376d15c48c0c9188ba5add82b310174f42c3de263f5397389a", func := "loop.example/g00194/laws.FnExactAcctAt", spec := "fnExactAcctAt", unfollowed := true, recurses := true, apart := false }
def FnExactAcctAtSaid : Prop := fnExactAcctAtRow.holds Try.pinned (OpenSpec.ofChange fnExactAcctAtSpec)

/-- ITS FALSE NEIGHBOUR: 'it returns false'. Refute it at one input. -/
def fnExactAcctAtWrong : ChangeSpec := { name := "fnExactAcctAt", fn := fun _ => fun
  | [d1, d2] => { results := [.lit (.bool false)], args := [d1, d2] }
  | _ => none }
def FnExactAcctAtWrongFalsely : Prop := fnExactAcctAtRow.holds Try.pinned (OpenSpec.ofChange fnExactAcctAtWrong)

/-- 'laws.FnExactWealth': WHATEVER THE INPUT: true; the input reads as it did. -/
def fnExactWealthSpec : ChangeSpec := { name := "fnExactWealth", fn := fun _ => fun
  | [d] => { results := [.lit (.bool true)], args := [d] }
  | _ => none }
def fnExactWealthRow : OpenClaim := { program := "ytbkmjhebpemfpaa", sum := "b003381d806fef376d15c48c0c9188ba5add82b310174f42c3de263f5397389a", func := "loop.example/g00194/laws.FnExactWealth", spec := "fnExactWealth", apart := false }
def FnExactWealthSaid : Prop := fnExactWealthRow.holds Try.pinned (OpenSpec.ofChange fnExactWealthSpec)

/-- ITS FALSE NEIGHBOUR: 'it returns false'. Refute it at one input. -/
def fnExactWealthWrong : ChangeSpec := { name := "fnExactWealth", fn := fun _ => fun
  | [d] => { results := [.lit (.bool false)], args := [d] }
  | _ => none }
def FnExactWealthWrongFalsely : Prop := fnExactWealthRow.holds Try.pinned (OpenSpec.ofChange fnExactWealthWrong)

/-- 'laws.FnExactAcctsOk': WHATEVER THE INPUT: true; the input reads as it did. -/
def fnExactAcctsOkSpec : ChangeSpec := { name := "fnExactAcctsOk", fn := fun _ => fun
  | [d] => { results := [.lit (.bool true)], args := [d] }
  | _ => none }
def fnExactAcctsOkRow : OpenClaim := { program := "ytbkmjhebpemfpaa", sum := "b003381d806fef376d15c48c0c9188ba5add82b310174f42c3de263f5397389a", func := "loop.example/g00194/laws.FnExactAcctsOk", spec := "fnExactAcctsOk", apart := false }
def FnExactAcctsOkSaid : Prop := fnExactAcctsOkRow.holds Try.pinned (OpenSpec.ofChange fnExactAcctsOkSpec)

/-- ITS FALSE NEIGHBOUR: 'it returns false'. Refute it at one input. -/
def fnExactAcctsOkWrong : ChangeSpec := { name := "fnExactAcctsOk", fn := fun _ => fun
  | [d] => { results := [.lit (.bool false)], args := [d] }
  | _ => none }
def FnExactAcctsOkWrongFalsely : Prop := fnExactAcctsOkRow.holds Try.pinned (OpenSpec.ofChange fnExactAcctsOkWrong)

/-- 'laws.FnExactLedgerOk': WHATEVER THE INPUT: true; the input reads as it did. -/
def fnExactLedgerOkSpec : ChangeSpec := { name := "fnExactLedgerOk", fn := fun _ => fun
  | [d] => { results := [.lit (.bool true)], args := [d] }
  | _ => none }
def fnExactLedgerOkRow : OpenClaim := { program := "ytbkmjhebpemfpaa", sum := "b003381d806fef376d15c48c0c9188ba5add82b310174f42c3de263f5397389a", func := "loop.example/g00194/laws.FnExactLedgerOk", spec := "fnExactLedgerOk", apart := false }
def FnExactLedgerOkSaid : Prop := fnExactLedgerOkRow.holds Try.pinned (OpenSpec.ofChange fnExactLedgerOkSpec)

/-- ITS FALSE NEIGHBOUR: 'it returns false'. Refute it at one input. -/
def fnExactLedgerOkWrong : ChangeSpec := { name := "fnExactLedgerOk", fn := fun _ => fun
  | [d] => { results := [.lit (.bool false)], args := [d] }
  | _ => none }
def FnExactLedgerOkWrongFalsely : Prop := fnExactLedgerOkRow.holds Try.pinned (OpenSpec.ofChange fnExactLedgerOkWrong)

/-- 'laws.FnExactNextEpoch': WHATEVER THE INPUT: true; the input reads as it did. -/
def fnExactNextEpochSpec : ChangeSpec := { name := "fnExactNextEpoch", fn := fun _ => fun
  | [d] => { results := [.lit (.bool true)], args := [d] }
  | _ => none }
def fnExactNextEpochRow : OpenClaim := { program := "ytbkmjhebpemfpaa", sum := "b003381d806fef376d15c48c0c9188ba5add82b310174f42c3de263f5397389a", func := "loop.example/g00194/laws.FnExactNextEpoch", spec := "fnExactNextEpoch", apart := false }
def FnExactNextEpochSaid : Prop := fnExactNextEpochRow.holds Try.pinned (OpenSpec.ofChange fnExactNextEpochSpec)

/-- ITS FALSE NEIGHBOUR: 'it returns false'. Refute it at one input. -/
def fnExactNextEpochWrong : ChangeSpec := { name := "fnExactNextEpoch", fn := fun _ => fun
  | [d] => { results := [.lit (.bool false)], args := [d] }
  | _ => none }
def FnExactNextEpochWrongFalsely : Prop := fnExactNextEpochRow.holds Try.pinned (OpenSpec.ofChange fnExactNextEpochWrong)

/-- 'laws.FnExactCredit': WHATEVER THE INPUT: true; the input reads as it did. -/
def fnExactCreditSpec : ChangeSpec := { name := "fnExactCredit", fn := fun _ => fun
  | [d1, d2, d3] => { results := [.lit (.bool true)], args := [d1, d2, d3] }
  | _ => none }
def fnExactCreditRow : OpenClaim := { program := "ytbkmjhebpemfpaa", sum := "b003381d806fef376d15c48c0c9188ba5add82b310174f42c3de263f5397389a", func := "loop.example/g00194/laws.FnExactCredit", spec := "fnExactCredit", inPlace := ["slices.overlaps[loop.example/g00194/impl.Acct]"], unfollowed := true, recurses := true, apart := false }
def FnExactCreditSaid : Prop := fnExactCreditRow.holds Try.pinned (OpenSpec.ofChange fnExactCreditSpec)

/-- ITS FALSE NEIGHBOUR: 'it returns false'. Refute it at one input. -/
def fnExactCreditWrong : ChangeSpec := { name := "fnExactCredit", fn := fun _ => fun
  | [d1, d2, d3] => { results := [.lit (.bool false)], args := [d1, d2, d3] }
  | _ => none }
def FnExactCreditWrongFalsely : Prop := fnExactCreditRow.holds Try.pinned (OpenSpec.ofChange fnExactCreditWrong)

/-- 'laws.FnExactApplyAll': WHATEVER THE INPUT: true; the input reads as it did. -/
def fnExactApplyAllSpec : ChangeSpec := { name := "fnExactApplyAll", fn := fun _ => fun
  | [d1, d2] => { results := [.lit (.bool true)], args := [d1, d2] }
  | _ => none }
def fnExactApplyAllRow : OpenClaim := { program := "ytbkmjhebpemfpaa", sum := "b003381d806fef376d15c48c0c9188ba5add82b310174f42c3de263f5397389a", func := "loop.example/g00194/laws.FnExactApplyAll", spec := "fnExactApplyAll", inPlace := ["slices.overlaps[loop.example/g00194/impl.Acct]", "slices.overlaps[loop.example/g00194/impl.Leave]"], unfollowed := true, recurses := true, apart := false }
def FnExactApplyAllSaid : Prop := fnExactApplyAllRow.holds Try.pinned (OpenSpec.ofChange fnExactApplyAllSpec)

/-- ITS FALSE NEIGHBOUR: 'it returns false'. Refute it at one input. -/
def fnExactApplyAllWrong : ChangeSpec := { name := "fnExactApplyAll", fn := fun _ => fun
  | [d1, d2] => { results := [.lit (.bool false)], args := [d1, d2] }
  | _ => none }
def FnExactApplyAllWrongFalsely : Prop := fnExactApplyAllRow.holds Try.pinned (OpenSpec.ofChange fnExactApplyAllWrong)

/-- 'laws.FnCredited': WHATEVER THE INPUT: true; the input reads as it did. -/
def fnCreditedSpec : ChangeSpec := { name := "fnCredited", fn := fun _ => fun
  | [d] => { results := [.lit (.bool true)], args := [d] }
  | _ => none }
def fnCreditedRow : OpenClaim := { program := "ytbkmjhebpemfpaa", sum := "b003381d806fef376d15c48c0c9188ba5add82b310174f42c3de263f5397389a", func := "loop.example/g00194/laws.FnCredited", spec := "fnCredited", inPlace := ["slices.overlaps[loop.example/g00194/impl.Acct]"], unfollowed := true, recurses := true, apart := false }
def FnCreditedSaid : Prop := fnCreditedRow.holds Try.pinned (OpenSpec.ofChange fnCreditedSpec)

/-- ITS FALSE NEIGHBOUR: 'it returns false'. Refute it at one input. -/
def fnCreditedWrong : ChangeSpec := { name := "fnCredited", fn := fun _ => fun
  | [d] => { results := [.lit (.bool false)], args := [d] }
  | _ => none }
def FnCreditedWrongFalsely : Prop := fnCreditedRow.holds Try.pinned (OpenSpec.ofChange fnCreditedWrong)

/-- 'laws.FnFreed': WHATEVER THE INPUT: true; the input reads as it did. -/
def fnFreedSpec : ChangeSpec := { name := "fnFreed", fn := fun _ => fun
  | [d] => { results := [.lit (.bool true)], args := [d] }
  | _ => none }
def fnFreedRow : OpenClaim := { program := "ytbkmjhebpemfpaa", sum := "b003381d806fef376d15c48c0c9188ba5add82b310174f42c3de263f5397389a", func := "loop.example/g00194/laws.FnFreed", spec := "fnFreed", apart := false }
def FnFreedSaid : Prop := fnFreedRow.holds Try.pinned (OpenSpec.ofChange fnFreedSpec)

/-- ITS FALSE NEIGHBOUR: 'it returns false'. Refute it at one input. -/
def fnFreedWrong : ChangeSpec := { name := "fnFreed", fn := fun _ => fun
  | [d] => { results := [.lit (.bool false)], args := [d] }
  | _ => none }
def FnFreedWrongFalsely : Prop := fnFreedRow.holds Try.pinned (OpenSpec.ofChange fnFreedWrong)

/-- 'laws.FnApplied': WHATEVER THE INPUT: true; the input reads as it did. -/
def fnAppliedSpec : ChangeSpec := { name := "fnApplied", fn := fun _ => fun
  | [d] => { results := [.lit (.bool true)], args := [d] }
  | _ => none }
def fnAppliedRow : OpenClaim := { program := "ytbkmjhebpemfpaa", sum := "b003381d806fef376d15c48c0c9188ba5add82b310174f42c3de263f5397389a", func := "loop.example/g00194/laws.FnApplied", spec := "fnApplied", inPlace := ["slices.overlaps[loop.example/g00194/impl.Acct]", "slices.overlaps[loop.example/g00194/impl.Leave]"], unfollowed := true, recurses := true, apart := false }
def FnAppliedSaid : Prop := fnAppliedRow.holds Try.pinned (OpenSpec.ofChange fnAppliedSpec)

/-- ITS FALSE NEIGHBOUR: 'it returns false'. Refute it at one input. -/
def fnAppliedWrong : ChangeSpec := { name := "fnApplied", fn := fun _ => fun
  | [d] => { results := [.lit (.bool false)], args := [d] }
  | _ => none }
def FnAppliedWrongFalsely : Prop := fnAppliedRow.holds Try.pinned (OpenSpec.ofChange fnAppliedWrong)

/- THE SECOND FORM. 'bulk': how many values and letters a reading holds, each counted each time it is reached (what is shared counts as often as it is met; a slice's spare places count too). A statement '..UptoSaid' is the law's where the arguments, and the package variables that the reading takes, are together of bulk at most 1048576: NARROWER than '..Said'. Prove '..Said' where nothing that the law and all that it calls make is longer than what came in: it says more and counts as full. Else prove '..UptoSaid'. A law counts once. -/
mutual
def uptoBulk {H : Type} : DataW H → Nat
  | .lit (.string bytes) => bytes.length + 1
  | .lit _ => 1
  | .nil => 1
  | .ptr d => uptoBulk d + 1
  | .slice elems spare => uptoBulkAll elems + uptoBulkAll spare + 1
  | .agg parts => uptoBulkAll parts + 1
  | .iface _ d => uptoBulk d + 1
  | .map entries => uptoBulkEntries entries + 1
  | .held _ => 1
def uptoBulkAll {H : Type} : List (DataW H) → Nat
  | [] => 0
  | d :: r => uptoBulk d + uptoBulkAll r
def uptoBulkEntries {H : Type} : List (Lit × DataW H) → Nat
  | [] => 0
  | x :: r => uptoBulkEntry x + uptoBulkEntries r
def uptoBulkEntry {H : Type} : Lit × DataW H → Nat
  | (.string bytes, d) => bytes.length + uptoBulk d + 1
  | (_, d) => uptoBulk d + 1
 end
def uptoSmall : (H : Type) → List (DataW H) → Bool := fun _ ds => decide (uptoBulkAll ds ≤ 1048576)
def OpenSpec.upto (s : _root_.Go.ChangeSpec) : _root_.Go.OpenSpec := { _root_.Go.OpenSpec.ofChange s with cond := some uptoSmall }

/-- 'laws.FnExactGetTx', WHERE WHAT IT READS IS OF BULK AT MOST 1048576: true; the input reads as it did. -/
def fnExactGetTxUptoRow : OpenClaim := { program := "ytbkmjhebpemfpaa", sum := "b003381d806fef376d15c48c0c9188ba5add82b310174f42c3de263f5397389a", func := "loop.example/g00194/laws.FnExactGetTx", spec := "fnExactGetTx", apart := false, narrowed := true }
def FnExactGetTxUptoSaid : Prop := fnExactGetTxUptoRow.holds Try.pinned (OpenSpec.upto fnExactGetTxSpec)

/-- 'laws.FnExactAcctOk', WHERE WHAT IT READS IS OF BULK AT MOST 1048576: true; the input reads as it did. -/
def fnExactAcctOkUptoRow : OpenClaim := { program := "ytbkmjhebpemfpaa", sum := "b003381d806fef376d15c48c0c9188ba5add82b310174f42c3de263f5397389a", func := "loop.example/g00194/laws.FnExactAcctOk", spec := "fnExactAcctOk", apart := false, narrowed := true }
def FnExactAcctOkUptoSaid : Prop := fnExactAcctOkUptoRow.holds Try.pinned (OpenSpec.upto fnExactAcctOkSpec)

/-- 'laws.FnExactAcctAt', WHERE WHAT IT READS IS OF BULK AT MOST 1048576: true; the input reads as it did. -/
def fnExactAcctAtUptoRow : OpenClaim := { program := "ytbkmjhebpemfpaa", sum := "b003381d806fef376d15c48c0c9188ba5add82b310174f42c3de263f5397389a", func := "loop.example/g00194/laws.FnExactAcctAt", spec := "fnExactAcctAt", unfollowed := true, recurses := true, apart := false, narrowed := true }
def FnExactAcctAtUptoSaid : Prop := fnExactAcctAtUptoRow.holds Try.pinned (OpenSpec.upto fnExactAcctAtSpec)

/-- 'laws.FnExactWealth', WHERE WHAT IT READS IS OF BULK AT MOST 1048576: true; the input reads as it did. -/
def fnExactWealthUptoRow : OpenClaim := { program := "ytbkmjhebpemfpaa", sum := "b003381d806fef376d15c48c0c9188ba5add82b310174f42c3de263f5397389a", func := "loop.example/g00194/laws.FnExactWealth", spec := "fnExactWealth", apart := false, narrowed := true }
def FnExactWealthUptoSaid : Prop := fnExactWealthUptoRow.holds Try.pinned (OpenSpec.upto fnExactWealthSpec)

/-- 'laws.FnExactAcctsOk', WHERE WHAT IT READS IS OF BULK AT MOST 1048576: true; the input reads as it did. -/
def fnExactAcctsOkUptoRow : OpenClaim := { program := "ytbkmjhebpemfpaa", sum := "b003381d806fef376d15c48c0c9188ba5add82b310174f42c3de263f5397389a", func := "loop.example/g00194/laws.FnExactAcctsOk", spec := "fnExactAcctsOk", apart := false, narrowed := true }
def FnExactAcctsOkUptoSaid : Prop := fnExactAcctsOkUptoRow.holds Try.pinned (OpenSpec.upto fnExactAcctsOkSpec)

/-- 'laws.FnExactLedgerOk', WHERE WHAT IT READS IS OF BULK AT MOST 1048576: true; the input reads as it did. -/
def fnExactLedgerOkUptoRow : OpenClaim := { program := "ytbkmjhebpemfpaa", sum := "b003381d806fef376d15c48c0c9188ba5add82b310174f42c3de263f5397389a", func := "loop.example/g00194/laws.FnExactLedgerOk", spec := "fnExactLedgerOk", apart := false, narrowed := true }
def FnExactLedgerOkUptoSaid : Prop := fnExactLedgerOkUptoRow.holds Try.pinned (OpenSpec.upto fnExactLedgerOkSpec)

/-- 'laws.FnExactNextEpoch', WHERE WHAT IT READS IS OF BULK AT MOST 1048576: true; the input reads as it did. -/
def fnExactNextEpochUptoRow : OpenClaim := { program := "ytbkmjhebpemfpaa", sum := "b003381d806fef376d15c48c0c9188ba5add82b310174f42c3de263f5397389a", func := "loop.example/g00194/laws.FnExactNextEpoch", spec := "fnExactNextEpoch", apart := false, narrowed := true }
def FnExactNextEpochUptoSaid : Prop := fnExactNextEpochUptoRow.holds Try.pinned (OpenSpec.upto fnExactNextEpochSpec)

/-- 'laws.FnExactCredit', WHERE WHAT IT READS IS OF BULK AT MOST 1048576: true; the input reads as it did. -/
def fnExactCreditUptoRow : OpenClaim := { program := "ytbkmjhebpemfpaa", sum := "b003381d806fef376d15c48c0c9188ba5add82b310174f42c3de263f5397389a", func := "loop.example/g00194/laws.FnExactCredit", spec := "fnExactCredit", inPlace := ["slices.overlaps[loop.example/g00194/impl.Acct]"], unfollowed := true, recurses := true, apart := false, narrowed := true }
def FnExactCreditUptoSaid : Prop := fnExactCreditUptoRow.holds Try.pinned (OpenSpec.upto fnExactCreditSpec)

/-- 'laws.FnExactApplyAll', WHERE WHAT IT READS IS OF BULK AT MOST 1048576: true; the input reads as it did. -/
def fnExactApplyAllUptoRow : OpenClaim := { program := "ytbkmjhebpemfpaa", sum := "b003381d806fef376d15c48c0c9188ba5add82b310174f42c3de263f5397389a", func := "loop.example/g00194/laws.FnExactApplyAll", spec := "fnExactApplyAll", inPlace := ["slices.overlaps[loop.example/g00194/impl.Acct]", "slices.overlaps[loop.example/g00194/impl.Leave]"], unfollowed := true, recurses := true, apart := false, narrowed := true }
def FnExactApplyAllUptoSaid : Prop := fnExactApplyAllUptoRow.holds Try.pinned (OpenSpec.upto fnExactApplyAllSpec)

/-- 'laws.FnCredited', WHERE WHAT IT READS IS OF BULK AT MOST 1048576: true; the input reads as it did. -/
def fnCreditedUptoRow : OpenClaim := { program := "ytbkmjhebpemfpaa", sum := "b003381d806fef376d15c48c0c9188ba5add82b310174f42c3de263f5397389a", func := "loop.example/g00194/laws.FnCredited", spec := "fnCredited", inPlace := ["slices.overlaps[loop.example/g00194/impl.Acct]"], unfollowed := true, recurses := true, apart := false, narrowed := true }
def FnCreditedUptoSaid : Prop := fnCreditedUptoRow.holds Try.pinned (OpenSpec.upto fnCreditedSpec)

/-- 'laws.FnFreed', WHERE WHAT IT READS IS OF BULK AT MOST 1048576: true; the input reads as it did. -/
def fnFreedUptoRow : OpenClaim := { program := "ytbkmjhebpemfpaa", sum := "b003381d806fef376d15c48c0c9188ba5add82b310174f42c3de263f5397389a", func := "loop.example/g00194/laws.FnFreed", spec := "fnFreed", apart := false, narrowed := true }
def FnFreedUptoSaid : Prop := fnFreedUptoRow.holds Try.pinned (OpenSpec.upto fnFreedSpec)

/-- 'laws.FnApplied', WHERE WHAT IT READS IS OF BULK AT MOST 1048576: true; the input reads as it did. -/
def fnAppliedUptoRow : OpenClaim := { program := "ytbkmjhebpemfpaa", sum := "b003381d806fef376d15c48c0c9188ba5add82b310174f42c3de263f5397389a", func := "loop.example/g00194/laws.FnApplied", spec := "fnApplied", inPlace := ["slices.overlaps[loop.example/g00194/impl.Acct]", "slices.overlaps[loop.example/g00194/impl.Leave]"], unfollowed := true, recurses := true, apart := false, narrowed := true }
def FnAppliedUptoSaid : Prop := fnAppliedUptoRow.holds Try.pinned (OpenSpec.upto fnAppliedSpec)

end Rows
end Go.Proofs.Ytbkmjhebpemfpaa
