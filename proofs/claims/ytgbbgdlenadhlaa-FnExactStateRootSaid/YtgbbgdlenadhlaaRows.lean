/-
  No cell of these rows narrows 'for every input' (looked for: loops, veiled, ifaces, maps, wideKeys, modest, calm, conditions, laid).
  DERIVED. THE GIVEN ROWS OF THIS SEAT. 11 by the template 'for every input the law returns true; each argument reads behind the call as it read before'; 0 by the template 'total and deterministic' (their statements: YtgbbgdlenadhlaaTotals.lean).
  GIVEN WITH THE SEED: the statements are not yours to turn. If you find one false, say at which input.
  Laid BY PROGRAM, IN A SANDBOX (cutbox-rows.mjs): the forced cells as the released guide's own fill.sh prints them over the translation cdfa6002b9ea4c6a… (all of the seat's roots in one cut). By AI agents, Wed Nov 11 2026. No macro, syntax, notation, axiom, sorry.
-/
import Derived.Test.YtgbbgdlenadhlaaChecked
import GoSem.Claim
import GoSem.ClaimJoined
import GoSem.ClaimMapViews
import Derived.JoinedTies
import Derived.KernelRfl
namespace Go.Proofs.Ytgbbgdlenadhlaa
/- THE CELL 'sum', in the pinned program and in every row, IS THE sha256 OF THE DUMP (.gsa) THAT YtgbbgdlenadhlaaProg.lean LOADS. Nothing in Lean hashes anything: it is a label: what it is worth is what the hold of that sum in a sandbox is worth. -/
noncomputable def Try.pinned : Pinned := { name := "ytgbbgdlenadhlaa", sum := "cdfa6002b9ea4c6aecb7311c0fa20aae417def64fe01e0e558fd3052147885d6", checked := Try.checked }
namespace Rows
def none {H : Type} : Left H := { results := [], args := [] }

/-- 'laws.FnRoots': WHATEVER THE INPUT: true; the input reads as it did. -/
def fnRootsSpec : ChangeSpec := { name := "fnRoots", fn := fun _ => fun
  | [d] => { results := [.lit (.bool true)], args := [d] }
  | _ => none }
def fnRootsRow : OpenClaim := { program := "ytgbbgdlenadhlaa", sum := "cdfa6002b9ea4c6aecb7311c0fa20aae417def64fe01e0e558fd3052147885d6", func := "loop.example/g00194/laws.FnRoots", spec := "fnRoots", unfollowed := true, recurses := true, apart := false }
def FnRootsSaid : Prop := fnRootsRow.holds Try.pinned (OpenSpec.ofChange fnRootsSpec)

/-- ITS FALSE NEIGHBOUR: 'it returns false'. Refute it at one input. -/
def fnRootsWrong : ChangeSpec := { name := "fnRoots", fn := fun _ => fun
  | [d] => { results := [.lit (.bool false)], args := [d] }
  | _ => none }
def FnRootsWrongFalsely : Prop := fnRootsRow.holds Try.pinned (OpenSpec.ofChange fnRootsWrong)

/-- 'laws.FnExactLeafDigest': WHATEVER THE INPUT: true; the input reads as it did. -/
def fnExactLeafDigestSpec : ChangeSpec := { name := "fnExactLeafDigest", fn := fun _ => fun
  | [d] => { results := [.lit (.bool true)], args := [d] }
  | _ => none }
def fnExactLeafDigestRow : OpenClaim := { program := "ytgbbgdlenadhlaa", sum := "cdfa6002b9ea4c6aecb7311c0fa20aae417def64fe01e0e558fd3052147885d6", func := "loop.example/g00194/laws.FnExactLeafDigest", spec := "fnExactLeafDigest", unfollowed := true, recurses := true, apart := false }
def FnExactLeafDigestSaid : Prop := fnExactLeafDigestRow.holds Try.pinned (OpenSpec.ofChange fnExactLeafDigestSpec)

/-- ITS FALSE NEIGHBOUR: 'it returns false'. Refute it at one input. -/
def fnExactLeafDigestWrong : ChangeSpec := { name := "fnExactLeafDigest", fn := fun _ => fun
  | [d] => { results := [.lit (.bool false)], args := [d] }
  | _ => none }
def FnExactLeafDigestWrongFalsely : Prop := fnExactLeafDigestRow.holds Try.pinned (OpenSpec.ofChange fnExactLeafDigestWrong)

/-- 'laws.FnExactNodeDigest': WHATEVER THE INPUT: true; the input reads as it did. -/
def fnExactNodeDigestSpec : ChangeSpec := { name := "fnExactNodeDigest", fn := fun _ => fun
  | [d1, d2] => { results := [.lit (.bool true)], args := [d1, d2] }
  | _ => none }
def fnExactNodeDigestRow : OpenClaim := { program := "ytgbbgdlenadhlaa", sum := "cdfa6002b9ea4c6aecb7311c0fa20aae417def64fe01e0e558fd3052147885d6", func := "loop.example/g00194/laws.FnExactNodeDigest", spec := "fnExactNodeDigest", unfollowed := true, recurses := true, apart := false }
def FnExactNodeDigestSaid : Prop := fnExactNodeDigestRow.holds Try.pinned (OpenSpec.ofChange fnExactNodeDigestSpec)

/-- ITS FALSE NEIGHBOUR: 'it returns false'. Refute it at one input. -/
def fnExactNodeDigestWrong : ChangeSpec := { name := "fnExactNodeDigest", fn := fun _ => fun
  | [d1, d2] => { results := [.lit (.bool false)], args := [d1, d2] }
  | _ => none }
def FnExactNodeDigestWrongFalsely : Prop := fnExactNodeDigestRow.holds Try.pinned (OpenSpec.ofChange fnExactNodeDigestWrong)

/-- 'laws.FnExactDigest': WHATEVER THE INPUT: true; the input reads as it did. -/
def fnExactDigestSpec : ChangeSpec := { name := "fnExactDigest", fn := fun _ => fun
  | [d] => { results := [.lit (.bool true)], args := [d] }
  | _ => none }
def fnExactDigestRow : OpenClaim := { program := "ytgbbgdlenadhlaa", sum := "cdfa6002b9ea4c6aecb7311c0fa20aae417def64fe01e0e558fd3052147885d6", func := "loop.example/g00194/laws.FnExactDigest", spec := "fnExactDigest", unfollowed := true, recurses := true, apart := false }
def FnExactDigestSaid : Prop := fnExactDigestRow.holds Try.pinned (OpenSpec.ofChange fnExactDigestSpec)

/-- ITS FALSE NEIGHBOUR: 'it returns false'. Refute it at one input. -/
def fnExactDigestWrong : ChangeSpec := { name := "fnExactDigest", fn := fun _ => fun
  | [d] => { results := [.lit (.bool false)], args := [d] }
  | _ => none }
def FnExactDigestWrongFalsely : Prop := fnExactDigestRow.holds Try.pinned (OpenSpec.ofChange fnExactDigestWrong)

/-- 'laws.FnPadded': WHATEVER THE INPUT: true; the input reads as it did. -/
def fnPaddedSpec : ChangeSpec := { name := "fnPadded", fn := fun _ => fun
  | [d] => { results := [.lit (.bool true)], args := [d] }
  | _ => none }
def fnPaddedRow : OpenClaim := { program := "ytgbbgdlenadhlaa", sum := "cdfa6002b9ea4c6aecb7311c0fa20aae417def64fe01e0e558fd3052147885d6", func := "loop.example/g00194/laws.FnPadded", spec := "fnPadded", unfollowed := true, recurses := true, apart := false }
def FnPaddedSaid : Prop := fnPaddedRow.holds Try.pinned (OpenSpec.ofChange fnPaddedSpec)

/-- ITS FALSE NEIGHBOUR: 'it returns false'. Refute it at one input. -/
def fnPaddedWrong : ChangeSpec := { name := "fnPadded", fn := fun _ => fun
  | [d] => { results := [.lit (.bool false)], args := [d] }
  | _ => none }
def FnPaddedWrongFalsely : Prop := fnPaddedRow.holds Try.pinned (OpenSpec.ofChange fnPaddedWrong)

/-- 'laws.FnPaths': WHATEVER THE INPUT: true; the input reads as it did. -/
def fnPathsSpec : ChangeSpec := { name := "fnPaths", fn := fun _ => fun
  | [d] => { results := [.lit (.bool true)], args := [d] }
  | _ => none }
def fnPathsRow : OpenClaim := { program := "ytgbbgdlenadhlaa", sum := "cdfa6002b9ea4c6aecb7311c0fa20aae417def64fe01e0e558fd3052147885d6", func := "loop.example/g00194/laws.FnPaths", spec := "fnPaths", unfollowed := true, recurses := true, apart := false }
def FnPathsSaid : Prop := fnPathsRow.holds Try.pinned (OpenSpec.ofChange fnPathsSpec)

/-- ITS FALSE NEIGHBOUR: 'it returns false'. Refute it at one input. -/
def fnPathsWrong : ChangeSpec := { name := "fnPaths", fn := fun _ => fun
  | [d] => { results := [.lit (.bool false)], args := [d] }
  | _ => none }
def FnPathsWrongFalsely : Prop := fnPathsRow.holds Try.pinned (OpenSpec.ofChange fnPathsWrong)

/-- 'laws.FnExactRootOf': WHATEVER THE INPUT: true; the input reads as it did. -/
def fnExactRootOfSpec : ChangeSpec := { name := "fnExactRootOf", fn := fun _ => fun
  | [d] => { results := [.lit (.bool true)], args := [d] }
  | _ => none }
def fnExactRootOfRow : OpenClaim := { program := "ytgbbgdlenadhlaa", sum := "cdfa6002b9ea4c6aecb7311c0fa20aae417def64fe01e0e558fd3052147885d6", func := "loop.example/g00194/laws.FnExactRootOf", spec := "fnExactRootOf", unfollowed := true, recurses := true, apart := false }
def FnExactRootOfSaid : Prop := fnExactRootOfRow.holds Try.pinned (OpenSpec.ofChange fnExactRootOfSpec)

/-- ITS FALSE NEIGHBOUR: 'it returns false'. Refute it at one input. -/
def fnExactRootOfWrong : ChangeSpec := { name := "fnExactRootOf", fn := fun _ => fun
  | [d] => { results := [.lit (.bool false)], args := [d] }
  | _ => none }
def FnExactRootOfWrongFalsely : Prop := fnExactRootOfRow.holds Try.pinned (OpenSpec.ofChange fnExactRootOfWrong)

/-- 'laws.FnExactCheckPath': WHATEVER THE INPUT: true; the input reads as it did. -/
def fnExactCheckPathSpec : ChangeSpec := { name := "fnExactCheckPath", fn := fun _ => fun
  | [d1, d2, d3, d4, d5] => { results := [.lit (.bool true)], args := [d1, d2, d3, d4, d5] }
  | _ => none }
def fnExactCheckPathRow : OpenClaim := { program := "ytgbbgdlenadhlaa", sum := "cdfa6002b9ea4c6aecb7311c0fa20aae417def64fe01e0e558fd3052147885d6", func := "loop.example/g00194/laws.FnExactCheckPath", spec := "fnExactCheckPath", unfollowed := true, recurses := true, apart := false }
def FnExactCheckPathSaid : Prop := fnExactCheckPathRow.holds Try.pinned (OpenSpec.ofChange fnExactCheckPathSpec)

/-- ITS FALSE NEIGHBOUR: 'it returns false'. Refute it at one input. -/
def fnExactCheckPathWrong : ChangeSpec := { name := "fnExactCheckPath", fn := fun _ => fun
  | [d1, d2, d3, d4, d5] => { results := [.lit (.bool false)], args := [d1, d2, d3, d4, d5] }
  | _ => none }
def FnExactCheckPathWrongFalsely : Prop := fnExactCheckPathRow.holds Try.pinned (OpenSpec.ofChange fnExactCheckPathWrong)

/-- 'laws.FnExactPathOf': WHATEVER THE INPUT: true; the input reads as it did. -/
def fnExactPathOfSpec : ChangeSpec := { name := "fnExactPathOf", fn := fun _ => fun
  | [d1, d2] => { results := [.lit (.bool true)], args := [d1, d2] }
  | _ => none }
def fnExactPathOfRow : OpenClaim := { program := "ytgbbgdlenadhlaa", sum := "cdfa6002b9ea4c6aecb7311c0fa20aae417def64fe01e0e558fd3052147885d6", func := "loop.example/g00194/laws.FnExactPathOf", spec := "fnExactPathOf", unfollowed := true, recurses := true, apart := false }
def FnExactPathOfSaid : Prop := fnExactPathOfRow.holds Try.pinned (OpenSpec.ofChange fnExactPathOfSpec)

/-- ITS FALSE NEIGHBOUR: 'it returns false'. Refute it at one input. -/
def fnExactPathOfWrong : ChangeSpec := { name := "fnExactPathOf", fn := fun _ => fun
  | [d1, d2] => { results := [.lit (.bool false)], args := [d1, d2] }
  | _ => none }
def FnExactPathOfWrongFalsely : Prop := fnExactPathOfRow.holds Try.pinned (OpenSpec.ofChange fnExactPathOfWrong)

/-- 'laws.FnStateRoots': WHATEVER THE INPUT: true; the input reads as it did. -/
def fnStateRootsSpec : ChangeSpec := { name := "fnStateRoots", fn := fun _ => fun
  | [d] => { results := [.lit (.bool true)], args := [d] }
  | _ => none }
def fnStateRootsRow : OpenClaim := { program := "ytgbbgdlenadhlaa", sum := "cdfa6002b9ea4c6aecb7311c0fa20aae417def64fe01e0e558fd3052147885d6", func := "loop.example/g00194/laws.FnStateRoots", spec := "fnStateRoots", unfollowed := true, recurses := true, apart := false }
def FnStateRootsSaid : Prop := fnStateRootsRow.holds Try.pinned (OpenSpec.ofChange fnStateRootsSpec)

/-- ITS FALSE NEIGHBOUR: 'it returns false'. Refute it at one input. -/
def fnStateRootsWrong : ChangeSpec := { name := "fnStateRoots", fn := fun _ => fun
  | [d] => { results := [.lit (.bool false)], args := [d] }
  | _ => none }
def FnStateRootsWrongFalsely : Prop := fnStateRootsRow.holds Try.pinned (OpenSpec.ofChange fnStateRootsWrong)

/-- 'laws.FnExactStateRoot': WHATEVER THE INPUT: true; the input reads as it did. -/
def fnExactStateRootSpec : ChangeSpec := { name := "fnExactStateRoot", fn := fun _ => fun
  | [d] => { results := [.lit (.bool true)], args := [d] }
  | _ => none }
def fnExactStateRootRow : OpenClaim := { program := "ytgbbgdlenadhlaa", sum := "cdfa6002b9ea4c6aecb7311c0fa20aae417def64fe01e0e558fd3052147885d6", func := "loop.example/g00194/laws.FnExactStateRoot", spec := "fnExactStateRoot", unfollowed := true, recurses := true, apart := false }
def FnExactStateRootSaid : Prop := fnExactStateRootRow.holds Try.pinned (OpenSpec.ofChange fnExactStateRootSpec)

/-- ITS FALSE NEIGHBOUR: 'it returns false'. Refute it at one input. -/
def fnExactStateRootWrong : ChangeSpec := { name := "fnExactStateRoot", fn := fun _ => fun
  | [d] => { results := [.lit (.bool false)], args := [d] }
  | _ => none }
def FnExactStateRootWrongFalsely : Prop := fnExactStateRootRow.holds Try.pinned (OpenSpec.ofChange fnExactStateRootWrong)

/- THE SECOND FORM. 'bulk': how many values and letters a reading holds, each counted each time it is reached (what is shared counts as often as it is met; a slice's spare places count too). A statement '..UptoSaid' is the law's where the arguments, and the package variables that the reading takes, are together of bulk at most 1048576: NARROWER than '..Said'. Prove '..Said' where nothing that the law and all that it calls make is longer than what came in: it says more and counts as full. Else prove '..UptoSaid'. A law counts once. -/
mutual
def uptoBulk {H : Type} : DataW H → Nat
  | .lit (.string bytes) => bytes.length + 1
  | .lit _ => 1
  | .nil => 1
  | .ptr d => uptoBulk d + 1
  | .slice elems spare => uptoBulkAll elems + uptoBulkAll spare + 1
  | .agg parts => uptoBulkAll parts + 1
  | .iface _ d => uptoBulk d + 1
  | .map entries => uptoBulkEntries entries + 1
  | .held _ => 1
def uptoBulkAll {H : Type} : List (DataW H) → Nat
  | [] => 0
  | d :: r => uptoBulk d + uptoBulkAll r
def uptoBulkEntries {H : Type} : List (Lit × DataW H) → Nat
  | [] => 0
  | x :: r => uptoBulkEntry x + uptoBulkEntries r
def uptoBulkEntry {H : Type} : Lit × DataW H → Nat
  | (.string bytes, d) => bytes.length + uptoBulk d + 1
  | (_, d) => uptoBulk d + 1
 end
def uptoSmall : (H : Type) → List (DataW H) → Bool := fun _ ds => decide (uptoBulkAll ds ≤ 1048576)
def OpenSpec.upto (s : _root_.Go.ChangeSpec) : _root_.Go.OpenSpec := { _root_.Go.OpenSpec.ofChange s with cond := some uptoSmall }

/-- 'laws.FnRoots', WHERE WHAT IT READS IS OF BULK AT MOST 1048576: true; the input reads as it did. -/
def fnRootsUptoRow : OpenClaim := { program := "ytgbbgdlenadhlaa", sum := "cdfa6002b9ea4c6aecb7311c0fa20aae417def64fe01e0e558fd3052147885d6", func := "loop.example/g00194/laws.FnRoots", spec := "fnRoots", unfollowed := true, recurses := true, apart := false, narrowed := true }
def FnRootsUptoSaid : Prop := fnRootsUptoRow.holds Try.pinned (OpenSpec.upto fnRootsSpec)

/-- 'laws.FnExactLeafDigest', WHERE WHAT IT READS IS OF BULK AT MOST 1048576: true; the input reads as it did. -/
def fnExactLeafDigestUptoRow : OpenClaim := { program := "ytgbbgdlenadhlaa", sum := "cdfa6002b9ea4c6aecb7311c0fa20aae417def64fe01e0e558fd3052147885d6", func := "loop.example/g00194/laws.FnExactLeafDigest", spec := "fnExactLeafDigest", unfollowed := true, recurses := true, apart := false, narrowed := true }
def FnExactLeafDigestUptoSaid : Prop := fnExactLeafDigestUptoRow.holds Try.pinned (OpenSpec.upto fnExactLeafDigestSpec)

/-- 'laws.FnExactNodeDigest', WHERE WHAT IT READS IS OF BULK AT MOST 1048576: true; the input reads as it did. -/
def fnExactNodeDigestUptoRow : OpenClaim := { program := "ytgbbgdlenadhlaa", sum := "cdfa6002b9ea4c6aecb7311c0fa20aae417def64fe01e0e558fd3052147885d6", func := "loop.example/g00194/laws.FnExactNodeDigest", spec := "fnExactNodeDigest", unfollowed := true, recurses := true, apart := false, narrowed := true }
def FnExactNodeDigestUptoSaid : Prop := fnExactNodeDigestUptoRow.holds Try.pinned (OpenSpec.upto fnExactNodeDigestSpec)

/-- 'laws.FnExactDigest', WHERE WHAT IT READS IS OF BULK AT MOST 1048576: true; the input reads as it did. -/
def fnExactDigestUptoRow : OpenClaim := { program := "ytgbbgdlenadhlaa", sum := "cdfa6002b9ea4c6aecb7311c0fa20aae417def64fe01e0e558fd3052147885d6", func := "loop.example/g00194/laws.FnExactDigest", spec := "fnExactDigest", unfollowed := true, recurses := true, apart := false, narrowed := true }
def FnExactDigestUptoSaid : Prop := fnExactDigestUptoRow.holds Try.pinned (OpenSpec.upto fnExactDigestSpec)

/-- 'laws.FnPadded', WHERE WHAT IT READS IS OF BULK AT MOST 1048576: true; the input reads as it did. -/
def fnPaddedUptoRow : OpenClaim := { program := "ytgbbgdlenadhlaa", sum := "cdfa6002b9ea4c6aecb7311c0fa20aae417def64fe01e0e558fd3052147885d6", func := "loop.example/g00194/laws.FnPadded", spec := "fnPadded", unfollowed := true, recurses := true, apart := false, narrowed := true }
def FnPaddedUptoSaid : Prop := fnPaddedUptoRow.holds Try.pinned (OpenSpec.upto fnPaddedSpec)

/-- 'laws.FnPaths', WHERE WHAT IT READS IS OF BULK AT MOST 1048576: true; the input reads as it did. -/
def fnPathsUptoRow : OpenClaim := { program := "ytgbbgdlenadhlaa", sum := "cdfa6002b9ea4c6aecb7311c0fa20aae417def64fe01e0e558fd3052147885d6", func := "loop.example/g00194/laws.FnPaths", spec := "fnPaths", unfollowed := true, recurses := true, apart := false, narrowed := true }
def FnPathsUptoSaid : Prop := fnPathsUptoRow.holds Try.pinned (OpenSpec.upto fnPathsSpec)

/-- 'laws.FnExactRootOf', WHERE WHAT IT READS IS OF BULK AT MOST 1048576: true; the input reads as it did. -/
def fnExactRootOfUptoRow : OpenClaim := { program := "ytgbbgdlenadhlaa", sum := "cdfa6002b9ea4c6aecb7311c0fa20aae417def64fe01e0e558fd3052147885d6", func := "loop.example/g00194/laws.FnExactRootOf", spec := "fnExactRootOf", unfollowed := true, recurses := true, apart := false, narrowed := true }
def FnExactRootOfUptoSaid : Prop := fnExactRootOfUptoRow.holds Try.pinned (OpenSpec.upto fnExactRootOfSpec)

/-- 'laws.FnExactCheckPath', WHERE WHAT IT READS IS OF BULK AT MOST 1048576: true; the input reads as it did. -/
def fnExactCheckPathUptoRow : OpenClaim := { program := "ytgbbgdlenadhlaa", sum := "cdfa6002b9ea4c6aecb7311c0fa20aae417def64fe01e0e558fd3052147885d6", func := "loop.example/g00194/laws.FnExactCheckPath", spec := "fnExactCheckPath", unfollowed := true, recurses := true, apart := false, narrowed := true }
def FnExactCheckPathUptoSaid : Prop := fnExactCheckPathUptoRow.holds Try.pinned (OpenSpec.upto fnExactCheckPathSpec)

/-- 'laws.FnExactPathOf', WHERE WHAT IT READS IS OF BULK AT MOST 1048576: true; the input reads as it did. -/
def fnExactPathOfUptoRow : OpenClaim := { program := "ytgbbgdlenadhlaa", sum := "cdfa6002b9ea4c6aecb7311c0fa20aae417def64fe01e0e558fd3052147885d6", func := "loop.example/g00194/laws.FnExactPathOf", spec := "fnExactPathOf", unfollowed := true, recurses := true, apart := false, narrowed := true }
def FnExactPathOfUptoSaid : Prop := fnExactPathOfUptoRow.holds Try.pinned (OpenSpec.upto fnExactPathOfSpec)

/-- 'laws.FnStateRoots', WHERE WHAT IT READS IS OF BULK AT MOST 1048576: true; the input reads as it did. -/
def fnStateRootsUptoRow : OpenClaim := { program := "ytgbbgdlenadhlaa", sum := "cdfa6002b9ea4c6aecb7311c0fa20aae417def64fe01e0e558fd3052147885d6", func := "loop.example/g00194/laws.FnStateRoots", spec := "fnStateRoots", unfollowed := true, recurses := true, apart := false, narrowed := true }
def FnStateRootsUptoSaid : Prop := fnStateRootsUptoRow.holds Try.pinned (OpenSpec.upto fnStateRootsSpec)

/-- 'laws.FnExactStateRoot', WHERE WHAT IT READS IS OF BULK AT MOST 1048576: true; the input reads as it did. -/
def fnExactStateRootUptoRow : OpenClaim := { program := "ytgbbgdlenadhlaa", sum := "cdfa6002b9ea4c6aecb7311c0fa20aae417def64fe01e0e558fd3052147885d6", func := "loop.example/g00194/laws.FnExactStateRoot", spec := "fnExactStateRoot", unfollowed := true, recurses := true, apart := false, narrowed := true }
def FnExactStateRootUptoSaid : Prop := fnExactStateRootUptoRow.holds Try.pinned (OpenSpec.upto fnExactStateRootSpec)

end Rows
end Go.Proofs.Ytgbbgdlenadhlaa
