/- The plain law of FnPadded: what it computes is always true. -/
import Derived.Test.YtgbbgdlenadhlaaPDx0
import Derived.Test.YtgbbgdlenadhlaaPDx6
import Derived.Test.YtgbbgdlenadhlaaLibHFnPadded
import Derived.Test.YtgbbgdlenadhlaaLibLFnPadded
import Derived.Test.YtgbbgdlenadhlaaTelD
namespace Go.Proofs.Ytgbbgdlenadhlaa.Pure
open Go.RowKit Go.Proofs.YtgbbgdlenadhlaaW.PrintWords Go.Proofs.YtgbbgdlenadhlaaW.PrintLast Go.Proofs.YtgbbgdlenadhlaaW.PrintMore Go.Proofs.Ytgbbgdlenadhlaa.Base Go.Proofs.Ytgbbgdlenadhlaa.PD
set_option linter.unusedVariables false
set_option linter.unusedSimpArgs false
theorem pad_loop (x : List Int) (hx : x.length ≤ 200) (hB : AllB x) : ∀ (d i : Nat), i + d = x.length → Ev (fun k => laws_FnPadded.l0 k x (Sha.padL x) (i : Int)) true := by
  intro d
  induction d with
  | zero =>
    intro i hi
    have h1 := iDigest_ev x (by omega)
    have h2 := sDigest_ev x (by omega) hB
    refine Ev.step (f := fun k => (impl_Digest.f k x).bind fun t280 => (if (t280.size : Int) = 32 then ((spec_Digest.f k x).bind fun t281 => (some (t280.toList == t281.toList))) else (some false))) (fun k => ?_) (Ev.bind h1 (evPos (by rw [Sha.dig_size]; rfl) (Ev.bind h2 (evEq (Ev.now _) (by simp)))))
    simp only [laws_FnPadded.l0]
    rw [if_neg (by omega)]
  | succ d ih =>
    intro i hi
    have hl := Sha.padL_len x
    refine Ev.step (f := fun k => laws_FnPadded.l0 k x (Sha.padL x) ((i + 1 : Nat) : Int)) (fun k => ?_) (ih (i + 1) (by omega))
    simp only [laws_FnPadded.l0]
    rw [if_pos (by omega), if_pos (by omega), if_pos (by omega), if_pos (Sha.padL_get x i (by omega)), w64 (by omega) (by omega)]
    rfl
theorem FnPadded : ∀ (l0 : (List Int)), (l0.length ≤ maxLen ∧ ∀ x ∈ l0, (Lit.int .u8 x).wf = true) → ∃ k, laws_FnPadded.f k l0 = some true := by
  intro l0 hw
  refine Ev.rounds (g := fun k => laws_FnPadded.f k l0) ?_
  simp only [laws_FnPadded.f]
  refine evBindC (show laws_big.f l0 = some (decide ((l0.length : Int) > 1048576)) from rfl) ?_
  by_cases hbig : (l0.length : Int) > 1048576
  · exact evPos (by simpa using hbig) (Ev.now _)
  · obtain ⟨x, hd, hxl, hxB⟩ := DrawPadded_ev l0 (AllB.of_wf hw.2) (by omega)
    have hp := iPadded_ev x (by omega)
    have hl := Sha.padL_len x
    refine evNeg (by simpa using hbig) (Ev.bind hd (Ev.bind hp (evPos (by omega) (evNeg (by rw [w64 (by omega) (by omega)]; omega) (evNeg (by rw [w64 (by omega) (by omega)]; omega) (evPos (by omega) (evPos (by omega) ?_)))))))
    have hm := Sha.padL_mark x
    refine Ev.step (f := fun k => laws_FnPadded.l0 k x (Sha.padL x) 0) (fun k => ?_) (pad_loop x hxl hxB x.length 0 (by omega))
    rw [hm]
    simp only [laws_FnPadded.j0]
    exact if_neg (by decide)
end Go.Proofs.Ytgbbgdlenadhlaa.Pure
