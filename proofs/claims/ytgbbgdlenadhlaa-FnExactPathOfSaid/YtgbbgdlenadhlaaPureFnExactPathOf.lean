/- The plain law of FnExactPathOf: what it computes is always true. -/
import Derived.Test.YtgbbgdlenadhlaaPHx0
import Derived.Test.YtgbbgdlenadhlaaPHx8
import Derived.Test.YtgbbgdlenadhlaaLibTFnExactPathOf
import Derived.Test.YtgbbgdlenadhlaaLibMFnExactPathOf
import Derived.Test.YtgbbgdlenadhlaaTelH
namespace Go.Proofs.Ytgbbgdlenadhlaa.Pure
open Go.RowKit Go.Proofs.YtgbbgdlenadhlaaW.PrintWords Go.Proofs.YtgbbgdlenadhlaaW.PrintLast Go.Proofs.YtgbbgdlenadhlaaW.PrintMore Go.Proofs.Ytgbbgdlenadhlaa.Base Go.Proofs.Ytgbbgdlenadhlaa.PH
set_option linter.unusedVariables false
theorem FnExactPathOf : ∀ (l0 : List ByteArray) (a1 : Int), (l0.length ≤ maxLen ∧ ∀ x ∈ l0, x.size ≤ maxLen) → ((Lit.int .i64 a1).wf = true) → ∃ k, laws_FnExactPathOf.f k l0 a1 = some true := by
  intro l0 a1 ⟨hl, hs⟩ h1
  have hl' : l0.length ≤ 9223372036854775807 := hl
  have hs' : ∀ x ∈ l0, x.size ≤ 9223372036854775807 := hs
  refine Ev.rounds (g := fun k => laws_FnExactPathOf.f k l0 a1) ?_
  simp only [laws_FnExactPathOf.f]
  obtain ⟨r, hr, hp⟩ := szStringS_ev l0 hl' hs' 1048576 (by omega) (by omega)
  refine Ev.bind hr ?_
  by_cases hneg : r < 0
  · exact evPos hneg (Ev.now _)
  · have hn := total_nonneg l0
    have hsm : l0.length ≤ 1048576 := by omega
    have hz : ∀ s ∈ l0, s.size ≤ 140000000 := fun s h => by
      have := total_mem h
      omega
    have ht := toStringS_ev l0 (by omega)
    have hsp := sPathOf_ev l0 a1 (by omega) hz
    have hip := iPathOf_ev l0 a1 (by omega) hz
    have hxl := Sha.pathOfL_len l0 a1
    generalize Sha.pathOfL l0 a1 = x at hsp hip hxl
    have hx := eqStringS_ev x x (by omega)
    have he := eqStringS_ev l0 l0 (by omega)
    have hm := markStringS_ev l0 1 (by omega) (by omega)
    have hmS := markStringS_ev x 1 (by omega) (by omega)
    have hh := heldStringS_ev x 1 (by omega) (by omega)
    have j0 : Ev (fun k => laws_FnExactPathOf.j0 k l0 a1 x x false) true := by
      refine Ev.step (f := fun k => (laws_markStringS.f k x 1).bind fun bt364 => ((laws_heldStringS.f k bt364.2 1).bind fun t366 => (if t366 < 0 then (some false) else (if t366 = bt364.1 then ((laws_toStringS.f k l0).bind fun t367 => ((impl_PathOf.f k t367 a1).bind fun t370 => ((laws_eqStringS.f k t370 x).bind fun t373 => (if t373 = true then ((laws_heldStringS.f k bt364.2 1).bind fun t374 => (if t374 < 0 then (some false) else (if t374 = bt364.1 then (some true) else (some false)))) else (some false))))) else (some false))))) (fun k => ?_) (Ev.bind hmS (Ev.bind hh (evNeg (by omega) (evPos rfl (Ev.bind ht (Ev.bind hip (Ev.bind hx (evPos (by simp) (Ev.bind hh (evNeg (by omega) (evPos rfl (Ev.now _))))))))))))
      simp only [laws_FnExactPathOf.j0]
      exact if_neg (by simp)
    refine evNeg hneg (Ev.bind ht (Ev.bind hsp (Ev.bind ht (Ev.bind hip (Ev.bind hx (evPos (by simp) (Ev.bind ht (Ev.bind he (evPos (by simp) (Ev.bind hm (evNeg (by dsimp only; omega) (Ev.bind hx ?_))))))))))))
    simpa using j0
end Go.Proofs.Ytgbbgdlenadhlaa.Pure
