/- The plain law of FnApplied: what it computes is always true. -/
import Derived.Test.YtcbpfofkdipjhaaAQPMx0
import Derived.Test.YtcbpfofkdipjhaaAQPMx16
import Derived.Test.YtcbpfofkdipjhaaAQLibVFnApplied
import Derived.Test.YtcbpfofkdipjhaaAQLibWFnApplied
import Derived.Test.YtcbpfofkdipjhaaAQTelM
namespace Go.Proofs.Ytcbpfofkdipjhaa.Pure
open Go.RowKit Go.Proofs.YtcbpfofkdipjhaaW.PrintWords Go.Proofs.YtcbpfofkdipjhaaW.PrintLast Go.Proofs.YtcbpfofkdipjhaaW.PrintMore Go.Proofs.Ytcbpfofkdipjhaa.Base Go.Proofs.Ytcbpfofkdipjhaa.PM
set_option linter.unusedVariables false
set_option linter.unusedSimpArgs false
theorem FnApplied : ∀ (l0 : List Int), (l0.length ≤ maxLen ∧ ∀ x ∈ l0, (Lit.int .u8 x).wf = true) → ∃ k, laws_FnApplied.f k l0 = some true := by
  intro l0 hw;refine Ev.rounds (g := fun k => laws_FnApplied.f k l0) ?_;simp only [laws_FnApplied.f];refine evBindC (show laws_big.f l0 = some (decide ((l0.length : Int) > 1048576)) from rfl) ?_
  by_cases hbig : (l0.length : Int) > 1048576
  · exact evPos (by simpa using hbig) (Ev.now _)
  · obtain ⟨ep, l, kd, fr, tt, am, no, hd, hl, hz, hf, ht⟩ := DrawApply_ev l0 (AllB.of_wf hw.2) (by omega)
    have hb : ∀ s ∈ l, BdE s := fun s hs => by have := hz s hs; unfold BdE; omega
    have hi := iApply_ev ep l kd fr tt am no (by omega) hb (by omega) (by omega);have hs := sApply_ev ep l kd fr tt am no (by omega) hb (by omega) (by omega);obtain ⟨hxl, hxb⟩ := applyL_bd ep l kd fr tt am no hb (by omega);have hsum := applyL_sum ep l kd fr tt am no;have h1 := iWealth_ev (applyL ep l kd fr tt am no).2.1 (by omega) (fun s hs => by have := (hxb s hs).2; omega);have h2 := iWealth_ev l (by omega) (fun s hs => by have := (hb s hs).2; omega);refine evNeg (by simpa using hbig) (Ev.bind hd ?_);simp only [laws_FnApplied.g];refine Ev.bind hi (Ev.bind hs (Ev.bind h1 (Ev.bind h2 (evPos ⟨rfl, by rw [hsum]⟩ ?_))))
    rcases applyL_split ep l kd fr tt am no with ⟨c, e, hc⟩ | ⟨j, hj, e, hn, hlo, hto, hh, hlo2, ea⟩
    · rw [e]
      exact evNeg hc (evPos ⟨rfl, rfl⟩ (Ev.now _))
    · rw [ea] at hxb hxl ⊢
      refine evPos rfl ?_;simp only [laws_FnApplied.h];obtain ⟨_, hok, hu, _, _⟩ := ledger_parts hlo;obtain ⟨_, _, hu2, _, _⟩ := ledger_parts hlo2;obtain ⟨hk, ha, _, _⟩ := txOk_kind hto;obtain ⟨_, t, htm, t0, t2, t3⟩ := doL_bears hj hu hok ep kd hk tt am ha hh;obtain ⟨m, hm, rfl⟩ := List.getElem_of_mem htm;have hat := at_of _ hu2 fr m hm (t0.trans hn);have h3 := iLedger_ev ep (doL ep l j kd tt am) (by simp only at hxl; omega) hxb;rw [hlo2] at h3;refine evBindC ((iAt_eq l fr).trans (by rw [e])) (evBindC ((iAt_eq _ fr).trans (by rw [hat])) (evPos ⟨⟨by omega, by omega⟩, by omega, by omega⟩ (evPos ?_ (Ev.bind h3 (evPos rfl (Ev.now _))))));rw [rdIA_get hj, rdIA_get hm];unfold laws_FnApplied.good;rw [hn] at t3;exact ⟨t2, t3⟩
end Go.Proofs.Ytcbpfofkdipjhaa.Pure
