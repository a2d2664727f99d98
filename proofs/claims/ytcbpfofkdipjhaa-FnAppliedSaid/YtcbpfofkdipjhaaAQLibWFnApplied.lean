/- Draws of orders beside ledgers. No condition but sizes. -/
import Derived.Test.YtcbpfofkdipjhaaAQPMx0
import Derived.Test.YtcbpfofkdipjhaaAQPMx13
import Derived.Test.YtcbpfofkdipjhaaAQPMx14
import Derived.Test.YtcbpfofkdipjhaaAQPMx15
import Derived.Test.YtcbpfofkdipjhaaAQPMx16
import Derived.Test.YtcbpfofkdipjhaaAQLibYFnApplied
namespace Go.Proofs.Ytcbpfofkdipjhaa.PM
open Go.RowKit Go.Proofs.YtcbpfofkdipjhaaW.PrintWords Go.Proofs.YtcbpfofkdipjhaaW.PrintLast Go.Proofs.YtcbpfofkdipjhaaW.PrintMore Go.Proofs.Ytcbpfofkdipjhaa.Base
set_option linter.unusedVariables false
set_option linter.unusedSimpArgs false
theorem l6Tx_eq (b : List Int) (i h : Int) (ep : Int) (l : List S63) (hl : l.length ≤ 1000) (hz : ∀ s ∈ l, s.f0.size ≤ 9) (hs : St b i) : ∃ kd fr tt am no i' h', spec_l6Tx.f b i h ep l = some (kd, fr, tt, am, no, i', h') ∧ St b i' ∧ fr.size ≤ 9 ∧ tt.size ≤ 9 := by
  obtain ⟨kd, fr, tt, am, no, i1, h1, e1, s1, hf, ht⟩ := l5Tx_eq b i h hs;unfold spec_l6Tx.f;rw [e1];simp only [Option.bind_some]
  by_cases c : 0 < l.length
  · rw [if_pos c]
    obtain ⟨o, i2, h2, e2, s2⟩ := l1Once_eq b i1 h1 5 s1;rw [e2];simp only [Option.bind_some]
    by_cases co : o = true
    · rw [if_pos co]
      exact ⟨_, _, _, _, _, _, _, rfl, s2, by omega, by omega⟩
    · rw [if_neg co]
      obtain ⟨q, i3, h3, e3, s3, q0, q1, _⟩ := l1Below_eq b i2 h2 (l.length : Int) s2;have q1 := q1 (by omega);rw [e3];simp only [Option.bind_some];rw [if_pos ⟨q0, q1⟩];obtain ⟨m, rfl⟩ := Int.eq_ofNat_of_zero_le q0
      have hm : m < l.length := by omega
      refine ⟨_, _, _, _, _, _, _, rfl, s3, ?_, by omega⟩;rw [rdIA_get hm];exact hz _ (List.getElem_mem hm)
  · rw [if_neg c]
    exact ⟨_, _, _, _, _, _, _, rfl, s1, by omega, by omega⟩
theorem DrawApply_ev (b : List Int) (hb : AllB b) (hl : b.length ≤ 281474976710656) : ∃ n l kd fr tt am no, Ev (fun k => spec_DrawApply.f k b) (n, l, kd, fr, tt, am, no) ∧ l.length ≤ 6 ∧ (∀ s ∈ l, s.f0.size ≤ 9 ∧ s.f4.length ≤ 5) ∧ fr.size ≤ 9 ∧ tt.size ≤ 9 := by
  obtain ⟨h0, hn, hs⟩ := l1New_ev b hb hl;obtain ⟨n, l, i1, h1, hd, s1, _, _, hll, hz⟩ := l6Any_ev b 0 h0 hs;obtain ⟨o, i2, h2, e2, s2⟩ := l1Once_eq b i1 h1 12 s1;simp only [spec_DrawApply.f]
  by_cases co : o = true
  · obtain ⟨kd, fr, tt, am, no, i3, h3, e3, _, hf, ht⟩ := l5Any_eq b i2 h2 s2
    exact ⟨n, l, kd, fr, tt, am, no, Ev.bind hn (Ev.bind hd (evBindC e2 (evPos co (evBindC e3 (Ev.now _))))), hll, hz, by omega, ht⟩
  · obtain ⟨kd, fr, tt, am, no, i3, h3, e3, _, hf, ht⟩ := l6Tx_eq b i2 h2 n l (by omega) (fun s hs => (hz s hs).1) s2
    exact ⟨n, l, kd, fr, tt, am, no, Ev.bind hn (Ev.bind hd (evBindC e2 (evNeg co (evBindC e3 (Ev.now _))))), hll, hz, hf, ht⟩
end Go.Proofs.Ytcbpfofkdipjhaa.PM
