/- The plain law of FnConserved: what it computes is always true. -/
import Derived.Test.YtcbpfofkdipjhaaCVPVx0
import Derived.Test.YtcbpfofkdipjhaaCVPVx18
import Derived.Test.YtcbpfofkdipjhaaCVLibFnConserved
import Derived.Test.YtcbpfofkdipjhaaCVTelV
namespace Go.Proofs.Ytcbpfofkdipjhaa.Pure
open Go.RowKit Go.Proofs.YtcbpfofkdipjhaaW.PrintWords Go.Proofs.YtcbpfofkdipjhaaW.PrintLast Go.Proofs.YtcbpfofkdipjhaaW.PrintMore Go.Proofs.Ytcbpfofkdipjhaa.Base Go.Proofs.Ytcbpfofkdipjhaa.PV
set_option linter.unusedVariables false
set_option linter.unusedSimpArgs false
theorem own_l (ep : Int) (ts : List S35) (hts : ts.length ≤ 100000000) (ht : ∀ t ∈ ts, TxE t) : ∀ (d i : Nat) (l : List S63) (n : Int), i + d = ts.length → LedZ l → 0 ≤ n → n ≤ (i : Int) →
    Ev (fun k => laws_FnConserved.l0 k ts i n ep l) (ep, (allL ep (ts.drop i) l n).1, (allL ep (ts.drop i) l n).2) := by
  intro d
  induction d with
  | zero =>
    intro i l n hi hl h0 h1;rw [List.drop_of_length_le (by omega)]
    refine evOne fun k => ?_
    simp only [laws_FnConserved.l0];rw [if_neg (by omega)];rfl
  | succ d ih =>
    intro i l n hi hl h0 h1
    have hlt : i < ts.length := by omega
    have wn : wrap64 (n + 1) = n + 1 := w64 (by omega) (by omega);have htx := ht _ (List.getElem_mem hlt);have ha := iApply_ev ep l ts[i].f0 ts[i].f1 ts[i].f2 ts[i].f3 ts[i].f4 (by have := hl.1; omega) (fun s hs => (hl.2 s hs).1) htx.1 htx.2;rw [drop_cons hlt];unfold allL;refine Ev.step (f := fun k => (impl_Apply.f k ep l ts[i].f0 ts[i].f1 ts[i].f2 ts[i].f3 ts[i].f4).bind fun b => if b.2.2 = 0 then laws_FnConserved.l0 k ts (i + 1) (n + 1) b.1 b.2.1 else laws_FnConserved.l0 k ts (i + 1) n ep l) (fun k => ?_) (Ev.bind ha ?_)
    · simp only [laws_FnConserved.l0]
      rw [if_pos hlt, rdIX_get hlt, wn]
    rcases applyL_cases ep l ts[i].f0 ts[i].f1 ts[i].f2 ts[i].f3 ts[i].f4 with ⟨c, e, hc⟩ | ⟨l', e, hok⟩
    · rw [e, if_neg hc]
      have h2 := ih (i + 1) l n (by omega) hl h0 (by omega);simp only [if_neg hc];exact h2
    · rw [e, if_pos rfl]
      have h2 := ih (i + 1) l' (n + 1) (by omega) (ledZ hok) (by omega) (by omega);simp only [if_true];exact h2
theorem FnConserved : ∀ (l0 : List Int), (l0.length ≤ maxLen ∧ ∀ x ∈ l0, (Lit.int .u8 x).wf = true) → ∃ k, laws_FnConserved.f k l0 = some true := by
  intro l0 hw;refine Ev.rounds (g := fun k => laws_FnConserved.f k l0) ?_;simp only [laws_FnConserved.f];refine evBindC (show laws_big.f l0 = some (decide ((l0.length : Int) > 1048576)) from rfl) ?_
  by_cases hbig : (l0.length : Int) > 1048576
  · exact evPos (by simpa using hbig) (Ev.now _)
  · obtain ⟨ep, l, ts, hd, hok, htl, ht⟩ := DrawLedger_ev l0 (AllB.of_wf hw.2) (by omega)
    have hz := ledZ hok;have hall := iAll_ev ep l ts (by omega) ht (by have := hz.1; omega) (fun s hs => (hz.2 s hs).1);have hown := own_l ep ts (by omega) ht ts.length 0 l 0 (by omega) hz (by omega) (by omega);rw [List.drop_zero] at hown;obtain ⟨hxo, hxs⟩ := allL_ok ep ts l 0 hok
    generalize allL ep ts l 0 = R at hall hown hxo hxs
    have hx := ledZ hxo;have hne := iNext_ev ep R.1 (by have := hx.1; omega) (fun s hs => (hx.2 s hs).1);obtain ⟨hys, hyo⟩ := next_ok hxo;have hy := ledZ hyo
    generalize nextL ep R.1 = Y at hne hys hyo hy
    have h1 := iWealth_ev l (by have := hz.1; omega) (fun s hs => by have := (hz.2 s hs).1.2; omega);have h2 := iWealth_ev R.1 (by have := hx.1; omega) (fun s hs => by have := (hx.2 s hs).1.2; omega);have h3 := iWealth_ev Y.2 (by have := hy.1; omega) (fun s hs => by have := (hy.2 s hs).1.2; omega);have h4 := iLedger_ev Y.1 Y.2 (by have := hy.1; omega) (fun s hs => (hy.2 s hs).1);have h5 := iState_ev ep R.1 (by have := hx.1; omega) (fun s hs => (hx.2 s hs).1);rw [hxs] at h2;rw [hys, hxs] at h3;rw [hyo] at h4;refine evNeg (by simpa using hbig) (Ev.bind hd (Ev.bind hall (Ev.bind hne (Ev.bind hown ?_))));simp only [laws_FnConserved.h];exact Ev.bind h1 (Ev.bind h2 (Ev.bind h3 (Ev.bind h4 (Ev.bind h5 (Ev.bind h5 (evPos (by refine ⟨?_, ?_, ?_, ?_, ?_⟩ <;> first | rfl | trivial) (Ev.now _)))))))
end Go.Proofs.Ytcbpfofkdipjhaa.Pure
