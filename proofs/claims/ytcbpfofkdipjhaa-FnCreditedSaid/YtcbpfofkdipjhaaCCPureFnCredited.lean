/- The plain law of FnCredited: what it computes is always true. -/
import Derived.Test.YtcbpfofkdipjhaaCCPCx0
import Derived.Test.YtcbpfofkdipjhaaCCPCx11
import Derived.Test.YtcbpfofkdipjhaaCCLibQFnCredited
import Derived.Test.YtcbpfofkdipjhaaCCLibYFnCredited
import Derived.Test.YtcbpfofkdipjhaaCCTelC
namespace Go.Proofs.Ytcbpfofkdipjhaa.Pure
open Go.RowKit Go.Proofs.YtcbpfofkdipjhaaW.PrintWords Go.Proofs.YtcbpfofkdipjhaaW.PrintLast Go.Proofs.YtcbpfofkdipjhaaW.PrintMore Go.Proofs.Ytcbpfofkdipjhaa.Base Go.Proofs.Ytcbpfofkdipjhaa.PC
set_option linter.unusedVariables false
set_option linter.unusedSimpArgs false
theorem cr_l0 (l : List S63) (nm : ByteArray) (n : Int) (x : List S63) (kk : Nat) (old : Int) (hl : l.length ≤ 1000000) (hx : x.length ≤ 1000000) (hbx : ∀ s ∈ x, BdE s) (hux : Up x) (hok : acctsOk x = true) (hk : kk < x.length) (hkf : x[kk].f1 = wrap64 (old + n)) (hw : wrap64 (asum x) = wrap64 (wrap64 (asum l) + n)) (hbl : ∀ s ∈ l, BdE s)
    (hm : ∀ s ∈ l, ∃ t ∈ x, t.f0.toList = s.f0.toList ∧ (¬ s.f0.toList = nm.toList → t.f1 = s.f1)) : ∀ (d i : Nat), i + d = l.length → Ev (fun k => laws_FnCredited.l0 k l nm n x (kk : Int) old (i : Int)) true := by
  intro d
  induction d with
  | zero =>
    intro i hi
    have h1 := iWealth_ev x (by omega) (fun s hs => by have := (hbx s hs).2; omega)
    have h2 := iWealth_ev l (by omega) (fun s hs => by have := (hbl s hs).2; omega)
    have h3 := iAcctsOk_ev x (by omega) (fun s hs => by have := hbx s hs; unfold BdE at this; omega)
    have hb := hbx _ (List.getElem_mem hk)
    have h4 := iAcctOk_ev x[kk].f0 x[kk].f1 x[kk].f2 x[kk].f3 x[kk].f4 (by have := hb.1; omega) (by have := hb.2; omega)
    have hka : acctOk x[kk].f0 x[kk].f1 x[kk].f2 x[kk].f3 x[kk].f4 = true := ((acctsOk_iff x).1 hok).1 _ (List.getElem_mem hk)
    rw [hka] at h4
    refine Ev.step (f := fun k => if x[kk].f1 = (wrap64 (old + n)) then ((impl_Wealth.f k x).bind fun t369 => ((impl_Wealth.f k l).bind fun t370 => (if t369 = (wrap64 (t370 + n)) then ((impl_AcctsOk.f k x).bind fun t371 => (if t371 = true then ((impl_AcctOk.f k (x[kk].f0) (x[kk].f1) (x[kk].f2) (x[kk].f3) (x[kk].f4)).bind fun t373 => (some t373)) else (some false))) else (some false)))) else (some false)) (fun k => ?_) (evPos hkf (Ev.bind h1 (Ev.bind h2 (evPos hw (Ev.bind h3 (evPos hok (Ev.bind h4 (Ev.now _))))))))
    simp only [laws_FnCredited.l0]
    rw [if_neg (by omega), if_pos (by omega), if_pos (by omega), if_pos (by omega), rdIA_get hk]
  | succ d ih =>
    intro i hi
    have hlt : i < l.length := by omega
    obtain ⟨t, ht, ek, ef⟩ := hm _ (List.getElem_mem hlt)
    obtain ⟨m, hmx, rfl⟩ := List.getElem_of_mem ht
    have hat := at_of x hux l[i].f0 m hmx ek
    refine Ev.step (f := fun k => laws_FnCredited.l0 k l nm n x (kk : Int) old ((i + 1 : Nat) : Int)) (fun k => ?_) (ih (i + 1) (by omega))
    simp only [laws_FnCredited.l0]
    rw [if_pos (by omega), if_pos (by omega), rdIA_get hlt, iAt_eq, Option.bind_some, hat, if_neg (by omega), w64 (by omega) (by omega)]
    by_cases c : l[i].f0.toList = nm.toList
    · rw [if_pos c]
      rfl
    · rw [if_neg c, if_pos (by omega), if_pos (by omega), rdIA_get hmx, if_pos (ef c)]
      rfl
theorem FnCredited : ∀ (l0 : (List Int)), (l0.length ≤ maxLen ∧ ∀ x ∈ l0, (Lit.int .u8 x).wf = true) → ∃ k, laws_FnCredited.f k l0 = some true := by
  intro l0 hw
  refine Ev.rounds (g := fun k => laws_FnCredited.f k l0) ?_
  simp only [laws_FnCredited.f]
  refine evBindC (show laws_big.f l0 = some (decide ((l0.length : Int) > 1048576)) from rfl) ?_
  by_cases hbig : (l0.length : Int) > 1048576
  · exact evPos (by simpa using hbig) (Ev.now _)
  · obtain ⟨l, nm, n, hd, hl, hz, hnm⟩ := DrawCredit_ev l0 (AllB.of_wf hw.2) (by omega)
    have hb : ∀ s ∈ l, BdE s := fun s hs => by have := hz s hs; unfold BdE; omega
    have hi := iCredit_ev l nm n (by omega) hb (by omega)
    have hs := sCredit_ev l nm n (by omega) hb (by omega)
    refine evNeg (by simpa using hbig) (Ev.bind hd (Ev.bind hi (Ev.bind hs (evNeg (by simp) ?_))))
    unfold creditL
    by_cases c : (inr n 0 1000000 && (nameOk nm && (acctsOk l && acctsOk (addL l nm n)))) = true
    · rw [if_pos c]
      simp only [Bool.and_eq_true] at c
      obtain ⟨c1, c2, c3, c4⟩ := c
      have hn := (inr_iff _ _ _).1 c1
      obtain ⟨hok, hu, hlen, _⟩ := (acctsOk_iff l).1 c3
      obtain ⟨hok', hu', hlen', _⟩ := (acctsOk_iff _).1 c4
      obtain ⟨hsum, ⟨kk, hkk, hkn, hkf⟩, hm⟩ := addL_spec l hu hok nm n hn
      have hbx := addL_bd n hb (show nm.size ≤ 1048576 by omega)
      have hat := at_of _ hu' nm kk hkk hkn
      have hwl : wrap64 (asum (addL l nm n)) = wrap64 (wrap64 (asum l) + n) := by rw [hsum, wadd_l]
      have fin : ∀ old, (addL l nm n)[kk].f1 = wrap64 (old + n) → Ev (fun k => laws_FnCredited.j1 k l nm n (addL l nm n) (kk : Int) old) true := fun old ho =>
        Ev.step (f := fun k => laws_FnCredited.l0 k l nm n (addL l nm n) (kk : Int) old 0) (fun k => rfl) (cr_l0 l nm n _ kk old (by omega) (by omega) hbx hu' c4 hkk ho hwl hb hm l.length 0 (by omega))
      refine Ev.step (f := fun k => if atL l nm ≥ 0 then (if 0 ≤ atL l nm then (if atL l nm < (l.length : Int) then (laws_FnCredited.j1 k l nm n (addL l nm n) (kk : Int) ((rd_T63 l (atL l nm)).f1)) else none) else none) else (laws_FnCredited.j1 k l nm n (addL l nm n) (kk : Int) 0)) (fun k => ?_) ?_
      · simp only [laws_FnCredited.j0]
        rw [if_neg (by simp)]
        simp only [iAt_eq, Option.bind_some]
        rw [hat]
      · rcases hkf with ⟨e, hf⟩ | ⟨j, hj, e, hf⟩
        · exact evNeg (by omega) (fin 0 (by rw [hf, Int.zero_add, w64 (by omega) (by omega)]))
        · have hr : 0 ≤ l[j].f1 ∧ l[j].f1 ≤ 1000000 := by
            have := hok _ (List.getElem_mem hj)
            unfold okA acctOk at this
            simp only [Bool.and_eq_true, inr_iff] at this
            exact this.2.1
          refine evPos (by omega) (evPos (by omega) (evPos (by omega) (fin _ ?_)))
          rw [e, rdIA_get hj, hf, w64 (by omega) (by omega)]
    · rw [if_neg c]
      have h1 := iWealth_ev l (by omega) (fun s hs => by have := (hb s hs).2; omega)
      refine Ev.step (f := fun k => (impl_Wealth.f k l).bind fun t357 => ((impl_Wealth.f k l).bind fun t358 => (some (t357 == t358)))) (fun k => ?_) (Ev.bind h1 (Ev.bind h1 (evEq (Ev.now _) (by simp))))
      simp only [laws_FnCredited.j0]
      rw [if_pos (by simp), if_pos (by simp)]
end Go.Proofs.Ytcbpfofkdipjhaa.Pure
