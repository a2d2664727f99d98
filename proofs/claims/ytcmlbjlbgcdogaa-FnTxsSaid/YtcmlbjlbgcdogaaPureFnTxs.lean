/- The plain law of FnTxs: what it computes is always true. -/
import Derived.Test.YtcmlbjlbgcdogaaPKx0
import Derived.Test.YtcmlbjlbgcdogaaPKx6
import Derived.Test.YtcmlbjlbgcdogaaLibDFnTxs
import Derived.Test.YtcmlbjlbgcdogaaTelK
namespace Go.Proofs.Ytcmlbjlbgcdogaa.Pure
open Go.RowKit Go.Proofs.YtcmlbjlbgcdogaaW.PrintWords Go.Proofs.YtcmlbjlbgcdogaaW.PrintLast Go.Proofs.YtcmlbjlbgcdogaaW.PrintMore Go.Proofs.Ytcmlbjlbgcdogaa.Base Go.Proofs.Ytcmlbjlbgcdogaa.PK
set_option linter.unusedVariables false
theorem big_eq (l : List Int) : laws_big.f l = some (decide ((l.length : Int) > 1048576)) := rfl
theorem clamp_id (n : Int) (h0 : -1000000000 ≤ n) (h1 : n ≤ 1000000000) : clampN n = n := by
  unfold clampN
  rw [if_neg (by omega), if_neg (by omega)]
theorem gtx_put (b : List Int) (kd : Int) (fr tt : ByteArray) (am no : Int) (hf : fr.size ≤ 1000000000) (ht : tt.size ≤ 1000000000) (hx : txOk kd fr tt am no = true) :
    gtxOf (b ++ putX kd fr tt am no) (b.length : Int) = (kd, fr, tt, am, no, (((b ++ putX kd fr tt am no).length : Nat) : Int), true) := by
  have hr : (-1000000000 ≤ kd ∧ kd ≤ 1000000000) ∧ (-1000000000 ≤ am ∧ am ≤ 1000000000) ∧ (-1000000000 ≤ no ∧ no ≤ 1000000000) := by
    unfold txOk at hx
    simp only [Bool.and_eq_true, decide_eq_true_eq] at hx
    obtain ⟨⟨⟨_, h1⟩, h2⟩, h3⟩ := hx
    refine ⟨?_, by omega, by omega⟩
    by_cases hk : kd = 1
    · omega
    · rw [if_neg hk] at h3
      simp only [Bool.and_eq_true, decide_eq_true_eq] at h3
      omega
  generalize hL : b ++ putX kd fr tt am no = L
  have e1 := gnum_put b kd (putT fr ++ (putT tt ++ (putN am ++ putN no)))
  rw [show b ++ (putN kd ++ (putT fr ++ (putT tt ++ (putN am ++ putN no)))) = L by rw [← hL]; rfl, clamp_id kd hr.1.1 hr.1.2] at e1
  have e2 := gtext_put (b ++ putN kd) fr (putT tt ++ (putN am ++ putN no)) hf
  rw [show (b ++ putN kd) ++ (putT fr ++ (putT tt ++ (putN am ++ putN no))) = L by rw [← hL]; simp [putX]] at e2
  have e3 := gtext_put (b ++ putN kd ++ putT fr) tt (putN am ++ putN no) ht
  rw [show (b ++ putN kd ++ putT fr) ++ (putT tt ++ (putN am ++ putN no)) = L by rw [← hL]; simp [putX]] at e3
  have e4 := gnum_put (b ++ putN kd ++ putT fr ++ putT tt) am (putN no)
  rw [show (b ++ putN kd ++ putT fr ++ putT tt) ++ (putN am ++ putN no) = L by rw [← hL]; simp [putX], clamp_id am hr.2.1.1 hr.2.1.2] at e4
  have e5 := gnum_put (b ++ putN kd ++ putT fr ++ putT tt ++ putN am) no []
  rw [show (b ++ putN kd ++ putT fr ++ putT tt ++ putN am) ++ (putN no ++ []) = L by rw [← hL]; simp [putX], clamp_id no hr.2.2.1 hr.2.2.2] at e5
  have l1 : (b.length : Int) + ((putN kd).length : Int) = (((b ++ putN kd).length : Nat) : Int) := by simp
  have l2 : (((b ++ putN kd).length : Nat) : Int) + ((putT fr).length : Int) = (((b ++ putN kd ++ putT fr).length : Nat) : Int) := by simp; omega
  have l3 : (((b ++ putN kd ++ putT fr).length : Nat) : Int) + ((putT tt).length : Int) = (((b ++ putN kd ++ putT fr ++ putT tt).length : Nat) : Int) := by simp; omega
  have l4 : (((b ++ putN kd ++ putT fr ++ putT tt).length : Nat) : Int) + ((putN am).length : Int) = (((b ++ putN kd ++ putT fr ++ putT tt ++ putN am).length : Nat) : Int) := by simp; omega
  have l5 : (((b ++ putN kd ++ putT fr ++ putT tt ++ putN am).length : Nat) : Int) + ((putN no).length : Int) = ((L.length : Nat) : Int) := by rw [← hL]; simp [putX]; omega
  rw [l1] at e1
  rw [l2] at e2
  rw [l3] at e3
  rw [l4] at e4
  rw [l5] at e5
  unfold gtxOf
  simp only [e1, e2, e3, e4, e5, hx, and_self, if_true]
theorem putX_all (kd : Int) (fr tt : ByteArray) (am no : Int) : AllB (putX kd fr tt am no) := by
  have hT : ∀ s : ByteArray, AllB (putT s) := fun s => (putN_all _).append (bytes_all s)
  exact (putN_all _).append ((hT _).append ((hT _).append ((putN_all _).append (putN_all _))))
theorem FnTxs : ∀ (l0 : (List Int)), (l0.length ≤ maxLen ∧ ∀ x ∈ l0, (Lit.int .u8 x).wf = true) → ∃ k, laws_FnTxs.f k l0 = some true := by
  intro l0 hw
  refine Ev.rounds (g := fun k => laws_FnTxs.f k l0) ?_
  simp only [laws_FnTxs.f]
  refine evBindC (big_eq l0) ?_
  by_cases hbig : (l0.length : Int) > 1048576
  · exact evPos (by simpa using hbig) (Ev.now _)
  · obtain ⟨b, kd, fr, tt, am, no, hd, hbl, hba, hf, ht⟩ := DrawPutTx_ev l0 (AllB.of_wf hw.2) (by omega)
    have hi := iPutTx_ev b kd fr tt am no (by omega) (by omega) (by omega)
    have hs := sTxOk_ev kd fr tt am no (by omega) (by omega)
    have ho := iTxOk_ev kd fr tt am no (by omega) (by omega)
    have p1 := putN_length kd
    have p2 := putT_length fr
    have p3 := putT_length tt
    have p4 := putN_length am
    have p5 := putN_length no
    refine evNeg (by simpa using hbig) (Ev.bind hd (Ev.bind hi (Ev.bind hs ?_)))
    by_cases hx : txOk kd fr tt am no = true
    · rw [if_pos hx]
      rw [hx] at ho
      have hlen : (b ++ putX kd fr tt am no).length ≤ 1000 := by simp only [putX, List.length_append]; omega
      have hg := iGetTx_ev (b ++ putX kd fr tt am no) (hba.append (putX_all kd fr tt am no)) (by omega) (b.length : Int) ⟨by omega, by omega⟩
      rw [gtx_put b kd fr tt am no (by omega) (by omega) hx] at hg
      exact evPos hx (Ev.bind hg (evPos rfl (evPos (by simp) (evPos rfl (Ev.bind ho (Ev.now _))))))
    · rw [if_neg hx]
      rw [Bool.not_eq_true] at hx
      rw [hx] at ho
      exact evNeg (by rw [hx]; simp) (evPos rfl (Ev.bind ho (evEq (Ev.now _) rfl)))
end Go.Proofs.Ytcmlbjlbgcdogaa.Pure
