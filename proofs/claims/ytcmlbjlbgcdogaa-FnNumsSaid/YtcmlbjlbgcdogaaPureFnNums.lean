/- The plain law of FnNums: what it computes is always true. -/
import Derived.Test.YtcmlbjlbgcdogaaPBx0
import Derived.Test.YtcmlbjlbgcdogaaPBx7
import Derived.Test.YtcmlbjlbgcdogaaLibDFnNums
import Derived.Test.YtcmlbjlbgcdogaaTelB
namespace Go.Proofs.Ytcmlbjlbgcdogaa.Pure
open Go.RowKit Go.Proofs.YtcmlbjlbgcdogaaW.PrintWords Go.Proofs.YtcmlbjlbgcdogaaW.PrintLast Go.Proofs.YtcmlbjlbgcdogaaW.PrintMore Go.Proofs.Ytcmlbjlbgcdogaa.Base Go.Proofs.Ytcmlbjlbgcdogaa.PB
set_option linter.unusedVariables false
theorem big_eq (l : List Int) : laws_big.f l = some (decide ((l.length : Int) > 1048576)) := rfl
theorem FnNums : ∀ (l0 : List Int), (l0.length ≤ maxLen ∧ ∀ x ∈ l0, (Lit.int .u8 x).wf = true) → ∃ k, laws_FnNums.f k l0 = some true := by
  intro l0 hw
  refine Ev.rounds (g := fun k => laws_FnNums.f k l0) ?_
  simp only [laws_FnNums.f]
  refine evBindC (big_eq l0) ?_
  by_cases hbig : (l0.length : Int) > 1048576
  · exact evPos (by simpa using hbig) (Ev.now _)
  · obtain ⟨b, n, hd, hbl, hba⟩ := DrawPutNum_ev l0 (AllB.of_wf hw.2) (by omega)
    have hi := iPutNum_ev b n (by omega)
    have hlen := putN_length n
    have hall := hba.append (putN_all n)
    have hl2 : (b ++ putN n).length = b.length + (putN n).length := List.length_append
    have hg := iGetNum_ev (b ++ putN n) hall (by omega) (b.length : Int) (by omega)
    have hp := gnum_put b n []
    rw [List.append_nil] at hp
    rw [hp] at hg
    have hw1 : wrap64 (((b ++ putN n).length : Int) - 1) = ((b.length + ((putN n).length - 1) : Nat) : Int) := by rw [w64 (by omega) (by omega)]; omega
    have hcut : (b ++ putN n).take (b.length + ((putN n).length - 1)) = b ++ (putN n).dropLast := by
      rw [List.take_length_add_append, List.dropLast_eq_take]
    have hall2 : AllB (b ++ (putN n).dropLast) := hba.append (fun x hx => putN_all n x (List.dropLast_subset _ hx))
    have hg2 := iGetNum_ev (b ++ (putN n).dropLast) hall2 (by simp; omega) (b.length : Int) (by omega)
    rw [gnum_cut] at hg2
    refine evNeg (by simpa using hbig) (Ev.bind hd (Ev.bind hi (Ev.bind hg ?_)))
    simp only [hw1, Int.toNat_natCast, hcut]
    have hnext : (b.length : Int) + ((putN n).length : Int) = ((b ++ putN n).length : Int) := by omega
    have last : ∀ c : Int, clampN n = c → Ev (fun k => if 0 ≤ ((b.length + ((putN n).length - 1) : Nat) : Int) then (if ((b.length + ((putN n).length - 1) : Nat) : Int) ≤ ((b ++ putN n).length : Int) then ((impl_GetNum.f k (b ++ (putN n).dropLast) (b.length : Int)).bind fun bt => (if (clampN n, (b.length : Int) + ((putN n).length : Int), true).2.2 = true then (if (clampN n, (b.length : Int) + ((putN n).length : Int), true).1 = c then (if (clampN n, (b.length : Int) + ((putN n).length : Int), true).2.1 = ((b ++ putN n).length : Int) then (some (!bt.2.2)) else (some false)) else (some false)) else (some false))) else none) else none) true := by
      intro c hc
      exact evPos (by omega) (evPos (by omega) (Ev.bind hg2 (evPos rfl (evPos hc (evPos hnext (Ev.now _))))))
    by_cases h1 : n > 1000000000
    · refine evPos h1 (evNeg (by omega) (last _ ?_))
      unfold clampN
      rw [if_pos h1]
    · refine evNeg h1 ?_
      by_cases h2 : n < -1000000000
      · refine evPos h2 (last _ ?_)
        unfold clampN
        rw [if_neg h1, if_pos h2]
      · refine evNeg h2 (last _ ?_)
        unfold clampN
        rw [if_neg h1, if_neg h2]
end Go.Proofs.Ytcmlbjlbgcdogaa.Pure
