/- The plain law of FnTexts: what it computes is always true. -/
import Derived.Test.YtcmlbjlbgcdogaaPGx0
import Derived.Test.YtcmlbjlbgcdogaaPGx3
import Derived.Test.YtcmlbjlbgcdogaaLibDFnTexts
import Derived.Test.YtcmlbjlbgcdogaaTelG
namespace Go.Proofs.Ytcmlbjlbgcdogaa.Pure
open Go.RowKit Go.Proofs.YtcmlbjlbgcdogaaW.PrintWords Go.Proofs.YtcmlbjlbgcdogaaW.PrintLast Go.Proofs.YtcmlbjlbgcdogaaW.PrintMore Go.Proofs.Ytcmlbjlbgcdogaa.Base Go.Proofs.Ytcmlbjlbgcdogaa.PG
set_option linter.unusedVariables false
theorem big_eq (l : List Int) : laws_big.f l = some (decide ((l.length : Int) > 1048576)) := rfl
theorem sameTexts_l (x : List ByteArray) (h : x.length ≤ 281474976710656) : ∀ (d i : Nat), i + d = x.length → Ev (fun k => laws_sameTexts.l0 k x x (i : Int)) true := by
  intro d
  induction d with
  | zero =>
    intro i hi
    refine evOne fun k => ?_
    simp only [laws_sameTexts.l0]
    rw [if_neg (by omega)]
  | succ d ih =>
    intro i hi
    refine Ev.step (f := fun k => laws_sameTexts.l0 k x x ((i + 1 : Nat) : Int)) (fun k => ?_) (ih (i + 1) (by omega))
    simp only [laws_sameTexts.l0]
    rw [if_pos (by omega), if_pos (by omega), if_pos (by omega), if_pos trivial, w64 (by omega) (by omega)]
    rfl
theorem sameTexts_ev (x : List ByteArray) (h : x.length ≤ 281474976710656) : Ev (fun k => laws_sameTexts.f k x x) true := by
  refine Ev.congr (f := fun k => laws_sameTexts.l0 k x x ((0 : Nat) : Int)) (fun k => ?_) (sameTexts_l x h x.length 0 (by omega))
  simp only [laws_sameTexts.f]
  rw [if_pos trivial]
  rfl
theorem putNs_small (l : List ByteArray) (h : l.length ≤ 5) (hs : ∀ s ∈ l, s.size = 1) : (putNs l).length ≤ 100 ∧ tsum l ≤ 100 := by
  have h1 := putN_length (l.length : Int)
  have key : ∀ l : List ByteArray, (∀ s ∈ l, s.size = 1) → (l.flatMap putT).length ≤ 7 * l.length ∧ tsum l ≤ 7 * l.length := by
    intro l
    induction l with
    | nil => intro _; simp [tsum]
    | cons a l ih =>
      intro hs
      have h2 := putT_length a
      have h3 := hs a (by simp)
      have h4 := ih (fun s h => hs s (by simp [h]))
      simp only [tsum, List.flatMap_cons, List.length_append, List.map_cons, List.sum_cons, List.length_cons] at h4 ⊢
      omega
  have := key l hs
  simp only [putNs, List.length_append]
  omega
theorem putT_all (s : ByteArray) : AllB (putT s) := (putN_all _).append (bytes_all s)
theorem putNs_all (l : List ByteArray) : AllB (putNs l) := by
  refine (putN_all _).append ?_
  intro x hx
  obtain ⟨s, _, h⟩ := List.mem_flatMap.1 hx
  exact putT_all s x h
theorem FnTexts : ∀ (l0 : (List Int)), (l0.length ≤ maxLen ∧ ∀ x ∈ l0, (Lit.int .u8 x).wf = true) → ∃ k, laws_FnTexts.f k l0 = some true := by
  intro l0 hw
  refine Ev.rounds (g := fun k => laws_FnTexts.f k l0) ?_
  simp only [laws_FnTexts.f]
  refine evBindC (big_eq l0) ?_
  by_cases hbig : (l0.length : Int) > 1048576
  · exact evPos (by simpa using hbig) (Ev.now _)
  · obtain ⟨b, s, hd, hbl, hba, hsl⟩ := DrawPutText_ev l0 (AllB.of_wf hw.2) (by omega)
    obtain ⟨b2, l, hd2, hbl2, hba2, hll, hls⟩ := DrawPutNames_ev l0 (AllB.of_wf hw.2) (by omega)
    have h1 := putT_length s
    have h2 := putNs_small l hll hls
    have hl1 : (b ++ putT s).length = b.length + (putT s).length := List.length_append
    have hl2 : (b2 ++ putNs l).length = b2.length + (putNs l).length := List.length_append
    have hi := iPutText_ev b s (by omega)
    have hi2 := iPutNames_ev b2 l (by omega) (by omega)
    have hg := iGetText_ev (b ++ putT s) (hba.append (putT_all s)) (by omega) (b.length : Int) (by omega)
    have hg2 := iGetNames_ev (b2 ++ putNs l) (hba2.append (putNs_all l)) (by omega) (b2.length : Int) (by omega)
    have e1 := gtext_put b s [] (by omega)
    have e2 := gnames_of_put b2 l [] (by omega) (fun x hx => by have := hls x hx; omega)
    rw [List.append_nil] at e1 e2
    rw [e1] at hg
    rw [e2] at hg2
    exact evNeg (by simpa using hbig) (Ev.bind hd (Ev.bind hi (Ev.bind hg (Ev.bind hd2 (Ev.bind hi2 (Ev.bind hg2 (evPos rfl (evPos rfl (evPos (by dsimp only; omega) (evPos rfl (evPos (by dsimp only; omega) (Ev.bind (sameTexts_ev l (by omega)) (Ev.now _)))))))))))))
end Go.Proofs.Ytcmlbjlbgcdogaa.Pure
