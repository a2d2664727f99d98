/- What the marks on rows of strings compute. No condition but sizes. -/
import Derived.Test.YtcbpfofkdipjhaaAAPJx0
import Derived.Test.YtcbpfofkdipjhaaAAPJx3
import Derived.Test.YtcbpfofkdipjhaaAALibSFnExactApplyAll
namespace Go.Proofs.Ytcbpfofkdipjhaa.PJ
open Go.RowKit Go.Proofs.YtcbpfofkdipjhaaW.PrintWords Go.Proofs.YtcbpfofkdipjhaaW.PrintLast Go.Proofs.YtcbpfofkdipjhaaW.PrintMore Go.Proofs.Ytcbpfofkdipjhaa.Base
set_option linter.unusedVariables false
theorem markText_l : ∀ (f : Nat) (a : Int) (x : ByteArray), 0 ≤ a → a < 10 ^ f → a ≤ 10000000000000 → x.size + f ≤ 1000 → ∃ t, Ev (fun k => laws_markText.l0 k a x) t := by
  intro f
  induction f with
  | zero =>
    intro a x h0 h1 hf hx
    have h2 : a < 1 := by simpa using h1
    refine ⟨(⟨#[109]⟩ : ByteArray) ++ x, evOne fun k => ?_⟩;simp only [laws_markText.l0];rw [if_neg (by omega), if_pos (by omega)]
  | succ f ih =>
    intro a x h0 h1 hf hx
    by_cases ha : a > 0
    · have hp : (10 : Int) ^ (f + 1) = 10 ^ f * 10 := Int.pow_succ _ _
      have hq : a / 10 < 10 ^ f := Int.ediv_lt_of_lt_mul (by decide) (by rw [hp] at h1; exact h1)
      have hsz : ∀ c : Int, (strOfNums [c]).size = 1 := fun c => rfl
      have ht : Int.tdiv a 10 = a / 10 := Int.tdiv_eq_ediv_of_nonneg h0;obtain ⟨t, hr⟩ := ih (a / 10) (strOfNums [(wrap64 (48 + (Int.tmod a 10))) % 256] ++ x) (by omega) hq (by omega) (by rw [ByteArray.size_append, hsz]; omega);refine ⟨t, Ev.step (f := fun k => laws_markText.l0 k (a / 10) (strOfNums [(wrap64 (48 + (Int.tmod a 10))) % 256] ++ x)) (fun k => ?_) hr⟩;simp only [laws_markText.l0, Option.bind_some];rw [if_pos ha, if_pos (by rw [hsz]; omega), ht, w64 (by omega) (by omega)]
    · refine ⟨(⟨#[109]⟩ : ByteArray) ++ x, evOne fun k => ?_⟩
      simp only [laws_markText.l0];rw [if_neg ha, if_pos (by omega)]
theorem markText_ex (a : Int) (h0 : 0 ≤ a) (h1 : a ≤ 10000000000000) : ∃ t, Ev (fun k => laws_markText.f k a) t := by
  by_cases ha : a ≤ 0
  · refine ⟨(⟨#[109, 48]⟩ : ByteArray), evVal fun k => ?_⟩
    simp only [laws_markText.f];rw [if_pos ha]
  · obtain ⟨t, ht⟩ := markText_l 18 a (⟨#[]⟩ : ByteArray) h0 (by omega) h1 (by decide)
    refine ⟨t, Ev.congr (fun k => ?_) ht⟩;simp only [laws_markText.f];rw [if_neg ha]
open scoped Classical in
noncomputable def mtext (a : Int) : ByteArray := if h : ∃ t, Ev (fun k => laws_markText.f k a) t then Classical.choose h else ⟨#[]⟩
theorem markText_ev (a : Int) (h0 : 0 ≤ a) (h1 : a ≤ 10000000000000) : Ev (fun k => laws_markText.f k a) (mtext a) := by
  have h := markText_ex a h0 h1;unfold mtext;rw [dif_pos h];exact Classical.choose_spec h
end Go.Proofs.Ytcbpfofkdipjhaa.PJ
