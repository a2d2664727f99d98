/- Copies of accounts and ledgers, what is sound in them, and the next epoch, said plainly. No condition but sizes. -/
import Derived.Test.YtcbpfofkdipjhaaAQPMx0
import Derived.Test.YtcbpfofkdipjhaaAQPMx4
import Derived.Test.YtcbpfofkdipjhaaAQPMx10
import Derived.Test.YtcbpfofkdipjhaaAQLibAFnApplied
namespace Go.Proofs.Ytcbpfofkdipjhaa.PM
open Go.RowKit Go.Proofs.YtcbpfofkdipjhaaW.PrintWords Go.Proofs.YtcbpfofkdipjhaaW.PrintLast Go.Proofs.YtcbpfofkdipjhaaW.PrintMore Go.Proofs.Ytcbpfofkdipjhaa.Base
set_option linter.unusedVariables false
set_option linter.unusedSimpArgs false
def BdE (s : S63) : Prop := s.f0.size ≤ 1048576 ∧ s.f4.length ≤ 1048576
def ledgerOk (n : Int) (l : List S63) : Bool := inr n 0 900 && acctsOk l
theorem inr_iff (a b c : Int) : inr a b c = true ↔ b ≤ a ∧ a ≤ c := by simp [inr]
theorem sLedger_ev (n : Int) (l : List S63) (hl : l.length ≤ 281474976710656) (hb : ∀ s ∈ l, BdE s) : Ev (fun k => spec_LedgerOk.f k n l) (ledgerOk n l) := by
  simp only [spec_LedgerOk.f, l1In_eq, Option.bind_some];unfold ledgerOk
  by_cases h : inr n 0 900 = true
  · exact evPos h (Ev.bind (sAcctsOk_ev l hl (fun s hs => by have := hb s hs; unfold BdE at this; omega)) (evEq (Ev.now _) (by rw [h]; simp)))
  · exact evNeg h (evEq (Ev.now _) (by rw [Bool.not_eq_true] at h; rw [h]; simp))
theorem iLedger_ev (n : Int) (l : List S63) (hl : l.length ≤ 281474976710656) (hb : ∀ s ∈ l, BdE s) : Ev (fun k => impl_LedgerOk.f k n l) (ledgerOk n l) := by
  simp only [impl_LedgerOk.f, inRange_eq, Option.bind_some];unfold ledgerOk
  by_cases h : inr n 0 900 = true
  · exact evPos h (Ev.bind (iAcctsOk_ev l hl (fun s hs => by have := hb s hs; unfold BdE at this; omega)) (evEq (Ev.now _) (by rw [h]; simp)))
  · exact evNeg h (evEq (Ev.now _) (by rw [Bool.not_eq_true] at h; rw [h]; simp))
theorem iCopy_l (l : List S63) (hl : l.length ≤ 1000000000) (hb : ∀ s ∈ l, BdE s) : ∀ (d i : Nat) (x : List S63), i + d = l.length → x.length = i → Ev (fun k => impl_copyAccts.l0 k x l (l.length : Int) (i : Int)) (x ++ l.drop i) := by
  intro d
  induction d with
  | zero =>
    intro i x hi hx
    refine evOne fun k => ?_
    simp only [impl_copyAccts.l0];rw [if_neg (by omega), List.drop_of_length_le (by omega), List.append_nil]
  | succ d ih =>
    intro i x hi hx
    have hlt : i < l.length := by omega
    have hbs := hb _ (List.getElem_mem hlt);have h4 := hbs.2;have ih' := ih (i + 1) (x ++ [l[i]]) (by omega) (by simp; omega);refine Ev.step (f := fun k => impl_copyAccts.l0 k (x ++ [l[i]]) l (l.length : Int) ((i + 1 : Nat) : Int)) (fun k => ?_) (evEq ih' (by rw [drop_cons hlt, List.append_assoc]; rfl));simp only [impl_copyAccts.l0, impl_Leave_121.f];rw [if_pos (by omega), if_pos (by omega), if_pos (by omega), rdIA_get hlt, if_pos (show l[i].f4.length < 8796093022208 by omega), w64 (by omega) (by omega)];simp only [Option.bind_some];rw [if_pos (show x.length < 2199023255552 by omega)];rfl
theorem iCopy_ev (l : List S63) (hl : l.length ≤ 1000000000) (hb : ∀ s ∈ l, BdE s) : Ev (fun k => impl_copyAccts.f k l) l := by
  have h := iCopy_l l hl hb l.length 0 [] (by omega) rfl;rw [List.nil_append, List.drop_zero] at h;exact h
theorem iCopyL_ev (n : Int) (l : List S63) (hl : l.length ≤ 1000000000) (hb : ∀ s ∈ l, BdE s) : Ev (fun k => impl_copyLedger.f k n l) (n, l) := by
  simp only [impl_copyLedger.f];exact Ev.bind (iCopy_ev l hl hb) (Ev.now _)
theorem sCopy_l (l : List S63) (hl : l.length ≤ 1000000000) (hb : ∀ s ∈ l, BdE s) : ∀ (d i : Nat) (x : List S63), i + d = l.length → x.length = i → Ev (fun k => spec_l4Copy.l0 k l x (i : Int)) (x ++ l.drop i) := by
  intro d
  induction d with
  | zero =>
    intro i x hi hx
    refine evOne fun k => ?_
    simp only [spec_l4Copy.l0];rw [if_neg (by omega), List.drop_of_length_le (by omega), List.append_nil]
  | succ d ih =>
    intro i x hi hx
    have hlt : i < l.length := by omega
    have hbs := hb _ (List.getElem_mem hlt);have h4 := hbs.2;have ih' := ih (i + 1) (x ++ [l[i]]) (by omega) (by simp; omega);refine Ev.step (f := fun k => spec_l4Copy.l0 k l (x ++ [l[i]]) ((i + 1 : Nat) : Int)) (fun k => ?_) (evEq ih' (by rw [drop_cons hlt, List.append_assoc]; rfl));simp only [spec_l4Copy.l0];rw [if_pos (by omega), if_pos (by omega), rdIA_get hlt, w64 (by omega) (by omega)];simp only [Option.bind_some, List.nil_append, List.length_nil, Nat.zero_add];rw [if_pos (show l[i].f4.length < 8796093022208 by omega), if_pos (show x.length < 2199023255552 by omega)];rfl
theorem sCopy_ev (l : List S63) (hl : l.length ≤ 1000000000) (hb : ∀ s ∈ l, BdE s) : Ev (fun k => spec_l4Copy.f k l) l := by
  have h := sCopy_l l hl hb l.length 0 [] (by omega) rfl;rw [List.nil_append, List.drop_zero] at h;exact h
theorem sCopyL_ev (n : Int) (l : List S63) (hl : l.length ≤ 1000000000) (hb : ∀ s ∈ l, BdE s) : Ev (fun k => spec_l6Copy.f k n l) (n, l) := by
  simp only [spec_l6Copy.f];exact Ev.bind (sCopy_ev l hl hb) (Ev.now _)
theorem lvFrom_at {l : List S65} : ∀ {d i : Nat}, lvFrom l d i = true → ∀ j, i ≤ j → j < i + d → lvAt l j = true := by
  intro d
  induction d with
  | zero => intro i _ j h0 h1; omega
  | succ d ih =>
    intro i h j h0 h1;simp only [lvFrom, Bool.and_eq_true] at h
    by_cases e : j = i
    · rw [e]; exact h.1
    · exact ih h.2 j (by omega) (by omega)
theorem acFrom_at {l : List S63} : ∀ {d i : Nat}, acFrom l d i = true → ∀ j, i ≤ j → j < i + d → acAt l j = true := by
  intro d
  induction d with
  | zero => intro i _ j h0 h1; omega
  | succ d ih =>
    intro i h j h0 h1;simp only [acFrom, Bool.and_eq_true] at h
    by_cases e : j = i
    · rw [e]; exact h.1
    · exact ih h.2 j (by omega) (by omega)
theorem ledgerOk_len {n : Int} {l : List S63} (h : ledgerOk n l = true) : (0 ≤ n ∧ n ≤ 900) ∧ acctsOk l = true ∧ l.length ≤ 12 := by
  unfold ledgerOk at h;rw [Bool.and_eq_true, inr_iff] at h;refine ⟨h.1, h.2, ?_⟩;have h2 := h.2;unfold acctsOk at h2;simp only [Bool.and_eq_true, decide_eq_true_eq] at h2;exact h2.2.1
end Go.Proofs.Ytcbpfofkdipjhaa.PM
