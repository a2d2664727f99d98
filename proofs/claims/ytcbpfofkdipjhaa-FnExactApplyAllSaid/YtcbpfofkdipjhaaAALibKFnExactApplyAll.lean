/- What the marks on accounts and leaves compute, and that they are found again. No condition but sizes. -/
import Derived.Test.YtcbpfofkdipjhaaAAPJx0
import Derived.Test.YtcbpfofkdipjhaaAAPJx3
import Derived.Test.YtcbpfofkdipjhaaAAPJx4
import Derived.Test.YtcbpfofkdipjhaaAAPJx5
import Derived.Test.YtcbpfofkdipjhaaAALibMFnExactApplyAll
import Derived.Test.YtcbpfofkdipjhaaAALibAFnExactApplyAll
namespace Go.Proofs.Ytcbpfofkdipjhaa.PJ
open Go.RowKit Go.Proofs.YtcbpfofkdipjhaaW.PrintWords Go.Proofs.YtcbpfofkdipjhaaW.PrintLast Go.Proofs.YtcbpfofkdipjhaaW.PrintMore Go.Proofs.Ytcbpfofkdipjhaa.Base
set_option linter.unusedVariables false
set_option linter.unusedSimpArgs false
theorem take_set_snoc {α : Type} {x : List α} {i : Nat} (h : i < x.length) (a : α) : (x.set i a).take (i + 1) = x.take i ++ [a] := by
  rw [take_snoc (by rw [List.length_set]; exact h), List.getElem_set_self, List.take_set_of_le (Nat.le_refl _)]
theorem drop_set_past {α : Type} {x : List α} {i : Nat} (a : α) : (x.set i a).drop (i + 1) = x.drop (i + 1) := List.drop_set_of_lt (Nat.lt_succ_self _)
theorem drop_head {α : Type} {y : List α} {i : Nat} {a : α} {t : List α} (h : y.drop i = a :: t) : ∃ hlt : i < y.length, y[i] = a ∧ y.drop (i + 1) = t := by
  have hlt : i < y.length := by
    by_cases c : i < y.length
    · exact c
    · rw [List.drop_of_length_le (by omega)] at h
      exact absurd h (by simp)
  rw [drop_cons hlt] at h
  injection h with h1 h2
  exact ⟨hlt, h1, h2⟩
theorem drop_end {α : Type} {y : List α} {i : Nat} (h : y.drop i = []) : ¬ i < y.length := by
  intro c;rw [drop_cons c] at h;exact List.cons_ne_nil _ _ h
def mkL : List S65 → Int → List S65
  | [], _ => []
  | _ :: t, m => ⟨m, m + 1⟩ :: mkL t (m + 2)
theorem mkL_length : ∀ (t : List S65) (m : Int), (mkL t m).length = t.length
  | [], _ => rfl
  | _ :: t, m => by simp [mkL, mkL_length t]
theorem markLv_l : ∀ (d i : Nat) (x : List S65) (m : Int), i + d = x.length → x.length ≤ 5000000000000 → 0 ≤ m → m + 2 * (d : Int) ≤ 10000000000000 → Ev (fun k => laws_markLeaveS.l0 k x m (i : Int)) (m + 2 * (d : Int), x.take i ++ mkL (x.drop i) m) := by
  intro d
  induction d with
  | zero =>
    intro i x m hi hx h0 hm
    refine evOne fun k => ?_
    simp only [laws_markLeaveS.l0];rw [if_neg (by omega), List.drop_of_length_le (by omega), List.take_of_length_le (by omega)];simp [mkL]
  | succ d ih =>
    intro i x m hi hx h0 hm
    have hlt : i < x.length := by omega
    have ih' := ih (i + 1) (x.set i (⟨m, m + 1⟩ : S65)) (m + 2) (by rw [List.length_set]; omega) (by rw [List.length_set]; omega) (by omega) (by omega);rw [take_set_snoc hlt, drop_set_past, List.append_assoc] at ih';refine Ev.step (f := fun k => laws_markLeaveS.l0 k (x.set i (⟨m, m + 1⟩ : S65)) (m + 2) ((i + 1 : Nat) : Int)) (fun k => ?_) (evEq ih' (by rw [drop_cons hlt]; refine Prod.ext (by dsimp only; omega) rfl));simp only [laws_markLeaveS.l0, Option.bind_some];rw [if_pos (by omega), if_pos (by omega), w64 (x := m + 1) (by omega) (by omega), w64 (x := m + 1 + 1) (by omega) (by omega), w64 (x := (i : Int) + 1) (by omega) (by omega), Int.toNat_natCast, List.set_set];rw [show (rd_T65 (x.set i (⟨m, (rd_T65 x (i : Int)).f1⟩ : S65)) (i : Int)).f0 = m by rw [rdIL_get (by rw [List.length_set]; exact hlt), List.getElem_set_self], show m + 1 + 1 = m + 2 by omega];rfl
theorem markLv_ev (x : List S65) (m : Int) (hx : x.length ≤ 5000000000000) (h0 : 0 ≤ m) (hm : m + 2 * (x.length : Int) ≤ 10000000000000) : Ev (fun k => laws_markLeaveS.f k x m) (m + 2 * (x.length : Int), mkL x m) := by
  have h := markLv_l x.length 0 x m (by omega) hx h0 hm;rw [List.take_zero, List.drop_zero, List.nil_append] at h;exact h
theorem heldLv_l : ∀ (t : List S65) (i : Nat) (y : List S65) (m : Int), y.drop i = mkL t m → y.length ≤ 5000000000000 → 0 ≤ m → m + 2 * (t.length : Int) ≤ 10000000000000 → Ev (fun k => laws_heldLeaveS.l0 k y m (i : Int)) (m + 2 * (t.length : Int)) := by
  intro t
  induction t with
  | nil =>
    intro i y m hd hy h0 hm;have := drop_end (hd.trans rfl)
    refine evOne fun k => ?_
    simp only [laws_heldLeaveS.l0];rw [if_neg (by omega)];simp
  | cons a t ih =>
    intro i y m hd hy h0 hm;obtain ⟨hlt, ha, ht⟩ := drop_head (hd.trans rfl)
    have hl : ((a :: t).length : Int) = (t.length : Int) + 1 := by simp
    rw [hl] at hm;have ih' := ih (i + 1) y (m + 2) ht hy (by omega) (by omega);refine Ev.step (f := fun k => laws_heldLeaveS.l0 k y (m + 2) ((i + 1 : Nat) : Int)) (fun k => ?_) (evEq ih' (by rw [hl]; omega));simp only [laws_heldLeaveS.l0];rw [if_pos (by omega), if_pos (by omega), rdIL_get hlt, ha, w64 (x := m + 1) (by omega) (by omega), if_pos rfl, if_pos rfl, w64 (x := m + 1 + 1) (by omega) (by omega), w64 (x := (i : Int) + 1) (by omega) (by omega), show m + 1 + 1 = m + 2 by omega];rfl
theorem heldLv_ev (x : List S65) (m : Int) (hx : x.length ≤ 5000000000000) (h0 : 0 ≤ m) (hm : m + 2 * (x.length : Int) ≤ 10000000000000) : Ev (fun k => laws_heldLeaveS.f k (mkL x m) m) (m + 2 * (x.length : Int)) :=
  heldLv_l x 0 (mkL x m) m (List.drop_zero) (by rw [mkL_length]; exact hx) h0 hm
noncomputable def mkA : List S63 → Int → List S63
  | [], _ => []
  | s :: t, m => ⟨mtext m, m + 1, m + 2, m + 3, mkL s.f4 (m + 4)⟩ :: mkA t (m + 4 + 2 * (s.f4.length : Int))
def endA : List S63 → Int → Int
  | [], m => m
  | s :: t, m => endA t (m + 4 + 2 * (s.f4.length : Int))
theorem endA_ge : ∀ (t : List S63) (m : Int), m + 4 * (t.length : Int) ≤ endA t m
  | [], m => by simp [endA]
  | s :: t, m => by
    have := endA_ge t (m + 4 + 2 * (s.f4.length : Int));rw [show ((s :: t).length : Int) = (t.length : Int) + 1 by simp, show endA (s :: t) m = endA t (m + 4 + 2 * (s.f4.length : Int)) from rfl]
    omega
theorem endA_le (B : Nat) : ∀ (t : List S63) (m : Int), (∀ s ∈ t, s.f4.length ≤ B) → endA t m ≤ m + (t.length : Int) * (4 + 2 * (B : Int))
  | [], m, _ => by simp [endA]
  | s :: t, m, h => by
    have h1 := endA_le B t (m + 4 + 2 * (s.f4.length : Int)) (fun x hx => h x (List.mem_cons_of_mem _ hx));have h2 := h s (List.mem_cons_self ..);rw [show ((s :: t).length : Int) = (t.length : Int) + 1 by simp, show endA (s :: t) m = endA t (m + 4 + 2 * (s.f4.length : Int)) from rfl, Int.add_mul]
    omega
theorem mkA_length : ∀ (t : List S63) (m : Int), (mkA t m).length = t.length
  | [], _ => rfl
  | _ :: t, m => by simp [mkA, mkA_length t]
theorem markA_l : ∀ (d i : Nat) (x : List S63) (m : Int), i + d = x.length → 0 ≤ m → endA (x.drop i) m ≤ 10000000000000 → Ev (fun k => laws_markAcctS.l0 k x m i) (endA (x.drop i) m, x.take i ++ mkA (x.drop i) m) := by
  intro d
  induction d with
  | zero =>
    intro i x m hi h0 hm
    refine evOne fun k => ?_
    simp only [laws_markAcctS.l0];rw [if_neg (by omega), List.drop_of_length_le (by omega), List.take_of_length_le (by omega)];simp [mkA, endA]
  | succ d ih =>
    intro i x m hi h0 hm
    have hlt : i < x.length := by omega
    have hg : x.getD i z63 = x[i] := by rw [List.getD_eq_getElem?_getD, List.getElem?_eq_getElem hlt]; rfl
    rw [drop_cons hlt] at hm ⊢;have he : endA (x[i] :: x.drop (i + 1)) m = endA (x.drop (i + 1)) (m + 4 + 2 * (x[i].f4.length : Int)) := rfl;rw [he] at hm ⊢;have hge := endA_ge (x.drop (i + 1)) (m + 4 + 2 * (x[i].f4.length : Int));have hlv := markLv_ev x[i].f4 (m + 4) (by omega) (by omega) (by omega);have ht := markText_ev m h0 (by omega);have ih' := ih (i + 1) (x.set i (⟨mtext m, m + 1, m + 2, m + 3, mkL x[i].f4 (m + 4)⟩ : S63)) (m + 4 + 2 * (x[i].f4.length : Int)) (by rw [List.length_set]; omega) (by omega) (by rw [drop_set_past]; exact hm);rw [take_set_snoc hlt, drop_set_past, List.append_assoc] at ih';have e1 : wrap64 (m + 1) = m + 1 := w64 (by omega) (by omega)
    have e2 : wrap64 (m + 1 + 1) = m + 2 := by rw [w64 (by omega) (by omega)]; omega
    have e3 : wrap64 (m + 2 + 1) = m + 3 := by rw [w64 (by omega) (by omega)]; omega
    have e4 : wrap64 (m + 3 + 1) = m + 4 := by rw [w64 (by omega) (by omega)]; omega
    refine Ev.step (f := fun k => (laws_markText.f k m).bind fun tx => (laws_markLeaveS.f k x[i].f4 (m + 4)).bind fun p => laws_markAcctS.l0 k (x.set i (⟨tx, m + 1, m + 2, m + 3, p.2⟩ : S63)) p.1 (i + 1)) (fun k => ?_) (Ev.bind ht (Ev.bind hlv ih'));simp only [laws_markAcctS.l0];rw [if_pos hlt, hg, e1, e2, e3, e4]
theorem markA_ev (x : List S63) (m : Int) (h0 : 0 ≤ m) (hm : endA x m ≤ 10000000000000) : Ev (fun k => laws_markAcctS.f k x m) (endA x m, mkA x m) := by
  have h := markA_l x.length 0 x m (by omega) h0 (by rw [List.drop_zero]; exact hm);rw [List.take_zero, List.drop_zero, List.nil_append] at h;exact h
theorem heldA_l : ∀ (t : List S63) (i : Nat) (y : List S63) (m : Int), y.drop i = mkA t m → y.length ≤ 5000000000000 → 0 ≤ m → endA t m ≤ 10000000000000 → Ev (fun k => laws_heldAcctS.l0 k y m (i : Int)) (endA t m) := by
  intro t
  induction t with
  | nil =>
    intro i y m hd hy h0 hm;have := drop_end (hd.trans rfl)
    refine evOne fun k => ?_
    simp only [laws_heldAcctS.l0];rw [if_neg (by omega)];rfl
  | cons a t ih =>
    intro i y m hd hy h0 hm;obtain ⟨hlt, ha, ht⟩ := drop_head (hd.trans rfl);have he : endA (a :: t) m = endA t (m + 4 + 2 * (a.f4.length : Int)) := rfl;rw [he] at hm ⊢;have hge := endA_ge t (m + 4 + 2 * (a.f4.length : Int));have hlv := heldLv_ev a.f4 (m + 4) (by omega) (by omega) (by omega);have htx := markText_ev m h0 (by omega);have ih' := ih (i + 1) y (m + 4 + 2 * (a.f4.length : Int)) ht hy (by omega) hm;have e1 : wrap64 (m + 1) = m + 1 := w64 (by omega) (by omega)
    have e2 : wrap64 (m + 1 + 1) = m + 2 := by rw [w64 (by omega) (by omega)]; omega
    have e3 : wrap64 (m + 2 + 1) = m + 3 := by rw [w64 (by omega) (by omega)]; omega
    have e4 : wrap64 (m + 3 + 1) = m + 4 := by rw [w64 (by omega) (by omega)]; omega
    refine Ev.step (f := fun k => (laws_markText.f k m).bind fun tx => if (mtext m).toList = tx.toList then (laws_heldLeaveS.f k (mkL a.f4 (m + 4)) (m + 4)).bind fun q => (if q < 0 then some (-1) else laws_heldAcctS.l0 k y q ((i + 1 : Nat) : Int)) else some (-1)) (fun k => ?_) (Ev.bind htx (evPos rfl (Ev.bind hlv (evNeg (by omega) (evEq ih' rfl)))));simp only [laws_heldAcctS.l0];rw [if_pos (by omega), if_pos (by omega), rdIA_get hlt, ha, e1, e2, e3, e4, if_pos rfl, if_pos rfl, if_pos rfl, w64 (x := (i : Int) + 1) (by omega) (by omega)];rfl
theorem heldA_ev (x : List S63) (m : Int) (hx : x.length ≤ 5000000000000) (h0 : 0 ≤ m) (hm : endA x m ≤ 10000000000000) : Ev (fun k => laws_heldAcctS.f k (mkA x m) m) (endA x m) :=
  heldA_l x 0 (mkA x m) m (List.drop_zero) (by rw [mkA_length]; exact hx) h0 hm
theorem endA_one (x : List S63) (hx : x.length ≤ 1100000) (hs : ∀ s ∈ x, s.f4.length ≤ 1100000) : 1 ≤ endA x 1 ∧ endA x 1 ≤ 10000000000000 := by
  have h1 := endA_ge x 1;have h2 := endA_le 1100000 x 1 hs;have h3 : (x.length : Int) * (4 + 2 * ((1100000 : Nat) : Int)) ≤ 1100000 * (4 + 2 * ((1100000 : Nat) : Int)) := Int.mul_le_mul_of_nonneg_right (by omega) (by decide)
  have h4 : (1100000 : Int) * (4 + 2 * ((1100000 : Nat) : Int)) ≤ 3000000000000 := by decide
  exact ⟨by omega, by omega⟩
end Go.Proofs.Ytcbpfofkdipjhaa.PJ
