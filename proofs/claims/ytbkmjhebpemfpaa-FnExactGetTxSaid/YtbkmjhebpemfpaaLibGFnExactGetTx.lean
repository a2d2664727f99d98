/- What GetTx computes, of the program and of the reference: the plain function 'gtxOf'. No condition but sizes. -/
import Derived.Test.YtbkmjhebpemfpaaPEx0
import Derived.Test.YtbkmjhebpemfpaaPEx2
import Derived.Test.YtbkmjhebpemfpaaPEx4
import Derived.Test.YtbkmjhebpemfpaaLibPFnExactGetTx
namespace Go.Proofs.Ytbkmjhebpemfpaa.PE
open Go.RowKit Go.Proofs.YtbkmjhebpemfpaaW.PrintWords Go.Proofs.YtbkmjhebpemfpaaW.PrintLast Go.Proofs.YtbkmjhebpemfpaaW.PrintMore Go.Proofs.Ytbkmjhebpemfpaa.Base
set_option linter.unusedVariables false
def gtxOf (b : List Int) (p : Int) : Int × ByteArray × ByteArray × Int × Int × Int × Bool :=
  if (gnum b p).2.2 = true ∧ (gtext b (gnum b p).2.1).2.2 = true ∧ (gtext b (gtext b (gnum b p).2.1).2.1).2.2 = true ∧ (gnum b (gtext b (gtext b (gnum b p).2.1).2.1).2.1).2.2 = true ∧ (gnum b (gnum b (gtext b (gtext b (gnum b p).2.1).2.1).2.1).2.1).2.2 = true ∧
      txOk (gnum b p).1 (gtext b (gnum b p).2.1).1 (gtext b (gtext b (gnum b p).2.1).2.1).1 (gnum b (gtext b (gtext b (gnum b p).2.1).2.1).2.1).1 (gnum b (gnum b (gtext b (gtext b (gnum b p).2.1).2.1).2.1).2.1).1 = true then
    ((gnum b p).1, (gtext b (gnum b p).2.1).1, (gtext b (gtext b (gnum b p).2.1).2.1).1, (gnum b (gtext b (gtext b (gnum b p).2.1).2.1).2.1).1, (gnum b (gnum b (gtext b (gtext b (gnum b p).2.1).2.1).2.1).2.1).1, (gnum b (gnum b (gtext b (gtext b (gnum b p).2.1).2.1).2.1).2.1).2.1, true)
  else (0, (⟨#[]⟩ : ByteArray), (⟨#[]⟩ : ByteArray), 0, 0, 0, false)
theorem gtext_size (b : List Int) (p : Int) : (gtext b p).1.size ≤ b.length := by
  unfold gtext
  split
  · rw [strOfNums_size]
    simp only [List.length_drop, List.length_take]
    omega
  · exact Nat.zero_le _
theorem sGetTx_ev (b : List Int) (hb : AllB b) (hl : b.length ≤ 281474976710656) (p : Int) : Ev (fun k => spec_GetTx.f k b p) (gtxOf b p) := by
  simp only [spec_GetTx.f]
  refine Ev.bind (sGetNum_ev b hb hl p) (Ev.bind (sGetText_ev b hb hl _) (Ev.bind (sGetText_ev b hb hl _) (Ev.bind (sGetNum_ev b hb hl _) (Ev.bind (sGetNum_ev b hb hl _) ?_))))
  unfold gtxOf
  have z1 := gtext_size b (gnum b p).2.1
  have z2 := gtext_size b (gtext b (gnum b p).2.1).2.1
  generalize gnum b p = r1 at *
  generalize gtext b r1.2.1 = r2 at *
  generalize gtext b r2.2.1 = r3 at *
  generalize gnum b r3.2.1 = r4 at *
  generalize gnum b r4.2.1 = r5 at *
  have jt : Ev (fun k => spec_GetTx.j0 k r1.1 r2.1 r3.1 r4.1 r5.1 r5.2.1 true 0 (⟨#[]⟩ : ByteArray) (⟨#[]⟩ : ByteArray) 0 0) ((0, (⟨#[]⟩ : ByteArray), (⟨#[]⟩ : ByteArray), 0, 0, 0, false) : Int × ByteArray × ByteArray × Int × Int × Int × Bool) := evOne fun k => by simp [spec_GetTx.j0]
  by_cases h1 : r1.2.2 = true
  · refine evPos h1 ?_
    by_cases h2 : r2.2.2 = true
    · refine evPos h2 ?_
      by_cases h3 : r3.2.2 = true
      · refine evPos h3 ?_
        by_cases h4 : r4.2.2 = true
        · refine evPos h4 ?_
          by_cases h5 : r5.2.2 = true
          · rw [h5]
            refine Ev.step (f := fun k => (spec_TxOk.f k r1.1 r2.1 r3.1 r4.1 r5.1).bind fun t136 => (if t136 = true then (some (r1.1, r2.1, r3.1, r4.1, r5.1, r5.2.1, true)) else (some (0, (⟨#[]⟩ : ByteArray), (⟨#[]⟩ : ByteArray), 0, 0, 0, false)))) (fun k => ?_) (Ev.bind (sTxOk_ev r1.1 r2.1 r3.1 r4.1 r5.1 (by omega) (by omega)) ?_)
            · simp only [spec_GetTx.j0]
              exact if_neg (by simp)
            · by_cases h6 : txOk r1.1 r2.1 r3.1 r4.1 r5.1 = true
              · exact evPos h6 (evEq (Ev.now _) (by rw [if_pos ⟨h1, h2, h3, h4, rfl, h6⟩]))
              · exact evNeg h6 (evEq (Ev.now _) (by rw [if_neg (fun h => h6 h.2.2.2.2.2)]))
          · rw [Bool.not_eq_true] at h5
            rw [h5]
            exact evEq jt (by rw [if_neg (fun h => by simp at h)])
        · exact evNeg h4 (evEq jt (by rw [if_neg (fun h => h4 h.2.2.2.1)]))
      · exact evNeg h3 (evEq jt (by rw [if_neg (fun h => h3 h.2.2.1)]))
    · exact evNeg h2 (evEq jt (by rw [if_neg (fun h => h2 h.2.1)]))
  · exact evNeg h1 (evEq jt (by rw [if_neg (fun h => h1 h.1)]))
def numP (b : List Int) (p : Int) (bad : Bool) : Int × Int × Bool := if bad = true then (0, p, true) else if (gnum b p).2.2 = true then ((gnum b p).1, (gnum b p).2.1, false) else (0, p, true)
def textP (b : List Int) (p : Int) (bad : Bool) : ByteArray × Int × Bool := if bad = true then ((⟨#[]⟩ : ByteArray), p, true) else if (gtext b p).2.2 = true then ((gtext b p).1, (gtext b p).2.1, false) else ((⟨#[]⟩ : ByteArray), p, true)
def R64 (p : Int) : Prop := -9223372036854775808 ≤ p ∧ p ≤ 9223372036854775807
theorem numP_ev (b : List Int) (hb : AllB b) (hl : b.length ≤ 281474976710656) (p : Int) (hp : R64 p) (bad : Bool) : Ev (fun k => gnumS k b p bad) (numP b p bad) := by
  simp only [gnumS]
  refine Ev.bind (iGetNum_ev b hb hl p hp) (evVal fun k => ?_)
  unfold numP
  cases bad with
  | true => rfl
  | false => cases (gnum b p).2.2 <;> rfl
theorem textP_ev (b : List Int) (hb : AllB b) (hl : b.length ≤ 281474976710656) (p : Int) (hp : R64 p) (bad : Bool) : Ev (fun k => gtextS k b p bad) (textP b p bad) := by
  simp only [gtextS]
  refine Ev.bind (iGetText_ev b hb hl p hp) (evVal fun k => ?_)
  unfold textP
  cases bad with
  | true => rfl
  | false => cases (gtext b p).2.2 <;> rfl
theorem numP_r (b : List Int) (hl : b.length ≤ 281474976710656) (p : Int) (hp : R64 p) (bad : Bool) : R64 (numP b p bad).2.1 := by
  unfold numP
  split
  · exact hp
  · split
    · rename_i h
      have := gnum_ok b p h
      unfold R64
      dsimp only
      omega
    · exact hp
theorem textP_r (b : List Int) (hl : b.length ≤ 281474976710656) (p : Int) (hp : R64 p) (bad : Bool) : R64 (textP b p bad).2.1 := by
  unfold textP
  split
  · exact hp
  · split
    · rename_i h
      have := gtext_ok b p h
      unfold R64
      dsimp only
      omega
    · exact hp
theorem textP_size (b : List Int) (p : Int) (bad : Bool) : (textP b p bad).1.size ≤ b.length := by
  unfold textP
  split
  · exact Nat.zero_le _
  · split
    · exact gtext_size b p
    · exact Nat.zero_le _
def txP (b : List Int) (p : Int) : Int × ByteArray × ByteArray × Int × Int × Int × Bool :=
  let a := numP b p false
  let f := textP b a.2.1 a.2.2
  let t := textP b f.2.1 f.2.2
  let m := numP b t.2.1 t.2.2
  let n := numP b m.2.1 m.2.2
  if (if txOk a.1 f.1 t.1 m.1 n.1 = true then n.2.2 else true) = true then (0, (⟨#[]⟩ : ByteArray), (⟨#[]⟩ : ByteArray), 0, 0, 0, false) else (a.1, f.1, t.1, m.1, n.1, n.2.1, true)
theorem numP_bad (b : List Int) (p : Int) : numP b p true = (0, p, true) := rfl
theorem textP_bad (b : List Int) (p : Int) : textP b p true = ((⟨#[]⟩ : ByteArray), p, true) := rfl
theorem numP_ok (b : List Int) (p : Int) (h : (gnum b p).2.2 = true) : numP b p false = ((gnum b p).1, (gnum b p).2.1, false) := by simp [numP, h]
theorem numP_no (b : List Int) (p : Int) (h : ¬ (gnum b p).2.2 = true) : numP b p false = (0, p, true) := by simp [numP, h]
theorem textP_ok (b : List Int) (p : Int) (h : (gtext b p).2.2 = true) : textP b p false = ((gtext b p).1, (gtext b p).2.1, false) := by simp [textP, h]
theorem textP_no (b : List Int) (p : Int) (h : ¬ (gtext b p).2.2 = true) : textP b p false = ((⟨#[]⟩ : ByteArray), p, true) := by simp [textP, h]
theorem ite_true_true (c : Prop) [Decidable c] : (if c then true else true) = true := by split <;> rfl
theorem txP_eq (b : List Int) (p : Int) : txP b p = gtxOf b p := by
  unfold txP gtxOf
  dsimp only
  by_cases h1 : (gnum b p).2.2 = true
  · rw [numP_ok b p h1]
    dsimp only
    generalize gnum b p = r1 at *
    by_cases h2 : (gtext b r1.2.1).2.2 = true
    · rw [textP_ok _ _ h2]
      dsimp only
      generalize gtext b r1.2.1 = r2 at *
      by_cases h3 : (gtext b r2.2.1).2.2 = true
      · rw [textP_ok _ _ h3]
        dsimp only
        generalize gtext b r2.2.1 = r3 at *
        by_cases h4 : (gnum b r3.2.1).2.2 = true
        · rw [numP_ok _ _ h4]
          dsimp only
          generalize gnum b r3.2.1 = r4 at *
          by_cases h5 : (gnum b r4.2.1).2.2 = true
          · rw [numP_ok _ _ h5]
            dsimp only
            generalize gnum b r4.2.1 = r5 at *
            by_cases h6 : txOk r1.1 r2.1 r3.1 r4.1 r5.1 = true
            · rw [if_pos h6, if_neg (by simp), if_pos ⟨h1, h2, h3, h4, h5, h6⟩]
            · rw [if_neg h6, if_pos rfl, if_neg (fun h => h6 h.2.2.2.2.2)]
          · rw [numP_no _ _ h5]
            dsimp only
            rw [ite_true_true, if_pos rfl, if_neg (fun h => h5 h.2.2.2.2.1)]
        · rw [numP_no _ _ h4]
          dsimp only
          rw [numP_bad]
          dsimp only
          rw [ite_true_true, if_pos rfl, if_neg (fun h => h4 h.2.2.2.1)]
      · rw [textP_no _ _ h3]
        dsimp only
        rw [numP_bad]
        dsimp only
        rw [numP_bad]
        dsimp only
        rw [ite_true_true, if_pos rfl, if_neg (fun h => h3 h.2.2.1)]
    · rw [textP_no _ _ h2]
      dsimp only
      rw [textP_bad]
      dsimp only
      rw [numP_bad]
      dsimp only
      rw [numP_bad]
      dsimp only
      rw [ite_true_true, if_pos rfl, if_neg (fun h => h2 h.2.1)]
  · rw [numP_no _ _ h1]
    dsimp only
    rw [textP_bad]
    dsimp only
    rw [textP_bad]
    dsimp only
    rw [numP_bad]
    dsimp only
    rw [numP_bad]
    dsimp only
    rw [ite_true_true, if_pos rfl, if_neg (fun h => h1 h.1)]
theorem iGetTx_ev (b : List Int) (hb : AllB b) (hl : b.length ≤ 281474976710656) (p : Int) (hp : R64 p) : Ev (fun k => impl_GetTx.f k b p) (gtxOf b p) := by
  rw [← txP_eq]
  simp only [impl_GetTx.f, gtxS]
  have r1 := numP_r b hl p hp false
  have r2 := textP_r b hl _ r1 (numP b p false).2.2
  have r3 := textP_r b hl _ r2 (textP b (numP b p false).2.1 (numP b p false).2.2).2.2
  have r4 := numP_r b hl _ r3 (textP b (textP b (numP b p false).2.1 (numP b p false).2.2).2.1 (textP b (numP b p false).2.1 (numP b p false).2.2).2.2).2.2
  have z2 := textP_size b (numP b p false).2.1 (numP b p false).2.2
  have z3 := textP_size b (textP b (numP b p false).2.1 (numP b p false).2.2).2.1 (textP b (numP b p false).2.1 (numP b p false).2.2).2.2
  have e1 := numP_ev b hb hl p hp false
  have e2 := textP_ev b hb hl _ r1 (numP b p false).2.2
  have e3 := textP_ev b hb hl _ r2 (textP b (numP b p false).2.1 (numP b p false).2.2).2.2
  have e4 := numP_ev b hb hl _ r3 (textP b (textP b (numP b p false).2.1 (numP b p false).2.2).2.1 (textP b (numP b p false).2.1 (numP b p false).2.2).2.2).2.2
  have e5 := numP_ev b hb hl _ r4 (numP b (textP b (textP b (numP b p false).2.1 (numP b p false).2.2).2.1 (textP b (numP b p false).2.1 (numP b p false).2.2).2.2).2.1 (textP b (textP b (numP b p false).2.1 (numP b p false).2.2).2.1 (textP b (numP b p false).2.1 (numP b p false).2.2).2.2).2.2).2.2
  have hx := iTxOk_ev (numP b p false).1 (textP b (numP b p false).2.1 (numP b p false).2.2).1 (textP b (textP b (numP b p false).2.1 (numP b p false).2.2).2.1 (textP b (numP b p false).2.1 (numP b p false).2.2).2.2).1 (numP b (textP b (textP b (numP b p false).2.1 (numP b p false).2.2).2.1 (textP b (numP b p false).2.1 (numP b p false).2.2).2.2).2.1 (textP b (textP b (numP b p false).2.1 (numP b p false).2.2).2.1 (textP b (numP b p false).2.1 (numP b p false).2.2).2.2).2.2).1 (numP b (numP b (textP b (textP b (numP b p false).2.1 (numP b p false).2.2).2.1 (textP b (numP b p false).2.1 (numP b p false).2.2).2.2).2.1 (textP b (textP b (numP b p false).2.1 (numP b p false).2.2).2.1 (textP b (numP b p false).2.1 (numP b p false).2.2).2.2).2.2).2.1 (numP b (textP b (textP b (numP b p false).2.1 (numP b p false).2.2).2.1 (textP b (numP b p false).2.1 (numP b p false).2.2).2.2).2.1 (textP b (textP b (numP b p false).2.1 (numP b p false).2.2).2.1 (textP b (numP b p false).2.1 (numP b p false).2.2).2.2).2.2).2.2).1 (by omega) (by omega)
  refine Ev.bind (Ev.bind e1 (Ev.bind e2 (Ev.bind e3 (Ev.bind e4 (Ev.bind e5 (Ev.bind hx (Ev.now _))))))) (evVal fun k => ?_)
  unfold txP
  dsimp only
  rw [apply_ite some]
end Go.Proofs.Ytbkmjhebpemfpaa.PE
