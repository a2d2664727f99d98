/- The plain law of FnExactGetNames: what it computes is always true. -/
import Derived.Test.YtcmlbjlbgcdogaaPHx0
import Derived.Test.YtcmlbjlbgcdogaaPHx5
import Derived.Test.YtcmlbjlbgcdogaaLibDFnExactGetNames
import Derived.Test.YtcmlbjlbgcdogaaTelH
namespace Go.Proofs.Ytcmlbjlbgcdogaa.Pure
open Go.RowKit Go.Proofs.YtcmlbjlbgcdogaaW.PrintWords Go.Proofs.YtcmlbjlbgcdogaaW.PrintLast Go.Proofs.YtcmlbjlbgcdogaaW.PrintMore Go.Proofs.Ytcmlbjlbgcdogaa.Base Go.Proofs.Ytcmlbjlbgcdogaa.PH
set_option linter.unusedVariables false
theorem gnames_len (b : List Int) : ∀ (d : Nat) (p : Int) (acc : List ByteArray), (gnames b d p acc).1.length ≤ acc.length + d := by
  intro d
  induction d with
  | zero => intro p acc; simp [gnames]
  | succ d ih =>
    intro p acc
    simp only [gnames]
    split
    · have := ih (gtext b p).2.1 (acc ++ [(gtext b p).1])
      simp only [List.length_append, List.length_cons, List.length_nil] at this
      omega
    · simp
theorem gnamesOf_len (b : List Int) (p : Int) : (gnamesOf b p).1.length ≤ 100 := by
  unfold gnamesOf
  split
  · rename_i h
    have := gnames_len b (gnum b p).1.toNat (gnum b p).2.1 []
    simp only [List.length_nil] at this
    omega
  · simp
theorem FnExactGetNames : ∀ (l0 : (List Int)) (a1 : Int), (l0.length ≤ maxLen ∧ ∀ x ∈ l0, (Lit.int .u8 x).wf = true) → ((Lit.int .i64 a1).wf = true) → ∃ k, laws_FnExactGetNames.f k l0 a1 = some true := by
  intro l0 a1 hw ha
  refine Ev.rounds (g := fun k => laws_FnExactGetNames.f k l0 a1) ?_
  simp only [laws_FnExactGetNames.f]
  by_cases hbig : (l0.length : Int) > 1048576
  · exact evPos hbig (Ev.now _)
  · have hb := AllB.of_wf hw.2
    have ht := toByteS_ev l0 (by omega)
    have hs := sGetNames_ev l0 hb (by omega) a1
    have hi := iGetNames_ev l0 hb (by omega) a1 (wf_i64 ha)
    have hlen := gnamesOf_len l0 a1
    generalize gnamesOf l0 a1 = r at hs hi hlen
    obtain ⟨x, p, o⟩ := r
    dsimp only at hlen
    have hx := eqStringS_ev x x (by omega)
    have he := eqByteS_ev l0 l0 (by omega)
    have hm := markByteS_ev l0 1 (by omega) (by omega)
    have hmS := markStringS_ev x 1 (by omega) (by omega)
    have hh := heldStringS_ev x 1 (by omega) (by omega)
    have j2 : Ev (fun k => laws_FnExactGetNames.j2 k (marks x 1) (1 + (x.length : Int)) false) true := by
      refine Ev.step (f := fun k => (laws_heldStringS.f k (marks x 1) 1).bind fun t202 => (if t202 < 0 then (some false) else (if t202 = 1 + (x.length : Int) then (some true) else (some false)))) (fun k => ?_) (Ev.bind hh (evNeg (by omega) (evPos rfl (Ev.now _))))
      simp only [laws_FnExactGetNames.j2]
      exact if_neg (by simp)
    have j1 : Ev (fun k => laws_FnExactGetNames.j1 k l0 a1 x p o x false) true := by
      refine Ev.step (f := fun k => ((laws_markStringS.f k x 1).bind fun bt190 => ((laws_heldStringS.f k bt190.2 1).bind fun t192 => (if t192 < 0 then (some false) else (if t192 = bt190.1 then ((laws_toByteS.f k l0).bind fun t193 => ((impl_GetNames.f k t193 a1).bind fun bt196 => ((laws_eqStringS.f k bt196.1 x).bind fun t201 => (if t201 = true then (if bt196.2.1 = p then (laws_FnExactGetNames.j2 k bt190.2 bt190.1 (bt196.2.2 != o)) else (laws_FnExactGetNames.j2 k bt190.2 bt190.1 true)) else (laws_FnExactGetNames.j2 k bt190.2 bt190.1 true))))) else (some false)))))) (fun k => ?_) (Ev.bind hmS (Ev.bind hh (evNeg (by omega) (evPos rfl (Ev.bind ht (Ev.bind hi (Ev.bind hx (evPos (by simp) (evPos rfl ?_)))))))))
      · simp only [laws_FnExactGetNames.j1]
        exact if_neg (by simp)
      · simpa using j2
    have j0 : Ev (fun k => laws_FnExactGetNames.j0 k l0 a1 x p o l0 x p o false) true := by
      refine Ev.step (f := fun k => ((laws_toByteS.f k l0).bind fun t183 => ((laws_eqByteS.f k l0 t183).bind fun t186 => (if t186 = true then ((laws_markByteS.f k l0 1).bind fun bt187 => (if bt187.1 < 0 then (laws_FnExactGetNames.j1 k l0 a1 x p o x true) else ((laws_eqStringS.f k x x).bind fun t189 => (if t189 = true then (if p = p then (laws_FnExactGetNames.j1 k l0 a1 x p o x (o != o)) else (laws_FnExactGetNames.j1 k l0 a1 x p o x true)) else (laws_FnExactGetNames.j1 k l0 a1 x p o x true))))) else (some false))))) (fun k => ?_) (Ev.bind ht (Ev.bind he (evPos (by simp) (Ev.bind hm (evNeg (by dsimp only; omega) (Ev.bind hx (evPos (by simp) (evPos rfl ?_))))))))
      · simp only [laws_FnExactGetNames.j0]
        exact if_neg (by simp)
      · simpa using j1
    refine evNeg hbig (Ev.bind ht (Ev.bind hs (Ev.bind ht (Ev.bind hi (Ev.bind hx (evPos (by simp) (evPos rfl ?_)))))))
    simpa using j0
end Go.Proofs.Ytcmlbjlbgcdogaa.Pure
