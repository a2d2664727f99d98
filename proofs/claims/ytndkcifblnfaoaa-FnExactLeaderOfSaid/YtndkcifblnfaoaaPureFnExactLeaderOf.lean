/- The plain law of FnExactLeaderOf: what it computes is always true. -/
import Derived.Test.YtndkcifblnfaoaaPAx0
import Derived.Test.YtndkcifblnfaoaaPAx7
import Derived.Test.YtndkcifblnfaoaaLibSA
import Derived.Test.YtndkcifblnfaoaaTelA
namespace Go.Proofs.Ytndkcifblnfaoaa.Pure
open Go.RowKit Go.Proofs.YtndkcifblnfaoaaW.PrintWords Go.Proofs.YtndkcifblnfaoaaW.PrintLast Go.Proofs.YtndkcifblnfaoaaW.PrintMore Go.Proofs.Ytndkcifblnfaoaa.Base Go.Proofs.Ytndkcifblnfaoaa.PA
set_option linter.unusedVariables false
abbrev toV (s : S101) : S102 := ⟨s.f0, s.f1⟩
theorem rdV_get {xs : List S101} {i : Nat} (h : i < xs.length) : rd_T101 xs (i : Int) = xs[i] := by
  unfold rd_T101
  rw [Int.toNat_natCast, List.getD_eq_getElem?_getD, List.getElem?_eq_getElem h]
  rfl
theorem rdV2_get {xs : List S102} {i : Nat} (h : i < xs.length) : rd_T102 xs (i : Int) = xs[i] := by
  unfold rd_T102
  rw [Int.toNat_natCast, List.getD_eq_getElem?_getD, List.getElem?_eq_getElem h]
  rfl
theorem szValS_l (x0 : List S101) (h : x0.length ≤ 9223372036854775807) (hs : ∀ s ∈ x0, s.f0.size ≤ 9223372036854775807) : ∀ (d i : Nat) (v : Int), i + d = x0.length → 0 ≤ v → v ≤ 1048576 →
    ∃ r, Ev (fun k => laws_szValS.l0 k x0 v (i : Int)) r := by
  intro d
  induction d with
  | zero =>
    intro i v hi h0 h1
    refine ⟨v, evOne fun k => ?_⟩
    simp only [laws_szValS.l0]
    rw [if_neg (by omega)]
  | succ d ih =>
    intro i v hi h0 h1
    have hlt : i < x0.length := by omega
    have hsz := hs _ (List.getElem_mem hlt)
    have hw : wrap64 (v - (x0[i].f0.size : Int)) = v - (x0[i].f0.size : Int) := w64 (by omega) (by omega)
    by_cases hneg : v - (x0[i].f0.size : Int) < 0
    · refine ⟨-1, evOne fun k => ?_⟩
      simp only [laws_szValS.l0, laws_szVal.f]
      rw [if_pos (by omega), if_pos (by omega), rdV_get hlt, hw, if_pos hneg]
      rfl
    · obtain ⟨r, hr⟩ := ih (i + 1) (v - (x0[i].f0.size : Int)) (by omega) (by omega) (by omega)
      refine ⟨r, Ev.step (f := fun k => laws_szValS.l0 k x0 (v - (x0[i].f0.size : Int)) ((i + 1 : Nat) : Int)) (fun k => ?_) hr⟩
      simp only [laws_szValS.l0, laws_szVal.f]
      rw [if_pos (by omega), if_pos (by omega), rdV_get hlt, hw, if_neg hneg]
      simp only [Option.bind_some]
      rw [if_neg hneg, w64 (by omega) (by omega)]
      rfl
theorem toValS_l (x0 : List S101) (h : x0.length ≤ 281474976710656) : ∀ (d i : Nat) (x3 : List S102), i + d = x0.length → x3.length = x0.length → Ev (fun k => laws_toValS.l0 k x0 x3 (i : Int)) (x3.take i ++ (x0.map toV).drop i) := by
  intro d
  induction d with
  | zero =>
    intro i x3 hi hl
    refine evOne fun k => ?_
    simp only [laws_toValS.l0]
    rw [if_neg (by omega), List.take_of_length_le (by omega), List.drop_of_length_le (by simp; omega), List.append_nil]
  | succ d ih =>
    intro i x3 hi hl
    have hlt : i < (x0.map toV).length := by simp; omega
    have hlt0 : i < x0.length := by omega
    have h1 := ih (i + 1) (x3.set i (x0.map toV)[i]) (by omega) (by simp; exact hl)
    rw [set_step hlt (by simp; exact hl)] at h1
    refine Ev.step (f := fun k => laws_toValS.l0 k x0 (x3.set i (x0.map toV)[i]) ((i + 1 : Nat) : Int)) (fun k => ?_) h1
    simp only [laws_toValS.l0, laws_toVal.f, Option.bind_some]
    rw [if_pos (by omega), if_pos (by omega), if_pos (by omega), rdV_get hlt0, w64 (by omega) (by omega), Int.toNat_natCast]
    simp
theorem eqValS_l (x0 : List S102) (h : x0.length ≤ 281474976710656) : ∀ (d i : Nat), i + d = x0.length → Ev (fun k => laws_eqValS.l0 k x0 x0 (i : Int)) true := by
  intro d
  induction d with
  | zero =>
    intro i hi
    refine evOne fun k => ?_
    simp only [laws_eqValS.l0]
    rw [if_neg (by omega)]
  | succ d ih =>
    intro i hi
    refine Ev.step (f := fun k => laws_eqValS.l0 k x0 x0 ((i + 1 : Nat) : Int)) (fun k => ?_) (ih (i + 1) (by omega))
    simp only [laws_eqValS.l0, laws_eqVal.f, if_true, Option.bind_some]
    rw [if_pos (by omega), if_pos (by omega), if_pos (by omega), w64 (by omega) (by omega)]
    rfl
theorem leader_some (l : List S102) (a : Int) : ∃ s, spec_LeaderOf.f l a = some s ∧ impl_LeaderOf.f l a = some s := by
  have e : impl_LeaderOf.f l a = spec_LeaderOf.f l a := rfl
  rw [e]
  simp only [and_self]
  simp only [spec_LeaderOf.f]
  by_cases h0 : (l.length : Int) = 0
  · exact ⟨_, by rw [if_pos h0]⟩
  · rw [if_neg h0]
    by_cases h1 : a < 0
    · exact ⟨_, by rw [if_pos h1]⟩
    · have h2 : 0 ≤ a.tmod (l.length : Int) := by rw [Int.tmod_eq_emod_of_nonneg (by omega)]; exact Int.emod_nonneg _ h0
      have h3 : a.tmod (l.length : Int) < (l.length : Int) := by rw [Int.tmod_eq_emod_of_nonneg (by omega)]; exact Int.emod_lt_of_pos _ (by omega)
      exact ⟨_, by rw [if_neg h1, if_pos h2, if_pos h3]⟩
theorem FnExactLeaderOf : ∀ (l0 : (List S101)) (a1 : Int), (l0.length ≤ maxLen ∧ ∀ x ∈ l0, ok101 x) → ((Lit.int .i64 a1).wf = true) → ∃ k, laws_FnExactLeaderOf.f k l0 a1 = some true := by
  intro l0 a1 ⟨hl, hs⟩ _
  have hl' : l0.length ≤ 9223372036854775807 := hl
  have hs' : ∀ x ∈ l0, x.f0.size ≤ 9223372036854775807 := fun x hx => (hs x hx).1
  refine Ev.rounds (g := fun k => laws_FnExactLeaderOf.f k l0 a1) ?_
  simp only [laws_FnExactLeaderOf.f]
  have hw : wrap64 (1048576 - (l0.length : Int)) = 1048576 - (l0.length : Int) := w64 (by omega) (by omega)
  by_cases hbig : 1048576 - (l0.length : Int) < 0
  · have hr : Ev (fun k => laws_szValS.f k l0 1048576) (-1) := evVal fun k => by
      simp only [laws_szValS.f]
      rw [hw, if_pos hbig]
    exact Ev.bind hr (evPos (by omega) (Ev.now _))
  · obtain ⟨r, hr0⟩ := szValS_l l0 hl' hs' l0.length 0 (1048576 - (l0.length : Int)) (by omega) (by omega) (by omega)
    have hr : Ev (fun k => laws_szValS.f k l0 1048576) r := Ev.congr (fun k => by
      simp only [laws_szValS.f]
      rw [hw, if_neg hbig]
      rfl) hr0
    refine Ev.bind hr ?_
    by_cases hneg : r < 0
    · exact evPos hneg (Ev.now _)
    · have ht : Ev (fun k => laws_toValS.f k l0) (l0.map toV) := by
        have h1 := toValS_l l0 (by omega) l0.length 0 (List.replicate l0.length z102) (by omega) (by simp)
        simp only [laws_toValS.f, Int.toNat_natCast]
        exact evPos (by omega) (evPos (by omega) (evEq h1 (by simp)))
      obtain ⟨s, e1, e2⟩ := leader_some (l0.map toV) a1
      have he : Ev (fun k => laws_eqValS.f k (l0.map toV) (l0.map toV)) true := by
        have h1 := eqValS_l (l0.map toV) (by simp; omega) (l0.map toV).length 0 (by omega)
        simp only [laws_eqValS.f]
        exact evPos trivial h1
      exact evNeg hneg (Ev.bind ht (evBindC e1 (Ev.bind ht (evBindC e2 (evPos rfl (Ev.bind ht (Ev.bind he (evPos rfl (Ev.now _)))))))))
end Go.Proofs.Ytndkcifblnfaoaa.Pure
