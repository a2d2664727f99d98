/- The plain law of FnFreed: what it computes is always true. -/
import Derived.Test.YtcbpfofkdipjhaaFRPFx0
import Derived.Test.YtcbpfofkdipjhaaFRPFx10
import Derived.Test.YtcbpfofkdipjhaaFRLibEFnFreed
import Derived.Test.YtcbpfofkdipjhaaFRLibYFnFreed
import Derived.Test.YtcbpfofkdipjhaaFRTelF
namespace Go.Proofs.Ytcbpfofkdipjhaa.Pure
open Go.RowKit Go.Proofs.YtcbpfofkdipjhaaW.PrintWords Go.Proofs.YtcbpfofkdipjhaaW.PrintLast Go.Proofs.YtcbpfofkdipjhaaW.PrintMore Go.Proofs.Ytcbpfofkdipjhaa.Base Go.Proofs.Ytcbpfofkdipjhaa.PF
set_option linter.unusedVariables false
set_option linter.unusedSimpArgs false
theorem due_ge (e : Int) : ∀ (m : List S65) (n : Int), 0 ≤ n → n + 1000000 * (m.length : Int) ≤ 1000000000000 → (∀ x ∈ m, 1 ≤ x.f0 ∧ x.f0 ≤ 1000000) → n ≤ impl_NextEpoch.due e n m := by
  intro m
  induction m with
  | nil => intro n _ _ _; exact Int.le_refl _
  | cons x m ih =>
    intro n h0 hn hz
    have hx := hz x (List.mem_cons_self ..)
    have hl : ((x :: m).length : Int) = (m.length : Int) + 1 := by simp
    rw [hl] at hn
    have hm := fun y hy => hz y (List.mem_cons_of_mem _ hy)
    show n ≤ impl_NextEpoch.due e (if x.f1 ≤ e then wrap64 (n + x.f0) else n) m
    by_cases c : x.f1 ≤ e
    · rw [if_pos c, w64 (by omega) (by omega)]
      have := ih (n + x.f0) (by omega) (by omega) hm
      omega
    · rw [if_neg c]
      exact ih n h0 (by omega) hm
theorem fr_l1 (n : Int) (l : List S63) (e : Int) (ys : List S63) (i : Nat) (hi : i < ys.length) (hl : ys[i].f4.length ≤ 1048576) (hz : ∀ x ∈ ys[i].f4, ¬ x.f1 ≤ e) (r : Bool) (hr : Ev (fun k => laws_FnFreed.l0 k (wrap64 ((i : Int) + 1)) n l e ys) r) :
    ∀ (d j : Nat), j + d = ys[i].f4.length → Ev (fun k => laws_FnFreed.l1 k (i : Int) (j : Int) n l e ys) r := by
  intro d
  induction d with
  | zero =>
    intro j hj
    refine Ev.step (fun k => ?_) hr
    simp only [laws_FnFreed.l1]
    rw [if_pos (by omega), if_pos (by omega), rdIA_get hi, if_neg (by omega)]
  | succ d ih =>
    intro j hj
    have hlt : j < ys[i].f4.length := by omega
    have ih' := ih (j + 1) (by omega)
    have hzj := hz _ (List.getElem_mem hlt)
    refine Ev.step (f := fun k => laws_FnFreed.l1 k (i : Int) ((j + 1 : Nat) : Int) n l e ys) (fun k => ?_) ih'
    simp only [laws_FnFreed.l1]
    rw [if_pos (by omega), if_pos (by omega), rdIA_get hi, if_pos (by omega), if_pos (by omega), rdIL_get hlt, if_neg hzj, w64 (by omega) (by omega)]
    rfl
theorem fr_l0 (n : Int) (l : List S63) (hl : l.length ≤ 1000000) (h2 : ∀ (i : Nat) (h : i < l.length), l[i].f4.length ≤ 4 ∧ (0 ≤ l[i].f1 ∧ l[i].f1 ≤ 1000000) ∧ ∀ x ∈ l[i].f4, 1 ≤ x.f0 ∧ x.f0 ≤ 1000000) : ∀ (d i : Nat), i + d = l.length → Ev (fun k => laws_FnFreed.l0 k (i : Int) n l (wrap64 (n + 1)) (l.map (impl_NextEpoch.on (wrap64 (n + 1))))) true := by
  have hlm : (l.map (impl_NextEpoch.on (wrap64 (n + 1)))).length = l.length := List.length_map _
  intro d
  induction d with
  | zero =>
    intro i hi
    refine evOne fun k => ?_
    simp only [laws_FnFreed.l0]
    rw [if_neg (by omega)]
    simp
  | succ d ih =>
    intro i hi
    have hlt : i < l.length := by omega
    have hlt' : i < (l.map (impl_NextEpoch.on (wrap64 (n + 1)))).length := by omega
    have e0 : (l.map (impl_NextEpoch.on (wrap64 (n + 1))))[i] = impl_NextEpoch.on (wrap64 (n + 1)) l[i] := List.getElem_map _
    obtain ⟨hf4, hf1, hfx⟩ := h2 i hlt
    have hge := due_ge (wrap64 (n + 1)) l[i].f4 l[i].f1 hf1.1 (by omega) hfx
    have e1 : wrap64 ((i : Int) + 1) = ((i + 1 : Nat) : Int) := by rw [w64 (by omega) (by omega)]; rfl
    have hq := fr_l1 n l (wrap64 (n + 1)) (l.map (impl_NextEpoch.on (wrap64 (n + 1)))) i hlt' (by rw [e0]; exact Nat.le_trans (List.length_filter_le _ _) (by omega)) (by
      intro x hx
      rw [e0] at hx
      have := (List.mem_filter.1 hx).2
      simpa using this) true (by rw [e1]; exact ih (i + 1) (by omega)) _ 0 (Nat.zero_add _)
    refine evStep2 (f := fun k => laws_FnFreed.l1 k (i : Int) 0 n l (wrap64 (n + 1)) (l.map (impl_NextEpoch.on (wrap64 (n + 1))))) (fun k => ?_) hq
    simp only [laws_FnFreed.l0]
    rw [if_pos (by omega), if_pos (by omega), if_pos (by omega), rdIA_get hlt', rdIA_get hlt, e0, if_pos (show (impl_NextEpoch.on (wrap64 (n + 1)) l[i]).f3 = l[i].f3 from rfl), decide_eq_false (show ¬ (impl_NextEpoch.on (wrap64 (n + 1)) l[i]).f1 < l[i].f1 from Int.not_lt.2 hge)]
    simp only [laws_FnFreed.j2]
    rw [if_neg (by simp)]
theorem FnFreed : ∀ (l0 : (List Int)), (l0.length ≤ maxLen ∧ ∀ x ∈ l0, (Lit.int .u8 x).wf = true) → ∃ k, laws_FnFreed.f k l0 = some true := by
  intro l0 hw
  refine Ev.rounds (g := fun k => laws_FnFreed.f k l0) ?_
  simp only [laws_FnFreed.f]
  refine evBindC (show laws_big.f l0 = some (decide ((l0.length : Int) > 1048576)) from rfl) ?_
  by_cases hbig : (l0.length : Int) > 1048576
  · exact evPos (by simpa using hbig) (Ev.now _)
  · obtain ⟨n, l, hd, hl, hz⟩ := DrawNextEpoch_ev l0 (AllB.of_wf hw.2) (by omega)
    have hb : ∀ s ∈ l, BdE s := fun s hs => by have := hz s hs; unfold BdE; omega
    have hi := iNext_ev n l (by omega) hb
    have hs := sNext_ev n l (by omega) hb
    refine evNeg (by simpa using hbig) (Ev.bind hd (Ev.bind hi (Ev.bind hs (evPos rfl ?_))))
    have hst : ∀ r : Int × List S63, r.2.length = l.length → (r.1 = n ∨ r = (wrap64 (n + 1), l.map (impl_NextEpoch.on (wrap64 (n + 1)))) ∧ ledgerOk n l = true) → Ev (fun k => laws_FnFreed.j0 k ((r.2.length : Int) != (l.length : Int)) n l r.1 r.2) true := by
      intro r hr hc
      have hne : ((r.2.length : Int) != (l.length : Int)) = false := by rw [hr]; simp
      rw [hne]
      by_cases c : r.1 = n
      · refine evOne fun k => ?_
        simp only [laws_FnFreed.j0]
        rw [if_neg (by simp), if_pos c]
      · obtain ⟨rfl, hok⟩ := hc.resolve_left c
        obtain ⟨_, hac, h12⟩ := ledgerOk_len hok
        refine Ev.step (f := fun k => laws_FnFreed.l0 k 0 n l (wrap64 (n + 1)) (l.map (impl_NextEpoch.on (wrap64 (n + 1))))) (fun k => ?_) (fr_l0 n l (by omega) (fun i h => ⟨(acctsOk_at hac i h).2.2.2.1, (acctsOk_at hac i h).1, fun x hx => ((acctsOk_at hac i h).2.2.2.2 x hx).1⟩) l.length 0 (by omega))
        simp only [laws_FnFreed.j0]
        rw [if_neg (by simp), if_neg c]
    refine hst (nextL n l) ?_ ?_
    · unfold nextL
      split
      · split
        · exact List.length_map _
        · rfl
      · rfl
    · unfold nextL
      split
      · rename_i c0
        split
        · exact .inr ⟨rfl, c0⟩
        · exact .inl rfl
      · exact .inl rfl
end Go.Proofs.Ytcbpfofkdipjhaa.Pure
