/- What the printed functions over trees of digests compute, said plainly. No condition but sizes. -/
import Derived.Test.YtgbbgdlenadhlaaPJx0
import Derived.Test.YtgbbgdlenadhlaaPJx3
import Derived.Test.YtgbbgdlenadhlaaPJx6
import Derived.Test.YtgbbgdlenadhlaaPJx7
import Derived.Test.YtgbbgdlenadhlaaPJx8
import Derived.Test.YtgbbgdlenadhlaaPJx9
import Derived.Test.YtgbbgdlenadhlaaPJx10
import Derived.Test.YtgbbgdlenadhlaaShaT
import Derived.Test.YtgbbgdlenadhlaaLibHFnExactStateRoot
namespace Go.Proofs.Ytgbbgdlenadhlaa.PJ
open Go.RowKit Go.Proofs.YtgbbgdlenadhlaaW.PrintWords Go.Proofs.YtgbbgdlenadhlaaW.PrintLast Go.Proofs.YtgbbgdlenadhlaaW.PrintMore Go.Proofs.Ytgbbgdlenadhlaa.Base Go.Proofs.Ytgbbgdlenadhlaa.Sha
set_option linter.unusedVariables false
set_option linter.unusedSimpArgs false
theorem iHalf_l (n : Nat) (hn : n ≤ 2000000) : ∀ (f k0 : Nat), 1 ≤ k0 → k0 ≤ 2000000 → n ≤ k0 + f → Ev (fun k => impl_half.l0 k (n : Int) (k0 : Int)) (halfF f n k0 : Int) := by
  intro f
  induction f with
  | zero =>
    intro k0 h1 h2 h3
    refine evOne fun k => ?_
    simp only [impl_half.l0]
    rw [w64 (x := 2 * (k0 : Int)) (by omega) (by omega), if_neg (by omega)]
    rfl
  | succ f ih =>
    intro k0 h1 h2 h3
    have e1 : wrap64 (2 * (k0 : Int)) = ((2 * k0 : Nat) : Int) := by rw [w64 (by omega) (by omega)]; omega
    have e2 : wrap64 ((k0 : Int) * 2) = ((2 * k0 : Nat) : Int) := by rw [w64 (by omega) (by omega)]; omega
    unfold halfF
    by_cases h : 2 * k0 < n
    · rw [if_pos h]
      refine Ev.step (fun k => ?_) (ih (2 * k0) (by omega) (by omega) (by omega))
      simp only [impl_half.l0]
      rw [e1, if_pos (by omega)]
      try rw [e2]
    · rw [if_neg h]
      refine evOne fun k => ?_
      simp only [impl_half.l0]
      rw [e1, if_neg (by omega)]
theorem iHalf_ev (n : Nat) (hn : n ≤ 2000000) : Ev (fun k => impl_half.f k (n : Int)) (halfN n : Int) := iHalf_l n hn n 1 (by omega) (by omega) (by omega)
theorem iRoot_ev : ∀ (f : Nat) (l : List ByteArray), l.length ≤ f → l.length ≤ 2000000 → (∀ s ∈ l, s.size ≤ 140000000) → Ev (fun k => impl_rootOf.f k l) (rootF f l) := by
  intro f
  induction f with
  | zero =>
    intro l hf hl hs
    refine Ev.step (f := fun k => (impl_Digest.f k ([] : List Int)).bind fun t => some t) (fun k => ?_) (Ev.bind (iDigest_ev [] (by simp)) (Ev.now _))
    simp only [impl_rootOf.f]
    rw [if_pos (by omega)]
  | succ f ih =>
    intro l hf hl hs
    rw [rootF]
    by_cases h0 : l.length = 0
    · rw [if_pos h0]
      refine Ev.step (f := fun k => (impl_Digest.f k ([] : List Int)).bind fun t => some t) (fun k => ?_) (Ev.bind (iDigest_ev [] (by simp)) (Ev.now _))
      simp only [impl_rootOf.f]
      rw [if_pos (by omega)]
    · rw [if_neg h0]
      by_cases h1 : l.length = 1
      · rw [if_pos h1]
        have hz : (rdOf ByteArray.empty l 0).size ≤ 281474900 := by
          have e : rdOf ByteArray.empty l 0 = l[0] := rdSat (xs := l) (i := 0) (by omega)
          rw [e]
          have := hs _ (List.getElem_mem (l := l) (n := 0) (by omega))
          omega
        refine Ev.step (f := fun k => (impl_LeafDigest.f k (rdOf ByteArray.empty l 0)).bind fun t => some t) (fun k => ?_) (Ev.bind (iLeaf_ev _ hz) (Ev.now _))
        simp only [impl_rootOf.f]
        rw [if_neg (by omega), if_pos (by omega), if_pos (by omega)]
      · rw [if_neg h1]
        have hb := halfN_bd (n := l.length) (by omega)
        have i1 := ih (l.take (halfN l.length)) (by rw [List.length_take]; omega) (by rw [List.length_take]; omega) (fun s h => hs s (List.mem_of_mem_take h))
        have i2 := ih (l.drop (halfN l.length)) (by rw [List.length_drop]; omega) (by rw [List.length_drop]; omega) (fun s h => hs s (List.mem_of_mem_drop h))
        have i3 := iNode_ev (rootF f (l.take (halfN l.length))) (rootF f (l.drop (halfN l.length))) (by rw [rootF_size, rootF_size]; omega)
        refine Ev.step (f := fun k => (impl_half.f k (l.length : Int)).bind fun t => if 0 ≤ t then (if t ≤ (l.length : Int) then ((impl_rootOf.f k (l.take (t : Int).toNat)).bind fun t1 => ((impl_rootOf.f k (l.drop (t : Int).toNat)).bind fun t2 => ((impl_NodeDigest.f k t1 t2).bind fun t3 => (some t3)))) else none) else none) (fun k => ?_) (Ev.bind (iHalf_ev l.length hl) (evPos (by omega) (evPos (by omega) (Ev.bind i1 (Ev.bind i2 (Ev.bind i3 (Ev.now _)))))))
        simp only [impl_rootOf.f]
        rw [if_neg (by omega), if_neg (by omega)]
theorem irootL_ev (l : List ByteArray) (hl : l.length ≤ 2000000) (hs : ∀ s ∈ l, s.size ≤ 140000000) : Ev (fun k => impl_rootOf.f k l) (rootL l) := iRoot_ev l.length l (Nat.le_refl _) hl hs
theorem sHalf_l (n : Nat) (hn : n ≤ 2000000) : ∀ (f k0 : Nat), 1 ≤ k0 → k0 ≤ 2000000 → n ≤ k0 + f → Ev (fun k => spec_l3Half.l0 k (n : Int) (k0 : Int)) (halfF f n k0 : Int) := by
  intro f
  induction f with
  | zero =>
    intro k0 h1 h2 h3
    refine evOne fun k => ?_
    simp only [spec_l3Half.l0]
    rw [w64 (x := 2 * (k0 : Int)) (by omega) (by omega), if_neg (by omega)]
    rfl
  | succ f ih =>
    intro k0 h1 h2 h3
    have e1 : wrap64 (2 * (k0 : Int)) = ((2 * k0 : Nat) : Int) := by rw [w64 (by omega) (by omega)]; omega
    have e2 : wrap64 (2 * (k0 : Int)) = ((2 * k0 : Nat) : Int) := by rw [w64 (by omega) (by omega)]; omega
    unfold halfF
    by_cases h : 2 * k0 < n
    · rw [if_pos h]
      refine Ev.step (fun k => ?_) (ih (2 * k0) (by omega) (by omega) (by omega))
      simp only [spec_l3Half.l0]
      rw [e1, if_pos (by omega)]
      try rw [e2]
    · rw [if_neg h]
      refine evOne fun k => ?_
      simp only [spec_l3Half.l0]
      rw [e1, if_neg (by omega)]
theorem sHalf_ev (n : Nat) (hn : n ≤ 2000000) : Ev (fun k => spec_l3Half.f k (n : Int)) (halfN n : Int) := sHalf_l n hn n 1 (by omega) (by omega) (by omega)
theorem sRoot_ev : ∀ (f : Nat) (l : List ByteArray), l.length ≤ f → l.length ≤ 2000000 → (∀ s ∈ l, s.size ≤ 140000000) → Ev (fun k => spec_l3Root.f k l) (rootF f l) := by
  intro f
  induction f with
  | zero =>
    intro l hf hl hs
    refine Ev.step (f := fun k => (spec_Digest.f k ([] : List Int)).bind fun t => some t) (fun k => ?_) (Ev.bind (sDigest_ev [] (by simp) (fun x hx => by simp at hx)) (Ev.now _))
    simp only [spec_l3Root.f]
    rw [if_pos (by omega)]
  | succ f ih =>
    intro l hf hl hs
    rw [rootF]
    by_cases h0 : l.length = 0
    · rw [if_pos h0]
      refine Ev.step (f := fun k => (spec_Digest.f k ([] : List Int)).bind fun t => some t) (fun k => ?_) (Ev.bind (sDigest_ev [] (by simp) (fun x hx => by simp at hx)) (Ev.now _))
      simp only [spec_l3Root.f]
      rw [if_pos (by omega)]
    · rw [if_neg h0]
      by_cases h1 : l.length = 1
      · rw [if_pos h1]
        have hz : (rdOf ByteArray.empty l 0).size ≤ 281474900 := by
          have e : rdOf ByteArray.empty l 0 = l[0] := rdSat (xs := l) (i := 0) (by omega)
          rw [e]
          have := hs _ (List.getElem_mem (l := l) (n := 0) (by omega))
          omega
        refine Ev.step (f := fun k => (spec_LeafDigest.f k (rdOf ByteArray.empty l 0)).bind fun t => some t) (fun k => ?_) (Ev.bind (sLeaf_ev _ hz) (Ev.now _))
        simp only [spec_l3Root.f]
        rw [if_neg (by omega), if_pos (by omega), if_pos (by omega)]
      · rw [if_neg h1]
        have hb := halfN_bd (n := l.length) (by omega)
        have i1 := ih (l.take (halfN l.length)) (by rw [List.length_take]; omega) (by rw [List.length_take]; omega) (fun s h => hs s (List.mem_of_mem_take h))
        have i2 := ih (l.drop (halfN l.length)) (by rw [List.length_drop]; omega) (by rw [List.length_drop]; omega) (fun s h => hs s (List.mem_of_mem_drop h))
        have i3 := sNode_ev (rootF f (l.take (halfN l.length))) (rootF f (l.drop (halfN l.length))) (by rw [rootF_size, rootF_size]; omega)
        refine Ev.step (f := fun k => (spec_l3Half.f k (l.length : Int)).bind fun t => if 0 ≤ t then (if t ≤ (l.length : Int) then ((spec_l3Root.f k (l.take (t : Int).toNat)).bind fun t1 => ((spec_l3Root.f k (l.drop (t : Int).toNat)).bind fun t2 => ((spec_NodeDigest.f k t1 t2).bind fun t3 => (some t3)))) else none) else none) (fun k => ?_) (Ev.bind (sHalf_ev l.length hl) (evPos (by omega) (evPos (by omega) (Ev.bind i1 (Ev.bind i2 (Ev.bind i3 (Ev.now _)))))))
        simp only [spec_l3Root.f]
        rw [if_neg (by omega), if_neg (by omega)]
theorem srootL_ev (l : List ByteArray) (hl : l.length ≤ 2000000) (hs : ∀ s ∈ l, s.size ≤ 140000000) : Ev (fun k => spec_l3Root.f k l) (rootL l) := sRoot_ev l.length l (Nat.le_refl _) hl hs
theorem sRootOf_ev (l : List ByteArray) (hl : l.length ≤ 2000000) (hs : ∀ s ∈ l, s.size ≤ 140000000) : Ev (fun k => spec_RootOf.f k l) (rootOfL l) := by
  simp only [spec_RootOf.f]
  unfold rootOfL
  by_cases h : l.length > 64
  · rw [if_pos h]
    exact evPos (by omega) (Ev.now _)
  · rw [if_neg h]
    exact evNeg (by omega) (Ev.bind (srootL_ev l hl hs) (Ev.now _))
end Go.Proofs.Ytgbbgdlenadhlaa.PJ
