/- What the printed functions over trees of digests compute, said plainly. No condition but sizes. -/
import Derived.Test.YtcbpfofkdipjhaaSRPIx0
import Derived.Test.YtcbpfofkdipjhaaSRPIx1
import Derived.Test.YtcbpfofkdipjhaaSRPIx3
import Derived.Test.YtcbpfofkdipjhaaSRPIx4
import Derived.Test.YtcbpfofkdipjhaaSRPIx11
import Derived.Test.YtcbpfofkdipjhaaSRPIx12
import Derived.Test.YtcbpfofkdipjhaaSRShaT
import Derived.Test.YtcbpfofkdipjhaaSRLibHFnStateRoots
namespace Go.Proofs.Ytcbpfofkdipjhaa.PI
open Go.RowKit Go.Proofs.YtcbpfofkdipjhaaW.PrintWords Go.Proofs.YtcbpfofkdipjhaaW.PrintLast Go.Proofs.YtcbpfofkdipjhaaW.PrintMore Go.Proofs.Ytcbpfofkdipjhaa.Base Go.Proofs.Ytcbpfofkdipjhaa.Sha
set_option linter.unusedVariables false
set_option linter.unusedSimpArgs false
theorem iHalf_l (n : Nat) (hn : n ≤ 2000000) : ∀ (f k0 : Nat), 1 ≤ k0 → k0 ≤ 2000000 → n ≤ k0 + f → Ev (fun k => impl_half.l0 k (n : Int) (k0 : Int)) (halfF f n k0 : Int) := by
  intro f
  induction f with
  | zero =>
    intro k0 h1 h2 h3
    refine evOne fun k => ?_
    simp only [impl_half.l0]
    rw [w64 (x := 2 * (k0 : Int)) (by omega) (by omega), if_neg (by omega)]
    rfl
  | succ f ih =>
    intro k0 h1 h2 h3
    have e1 : wrap64 (2 * (k0 : Int)) = ((2 * k0 : Nat) : Int) := by rw [w64 (by omega) (by omega)]; omega
    have e2 : wrap64 ((k0 : Int) * 2) = ((2 * k0 : Nat) : Int) := by rw [w64 (by omega) (by omega)]; omega
    unfold halfF
    by_cases h : 2 * k0 < n
    · rw [if_pos h]
      refine Ev.step (fun k => ?_) (ih (2 * k0) (by omega) (by omega) (by omega))
      simp only [impl_half.l0]
      rw [e1, if_pos (by omega)]
      try rw [e2]
    · rw [if_neg h]
      refine evOne fun k => ?_
      simp only [impl_half.l0]
      rw [e1, if_neg (by omega)]
theorem iHalf_ev (n : Nat) (hn : n ≤ 2000000) : Ev (fun k => impl_half.f k (n : Int)) (halfN n : Int) := iHalf_l n hn n 1 (by omega) (by omega) (by omega)
theorem iRoot_ev : ∀ (f : Nat) (l : List ByteArray), l.length ≤ f → l.length ≤ 2000000 → (∀ s ∈ l, s.size ≤ 140000000) → Ev (fun k => impl_rootOf.f k l) (rootF f l) := by
  intro f
  induction f with
  | zero =>
    intro l hf hl hs
    refine Ev.step (f := fun k => (impl_Digest.f k ([] : List Int)).bind fun t => some t) (fun k => ?_) (Ev.bind (iDigest_ev [] (by simp)) (Ev.now _))
    simp only [impl_rootOf.f]
    rw [if_pos (by omega)]
  | succ f ih =>
    intro l hf hl hs
    rw [rootF]
    by_cases h0 : l.length = 0
    · rw [if_pos h0]
      refine Ev.step (f := fun k => (impl_Digest.f k ([] : List Int)).bind fun t => some t) (fun k => ?_) (Ev.bind (iDigest_ev [] (by simp)) (Ev.now _))
      simp only [impl_rootOf.f]
      rw [if_pos (by omega)]
    · rw [if_neg h0]
      by_cases h1 : l.length = 1
      · rw [if_pos h1]
        have hz : (rdOf ByteArray.empty l 0).size ≤ 281474900 := by
          have e : rdOf ByteArray.empty l 0 = l[0] := rdSat (xs := l) (i := 0) (by omega)
          rw [e]
          have := hs _ (List.getElem_mem (l := l) (n := 0) (by omega))
          omega
        refine Ev.step (f := fun k => (impl_LeafDigest.f k (rdOf ByteArray.empty l 0)).bind fun t => some t) (fun k => ?_) (Ev.bind (iLeaf_ev _ hz) (Ev.now _))
        simp only [impl_rootOf.f]
        rw [if_neg (by omega), if_pos (by omega), if_pos (by omega)]
      · rw [if_neg h1]
        have hb := halfN_bd (n := l.length) (by omega)
        have i1 := ih (l.take (halfN l.length)) (by rw [List.length_take]; omega) (by rw [List.length_take]; omega) (fun s h => hs s (List.mem_of_mem_take h))
        have i2 := ih (l.drop (halfN l.length)) (by rw [List.length_drop]; omega) (by rw [List.length_drop]; omega) (fun s h => hs s (List.mem_of_mem_drop h))
        have i3 := iNode_ev (rootF f (l.take (halfN l.length))) (rootF f (l.drop (halfN l.length))) (by rw [rootF_size, rootF_size]; omega)
        refine Ev.step (f := fun k => (impl_half.f k (l.length : Int)).bind fun t => if 0 ≤ t then (if t ≤ (l.length : Int) then ((impl_rootOf.f k (l.take (t : Int).toNat)).bind fun t1 => ((impl_rootOf.f k (l.drop (t : Int).toNat)).bind fun t2 => ((impl_NodeDigest.f k t1 t2).bind fun t3 => (some t3)))) else none) else none) (fun k => ?_) (Ev.bind (iHalf_ev l.length hl) (evPos (by omega) (evPos (by omega) (Ev.bind i1 (Ev.bind i2 (Ev.bind i3 (Ev.now _)))))))
        simp only [impl_rootOf.f]
        rw [if_neg (by omega), if_neg (by omega)]
theorem irootL_ev (l : List ByteArray) (hl : l.length ≤ 2000000) (hs : ∀ s ∈ l, s.size ≤ 140000000) : Ev (fun k => impl_rootOf.f k l) (rootL l) := iRoot_ev l.length l (Nat.le_refl _) hl hs
theorem iPath_l : ∀ (f : Nat) (l : List ByteArray) (i : Nat), l.length ≤ f → i < l.length → l.length ≤ 2000000 → (∀ s ∈ l, s.size ≤ 140000000) → Ev (fun k => impl_pathOf.f k l (i : Int)) (pathF f l i) := by
  intro f
  induction f with
  | zero => intro l i hf hi hl hs; omega
  | succ f ih =>
    intro l i hf hi hl hs
    rw [pathF]
    by_cases h1 : l.length ≤ 1
    · rw [if_pos h1]
      refine evOne fun k => ?_
      simp only [impl_pathOf.f]
      rw [if_pos (by omega)]
    · rw [if_neg h1]
      have hb := halfN_bd (n := l.length) (by omega)
      have e1 : wrap64 ((i : Int) - (halfN l.length : Int)) = (i : Int) - (halfN l.length : Int) := w64 (by omega) (by omega)
      by_cases hk : i < halfN l.length
      · rw [if_pos hk]
        have i1 := ih (l.take (halfN l.length)) i (by rw [List.length_take]; omega) (by rw [List.length_take]; omega) (by rw [List.length_take]; omega) (fun s h => hs s (List.mem_of_mem_take h))
        have i2 := irootL_ev (l.drop (halfN l.length)) (by rw [List.length_drop]; omega) (fun s h => hs s (List.mem_of_mem_drop h))
        have hp := pathF_len f (l.take (halfN l.length)) i
        rw [List.length_take] at hp
        refine Ev.step (f := fun k => (impl_half.f k (l.length : Int)).bind fun t => if (i : Int) < t then (if 0 ≤ t then (if t ≤ (l.length : Int) then ((impl_pathOf.f k (l.take (t : Int).toNat) (i : Int)).bind fun t1 => ((impl_rootOf.f k (l.drop (t : Int).toNat)).bind fun t2 => (if t1.length < 8796093022208 then (some (t1 ++ [t2])) else (none)))) else none) else none) else (if 0 ≤ t then (if t ≤ (l.length : Int) then ((impl_pathOf.f k (l.drop (t : Int).toNat) (wrap64 ((i : Int) - t))).bind fun t1 => ((impl_rootOf.f k (l.take (t : Int).toNat)).bind fun t2 => (if t1.length < 8796093022208 then (some (t1 ++ [t2])) else (none)))) else none) else none)) (fun k => ?_) (Ev.bind (iHalf_ev l.length hl) (evPos (by omega) (evPos (by omega) (evPos (by omega) (Ev.bind i1 (Ev.bind i2 (evPos (by omega) (Ev.now _))))))))
        simp only [impl_pathOf.f]
        rw [if_neg (by omega)]
      · rw [if_neg hk]
        have i1 := ih (l.drop (halfN l.length)) (i - halfN l.length) (by rw [List.length_drop]; omega) (by rw [List.length_drop]; omega) (by rw [List.length_drop]; omega) (fun s h => hs s (List.mem_of_mem_drop h))
        have i2 := irootL_ev (l.take (halfN l.length)) (by rw [List.length_take]; omega) (fun s h => hs s (List.mem_of_mem_take h))
        have hp := pathF_len f (l.drop (halfN l.length)) (i - halfN l.length)
        rw [List.length_drop] at hp
        rw [show ((i - halfN l.length : Nat) : Int) = wrap64 ((i : Int) - (halfN l.length : Int)) by rw [e1]; omega] at i1
        refine Ev.step (f := fun k => (impl_half.f k (l.length : Int)).bind fun t => if (i : Int) < t then (if 0 ≤ t then (if t ≤ (l.length : Int) then ((impl_pathOf.f k (l.take (t : Int).toNat) (i : Int)).bind fun t1 => ((impl_rootOf.f k (l.drop (t : Int).toNat)).bind fun t2 => (if t1.length < 8796093022208 then (some (t1 ++ [t2])) else (none)))) else none) else none) else (if 0 ≤ t then (if t ≤ (l.length : Int) then ((impl_pathOf.f k (l.drop (t : Int).toNat) (wrap64 ((i : Int) - t))).bind fun t1 => ((impl_rootOf.f k (l.take (t : Int).toNat)).bind fun t2 => (if t1.length < 8796093022208 then (some (t1 ++ [t2])) else (none)))) else none) else none)) (fun k => ?_) (Ev.bind (iHalf_ev l.length hl) (evNeg (by omega) (evPos (by omega) (evPos (by omega) (Ev.bind i1 (Ev.bind i2 (evPos (by omega) (Ev.now _))))))))
        simp only [impl_pathOf.f]
        rw [if_neg (by omega)]
theorem ipathL_ev (l : List ByteArray) (i : Nat) (hi : i < l.length) (hl : l.length ≤ 2000000) (hs : ∀ s ∈ l, s.size ≤ 140000000) : Ev (fun k => impl_pathOf.f k l (i : Int)) (pathL l i) := iPath_l l.length l i (Nat.le_refl _) hi hl hs
theorem iClimb_l (s : ByteArray) (hs : s.size ≤ 140000000) : ∀ (f i n : Nat) (p : List ByteArray), 1 ≤ n → n ≤ f → n ≤ 2000000 → i < n → p.length ≤ 1000000000000 → (∀ x ∈ p, x.size ≤ 140000000) → Ev (fun k => impl_climb.f k s (i : Int) (n : Int) p) (climbF s f i n p) := by
  intro f
  induction f with
  | zero => intro i n p h1 h2; omega
  | succ f ih =>
    intro i n p h1 h2 h3 hi hp hx
    rw [climbF]
    by_cases hn : n ≤ 1
    · rw [if_pos hn]
      obtain rfl : n = 1 := by omega
      have hd : ((p.length : Int) == 0) = decide (p.length = 0) := by
        rw [Bool.eq_iff_iff]
        simp
      refine Ev.step (f := fun k => (impl_LeafDigest.f k s).bind fun t => some (t, ((p.length : Int) == 0))) (fun k => ?_) (Ev.bind (iLeaf_ev s (by omega)) (evEq (Ev.now _) (by rw [hd])))
      simp only [impl_climb.f]
      rw [if_pos (by omega)]
    · rw [if_neg hn]
      by_cases h0 : p.length = 0
      · rw [if_pos h0]
        refine evOne fun k => ?_
        simp only [impl_climb.f]
        rw [if_neg (by omega), if_pos (by rw [h0, w64 (by omega) (by omega)]; omega)]
      · rw [if_neg h0]
        have hb := halfN_bd (n := n) (by omega)
        have e1 : wrap64 ((p.length : Int) - 1) = ((p.length - 1 : Nat) : Int) := by rw [w64 (by omega) (by omega)]; omega
        have e2 : wrap64 ((i : Int) - (halfN n : Int)) = (i : Int) - (halfN n : Int) := w64 (by omega) (by omega)
        have e3 : wrap64 ((n : Int) - (halfN n : Int)) = ((n - halfN n : Nat) : Int) := by rw [w64 (by omega) (by omega)]; omega
        have ex : (rdOf ByteArray.empty p ((p.length - 1 : Nat) : Int)).size ≤ 140000000 := by
          rw [rdSat (by omega)]
          exact hx _ (List.getElem_mem _)
        have hx2 : ∀ x ∈ p.take (p.length - 1), x.size ≤ 140000000 := fun x h => hx x (List.mem_of_mem_take h)
        by_cases hk : i < halfN n
        · rw [if_pos hk]
          have i1 := ih i (halfN n) (p.take (p.length - 1)) (by omega) (by omega) (by omega) hk (by rw [List.length_take]; omega) hx2
          have hz := climbF_size s f i (halfN n) (p.take (p.length - 1))
          have i2 := iNode_ev (climbF s f i (halfN n) (p.take (p.length - 1))).1 (rdOf ByteArray.empty p ((p.length - 1 : Nat) : Int)) (by omega)
          refine Ev.step (f := fun k => (impl_half.f k (n : Int)).bind fun t => if (i : Int) < t then ((impl_climb.f k s (i : Int) t (p.take (p.length - 1))).bind fun b => ((impl_NodeDigest.f k b.1 (rdOf ByteArray.empty p ((p.length - 1 : Nat) : Int))).bind fun t2 => some (t2, b.2))) else ((impl_climb.f k s (wrap64 ((i : Int) - t)) (wrap64 ((n : Int) - t)) (p.take (p.length - 1))).bind fun b => ((impl_NodeDigest.f k (rdOf ByteArray.empty p ((p.length - 1 : Nat) : Int)) b.1).bind fun t2 => some (t2, b.2)))) (fun k => ?_) (Ev.bind (iHalf_ev n h3) (evPos (by omega) (Ev.bind i1 (Ev.bind i2 (Ev.now _)))))
          simp only [impl_climb.f, e1, Int.toNat_natCast]
          rw [if_neg (by omega), if_neg (by omega)]
          simp only [show (0 : Int) ≤ ((p.length - 1 : Nat) : Int) from Int.natCast_nonneg _, show ((p.length - 1 : Nat) : Int) ≤ (p.length : Int) by omega, show ((p.length - 1 : Nat) : Int) < (p.length : Int) by omega, if_true]
        · rw [if_neg hk]
          have i1 := ih (i - halfN n) (n - halfN n) (p.take (p.length - 1)) (by omega) (by omega) (by omega) (by omega) (by rw [List.length_take]; omega) hx2
          have hz := climbF_size s f (i - halfN n) (n - halfN n) (p.take (p.length - 1))
          have i2 := iNode_ev (rdOf ByteArray.empty p ((p.length - 1 : Nat) : Int)) (climbF s f (i - halfN n) (n - halfN n) (p.take (p.length - 1))).1 (by omega)
          rw [show ((i - halfN n : Nat) : Int) = wrap64 ((i : Int) - (halfN n : Int)) by rw [e2]; omega, ← e3] at i1
          refine Ev.step (f := fun k => (impl_half.f k (n : Int)).bind fun t => if (i : Int) < t then ((impl_climb.f k s (i : Int) t (p.take (p.length - 1))).bind fun b => ((impl_NodeDigest.f k b.1 (rdOf ByteArray.empty p ((p.length - 1 : Nat) : Int))).bind fun t2 => some (t2, b.2))) else ((impl_climb.f k s (wrap64 ((i : Int) - t)) (wrap64 ((n : Int) - t)) (p.take (p.length - 1))).bind fun b => ((impl_NodeDigest.f k (rdOf ByteArray.empty p ((p.length - 1 : Nat) : Int)) b.1).bind fun t2 => some (t2, b.2)))) (fun k => ?_) (Ev.bind (iHalf_ev n h3) (evNeg (by omega) (Ev.bind i1 (Ev.bind i2 (Ev.now _)))))
          simp only [impl_climb.f, e1, Int.toNat_natCast]
          rw [if_neg (by omega), if_neg (by omega)]
          simp only [show (0 : Int) ≤ ((p.length - 1 : Nat) : Int) from Int.natCast_nonneg _, show ((p.length - 1 : Nat) : Int) ≤ (p.length : Int) by omega, show ((p.length - 1 : Nat) : Int) < (p.length : Int) by omega, if_true]
theorem iCheck_ev (s : ByteArray) (hs : s.size ≤ 140000000) (i n : Int) (hi : -9223372036854775808 ≤ i ∧ i ≤ 9223372036854775807) (hn : -9223372036854775808 ≤ n ∧ n ≤ 9223372036854775807) (p : List ByteArray) (hp : p.length ≤ 1000000000000) (hx : ∀ x ∈ p, x.size ≤ 140000000) (r : ByteArray) :
    Ev (fun k => impl_CheckPath.f k s i n p r) (checkL s i n p r) := by
  simp only [impl_CheckPath.f]
  refine evBindC (inRange_eq _ _ _) ?_
  unfold checkL
  by_cases h1 : 1 ≤ n ∧ n ≤ 64
  · refine evPos (by simp; omega) (evBindC (inRange_eq _ _ _) ?_)
    rw [w64 (x := n - 1) (by omega) (by omega)]
    by_cases h2 : 0 ≤ i ∧ i ≤ n - 1
    · obtain ⟨a, rfl⟩ := Int.eq_ofNat_of_zero_le h2.1
      obtain ⟨b, rfl⟩ := Int.eq_ofNat_of_zero_le (a := n) (by omega)
      rw [if_pos ⟨h1.1, h1.2, h2.1, h2.2⟩]
      refine evPos (by simp; omega) (Ev.bind (iClimb_l s hs b a b p (by omega) (Nat.le_refl _) (by omega) (by omega) hp hx) ?_)
      simp only [Int.ofNat_eq_natCast, Int.toNat_natCast]
      cases hq : (climbF s b a b p).2 with
      | true => exact evPos rfl (evEq (Ev.now _) (by simp))
      | false => exact evNeg (by simp) (evEq (Ev.now _) (by simp))
    · rw [if_neg (by omega)]
      exact evNeg (by simp; omega) (Ev.now _)
  · rw [if_neg (by omega)]
    exact evNeg (by simp; omega) (Ev.now _)
theorem iPathOf_ev (l : List ByteArray) (i : Int) (hl : l.length ≤ 2000000) (hs : ∀ s ∈ l, s.size ≤ 140000000) : Ev (fun k => impl_PathOf.f k l i) (pathOfL l i) := by
  simp only [impl_PathOf.f]
  unfold pathOfL
  by_cases h : l.length > 64
  · rw [if_pos h]
    exact evPos (by omega) (Ev.now _)
  · rw [if_neg h]
    refine evNeg (by omega) (evBindC (inRange_eq _ _ _) ?_)
    rw [w64 (x := (l.length : Int) - 1) (by omega) (by omega)]
    by_cases h2 : 0 ≤ i ∧ i ≤ (l.length : Int) - 1
    · rw [if_pos h2]
      obtain ⟨a, rfl⟩ := Int.eq_ofNat_of_zero_le h2.1
      exact evPos (by simp; omega) (Ev.bind (ipathL_ev l a (by omega) hl hs) (Ev.now _))
    · rw [if_neg h2]
      exact evNeg (by simp; omega) (Ev.now _)
end Go.Proofs.Ytcbpfofkdipjhaa.PI
