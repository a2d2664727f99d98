/- Trees of digests, plainly: halves, roots, paths, and what comes of a path. No program. -/
import Derived.Test.YtcbpfofkdipjhaaSRShaP
namespace Go.Proofs.Ytcbpfofkdipjhaa.Sha
open Go.RowKit Go.Proofs.YtcbpfofkdipjhaaW.PrintWords Go.Proofs.YtcbpfofkdipjhaaW.PrintMore Go.Proofs.Ytcbpfofkdipjhaa.Base
set_option linter.unusedVariables false
/-- The greatest power of 2 (from k on, doubling) that is less than n. -/
def halfF : Nat → Nat → Nat → Nat
  | 0, _, k => k
  | f + 1, n, k => if 2 * k < n then halfF f n (2 * k) else k
def halfN (n : Nat) : Nat := halfF n n 1
theorem halfF_bd : ∀ (f n k : Nat), 1 ≤ k → k < n → 1 ≤ halfF f n k ∧ halfF f n k < n
  | 0, n, k, h1, h2 => ⟨h1, h2⟩
  | f + 1, n, k, h1, h2 => by
    unfold halfF
    split
    · rename_i h
      exact halfF_bd f n (2 * k) (by omega) h
    · exact ⟨h1, h2⟩
theorem halfN_bd {n : Nat} (h : 2 ≤ n) : 1 ≤ halfN n ∧ halfN n < n := halfF_bd n n 1 (by omega) (by omega)
/-- A list's root. -/
def rootF : Nat → List ByteArray → ByteArray
  | 0, _ => dig []
  | f + 1, l => if l.length = 0 then dig [] else if l.length = 1 then leafD (rdOf ByteArray.empty l 0) else nodeD (rootF f (l.take (halfN l.length))) (rootF f (l.drop (halfN l.length)))
def rootL (l : List ByteArray) : ByteArray := rootF l.length l
theorem rootF_size (f : Nat) (l : List ByteArray) : (rootF f l).size = 32 := by
  cases f with
  | zero => exact dig_size _
  | succ f =>
    unfold rootF
    split
    · exact dig_size _
    · split
      · exact leafD_size _
      · exact nodeD_size _ _
theorem rootL_size (l : List ByteArray) : (rootL l).size = 32 := rootF_size _ _
theorem rootF_fuel : ∀ (f g : Nat) (l : List ByteArray), l.length ≤ f → l.length ≤ g → rootF f l = rootF g l := by
  intro f
  induction f with
  | zero =>
    intro g l hf hg
    cases g with
    | zero => rfl
    | succ g => rw [rootF, rootF, if_pos (by omega)]
  | succ f ih =>
    intro g l hf hg
    cases g with
    | zero => rw [rootF, rootF, if_pos (by omega)]
    | succ g =>
      rw [rootF, rootF]
      by_cases h0 : l.length = 0
      · rw [if_pos h0, if_pos h0]
      · by_cases h1 : l.length = 1
        · rw [if_neg h0, if_neg h0, if_pos h1, if_pos h1]
        · have hb := halfN_bd (n := l.length) (by omega)
          rw [if_neg h0, if_neg h0, if_neg h1, if_neg h1, ih g (l.take (halfN l.length)) (by rw [List.length_take]; omega) (by rw [List.length_take]; omega), ih g (l.drop (halfN l.length)) (by rw [List.length_drop]; omega) (by rw [List.length_drop]; omega)]
theorem rootF_L (f : Nat) (l : List ByteArray) (h : l.length ≤ f) : rootF f l = rootL l := rootF_fuel f l.length l h (Nat.le_refl _)
theorem rootL_zero {l : List ByteArray} (h : l.length = 0) : rootL l = dig [] := by
  rw [rootL, h]
  rfl
theorem rootL_one {l : List ByteArray} (h : l.length = 1) : rootL l = leafD (rdOf ByteArray.empty l 0) := by
  rw [rootL, h, rootF, if_neg (by omega), if_pos h]
theorem rootL_two {l : List ByteArray} (h : 2 ≤ l.length) : rootL l = nodeD (rootL (l.take (halfN l.length))) (rootL (l.drop (halfN l.length))) := by
  have hb := halfN_bd h
  rw [← rootF_L (l.length + 1) l (by omega), rootF, if_neg (by omega), if_neg (by omega), rootF_L _ _ (by rw [List.length_take]; omega), rootF_L _ _ (by rw [List.length_drop]; omega)]
/-- The path of the i-th. -/
def pathF : Nat → List ByteArray → Nat → List ByteArray
  | 0, _, _ => []
  | f + 1, l, i => if l.length ≤ 1 then [] else if i < halfN l.length then pathF f (l.take (halfN l.length)) i ++ [rootL (l.drop (halfN l.length))] else pathF f (l.drop (halfN l.length)) (i - halfN l.length) ++ [rootL (l.take (halfN l.length))]
def pathL (l : List ByteArray) (i : Nat) : List ByteArray := pathF l.length l i
theorem pathF_size : ∀ (f : Nat) (l : List ByteArray) (i : Nat), ∀ s ∈ pathF f l i, s.size = 32 := by
  intro f
  induction f with
  | zero => intro l i s hs; simp [pathF] at hs
  | succ f ih =>
    intro l i s hs
    unfold pathF at hs
    split at hs
    · simp at hs
    · split at hs
      · rcases List.mem_append.1 hs with h | h
        · exact ih _ _ s h
        · rw [List.mem_singleton.1 h]; exact rootL_size _
      · rcases List.mem_append.1 hs with h | h
        · exact ih _ _ s h
        · rw [List.mem_singleton.1 h]; exact rootL_size _
theorem pathF_len : ∀ (f : Nat) (l : List ByteArray) (i : Nat), (pathF f l i).length ≤ l.length := by
  intro f
  induction f with
  | zero => intro l i; simp [pathF]
  | succ f ih =>
    intro l i
    unfold pathF
    split
    · simp
    · rename_i h
      have hb := halfN_bd (n := l.length) (by omega)
      split
      · have := ih (l.take (halfN l.length)) i
        rw [List.length_take] at this
        rw [List.length_append, List.length_singleton]
        omega
      · have := ih (l.drop (halfN l.length)) (i - halfN l.length)
        rw [List.length_drop] at this
        rw [List.length_append, List.length_singleton]
        omega
/-- What comes of a text that is the i-th of n, by a path. -/
def climbF (s : ByteArray) : Nat → Nat → Nat → List ByteArray → ByteArray × Bool
  | 0, _, _, _ => ((⟨#[]⟩ : ByteArray), false)
  | f + 1, i, n, p => if n ≤ 1 then (leafD s, decide (p.length = 0)) else if p.length = 0 then ((⟨#[]⟩ : ByteArray), false) else
    if i < halfN n then (nodeD (climbF s f i (halfN n) (p.take (p.length - 1))).1 (rdOf ByteArray.empty p ((p.length - 1 : Nat) : Int)), (climbF s f i (halfN n) (p.take (p.length - 1))).2)
    else (nodeD (rdOf ByteArray.empty p ((p.length - 1 : Nat) : Int)) (climbF s f (i - halfN n) (n - halfN n) (p.take (p.length - 1))).1, (climbF s f (i - halfN n) (n - halfN n) (p.take (p.length - 1))).2)
theorem rdSat {xs : List ByteArray} {i : Nat} (h : i < xs.length) : rdOf ByteArray.empty xs (i : Int) = xs[i] := by
  unfold rdOf
  simp [h]
theorem rd_last (q : List ByteArray) (x : ByteArray) : rdOf ByteArray.empty (q ++ [x]) (((q ++ [x]).length - 1 : Nat) : Int) = x := by
  rw [rdSat (by simp)]
  simp
theorem take_last (q : List ByteArray) (x : ByteArray) : (q ++ [x]).take ((q ++ [x]).length - 1) = q := by simp
theorem rd_take (l : List ByteArray) (k i : Nat) (h : i < k) (hl : i < l.length) : rdOf ByteArray.empty (l.take k) (i : Int) = rdOf ByteArray.empty l (i : Int) := by
  rw [rdSat (by rw [List.length_take]; omega), rdSat hl, List.getElem_take]
theorem rd_drop (l : List ByteArray) (k i : Nat) (h : k ≤ i) (hl : i < l.length) : rdOf ByteArray.empty (l.drop k) ((i - k : Nat) : Int) = rdOf ByteArray.empty l (i : Int) := by
  rw [rdSat (by rw [List.length_drop]; omega), rdSat hl, List.getElem_drop]
  congr 1
  omega
/-- A path leads to the root. -/
theorem climb_path : ∀ (f : Nat) (l : List ByteArray) (i : Nat), l.length ≤ f → i < l.length → climbF (rdOf ByteArray.empty l (i : Int)) f i l.length (pathF f l i) = (rootL l, true) := by
  intro f
  induction f with
  | zero => intro l i hf hi; omega
  | succ f ih =>
    intro l i hf hi
    by_cases h1 : l.length ≤ 1
    · have h2 : l.length = 1 := by omega
      obtain rfl : i = 0 := by omega
      rw [climbF, if_pos h1, pathF, if_pos h1, rootL_one h2]
      rfl
    · have hb := halfN_bd (n := l.length) (by omega)
      have hr := rootL_two (l := l) (by omega)
      rw [climbF, if_neg h1, pathF, if_neg h1]
      by_cases hk : i < halfN l.length
      · have h3 := ih (l.take (halfN l.length)) i (by rw [List.length_take]; omega) (by rw [List.length_take]; omega)
        rw [rd_take l _ i hk hi, List.length_take, Nat.min_eq_left (by omega)] at h3
        rw [if_pos hk, if_neg (by simp), if_pos hk, take_last, rd_last, h3, hr]
      · have h3 := ih (l.drop (halfN l.length)) (i - halfN l.length) (by rw [List.length_drop]; omega) (by rw [List.length_drop]; omega)
        rw [rd_drop l _ i (by omega) hi, List.length_drop] at h3
        rw [if_neg hk, if_neg (by simp), if_neg hk, take_last, rd_last, h3, hr]
/-- Whether a path is as long as it must be does not hang on its parts. -/
theorem climb_len (s : ByteArray) : ∀ (f i n : Nat) (p q : List ByteArray), p.length ≠ q.length → (climbF s f i n p).2 = true → (climbF s f i n q).2 = false := by
  intro f
  induction f with
  | zero => intro i n p q h hp; rfl
  | succ f ih =>
    intro i n p q h hp
    rw [climbF] at hp ⊢
    by_cases h1 : n ≤ 1
    · rw [if_pos h1] at hp ⊢
      simp only [decide_eq_true_eq] at hp
      simp only [decide_eq_false_iff_not]
      omega
    · rw [if_neg h1] at hp ⊢
      by_cases hp0 : p.length = 0
      · rw [if_pos hp0] at hp
        cases hp
      · rw [if_neg hp0] at hp
        by_cases hq0 : q.length = 0
        · rw [if_pos hq0]
        · rw [if_neg hq0]
          by_cases hk : i < halfN n
          · rw [if_pos hk] at hp ⊢
            exact ih i (halfN n) _ _ (by rw [List.length_take, List.length_take]; omega) hp
          · rw [if_neg hk] at hp ⊢
            exact ih (i - halfN n) (n - halfN n) _ _ (by rw [List.length_take, List.length_take]; omega) hp
def rootOfL (l : List ByteArray) : ByteArray := if l.length > 64 then (⟨#[]⟩ : ByteArray) else rootL l
theorem climbF_size (s : ByteArray) (f i n : Nat) (p : List ByteArray) : (climbF s f i n p).1.size ≤ 32 := by
  cases f with
  | zero => exact Nat.zero_le 32
  | succ f =>
    rw [climbF]
    split
    · exact Nat.le_of_eq (leafD_size _)
    · split
      · exact Nat.zero_le 32
      · split
        · exact Nat.le_of_eq (nodeD_size _ _)
        · exact Nat.le_of_eq (nodeD_size _ _)
/-- Whether a path is right. -/
def checkL (s : ByteArray) (i n : Int) (p : List ByteArray) (r : ByteArray) : Bool :=
  if 1 ≤ n ∧ n ≤ 64 ∧ 0 ≤ i ∧ i ≤ n - 1 then ((climbF s n.toNat i.toNat n.toNat p).2 && ((climbF s n.toNat i.toNat n.toNat p).1.toList == r.toList)) else false
def pathOfL (l : List ByteArray) (i : Int) : List ByteArray := if l.length > 64 then [] else if 0 ≤ i ∧ i ≤ (l.length : Int) - 1 then pathL l i.toNat else []
theorem pathOfL_len (l : List ByteArray) (i : Int) : (pathOfL l i).length ≤ l.length := by
  unfold pathOfL
  split
  · simp
  · split
    · exact pathF_len _ _ _
    · simp
end Go.Proofs.Ytcbpfofkdipjhaa.Sha
