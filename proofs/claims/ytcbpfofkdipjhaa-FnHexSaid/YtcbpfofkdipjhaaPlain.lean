/- Plain laws of numbers, texts and names as bytes: what was put comes back. No condition but sizes; no program. -/
import Derived.Test.YtcbpfofkdipjhaaBase
namespace Go.Proofs.Ytcbpfofkdipjhaa.Base
open Go.RowKit Go.Proofs.YtcbpfofkdipjhaaW.PrintWords Go.Proofs.YtcbpfofkdipjhaaW.PrintMore
set_option linter.unusedVariables false
/-! ### numbers put -/
def grp : Nat → Int → List Int
  | 0, m => [m % 256]
  | f + 1, m => if m > 127 then (m % 128 + 128) :: grp f (m / 128) else [m % 256]
def clampN (n : Int) : Int := if n > 1000000000 then 1000000000 else if n < -1000000000 then -1000000000 else n
def numM (n : Int) : Int := if clampN n < 0 then -2 * clampN n - 1 else 2 * clampN n
def putN (n : Int) : List Int := grp 5 (numM n)
theorem clampN_range (n : Int) : -1000000000 ≤ clampN n ∧ clampN n ≤ 1000000000 := by
  unfold clampN
  split
  · omega
  · split <;> omega
theorem numM_range (n : Int) : 0 ≤ numM n ∧ numM n ≤ 2000000000 := by
  have := clampN_range n
  unfold numM
  split <;> omega
theorem grp_all : ∀ (f : Nat) (m : Int), 0 ≤ m → AllB (grp f m)
  | 0, m, h => by
    intro x hx
    simp [grp] at hx
    omega
  | f + 1, m, h => by
    intro x hx
    simp only [grp] at hx
    split at hx
    · rcases List.mem_cons.1 hx with rfl | hx
      · omega
      · exact grp_all f (m / 128) (by omega) x hx
    · simp at hx
      omega
theorem grp_length : ∀ (f : Nat) (m : Int), 1 ≤ (grp f m).length ∧ (grp f m).length ≤ f + 1
  | 0, m => by simp [grp]
  | f + 1, m => by
    have := grp_length f (m / 128)
    simp only [grp]
    split
    · simp; omega
    · simp
theorem putN_length (n : Int) : 1 ≤ (putN n).length ∧ (putN n).length ≤ 6 := grp_length 5 _
theorem putN_all (n : Int) : AllB (putN n) := grp_all 5 _ (numM_range n).1
theorem AllB.append {a b : List Int} (h : AllB a) (k : AllB b) : AllB (a ++ b) := by
  intro x hx
  rcases List.mem_append.1 hx with hx | hx
  · exact h x hx
  · exact k x hx
def decM (M : Int) : Int := if M % 2 = 1 then -(M / 2) - 1 else M / 2
theorem dec_num (n : Int) : decM (numM n) = clampN n := by
  have := clampN_range n
  unfold decM numM
  split <;> split <;> omega
/-- What follows a number's groups does not matter. -/
theorem gn_grp : ∀ (g f i : Nat) (m acc p : Int) (rest : List Int), 0 ≤ m → m < 128 ^ (g + 1) → g < f → (i = 0 ∨ 0 < m) →
    gn f (grp g m ++ rest) acc i p = (if -1000000000 ≤ decM (acc + m * 2 ^ (7 * i)) ∧ decM (acc + m * 2 ^ (7 * i)) ≤ 1000000000 then (decM (acc + m * 2 ^ (7 * i)), p + (grp g m).length, true) else (0, 0, false)) := by
  intro g
  induction g with
  | zero =>
    intro f i m acc p rest hm0 hm1 hf hi
    obtain ⟨f, rfl⟩ : ∃ q, f = q + 1 := ⟨f - 1, by omega⟩
    have hm2 : m < 128 := by simpa using hm1
    have e : m % 256 = m := by omega
    have e2 : m % 128 = m := by omega
    simp only [grp, List.cons_append, List.nil_append, gn, e, e2]
    rw [if_neg (by omega)]
    have hz : ¬ (m = 0 ∧ 0 < i) := by omega
    unfold decM
    by_cases hr : -1000000000 ≤ (if (acc + m * 2 ^ (7 * i)) % 2 = 1 then -((acc + m * 2 ^ (7 * i)) / 2) - 1 else (acc + m * 2 ^ (7 * i)) / 2) ∧ (if (acc + m * 2 ^ (7 * i)) % 2 = 1 then -((acc + m * 2 ^ (7 * i)) / 2) - 1 else (acc + m * 2 ^ (7 * i)) / 2) ≤ 1000000000
    · rw [if_neg (by simp only [hz, hr]; simp), if_pos hr]
      simp
    · rw [if_pos (.inr hr), if_neg hr]
  | succ g ih =>
    intro f i m acc p rest hm0 hm1 hf hi
    obtain ⟨f, rfl⟩ : ∃ q, f = q + 1 := ⟨f - 1, by omega⟩
    by_cases hbig : m > 127
    · have hq : m / 128 < 128 ^ (g + 1) := by
        have h2 : (128 : Int) ^ (g + 1 + 1) = 128 ^ (g + 1) * 128 := Int.pow_succ _ _
        rw [h2] at hm1
        exact Int.ediv_lt_of_lt_mul (by decide) hm1
      have hpos : (2 : Int) ^ (7 * (i + 1)) = 128 * 2 ^ (7 * i) := by rw [show 7 * (i + 1) = 7 * i + 7 by omega, Int.pow_add]; omega
      have hacc : acc + m % 128 * 2 ^ (7 * i) + m / 128 * 2 ^ (7 * (i + 1)) = acc + m * 2 ^ (7 * i) := by
        rw [hpos, Int.add_assoc, show m / 128 * (128 * 2 ^ (7 * i)) = (128 * (m / 128)) * 2 ^ (7 * i) by rw [← Int.mul_assoc, Int.mul_comm (m / 128) 128], ← Int.add_mul]
        congr 2
        omega
      have h1 := ih f (i + 1) (m / 128) (acc + m % 128 * 2 ^ (7 * i)) (p + 1) rest (by omega) hq (by omega) (.inr (by omega))
      rw [hacc] at h1
      simp only [grp, if_pos hbig, List.cons_append, gn]
      rw [if_pos (by omega), show (m % 128 + 128) % 128 = m % 128 by omega, h1]
      simp only [List.length_cons]
      congr 2
      congr 1
      omega
    · have hm2 : m < 128 := by omega
      have e : m % 256 = m := by omega
      have e2 : m % 128 = m := by omega
      simp only [grp, if_neg hbig, List.cons_append, List.nil_append, gn, e, e2]
      rw [if_neg (by omega)]
      have hz : ¬ (m = 0 ∧ 0 < i) := by omega
      unfold decM
      by_cases hr : -1000000000 ≤ (if (acc + m * 2 ^ (7 * i)) % 2 = 1 then -((acc + m * 2 ^ (7 * i)) / 2) - 1 else (acc + m * 2 ^ (7 * i)) / 2) ∧ (if (acc + m * 2 ^ (7 * i)) % 2 = 1 then -((acc + m * 2 ^ (7 * i)) / 2) - 1 else (acc + m * 2 ^ (7 * i)) / 2) ≤ 1000000000
      · rw [if_neg (by simp only [hz, hr]; simp), if_pos hr]
        simp
      · rw [if_pos (.inr hr), if_neg hr]
/-- A number's groups with fewer rounds: as many as it needs. -/
theorem grp_fuel : ∀ (g h : Nat) (m : Int), 0 ≤ m → m < 128 ^ (g + 1) → g ≤ h → grp h m = grp g m := by
  intro g
  induction g with
  | zero =>
    intro h m h0 h1 hh
    have hm2 : m < 128 := by simpa using h1
    cases h with
    | zero => rfl
    | succ h => simp only [grp]; rw [if_neg (by omega)]
  | succ g ih =>
    intro h m h0 h1 hh
    obtain ⟨h, rfl⟩ : ∃ q, h = q + 1 := ⟨h - 1, by omega⟩
    simp only [grp]
    by_cases hbig : m > 127
    · have hq : m / 128 < 128 ^ (g + 1) := by
        have h2 : (128 : Int) ^ (g + 1 + 1) = 128 ^ (g + 1) * 128 := Int.pow_succ _ _
        rw [h2] at h1
        exact Int.ediv_lt_of_lt_mul (by decide) h1
      rw [if_pos hbig, if_pos hbig, ih h (m / 128) (by omega) hq (by omega)]
    · rw [if_neg hbig, if_neg hbig]
theorem gn_put (n p : Int) (rest : List Int) : gn 5 (putN n ++ rest) 0 0 p = (clampN n, p + (putN n).length, true) := by
  have hr := numM_range n
  have hc := clampN_range n
  have e : putN n = grp 4 (numM n) := grp_fuel 4 5 _ hr.1 (by omega) (by omega)
  rw [e, gn_grp 4 5 0 (numM n) 0 p rest hr.1 (by omega) (by omega) (.inl rfl)]
  simp only [Int.zero_add, Nat.mul_zero, Int.pow_zero, Int.mul_one, dec_num]
  rw [if_pos hc]
/-- A number that was put comes back. -/
theorem gnum_put (b : List Int) (n : Int) (rest : List Int) : gnum (b ++ (putN n ++ rest)) (b.length : Int) = (clampN n, (b.length : Int) + (putN n).length, true) := by
  have hl := putN_length n
  unfold gnum
  rw [if_pos (by simp; omega), Int.toNat_natCast, List.drop_left, gn_put]
/-- Cut, it does not come back. -/
theorem gn_cut : ∀ (g f i : Nat) (m acc p : Int), 0 ≤ m → gn f (grp g m).dropLast acc i p = (0, 0, false) := by
  intro g
  induction g with
  | zero =>
    intro f i m acc p hm
    cases f <;> simp [grp, gn]
  | succ g ih =>
    intro f i m acc p hm
    simp only [grp]
    split
    · have hl := (grp_length g (m / 128)).1
      have hd : ((m % 128 + 128) :: grp g (m / 128)).dropLast = (m % 128 + 128) :: (grp g (m / 128)).dropLast := by
        cases hg : grp g (m / 128) with
        | nil => rw [hg] at hl; simp at hl
        | cons a l => rfl
      rw [hd]
      cases f with
      | zero => simp [gn]
      | succ f =>
        simp only [gn]
        rw [if_pos (by omega), ih f (i + 1) (m / 128) _ (p + 1) (by omega)]
    · cases f <;> simp [gn]
theorem gnum_cut (b : List Int) (n : Int) : gnum (b ++ (putN n).dropLast) (b.length : Int) = (0, 0, false) := by
  unfold gnum
  split
  · rw [Int.toNat_natCast, List.drop_left]
    exact gn_cut 5 5 0 _ 0 _ (numM_range n).1
  · rfl
/-! ### what a number read tells -/
theorem gn_ok : ∀ (f : Nat) (l : List Int) (m : Int) (i : Nat) (p : Int), (gn f l m i p).2.2 = true →
    p < (gn f l m i p).2.1 ∧ (gn f l m i p).2.1 ≤ p + l.length ∧ -1000000000 ≤ (gn f l m i p).1 ∧ (gn f l m i p).1 ≤ 1000000000 := by
  intro f
  induction f with
  | zero => intro l m i p h; simp [gn] at h
  | succ f ih =>
    intro l m i p h
    cases l with
    | nil => simp [gn] at h
    | cons c t =>
      simp only [gn] at h ⊢
      by_cases hc : 128 ≤ c
      · rw [if_pos hc] at h ⊢
        have := ih t _ _ _ h
        simp only [List.length_cons]
        omega
      · rw [if_neg hc] at h ⊢
        generalize (if (m + c % 128 * 2 ^ (7 * i)) % 2 = 1 then -((m + c % 128 * 2 ^ (7 * i)) / 2) - 1 else (m + c % 128 * 2 ^ (7 * i)) / 2) = n at h ⊢
        by_cases hn : c = 0 ∧ 0 < i ∨ ¬(-1000000000 ≤ n ∧ n ≤ 1000000000)
        · rw [if_pos hn] at h
          simp at h
        · rw [if_neg hn] at h
          rw [if_neg hn]
          simp only [List.length_cons]
          have hn' := not_or.1 hn
          have h2 := Decidable.not_not.1 hn'.2
          refine ⟨by omega, by omega, h2.1, h2.2⟩
theorem gn_no : ∀ (f : Nat) (l : List Int) (m : Int) (i : Nat) (p : Int), (gn f l m i p).2.2 = false → gn f l m i p = (0, 0, false) := by
  intro f
  induction f with
  | zero => intro l m i p h; simp [gn]
  | succ f ih =>
    intro l m i p h
    cases l with
    | nil => simp [gn]
    | cons c t =>
      simp only [gn] at h ⊢
      by_cases hc : 128 ≤ c
      · rw [if_pos hc] at h ⊢
        exact ih t _ _ _ h
      · rw [if_neg hc] at h ⊢
        generalize (if (m + c % 128 * 2 ^ (7 * i)) % 2 = 1 then -((m + c % 128 * 2 ^ (7 * i)) / 2) - 1 else (m + c % 128 * 2 ^ (7 * i)) / 2) = n at h ⊢
        by_cases hn : c = 0 ∧ 0 < i ∨ ¬(-1000000000 ≤ n ∧ n ≤ 1000000000)
        · rw [if_pos hn]
        · rw [if_neg hn] at h
          simp at h
theorem gnum_ok (b : List Int) (p : Int) (h : (gnum b p).2.2 = true) : 0 ≤ p ∧ p < (gnum b p).2.1 ∧ (gnum b p).2.1 ≤ b.length ∧ -1000000000 ≤ (gnum b p).1 ∧ (gnum b p).1 ≤ 1000000000 := by
  unfold gnum at h ⊢
  split at h
  · rename_i hp
    rw [if_pos hp]
    have := gn_ok 5 (b.drop p.toNat) 0 0 p h
    rw [List.length_drop] at this
    omega
  · simp at h
theorem gnum_no (b : List Int) (p : Int) (h : (gnum b p).2.2 = false) : gnum b p = (0, 0, false) := by
  unfold gnum at h ⊢
  split at h
  · rename_i hp
    rw [if_pos hp]
    exact gn_no _ _ _ _ _ h
  · rename_i hp
    rw [if_neg hp]
/-! ### texts -/
def putT (s : ByteArray) : List Int := putN (s.size : Int) ++ bytesOf s
def gtext (b : List Int) (p : Int) : ByteArray × Int × Bool :=
  if (gnum b p).2.2 = true ∧ 0 ≤ (gnum b p).1 ∧ (gnum b p).1 ≤ (b.length : Int) - (gnum b p).2.1 then
    (strOfNums ((b.take ((gnum b p).2.1 + (gnum b p).1).toNat).drop (gnum b p).2.1.toNat), (gnum b p).2.1 + (gnum b p).1, true)
  else ((⟨#[]⟩ : ByteArray), 0, false)
theorem str_bytes (s : ByteArray) : strOfNums (bytesOf s) = s := by
  unfold strOfNums bytesOf
  rw [List.map_map]
  have : (s.data.toList.map ((fun n : Int => UInt8.ofNat n.toNat) ∘ fun b => (b.toNat : Int))) = s.data.toList := by
    conv => rhs; rw [← List.map_id s.data.toList]
    apply List.map_congr_left
    intro x _
    simp
  rw [this]
theorem gtext_ok (b : List Int) (p : Int) (h : (gtext b p).2.2 = true) : 0 ≤ p ∧ p < (gtext b p).2.1 ∧ (gtext b p).2.1 ≤ b.length := by
  unfold gtext at h ⊢
  split at h
  · rename_i hc
    rw [if_pos hc]
    have := gnum_ok b p hc.1
    dsimp only
    omega
  · simp at h
theorem gtext_no (b : List Int) (p : Int) (h : (gtext b p).2.2 = false) : gtext b p = ((⟨#[]⟩ : ByteArray), 0, false) := by
  unfold gtext at h ⊢
  split at h
  · simp at h
  · rename_i hc; rw [if_neg hc]
theorem clamp_size (s : ByteArray) (h : s.size ≤ 1000000000) : clampN (s.size : Int) = s.size := by
  unfold clampN
  rw [if_neg (by omega), if_neg (by omega)]
theorem gtext_put (b : List Int) (s : ByteArray) (rest : List Int) (h : s.size ≤ 1000000000) : gtext (b ++ (putT s ++ rest)) (b.length : Int) = (s, (b.length : Int) + (putT s).length, true) := by
  have e : b ++ (putT s ++ rest) = b ++ (putN (s.size : Int) ++ (bytesOf s ++ rest)) := by simp [putT]
  have hg := gnum_put b (s.size : Int) (bytesOf s ++ rest)
  rw [clamp_size s h] at hg
  unfold gtext
  rw [e, hg]
  have hl : (bytesOf s).length = s.size := bytes_length s
  rw [if_pos (by simp; omega)]
  have e1 : (((b.length : Int) + ((putN (s.size : Int)).length : Int) + (s.size : Int))).toNat = b.length + (putN (s.size : Int)).length + s.size := by omega
  have e2 : ((b.length : Int) + ((putN (s.size : Int)).length : Int)).toNat = b.length + (putN (s.size : Int)).length := by omega
  dsimp only
  rw [e1, e2]
  have e3 : ((b ++ (putN (s.size : Int) ++ (bytesOf s ++ rest))).take (b.length + (putN (s.size : Int)).length + s.size)).drop (b.length + (putN (s.size : Int)).length) = bytesOf s := by
    rw [List.drop_take, ← List.append_assoc, show b.length + (putN (s.size : Int)).length = (b ++ putN (s.size : Int)).length by simp, List.drop_left, show (b ++ putN (s.size : Int)).length + s.size - (b ++ putN (s.size : Int)).length = (bytesOf s).length by omega, List.take_left]
  rw [e3, str_bytes]
  simp [putT, hl]
  omega
/-! ### names -/
def putNs (l : List ByteArray) : List Int := putN (l.length : Int) ++ l.flatMap putT
/-- d names from place p on, behind those that came. -/
def gnames (b : List Int) : Nat → Int → List ByteArray → List ByteArray × Int × Bool
  | 0, p, acc => (acc, p, true)
  | d + 1, p, acc => if (gtext b p).2.2 = true then gnames b d (gtext b p).2.1 (acc ++ [(gtext b p).1]) else ([], 0, false)
def gnamesOf (b : List Int) (p : Int) : List ByteArray × Int × Bool :=
  if (gnum b p).2.2 = true ∧ 0 ≤ (gnum b p).1 ∧ (gnum b p).1 ≤ 100 then gnames b (gnum b p).1.toNat (gnum b p).2.1 [] else ([], 0, false)
theorem gnames_put (rest : List Int) : ∀ (l : List ByteArray) (b : List Int) (acc : List ByteArray), (∀ s ∈ l, s.size ≤ 1000000000) →
    gnames (b ++ (l.flatMap putT ++ rest)) l.length (b.length : Int) acc = (acc ++ l, (b.length : Int) + (l.flatMap putT).length, true) := by
  intro l
  induction l with
  | nil => intro b acc _; simp [gnames]
  | cons s l ih =>
    intro b acc hs
    have e : b ++ ((s :: l).flatMap putT ++ rest) = b ++ (putT s ++ (l.flatMap putT ++ rest)) := by simp [List.flatMap_cons]
    have h1 := gtext_put b s (l.flatMap putT ++ rest) (hs s (by simp))
    rw [e]
    simp only [gnames, List.length_cons, h1, if_true]
    have h2 := ih (b ++ putT s) (acc ++ [s]) (fun x hx => hs x (by simp [hx]))
    rw [List.append_assoc] at h2
    rw [show ((b.length : Int) + ((putT s).length : Int)) = (((b ++ putT s).length : Nat) : Int) by simp, h2]
    simp [List.flatMap_cons]
    omega
theorem gnames_of_put (b : List Int) (l : List ByteArray) (rest : List Int) (hl : l.length ≤ 100) (hs : ∀ s ∈ l, s.size ≤ 1000000000) :
    gnamesOf (b ++ (putNs l ++ rest)) (b.length : Int) = (l, (b.length : Int) + (putNs l).length, true) := by
  have e : b ++ (putNs l ++ rest) = b ++ (putN (l.length : Int) ++ (l.flatMap putT ++ rest)) := by simp [putNs]
  have hg := gnum_put b (l.length : Int) (l.flatMap putT ++ rest)
  have hc : clampN (l.length : Int) = l.length := by
    unfold clampN
    rw [if_neg (by omega), if_neg (by omega)]
  rw [hc] at hg
  unfold gnamesOf
  rw [e, hg]
  rw [if_pos (by simp; omega)]
  dsimp only
  rw [Int.toNat_natCast, ← List.append_assoc, show (b.length : Int) + ((putN (l.length : Int)).length : Int) = (((b ++ putN (l.length : Int)).length : Nat) : Int) by simp, gnames_put rest l (b ++ putN (l.length : Int)) [] hs]
  simp [putNs]
  omega
end Go.Proofs.Ytcbpfofkdipjhaa.Base
