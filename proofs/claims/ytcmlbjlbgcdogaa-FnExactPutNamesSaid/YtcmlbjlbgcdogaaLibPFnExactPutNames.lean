/- What the printed functions that put and get numbers, texts and names compute. No condition but sizes. -/
import Derived.Test.YtcmlbjlbgcdogaaPFx0
import Derived.Test.YtcmlbjlbgcdogaaPFx2
import Derived.Test.YtcmlbjlbgcdogaaPFx3
import Derived.Test.YtcmlbjlbgcdogaaLibMFnExactPutNames
import Derived.Test.YtcmlbjlbgcdogaaPlain
namespace Go.Proofs.Ytcmlbjlbgcdogaa.PF
open Go.RowKit Go.Proofs.YtcmlbjlbgcdogaaW.PrintWords Go.Proofs.YtcmlbjlbgcdogaaW.PrintLast Go.Proofs.YtcmlbjlbgcdogaaW.PrintMore Go.Proofs.Ytcmlbjlbgcdogaa.Base
set_option linter.unusedVariables false
theorem putT_length (s : ByteArray) : (putT s).length ≤ s.size + 6 := by
  have := putN_length (s.size : Int)
  simp [putT, bytes_length]
  omega
theorem clone_eq (l : List Int) (h : l.length < 140737488355328) : slices_Clone_byte_byte.f l = some l := by
  unfold slices_Clone_byte_byte.f
  rw [if_pos h]
theorem low7 (m : Int) (h0 : 0 ≤ m) (h1 : m < 2 ^ 62) : (Go.bits .or .i64 (Go.bits .and .i64 m 127) 128) % 256 = m % 128 + 128 := by
  rw [and127 m h0 (by omega), or_low 7 (m % 128) 128 (by decide) (by decide) (by decide) (by omega) (by omega) (by omega)]
  omega
theorem low7' (m : Int) (h0 : 0 ≤ m) (h1 : m < 2 ^ 62) : (Go.bits .or .i64 128 (Go.bits .and .i64 m 127)) % 256 = m % 128 + 128 := by
  rw [and127 m h0 (by omega), or_high 7 128 (m % 128) (by decide) (by decide) (by decide) (by omega) (by omega) (by omega)]
  omega
theorem sPutNum_l : ∀ (f : Nat) (x : List Int) (m : Int), 0 ≤ m → m < 128 ^ (f + 1) → f ≤ 5 → x.length + f < 140737488355328 → Ev (fun k => spec_PutNum.l0 k x m) (x ++ grp f m) := by
  intro f
  induction f with
  | zero =>
    intro x m h0 h1 hf hl
    have h2 : m < 128 := by simpa using h1
    refine evOne fun k => ?_
    simp only [spec_PutNum.l0, grp]
    rw [if_neg (by omega), if_pos (by omega)]
  | succ f ih =>
    intro x m h0 h1 hf hl
    have hpow : (128 : Int) ^ (f + 1 + 1) ≤ 128 ^ 6 := by
      have : f = 0 ∨ f = 1 ∨ f = 2 ∨ f = 3 ∨ f = 4 := by omega
      rcases this with rfl | rfl | rfl | rfl | rfl <;> decide
    have hm62 : m < 2 ^ 62 := by omega
    by_cases hb : m > 127
    · have hq : m / 128 < 128 ^ (f + 1) := by
        have h2 : (128 : Int) ^ (f + 1 + 1) = 128 ^ (f + 1) * 128 := Int.pow_succ _ _
        rw [h2] at h1
        exact Int.ediv_lt_of_lt_mul (by decide) h1
      refine Ev.step (f := fun k => spec_PutNum.l0 k (x ++ [m % 128 + 128]) (m / 128)) (fun k => ?_) (evEq (ih (x ++ [m % 128 + 128]) (m / 128) (by omega) hq (by omega) (by simp; omega)) ?_)
      · simp only [spec_PutNum.l0]
        rw [if_pos hb, if_pos (by omega), low7 m h0 hm62]
      · simp only [grp]
        rw [if_pos hb]
        simp
    · refine evOne fun k => ?_
      simp only [spec_PutNum.l0, grp]
      rw [if_neg hb, if_pos (by omega), if_neg hb]
theorem sPutNum_ev (b : List Int) (n : Int) (hl : b.length < 140737488355000) : Ev (fun k => spec_PutNum.f k b n) (b ++ putN n) := by
  have hr := numM_range n
  have hc := clampN_range n
  have h1 := sPutNum_l 5 b (numM n) hr.1 (by omega) (by omega) (by omega)
  have j2 : ∀ m, m = numM n → Ev (fun k => spec_PutNum.j2 k b m) (b ++ putN n) := by
    intro m hm
    subst hm
    exact Ev.step (f := fun k => spec_PutNum.l0 k b (numM n)) (fun k => by simp only [spec_PutNum.j2]) h1
  have j1 : ∀ m, m = clampN n → Ev (fun k => spec_PutNum.j1 k m b) (b ++ putN n) := by
    intro m hm
    subst hm
    refine Ev.step (f := fun k => if clampN n < 0 then (spec_PutNum.j2 k b (wrap64 ((wrap64 ((-2) * clampN n)) - 1))) else (spec_PutNum.j2 k b (wrap64 (2 * clampN n)))) (fun k => by simp only [spec_PutNum.j1]) ?_
    by_cases hneg : clampN n < 0
    · refine evPos hneg (j2 _ ?_)
      rw [w64 (x := -2 * clampN n) (by omega) (by omega), w64 (by omega) (by omega)]
      unfold numM
      rw [if_pos hneg]
    · refine evNeg hneg (j2 _ ?_)
      rw [w64 (by omega) (by omega)]
      unfold numM
      rw [if_neg hneg]
  have j0 : ∀ m, (m = n ∧ ¬ n > 1000000000 ∨ m = 1000000000 ∧ n > 1000000000) → Ev (fun k => spec_PutNum.j0 k m b) (b ++ putN n) := by
    intro m hm
    refine Ev.step (f := fun k => if m < (-1000000000) then (spec_PutNum.j1 k (-1000000000) b) else (spec_PutNum.j1 k m b)) (fun k => by simp only [spec_PutNum.j0]) ?_
    by_cases hlo : m < -1000000000
    · refine evPos hlo (j1 _ ?_)
      unfold clampN
      rcases hm with ⟨rfl, hm⟩ | ⟨rfl, hm⟩
      · rw [if_neg hm, if_pos hlo]
      · omega
    · refine evNeg hlo (j1 _ ?_)
      unfold clampN
      rcases hm with ⟨rfl, hm⟩ | ⟨rfl, hm⟩
      · rw [if_neg hm, if_neg hlo]
      · rw [if_pos hm]
  simp only [spec_PutNum.f, Option.bind_some, List.nil_append, List.length_nil, Nat.zero_add]
  refine evPos (by omega) ?_
  by_cases hhi : n > 1000000000
  · exact evPos hhi (j0 _ (.inr ⟨rfl, hhi⟩))
  · exact evNeg hhi (j0 _ (.inl ⟨rfl, hhi⟩))
theorem iputNum_l : ∀ (f : Nat) (x : List Int) (m : Int), 0 ≤ m → m < 128 ^ (f + 1) → f ≤ 5 → x.length + f < 140737488355328 → Ev (fun k => impl_putNum.l0 k x m) (x ++ grp f m) := by
  intro f
  induction f with
  | zero =>
    intro x m h0 h1 hf hl
    have h2 : m < 128 := by simpa using h1
    refine evOne fun k => ?_
    simp only [impl_putNum.l0, grp]
    rw [if_neg (by omega), if_pos (by omega)]
  | succ f ih =>
    intro x m h0 h1 hf hl
    have hpow : (128 : Int) ^ (f + 1 + 1) ≤ 128 ^ 6 := by
      have : f = 0 ∨ f = 1 ∨ f = 2 ∨ f = 3 ∨ f = 4 := by omega
      rcases this with rfl | rfl | rfl | rfl | rfl <;> decide
    have hm62 : m < 2 ^ 62 := by omega
    by_cases hb : m > 127
    · have hq : m / 128 < 128 ^ (f + 1) := by
        have h2 : (128 : Int) ^ (f + 1 + 1) = 128 ^ (f + 1) * 128 := Int.pow_succ _ _
        rw [h2] at h1
        exact Int.ediv_lt_of_lt_mul (by decide) h1
      refine Ev.step (f := fun k => impl_putNum.l0 k (x ++ [m % 128 + 128]) (m / 128)) (fun k => ?_) (evEq (ih (x ++ [m % 128 + 128]) (m / 128) (by omega) hq (by omega) (by simp; omega)) ?_)
      · simp only [impl_putNum.l0]
        rw [if_pos hb, if_pos (by omega), low7' m h0 hm62]
      · simp only [grp]
        rw [if_pos hb]
        simp
    · refine evOne fun k => ?_
      simp only [impl_putNum.l0, grp]
      rw [if_neg hb, if_pos (by omega), if_neg hb]
theorem clamp_mx (n : Int) : mx (-1000000000) (mn n 1000000000) = clampN n := by
  unfold mx mn clampN
  by_cases h1 : 1000000000 < n
  · rw [if_pos h1, if_pos (by omega : n > 1000000000), if_pos (by omega)]
  · rw [if_neg h1, if_neg (by omega : ¬ n > 1000000000)]
    by_cases h2 : n < -1000000000
    · rw [if_pos h2, if_neg (by omega)]
    · rw [if_neg h2]
      by_cases h3 : -1000000000 < n
      · rw [if_pos h3]
      · rw [if_neg h3]; omega
theorem iputNum_ev (b : List Int) (n : Int) (hl : b.length < 140737488355000) : Ev (fun k => impl_putNum.f k b n) (b ++ putN n) := by
  have hr := numM_range n
  have hc := clampN_range n
  have h1 := iputNum_l 5 b (numM n) hr.1 (by omega) (by omega) (by omega)
  have j0 : ∀ m, m = numM n → Ev (fun k => impl_putNum.j0 k b m) (b ++ putN n) := by
    intro m hm
    subst hm
    exact Ev.step (f := fun k => impl_putNum.l0 k b (numM n)) (fun k => by simp only [impl_putNum.j0]) h1
  simp only [impl_putNum.f, clamp_mx]
  by_cases hneg : clampN n < 0
  · refine evPos hneg (j0 _ ?_)
    unfold numM
    rw [if_pos hneg]
  · refine evNeg hneg (j0 _ ?_)
    unfold numM
    rw [if_neg hneg]
theorem sPutText_ev (b : List Int) (s : ByteArray) (hl : b.length + s.size < 140737488354000) : Ev (fun k => spec_PutText.f k b s) (b ++ putT s) := by
  have hp := putN_length (s.size : Int)
  simp only [spec_PutText.f]
  refine Ev.bind (sPutNum_ev b s.size (by omega)) (evPos (by simp; omega) (evEq (Ev.now _) (by simp [putT])))
theorem iputText_ev (b : List Int) (s : ByteArray) (hl : b.length + s.size < 140737488354000) : Ev (fun k => impl_putText.f k b s) (b ++ putT s) := by
  have hp := putN_length (s.size : Int)
  simp only [impl_putText.f]
  refine Ev.bind (iputNum_ev b s.size (by omega)) (evPos (by simp; omega) (evEq (Ev.now _) (by simp [putT])))
def tsum (l : List ByteArray) : Nat := (l.map fun s => s.size + 6).sum
theorem rdSn {xs : List ByteArray} {i : Nat} (h : i < xs.length) : rdOf ByteArray.empty xs (i : Int) = xs[i] := by
  unfold rdOf
  rw [Int.toNat_natCast, List.getD_eq_getElem?_getD, List.getElem?_eq_getElem h]
  rfl
theorem sPutNames_l (l : List ByteArray) (hll : l.length ≤ 281474976710656) : ∀ (d i : Nat) (x : List Int), i + d = l.length → x.length + tsum (l.drop i) < 140737488350000 → Ev (fun k => spec_PutNames.l0 k l x (i : Int)) (x ++ (l.drop i).flatMap putT) := by
  intro d
  induction d with
  | zero =>
    intro i x hi hl
    refine evOne fun k => ?_
    simp only [spec_PutNames.l0]
    rw [if_neg (by omega), List.drop_of_length_le (by omega)]
    simp
  | succ d ih =>
    intro i x hi hl
    have hlt : i < l.length := by omega
    rw [drop_cons hlt] at hl ⊢
    have hts : tsum (l[i] :: l.drop (i + 1)) = l[i].size + 6 + tsum (l.drop (i + 1)) := by unfold tsum; rw [List.map_cons, List.sum_cons]
    have hpt := putT_length l[i]
    refine Ev.step (f := fun k => (spec_PutText.f k x l[i]).bind fun t => spec_PutNames.l0 k l t ((i + 1 : Nat) : Int)) (fun k => ?_) (Ev.bind (sPutText_ev x l[i] (by omega)) (evEq (ih (i + 1) (x ++ putT l[i]) (by omega) (by simp; omega)) (by simp only [List.flatMap_cons, List.append_assoc])))
    simp only [spec_PutNames.l0]
    rw [if_pos (by omega), if_pos (by omega), rdSn hlt, w64 (by omega) (by omega)]
    rfl
theorem sPutNames_ev (b : List Int) (l : List ByteArray) (hll : l.length ≤ 281474976710656) (hl : b.length + tsum l < 140737488340000) : Ev (fun k => spec_PutNames.f k b l) (b ++ putNs l) := by
  have hp := putN_length (l.length : Int)
  simp only [spec_PutNames.f]
  refine Ev.bind (sPutNum_ev b l.length (by omega)) (evEq (sPutNames_l l hll l.length 0 _ (by omega) (by simp; omega)) (by simp [putNs]))
theorem iputNames_l (l : List ByteArray) (hll : l.length ≤ 281474976710656) : ∀ (d i : Nat) (x : List Int), i + d = l.length → x.length + tsum (l.drop i) < 140737488350000 → Ev (fun k => impl_putNames.l0 k x l (l.length : Int) (i : Int)) (x ++ (l.drop i).flatMap putT) := by
  intro d
  induction d with
  | zero =>
    intro i x hi hl
    refine evOne fun k => ?_
    simp only [impl_putNames.l0]
    rw [if_neg (by omega), List.drop_of_length_le (by omega)]
    simp
  | succ d ih =>
    intro i x hi hl
    have hlt : i < l.length := by omega
    rw [drop_cons hlt] at hl ⊢
    have hts : tsum (l[i] :: l.drop (i + 1)) = l[i].size + 6 + tsum (l.drop (i + 1)) := by unfold tsum; rw [List.map_cons, List.sum_cons]
    have hpt := putT_length l[i]
    refine Ev.step (f := fun k => (impl_putText.f k x l[i]).bind fun t => impl_putNames.l0 k t l (l.length : Int) ((i + 1 : Nat) : Int)) (fun k => ?_) (Ev.bind (iputText_ev x l[i] (by omega)) (evEq (ih (i + 1) (x ++ putT l[i]) (by omega) (by simp; omega)) (by simp only [List.flatMap_cons, List.append_assoc])))
    simp only [impl_putNames.l0]
    rw [if_pos (by omega), if_pos (by omega), if_pos (by omega), rdSn hlt, w64 (by omega) (by omega)]
    rfl
theorem iputNames_ev (b : List Int) (l : List ByteArray) (hll : l.length ≤ 281474976710656) (hl : b.length + tsum l < 140737488340000) : Ev (fun k => impl_putNames.f k b l) (b ++ putNs l) := by
  have hp := putN_length (l.length : Int)
  simp only [impl_putNames.f]
  refine Ev.bind (iputNum_ev b l.length (by omega)) (evEq (iputNames_l l hll l.length 0 _ (by omega) (by simp; omega)) (by simp [putNs]))
theorem iPutNames_ev (b : List Int) (l : List ByteArray) (hll : l.length ≤ 281474976710656) (hl : b.length + tsum l < 140737488340000) : Ev (fun k => impl_PutNames.f k b l) (b ++ putNs l) := by
  simp only [impl_PutNames.f]
  exact evBindC (clone_eq b (by omega)) (Ev.bind (iputNames_ev b l hll hl) (Ev.now _))
/-! ### orders -/
def putX (kind : Int) (fr tt : ByteArray) (am no : Int) : List Int := putN kind ++ (putT fr ++ (putT tt ++ (putN am ++ putN no)))
end Go.Proofs.Ytcmlbjlbgcdogaa.PF
