/- Plain facts on whole numbers, lists and rounds, and plain Lean functions for what the byte level of the program computes. No condition, no program. -/
import Derived.Test.YtcbpfofkdipjhaaWWords
import Derived.Test.YtcbpfofkdipjhaaWMore
import Derived.Laws.BitsLemmas
namespace Go.Proofs.Ytcbpfofkdipjhaa.Base
open Go.RowKit Go.Proofs.YtcbpfofkdipjhaaW.PrintWords Go.Proofs.YtcbpfofkdipjhaaW.PrintMore

/-! ### whole numbers -/
theorem w64 {x : Int} (h0 : -9223372036854775808 ≤ x) (h1 : x ≤ 9223372036854775807) : wrap64 x = x := by unfold wrap64; omega
theorem w64_range (x : Int) : -9223372036854775808 ≤ wrap64 x ∧ wrap64 x ≤ 9223372036854775807 := by unfold wrap64; omega
theorem wf_i64 {x : Int} (h : (Lit.int .i64 x).wf = true) : -9223372036854775808 ≤ x ∧ x ≤ 9223372036854775807 := by
  simp [Lit.wf, IntKind.min, IntKind.max, IntKind.bits, IntKind.signed] at h
  omega
theorem wf_u8 {x : Int} (h : (Lit.int .u8 x).wf = true) : 0 ≤ x ∧ x ≤ 255 := by
  simp [Lit.wf, IntKind.min, IntKind.max, IntKind.bits, IntKind.signed] at h
  omega
theorem wraps_i64 (n : Int) (h₀ : 0 ≤ n) (h₁ : n < 2 ^ 63) : IntKind.i64.wrap n = n := by rw [IntKind.wrap_i64]; omega
theorem and_mask (i : Nat) (hi : i ≤ 63) (x : Int) (h0 : 0 ≤ x) (h1 : x < 2 ^ 63) : Go.bits .and .i64 x (2 ^ i - 1) = x % 2 ^ i := bits_mask .i64 63 (by decide) wraps_i64 i hi x h0 h1
theorem and127 (x : Int) (h0 : 0 ≤ x) (h1 : x < 2 ^ 63) : Go.bits .and .i64 x 127 = x % 128 := and_mask 7 (by decide) x h0 h1
theorem and1 (x : Int) (h0 : 0 ≤ x) (h1 : x < 2 ^ 63) : Go.bits .and .i64 x 1 = x % 2 := and_mask 1 (by decide) x h0 h1
theorem or_comm (x y : Int) (h0 : 0 ≤ x) (h1 : x < 2 ^ 63) (g0 : 0 ≤ y) (g1 : y < 2 ^ 63) : Go.bits .or .i64 x y = Go.bits .or .i64 y x := by
  obtain ⟨a, rfl⟩ := Int.eq_ofNat_of_zero_le h0
  obtain ⟨b, rfl⟩ := Int.eq_ofNat_of_zero_le g0
  have ha : a < 2 ^ 63 := by exact_mod_cast h1
  have hb : b < 2 ^ 63 := by exact_mod_cast g1
  rw [(bits_nat .i64 63 (by decide) wraps_i64 a b ha hb).2, (bits_nat .i64 63 (by decide) wraps_i64 b a hb ha).2, Nat.or_comm]
/-- The higher part or the lower part. -/
theorem or_high (i : Nat) (x y : Int) (hx₀ : 0 ≤ x) (hx : x % 2 ^ i = 0) (hx₁ : x < 2 ^ 63) (hy₀ : 0 ≤ y) (hy : y < 2 ^ i) (hy₁ : y < 2 ^ 63) : Go.bits .or .i64 x y = x + y :=
  bits_join .i64 63 (by decide) wraps_i64 i x y hx₀ hx hx₁ hy₀ hy hy₁
theorem or_low (i : Nat) (y x : Int) (hx₀ : 0 ≤ x) (hx : x % 2 ^ i = 0) (hx₁ : x < 2 ^ 63) (hy₀ : 0 ≤ y) (hy : y < 2 ^ i) (hy₁ : y < 2 ^ 63) : Go.bits .or .i64 y x = y + x := by
  rw [or_comm y x hy₀ hy₁ hx₀ hx₁, or_high i x y hx₀ hx hx₁ hy₀ hy hy₁, Int.add_comm]
theorem shl_i64 (x : Int) (s : Int) (s' : Nat) (hs : s = s') (hs' : s' ≤ 63) (h0 : 0 ≤ x * 2 ^ s') (h1 : x * 2 ^ s' < 2 ^ 63) : shl .i64 x s = x * 2 ^ s' := by
  subst hs
  have e : min ((s' : Int).toNat) IntKind.i64.bits = s' := by simp [IntKind.bits]; omega
  unfold shl
  rw [e]
  exact wraps_i64 _ h0 h1
theorem u64_id (x : Int) (h0 : 0 ≤ x) (h1 : x < 18446744073709551616) : IntKind.u64.wrap x = x := by
  simp [IntKind.wrap, IntKind.bits, IntKind.signed]
  omega

/-! ### rounds -/
theorem evVal {α : Type} {g : Nat → Option α} {r : α} (h : ∀ k, g k = some r) : Ev g r := ⟨0, fun k _ => h k⟩
theorem evOne {α : Type} {g : Nat → Option α} {r : α} (h : ∀ k, g (k + 1) = some r) : Ev g r := Ev.step (f := fun _ => some r) h (Ev.now r)
theorem evStep2 {α : Type} {g f : Nat → Option α} {r : α} (h : ∀ k, g (k + 2) = f k) (k : Ev f r) : Ev g r := Ev.step (f := fun k => g (k + 1)) (fun _ => rfl) (Ev.step (f := f) h k)
theorem evTwo {α : Type} {g : Nat → Option α} {r : α} (h : ∀ k, g (k + 2) = some r) : Ev g r := evStep2 (f := fun _ => some r) h (Ev.now r)
theorem evBindC {α β : Type} {o : Option α} {f : Nat → α → Option β} {a : α} {r : β} (h : o = some a) (k : Ev (fun n => f n a) r) : Ev (fun n => o.bind (f n)) r := by
  subst h
  exact k
theorem evIte {α : Type} {c : Prop} [Decidable c] {a b : Nat → Option α} {r : α} (h : c → Ev a r) (h' : ¬ c → Ev b r) : Ev (fun k => if c then a k else b k) r := by
  by_cases hc : c
  · have := h hc
    simpa [hc] using this
  · have := h' hc
    simpa [hc] using this
theorem evPos {α : Type} {c : Prop} [Decidable c] {a b : Nat → Option α} {r : α} (hc : c) (h : Ev a r) : Ev (fun k => if c then a k else b k) r := by simpa [hc] using h
theorem evNeg {α : Type} {c : Prop} [Decidable c] {a b : Nat → Option α} {r : α} (hc : ¬ c) (h : Ev b r) : Ev (fun k => if c then a k else b k) r := by simpa [hc] using h
theorem evEq {α : Type} {g : Nat → Option α} {r r' : α} (h : Ev g r) (e : r = r') : Ev g r' := e ▸ h

/-! ### lists -/
theorem rd_nat (xs : List Int) (i : Nat) : rd xs (i : Int) = xs.getD i 0 := by unfold rd; simp
theorem rd_get {xs : List Int} {i : Nat} (h : i < xs.length) : rd xs (i : Int) = xs[i] := by
  rw [rd_nat, List.getD_eq_getElem?_getD, List.getElem?_eq_getElem h]
  rfl
theorem drop_cons {α : Type} {xs : List α} {i : Nat} (h : i < xs.length) : xs.drop i = xs[i] :: xs.drop (i + 1) := List.drop_eq_getElem_cons h
theorem drop_rd {xs : List Int} {i : Nat} (h : i < xs.length) : xs.drop i = rd xs (i : Int) :: xs.drop (i + 1) := by rw [rd_get h]; exact drop_cons h
theorem take_snoc {α : Type} {xs : List α} {i : Nat} (h : i < xs.length) : xs.take (i + 1) = xs.take i ++ [xs[i]] := List.take_succ_eq_append_getElem h
theorem set_step {α : Type} {x3 x0 : List α} {i : Nat} (h : i < x0.length) (hl : x3.length = x0.length) : (x3.set i x0[i]).take (i + 1) ++ x0.drop (i + 1) = x3.take i ++ x0.drop i := by
  rw [take_snoc (by simp; omega), List.getElem_set_self, List.append_assoc, List.take_set_of_le (Nat.le_refl _), drop_cons h]
  rfl
theorem bytes_length (s : ByteArray) : (bytesOf s).length = s.size := bytesOf_length s
theorem bt_rd (s : ByteArray) (i : Nat) : bt s (i : Int) = rd (bytesOf s) (i : Int) := by
  by_cases h : i < s.size
  · rw [rd_get (by rw [bytes_length]; exact h)]
    unfold bt
    simp [h, bytesOf]
    rfl
  · rw [rd_nat, List.getD_eq_getElem?_getD, List.getElem?_eq_none (by rw [bytes_length]; omega)]
    unfold bt
    simp [h]
def AllB (b : List Int) : Prop := ∀ x ∈ b, 0 ≤ x ∧ x ≤ 255
theorem bytes_all (s : ByteArray) : AllB (bytesOf s) := by
  intro x hx
  obtain ⟨u, _, rfl⟩ := List.mem_map.1 hx
  have := u.toNat_lt
  omega
theorem AllB.get {b : List Int} (h : AllB b) (i : Nat) (hi : i < b.length) : 0 ≤ rd b (i : Int) ∧ rd b (i : Int) ≤ 255 := by
  rw [rd_get hi]
  exact h _ (List.getElem_mem hi)
theorem AllB.of_wf {b : List Int} (h : ∀ x ∈ b, (Lit.int .u8 x).wf = true) : AllB b := fun x hx => wf_u8 (h x hx)

/-! ### names -/
def nmc (c : Int) : Bool := (decide (97 ≤ c) && decide (c ≤ 122)) || (decide (48 ≤ c) && decide (c ≤ 57))
def lenOk (n : Nat) : Bool := decide (1 ≤ n) && decide (n ≤ 8)
def nameOk (s : ByteArray) : Bool := (bytesOf s).all nmc && lenOk s.size

/-! ### numbers: what GetNum gives -/
/-- f: how many groups may still come; m: what the groups until now make; i: how many these are; p: the place. -/
def gn : Nat → List Int → Int → Nat → Int → Int × Int × Bool
  | 0, _, _, _, _ => (0, 0, false)
  | _ + 1, [], _, _, _ => (0, 0, false)
  | f + 1, c :: t, m, i, p =>
    let m' := m + c % 128 * 2 ^ (7 * i)
    if 128 ≤ c then gn f t m' (i + 1) (p + 1)
    else
      let n := if m' % 2 = 1 then -(m' / 2) - 1 else m' / 2
      if (c = 0 ∧ 0 < i) ∨ ¬ (-1000000000 ≤ n ∧ n ≤ 1000000000) then (0, 0, false) else (n, p + 1, true)
def gnum (b : List Int) (p : Int) : Int × Int × Bool := if 0 ≤ p ∧ p < b.length then gn 5 (b.drop p.toNat) 0 0 p else (0, 0, false)
end Go.Proofs.Ytcbpfofkdipjhaa.Base
