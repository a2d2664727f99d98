/- What the printed functions on rows of strings, names and orders compute. No condition but sizes. -/
import Derived.Test.YtgbbgdlenadhlaaPGx0
import Derived.Test.YtgbbgdlenadhlaaPGx1
import Derived.Test.YtgbbgdlenadhlaaPGx2
import Derived.Test.YtgbbgdlenadhlaaLibNFnExactCheckPath
import Derived.Test.YtgbbgdlenadhlaaLibCFnExactCheckPath
namespace Go.Proofs.Ytgbbgdlenadhlaa.PG
open Go.RowKit Go.Proofs.YtgbbgdlenadhlaaW.PrintWords Go.Proofs.YtgbbgdlenadhlaaW.PrintLast Go.Proofs.YtgbbgdlenadhlaaW.PrintMore Go.Proofs.Ytgbbgdlenadhlaa.Base
set_option linter.unusedVariables false
theorem rdS_get {xs : List ByteArray} {i : Nat} (h : i < xs.length) : rdOf ByteArray.empty xs (i : Int) = xs[i] := by
  unfold rdOf
  rw [Int.toNat_natCast, List.getD_eq_getElem?_getD, List.getElem?_eq_getElem h]
  rfl
theorem dropS {xs : List ByteArray} {i : Nat} (h : i < xs.length) : xs.drop i = rdOf ByteArray.empty xs (i : Int) :: xs.drop (i + 1) := by rw [rdS_get h]; exact drop_cons h
theorem toStringS_l (x0 : List ByteArray) (h : x0.length ≤ 281474976710656) : ∀ (d i : Nat) (x3 : List ByteArray), i + d = x0.length → x3.length = x0.length → Ev (fun k => laws_toStringS.l0 k x0 x3 (i : Int)) (x3.take i ++ x0.drop i) := by
  intro d
  induction d with
  | zero =>
    intro i x3 hi hl
    refine evOne fun k => ?_
    simp only [laws_toStringS.l0]
    rw [if_neg (by omega), List.take_of_length_le (by omega), List.drop_of_length_le (by omega), List.append_nil]
  | succ d ih =>
    intro i x3 hi hl
    have hlt : i < x0.length := by omega
    have h1 := ih (i + 1) (x3.set i x0[i]) (by omega) (by simp; exact hl)
    rw [set_step hlt hl] at h1
    refine Ev.step (f := fun k => laws_toStringS.l0 k x0 (x3.set i x0[i]) ((i + 1 : Nat) : Int)) (fun k => ?_) h1
    simp only [laws_toStringS.l0]
    rw [if_pos (by omega), if_pos (by omega), if_pos (by omega), rdS_get hlt, w64 (by omega) (by omega), Int.toNat_natCast]
    rfl
theorem toStringS_ev (l : List ByteArray) (h : l.length ≤ 17592186044416) : Ev (fun k => laws_toStringS.f k l) l := by
  have h1 := toStringS_l l (by omega) l.length 0 (List.replicate l.length (⟨#[]⟩ : ByteArray)) (by omega) (by simp)
  simp only [laws_toStringS.f]
  simp only [Int.toNat_natCast]
  refine evPos (by omega) (evPos h (evEq h1 (by simp)))
theorem eqStringS_l (x0 x1 : List ByteArray) (h : x0.length ≤ 281474976710656) (hl : x0.length = x1.length) : ∀ (d i : Nat), i + d = x0.length → Ev (fun k => laws_eqStringS.l0 k x0 x1 (i : Int)) (decide (x0.drop i = x1.drop i)) := by
  intro d
  induction d with
  | zero =>
    intro i hi
    refine evOne fun k => ?_
    simp only [laws_eqStringS.l0]
    rw [if_neg (by omega), List.drop_of_length_le (by omega), List.drop_of_length_le (by omega)]
    simp
  | succ d ih =>
    intro i hi
    have hlt : i < x0.length := by omega
    have hlt1 : i < x1.length := by omega
    rw [dropS hlt, dropS hlt1]
    by_cases he : rdOf ByteArray.empty x0 (i : Int) = rdOf ByteArray.empty x1 (i : Int)
    · refine Ev.step (f := fun k => laws_eqStringS.l0 k x0 x1 ((i + 1 : Nat) : Int)) (fun k => ?_) (evEq (ih (i + 1) (by omega)) (by simp [he]))
      simp only [laws_eqStringS.l0]
      rw [if_pos (by omega), if_pos (by omega), if_pos (by omega), if_pos (by rw [he]), w64 (by omega) (by omega)]
      rfl
    · refine evOne fun k => ?_
      simp only [laws_eqStringS.l0]
      rw [if_pos (by omega), if_pos (by omega), if_pos (by omega), if_neg (fun h => he (tl_inj.1 h))]
      simp [he]
theorem eqStringS_ev (a b : List ByteArray) (h : a.length ≤ 281474976710656) : Ev (fun k => laws_eqStringS.f k a b) (decide (a = b)) := by
  by_cases hl : a.length = b.length
  · refine Ev.congr (f := fun k => laws_eqStringS.l0 k a b 0) (fun k => ?_) (evEq (eqStringS_l a b h hl a.length 0 (by omega)) (by simp))
    simp only [laws_eqStringS.f]
    rw [if_pos (by omega)]
  · refine evVal fun k => ?_
    simp only [laws_eqStringS.f]
    rw [if_neg (by omega)]
    simp
    intro he
    exact hl (by rw [he])
def total (l : List ByteArray) : Int := (l.map fun s => (s.size : Int)).sum
theorem total_nonneg (l : List ByteArray) : 0 ≤ total l := by
  induction l with
  | nil => simp [total]
  | cons a l ih => simp only [total, List.map_cons, List.sum_cons] at ih ⊢; omega
theorem szStringS_l (x0 : List ByteArray) (h : x0.length ≤ 9223372036854775807) (hs : ∀ s ∈ x0, s.size ≤ 9223372036854775807) : ∀ (d i : Nat) (v : Int), i + d = x0.length → 0 ≤ v → v ≤ 1048576 →
    ∃ r, Ev (fun k => laws_szStringS.l0 k x0 v (i : Int)) r ∧ (r < 0 ∨ (0 ≤ r ∧ r + total (x0.drop i) = v)) := by
  intro d
  induction d with
  | zero =>
    intro i v hi h0 h1
    refine ⟨v, evOne fun k => ?_, .inr ⟨h0, ?_⟩⟩
    · simp only [laws_szStringS.l0]
      rw [if_neg (by omega)]
    · rw [List.drop_of_length_le (by omega)]
      simp [total]
  | succ d ih =>
    intro i v hi h0 h1
    have hlt : i < x0.length := by omega
    have hsz := hs _ (List.getElem_mem hlt)
    have hw : wrap64 (v - (x0[i].size : Int)) = v - (x0[i].size : Int) := w64 (by omega) (by omega)
    by_cases hneg : v - (x0[i].size : Int) < 0
    · refine ⟨-1, evOne fun k => ?_, .inl (by omega)⟩
      simp only [laws_szStringS.l0]
      rw [if_pos (by omega), if_pos (by omega), rdS_get hlt, hw, if_pos hneg]
    · obtain ⟨r, hr, hp⟩ := ih (i + 1) (v - (x0[i].size : Int)) (by omega) (by omega) (by omega)
      refine ⟨r, Ev.step (f := fun k => laws_szStringS.l0 k x0 (v - (x0[i].size : Int)) ((i + 1 : Nat) : Int)) (fun k => ?_) hr, ?_⟩
      · simp only [laws_szStringS.l0]
        rw [if_pos (by omega), if_pos (by omega), rdS_get hlt, hw, if_neg hneg, w64 (by omega) (by omega)]
        rfl
      · rcases hp with hp | ⟨hp0, hp1⟩
        · exact .inl hp
        · refine .inr ⟨hp0, ?_⟩
          rw [drop_cons hlt]
          simp only [total, List.map_cons, List.sum_cons] at hp1 ⊢
          omega
theorem szStringS_ev (x : List ByteArray) (h : x.length ≤ 9223372036854775807) (hs : ∀ s ∈ x, s.size ≤ 9223372036854775807) (a : Int) (ha0 : 0 ≤ a) (ha : a ≤ 1048576) :
    ∃ r, Ev (fun k => laws_szStringS.f k x a) r ∧ (r < 0 ∨ (0 ≤ r ∧ r + total x + (x.length : Int) = a)) := by
  have hw : wrap64 (a - (x.length : Int)) = a - (x.length : Int) := w64 (by omega) (by omega)
  by_cases hneg : a - (x.length : Int) < 0
  · refine ⟨-1, evVal fun k => ?_, .inl (by omega)⟩
    simp only [laws_szStringS.f]
    rw [hw, if_pos hneg]
  · obtain ⟨r, hr, hp⟩ := szStringS_l x h hs x.length 0 (a - (x.length : Int)) (by omega) (by omega) (by omega)
    refine ⟨r, Ev.congr (fun k => ?_) hr, ?_⟩
    · simp only [laws_szStringS.f]
      rw [hw, if_neg hneg]
      rfl
    · rcases hp with hp | ⟨hp0, hp1⟩
      · exact .inl hp
      · refine .inr ⟨hp0, ?_⟩
        rw [List.drop_zero] at hp1
        omega
theorem total_mem {l : List ByteArray} {s : ByteArray} (h : s ∈ l) : (s.size : Int) ≤ total l := by
  induction l with
  | nil => simp at h
  | cons a l ih =>
    have := total_nonneg l
    simp only [total, List.map_cons, List.sum_cons] at this ih ⊢
    rcases List.mem_cons.1 h with rfl | h
    · omega
    · have := ih h
      omega
/-! ### names that rise -/
def okAt (l : List ByteArray) (i : Nat) : Bool := nameOk (rdOf ByteArray.empty l (i : Int)) && (decide (i = 0) || Op.bytesLess (rdOf ByteArray.empty l ((i - 1 : Nat) : Int)).toList (rdOf ByteArray.empty l (i : Int)).toList)
/-- from place i on, d places. -/
def okFrom (l : List ByteArray) : Nat → Nat → Bool
  | 0, _ => true
  | d + 1, i => okAt l i && okFrom l d (i + 1)
def namesOk (l : List ByteArray) : Bool := okFrom l l.length 0 && decide (l.length ≤ 20)
theorem okFrom_at {l : List ByteArray} : ∀ {d i : Nat}, okFrom l d i = true → ∀ j, i ≤ j → j < i + d → okAt l j = true := by
  intro d
  induction d with
  | zero => intro i _ j h0 h1; omega
  | succ d ih =>
    intro i h j h0 h1
    simp only [okFrom, Bool.and_eq_true] at h
    by_cases e : j = i
    · rw [e]; exact h.1
    · exact ih h.2 j (by omega) (by omega)
/-! ### orders -/
def txOk (kind : Int) (fr tt : ByteArray) (am no : Int) : Bool :=
  nameOk fr && (decide (1 ≤ am) && decide (am ≤ 1000000)) && (decide (0 ≤ no) && decide (no ≤ 10000)) && (if kind = 1 then nameOk tt else (decide (2 ≤ kind) && decide (kind ≤ 3)) && (tt.toList == ([] : List UInt8)))
end Go.Proofs.Ytgbbgdlenadhlaa.PG
