/- What the printed functions on rows of strings, names and orders compute. No condition but sizes. -/
import Derived.Test.YtndkcifblnfaoaaPAx0
import Derived.Test.YtndkcifblnfaoaaPAx2
import Derived.Test.YtndkcifblnfaoaaPAx3
import Derived.Test.YtndkcifblnfaoaaPAx7
import Derived.Test.YtndkcifblnfaoaaPAx8
import Derived.Test.YtndkcifblnfaoaaPAx9
import Derived.Test.YtndkcifblnfaoaaLibNA
import Derived.Test.YtndkcifblnfaoaaStr
namespace Go.Proofs.Ytndkcifblnfaoaa.PA
open Go.RowKit Go.Proofs.YtndkcifblnfaoaaW.PrintWords Go.Proofs.YtndkcifblnfaoaaW.PrintLast Go.Proofs.YtndkcifblnfaoaaW.PrintMore Go.Proofs.Ytndkcifblnfaoaa.Base
set_option linter.unusedVariables false
theorem tl_inj {a b : ByteArray} : a.toList = b.toList ↔ a = b := by
  constructor
  · intro h
    rw [ByteArray.toList_eq, ByteArray.toList_eq] at h
    cases a; cases b
    simp at h
    rw [h]
  · intro h
    rw [h]
theorem rdS_get {xs : List ByteArray} {i : Nat} (h : i < xs.length) : rdOf ByteArray.empty xs (i : Int) = xs[i] := by
  unfold rdOf
  rw [Int.toNat_natCast, List.getD_eq_getElem?_getD, List.getElem?_eq_getElem h]
  rfl
theorem dropS {xs : List ByteArray} {i : Nat} (h : i < xs.length) : xs.drop i = rdOf ByteArray.empty xs (i : Int) :: xs.drop (i + 1) := by rw [rdS_get h]; exact drop_cons h
theorem toStringS_l (x0 : List ByteArray) (h : x0.length ≤ 281474976710656) : ∀ (d i : Nat) (x3 : List ByteArray), i + d = x0.length → x3.length = x0.length → Ev (fun k => laws_toStringS.l0 k x0 x3 (i : Int)) (x3.take i ++ x0.drop i) := by
  intro d
  induction d with
  | zero =>
    intro i x3 hi hl
    refine evOne fun k => ?_
    simp only [laws_toStringS.l0]
    rw [if_neg (by omega), List.take_of_length_le (by omega), List.drop_of_length_le (by omega), List.append_nil]
  | succ d ih =>
    intro i x3 hi hl
    have hlt : i < x0.length := by omega
    have h1 := ih (i + 1) (x3.set i x0[i]) (by omega) (by simp; exact hl)
    rw [set_step hlt hl] at h1
    refine Ev.step (f := fun k => laws_toStringS.l0 k x0 (x3.set i x0[i]) ((i + 1 : Nat) : Int)) (fun k => ?_) h1
    simp only [laws_toStringS.l0]
    rw [if_pos (by omega), if_pos (by omega), if_pos (by omega), rdS_get hlt, w64 (by omega) (by omega), Int.toNat_natCast]
    rfl
theorem toStringS_ev (l : List ByteArray) (h : l.length ≤ 17592186044416) : Ev (fun k => laws_toStringS.f k l) l := by
  have h1 := toStringS_l l (by omega) l.length 0 (List.replicate l.length (⟨#[]⟩ : ByteArray)) (by omega) (by simp)
  simp only [laws_toStringS.f]
  simp only [Int.toNat_natCast]
  refine evPos (by omega) (evPos h (evEq h1 (by simp)))
theorem eqStringS_l (x0 x1 : List ByteArray) (h : x0.length ≤ 281474976710656) (hl : x0.length = x1.length) : ∀ (d i : Nat), i + d = x0.length → Ev (fun k => laws_eqStringS.l0 k x0 x1 (i : Int)) (decide (x0.drop i = x1.drop i)) := by
  intro d
  induction d with
  | zero =>
    intro i hi
    refine evOne fun k => ?_
    simp only [laws_eqStringS.l0]
    rw [if_neg (by omega), List.drop_of_length_le (by omega), List.drop_of_length_le (by omega)]
    simp
  | succ d ih =>
    intro i hi
    have hlt : i < x0.length := by omega
    have hlt1 : i < x1.length := by omega
    rw [dropS hlt, dropS hlt1]
    by_cases he : rdOf ByteArray.empty x0 (i : Int) = rdOf ByteArray.empty x1 (i : Int)
    · refine Ev.step (f := fun k => laws_eqStringS.l0 k x0 x1 ((i + 1 : Nat) : Int)) (fun k => ?_) (evEq (ih (i + 1) (by omega)) (by simp [he]))
      simp only [laws_eqStringS.l0]
      rw [if_pos (by omega), if_pos (by omega), if_pos (by omega), if_pos (by rw [he]), w64 (by omega) (by omega)]
      rfl
    · refine evOne fun k => ?_
      simp only [laws_eqStringS.l0]
      rw [if_pos (by omega), if_pos (by omega), if_pos (by omega), if_neg (fun h => he (tl_inj.1 h))]
      simp [he]
theorem eqStringS_ev (a b : List ByteArray) (h : a.length ≤ 281474976710656) : Ev (fun k => laws_eqStringS.f k a b) (decide (a = b)) := by
  by_cases hl : a.length = b.length
  · refine Ev.congr (f := fun k => laws_eqStringS.l0 k a b 0) (fun k => ?_) (evEq (eqStringS_l a b h hl a.length 0 (by omega)) (by simp))
    simp only [laws_eqStringS.f]
    rw [if_pos (by omega)]
  · refine evVal fun k => ?_
    simp only [laws_eqStringS.f]
    rw [if_neg (by omega)]
    simp
    intro he
    exact hl (by rw [he])
def total (l : List ByteArray) : Int := (l.map fun s => (s.size : Int)).sum
theorem total_nonneg (l : List ByteArray) : 0 ≤ total l := by
  induction l with
  | nil => simp [total]
  | cons a l ih => simp only [total, List.map_cons, List.sum_cons] at ih ⊢; omega
theorem szStringS_l (x0 : List ByteArray) (h : x0.length ≤ 9223372036854775807) (hs : ∀ s ∈ x0, s.size ≤ 9223372036854775807) : ∀ (d i : Nat) (v : Int), i + d = x0.length → 0 ≤ v → v ≤ 1048576 →
    ∃ r, Ev (fun k => laws_szStringS.l0 k x0 v (i : Int)) r ∧ (r < 0 ∨ (0 ≤ r ∧ r + total (x0.drop i) = v)) := by
  intro d
  induction d with
  | zero =>
    intro i v hi h0 h1
    refine ⟨v, evOne fun k => ?_, .inr ⟨h0, ?_⟩⟩
    · simp only [laws_szStringS.l0]
      rw [if_neg (by omega)]
    · rw [List.drop_of_length_le (by omega)]
      simp [total]
  | succ d ih =>
    intro i v hi h0 h1
    have hlt : i < x0.length := by omega
    have hsz := hs _ (List.getElem_mem hlt)
    have hw : wrap64 (v - (x0[i].size : Int)) = v - (x0[i].size : Int) := w64 (by omega) (by omega)
    by_cases hneg : v - (x0[i].size : Int) < 0
    · refine ⟨-1, evOne fun k => ?_, .inl (by omega)⟩
      simp only [laws_szStringS.l0]
      rw [if_pos (by omega), if_pos (by omega), rdS_get hlt, hw, if_pos hneg]
    · obtain ⟨r, hr, hp⟩ := ih (i + 1) (v - (x0[i].size : Int)) (by omega) (by omega) (by omega)
      refine ⟨r, Ev.step (f := fun k => laws_szStringS.l0 k x0 (v - (x0[i].size : Int)) ((i + 1 : Nat) : Int)) (fun k => ?_) hr, ?_⟩
      · simp only [laws_szStringS.l0]
        rw [if_pos (by omega), if_pos (by omega), rdS_get hlt, hw, if_neg hneg, w64 (by omega) (by omega)]
        rfl
      · rcases hp with hp | ⟨hp0, hp1⟩
        · exact .inl hp
        · refine .inr ⟨hp0, ?_⟩
          rw [drop_cons hlt]
          simp only [total, List.map_cons, List.sum_cons] at hp1 ⊢
          omega
theorem szStringS_ev (x : List ByteArray) (h : x.length ≤ 9223372036854775807) (hs : ∀ s ∈ x, s.size ≤ 9223372036854775807) (a : Int) (ha0 : 0 ≤ a) (ha : a ≤ 1048576) :
    ∃ r, Ev (fun k => laws_szStringS.f k x a) r ∧ (r < 0 ∨ (0 ≤ r ∧ r + total x + (x.length : Int) = a)) := by
  have hw : wrap64 (a - (x.length : Int)) = a - (x.length : Int) := w64 (by omega) (by omega)
  by_cases hneg : a - (x.length : Int) < 0
  · refine ⟨-1, evVal fun k => ?_, .inl (by omega)⟩
    simp only [laws_szStringS.f]
    rw [hw, if_pos hneg]
  · obtain ⟨r, hr, hp⟩ := szStringS_l x h hs x.length 0 (a - (x.length : Int)) (by omega) (by omega) (by omega)
    refine ⟨r, Ev.congr (fun k => ?_) hr, ?_⟩
    · simp only [laws_szStringS.f]
      rw [hw, if_neg hneg]
      rfl
    · rcases hp with hp | ⟨hp0, hp1⟩
      · exact .inl hp
      · refine .inr ⟨hp0, ?_⟩
        rw [List.drop_zero] at hp1
        omega
theorem total_mem {l : List ByteArray} {s : ByteArray} (h : s ∈ l) : (s.size : Int) ≤ total l := by
  induction l with
  | nil => simp at h
  | cons a l ih =>
    have := total_nonneg l
    simp only [total, List.map_cons, List.sum_cons] at this ih ⊢
    rcases List.mem_cons.1 h with rfl | h
    · omega
    · have := ih h
      omega
/-! ### names that rise -/
def okAt (l : List ByteArray) (i : Nat) : Bool := nameOk (rdOf ByteArray.empty l (i : Int)) && (decide (i = 0) || Op.bytesLess (rdOf ByteArray.empty l ((i - 1 : Nat) : Int)).toList (rdOf ByteArray.empty l (i : Int)).toList)
/-- from place i on, d places. -/
def okFrom (l : List ByteArray) : Nat → Nat → Bool
  | 0, _ => true
  | d + 1, i => okAt l i && okFrom l d (i + 1)
def namesOk (l : List ByteArray) : Bool := okFrom l l.length 0 && decide (l.length ≤ 20)
theorem okFrom_at {l : List ByteArray} : ∀ {d i : Nat}, okFrom l d i = true → ∀ j, i ≤ j → j < i + d → okAt l j = true := by
  intro d
  induction d with
  | zero => intro i _ j h0 h1; omega
  | succ d ih =>
    intro i h j h0 h1
    simp only [okFrom, Bool.and_eq_true] at h
    by_cases e : j = i
    · rw [e]; exact h.1
    · exact ih h.2 j (by omega) (by omega)
theorem sNamesOk_l (l : List ByteArray) (h : l.length ≤ 281474976710656) (hs : ∀ s ∈ l, s.size ≤ 9223372036854775807) : ∀ (d i : Nat), i + d = l.length →
    Ev (fun k => spec_NamesOk.l0 k l (i : Int)) (okFrom l d i && decide (l.length ≤ 20)) := by
  intro d
  induction d with
  | zero =>
    intro i hi
    refine evOne fun k => ?_
    simp only [spec_NamesOk.l0, okFrom]
    rw [if_neg (by omega)]
    simp
    constructor <;> intro h <;> omega
  | succ d ih =>
    intro i hi
    have hlt : i < l.length := by omega
    have hsz : (rdOf ByteArray.empty l (i : Int)).size ≤ 9223372036854775807 := by rw [rdS_get hlt]; exact hs _ (List.getElem_mem hlt)
    have h1 := sNameOk_ev _ hsz
    refine Ev.step (f := fun k => (spec_NameOk.f k (rdOf ByteArray.empty l (i : Int))).bind fun t106 => (if t106 = true then (if (i : Int) > 0 then (if ((Op.bytesLess ((rdOf ByteArray.empty l ((i - 1 : Nat) : Int)).toList) ((rdOf ByteArray.empty l (i : Int)).toList)) = true) then (spec_NamesOk.l0 k l ((i + 1 : Nat) : Int)) else (some false)) else (spec_NamesOk.l0 k l ((i + 1 : Nat) : Int))) else (some false))) (fun k => ?_) (Ev.bind h1 ?_)
    · simp only [spec_NamesOk.l0]
      rw [if_pos (by omega), if_pos (by omega), w64 (x := (i : Int) + 1) (by omega) (by omega)]
      by_cases hi0 : (i : Int) > 0
      · rw [w64 (x := (i : Int) - 1) (by omega) (by omega), if_pos (show 0 ≤ (i : Int) - 1 by omega), if_pos (show (i : Int) - 1 < (l.length : Int) by omega), show (i : Int) - 1 = ((i - 1 : Nat) : Int) by omega]
        rfl
      · simp only [if_neg hi0]
        rfl
    · simp only [okFrom, okAt]
      by_cases hn : nameOk (rdOf ByteArray.empty l (i : Int)) = true
      · refine evPos hn ?_
        by_cases hi0 : (i : Int) > 0
        · refine evPos hi0 ?_
          have hi' : ¬ i = 0 := by omega
          by_cases hb : Op.bytesLess (rdOf ByteArray.empty l ((i - 1 : Nat) : Int)).toList (rdOf ByteArray.empty l (i : Int)).toList = true
          · exact evPos hb (evEq (ih (i + 1) (by omega)) (by simp [hn, hb]))
          · exact evNeg hb (evEq (Ev.now _) (by simp [hb, hi']))
        · have hi' : i = 0 := by omega
          exact evNeg hi0 (evEq (ih (i + 1) (by omega)) (by simp only [hn, decide_eq_true hi', Bool.true_or, Bool.true_and]))
      · exact evNeg hn (evEq (Ev.now _) (by simp [hn]))
theorem sNamesOk_ev (l : List ByteArray) (h : l.length ≤ 281474976710656) (hs : ∀ s ∈ l, s.size ≤ 9223372036854775807) : Ev (fun k => spec_NamesOk.f k l) (namesOk l) := sNamesOk_l l h hs l.length 0 (by omega)
theorem iNamesOk_l (l : List ByteArray) (h : l.length ≤ 281474976710656) (hs : ∀ s ∈ l, s.size ≤ 9223372036854775807) : ∀ (d i : Nat), i + d = l.length →
    Ev (fun k => impl_NamesOk.l0 k l l (l.length : Int) (i : Int)) (okFrom l d i && decide (l.length ≤ 20)) := by
  intro d
  induction d with
  | zero =>
    intro i hi
    refine evOne fun k => ?_
    simp only [impl_NamesOk.l0, okFrom]
    rw [if_neg (by omega)]
    simp
    constructor <;> intro h <;> omega
  | succ d ih =>
    intro i hi
    have hlt : i < l.length := by omega
    have hsz : (rdOf ByteArray.empty l (i : Int)).size ≤ 9223372036854775807 := by rw [rdS_get hlt]; exact hs _ (List.getElem_mem hlt)
    have h1 := iNameOk_ev _ hsz
    refine Ev.step (f := fun k => (impl_NameOk.f k (rdOf ByteArray.empty l (i : Int))).bind fun t106 => (if t106 = true then (if (i : Int) > 0 then (if ((Op.bytesLess ((rdOf ByteArray.empty l ((i - 1 : Nat) : Int)).toList) ((rdOf ByteArray.empty l (i : Int)).toList)) = true) then (impl_NamesOk.l0 k l l (l.length : Int) ((i + 1 : Nat) : Int)) else (some false)) else (impl_NamesOk.l0 k l l (l.length : Int) ((i + 1 : Nat) : Int))) else (some false))) (fun k => ?_) (Ev.bind h1 ?_)
    · simp only [impl_NamesOk.l0]
      rw [if_pos (by omega), if_pos (by omega), if_pos (by omega), w64 (x := (i : Int) + 1) (by omega) (by omega)]
      by_cases hi0 : (i : Int) > 0
      · rw [w64 (x := (i : Int) - 1) (by omega) (by omega), if_pos (show 0 ≤ (i : Int) - 1 by omega), if_pos (show (i : Int) - 1 < (l.length : Int) by omega), show (i : Int) - 1 = ((i - 1 : Nat) : Int) by omega]
        rfl
      · simp only [if_neg hi0]
        rfl
    · simp only [okFrom, okAt]
      by_cases hn : nameOk (rdOf ByteArray.empty l (i : Int)) = true
      · refine evPos hn ?_
        by_cases hi0 : (i : Int) > 0
        · refine evPos hi0 ?_
          have hi' : ¬ i = 0 := by omega
          by_cases hb : Op.bytesLess (rdOf ByteArray.empty l ((i - 1 : Nat) : Int)).toList (rdOf ByteArray.empty l (i : Int)).toList = true
          · exact evPos hb (evEq (ih (i + 1) (by omega)) (by simp [hn, hb]))
          · exact evNeg hb (evEq (Ev.now _) (by simp [hb, hi']))
        · have hi' : i = 0 := by omega
          exact evNeg hi0 (evEq (ih (i + 1) (by omega)) (by simp only [hn, decide_eq_true hi', Bool.true_or, Bool.true_and]))
      · exact evNeg hn (evEq (Ev.now _) (by simp [hn]))
theorem iNamesOk_ev (l : List ByteArray) (h : l.length ≤ 281474976710656) (hs : ∀ s ∈ l, s.size ≤ 9223372036854775807) : Ev (fun k => impl_NamesOk.f k l) (namesOk l) := iNamesOk_l l h hs l.length 0 (by omega)
/-! ### orders -/
def txOk (kind : Int) (fr tt : ByteArray) (am no : Int) : Bool :=
  nameOk fr && (decide (1 ≤ am) && decide (am ≤ 1000000)) && (decide (0 ≤ no) && decide (no ≤ 10000)) && (if kind = 1 then nameOk tt else (decide (2 ≤ kind) && decide (kind ≤ 3)) && (tt.toList == ([] : List UInt8)))
theorem sTxOk_j (b : Bool) (kind : Int) (fr tt : ByteArray) (am no : Int) (ht : tt.size ≤ 9223372036854775807) :
    Ev (fun k => spec_TxOk.j0 k b kind fr tt am no) (!b && (if kind = 1 then nameOk tt else (decide (2 ≤ kind) && decide (kind ≤ 3)) && (tt.toList == ([] : List UInt8)))) := by
  refine Ev.step (f := fun k => if b = true then (some false) else (if kind = 1 then ((spec_NameOk.f k tt).bind fun t109 => (some t109)) else ((spec_l1In.f kind 2 3).bind fun t110 => (if t110 = true then (some (tt.toList == ([] : List UInt8))) else (some false))))) (fun k => by simp only [spec_TxOk.j0]) ?_
  cases b with
  | true => exact evPos rfl (Ev.now _)
  | false =>
    refine evNeg (by simp) ?_
    by_cases hk : kind = 1
    · simp only [hk, if_true]
      exact Ev.bind (sNameOk_ev tt ht) (Ev.now _)
    · simp only [hk, if_false]
      refine evVal fun k => ?_
      rw [l1In_eq]
      cases hd : (decide (2 ≤ kind) && decide (kind ≤ 3)) <;> simp
theorem sTxOk_ev (kind : Int) (fr tt : ByteArray) (am no : Int) (hf : fr.size ≤ 9223372036854775807) (ht : tt.size ≤ 9223372036854775807) :
    Ev (fun k => spec_TxOk.f k kind fr tt am no) (txOk kind fr tt am no) := by
  simp only [spec_TxOk.f, txOk]
  refine Ev.bind (sNameOk_ev fr hf) ?_
  cases hn : nameOk fr with
  | false => exact evNeg (by simp) (evEq (sTxOk_j true kind fr tt am no ht) (by simp))
  | true =>
    refine evPos rfl (evBindC (l1In_eq _ _ _) ?_)
    cases ha : (decide (1 ≤ am) && decide (am ≤ 1000000)) with
    | false => exact evNeg (by simp) (evEq (sTxOk_j true kind fr tt am no ht) (by simp))
    | true =>
      refine evPos rfl (evBindC (l1In_eq _ _ _) ?_)
      exact evEq (sTxOk_j _ kind fr tt am no ht) (by simp)
theorem iTxOk_j (b : Bool) (kind : Int) (fr tt : ByteArray) (am no : Int) (ht : tt.size ≤ 9223372036854775807) :
    Ev (fun k => impl_TxOk.j0 k b kind fr tt am no) (!b && (if kind = 1 then nameOk tt else (tt.toList == ([] : List UInt8)))) := by
  refine Ev.step (f := fun k => if b = true then (some false) else (if kind = 1 then ((impl_NameOk.f k tt).bind fun t109 => (some t109)) else (some (tt.toList == ([] : List UInt8))))) (fun k => by simp only [impl_TxOk.j0]) ?_
  cases b with
  | true => exact evPos rfl (Ev.now _)
  | false =>
    refine evNeg (by simp) ?_
    by_cases hk : kind = 1
    · simp only [hk, if_true]
      exact Ev.bind (iNameOk_ev tt ht) (Ev.now _)
    · simp only [hk, if_false]
      exact Ev.now _
theorem iTxOk_ev (kind : Int) (fr tt : ByteArray) (am no : Int) (hf : fr.size ≤ 9223372036854775807) (ht : tt.size ≤ 9223372036854775807) :
    Ev (fun k => impl_TxOk.f k kind fr tt am no) (txOk kind fr tt am no) := by
  simp only [impl_TxOk.f, txOk]
  refine evBindC (inRange_eq _ _ _) ?_
  cases hk : (decide (1 ≤ kind) && decide (kind ≤ 3)) with
  | false =>
    refine evNeg (by simp) (evEq (iTxOk_j true kind fr tt am no ht) ?_)
    have h1 : ¬ kind = 1 := by rintro rfl; simp at hk
    have h2 : (decide (2 ≤ kind) && decide (kind ≤ 3)) = false := by
      rw [Bool.and_eq_false_iff] at hk ⊢
      simp at hk ⊢
      omega
    simp only [h1, if_false, h2]
    simp
  | true =>
    refine evPos rfl (Ev.bind (iNameOk_ev fr hf) ?_)
    have h2 : (if kind = 1 then nameOk tt else (decide (2 ≤ kind) && decide (kind ≤ 3)) && (tt.toList == ([] : List UInt8))) = (if kind = 1 then nameOk tt else (tt.toList == ([] : List UInt8))) := by
      by_cases h1 : kind = 1
      · simp [h1]
      · simp only [h1, if_false]
        have : (decide (2 ≤ kind) && decide (kind ≤ 3)) = true := by
          simp at hk ⊢
          omega
        rw [this, Bool.true_and]
    rw [h2]
    cases hn : nameOk fr with
    | false => exact evNeg (by simp) (evEq (iTxOk_j true kind fr tt am no ht) (by simp))
    | true =>
      refine evPos rfl (evBindC (inRange_eq _ _ _) ?_)
      cases ha : (decide (1 ≤ am) && decide (am ≤ 1000000)) with
      | false => exact evNeg (by simp) (evEq (iTxOk_j true kind fr tt am no ht) (by simp))
      | true =>
        refine evPos rfl (evBindC (inRange_eq _ _ _) ?_)
        exact evEq (iTxOk_j _ kind fr tt am no ht) (by simp)
theorem szTx_eq (a0 : Int) (a1 a2 : ByteArray) (a3 a4 v : Int) (h1 : a1.size ≤ 9223372036854775807) (h2 : a2.size ≤ 9223372036854775807) (hv0 : 0 ≤ v) (hv : v ≤ 1048576) :
    ∃ r, laws_szTx.f a0 a1 a2 a3 a4 v = some r ∧ (r < 0 ∨ (0 ≤ r ∧ r + (a1.size : Int) + (a2.size : Int) = v)) := by
  simp only [laws_szTx.f]
  have hw : wrap64 (v - (a1.size : Int)) = v - (a1.size : Int) := w64 (by omega) (by omega)
  rw [hw]
  by_cases hn : v - (a1.size : Int) < 0
  · exact ⟨-1, by rw [if_pos hn], .inl (by omega)⟩
  · rw [if_neg hn, w64 (x := v - (a1.size : Int) - (a2.size : Int)) (by omega) (by omega)]
    by_cases hn2 : v - (a1.size : Int) - (a2.size : Int) < 0
    · exact ⟨-1, by rw [if_pos hn2], .inl (by omega)⟩
    · exact ⟨_, by rw [if_neg hn2], .inr ⟨by omega, by omega⟩⟩
/-! ### which order is less -/
def cmpI (a b : Int) : Int := if a < b then -1 else if b < a then 1 else 0
def cmpS (a b : ByteArray) : Int := if Op.bytesLess a.toList b.toList = true then -1 else if Op.bytesLess b.toList a.toList = true then 1 else 0
def txLess (k1 : Int) (f1 t1 : ByteArray) (a1 n1 k2 : Int) (f2 t2 : ByteArray) (a2 n2 : Int) : Bool :=
  if f1 = f2 then (if n1 = n2 then (if k1 = k2 then (if t1 = t2 then decide (a1 < a2) else Op.bytesLess t1.toList t2.toList) else decide (k1 < k2)) else decide (n1 < n2)) else Op.bytesLess f1.toList f2.toList
theorem bl_irr (a : ByteArray) : Op.bytesLess a.toList a.toList = false := by
  have h := Str.bl_tot a.toList a.toList
  simp at h
  exact h
theorem bl_ne {a b : ByteArray} (h : ¬ a = b) : Op.bytesLess b.toList a.toList = !Op.bytesLess a.toList b.toList := by
  have h1 := Str.bl_tot a.toList b.toList
  have h2 : (a.toList == b.toList) = false := by
    rw [beq_eq_false_iff_ne]
    exact fun e => h (tl_inj.1 e)
  rw [h2, Bool.or_false] at h1
  rw [h1, Bool.not_not]
theorem sTxLess_eq (k1 : Int) (f1 t1 : ByteArray) (a1 n1 k2 : Int) (f2 t2 : ByteArray) (a2 n2 : Int) : spec_TxLess.f k1 f1 t1 a1 n1 k2 f2 t2 a2 n2 = some (txLess k1 f1 t1 a1 n1 k2 f2 t2 a2 n2) := by
  simp only [spec_TxLess.f, txLess, tl_inj]
  by_cases h1 : f1 = f2 <;> by_cases h2 : n1 = n2 <;> by_cases h3 : k1 = k2 <;> by_cases h4 : t1 = t2 <;> simp [h1, h2, h3, h4]
theorem cmpI_eq (a b : Int) : cmp_Compare_int.f a b = some (cmpI a b) := by
  simp only [cmp_Compare_int.f, cmp_isNaN_int.f, cmpI, Option.bind_some, bne_self_eq_false]
  by_cases h1 : a < b
  · simp [h1]
  · by_cases h2 : b < a <;> simp [h1, h2]
theorem cmpS_eq (a b : ByteArray) : cmp_Compare_string.f a b = some (cmpS a b) := by
  simp only [cmp_Compare_string.f, cmp_isNaN_string.f, cmpS, Option.bind_some, bne_self_eq_false]
  by_cases h1 : Op.bytesLess a.toList b.toList = true
  · simp [h1]
  · by_cases h2 : Op.bytesLess b.toList a.toList = true <;> simp [h1, h2]
def firstNZ : List Int → Int
  | [] => 0
  | a :: l => if a = 0 then firstNZ l else a
theorem cmpOr_l (l : List Int) (h : l.length ≤ 281474976710656) : ∀ (d i : Nat), i + d = l.length → Ev (fun k => cmp_Or_int.l0 k 0 l (l.length : Int) (i : Int)) (firstNZ (l.drop i)) := by
  intro d
  induction d with
  | zero =>
    intro i hi
    refine evOne fun k => ?_
    simp only [cmp_Or_int.l0]
    rw [if_neg (by omega), List.drop_of_length_le (by omega)]
    rfl
  | succ d ih =>
    intro i hi
    have hlt : i < l.length := by omega
    rw [drop_rd hlt]
    by_cases hz : rd l (i : Int) = 0
    · refine Ev.step (f := fun k => cmp_Or_int.l0 k 0 l (l.length : Int) ((i + 1 : Nat) : Int)) (fun k => ?_) (evEq (ih (i + 1) (by omega)) (by simp [firstNZ, hz]))
      simp only [cmp_Or_int.l0]
      rw [if_pos (by omega), if_pos (by omega), if_pos (by omega), if_pos hz, w64 (by omega) (by omega)]
      rfl
    · refine evOne fun k => ?_
      simp only [cmp_Or_int.l0]
      rw [if_pos (by omega), if_pos (by omega), if_pos (by omega), if_neg hz]
      simp [firstNZ, hz]
theorem cmpOr_ev (l : List Int) (h : l.length ≤ 281474976710656) : Ev (fun k => cmp_Or_int.f k l) (firstNZ l) := evEq (cmpOr_l l h l.length 0 (by omega)) (by simp)
theorem iTxLess_ev (k1 : Int) (f1 t1 : ByteArray) (a1 n1 k2 : Int) (f2 t2 : ByteArray) (a2 n2 : Int) : Ev (fun k => impl_TxLess.f k k1 f1 t1 a1 n1 k2 f2 t2 a2 n2) (txLess k1 f1 t1 a1 n1 k2 f2 t2 a2 n2) := by
  have hc : Ev (fun k => impl_compareTx.f k k1 f1 t1 a1 n1 k2 f2 t2 a2 n2) (firstNZ [cmpS f1 f2, cmpI n1 n2, cmpI k1 k2, cmpS t1 t2, cmpI a1 a2]) := by
    simp only [impl_compareTx.f, cmpS_eq, cmpI_eq, Option.bind_some]
    exact Ev.bind (cmpOr_ev _ (by simp)) (Ev.now _)
  simp only [impl_TxLess.f]
  refine evEq (Ev.bind hc (Ev.now _)) ?_
  have hS : ∀ a b : ByteArray, cmpS a b = 0 ↔ a = b := by
    intro a b
    unfold cmpS
    by_cases e : a = b
    · subst e; simp [bl_irr]
    · have := bl_ne e
      rw [this]
      cases Op.bytesLess a.toList b.toList <;> simp [e]
  have hS' : ∀ a b : ByteArray, decide (cmpS a b < 0) = Op.bytesLess a.toList b.toList := by
    intro a b
    unfold cmpS
    cases h1 : Op.bytesLess a.toList b.toList <;> cases h2 : Op.bytesLess b.toList a.toList <;> simp
  have hI : ∀ a b : Int, cmpI a b = 0 ↔ a = b := by
    intro a b
    unfold cmpI
    split
    · simp; omega
    · split
      · simp; omega
      · simp; omega
  have hI' : ∀ a b : Int, decide (cmpI a b < 0) = decide (a < b) := by
    intro a b
    unfold cmpI
    by_cases h1 : a < b <;> by_cases h2 : b < a <;> simp [h1, h2]
  simp only [firstNZ, hS, hI, txLess]
  by_cases h1 : f1 = f2
  · by_cases h2 : n1 = n2
    · by_cases h3 : k1 = k2
      · by_cases h4 : t1 = t2
        · by_cases h5 : a1 = a2
          · simp [h1, h2, h3, h4, h5]
          · simp only [h1, h2, h3, h4, h5, if_true, if_false]
            exact hI' _ _
        · simp only [h1, h2, h3, h4, if_true, if_false]
          exact hS' _ _
      · simp only [h1, h2, h3, if_true, if_false]
        exact hI' _ _
    · simp only [h1, h2, if_true, if_false]
      exact hI' _ _
  · simp only [h1, if_false]
    exact hS' _ _
end Go.Proofs.Ytndkcifblnfaoaa.PA
