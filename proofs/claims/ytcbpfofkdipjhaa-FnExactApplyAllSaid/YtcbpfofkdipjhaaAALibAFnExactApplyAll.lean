/- What the printed functions on accounts compute. No condition but sizes. -/
import Derived.Test.YtcbpfofkdipjhaaAAPJx0
import Derived.Test.YtcbpfofkdipjhaaAAPJx1
import Derived.Test.YtcbpfofkdipjhaaAAPJx2
import Derived.Test.YtcbpfofkdipjhaaAAPJx3
import Derived.Test.YtcbpfofkdipjhaaAAPJx6
import Derived.Test.YtcbpfofkdipjhaaAAPJx7
import Derived.Test.YtcbpfofkdipjhaaAAPJx8
import Derived.Test.YtcbpfofkdipjhaaAAPJx13
import Derived.Test.YtcbpfofkdipjhaaAAPJx14
import Derived.Test.YtcbpfofkdipjhaaAALibSFnExactApplyAll
namespace Go.Proofs.Ytcbpfofkdipjhaa.PJ
open Go.RowKit Go.Proofs.YtcbpfofkdipjhaaW.PrintWords Go.Proofs.YtcbpfofkdipjhaaW.PrintLast Go.Proofs.YtcbpfofkdipjhaaW.PrintMore Go.Proofs.Ytcbpfofkdipjhaa.Base
set_option linter.unusedVariables false
def cvL (s : S163) : S65 := ⟨s.f0, s.f1⟩
theorem rdLL_get {xs : List S163} {i : Nat} (h : i < xs.length) : rd_T163 xs (i : Int) = xs[i] := by
  unfold rd_T163;rw [Int.toNat_natCast, List.getD_eq_getElem?_getD, List.getElem?_eq_getElem h];rfl
theorem set_mapL (f : S163 → S65) {x3 : List S65} {x0 : List S163} {i : Nat} (h : i < x0.length) (hl : x3.length = x0.length) : (x3.set i (f x0[i])).take (i + 1) ++ (x0.drop (i + 1)).map f = x3.take i ++ (x0.drop i).map f := by
  rw [take_snoc (by simp; omega), List.getElem_set_self, List.append_assoc, List.take_set_of_le (Nat.le_refl _), drop_cons h];rfl
theorem toLeaveS_l (x0 : List S163) (h : x0.length ≤ 17592186044416) : ∀ (d i : Nat) (x3 : List S65), i + d = x0.length → x3.length = x0.length → Ev (fun k => laws_toLeaveS.l0 k x0 x3 (i : Int)) (x3.take i ++ (x0.drop i).map cvL) := by
  intro d
  induction d with
  | zero =>
    intro i x3 hi hl
    refine evOne fun k => ?_
    simp only [laws_toLeaveS.l0];rw [if_neg (by omega), List.take_of_length_le (by omega), List.drop_of_length_le (by omega), List.map_nil, List.append_nil]
  | succ d ih =>
    intro i x3 hi hl
    have hlt : i < x0.length := by omega
    have h1 := ih (i + 1) (x3.set i (cvL x0[i])) (by omega) (by simp; exact hl);rw [set_mapL cvL hlt hl] at h1;refine Ev.step (f := fun k => laws_toLeaveS.l0 k x0 (x3.set i (cvL x0[i])) ((i + 1 : Nat) : Int)) (fun k => ?_) h1;simp only [laws_toLeaveS.l0, laws_toLeave.f, Option.bind_some];rw [if_pos (by omega), if_pos (by omega), if_pos (by omega), rdLL_get hlt, w64 (by omega) (by omega), Int.toNat_natCast];rfl
theorem toLeaveS_ev (l : List S163) (h : l.length ≤ 17592186044416) : Ev (fun k => laws_toLeaveS.f k l) (l.map cvL) := by
  have h1 := toLeaveS_l l h l.length 0 (List.replicate l.length z65) (by omega) (by simp);simp only [laws_toLeaveS.f];simp only [Int.toNat_natCast];refine evPos (by omega) (evPos (by omega) (evEq h1 (by simp)))
theorem toAcct_ev (a : ByteArray) (b c d : Int) (l : List S163) (h : l.length ≤ 17592186044416) : Ev (fun k => laws_toAcct.f k a b c d l) (a, b, c, d, l.map cvL) := by
  simp only [laws_toAcct.f];exact Ev.bind (toLeaveS_ev l h) (Ev.now _)
def cvA (s : S125) : S63 := ⟨s.f0, s.f1, s.f2, s.f3, s.f4.map cvL⟩
theorem rdLA_get {xs : List S125} {i : Nat} (h : i < xs.length) : rd_T125 xs (i : Int) = xs[i] := by
  unfold rd_T125;rw [Int.toNat_natCast, List.getD_eq_getElem?_getD, List.getElem?_eq_getElem h];rfl
theorem set_mapA (f : S125 → S63) {x3 : List S63} {x0 : List S125} {i : Nat} (h : i < x0.length) (hl : x3.length = x0.length) : (x3.set i (f x0[i])).take (i + 1) ++ (x0.drop (i + 1)).map f = x3.take i ++ (x0.drop i).map f := by
  rw [take_snoc (by simp; omega), List.getElem_set_self, List.append_assoc, List.take_set_of_le (Nat.le_refl _), drop_cons h];rfl
theorem toAcctS_l (x0 : List S125) (h : x0.length ≤ 4398046511104) (hs : ∀ s ∈ x0, s.f4.length ≤ 17592186044416) : ∀ (d i : Nat) (x3 : List S63), i + d = x0.length → x3.length = x0.length → Ev (fun k => laws_toAcctS.l0 k x0 x3 (i : Int)) (x3.take i ++ (x0.drop i).map cvA) := by
  intro d
  induction d with
  | zero =>
    intro i x3 hi hl
    refine evOne fun k => ?_
    simp only [laws_toAcctS.l0];rw [if_neg (by omega), List.take_of_length_le (by omega), List.drop_of_length_le (by omega), List.map_nil, List.append_nil]
  | succ d ih =>
    intro i x3 hi hl
    have hlt : i < x0.length := by omega
    have h1 := ih (i + 1) (x3.set i (cvA x0[i])) (by omega) (by simp; exact hl);rw [set_mapA cvA hlt hl] at h1;refine Ev.step (f := fun k => (laws_toAcct.f k x0[i].f0 x0[i].f1 x0[i].f2 x0[i].f3 x0[i].f4).bind fun bt => (if (i : Int) < (x3.length : Int) then (laws_toAcctS.l0 k x0 (x3.set (i : Int).toNat (⟨bt.1, bt.2.1, bt.2.2.1, bt.2.2.2.1, bt.2.2.2.2⟩ : S63)) ((i + 1 : Nat) : Int)) else none)) (fun k => ?_) (Ev.bind (toAcct_ev _ _ _ _ _ (hs _ (List.getElem_mem hlt))) (evPos (by omega) (by rw [Int.toNat_natCast]; exact h1)));simp only [laws_toAcctS.l0];rw [if_pos (by omega), if_pos (by omega), rdLA_get hlt, w64 (by omega) (by omega)];rfl
theorem toAcctS_ev (l : List S125) (h : l.length ≤ 4398046511104) (hs : ∀ s ∈ l, s.f4.length ≤ 17592186044416) : Ev (fun k => laws_toAcctS.f k l) (l.map cvA) := by
  have h1 := toAcctS_l l h hs l.length 0 (List.replicate l.length z63) (by omega) (by simp);simp only [laws_toAcctS.f];simp only [Int.toNat_natCast];refine evPos (by omega) (evPos (by omega) (evEq h1 (by simp)))
theorem eqLeaveS_l (x : List S65) (h : x.length ≤ 281474976710656) : ∀ (d i : Nat), i + d = x.length → Ev (fun k => laws_eqLeaveS.l0 k x x (i : Int)) true := by
  intro d
  induction d with
  | zero =>
    intro i hi
    refine evOne fun k => ?_
    simp only [laws_eqLeaveS.l0];rw [if_neg (by omega)]
  | succ d ih =>
    intro i hi;refine Ev.step (f := fun k => laws_eqLeaveS.l0 k x x ((i + 1 : Nat) : Int)) (fun k => ?_) (ih (i + 1) (by omega))
    have e : laws_eqLeave.f (rd_T65 x (i : Int)).f0 (rd_T65 x (i : Int)).f1 (rd_T65 x (i : Int)).f0 (rd_T65 x (i : Int)).f1 = some true := by simp [laws_eqLeave.f]
    simp only [laws_eqLeaveS.l0];rw [if_pos (by omega), if_pos (by omega), if_pos (by omega), e, Option.bind_some, if_pos rfl, w64 (by omega) (by omega)];rfl
theorem eqLeaveS_ev (x : List S65) (h : x.length ≤ 281474976710656) : Ev (fun k => laws_eqLeaveS.f k x x) true := by
  simp only [laws_eqLeaveS.f];exact evPos trivial (eqLeaveS_l x h x.length 0 (by omega))
theorem eqAcct_ev (a : ByteArray) (b c d : Int) (l : List S65) (h : l.length ≤ 281474976710656) : Ev (fun k => laws_eqAcct.f k a b c d l a b c d l) true := by
  simp only [laws_eqAcct.f];exact evPos trivial (evPos trivial (evPos trivial (evPos trivial (Ev.bind (eqLeaveS_ev l h) (evPos rfl (Ev.now _))))))
theorem rdIA_get {xs : List S63} {i : Nat} (h : i < xs.length) : rd_T63 xs (i : Int) = xs[i] := by
  unfold rd_T63;rw [Int.toNat_natCast, List.getD_eq_getElem?_getD, List.getElem?_eq_getElem h];rfl
theorem rdIL_get {xs : List S65} {i : Nat} (h : i < xs.length) : rd_T65 xs (i : Int) = xs[i] := by
  unfold rd_T65;rw [Int.toNat_natCast, List.getD_eq_getElem?_getD, List.getElem?_eq_getElem h];rfl
theorem eqAcctS_l (x : List S63) (h : x.length ≤ 281474976710656) (hs : ∀ s ∈ x, s.f4.length ≤ 281474976710656) : ∀ (d i : Nat), i + d = x.length → Ev (fun k => laws_eqAcctS.l0 k x x (i : Int)) true := by
  intro d
  induction d with
  | zero =>
    intro i hi
    refine evOne fun k => ?_
    simp only [laws_eqAcctS.l0];rw [if_neg (by omega)]
  | succ d ih =>
    intro i hi
    have hlt : i < x.length := by omega
    refine Ev.step (f := fun k => (laws_eqAcct.f k x[i].f0 x[i].f1 x[i].f2 x[i].f3 x[i].f4 x[i].f0 x[i].f1 x[i].f2 x[i].f3 x[i].f4).bind fun t => (if t = true then (laws_eqAcctS.l0 k x x ((i + 1 : Nat) : Int)) else (some false))) (fun k => ?_) (Ev.bind (eqAcct_ev _ _ _ _ _ (hs _ (List.getElem_mem hlt))) (evPos rfl (ih (i + 1) (by omega))));simp only [laws_eqAcctS.l0];rw [if_pos (by omega), if_pos (by omega), if_pos (by omega), rdIA_get hlt, w64 (by omega) (by omega)];rfl
theorem eqAcctS_ev (x : List S63) (h : x.length ≤ 281474976710656) (hs : ∀ s ∈ x, s.f4.length ≤ 281474976710656) : Ev (fun k => laws_eqAcctS.f k x x) true := by
  simp only [laws_eqAcctS.f];exact evPos trivial (eqAcctS_l x h hs x.length 0 (by omega))
theorem szAcct_eq (a : ByteArray) (b c d : Int) (l : List S163) (v : Int) (ha : a.size ≤ 9223372036854775807) (hl : l.length ≤ 9223372036854775807) (h0 : 0 ≤ v) (h1 : v ≤ 1048576) :
    ∃ r, laws_szAcct.f a b c d l v = some r ∧ (r < 0 ∨ (0 ≤ r ∧ r + (a.size : Int) + (l.length : Int) = v)) := by
  simp only [laws_szAcct.f, laws_szLeaveS.f];rw [w64 (x := v - (a.size : Int)) (by omega) (by omega)]
  by_cases hn : v - (a.size : Int) < 0
  · exact ⟨-1, by rw [if_pos hn], .inl (by omega)⟩
  · rw [if_neg hn, w64 (x := v - (a.size : Int) - (l.length : Int)) (by omega) (by omega)]
    by_cases hn2 : v - (a.size : Int) - (l.length : Int) < 0
    · exact ⟨-1, by rw [if_pos hn2]; rfl, .inl (by omega)⟩
    · refine ⟨v - (a.size : Int) - (l.length : Int), ?_, .inr ⟨by omega, by omega⟩⟩
      rw [if_neg hn2, Option.bind_some, if_neg hn2]
theorem szAcctS_l (x0 : List S125) (h : x0.length ≤ 9223372036854775807) (hs : ∀ s ∈ x0, s.f0.size ≤ 9223372036854775807 ∧ s.f4.length ≤ 9223372036854775807) : ∀ (d i : Nat) (v : Int), i + d = x0.length → 0 ≤ v → v ≤ 1048576 →
    ∃ r, Ev (fun k => laws_szAcctS.l0 k x0 v (i : Int)) r ∧ (r < 0 ∨ (∀ s ∈ x0.drop i, s.f0.size ≤ 1048576 ∧ s.f4.length ≤ 1048576)) := by
  intro d
  induction d with
  | zero =>
    intro i v hi h0 h1;refine ⟨v, evOne fun k => ?_, .inr fun s hs => ?_⟩
    · simp only [laws_szAcctS.l0]
      rw [if_neg (by omega)]
    · rw [List.drop_of_length_le (by omega)] at hs
      simp at hs
  | succ d ih =>
    intro i v hi h0 h1
    have hlt : i < x0.length := by omega
    have hsz := hs _ (List.getElem_mem hlt);obtain ⟨r, e, hp⟩ := szAcct_eq x0[i].f0 x0[i].f1 x0[i].f2 x0[i].f3 x0[i].f4 v hsz.1 hsz.2 h0 h1
    have hopen : ∀ k, laws_szAcctS.l0 (k + 1) x0 v (i : Int) = (if r < 0 then (some (-1)) else (laws_szAcctS.l0 k x0 r ((i + 1 : Nat) : Int))) := by
      intro k;simp only [laws_szAcctS.l0];rw [if_pos (by omega), if_pos (by omega), rdLA_get hlt, e, Option.bind_some, w64 (by omega) (by omega)];rfl
    by_cases hneg : r < 0
    · exact ⟨-1, evOne fun k => by rw [hopen, if_pos hneg], .inl (by omega)⟩
    · obtain ⟨r', hr', hp'⟩ := ih (i + 1) r (by omega) (by omega) (by omega)
      refine ⟨r', Ev.step (fun k => by rw [hopen, if_neg hneg]) hr', ?_⟩
      rcases hp' with hp' | hp'
      · exact .inl hp'
      · refine .inr ?_
        rw [drop_cons hlt];intro s hs
        rcases List.mem_cons.1 hs with rfl | hs
        · omega
        · exact hp' s hs
theorem szAcctS_ev (x : List S125) (h : x.length ≤ 9223372036854775807) (hs : ∀ s ∈ x, s.f0.size ≤ 9223372036854775807 ∧ s.f4.length ≤ 9223372036854775807) :
    ∃ r, Ev (fun k => laws_szAcctS.f k x 1048576) r ∧ (r < 0 ∨ (x.length ≤ 1048576 ∧ ∀ s ∈ x, s.f0.size ≤ 1048576 ∧ s.f4.length ≤ 1048576)) := by
  have hw : wrap64 (1048576 - (x.length : Int)) = 1048576 - (x.length : Int) := w64 (by omega) (by omega)
  by_cases hneg : 1048576 - (x.length : Int) < 0
  · refine ⟨-1, evVal fun k => ?_, .inl (by omega)⟩
    simp only [laws_szAcctS.f];rw [hw, if_pos hneg]
  · obtain ⟨r, hr, hp⟩ := szAcctS_l x h hs x.length 0 (1048576 - (x.length : Int)) (by omega) (by omega) (by omega)
    refine ⟨r, Ev.congr (fun k => ?_) hr, ?_⟩
    · simp only [laws_szAcctS.f]
      rw [hw, if_neg hneg];rfl
    · rcases hp with hp | hp
      · exact .inl hp
      · exact .inr ⟨by omega, by rw [List.drop_zero] at hp; exact hp⟩
/-! ### an account that is sound -/
def inr (a b c : Int) : Bool := decide (b ≤ a) && decide (a ≤ c)
def lvAt (l : List S65) (i : Nat) : Bool := inr (rd_T65 l (i : Int)).f0 1 1000000 && (inr (rd_T65 l (i : Int)).f1 0 1000 && (decide (i = 0) || decide ((rd_T65 l ((i - 1 : Nat) : Int)).f1 < (rd_T65 l (i : Int)).f1)))
def lvFrom (l : List S65) : Nat → Nat → Bool
  | 0, _ => true
  | d + 1, i => lvAt l i && lvFrom l d (i + 1)
def acctOk (a : ByteArray) (b c d : Int) (l : List S65) : Bool := nameOk a && (inr b 0 1000000 && (inr c 0 10000 && (inr d 0 1000000 && (decide (l.length ≤ 4) && lvFrom l l.length 0))))
theorem sAcctOk_l (a : ByteArray) (b c d : Int) (l : List S65) (h : l.length ≤ 281474976710656) : ∀ (n i : Nat), i + n = l.length → Ev (fun k => spec_AcctOk.l0 k (i : Int) a b c d l) (lvFrom l n i) := by
  intro n
  induction n with
  | zero =>
    intro i hi
    refine evOne fun k => ?_
    simp only [spec_AcctOk.l0];rw [if_neg (by omega)];rfl
  | succ n ih =>
    intro i hi
    have hlt : i < l.length := by omega
    simp only [lvFrom, lvAt]
    have hw : wrap64 ((i : Int) + 1) = ((i + 1 : Nat) : Int) := by rw [w64 (by omega) (by omega)]; omega
    refine Ev.step (f := fun k => (if inr (rd_T65 l (i : Int)).f0 1 1000000 = true then (if inr (rd_T65 l (i : Int)).f1 0 1000 = true then (if (i : Int) > 0 then (if 0 ≤ (wrap64 ((i : Int) - 1)) then (if (wrap64 ((i : Int) - 1)) < (l.length : Int) then (if ((rd_T65 l (wrap64 ((i : Int) - 1))).f1) ≥ ((rd_T65 l (i : Int)).f1) then (some false) else (spec_AcctOk.l0 k ((i + 1 : Nat) : Int) a b c d l)) else (none)) else (none)) else (spec_AcctOk.l0 k ((i + 1 : Nat) : Int) a b c d l)) else (some false)) else (some false))) (fun k => ?_) ?_
    · simp only [spec_AcctOk.l0, l1In_eq, Option.bind_some]
      rw [if_pos (by omega), if_pos (by omega), hw];rfl
    · by_cases h1 : inr (rd_T65 l (i : Int)).f0 1 1000000 = true
      · refine evPos h1 ?_
        by_cases h2 : inr (rd_T65 l (i : Int)).f1 0 1000 = true
        · refine evPos h2 ?_
          rw [h1, h2]
          by_cases hi0 : (i : Int) > 0
          · have hw1 : wrap64 ((i : Int) - 1) = ((i - 1 : Nat) : Int) := by rw [w64 (by omega) (by omega)]; omega
            refine evPos hi0 (evPos (by omega) (evPos (by omega) ?_));rw [hw1]
            have hi' : ¬ i = 0 := by omega
            by_cases hb : (rd_T65 l ((i - 1 : Nat) : Int)).f1 ≥ (rd_T65 l (i : Int)).f1
            · exact evPos hb (evEq (Ev.now _) (by simp [hi']; omega))
            · exact evNeg hb (evEq (ih (i + 1) (by omega)) (by rw [decide_eq_true (show (rd_T65 l ((i - 1 : Nat) : Int)).f1 < (rd_T65 l (i : Int)).f1 by omega)]; simp))
          · have hi' : i = 0 := by omega
            refine evNeg hi0 (evEq (ih (i + 1) (by omega)) ?_);rw [decide_eq_true hi'];simp
        · exact evNeg h2 (evEq (Ev.now _) (by simp [h2]))
      · exact evNeg h1 (evEq (Ev.now _) (by simp [h1]))
theorem sAcctOk_ev (a : ByteArray) (b c d : Int) (l : List S65) (ha : a.size ≤ 9223372036854775807) (h : l.length ≤ 281474976710656) : Ev (fun k => spec_AcctOk.f k a b c d l) (acctOk a b c d l) := by
  have jt : Ev (fun k => spec_AcctOk.j0 k true a b c d l) false := evOne fun k => by simp [spec_AcctOk.j0]
  have jf : ¬ (l.length : Int) > 4 → Ev (fun k => spec_AcctOk.j0 k false a b c d l) (lvFrom l l.length 0) := by
    intro hl;refine Ev.step (f := fun k => spec_AcctOk.l0 k ((0 : Nat) : Int) a b c d l) (fun k => ?_) (sAcctOk_l a b c d l h l.length 0 (by omega));simp only [spec_AcctOk.j0];rw [if_neg (by simp)];rfl
  simp only [spec_AcctOk.f, l1In_eq, Option.bind_some];refine Ev.bind (sNameOk_ev a ha) ?_;unfold acctOk
  by_cases h1 : nameOk a = true
  · refine evPos h1 ?_
    by_cases h2 : (decide (0 ≤ b) && decide (b ≤ 1000000)) = true
    · refine evPos h2 ?_
      by_cases h3 : (decide (0 ≤ c) && decide (c ≤ 10000)) = true
      · refine evPos h3 ?_
        by_cases h4 : (decide (0 ≤ d) && decide (d ≤ 1000000)) = true
        · refine evPos h4 ?_
          simp only [inr, h1, h2, h3, h4, Bool.true_and]
          by_cases h5 : (l.length : Int) > 4
          · rw [decide_eq_true h5]
            exact evEq jt (by rw [decide_eq_false (by omega)]; rfl)
          · rw [decide_eq_false h5]
            exact evEq (jf h5) (by rw [decide_eq_true (by omega)]; rfl)
        · exact evNeg h4 (evEq jt (by simp only [inr]; rw [Bool.not_eq_true] at h4; rw [h4]; simp))
      · exact evNeg h3 (evEq jt (by simp only [inr]; rw [Bool.not_eq_true] at h3; rw [h3]; simp))
    · exact evNeg h2 (evEq jt (by simp only [inr]; rw [Bool.not_eq_true] at h2; rw [h2]; simp))
  · exact evNeg h1 (evEq jt (by rw [Bool.not_eq_true] at h1; rw [h1]; simp))
theorem iAcctOk_l (a : ByteArray) (b c d : Int) (l : List S65) (ha : a.size ≤ 9223372036854775807) (h : l.length ≤ 281474976710656) : ∀ (n i : Nat), i + n = l.length → Ev (fun k => impl_AcctOk.l0 k l (l.length : Int) (i : Int) a b c d l) (lvFrom l n i && (nameOk a && (inr b 0 1000000 && (inr d 0 1000000 && (inr c 0 10000 && decide (l.length ≤ 4)))))) := by
  intro n
  induction n with
  | zero =>
    intro i hi;refine Ev.step (f := fun k => (impl_NameOk.f k a).bind fun t => (if t = true then (if inr b 0 1000000 = true then (if inr d 0 1000000 = true then (if inr c 0 10000 = true then (some (decide ((l.length : Int) ≤ 4))) else (some false)) else (some false)) else (some false)) else (some false))) (fun k => ?_) (Ev.bind (iNameOk_ev a ha) ?_)
    · simp only [impl_AcctOk.l0, impl_isAmount.f, inRange_eq, Option.bind_some]
      rw [if_neg (by omega)];rfl
    · simp only [lvFrom, Bool.true_and]
      by_cases h1 : nameOk a = true
      · refine evPos h1 ?_
        by_cases h2 : inr b 0 1000000 = true
        · refine evPos h2 ?_
          by_cases h3 : inr d 0 1000000 = true
          · refine evPos h3 ?_
            by_cases h4 : inr c 0 10000 = true
            · refine evPos h4 (evEq (Ev.now _) ?_)
              rw [h1, h2, h3, h4, Bool.true_and, Bool.true_and, Bool.true_and, Bool.true_and, decide_eq_decide]
              omega
            · exact evNeg h4 (evEq (Ev.now _) (by rw [Bool.not_eq_true] at h4; rw [h4]; simp))
          · exact evNeg h3 (evEq (Ev.now _) (by rw [Bool.not_eq_true] at h3; rw [h3]; simp))
        · exact evNeg h2 (evEq (Ev.now _) (by rw [Bool.not_eq_true] at h2; rw [h2]; simp))
      · exact evNeg h1 (evEq (Ev.now _) (by rw [Bool.not_eq_true] at h1; rw [h1]; simp))
  | succ n ih =>
    intro i hi
    have hlt : i < l.length := by omega
    simp only [lvFrom, lvAt]
    have hw : wrap64 ((i : Int) + 1) = ((i + 1 : Nat) : Int) := by rw [w64 (by omega) (by omega)]; omega
    refine Ev.step (f := fun k => (if inr (rd_T65 l (i : Int)).f0 1 1000000 = true then (if inr (rd_T65 l (i : Int)).f1 0 1000 = true then (if (i : Int) > 0 then (if 0 ≤ (wrap64 ((i : Int) - 1)) then (if (wrap64 ((i : Int) - 1)) < (l.length : Int) then (if ((rd_T65 l (i : Int)).f1) ≤ ((rd_T65 l (wrap64 ((i : Int) - 1))).f1) then (some false) else (impl_AcctOk.l0 k l (l.length : Int) ((i + 1 : Nat) : Int) a b c d l)) else (none)) else (none)) else (impl_AcctOk.l0 k l (l.length : Int) ((i + 1 : Nat) : Int) a b c d l)) else (some false)) else (some false))) (fun k => ?_) ?_
    · simp only [impl_AcctOk.l0, inRange_eq, Option.bind_some]
      rw [if_pos (by omega), if_pos (by omega), if_pos (by omega), hw];rfl
    · by_cases h1 : inr (rd_T65 l (i : Int)).f0 1 1000000 = true
      · refine evPos h1 ?_
        by_cases h2 : inr (rd_T65 l (i : Int)).f1 0 1000 = true
        · refine evPos h2 ?_
          rw [h1, h2]
          by_cases hi0 : (i : Int) > 0
          · have hw1 : wrap64 ((i : Int) - 1) = ((i - 1 : Nat) : Int) := by rw [w64 (by omega) (by omega)]; omega
            refine evPos hi0 (evPos (by omega) (evPos (by omega) ?_));rw [hw1]
            have hi' : ¬ i = 0 := by omega
            by_cases hb : (rd_T65 l (i : Int)).f1 ≤ (rd_T65 l ((i - 1 : Nat) : Int)).f1
            · refine evPos hb (evEq (Ev.now _) ?_)
              rw [decide_eq_false hi', decide_eq_false (show ¬ (rd_T65 l ((i - 1 : Nat) : Int)).f1 < (rd_T65 l (i : Int)).f1 by omega)];simp
            · exact evNeg hb (evEq (ih (i + 1) (by omega)) (by rw [decide_eq_true (show (rd_T65 l ((i - 1 : Nat) : Int)).f1 < (rd_T65 l (i : Int)).f1 by omega)]; simp))
          · have hi' : i = 0 := by omega
            refine evNeg hi0 (evEq (ih (i + 1) (by omega)) ?_);rw [decide_eq_true hi'];simp
        · exact evNeg h2 (evEq (Ev.now _) (by rw [Bool.not_eq_true] at h2; rw [h2]; simp))
      · exact evNeg h1 (evEq (Ev.now _) (by rw [Bool.not_eq_true] at h1; rw [h1]; simp))
theorem iAcctOk_ev (a : ByteArray) (b c d : Int) (l : List S65) (ha : a.size ≤ 9223372036854775807) (h : l.length ≤ 281474976710656) : Ev (fun k => impl_AcctOk.f k a b c d l) (acctOk a b c d l) := by
  simp only [impl_AcctOk.f];refine evEq (iAcctOk_l a b c d l ha h l.length 0 (by omega)) ?_;unfold acctOk
  cases nameOk a <;> cases inr b 0 1000000 <;> cases inr c 0 10000 <;> cases inr d 0 1000000 <;> cases decide (l.length ≤ 4) <;> cases lvFrom l l.length 0 <;> rfl
/-! ### what accounts hold -/
def lsum (l : List S65) : Int := (l.map fun s => s.f0).sum
def asum (l : List S63) : Int := (l.map fun s => s.f1 + s.f3 + lsum s.f4).sum
theorem wadd_l (a b : Int) : wrap64 (wrap64 a + b) = wrap64 (a + b) := by unfold wrap64; omega
theorem wadd_r (a b : Int) : wrap64 (a + wrap64 b) = wrap64 (a + b) := by unfold wrap64; omega
theorem sOf_l (a : ByteArray) (b c d : Int) (l : List S65) (h : l.length ≤ 281474976710656) : ∀ (n i : Nat) (X : Int), i + n = l.length → Ev (fun k => spec_l4Of.l0 k (wrap64 X) (i : Int) a b c d l) (wrap64 (X + lsum (l.drop i))) := by
  intro n
  induction n with
  | zero =>
    intro i X hi
    refine evOne fun k => ?_
    simp only [spec_l4Of.l0];rw [if_neg (by omega), List.drop_of_length_le (by omega)];simp [lsum]
  | succ n ih =>
    intro i X hi
    have hlt : i < l.length := by omega
    refine Ev.step (f := fun k => spec_l4Of.l0 k (wrap64 (X + l[i].f0)) ((i + 1 : Nat) : Int) a b c d l) (fun k => ?_) (evEq (ih (i + 1) (X + l[i].f0) (by omega)) ?_)
    · simp only [spec_l4Of.l0]
      rw [if_pos (by omega), if_pos (by omega), rdIL_get hlt, wadd_l, w64 (x := (i : Int) + 1) (by omega) (by omega)];rfl
    · rw [drop_cons hlt]
      simp only [lsum, List.map_cons, List.sum_cons]
      congr 1
      omega
theorem sOf_ev (a : ByteArray) (b c d : Int) (l : List S65) (h : l.length ≤ 281474976710656) : Ev (fun k => spec_l4Of.f k a b c d l) (wrap64 (b + d + lsum l)) := by
  simp only [spec_l4Of.f];exact sOf_l a b c d l h l.length 0 (b + d) (by omega)
theorem sWealth_l (l : List S63) (h : l.length ≤ 281474976710656) (hs : ∀ s ∈ l, s.f4.length ≤ 281474976710656) : ∀ (n i : Nat) (X : Int), i + n = l.length → Ev (fun k => spec_Wealth.l0 k l (wrap64 X) (i : Int)) (wrap64 (X + asum (l.drop i))) := by
  intro n
  induction n with
  | zero =>
    intro i X hi
    refine evOne fun k => ?_
    simp only [spec_Wealth.l0];rw [if_neg (by omega), List.drop_of_length_le (by omega)];simp [asum]
  | succ n ih =>
    intro i X hi
    have hlt : i < l.length := by omega
    have hE := ih (i + 1) (X + (l[i].f1 + l[i].f3 + lsum l[i].f4)) (by omega);rw [← wadd_l, ← wadd_r (wrap64 X)] at hE;refine Ev.step (f := fun k => (spec_l4Of.f k l[i].f0 l[i].f1 l[i].f2 l[i].f3 l[i].f4).bind fun t => spec_Wealth.l0 k l (wrap64 (wrap64 X + t)) ((i + 1 : Nat) : Int)) (fun k => ?_) (Ev.bind (sOf_ev _ _ _ _ _ (hs _ (List.getElem_mem hlt))) (evEq hE ?_))
    · simp only [spec_Wealth.l0]
      rw [if_pos (by omega), if_pos (by omega), rdIA_get hlt, w64 (x := (i : Int) + 1) (by omega) (by omega)];rfl
    · rw [drop_cons hlt]
      simp only [asum, List.map_cons, List.sum_cons]
      congr 1
      omega
theorem sWealth_ev (l : List S63) (h : l.length ≤ 281474976710656) (hs : ∀ s ∈ l, s.f4.length ≤ 281474976710656) : Ev (fun k => spec_Wealth.f k l) (wrap64 (asum l)) := by
  have := sWealth_l l h hs l.length 0 0 (by omega);simp only [spec_Wealth.f];rw [Int.zero_add, List.drop_zero, show wrap64 0 = 0 from w64 (by omega) (by omega)] at this;exact this
theorem iWealth_l1 (l : List S63) (N i : Int) (m : List S65) (h : m.length ≤ 281474976710656) (r : Int) : ∀ (n j : Nat) (X : Int), j + n = m.length → Ev (fun k => impl_Wealth.l0 k (wrap64 (X + lsum (m.drop j))) l N (wrap64 (i + 1))) r → Ev (fun k => impl_Wealth.l1 k (wrap64 X) l N i m (m.length : Int) (j : Int)) r := by
  intro n
  induction n with
  | zero =>
    intro j X hj hr;rw [List.drop_of_length_le (by omega)] at hr;refine Ev.step (fun k => ?_) hr;simp only [impl_Wealth.l1];rw [if_neg (by omega)];simp [lsum]
  | succ n ih =>
    intro j X hj hr
    have hlt : j < m.length := by omega
    refine Ev.step (f := fun k => impl_Wealth.l1 k (wrap64 (X + m[j].f0)) l N i m (m.length : Int) ((j + 1 : Nat) : Int)) (fun k => ?_) (ih (j + 1) (X + m[j].f0) (by omega) ?_)
    · simp only [impl_Wealth.l1]
      rw [if_pos (by omega), if_pos (by omega), if_pos (by omega), rdIL_get hlt, wadd_l, w64 (x := (j : Int) + 1) (by omega) (by omega)];rfl
    · rw [drop_cons hlt] at hr
      simp only [lsum, List.map_cons, List.sum_cons] at hr ⊢;rw [Int.add_assoc];exact hr
theorem iWealth_l (l : List S63) (h : l.length ≤ 281474976710656) (hs : ∀ s ∈ l, s.f4.length ≤ 281474976710656) : ∀ (n i : Nat) (X : Int), i + n = l.length → Ev (fun k => impl_Wealth.l0 k (wrap64 X) l (l.length : Int) (i : Int)) (wrap64 (X + asum (l.drop i))) := by
  intro n
  induction n with
  | zero =>
    intro i X hi
    refine evOne fun k => ?_
    simp only [impl_Wealth.l0];rw [if_neg (by omega), List.drop_of_length_le (by omega)];simp [asum]
  | succ n ih =>
    intro i X hi
    have hlt : i < l.length := by omega
    have hE := ih (i + 1) (X + (l[i].f1 + l[i].f3) + lsum l[i].f4) (by omega)
    have hw : wrap64 ((i : Int) + 1) = ((i + 1 : Nat) : Int) := by rw [w64 (by omega) (by omega)]; omega
    have h1 := iWealth_l1 l (l.length : Int) (i : Int) l[i].f4 (hs _ (List.getElem_mem hlt)) _ l[i].f4.length 0 (X + (l[i].f1 + l[i].f3)) (by omega) (by rw [hw, List.drop_zero]; exact hE);refine Ev.step (f := fun k => impl_Wealth.l1 k (wrap64 (X + (l[i].f1 + l[i].f3))) l (l.length : Int) (i : Int) l[i].f4 (l[i].f4.length : Int) ((0 : Nat) : Int)) (fun k => ?_) (evEq h1 ?_)
    · simp only [impl_Wealth.l0]
      rw [if_pos (by omega), if_pos (by omega), if_pos (by omega), rdIA_get hlt, wadd_r, wadd_l];rfl
    · rw [drop_cons hlt]
      simp only [asum, List.map_cons, List.sum_cons]
      congr 1
      omega
theorem iWealth_ev (l : List S63) (h : l.length ≤ 281474976710656) (hs : ∀ s ∈ l, s.f4.length ≤ 281474976710656) : Ev (fun k => impl_Wealth.f k l) (wrap64 (asum l)) := by
  have := iWealth_l l h hs l.length 0 0 (by omega);simp only [impl_Wealth.f];rw [Int.zero_add, List.drop_zero, show wrap64 0 = 0 from w64 (by omega) (by omega)] at this;exact this
/-! ### accounts in their order -/
def acAt (l : List S63) (i : Nat) : Bool := acctOk (rd_T63 l (i : Int)).f0 (rd_T63 l (i : Int)).f1 (rd_T63 l (i : Int)).f2 (rd_T63 l (i : Int)).f3 (rd_T63 l (i : Int)).f4 && (decide (i = 0) || Op.bytesLess (rd_T63 l ((i - 1 : Nat) : Int)).f0.toList (rd_T63 l (i : Int)).f0.toList)
def acFrom (l : List S63) : Nat → Nat → Bool
  | 0, _ => true
  | d + 1, i => acAt l i && acFrom l d (i + 1)
def acctsOk (l : List S63) : Bool := acFrom l l.length 0 && (decide (l.length ≤ 12) && decide (wrap64 (asum l) ≤ 1000000))
theorem sAcctsOk_l (l : List S63) (h : l.length ≤ 281474976710656) (hs : ∀ s ∈ l, s.f0.size ≤ 9223372036854775807 ∧ s.f4.length ≤ 281474976710656) : ∀ (n i : Nat), i + n = l.length → Ev (fun k => spec_AcctsOk.l0 k l (i : Int)) (acFrom l n i && (decide (l.length ≤ 12) && decide (wrap64 (asum l) ≤ 1000000))) := by
  intro n
  induction n with
  | zero =>
    intro i hi;refine Ev.step (f := fun k => if (l.length : Int) ≤ 12 then ((spec_Wealth.f k l).bind fun t => (some (decide (t ≤ 1000000)))) else (some false)) (fun k => ?_) ?_
    · simp only [spec_AcctsOk.l0]
      rw [if_neg (by omega)]
    · simp only [acFrom, Bool.true_and]
      by_cases h12 : (l.length : Int) ≤ 12
      · exact evPos h12 (Ev.bind (sWealth_ev l h (fun s hx => (hs s hx).2)) (evEq (Ev.now _) (by rw [decide_eq_true (show l.length ≤ 12 by omega), Bool.true_and])))
      · exact evNeg h12 (evEq (Ev.now _) (by rw [decide_eq_false (show ¬ l.length ≤ 12 by omega), Bool.false_and]))
  | succ n ih =>
    intro i hi
    have hlt : i < l.length := by omega
    have hm := hs _ (List.getElem_mem hlt);rw [← rdIA_get hlt] at hm;simp only [acFrom, acAt]
    have hw : wrap64 ((i : Int) + 1) = ((i + 1 : Nat) : Int) := by rw [w64 (by omega) (by omega)]; omega
    generalize hx : rd_T63 l (i : Int) = x at hm
    refine Ev.step (f := fun k => (spec_AcctOk.f k x.f0 x.f1 x.f2 x.f3 x.f4).bind fun t => (if t = true then (if (i : Int) > 0 then (if 0 ≤ (wrap64 ((i : Int) - 1)) then (if (wrap64 ((i : Int) - 1)) < (l.length : Int) then (if ((Op.bytesLess (((rd_T63 l (wrap64 ((i : Int) - 1))).f0).toList) (x.f0.toList)) = true) then (spec_AcctsOk.l0 k l ((i + 1 : Nat) : Int)) else (some false)) else (none)) else (none)) else (spec_AcctsOk.l0 k l ((i + 1 : Nat) : Int))) else (some false))) (fun k => ?_) (Ev.bind (sAcctOk_ev x.f0 x.f1 x.f2 x.f3 x.f4 hm.1 hm.2) ?_)
    · simp only [spec_AcctsOk.l0]
      rw [if_pos (by omega), if_pos (by omega), hx, hw]
    · by_cases h1 : acctOk x.f0 x.f1 x.f2 x.f3 x.f4 = true
      · refine evPos h1 ?_
        rw [h1]
        by_cases hi0 : (i : Int) > 0
        · have hw1 : wrap64 ((i : Int) - 1) = ((i - 1 : Nat) : Int) := by rw [w64 (by omega) (by omega)]; omega
          refine evPos hi0 (evPos (by omega) (evPos (by omega) ?_));rw [hw1]
          have hi' : ¬ i = 0 := by omega
          by_cases hb : Op.bytesLess (rd_T63 l ((i - 1 : Nat) : Int)).f0.toList x.f0.toList = true
          · exact evPos hb (evEq (ih (i + 1) (by omega)) (by rw [hb]; simp))
          · exact evNeg hb (evEq (Ev.now _) (by rw [Bool.not_eq_true] at hb; rw [hb, decide_eq_false hi']; simp))
        · have hi' : i = 0 := by omega
          refine evNeg hi0 (evEq (ih (i + 1) (by omega)) ?_);rw [decide_eq_true hi'];simp
      · exact evNeg h1 (evEq (Ev.now _) (by rw [Bool.not_eq_true] at h1; rw [h1]; simp))
theorem sAcctsOk_ev (l : List S63) (h : l.length ≤ 281474976710656) (hs : ∀ s ∈ l, s.f0.size ≤ 9223372036854775807 ∧ s.f4.length ≤ 281474976710656) : Ev (fun k => spec_AcctsOk.f k l) (acctsOk l) := sAcctsOk_l l h hs l.length 0 (by omega)
theorem iAcctsOk_l (l : List S63) (h : l.length ≤ 281474976710656) (hs : ∀ s ∈ l, s.f0.size ≤ 9223372036854775807 ∧ s.f4.length ≤ 281474976710656) : ∀ (n i : Nat), i + n = l.length → Ev (fun k => impl_AcctsOk.l0 k l l (l.length : Int) (i : Int)) (acFrom l n i && (decide (l.length ≤ 12) && decide (wrap64 (asum l) ≤ 1000000))) := by
  intro n
  induction n with
  | zero =>
    intro i hi;refine Ev.step (f := fun k => if (l.length : Int) ≤ 12 then ((impl_Wealth.f k l).bind fun t => (some (decide (t ≤ 1000000)))) else (some false)) (fun k => ?_) ?_
    · simp only [impl_AcctsOk.l0]
      rw [if_neg (by omega)]
    · simp only [acFrom, Bool.true_and]
      by_cases h12 : (l.length : Int) ≤ 12
      · exact evPos h12 (Ev.bind (iWealth_ev l h (fun s hx => (hs s hx).2)) (evEq (Ev.now _) (by rw [decide_eq_true (show l.length ≤ 12 by omega), Bool.true_and])))
      · exact evNeg h12 (evEq (Ev.now _) (by rw [decide_eq_false (show ¬ l.length ≤ 12 by omega), Bool.false_and]))
  | succ n ih =>
    intro i hi
    have hlt : i < l.length := by omega
    have hm := hs _ (List.getElem_mem hlt);rw [← rdIA_get hlt] at hm;simp only [acFrom, acAt]
    have hw : wrap64 ((i : Int) + 1) = ((i + 1 : Nat) : Int) := by rw [w64 (by omega) (by omega)]; omega
    generalize hx : rd_T63 l (i : Int) = x at hm
    refine Ev.step (f := fun k => (impl_AcctOk.f k x.f0 x.f1 x.f2 x.f3 x.f4).bind fun t => (if t = true then (if (i : Int) > 0 then (if 0 ≤ (wrap64 ((i : Int) - 1)) then (if (wrap64 ((i : Int) - 1)) < (l.length : Int) then (if ((Op.bytesLess (((rd_T63 l (wrap64 ((i : Int) - 1))).f0).toList) (x.f0.toList)) = true) then (impl_AcctsOk.l0 k l l (l.length : Int) ((i + 1 : Nat) : Int)) else (some false)) else (none)) else (none)) else (impl_AcctsOk.l0 k l l (l.length : Int) ((i + 1 : Nat) : Int))) else (some false))) (fun k => ?_) (Ev.bind (iAcctOk_ev x.f0 x.f1 x.f2 x.f3 x.f4 hm.1 hm.2) ?_)
    · simp only [impl_AcctsOk.l0]
      rw [if_pos (by omega), if_pos (by omega), if_pos (by omega), hx, hw]
    · by_cases h1 : acctOk x.f0 x.f1 x.f2 x.f3 x.f4 = true
      · refine evPos h1 ?_
        rw [h1]
        by_cases hi0 : (i : Int) > 0
        · have hw1 : wrap64 ((i : Int) - 1) = ((i - 1 : Nat) : Int) := by rw [w64 (by omega) (by omega)]; omega
          refine evPos hi0 (evPos (by omega) (evPos (by omega) ?_));rw [hw1]
          have hi' : ¬ i = 0 := by omega
          by_cases hb : Op.bytesLess (rd_T63 l ((i - 1 : Nat) : Int)).f0.toList x.f0.toList = true
          · exact evPos hb (evEq (ih (i + 1) (by omega)) (by rw [hb]; simp))
          · exact evNeg hb (evEq (Ev.now _) (by rw [Bool.not_eq_true] at hb; rw [hb, decide_eq_false hi']; simp))
        · have hi' : i = 0 := by omega
          refine evNeg hi0 (evEq (ih (i + 1) (by omega)) ?_);rw [decide_eq_true hi'];simp
      · exact evNeg h1 (evEq (Ev.now _) (by rw [Bool.not_eq_true] at h1; rw [h1]; simp))
theorem iAcctsOk_ev (l : List S63) (h : l.length ≤ 281474976710656) (hs : ∀ s ∈ l, s.f0.size ≤ 9223372036854775807 ∧ s.f4.length ≤ 281474976710656) : Ev (fun k => impl_AcctsOk.f k l) (acctsOk l) := iAcctsOk_l l h hs l.length 0 (by omega)
end Go.Proofs.Ytcbpfofkdipjhaa.PJ
