/- What the printed functions on accounts compute. No condition but sizes. -/
import Derived.Test.YtbkmjhebpemfpaaPFx0
import Derived.Test.YtbkmjhebpemfpaaPFx1
import Derived.Test.YtbkmjhebpemfpaaPFx2
import Derived.Test.YtbkmjhebpemfpaaPFx3
import Derived.Test.YtbkmjhebpemfpaaLibSFnExactAcctAt
namespace Go.Proofs.Ytbkmjhebpemfpaa.PF
open Go.RowKit Go.Proofs.YtbkmjhebpemfpaaW.PrintWords Go.Proofs.YtbkmjhebpemfpaaW.PrintLast Go.Proofs.YtbkmjhebpemfpaaW.PrintMore Go.Proofs.Ytbkmjhebpemfpaa.Base
set_option linter.unusedVariables false
def cvL (s : S128) : S81 := ⟨s.f0, s.f1⟩
theorem rdLL_get {xs : List S128} {i : Nat} (h : i < xs.length) : rd_T128 xs (i : Int) = xs[i] := by
  unfold rd_T128
  rw [Int.toNat_natCast, List.getD_eq_getElem?_getD, List.getElem?_eq_getElem h]
  rfl
theorem set_mapL (f : S128 → S81) {x3 : List S81} {x0 : List S128} {i : Nat} (h : i < x0.length) (hl : x3.length = x0.length) : (x3.set i (f x0[i])).take (i + 1) ++ (x0.drop (i + 1)).map f = x3.take i ++ (x0.drop i).map f := by
  rw [take_snoc (by simp; omega), List.getElem_set_self, List.append_assoc, List.take_set_of_le (Nat.le_refl _), drop_cons h]
  rfl
theorem toLeaveS_l (x0 : List S128) (h : x0.length ≤ 17592186044416) : ∀ (d i : Nat) (x3 : List S81), i + d = x0.length → x3.length = x0.length → Ev (fun k => laws_toLeaveS.l0 k x0 x3 (i : Int)) (x3.take i ++ (x0.drop i).map cvL) := by
  intro d
  induction d with
  | zero =>
    intro i x3 hi hl
    refine evOne fun k => ?_
    simp only [laws_toLeaveS.l0]
    rw [if_neg (by omega), List.take_of_length_le (by omega), List.drop_of_length_le (by omega), List.map_nil, List.append_nil]
  | succ d ih =>
    intro i x3 hi hl
    have hlt : i < x0.length := by omega
    have h1 := ih (i + 1) (x3.set i (cvL x0[i])) (by omega) (by simp; exact hl)
    rw [set_mapL cvL hlt hl] at h1
    refine Ev.step (f := fun k => laws_toLeaveS.l0 k x0 (x3.set i (cvL x0[i])) ((i + 1 : Nat) : Int)) (fun k => ?_) h1
    simp only [laws_toLeaveS.l0, laws_toLeave.f, Option.bind_some]
    rw [if_pos (by omega), if_pos (by omega), if_pos (by omega), rdLL_get hlt, w64 (by omega) (by omega), Int.toNat_natCast]
    rfl
theorem toLeaveS_ev (l : List S128) (h : l.length ≤ 17592186044416) : Ev (fun k => laws_toLeaveS.f k l) (l.map cvL) := by
  have h1 := toLeaveS_l l h l.length 0 (List.replicate l.length z81) (by omega) (by simp)
  simp only [laws_toLeaveS.f]
  simp only [Int.toNat_natCast]
  refine evPos (by omega) (evPos (by omega) (evEq h1 (by simp)))
theorem toAcct_ev (a : ByteArray) (b c d : Int) (l : List S128) (h : l.length ≤ 17592186044416) : Ev (fun k => laws_toAcct.f k a b c d l) (a, b, c, d, l.map cvL) := by
  simp only [laws_toAcct.f]
  exact Ev.bind (toLeaveS_ev l h) (Ev.now _)
def cvA (s : S33) : S38 := ⟨s.f0, s.f1, s.f2, s.f3, s.f4.map cvL⟩
theorem rdLA_get {xs : List S33} {i : Nat} (h : i < xs.length) : rd_T33 xs (i : Int) = xs[i] := by
  unfold rd_T33
  rw [Int.toNat_natCast, List.getD_eq_getElem?_getD, List.getElem?_eq_getElem h]
  rfl
theorem set_mapA (f : S33 → S38) {x3 : List S38} {x0 : List S33} {i : Nat} (h : i < x0.length) (hl : x3.length = x0.length) : (x3.set i (f x0[i])).take (i + 1) ++ (x0.drop (i + 1)).map f = x3.take i ++ (x0.drop i).map f := by
  rw [take_snoc (by simp; omega), List.getElem_set_self, List.append_assoc, List.take_set_of_le (Nat.le_refl _), drop_cons h]
  rfl
theorem toAcctS_l (x0 : List S33) (h : x0.length ≤ 4398046511104) (hs : ∀ s ∈ x0, s.f4.length ≤ 17592186044416) : ∀ (d i : Nat) (x3 : List S38), i + d = x0.length → x3.length = x0.length → Ev (fun k => laws_toAcctS.l0 k x0 x3 (i : Int)) (x3.take i ++ (x0.drop i).map cvA) := by
  intro d
  induction d with
  | zero =>
    intro i x3 hi hl
    refine evOne fun k => ?_
    simp only [laws_toAcctS.l0]
    rw [if_neg (by omega), List.take_of_length_le (by omega), List.drop_of_length_le (by omega), List.map_nil, List.append_nil]
  | succ d ih =>
    intro i x3 hi hl
    have hlt : i < x0.length := by omega
    have h1 := ih (i + 1) (x3.set i (cvA x0[i])) (by omega) (by simp; exact hl)
    rw [set_mapA cvA hlt hl] at h1
    refine Ev.step (f := fun k => (laws_toAcct.f k x0[i].f0 x0[i].f1 x0[i].f2 x0[i].f3 x0[i].f4).bind fun bt => (if (i : Int) < (x3.length : Int) then (laws_toAcctS.l0 k x0 (x3.set (i : Int).toNat (⟨bt.1, bt.2.1, bt.2.2.1, bt.2.2.2.1, bt.2.2.2.2⟩ : S38)) ((i + 1 : Nat) : Int)) else none)) (fun k => ?_) (Ev.bind (toAcct_ev _ _ _ _ _ (hs _ (List.getElem_mem hlt))) (evPos (by omega) (by rw [Int.toNat_natCast]; exact h1)))
    simp only [laws_toAcctS.l0]
    rw [if_pos (by omega), if_pos (by omega), rdLA_get hlt, w64 (by omega) (by omega)]
    rfl
theorem toAcctS_ev (l : List S33) (h : l.length ≤ 4398046511104) (hs : ∀ s ∈ l, s.f4.length ≤ 17592186044416) : Ev (fun k => laws_toAcctS.f k l) (l.map cvA) := by
  have h1 := toAcctS_l l h hs l.length 0 (List.replicate l.length z38) (by omega) (by simp)
  simp only [laws_toAcctS.f]
  simp only [Int.toNat_natCast]
  refine evPos (by omega) (evPos (by omega) (evEq h1 (by simp)))
theorem eqLeaveS_l (x : List S81) (h : x.length ≤ 281474976710656) : ∀ (d i : Nat), i + d = x.length → Ev (fun k => laws_eqLeaveS.l0 k x x (i : Int)) true := by
  intro d
  induction d with
  | zero =>
    intro i hi
    refine evOne fun k => ?_
    simp only [laws_eqLeaveS.l0]
    rw [if_neg (by omega)]
  | succ d ih =>
    intro i hi
    refine Ev.step (f := fun k => laws_eqLeaveS.l0 k x x ((i + 1 : Nat) : Int)) (fun k => ?_) (ih (i + 1) (by omega))
    have e : laws_eqLeave.f (rd_T81 x (i : Int)).f0 (rd_T81 x (i : Int)).f1 (rd_T81 x (i : Int)).f0 (rd_T81 x (i : Int)).f1 = some true := by simp [laws_eqLeave.f]
    simp only [laws_eqLeaveS.l0]
    rw [if_pos (by omega), if_pos (by omega), if_pos (by omega), e, Option.bind_some, if_pos rfl, w64 (by omega) (by omega)]
    rfl
theorem eqLeaveS_ev (x : List S81) (h : x.length ≤ 281474976710656) : Ev (fun k => laws_eqLeaveS.f k x x) true := by
  simp only [laws_eqLeaveS.f]
  exact evPos trivial (eqLeaveS_l x h x.length 0 (by omega))
theorem eqAcct_ev (a : ByteArray) (b c d : Int) (l : List S81) (h : l.length ≤ 281474976710656) : Ev (fun k => laws_eqAcct.f k a b c d l a b c d l) true := by
  simp only [laws_eqAcct.f]
  exact evPos trivial (evPos trivial (evPos trivial (evPos trivial (Ev.bind (eqLeaveS_ev l h) (evPos rfl (Ev.now _))))))
theorem rdIA_get {xs : List S38} {i : Nat} (h : i < xs.length) : rd_T38 xs (i : Int) = xs[i] := by
  unfold rd_T38
  rw [Int.toNat_natCast, List.getD_eq_getElem?_getD, List.getElem?_eq_getElem h]
  rfl
theorem rdIL_get {xs : List S81} {i : Nat} (h : i < xs.length) : rd_T81 xs (i : Int) = xs[i] := by
  unfold rd_T81
  rw [Int.toNat_natCast, List.getD_eq_getElem?_getD, List.getElem?_eq_getElem h]
  rfl
theorem eqAcctS_l (x : List S38) (h : x.length ≤ 281474976710656) (hs : ∀ s ∈ x, s.f4.length ≤ 281474976710656) : ∀ (d i : Nat), i + d = x.length → Ev (fun k => laws_eqAcctS.l0 k x x (i : Int)) true := by
  intro d
  induction d with
  | zero =>
    intro i hi
    refine evOne fun k => ?_
    simp only [laws_eqAcctS.l0]
    rw [if_neg (by omega)]
  | succ d ih =>
    intro i hi
    have hlt : i < x.length := by omega
    refine Ev.step (f := fun k => (laws_eqAcct.f k x[i].f0 x[i].f1 x[i].f2 x[i].f3 x[i].f4 x[i].f0 x[i].f1 x[i].f2 x[i].f3 x[i].f4).bind fun t => (if t = true then (laws_eqAcctS.l0 k x x ((i + 1 : Nat) : Int)) else (some false))) (fun k => ?_) (Ev.bind (eqAcct_ev _ _ _ _ _ (hs _ (List.getElem_mem hlt))) (evPos rfl (ih (i + 1) (by omega))))
    simp only [laws_eqAcctS.l0]
    rw [if_pos (by omega), if_pos (by omega), if_pos (by omega), rdIA_get hlt, w64 (by omega) (by omega)]
    rfl
theorem eqAcctS_ev (x : List S38) (h : x.length ≤ 281474976710656) (hs : ∀ s ∈ x, s.f4.length ≤ 281474976710656) : Ev (fun k => laws_eqAcctS.f k x x) true := by
  simp only [laws_eqAcctS.f]
  exact evPos trivial (eqAcctS_l x h hs x.length 0 (by omega))
theorem szAcct_eq (a : ByteArray) (b c d : Int) (l : List S128) (v : Int) (ha : a.size ≤ 9223372036854775807) (hl : l.length ≤ 9223372036854775807) (h0 : 0 ≤ v) (h1 : v ≤ 1048576) :
    ∃ r, laws_szAcct.f a b c d l v = some r ∧ (r < 0 ∨ (0 ≤ r ∧ r + (a.size : Int) + (l.length : Int) = v)) := by
  simp only [laws_szAcct.f, laws_szLeaveS.f]
  rw [w64 (x := v - (a.size : Int)) (by omega) (by omega)]
  by_cases hn : v - (a.size : Int) < 0
  · exact ⟨-1, by rw [if_pos hn], .inl (by omega)⟩
  · rw [if_neg hn, w64 (x := v - (a.size : Int) - (l.length : Int)) (by omega) (by omega)]
    by_cases hn2 : v - (a.size : Int) - (l.length : Int) < 0
    · exact ⟨-1, by rw [if_pos hn2]; rfl, .inl (by omega)⟩
    · refine ⟨v - (a.size : Int) - (l.length : Int), ?_, .inr ⟨by omega, by omega⟩⟩
      rw [if_neg hn2, Option.bind_some, if_neg hn2]
theorem szAcctS_l (x0 : List S33) (h : x0.length ≤ 9223372036854775807) (hs : ∀ s ∈ x0, s.f0.size ≤ 9223372036854775807 ∧ s.f4.length ≤ 9223372036854775807) : ∀ (d i : Nat) (v : Int), i + d = x0.length → 0 ≤ v → v ≤ 1048576 →
    ∃ r, Ev (fun k => laws_szAcctS.l0 k x0 v (i : Int)) r ∧ (r < 0 ∨ (∀ s ∈ x0.drop i, s.f0.size ≤ 1048576 ∧ s.f4.length ≤ 1048576)) := by
  intro d
  induction d with
  | zero =>
    intro i v hi h0 h1
    refine ⟨v, evOne fun k => ?_, .inr fun s hs => ?_⟩
    · simp only [laws_szAcctS.l0]
      rw [if_neg (by omega)]
    · rw [List.drop_of_length_le (by omega)] at hs
      simp at hs
  | succ d ih =>
    intro i v hi h0 h1
    have hlt : i < x0.length := by omega
    have hsz := hs _ (List.getElem_mem hlt)
    obtain ⟨r, e, hp⟩ := szAcct_eq x0[i].f0 x0[i].f1 x0[i].f2 x0[i].f3 x0[i].f4 v hsz.1 hsz.2 h0 h1
    have hopen : ∀ k, laws_szAcctS.l0 (k + 1) x0 v (i : Int) = (if r < 0 then (some (-1)) else (laws_szAcctS.l0 k x0 r ((i + 1 : Nat) : Int))) := by
      intro k
      simp only [laws_szAcctS.l0]
      rw [if_pos (by omega), if_pos (by omega), rdLA_get hlt, e, Option.bind_some, w64 (by omega) (by omega)]
      rfl
    by_cases hneg : r < 0
    · exact ⟨-1, evOne fun k => by rw [hopen, if_pos hneg], .inl (by omega)⟩
    · obtain ⟨r', hr', hp'⟩ := ih (i + 1) r (by omega) (by omega) (by omega)
      refine ⟨r', Ev.step (fun k => by rw [hopen, if_neg hneg]) hr', ?_⟩
      rcases hp' with hp' | hp'
      · exact .inl hp'
      · refine .inr ?_
        rw [drop_cons hlt]
        intro s hs
        rcases List.mem_cons.1 hs with rfl | hs
        · omega
        · exact hp' s hs
theorem szAcctS_ev (x : List S33) (h : x.length ≤ 9223372036854775807) (hs : ∀ s ∈ x, s.f0.size ≤ 9223372036854775807 ∧ s.f4.length ≤ 9223372036854775807) :
    ∃ r, Ev (fun k => laws_szAcctS.f k x 1048576) r ∧ (r < 0 ∨ (x.length ≤ 1048576 ∧ ∀ s ∈ x, s.f0.size ≤ 1048576 ∧ s.f4.length ≤ 1048576)) := by
  have hw : wrap64 (1048576 - (x.length : Int)) = 1048576 - (x.length : Int) := w64 (by omega) (by omega)
  by_cases hneg : 1048576 - (x.length : Int) < 0
  · refine ⟨-1, evVal fun k => ?_, .inl (by omega)⟩
    simp only [laws_szAcctS.f]
    rw [hw, if_pos hneg]
  · obtain ⟨r, hr, hp⟩ := szAcctS_l x h hs x.length 0 (1048576 - (x.length : Int)) (by omega) (by omega) (by omega)
    refine ⟨r, Ev.congr (fun k => ?_) hr, ?_⟩
    · simp only [laws_szAcctS.f]
      rw [hw, if_neg hneg]
      rfl
    · rcases hp with hp | hp
      · exact .inl hp
      · exact .inr ⟨by omega, by rw [List.drop_zero] at hp; exact hp⟩
/-! ### an account that is sound -/
def inr (a b c : Int) : Bool := decide (b ≤ a) && decide (a ≤ c)
def lvAt (l : List S81) (i : Nat) : Bool := inr (rd_T81 l (i : Int)).f0 1 1000000 && (inr (rd_T81 l (i : Int)).f1 0 1000 && (decide (i = 0) || decide ((rd_T81 l ((i - 1 : Nat) : Int)).f1 < (rd_T81 l (i : Int)).f1)))
def lvFrom (l : List S81) : Nat → Nat → Bool
  | 0, _ => true
  | d + 1, i => lvAt l i && lvFrom l d (i + 1)
def acctOk (a : ByteArray) (b c d : Int) (l : List S81) : Bool := nameOk a && (inr b 0 1000000 && (inr c 0 10000 && (inr d 0 1000000 && (decide (l.length ≤ 4) && lvFrom l l.length 0))))
/-! ### what accounts hold -/
def lsum (l : List S81) : Int := (l.map fun s => s.f0).sum
def asum (l : List S38) : Int := (l.map fun s => s.f1 + s.f3 + lsum s.f4).sum
theorem wadd_l (a b : Int) : wrap64 (wrap64 a + b) = wrap64 (a + b) := by unfold wrap64; omega
theorem wadd_r (a b : Int) : wrap64 (a + wrap64 b) = wrap64 (a + b) := by unfold wrap64; omega
/-! ### accounts in their order -/
end Go.Proofs.Ytbkmjhebpemfpaa.PF
