/- What the marks on rows of strings compute. No condition but sizes. -/
import Derived.Test.YtgbbgdlenadhlaaPHx0
import Derived.Test.YtgbbgdlenadhlaaPHx8
import Derived.Test.YtgbbgdlenadhlaaLibSFnExactPathOf
namespace Go.Proofs.Ytgbbgdlenadhlaa.PH
open Go.RowKit Go.Proofs.YtgbbgdlenadhlaaW.PrintWords Go.Proofs.YtgbbgdlenadhlaaW.PrintLast Go.Proofs.YtgbbgdlenadhlaaW.PrintMore Go.Proofs.Ytgbbgdlenadhlaa.Base
set_option linter.unusedVariables false
theorem markText_l : ∀ (f : Nat) (a : Int) (x : ByteArray), 0 ≤ a → a < 10 ^ f → a ≤ 10000000000000 → x.size + f ≤ 1000 → ∃ t, Ev (fun k => laws_markText.l0 k a x) t := by
  intro f
  induction f with
  | zero =>
    intro a x h0 h1 hf hx
    have h2 : a < 1 := by simpa using h1
    refine ⟨(⟨#[109]⟩ : ByteArray) ++ x, evOne fun k => ?_⟩
    simp only [laws_markText.l0]
    rw [if_neg (by omega), if_pos (by omega)]
  | succ f ih =>
    intro a x h0 h1 hf hx
    by_cases ha : a > 0
    · have hp : (10 : Int) ^ (f + 1) = 10 ^ f * 10 := Int.pow_succ _ _
      have hq : a / 10 < 10 ^ f := Int.ediv_lt_of_lt_mul (by decide) (by rw [hp] at h1; exact h1)
      have hsz : ∀ c : Int, (strOfNums [c]).size = 1 := fun c => rfl
      have ht : Int.tdiv a 10 = a / 10 := Int.tdiv_eq_ediv_of_nonneg h0
      obtain ⟨t, hr⟩ := ih (a / 10) (strOfNums [(wrap64 (48 + (Int.tmod a 10))) % 256] ++ x) (by omega) hq (by omega) (by rw [ByteArray.size_append, hsz]; omega)
      refine ⟨t, Ev.step (f := fun k => laws_markText.l0 k (a / 10) (strOfNums [(wrap64 (48 + (Int.tmod a 10))) % 256] ++ x)) (fun k => ?_) hr⟩
      simp only [laws_markText.l0, Option.bind_some]
      rw [if_pos ha, if_pos (by rw [hsz]; omega), ht, w64 (by omega) (by omega)]
    · refine ⟨(⟨#[109]⟩ : ByteArray) ++ x, evOne fun k => ?_⟩
      simp only [laws_markText.l0]
      rw [if_neg ha, if_pos (by omega)]
theorem markText_ex (a : Int) (h0 : 0 ≤ a) (h1 : a ≤ 10000000000000) : ∃ t, Ev (fun k => laws_markText.f k a) t := by
  by_cases ha : a ≤ 0
  · refine ⟨(⟨#[109, 48]⟩ : ByteArray), evVal fun k => ?_⟩
    simp only [laws_markText.f]
    rw [if_pos ha]
  · obtain ⟨t, ht⟩ := markText_l 18 a (⟨#[]⟩ : ByteArray) h0 (by omega) h1 (by decide)
    refine ⟨t, Ev.congr (fun k => ?_) ht⟩
    simp only [laws_markText.f]
    rw [if_neg ha]
open scoped Classical in
noncomputable def mtext (a : Int) : ByteArray := if h : ∃ t, Ev (fun k => laws_markText.f k a) t then Classical.choose h else ⟨#[]⟩
theorem markText_ev (a : Int) (h0 : 0 ≤ a) (h1 : a ≤ 10000000000000) : Ev (fun k => laws_markText.f k a) (mtext a) := by
  have h := markText_ex a h0 h1
  unfold mtext
  rw [dif_pos h]
  exact Classical.choose_spec h
noncomputable def marks (xs : List ByteArray) (m : Int) : List ByteArray := (List.range xs.length).map fun (j : Nat) => mtext (m + (j : Int))
theorem marks_length (xs : List ByteArray) (m : Int) : (marks xs m).length = xs.length := by simp [marks]
theorem markStringS_l (n : Nat) (m : Int) (hm : 0 ≤ m ∧ m ≤ 1000000000000) (h : n ≤ 281474976) : ∀ (d i : Nat) (x : List ByteArray), i + d = n → x.length = n →
    Ev (fun k => laws_markStringS.l0 k x (m + (i : Int)) (i : Int)) (m + (n : Int), x.take i ++ ((List.range d).map fun (j : Nat) => mtext (m + ((i + j : Nat) : Int)))) := by
  intro d
  induction d with
  | zero =>
    intro i x hi hl
    refine evOne fun k => ?_
    simp only [laws_markStringS.l0]
    rw [if_neg (by omega), List.take_of_length_le (by omega)]
    simp
    omega
  | succ d ih =>
    intro i x hi hl
    have hlt : i < x.length := by omega
    have h1 := ih (i + 1) (x.set i (mtext (m + (i : Int)))) (by omega) (by simp; exact hl)
    have h2 : (x.set i (mtext (m + (i : Int)))).take (i + 1) ++ ((List.range d).map fun (j : Nat) => mtext (m + ((i + 1 + j : Nat) : Int))) = x.take i ++ ((List.range (d + 1)).map fun (j : Nat) => mtext (m + ((i + j : Nat) : Int))) := by
      rw [take_snoc (by simp; omega), List.getElem_set_self, List.append_assoc, List.take_set_of_le (Nat.le_refl _), List.range_succ_eq_map]
      simp only [List.map_cons, List.map_map, List.singleton_append, Nat.add_zero]
      congr 2
      apply List.map_congr_left
      intro j _
      simp only [Function.comp_apply, Nat.succ_eq_add_one]
      congr 3
      omega
    rw [h2] at h1
    refine Ev.step (f := fun k => (laws_markText.f k (m + (i : Int))).bind fun t => (if 0 ≤ (i : Int) then laws_markStringS.l0 k (x.set (i : Int).toNat t) (m + ((i + 1 : Nat) : Int)) ((i + 1 : Nat) : Int) else none)) (fun k => ?_) (Ev.bind (markText_ev (m + (i : Int)) (by omega) (by omega)) (evPos (by omega) (by rw [Int.toNat_natCast]; exact h1)))
    simp only [laws_markStringS.l0]
    rw [if_pos (by omega), w64 (by omega) (by omega), w64 (by omega) (by omega), show m + (i : Int) + 1 = m + ((i + 1 : Nat) : Int) by omega]
    rfl
theorem markStringS_ev (x : List ByteArray) (m : Int) (hm : 0 ≤ m ∧ m ≤ 1000000000000) (h : x.length ≤ 281474976) : Ev (fun k => laws_markStringS.f k x m) (m + (x.length : Int), marks x m) := by
  have h1 := markStringS_l x.length m hm h x.length 0 x (by omega) rfl
  refine Ev.congr (f := fun k => laws_markStringS.l0 k x (m + ((0 : Nat) : Int)) ((0 : Nat) : Int)) (fun k => by simp [laws_markStringS.f]) (evEq h1 ?_)
  simp [marks]
theorem heldStringS_l (m : Int) (hm : 0 ≤ m ∧ m ≤ 1000000000000) (x : List ByteArray) (h : x.length ≤ 281474976) (hx : ∀ j, j < x.length → rdOf ByteArray.empty x (j : Int) = mtext (m + (j : Int))) : ∀ (d i : Nat), i + d = x.length →
    Ev (fun k => laws_heldStringS.l0 k x (m + (i : Int)) (i : Int)) (m + (x.length : Int)) := by
  intro d
  induction d with
  | zero =>
    intro i hi
    refine evOne fun k => ?_
    simp only [laws_heldStringS.l0]
    rw [if_neg (by omega)]
    simp
    omega
  | succ d ih =>
    intro i hi
    have hlt : i < x.length := by omega
    refine Ev.step (f := fun k => (laws_markText.f k (m + (i : Int))).bind fun t => (if (rdOf ByteArray.empty x (i : Int)).toList = t.toList then laws_heldStringS.l0 k x (m + ((i + 1 : Nat) : Int)) ((i + 1 : Nat) : Int) else some (-1))) (fun k => ?_) (Ev.bind (markText_ev (m + (i : Int)) (by omega) (by omega)) (evPos (by rw [hx i hlt]) (ih (i + 1) (by omega))))
    simp only [laws_heldStringS.l0]
    rw [if_pos (by omega), if_pos (by omega), w64 (by omega) (by omega), w64 (by omega) (by omega), show m + (i : Int) + 1 = m + ((i + 1 : Nat) : Int) by omega]
    rfl
theorem heldStringS_ev (x : List ByteArray) (m : Int) (hm : 0 ≤ m ∧ m ≤ 1000000000000) (h : x.length ≤ 281474976) : Ev (fun k => laws_heldStringS.f k (marks x m) m) (m + (x.length : Int)) := by
  have hl := marks_length x m
  have h1 := heldStringS_l m hm (marks x m) (by omega) (fun j hj => by
    rw [rdS_get hj]
    simp [marks]) (marks x m).length 0 (by omega)
  refine Ev.congr (f := fun k => laws_heldStringS.l0 k (marks x m) (m + ((0 : Nat) : Int)) ((0 : Nat) : Int)) (fun k => by simp [laws_heldStringS.f]) (evEq h1 (by rw [hl]))
end Go.Proofs.Ytgbbgdlenadhlaa.PH
