/- Giving to a name of accounts, said plainly: what impl.Credit and spec.Credit compute, and what it bears. No condition but sizes. -/
import Derived.Test.YtcbpfofkdipjhaaAQPMx0
import Derived.Test.YtcbpfofkdipjhaaAQPMx4
import Derived.Test.YtcbpfofkdipjhaaAQPMx5
import Derived.Test.YtcbpfofkdipjhaaAQPMx10
import Derived.Test.YtcbpfofkdipjhaaAQPMx11
import Derived.Test.YtcbpfofkdipjhaaAQLibEFnApplied
namespace Go.Proofs.Ytcbpfofkdipjhaa.PM
open Go.RowKit Go.Proofs.YtcbpfofkdipjhaaW.PrintWords Go.Proofs.YtcbpfofkdipjhaaW.PrintLast Go.Proofs.YtcbpfofkdipjhaaW.PrintMore Go.Proofs.Ytcbpfofkdipjhaa.Base
set_option linter.unusedVariables false
set_option linter.unusedSimpArgs false
/-! ### the order of names -/
theorem ls_irr (a : List UInt8) : Op.bytesLess a a = false := by
  have h := Str.bl_tot a a;simp at h;exact h
theorem ls_trans : ∀ a b c : List UInt8, Op.bytesLess a b = true → Op.bytesLess b c = true → Op.bytesLess a c = true
  | [], [], _, h, _ => by simp [Op.bytesLess] at h
  | [], _ :: _, [], _, h => by simp [Op.bytesLess] at h
  | [], _ :: _, _ :: _, _, _ => by simp [Op.bytesLess]
  | _ :: _, [], _, h, _ => by simp [Op.bytesLess] at h
  | _ :: _, _ :: _, [], _, h => by simp [Op.bytesLess] at h
  | x :: a, y :: b, z :: c, h1, h2 => by
    have ih := ls_trans a b c;simp only [Op.bytesLess, Bool.or_eq_true, Bool.and_eq_true, decide_eq_true_eq, beq_iff_eq, UInt8.lt_iff_toNat_lt] at h1 h2 ⊢
    rcases h1 with h1 | ⟨rfl, h1⟩
    · rcases h2 with h2 | ⟨rfl, h2⟩
      · exact .inl (by omega)
      · exact .inl h1
    · rcases h2 with h2 | ⟨rfl, h2⟩
      · exact .inl h2
      · exact .inr ⟨rfl, ih h1 h2⟩
theorem ls_not {a b : List UInt8} (h : ¬ Op.bytesLess a b = true) (hn : ¬ a = b) : Op.bytesLess b a = true := by
  have h1 := Str.bl_tot a b;rw [Bool.not_eq_true] at h
  have h2 : (a == b) = false := by rw [beq_eq_false_iff_ne]; exact hn
  rw [h, h2] at h1
  simpa using h1.symm
theorem ls_asym {a b : List UInt8} (h : Op.bytesLess a b = true) : ¬ Op.bytesLess b a = true := fun h2 => by
  have := ls_trans a b a h h2;rw [ls_irr] at this;exact absurd this (by decide)
theorem ls_ne {a b : List UInt8} (h : Op.bytesLess a b = true) : ¬ a = b := fun e => by
  rw [e, ls_irr] at h;exact absurd h (by decide)
/-! ### accounts that are sound, as a list -/
def Up (l : List S63) : Prop := l.Pairwise fun a b => Op.bytesLess a.f0.toList b.f0.toList = true
def okA (s : S63) : Prop := acctOk s.f0 s.f1 s.f2 s.f3 s.f4 = true
theorem acFrom_of {l : List S63} (h : ∀ j, j < l.length → acAt l j = true) : ∀ d i, i + d ≤ l.length → acFrom l d i = true := by
  intro d
  induction d with
  | zero => intro i _; rfl
  | succ d ih =>
    intro i hi;simp only [acFrom, Bool.and_eq_true];exact ⟨h i (by omega), ih (i + 1) (by omega)⟩
theorem acAt_iff {l : List S63} {j : Nat} (hj : j < l.length) : acAt l j = true ↔ okA l[j] ∧ (j = 0 ∨ ∃ h : j - 1 < l.length, Op.bytesLess l[j - 1].f0.toList l[j].f0.toList = true) := by
  have h1 : j - 1 < l.length := by omega
  unfold acAt okA;rw [rdIA_get hj, rdIA_get h1, Bool.and_eq_true, Bool.or_eq_true, decide_eq_true_eq]
  constructor
  · rintro ⟨a, b⟩
    exact ⟨a, b.imp id fun b => ⟨h1, b⟩⟩
  · rintro ⟨a, b⟩
    exact ⟨a, b.imp id fun ⟨_, b⟩ => b⟩
theorem up_iff (l : List S63) : Up l ↔ ∀ j, (h : j + 1 < l.length) → Op.bytesLess l[j].f0.toList l[j + 1].f0.toList = true := by
  unfold Up;rw [List.pairwise_iff_getElem]
  constructor
  · intro h j hj
    exact h j (j + 1) (by omega) hj (by omega)
  · intro h
    have : ∀ d i, (hi : i < l.length) → (hd : i + 1 + d < l.length) → Op.bytesLess l[i].f0.toList l[i + 1 + d].f0.toList = true := by
      intro d
      induction d with
      | zero => intro i hi hd; exact h i hd
      | succ d ih =>
        intro i hi hd;have h1 := ih i hi (by omega);have h2 := h (i + 1 + d) (by omega);exact ls_trans _ _ _ h1 h2
    intro i j hi hj hij;have h1 := this (j - (i + 1)) i hi (by omega)
    have e : i + 1 + (j - (i + 1)) = j := by omega
    simpa only [e] using h1
theorem acctsOk_iff (l : List S63) : acctsOk l = true ↔ (∀ s ∈ l, okA s) ∧ Up l ∧ l.length ≤ 12 ∧ wrap64 (asum l) ≤ 1000000 := by
  unfold acctsOk;rw [Bool.and_eq_true, Bool.and_eq_true, decide_eq_true_eq, decide_eq_true_eq, up_iff]
  constructor
  · rintro ⟨h, h1, h2⟩
    have ha := fun j hj => (acAt_iff hj).1 (acFrom_at h j (Nat.zero_le _) (by omega))
    refine ⟨fun s hs => ?_, fun j hj => ?_, h1, h2⟩
    · obtain ⟨j, hj, rfl⟩ := List.getElem_of_mem hs
      exact (ha j hj).1
    · rcases (ha (j + 1) hj).2 with h | ⟨_, h⟩
      · omega
      · exact h
  · rintro ⟨h0, h3, h1, h2⟩
    refine ⟨acFrom_of (fun j hj => (acAt_iff hj).2 ⟨h0 _ (List.getElem_mem hj), ?_⟩) l.length 0 (by omega), h1, h2⟩
    rcases j with _ | j
    · exact .inl rfl
    · exact .inr ⟨by omega, h3 j hj⟩
/-! ### where a name is -/
theorem at_char (l : List S63) (nm : ByteArray) : ∀ d i, i + d = l.length → (atFrom l nm d i = -1 ∧ ∀ j, i ≤ j → (h : j < l.length) → ¬ l[j].f0.toList = nm.toList) ∨ ∃ j, ∃ h : j < l.length, i ≤ j ∧ atFrom l nm d i = (j : Int) ∧ l[j].f0.toList = nm.toList ∧ ∀ j', i ≤ j' → (h' : j' < j) → ¬ (l[j']'(by omega)).f0.toList = nm.toList := by
  intro d
  induction d with
  | zero => intro i hi; exact .inl ⟨rfl, fun j h0 h => by omega⟩
  | succ d ih =>
    intro i hi
    have hlt : i < l.length := by omega
    unfold atFrom;rw [rdIA_get hlt]
    by_cases c : l[i].f0.toList = nm.toList
    · rw [if_pos (by simpa using c)]
      exact .inr ⟨i, hlt, Nat.le_refl _, rfl, c, fun j' h0 h' => by omega⟩
    · rw [if_neg (by simpa using c)]
      rcases ih (i + 1) (by omega) with ⟨e, h⟩ | ⟨j, hj, h0, e, h1, h2⟩
      · refine .inl ⟨e, fun j h0 hj => ?_⟩
        by_cases e : j = i
        · simpa only [e] using c
        · exact h j (by omega) hj
      · refine .inr ⟨j, hj, by omega, e, h1, fun j' h0 h' => ?_⟩
        by_cases e : j' = i
        · simpa only [e] using c
        · exact h2 j' (by omega) h'
def atL (l : List S63) (nm : ByteArray) : Int := atFrom l nm l.length 0
theorem at_cases (l : List S63) (nm : ByteArray) : (atL l nm = -1 ∧ ∀ s ∈ l, ¬ s.f0.toList = nm.toList) ∨ ∃ j, ∃ h : j < l.length, atL l nm = (j : Int) ∧ l[j].f0.toList = nm.toList := by
  rcases at_char l nm l.length 0 (by omega) with ⟨e, h⟩ | ⟨j, hj, _, e, h1, _⟩
  · refine .inl ⟨e, fun s hs => ?_⟩
    obtain ⟨j, hj, rfl⟩ := List.getElem_of_mem hs;exact h j (Nat.zero_le _) hj
  · exact .inr ⟨j, hj, e, h1⟩
/-- Where names rise, a name is where it is. -/
theorem at_of (l : List S63) (hu : Up l) (nm : ByteArray) (j : Nat) (hj : j < l.length) (h : l[j].f0.toList = nm.toList) : atL l nm = (j : Int) := by
  rcases at_cases l nm with ⟨_, h1⟩ | ⟨i, hi, e, h1⟩
  · exact absurd h (h1 _ (List.getElem_mem hj))
  · have hp := List.pairwise_iff_getElem.1 hu
    rcases Nat.lt_trichotomy i j with c | c | c
    · exact absurd (h1.trans h.symm) (ls_ne (hp i j hi hj c))
    · rw [e, c]
    · exact absurd (h.trans h1.symm) (ls_ne (hp j i hj hi c))
theorem iAt_eq (l : List S63) (nm : ByteArray) : impl_AcctAt.f l nm = some (atL l nm) := rfl
theorem sAcctAt_l (l : List S63) (nm : ByteArray) (h : l.length ≤ 281474976710656) : ∀ (d i : Nat), i + d = l.length → Ev (fun k => spec_AcctAt.l0 k l nm (i : Int)) (atFrom l nm d i) := by
  intro d
  induction d with
  | zero =>
    intro i hi
    refine evOne fun k => ?_
    simp only [spec_AcctAt.l0, atFrom];rw [if_neg (by omega)]
  | succ d ih =>
    intro i hi
    by_cases hq : (rd_T63 l (i : Int)).f0.toList = nm.toList
    · refine evOne fun k => ?_
      simp only [spec_AcctAt.l0, atFrom];rw [if_pos (by omega), if_pos (by omega), if_pos hq, if_pos (by simpa using hq)]
    · refine Ev.step (f := fun k => spec_AcctAt.l0 k l nm ((i + 1 : Nat) : Int)) (fun k => ?_) (evEq (ih (i + 1) (by omega)) ?_)
      · simp only [spec_AcctAt.l0]
        rw [if_pos (by omega), if_pos (by omega), if_neg hq, w64 (by omega) (by omega)];rfl
      · conv => rhs; unfold atFrom
        rw [if_neg (by simpa using hq)]
theorem sAt_ev (l : List S63) (nm : ByteArray) (h : l.length ≤ 281474976710656) : Ev (fun k => spec_AcctAt.f k l nm) (atL l nm) := sAcctAt_l l nm h l.length 0 (by omega)
/-! ### where a name would be -/
theorem pl_char (l : List S63) (nm : ByteArray) : ∀ d i, i + d = l.length → i ≤ impl_credited.pl l nm d i ∧ impl_credited.pl l nm d i ≤ l.length ∧ (∀ j, i ≤ j → (h : j < l.length) → j < impl_credited.pl l nm d i → Op.bytesLess l[j].f0.toList nm.toList = true) ∧ (∀ h : impl_credited.pl l nm d i < l.length, ¬ Op.bytesLess l[impl_credited.pl l nm d i].f0.toList nm.toList = true) := by
  intro d
  induction d with
  | zero => intro i hi; exact ⟨Nat.le_refl _, by show i ≤ _; omega, fun j h0 h h1 => absurd h1 (by show ¬ j < i; omega), fun h => absurd h (by show ¬ i < _; omega)⟩
  | succ d ih =>
    intro i hi
    have hlt : i < l.length := by omega
    have e : (l.getD i z63) = l[i] := by rw [List.getD_eq_getElem?_getD, List.getElem?_eq_getElem hlt]; rfl
    have hpl : impl_credited.pl l nm (d + 1) i = if Op.bytesLess l[i].f0.toList nm.toList = true then impl_credited.pl l nm d (i + 1) else i := by rw [impl_credited.pl, e]
    by_cases c : Op.bytesLess l[i].f0.toList nm.toList = true
    · rw [if_pos c] at hpl
      rw [hpl];obtain ⟨h0, h1, h2, h3⟩ := ih (i + 1) (by omega);refine ⟨by omega, h1, fun j hj hl hp => ?_, h3⟩
      by_cases ej : j = i
      · simpa only [ej] using c
      · exact h2 j (by omega) hl hp
    · rw [if_neg c] at hpl
      rw [hpl];exact ⟨Nat.le_refl _, by omega, fun j h0 h h1 => by omega, fun h => c⟩
def plL (l : List S63) (nm : ByteArray) : Nat := impl_credited.pl l nm l.length 0
/-- Where names rise: those ahead of the place are less, and those behind it are more. -/
theorem pl_sides (l : List S63) (hu : Up l) (nm : ByteArray) (hn : ∀ s ∈ l, ¬ s.f0.toList = nm.toList) : plL l nm ≤ l.length ∧ (∀ j, (h : j < l.length) → j < plL l nm → Op.bytesLess l[j].f0.toList nm.toList = true) ∧ (∀ j, (h : j < l.length) → plL l nm ≤ j → Op.bytesLess nm.toList l[j].f0.toList = true) := by
  obtain ⟨_, h1, h2, h3⟩ := pl_char l nm l.length 0 (by omega);refine ⟨h1, fun j h hp => h2 j (Nat.zero_le _) h hp, fun j h hp => ?_⟩;have hp' : impl_credited.pl l nm l.length 0 ≤ j := hp
  have hlt : impl_credited.pl l nm l.length 0 < l.length := by omega
  have h4 := ls_not (h3 hlt) (hn _ (List.getElem_mem hlt))
  rcases Nat.eq_or_lt_of_le hp' with e | c
  · simpa only [← e] using h4
  · exact ls_trans _ _ _ h4 (List.pairwise_iff_getElem.1 hu _ _ hlt h c)
/-! ### giving -/
def newA (nm : ByteArray) (n : Int) : S63 := ⟨nm, n, 0, 0, []⟩
def more (s : S63) (n : Int) : S63 := ⟨s.f0, wrap64 (s.f1 + n), s.f2, s.f3, s.f4⟩
def addL (l : List S63) (nm : ByteArray) (n : Int) : List S63 := if 0 ≤ atL l nm then l.set (atL l nm).toNat (more (l.getD (atL l nm).toNat z63) n) else l.take (plL l nm) ++ [newA nm n] ++ l.drop (plL l nm)
theorem credited_eq (l : List S63) (nm : ByteArray) (n : Int) (h : l.length < 1000000000000) : impl_credited.f l nm n = some (addL l nm n) := by
  unfold impl_credited.f addL;rw [if_pos h]
  by_cases c : 0 ≤ atL l nm
  · rw [if_pos c]
    exact if_pos c
  · rw [if_neg c]
    exact if_neg c
theorem addL_len (l : List S63) (nm : ByteArray) (n : Int) : (addL l nm n).length ≤ l.length + 1 := by
  unfold addL
  split
  · rw [List.length_set]; omega
  · simp only [List.length_append, List.length_take, List.length_drop, List.length_singleton]; omega
theorem addL_bd {l : List S63} {nm : ByteArray} (n : Int) (hb : ∀ s ∈ l, BdE s) (hn : nm.size ≤ 1048576) : ∀ s ∈ addL l nm n, BdE s := by
  intro s hs;unfold addL at hs
  split at hs
  · rcases List.mem_or_eq_of_mem_set hs with h | rfl
    · exact hb s h
    · rename_i c
      rcases at_cases l nm with ⟨e, _⟩ | ⟨j, hj, e, _⟩
      · omega
      · have e2 : l.getD (atL l nm).toNat z63 = l[j] := by rw [e, Int.toNat_natCast, List.getD_eq_getElem?_getD, List.getElem?_eq_getElem hj]; rfl
        rw [e2];have h9 := hb l[j] (List.getElem_mem hj);exact h9
  · rcases List.mem_append.1 hs with h | h
    · rcases List.mem_append.1 h with h | h
      · exact hb s (List.mem_of_mem_take h)
      · rw [List.mem_singleton.1 h]
        exact ⟨hn, by show 0 ≤ _; omega⟩
    · exact hb s (List.mem_of_mem_drop h)
theorem with_l (nm : ByteArray) (l : List S63) (hl : l.length ≤ 100000000) (q : Nat) (hq : q ≤ l.length) (h1 : ∀ j, (h : j < l.length) → j < q → ¬ Op.bytesLess nm.toList l[j].f0.toList = true) (h2 : ∀ j, (h : j < l.length) → q ≤ j → Op.bytesLess nm.toList l[j].f0.toList = true) :
    ∀ (d : Nat) (x : S63), q + d ≤ l.length → Ev (fun k => spec_l4With.l0 k nm (l.take (q + d) ++ [x] ++ l.drop (q + d)) ((q + d : Nat) : Int)) (l.take q ++ [newA nm 0] ++ l.drop q) := by
  have hlen : ∀ p, p ≤ l.length → ∀ x : S63, (l.take p ++ [x] ++ l.drop p).length = l.length + 1 := by
    intro p hp x;simp only [List.length_append, List.length_take, List.length_drop, List.length_singleton]; omega
  have hset : ∀ p, p ≤ l.length → ∀ x y : S63, (l.take p ++ [x] ++ l.drop p).set p y = l.take p ++ [y] ++ l.drop p := by
    intro p hp x y;rw [List.append_assoc, List.append_assoc, List.set_append_right _ _ (by rw [List.length_take]; omega), List.length_take, Nat.min_eq_left hp, Nat.sub_self];rfl
  have hend : ∀ p (hp : p ≤ l.length) (x : S63), Ev (fun k => if 0 ≤ (p : Int) then (if (p : Int) < ((l.take p ++ [x] ++ l.drop p).length : Int) then (some ((l.take p ++ [x] ++ l.drop p).set (p : Int).toNat (⟨nm, 0, 0, 0, ([] : List S65)⟩ : S63))) else none) else none) (l.take p ++ [newA nm 0] ++ l.drop p) := by
    intro p hp x;refine evPos (by omega) (evPos (by rw [hlen p hp]; omega) (evEq (Ev.now _) ?_));rw [Int.toNat_natCast, hset p hp];rfl
  intro d
  induction d with
  | zero =>
    intro x hx;have h := hend q hq x;refine Ev.step (f := fun k => if 0 ≤ (q : Int) then (if (q : Int) < ((l.take q ++ [x] ++ l.drop q).length : Int) then (some ((l.take q ++ [x] ++ l.drop q).set (q : Int).toNat (⟨nm, 0, 0, 0, ([] : List S65)⟩ : S63))) else none) else none) (fun k => ?_) h;simp only [spec_l4With.l0, Nat.add_zero]
    by_cases c : (q : Int) > 0
    · have hw : wrap64 ((q : Int) - 1) = ((q - 1 : Nat) : Int) := by rw [w64 (by omega) (by omega)]; omega
      have hlt : q - 1 < l.length := by omega
      have hg : rd_T63 (l.take q ++ [x] ++ l.drop q) ((q - 1 : Nat) : Int) = l[q - 1] := by
        rw [rdIA_get (by rw [hlen q hq]; omega), List.getElem_append_left (by simp; omega), List.getElem_append_left (by simp; omega), List.getElem_take]
      have hne := h1 (q - 1) hlt (by omega);rw [if_pos c, hw, if_pos (by omega), if_pos (by rw [hlen q hq]; omega), hg, if_neg hne]
    · rw [if_neg c]
  | succ d ih =>
    intro x hx
    have hlt : q + d < l.length := by omega
    have hi := ih l[q + d] (by omega)
    have e1 : (l.take (q + (d + 1)) ++ [x] ++ l.drop (q + (d + 1))).set (q + (d + 1)) l[q + d] = l.take (q + d) ++ [l[q + d]] ++ l.drop (q + d) := by
      rw [hset _ hx, drop_cons hlt, show q + (d + 1) = (q + d) + 1 from rfl, take_snoc hlt];simp only [List.append_assoc, List.singleton_append, List.cons_append, List.nil_append]
    refine Ev.step (fun k => ?_) hi
    have hw : wrap64 (((q + (d + 1) : Nat) : Int) - 1) = ((q + d : Nat) : Int) := by rw [w64 (by omega) (by omega)]; omega
    have hg : rd_T63 (l.take (q + (d + 1)) ++ [x] ++ l.drop (q + (d + 1))) ((q + d : Nat) : Int) = l[q + d] := by
      rw [rdIA_get (by rw [hlen _ hx]; omega), List.getElem_append_left (by simp; omega), List.getElem_append_left (by simp; omega), List.getElem_take]
    simp only [spec_l4With.l0];rw [if_pos (by omega), hw, if_pos (by omega), if_pos (by rw [hlen _ hx]; omega), hg, if_pos (h2 (q + d) hlt (by omega)), if_pos (by omega), if_pos (by rw [hlen _ hx]; omega), Int.toNat_natCast];exact congrArg (fun z => spec_l4With.l0 k nm z ((q + d : Nat) : Int)) e1
/-- Accounts with one for a name. -/
def withL (l : List S63) (nm : ByteArray) : List S63 := if 0 ≤ atL l nm then l else l.take (plL l nm) ++ [newA nm 0] ++ l.drop (plL l nm)
theorem with_ev (l : List S63) (nm : ByteArray) (hl : l.length ≤ 100000000) (hb : ∀ s ∈ l, BdE s) (hu : Up l) : Ev (fun k => spec_l4With.f k l nm) (withL l nm) := by
  simp only [spec_l4With.f];refine Ev.bind (sCopy_ev l (by omega) hb) (Ev.bind (sAt_ev l nm (by omega)) ?_);unfold withL
  by_cases c : 0 ≤ atL l nm
  · rw [if_pos c]
    exact evPos c (Ev.now _)
  · rw [if_neg c]
    have hn : ∀ s ∈ l, ¬ s.f0.toList = nm.toList := by
      rcases at_cases l nm with ⟨_, h⟩ | ⟨j, hj, e, _⟩
      · exact h
      · omega
    obtain ⟨p0, p1, p2⟩ := pl_sides l hu nm hn;refine evNeg c (evPos (by omega) ?_);simp only [Option.bind_some];have h := with_l nm l hl (plL l nm) p0 (fun j hj hp => ls_asym (p1 j hj hp)) p2 (l.length - plL l nm) (⟨(⟨#[]⟩ : ByteArray), 0, 0, 0, ([] : List S65)⟩ : S63) (by omega);rw [show plL l nm + (l.length - plL l nm) = l.length by omega, List.take_length, List.drop_length, List.append_nil] at h
    have hw : wrap64 (((l ++ [(⟨(⟨#[]⟩ : ByteArray), 0, 0, 0, ([] : List S65)⟩ : S63)]).length : Int) - 1) = (l.length : Int) := by
      rw [List.length_append, List.length_singleton, w64 (by omega) (by omega)]; omega
    rw [hw];exact h
/-! ### what giving bears -/
theorem asum_app (a b : List S63) : asum (a ++ b) = asum a + asum b := by
  unfold asum;rw [List.map_append, List.sum_append]
theorem asum_cons (x : S63) (b : List S63) : asum (x :: b) = x.f1 + x.f3 + lsum x.f4 + asum b := rfl
theorem set_split {l : List S63} {j : Nat} (hj : j < l.length) (x : S63) : l.set j x = l.take j ++ x :: l.drop (j + 1) := List.set_eq_take_append_cons_drop.trans (if_pos hj)
theorem get_split {l : List S63} {j : Nat} (hj : j < l.length) : l = l.take j ++ l[j] :: l.drop (j + 1) := by
  rw [← drop_cons hj, List.take_append_drop]
end Go.Proofs.Ytcbpfofkdipjhaa.PM
