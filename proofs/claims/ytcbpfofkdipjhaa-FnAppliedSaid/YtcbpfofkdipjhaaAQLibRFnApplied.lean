/- Orders done on a ledger, said plainly: what impl.Apply and spec.Apply compute. No condition but sizes. -/
import Derived.Test.YtcbpfofkdipjhaaAQPMx0
import Derived.Test.YtcbpfofkdipjhaaAQPMx4
import Derived.Test.YtcbpfofkdipjhaaAQPMx5
import Derived.Test.YtcbpfofkdipjhaaAQPMx6
import Derived.Test.YtcbpfofkdipjhaaAQPMx7
import Derived.Test.YtcbpfofkdipjhaaAQPMx10
import Derived.Test.YtcbpfofkdipjhaaAQPMx12
import Derived.Test.YtcbpfofkdipjhaaAQLibQFnApplied
namespace Go.Proofs.Ytcbpfofkdipjhaa.PM
open Go.RowKit Go.Proofs.YtcbpfofkdipjhaaW.PrintWords Go.Proofs.YtcbpfofkdipjhaaW.PrintLast Go.Proofs.YtcbpfofkdipjhaaW.PrintMore Go.Proofs.Ytcbpfofkdipjhaa.Base
set_option linter.unusedVariables false
set_option linter.unusedSimpArgs false
/-! ### leaves -/
def LvUp (l : List S65) : Prop := l.Pairwise fun a b => a.f1 < b.f1
def lvInto (n e : Int) : List S65 → List S65
  | [] => [⟨n, e⟩]
  | x :: t => if x.f1 = e then ⟨wrap64 (x.f0 + n), x.f1⟩ :: t else if e < x.f1 then ⟨n, e⟩ :: x :: t else x :: lvInto n e t
theorem lvFind_cons (x : S65) (t : List S65) (e : Int) : ∀ d i, lvFind (x :: t) e d (i + 1) = (lvFind t e d i).map (· + 1)
  | 0, i => rfl
  | d + 1, i => by
    unfold lvFind;rw [show (x :: t).getD (i + 1) z65 = t.getD i z65 from List.getD_cons_succ]
    split
    · rfl
    · exact lvFind_cons x t e d (i + 1)
theorem lvPl_cons (x : S65) (t : List S65) (e : Int) : ∀ d i, lvPl (x :: t) e d (i + 1) = lvPl t e d i + 1
  | 0, i => rfl
  | d + 1, i => by
    unfold lvPl;rw [show (x :: t).getD (i + 1) z65 = t.getD i z65 from List.getD_cons_succ]
    split
    · exact lvPl_cons x t e d (i + 1)
    · rfl
theorem lvFind_no {t : List S65} {e : Int} (h : ∀ y ∈ t, ¬ y.f1 = e) : ∀ d i, i + d ≤ t.length → lvFind t e d i = none
  | 0, i, _ => rfl
  | d + 1, i, hi => by
    unfold lvFind
    have hlt : i < t.length := by omega
    have e1 : t.getD i z65 = t[i] := by rw [List.getD_eq_getElem?_getD, List.getElem?_eq_getElem hlt]; rfl
    rw [e1, if_neg (h _ (List.getElem_mem hlt))];exact lvFind_no h d (i + 1) (by omega)
theorem leavesL_into (n e : Int) : ∀ (l : List S65), LvUp l → leavesL l n e = lvInto n e l
  | [], _ => rfl
  | x :: t, hu => by
    have hu' := List.pairwise_cons.1 hu;have ih := leavesL_into n e t hu'.2;unfold leavesL at ih ⊢
    have hf : lvFind (x :: t) e (x :: t).length 0 = if x.f1 = e then some 0 else (lvFind t e t.length 0).map (· + 1) := by
      rw [List.length_cons, lvFind, lvFind_cons];rfl
    have hp : lvPl (x :: t) e (x :: t).length 0 = if x.f1 < e then lvPl t e t.length 0 + 1 else 0 := by
      rw [List.length_cons, lvPl, lvPl_cons];rfl
    rw [hf, hp, lvInto]
    by_cases c : x.f1 = e
    · rw [if_pos c, if_pos c]
      rfl
    · rw [if_neg c, if_neg c]
      by_cases c2 : e < x.f1
      · rw [if_pos c2, lvFind_no (fun y hy => by have := hu'.1 y hy; omega) t.length 0 (by omega), if_neg (by omega)]
        rfl
      · rw [if_neg c2, if_pos (by omega), ← ih]
        cases lvFind t e t.length 0 with
        | none => rfl
        | some i => rfl
theorem lvInto_len (n e : Int) : ∀ (l : List S65), (lvInto n e l).length ≤ l.length + 1
  | [] => Nat.le_refl _
  | x :: t => by
    unfold lvInto;have := lvInto_len n e t
    split
    · simp
    · split
      · simp
      · simp only [List.length_cons]; omega
theorem lvInto_sum (n e : Int) (hn : 0 ≤ n ∧ n ≤ 1000000) : ∀ (l : List S65), (∀ x ∈ l, 1 ≤ x.f0 ∧ x.f0 ≤ 1000000) → lsum (lvInto n e l) = lsum l + n
  | [], _ => by simp [lvInto, lsum]
  | x :: t, h => by
    have hx := h x (List.mem_cons_self);have ih := lvInto_sum n e hn t (fun y hy => h y (List.mem_cons_of_mem _ hy))
    have lc : ∀ (y : S65) (u : List S65), lsum (y :: u) = y.f0 + lsum u := fun y u => by simp [lsum]
    unfold lvInto
    split
    · rw [lc, lc]
      show wrap64 (x.f0 + n) + lsum t = _
      rw [w64 (by omega) (by omega)]
      omega
    · split
      · rw [lc, lc]
        show n + _ = _
        omega
      · rw [lc, lc, ih]
        omega
theorem lvUp_of {l : List S65} (h : lvFrom l l.length 0 = true) : LvUp l := by
  have hs : ∀ j, (hj : j + 1 < l.length) → l[j].f1 < l[j + 1].f1 := by
    intro j hj;have h1 := lvFrom_at h (j + 1) (by omega) (by omega);unfold lvAt at h1;rw [Nat.add_sub_cancel, rdIL_get hj, rdIL_get (show j < l.length by omega)] at h1;simp only [Bool.and_eq_true, Bool.or_eq_true, decide_eq_true_eq] at h1
    rcases h1.2.2 with c | c
    · omega
    · exact c
  unfold LvUp;rw [List.pairwise_iff_getElem]
  have : ∀ d i, (hi : i < l.length) → (hd : i + 1 + d < l.length) → l[i].f1 < l[i + 1 + d].f1 := by
    intro d
    induction d with
    | zero => intro i hi hd; exact hs i hd
    | succ d ih =>
      intro i hi hd;have h1 := ih i hi (by omega);have h2 := hs (i + 1 + d) (by omega);exact Int.lt_trans h1 h2
  intro i j hi hj hij;have h1 := this (j - (i + 1)) i hi (by omega)
  have e : i + 1 + (j - (i + 1)) = j := by omega
  simpa only [e] using h1
theorem sLeaveT_l (l : List S65) (hl : l.length ≤ 1048576) (n e : Int) : ∀ (d i : Nat) (out : List S65), i + d = l.length → out.length ≤ i + 2 → Ev (fun k => spec_l6Leave.l0 k l n e out true (i : Int)) (out ++ l.drop i) := by
  intro d
  induction d with
  | zero =>
    intro i out hi ho
    refine evOne fun k => ?_
    have e1 : ¬ (i : Int) < (l.length : Int) := by omega
    rw [List.drop_of_length_le (by omega), List.append_nil];simp only [spec_l6Leave.l0, if_neg e1, if_true]
  | succ d ih =>
    intro i out hi ho
    have hlt : i < l.length := by omega
    have hw : wrap64 ((i : Int) + 1) = ((i + 1 : Nat) : Int) := by rw [w64 (by omega) (by omega)]; omega
    have e1 : (i : Int) < (l.length : Int) := by omega
    have e0 : 0 ≤ (i : Int) := by omega
    have eo : out.length < 8796093022208 := by omega
    rw [drop_cons hlt];have h := ih (i + 1) (out ++ [l[i]]) (by omega) (by simp; omega);rw [List.append_assoc] at h;refine evStep2 (f := fun k => spec_l6Leave.l0 k l n e (out ++ [l[i]]) true ((i + 1 : Nat) : Int)) (fun k => ?_) h;simp only [spec_l6Leave.l0, spec_l6Leave.j1, if_pos e1, if_pos e0, if_pos eo, rdIL_get hlt, hw, Bool.false_eq_true, if_false, if_true]
theorem sLeave_l (l : List S65) (hl : l.length ≤ 1048576) (n e : Int) : ∀ (d i : Nat) (out : List S65), i + d = l.length → out.length ≤ i + 1 → Ev (fun k => spec_l6Leave.l0 k l n e out false (i : Int)) (out ++ lvInto n e (l.drop i)) := by
  intro d
  induction d with
  | zero =>
    intro i out hi ho
    refine evOne fun k => ?_
    have e1 : ¬ (i : Int) < (l.length : Int) := by omega
    have eo : out.length < 8796093022208 := by omega
    rw [List.drop_of_length_le (by omega)];simp only [spec_l6Leave.l0, if_neg e1, if_pos eo, Bool.false_eq_true, if_false, lvInto]
  | succ d ih =>
    intro i out hi ho
    have hlt : i < l.length := by omega
    have hw : wrap64 ((i : Int) + 1) = ((i + 1 : Nat) : Int) := by rw [w64 (by omega) (by omega)]; omega
    have e1 : (i : Int) < (l.length : Int) := by omega
    have e0 : 0 ≤ (i : Int) := by omega
    have eo : out.length < 8796093022208 := by omega
    rw [drop_cons hlt, lvInto]
    by_cases c1 : l[i].f1 = e
    · rw [if_pos c1]
      have cb : (l[i].f1 == e) = true := beq_iff_eq.mpr c1;have h := sLeaveT_l l hl n e d (i + 1) (out ++ [⟨wrap64 (l[i].f0 + n), l[i].f1⟩]) (by omega) (by simp; omega);rw [List.append_assoc] at h;refine evStep2 (f := fun k => spec_l6Leave.l0 k l n e (out ++ [⟨wrap64 (l[i].f0 + n), l[i].f1⟩]) true ((i + 1 : Nat) : Int)) (fun k => ?_) h;simp only [spec_l6Leave.l0, spec_l6Leave.j1, if_pos e1, if_pos e0, if_pos eo, rdIL_get hlt, hw, Bool.false_eq_true, if_false, if_true, cb]
    · rw [if_neg c1]
      have cb : (l[i].f1 == e) = false := beq_eq_false_iff_ne.mpr c1
      by_cases c2 : e < l[i].f1
      · rw [if_pos c2]
        have eo2 : (out ++ [(⟨n, e⟩ : S65)]).length < 8796093022208 := by rw [List.length_append, List.length_singleton]; omega
        have c3 : l[i].f1 > e := c2;have h := sLeaveT_l l hl n e d (i + 1) (out ++ [⟨n, e⟩] ++ [l[i]]) (by omega) (by simp; omega);refine evStep2 (f := fun k => spec_l6Leave.l0 k l n e (out ++ [⟨n, e⟩] ++ [l[i]]) true ((i + 1 : Nat) : Int)) (fun k => ?_) (evEq h (by simp only [List.append_assoc, List.cons_append, List.nil_append]));simp only [spec_l6Leave.l0, spec_l6Leave.j1, if_pos e1, if_pos e0, if_pos eo, rdIL_get hlt, hw, Bool.false_eq_true, if_false, cb, if_pos c3, Option.bind_some, if_pos eo2]
      · rw [if_neg c2]
        have c3 : ¬ l[i].f1 > e := c2;have h := ih (i + 1) (out ++ [l[i]]) (by omega) (by simp; omega);rw [List.append_assoc] at h;refine evStep2 (f := fun k => spec_l6Leave.l0 k l n e (out ++ [l[i]]) false ((i + 1 : Nat) : Int)) (fun k => ?_) h;simp only [spec_l6Leave.l0, spec_l6Leave.j1, if_pos e1, if_pos e0, if_pos eo, rdIL_get hlt, hw, Bool.false_eq_true, if_false, cb, if_neg c3]
theorem sLeave_ev (l : List S65) (hl : l.length ≤ 1048576) (n e : Int) : Ev (fun k => spec_l6Leave.f k l n e) (lvInto n e l) := by
  have h := sLeave_l l hl n e l.length 0 [] (by omega) (by simp);rw [List.nil_append, List.drop_zero] at h;exact h
/-! ### an order done -/
theorem getD_get {l : List S63} {j : Nat} (hj : j < l.length) : l.getD j z63 = l[j] := by
  rw [List.getD_eq_getElem?_getD, List.getElem?_eq_getElem hj];rfl
theorem up_names {l m : List S63} (h : l.map (fun s => s.f0) = m.map (fun s => s.f0)) (hu : Up l) : Up m := by
  have h1 : (l.map (fun s => s.f0)).Pairwise (fun a b => Op.bytesLess a.toList b.toList = true) := List.pairwise_map.2 hu;rw [h] at h1;exact List.pairwise_map.1 h1
theorem names_set {l : List S63} {j : Nat} {s : S63} (hj : j < l.length) (hs : s.f0 = l[j].f0) : (l.set j s).map (fun s => s.f0) = l.map (fun s => s.f0) := by
  rw [List.map_set];refine List.ext_getElem (by simp) (fun i h1 h2 => ?_)
  by_cases e : j = i
  · subst e
    rw [List.getElem_set_self, List.getElem_map];exact hs
  · rw [List.getElem_set_ne e]
def hasL (s : S63) (kind : Int) : Int := if kind = 3 then s.f3 else s.f1
def mid1 (l : List S63) (j : Nat) (am : Int) : List S63 := setF (impl_done.n1 l j) j (wrap64 (((impl_done.n1 l j).getD j z63).f1 - am))
def mid3 (l : List S63) (j : Nat) (am : Int) : List S63 := setS (impl_done.n1 l j) j (wrap64 (((impl_done.n1 l j).getD j z63).f3 - am))
def doL (ep : Int) (l : List S63) (j : Nat) (kind : Int) (tt : ByteArray) (am : Int) : List S63 :=
  if kind = 1 then addL (mid1 l j am) tt am
  else if kind = 2 then setS (mid1 l j am) j (wrap64 (((mid1 l j am).getD j z63).f3 + am))
  else setL (mid3 l j am) j (lvInto am (wrap64 (ep + 2)) ((mid3 l j am).getD j z63).f4)
theorem with_key (l : List S63) (hu : Up l) (nm : ByteArray) (n : Int) (hn0 : 0 ≤ n ∧ n ≤ 1000000) : 0 ≤ atL (withL l nm) nm ∧ atL (withL l nm) nm < ((withL l nm).length : Int) ∧ (withL l nm).set (atL (withL l nm) nm).toNat ⟨((withL l nm).getD (atL (withL l nm) nm).toNat z63).f0, wrap64 (((withL l nm).getD (atL (withL l nm) nm).toNat z63).f1 + n), ((withL l nm).getD (atL (withL l nm) nm).toNat z63).f2, ((withL l nm).getD (atL (withL l nm) nm).toNat z63).f3, ((withL l nm).getD (atL (withL l nm) nm).toNat z63).f4⟩ = addL l nm n := by
  rcases at_cases l nm with ⟨e, hno⟩ | ⟨j, hj, e, hk⟩
  · obtain ⟨p0, p1, p2⟩ := pl_sides l hu nm hno
    have ew : withL l nm = l.take (plL l nm) ++ [newA nm 0] ++ l.drop (plL l nm) := by unfold withL; rw [if_neg (by omega)]
    have eA : addL l nm n = l.take (plL l nm) ++ [newA nm n] ++ l.drop (plL l nm) := by unfold addL; rw [if_neg (by omega)]
    have hlen : (l.take (plL l nm) ++ [newA nm 0] ++ l.drop (plL l nm)).length = l.length + 1 := by
      simp only [List.length_append, List.length_take, List.length_drop, List.length_singleton]; omega
    have hgp : ∀ (x : S63) (h : plL l nm < (l.take (plL l nm) ++ [x] ++ l.drop (plL l nm)).length), (l.take (plL l nm) ++ [x] ++ l.drop (plL l nm))[plL l nm] = x := by
      intro x h;rw [List.getElem_append_left (by simp; omega), List.getElem_append_right (by simp; omega)];simp
    have eat : atL (withL l nm) nm = (plL l nm : Int) := by
      rw [ew];refine at_of _ ?_ nm (plL l nm) (by omega) (by rw [hgp]; rfl);unfold Up;rw [List.append_assoc, List.pairwise_append, List.singleton_append, List.pairwise_cons];refine ⟨hu.take, ⟨fun b hb => ?_, hu.drop⟩, fun a ha b hb => ?_⟩
      · obtain ⟨j, hj, rfl⟩ := List.getElem_of_mem hb
        rw [List.getElem_drop];exact p2 _ _ (by omega)
      · obtain ⟨i, hi, rfl⟩ := List.getElem_of_mem ha
        rw [List.length_take] at hi;rw [List.getElem_take];have hlt := p1 i (by omega) (by omega)
        rcases List.mem_cons.1 hb with rfl | hb
        · exact hlt
        · obtain ⟨j, hj, rfl⟩ := List.getElem_of_mem hb
          rw [List.getElem_drop];exact ls_trans _ _ _ hlt (p2 _ _ (by omega))
    rw [eat, ew, eA, Int.toNat_natCast];refine ⟨by omega, by omega, ?_⟩
    have eg : (l.take (plL l nm) ++ [newA nm 0] ++ l.drop (plL l nm)).getD (plL l nm) z63 = newA nm 0 := by
      rw [List.getD_eq_getElem?_getD, List.getElem?_eq_getElem (by omega), hgp];rfl
    rw [eg, List.append_assoc, List.append_assoc, List.set_append_right _ _ (by rw [List.length_take]; omega), List.length_take, Nat.min_eq_left p0, Nat.sub_self]
    show l.take (plL l nm) ++ (⟨nm, wrap64 (0 + n), 0, 0, []⟩ : S63) :: l.drop (plL l nm) = _
    rw [Int.zero_add, w64 (by omega) (by omega)];rfl
  · have ew : withL l nm = l := by unfold withL; rw [if_pos (by omega)]
    rw [ew];refine ⟨by omega, by omega, ?_⟩;unfold addL;rw [if_pos (show 0 ≤ atL l nm by omega)];rfl
theorem set_get {l : List S63} {j : Nat} (hj : j < l.length) (s : S63) : (l.set j s).getD j z63 = s := by
  rw [getD_get (by rw [List.length_set]; exact hj), List.getElem_set_self]
theorem bd_set {l : List S63} {j : Nat} {s : S63} (hb : ∀ s ∈ l, BdE s) (hs : BdE s) : ∀ x ∈ l.set j s, BdE x := fun x hx => (List.mem_or_eq_of_mem_set hx).elim (hb x) (fun e => e ▸ hs)
theorem n1_eq {l : List S63} {j : Nat} (hj : j < l.length) : impl_done.n1 l j = l.set j ⟨l[j].f0, l[j].f1, wrap64 (l[j].f2 + 1), l[j].f3, l[j].f4⟩ := by
  unfold impl_done.n1 setN;rw [getD_get hj]
theorem mid1_eq {l : List S63} {j : Nat} (hj : j < l.length) (am : Int) : mid1 l j am = l.set j ⟨l[j].f0, wrap64 (l[j].f1 - am), wrap64 (l[j].f2 + 1), l[j].f3, l[j].f4⟩ := by
  unfold mid1 setF;rw [n1_eq hj, set_get hj, List.set_set]
theorem mid3_eq {l : List S63} {j : Nat} (hj : j < l.length) (am : Int) : mid3 l j am = l.set j ⟨l[j].f0, l[j].f1, wrap64 (l[j].f2 + 1), wrap64 (l[j].f3 - am), l[j].f4⟩ := by
  unfold mid3 setS;rw [n1_eq hj, set_get hj, List.set_set]
theorem do2_eq {l : List S63} {j : Nat} (hj : j < l.length) (am : Int) : setS (mid1 l j am) j (wrap64 (((mid1 l j am).getD j z63).f3 + am)) = l.set j ⟨l[j].f0, wrap64 (l[j].f1 - am), wrap64 (l[j].f2 + 1), wrap64 (l[j].f3 + am), l[j].f4⟩ := by
  unfold setS;rw [mid1_eq hj, set_get hj, List.set_set]
theorem do3_eq {l : List S63} {j : Nat} (hj : j < l.length) (am e : Int) : setL (mid3 l j am) j (lvInto am e ((mid3 l j am).getD j z63).f4) = l.set j ⟨l[j].f0, l[j].f1, wrap64 (l[j].f2 + 1), wrap64 (l[j].f3 - am), lvInto am e l[j].f4⟩ := by
  unfold setL withLv;rw [mid3_eq hj, set_get hj, List.set_set]
/-- An order of the account at j, done. -/
theorem doL_eq {l : List S63} {j : Nat} (hj : j < l.length) (ep kind : Int) (tt : ByteArray) (am : Int) : doL ep l j kind tt am =
    if kind = 1 then addL (l.set j ⟨l[j].f0, wrap64 (l[j].f1 - am), wrap64 (l[j].f2 + 1), l[j].f3, l[j].f4⟩) tt am
    else if kind = 2 then l.set j ⟨l[j].f0, wrap64 (l[j].f1 - am), wrap64 (l[j].f2 + 1), wrap64 (l[j].f3 + am), l[j].f4⟩
    else l.set j ⟨l[j].f0, l[j].f1, wrap64 (l[j].f2 + 1), wrap64 (l[j].f3 - am), lvInto am (wrap64 (ep + 2)) l[j].f4⟩ := by
  unfold doL;rw [mid1_eq hj, do3_eq hj, ← mid1_eq hj, do2_eq hj, mid1_eq hj]
theorem doL_len {l : List S63} {j : Nat} (hj : j < l.length) (ep kind : Int) (tt : ByteArray) (am : Int) : (doL ep l j kind tt am).length ≤ l.length + 1 := by
  rw [doL_eq hj]
  split
  · refine Nat.le_trans (addL_len _ _ _) ?_
    rw [List.length_set]
    omega
  · split
    · rw [List.length_set]; omega
    · rw [List.length_set]; omega
theorem doL_bd {l : List S63} {j : Nat} (hj : j < l.length) (hb : ∀ s ∈ l, BdE s) (h4 : l[j].f4.length ≤ 4) (ep kind : Int) {tt : ByteArray} (ht : tt.size ≤ 1048576) (am : Int) : ∀ s ∈ doL ep l j kind tt am, BdE s := by
  have hs := hb _ (List.getElem_mem hj);rw [doL_eq hj]
  split
  · exact addL_bd am (bd_set hb hs) ht
  · split
    · exact bd_set hb hs
    · refine bd_set hb ⟨hs.1, ?_⟩
      have := lvInto_len am (wrap64 (ep + 2)) l[j].f4
      show (lvInto am (wrap64 (ep + 2)) l[j].f4).length ≤ _
      omega
theorem iDone_eq {l : List S63} {j : Nat} (hj : j < l.length) (hl : l.length ≤ 100000000) (hb : ∀ s ∈ l, BdE s) (hu : LvUp l[j].f4) (ep : Int) {kind : Int} (hk : kind = 1 ∨ kind = 2 ∨ kind = 3) (tt : ByteArray) (am : Int) : impl_done.f ep l j kind tt am = some (doL ep l j kind tt am) := by
  have hs := (hb _ (List.getElem_mem hj)).2;unfold impl_done.f
  by_cases k1 : kind = 1
  · rw [if_pos k1]
    unfold doL;rw [if_pos k1];refine credited_eq _ _ _ ?_
    show (mid1 l j am).length < _
    rw [mid1_eq hj, List.length_set]
    omega
  · rw [if_neg k1]
    by_cases k2 : kind = 2
    · rw [if_pos k2]
      unfold doL;rw [if_neg k1, if_pos k2];rfl
    · rw [if_neg k2, if_pos (by omega)]
      have e4 : ((mid3 l j am).getD j z63).f4 = l[j].f4 := by rw [mid3_eq hj, set_get hj]
      have e5 : leavesL ((mid3 l j am).getD j z63).f4 am (wrap64 (ep + 2)) = lvInto am (wrap64 (ep + 2)) ((mid3 l j am).getD j z63).f4 := by rw [e4]; exact leavesL_into _ _ _ hu
      unfold doL;rw [if_neg k1, if_neg k2, ← e5];refine if_pos ?_
      show ((mid3 l j am).getD j z63).f4.length < _
      rw [e4]
      omega
theorem sDo_ev {l : List S63} {j : Nat} (hj : j < l.length) (hl : l.length ≤ 90000000) (hb : ∀ s ∈ l, BdE s) (hu : Up l) (ep kind : Int) (fr tt : ByteArray) {am : Int} (ha : 0 ≤ am ∧ am ≤ 1000000) (no : Int) : Ev (fun k => spec_l6Do.f k ep l kind fr tt am no (j : Int)) (ep, doL ep l j kind tt am) := by
  have hs := hb _ (List.getElem_mem hj);simp only [spec_l6Do.f];refine Ev.bind (sCopyL_ev ep l (by omega) hb) (evPos ⟨rfl, by omega, show (j : Int) < (l.length : Int) by omega⟩ ?_);rw [Int.toNat_natCast];simp only [spec_l6Do.g];unfold doL
  by_cases k1 : kind = 1
  · rw [if_pos k1]
    have hm := mid1_eq hj am
    have hbm : ∀ s ∈ mid1 l j am, BdE s := by rw [hm]; exact bd_set hb hs
    have hum : Up (mid1 l j am) := up_names (by rw [hm]; exact (names_set (s := ⟨l[j].f0, wrap64 (l[j].f1 - am), wrap64 (l[j].f2 + 1), l[j].f3, l[j].f4⟩) hj rfl).symm) hu
    have hlm : (mid1 l j am).length = l.length := by rw [hm, List.length_set]
    have hw := with_ev (mid1 l j am) tt (by omega) hbm hum;obtain ⟨k0, k1', k2⟩ := with_key (mid1 l j am) hum tt am ha
    have hlw : (withL (mid1 l j am) tt).length ≤ l.length + 1 := by
      unfold withL
      split
      · omega
      · simp only [List.length_append, List.length_take, List.length_drop, List.length_singleton]; omega
    have hat := sAt_ev (withL (mid1 l j am) tt) tt (by omega);refine evPos k1 (Ev.bind hw (Ev.bind hat (evPos ⟨k0, k1'⟩ (evEq (Ev.now _) ?_))));rw [← k2];rfl
  · rw [if_neg k1]
    refine evNeg k1 ?_
    by_cases k2 : kind = 2
    · rw [if_pos k2]
      exact evPos k2 (Ev.now _)
    · rw [if_neg k2]
      have e4 : ((mid3 l j am).getD j z63).f4 = l[j].f4 := by rw [mid3_eq hj, set_get hj]
      exact evNeg k2 (Ev.bind (sLeave_ev ((mid3 l j am).getD j z63).f4 (by rw [e4]; exact hs.2) am (wrap64 (ep + 2))) (Ev.now _))
/-! ### an order -/
def applyL (ep : Int) (l : List S63) (kind : Int) (fr tt : ByteArray) (am no : Int) : Int × List S63 × Int :=
  if (ledgerOk ep l && txOk kind fr tt am no) = true then
    if atL l fr < 0 then (ep, l, 2)
    else if no = (l.getD (atL l fr).toNat z63).f2 then
      if hasL (l.getD (atL l fr).toNat z63) kind < am then (ep, l, 4)
      else if ledgerOk ep (doL ep l (atL l fr).toNat kind tt am) = true then (ep, doL ep l (atL l fr).toNat kind tt am, 0) else (ep, l, 5)
    else (ep, l, 3)
  else (ep, l, 1)
theorem txOk_kind {kind : Int} {fr tt : ByteArray} {am no : Int} (h : txOk kind fr tt am no = true) : (kind = 1 ∨ kind = 2 ∨ kind = 3) ∧ (1 ≤ am ∧ am ≤ 1000000) ∧ (0 ≤ no ∧ no ≤ 10000) ∧ (kind = 1 → nameOk tt = true) := by
  unfold txOk at h
  by_cases k1 : kind = 1
  · simp only [k1, if_true, Bool.and_eq_true, decide_eq_true_eq] at h
    exact ⟨.inl k1, h.1.1.2, h.1.2, fun _ => h.2⟩
  · simp only [k1, if_false, Bool.and_eq_true, decide_eq_true_eq] at h
    exact ⟨by omega, h.1.1.2, h.1.2, fun h => absurd h k1⟩
theorem ledger_parts {n : Int} {l : List S63} (h : ledgerOk n l = true) : (0 ≤ n ∧ n ≤ 900) ∧ (∀ s ∈ l, okA s) ∧ Up l ∧ l.length ≤ 12 ∧ wrap64 (asum l) ≤ 1000000 := by
  obtain ⟨h1, h2, _⟩ := ledgerOk_len h;exact ⟨h1, (acctsOk_iff l).1 h2⟩
theorem okA_parts {s : S63} (h : okA s) : nameOk s.f0 = true ∧ (0 ≤ s.f1 ∧ s.f1 ≤ 1000000) ∧ (0 ≤ s.f2 ∧ s.f2 ≤ 10000) ∧ (0 ≤ s.f3 ∧ s.f3 ≤ 1000000) ∧ s.f4.length ≤ 4 ∧ lvFrom s.f4 s.f4.length 0 = true := by
  unfold okA acctOk at h;simp only [Bool.and_eq_true, inr_iff, decide_eq_true_eq] at h;exact h
theorem has_eq (s : S63) (kind : Int) : impl_Acct_has.f s.f1 s.f3 kind = some (hasL s kind) := by
  unfold impl_Acct_has.f hasL
  split <;> rfl
theorem iApply_ev (ep : Int) (l : List S63) (kind : Int) (fr tt : ByteArray) (am no : Int) (hl : l.length ≤ 90000000) (hb : ∀ s ∈ l, BdE s) (hf : fr.size ≤ 1048576) (ht : tt.size ≤ 1048576) : Ev (fun k => impl_Apply.f k ep l kind fr tt am no) (applyL ep l kind fr tt am no) := by
  have hcp : ∀ c : Int, Ev (fun k => impl_Apply.copy k ep l c) (ep, l, c) := fun c => by
    simp only [impl_Apply.copy];exact Ev.bind (iCopyL_ev ep l (by omega) hb) (Ev.now _)
  have h1 := iLedger_ev ep l (by omega) hb;have h2 := iTxOk_ev kind fr tt am no (by omega) (by omega);simp only [impl_Apply.f];refine evBindC (iAt_eq l fr) (Ev.bind h1 ?_);unfold applyL
  by_cases c1 : ledgerOk ep l = true
  · refine Ev.bind (evPos c1 h2) ?_
    by_cases c2 : txOk kind fr tt am no = true
    · rw [if_pos (by rw [c1, c2]; rfl)]
      refine evPos c2 ?_
      rcases at_cases l fr with ⟨e, _⟩ | ⟨j, hj, e, _⟩
      · rw [if_pos (by omega)]
        exact evPos (by omega) (hcp 2)
      · rw [if_neg (by omega), e, Int.toNat_natCast, getD_get hj]
        refine evNeg (by omega) (evPos (by omega) ?_);rw [rdIA_get hj];simp only [impl_Apply.g]
        by_cases c3 : no = l[j].f2
        · rw [if_pos c3]
          refine evPos c3 (evBindC (has_eq _ _) ?_)
          by_cases c4 : hasL l[j] kind < am
          · rw [if_pos c4]
            exact evPos c4 (hcp 4)
          · rw [if_neg c4]
            refine evNeg c4 ?_;simp only [impl_Apply.do];obtain ⟨_, hok, _, _, _⟩ := ledger_parts c1;have ho := okA_parts (hok _ (List.getElem_mem hj));have hz := doL_bd hj hb ho.2.2.2.2.1 ep kind ht am;have hzl := doL_len hj ep kind tt am;refine Ev.bind (iCopyL_ev ep l (by omega) hb) (evPos hj (evBindC (iDone_eq hj (by omega) hb (lvUp_of ho.2.2.2.2.2) ep (txOk_kind c2).1 tt am) (Ev.bind (iLedger_ev ep (doL ep l j kind tt am) (by omega) hz) ?_)))
            by_cases c5 : ledgerOk ep (doL ep l j kind tt am) = true
            · rw [if_pos c5]
              exact evPos c5 (Ev.now _)
            · rw [if_neg c5]
              exact evNeg c5 (hcp 5)
        · rw [if_neg c3]
          exact evNeg c3 (hcp 3)
    · rw [if_neg (by rw [Bool.not_eq_true] at c2; rw [c2]; simp)]
      exact evNeg c2 (hcp 1)
  · rw [if_neg (by rw [Bool.not_eq_true] at c1; rw [c1]; simp)]
    exact Ev.bind (a := false) (evNeg c1 (Ev.now _)) (evNeg (by decide) (hcp 1))
theorem sApply_ev (ep : Int) (l : List S63) (kind : Int) (fr tt : ByteArray) (am no : Int) (hl : l.length ≤ 90000000) (hb : ∀ s ∈ l, BdE s) (hf : fr.size ≤ 1048576) (ht : tt.size ≤ 1048576) : Ev (fun k => spec_Apply.f k ep l kind fr tt am no) (applyL ep l kind fr tt am no) := by
  have h1 := sLedger_ev ep l (by omega) hb;have h2 := sTxOk_ev kind fr tt am no (by omega) (by omega);simp only [spec_Apply.f];refine Ev.bind (sCopyL_ev ep l (by omega) hb) (Ev.bind h1 ?_)
  have hbad : Ev (fun k => spec_Apply.j0 k true ep l kind fr tt am no ep l) (ep, l, 1) := evOne fun k => by simp only [spec_Apply.j0, if_true]
  unfold applyL
  by_cases c1 : ledgerOk ep l = true
  · refine evPos c1 (Ev.bind h2 ?_)
    by_cases c2 : txOk kind fr tt am no = true
    · rw [if_pos (by rw [c1, c2]; rfl)]
      simp only [c2, Bool.not_true];have hat := sAt_ev l fr (by omega)
      have hj1 : ∀ (j : Nat) (hj : j < l.length) (hs : Int), hs = hasL l[j] kind → Ev (fun k => spec_Apply.j1 k (j : Int) hs ep l kind fr tt am no ep l l[j].f0 l[j].f1 l[j].f2 l[j].f3 l[j].f4)
          (if no = l[j].f2 then if hasL l[j] kind < am then (ep, l, 4) else if ledgerOk ep (doL ep l j kind tt am) = true then (ep, doL ep l j kind tt am, 0) else (ep, l, 5) else (ep, l, 3)) := by
        intro j hj hs ehs;subst ehs;refine Ev.step (f := fun k => if l[j].f2 = no then (if hasL l[j] kind < am then some (ep, l, 4) else (spec_l6Do.f k ep l kind fr tt am no (j : Int)).bind fun b => (spec_LedgerOk.f k b.1 b.2).bind fun t => if t = true then some (b.1, b.2, 0) else some (ep, l, 5)) else some (ep, l, 3)) (fun k => by simp only [spec_Apply.j1]) ?_
        by_cases c3 : no = l[j].f2
        · rw [if_pos c3]
          refine evPos c3.symm ?_
          by_cases c4 : hasL l[j] kind < am
          · rw [if_pos c4]
            exact evPos c4 (Ev.now _)
          · rw [if_neg c4]
            refine evNeg c4 ?_;obtain ⟨_, hok, hu, _, _⟩ := ledger_parts c1;have ho := okA_parts (hok _ (List.getElem_mem hj));have hz := doL_bd hj hb ho.2.2.2.2.1 ep kind ht am;have hzl := doL_len hj ep kind tt am;have ha := (txOk_kind c2).2.1;refine Ev.bind (sDo_ev hj (by omega) hb hu ep kind fr tt (by omega) no) (Ev.bind (sLedger_ev ep (doL ep l j kind tt am) (by omega) hz) ?_)
            by_cases c5 : ledgerOk ep (doL ep l j kind tt am) = true
            · exact evPos c5 (evEq (Ev.now _) (by rw [if_pos c5]))
            · exact evNeg c5 (evEq (Ev.now _) (by rw [if_neg c5]))
        · rw [if_neg c3]
          exact evNeg (fun h => c3 h.symm) (Ev.now _)
      refine Ev.step (f := fun k => (spec_AcctAt.f k l fr).bind fun t => if t < 0 then some (ep, l, 2) else if 0 ≤ t then if t < (l.length : Int) then (if kind = 3 then spec_Apply.j1 k t (rd_T63 l t).f3 ep l kind fr tt am no ep l (rd_T63 l t).f0 (rd_T63 l t).f1 (rd_T63 l t).f2 (rd_T63 l t).f3 (rd_T63 l t).f4 else spec_Apply.j1 k t (rd_T63 l t).f1 ep l kind fr tt am no ep l (rd_T63 l t).f0 (rd_T63 l t).f1 (rd_T63 l t).f2 (rd_T63 l t).f3 (rd_T63 l t).f4) else none else none) (fun k => by simp only [spec_Apply.j0, Bool.false_eq_true, if_false]) ?_;refine Ev.bind hat ?_
      rcases at_cases l fr with ⟨e, _⟩ | ⟨j, hj, e, _⟩
      · rw [if_pos (by omega)]
        exact evPos (by omega) (Ev.now _)
      · rw [if_neg (by omega), e, Int.toNat_natCast, getD_get hj]
        refine evNeg (by omega) (evPos (by omega) (evPos (by omega) ?_));rw [rdIA_get hj]
        by_cases k3 : kind = 3
        · exact evPos k3 (hj1 j hj _ (by unfold hasL; rw [if_pos k3]))
        · exact evNeg k3 (hj1 j hj _ (by unfold hasL; rw [if_neg k3]))
    · rw [if_neg (by rw [Bool.not_eq_true] at c2; rw [c2]; simp)]
      rw [Bool.not_eq_true] at c2;simp only [c2, Bool.not_false];exact hbad
  · rw [if_neg (by rw [Bool.not_eq_true] at c1; rw [c1]; simp)]
    exact evNeg c1 hbad
theorem applyL_bd (ep : Int) (l : List S63) (kind : Int) (fr tt : ByteArray) (am no : Int) (hb : ∀ s ∈ l, BdE s) (ht : tt.size ≤ 1048576) : (applyL ep l kind fr tt am no).2.1.length ≤ l.length + 1 ∧ ∀ s ∈ (applyL ep l kind fr tt am no).2.1, BdE s := by
  unfold applyL
  by_cases c : (ledgerOk ep l && txOk kind fr tt am no) = true
  · rw [if_pos c]
    rw [Bool.and_eq_true] at c
    rcases at_cases l fr with ⟨e, _⟩ | ⟨j, hj, e, _⟩
    · rw [if_pos (by omega)]
      exact ⟨Nat.le_succ _, hb⟩
    · rw [if_neg (by omega), e, Int.toNat_natCast, getD_get hj]
      obtain ⟨_, hok, _, _, _⟩ := ledger_parts c.1;have ho := okA_parts (hok _ (List.getElem_mem hj));have hz := doL_bd hj hb ho.2.2.2.2.1 ep kind ht am;have hzl := doL_len hj ep kind tt am
      repeat' split
      all_goals first | exact ⟨hzl, hz⟩ | exact ⟨Nat.le_succ _, hb⟩
  · rw [if_neg c]
    exact ⟨Nat.le_succ _, hb⟩
end Go.Proofs.Ytcbpfofkdipjhaa.PM
