/- What an order that is done bears: the wealth, and the account that gave it. No condition but sizes. -/
import Derived.Test.YtcbpfofkdipjhaaAQPMx0
import Derived.Test.YtcbpfofkdipjhaaAQPMx12
import Derived.Test.YtcbpfofkdipjhaaAQLibRFnApplied
namespace Go.Proofs.Ytcbpfofkdipjhaa.PM
open Go.RowKit Go.Proofs.YtcbpfofkdipjhaaW.PrintWords Go.Proofs.YtcbpfofkdipjhaaW.PrintLast Go.Proofs.YtcbpfofkdipjhaaW.PrintMore Go.Proofs.Ytcbpfofkdipjhaa.Base
set_option linter.unusedVariables false
set_option linter.unusedSimpArgs false
theorem asum_set {l : List S63} {j : Nat} (hj : j < l.length) (x : S63) : asum (l.set j x) + (l[j].f1 + l[j].f3 + lsum l[j].f4) = asum l + (x.f1 + x.f3 + lsum x.f4) := by
  rw [set_split hj, asum_app, asum_cons]
  conv => rhs; rw [get_split hj, asum_app, asum_cons]
  omega
theorem addL_keep (l : List S63) (hu : Up l) (hr : ∀ s ∈ l, 0 ≤ s.f1 ∧ s.f1 ≤ 1000000) (nm : ByteArray) (n : Int) (hn : 0 ≤ n ∧ n ≤ 1000000) :
    asum (addL l nm n) = asum l + n ∧ ∀ s ∈ l, ∃ t ∈ addL l nm n, t.f0.toList = s.f0.toList ∧ t.f2 = s.f2 ∧ t.f3 = s.f3 ∧ (¬ s.f0.toList = nm.toList → t.f1 = s.f1) := by
  rcases at_cases l nm with ⟨e, hno⟩ | ⟨j, hj, e, hk⟩
  · have eA : addL l nm n = l.take (plL l nm) ++ [newA nm n] ++ l.drop (plL l nm) := by unfold addL; rw [if_neg (by omega)]
    rw [eA];refine ⟨?_, fun s hs => ⟨s, ?_, rfl, rfl, rfl, fun _ => rfl⟩⟩
    · rw [asum_app, asum_app]
      conv => rhs; rw [← List.take_append_drop (plL l nm) l, asum_app]
      have : asum [newA nm n] = n := by simp [asum, newA, lsum]
      omega
    · rw [← List.take_append_drop (plL l nm) l] at hs
      rcases List.mem_append.1 hs with h | h
      · exact List.mem_append_left _ (List.mem_append_left _ h)
      · exact List.mem_append_right _ h
  · have eg : l.getD j z63 = l[j] := getD_get hj
    have eA : addL l nm n = l.set j (more l[j] n) := by unfold addL; rw [if_pos (by omega), e, Int.toNat_natCast, eg]
    have hr := hr _ (List.getElem_mem hj);have hw : wrap64 (l[j].f1 + n) = l[j].f1 + n := w64 (by omega) (by omega);rw [eA];refine ⟨?_, fun s hs => ?_⟩
    · have h := asum_set hj (more l[j] n)
      have e2 : (more l[j] n).f1 = l[j].f1 + n := hw;have e3 : (more l[j] n).f3 = l[j].f3 := rfl;have e4 : (more l[j] n).f4 = l[j].f4 := rfl;rw [e2, e3, e4] at h
      omega
    · obtain ⟨i, hi, rfl⟩ := List.getElem_of_mem hs
      by_cases c : i = j
      · subst c
        exact ⟨more l[i] n, List.mem_set hj _, rfl, rfl, rfl, fun h => absurd hk h⟩
      · refine ⟨l[i], ?_, rfl, rfl, rfl, fun _ => rfl⟩
        have := List.getElem_mem (l := l.set j (more l[j] n)) (n := i) (by rw [List.length_set]; exact hi);rw [List.getElem_set_ne (fun h => c h.symm)] at this;exact this
theorem lv_range {l : List S65} (h : lvFrom l l.length 0 = true) : ∀ x ∈ l, 1 ≤ x.f0 ∧ x.f0 ≤ 1000000 := by
  intro x hx;obtain ⟨j, hj, rfl⟩ := List.getElem_of_mem hx;have h1 := lvFrom_at h j (Nat.zero_le _) (by omega);unfold lvAt at h1;rw [rdIL_get hj] at h1;simp only [Bool.and_eq_true, inr_iff] at h1;exact h1.1
/-- What is asked of the account that gave an order, ahead of it and behind it. -/
def bears (kind am : Int) (tt : ByteArray) (a b : S63) : Prop :=
  b.f0.toList = a.f0.toList ∧ b.f2 = wrap64 (a.f2 + 1) ∧ (if kind = 2 then b.f3 = wrap64 (a.f3 + am) ∧ b.f1 = wrap64 (a.f1 - am) else if kind = 3 then b.f3 = wrap64 (a.f3 - am) ∧ b.f1 = a.f1 else b.f3 = a.f3 ∧ (¬ tt.toList = a.f0.toList → b.f1 = wrap64 (a.f1 - am)))
theorem doL_bears {l : List S63} {j : Nat} (hj : j < l.length) (hu : Up l) (hok : ∀ s ∈ l, okA s) (ep kind : Int) (hk : kind = 1 ∨ kind = 2 ∨ kind = 3) (tt : ByteArray) (am : Int) (ha : 1 ≤ am ∧ am ≤ 1000000) (hh : am ≤ hasL l[j] kind) :
    asum (doL ep l j kind tt am) = asum l ∧ ∃ t ∈ doL ep l j kind tt am, bears kind am tt l[j] t := by
  have ho := okA_parts (hok _ (List.getElem_mem hj));obtain ⟨_, ⟨f10, f11⟩, ⟨f20, f21⟩, ⟨f30, f31⟩, _, hlv⟩ := ho;have w1 : wrap64 (l[j].f1 - am) = l[j].f1 - am := w64 (by omega) (by omega);have w2 : wrap64 (l[j].f3 + am) = l[j].f3 + am := w64 (by omega) (by omega);have w3 : wrap64 (l[j].f3 - am) = l[j].f3 - am := w64 (by omega) (by omega);rw [doL_eq hj]
  rcases hk with rfl | rfl | rfl
  · rw [if_pos rfl]
    have hh : am ≤ l[j].f1 := by simpa [hasL] using hh
    have hs := asum_set hj (⟨l[j].f0, wrap64 (l[j].f1 - am), wrap64 (l[j].f2 + 1), l[j].f3, l[j].f4⟩ : S63);have hum : Up (l.set j ⟨l[j].f0, wrap64 (l[j].f1 - am), wrap64 (l[j].f2 + 1), l[j].f3, l[j].f4⟩) := up_names (names_set (s := ⟨l[j].f0, wrap64 (l[j].f1 - am), wrap64 (l[j].f2 + 1), l[j].f3, l[j].f4⟩) hj rfl).symm hu
    have hrm : ∀ s ∈ l.set j ⟨l[j].f0, wrap64 (l[j].f1 - am), wrap64 (l[j].f2 + 1), l[j].f3, l[j].f4⟩, 0 ≤ s.f1 ∧ s.f1 ≤ 1000000 := by
      intro s hs
      rcases List.mem_or_eq_of_mem_set hs with h | rfl
      · exact (okA_parts (hok s h)).2.1
      · show 0 ≤ wrap64 (l[j].f1 - am) ∧ wrap64 (l[j].f1 - am) ≤ 1000000
        rw [w1]
        omega
    obtain ⟨h1, h2⟩ := addL_keep _ hum hrm tt am (by omega);obtain ⟨t, ht, t0, t2, t3, t1⟩ := h2 ⟨l[j].f0, wrap64 (l[j].f1 - am), wrap64 (l[j].f2 + 1), l[j].f3, l[j].f4⟩ (List.mem_set hj _);refine ⟨?_, t, ht, t0, t2, ?_⟩
    · rw [h1]
      simp only [w1] at hs ⊢
      omega
    · rw [if_neg (by decide), if_neg (by decide)]
      exact ⟨t3, fun h => t1 (fun h' => h h'.symm)⟩
  · rw [if_neg (by decide), if_pos rfl]
    have hs := asum_set hj (⟨l[j].f0, wrap64 (l[j].f1 - am), wrap64 (l[j].f2 + 1), wrap64 (l[j].f3 + am), l[j].f4⟩ : S63);refine ⟨?_, _, List.mem_set hj _, rfl, rfl, ?_⟩
    · simp only [w1, w2] at hs ⊢
      omega
    · rw [if_pos rfl]
      exact ⟨rfl, rfl⟩
  · rw [if_neg (by decide), if_neg (by decide)]
    have hs := asum_set hj (⟨l[j].f0, l[j].f1, wrap64 (l[j].f2 + 1), wrap64 (l[j].f3 - am), lvInto am (wrap64 (ep + 2)) l[j].f4⟩ : S63);have hl := lvInto_sum am (wrap64 (ep + 2)) (by omega) l[j].f4 (lv_range hlv);refine ⟨?_, _, List.mem_set hj _, rfl, rfl, ?_⟩
    · simp only [w3, hl] at hs ⊢
      omega
    · rw [if_neg (by decide), if_pos rfl]
      exact ⟨rfl, rfl⟩
theorem applyL_split (ep : Int) (l : List S63) (kind : Int) (fr tt : ByteArray) (am no : Int) : (∃ c, applyL ep l kind fr tt am no = (ep, l, c) ∧ ¬ c = 0) ∨
    ∃ j, ∃ hj : j < l.length, atL l fr = (j : Int) ∧ l[j].f0.toList = fr.toList ∧ ledgerOk ep l = true ∧ txOk kind fr tt am no = true ∧ am ≤ hasL l[j] kind ∧ ledgerOk ep (doL ep l j kind tt am) = true ∧ applyL ep l kind fr tt am no = (ep, doL ep l j kind tt am, 0) := by
  by_cases c : (ledgerOk ep l && txOk kind fr tt am no) = true
  case neg => exact .inl ⟨1, by unfold applyL; rw [if_neg c], by decide⟩
  rcases at_cases l fr with ⟨e, _⟩ | ⟨j, hj, e, hn⟩
  · exact .inl ⟨2, by unfold applyL; rw [if_pos c, if_pos (by omega)], by decide⟩
  · have eu : applyL ep l kind fr tt am no = if no = l[j].f2 then if hasL l[j] kind < am then (ep, l, 4) else if ledgerOk ep (doL ep l j kind tt am) = true then (ep, doL ep l j kind tt am, 0) else (ep, l, 5) else (ep, l, 3) := by
      unfold applyL;rw [if_pos c, if_neg (by omega), e, Int.toNat_natCast, getD_get hj]
    rw [eu];rw [Bool.and_eq_true] at c
    by_cases c3 : no = l[j].f2
    · rw [if_pos c3]
      by_cases c4 : hasL l[j] kind < am
      · rw [if_pos c4]; exact .inl ⟨4, rfl, by decide⟩
      · rw [if_neg c4]
        by_cases c5 : ledgerOk ep (doL ep l j kind tt am) = true
        · rw [if_pos c5]
          exact .inr ⟨j, hj, e, hn, c.1, c.2, by omega, c5, rfl⟩
        · rw [if_neg c5]; exact .inl ⟨5, rfl, by decide⟩
    · rw [if_neg c3]; exact .inl ⟨3, rfl, by decide⟩
/-- An order never changes the wealth. -/
theorem applyL_sum (ep : Int) (l : List S63) (kind : Int) (fr tt : ByteArray) (am no : Int) : asum (applyL ep l kind fr tt am no).2.1 = asum l := by
  rcases applyL_split ep l kind fr tt am no with ⟨c, e, _⟩ | ⟨j, hj, e, hn, hl, ht, hh, _, ea⟩
  · rw [e]
  · rw [ea]
    obtain ⟨_, hok, hu, _, _⟩ := ledger_parts hl;obtain ⟨hk, ha, _, _⟩ := txOk_kind ht;exact (doL_bears hj hu hok ep kind hk tt am ha hh).1
end Go.Proofs.Ytcbpfofkdipjhaa.PM
