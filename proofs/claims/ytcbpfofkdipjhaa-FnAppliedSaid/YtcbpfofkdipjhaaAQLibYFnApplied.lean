/- Draws of accounts and ledgers. No condition but sizes. -/
import Derived.Test.YtcbpfofkdipjhaaAQPMx0
import Derived.Test.YtcbpfofkdipjhaaAQPMx13
import Derived.Test.YtcbpfofkdipjhaaAQPMx14
import Derived.Test.YtcbpfofkdipjhaaAQPMx15
import Derived.Test.YtcbpfofkdipjhaaAQLibDFnApplied
import Derived.Test.YtcbpfofkdipjhaaAQLibAFnApplied
namespace Go.Proofs.Ytcbpfofkdipjhaa.PM
open Go.RowKit Go.Proofs.YtcbpfofkdipjhaaW.PrintWords Go.Proofs.YtcbpfofkdipjhaaW.PrintLast Go.Proofs.YtcbpfofkdipjhaaW.PrintMore Go.Proofs.Ytcbpfofkdipjhaa.Base
set_option linter.unusedVariables false
set_option linter.unusedSimpArgs false
theorem l4Acct_l (b : List Int) (nm : ByteArray) (fr no st : Int) : ∀ (d j : Nat) (lv : List S65) (i h : Int), j + d = 3 → lv.length ≤ j → (∀ x ∈ lv, 1 ≤ x.f0 ∧ x.f0 ≤ 9 ∧ 1 ≤ x.f1 ∧ x.f1 ≤ (j : Int)) → St b i →
    ∃ r i' h', Ev (fun k => spec_l4Acct.l0 k (j : Int) b i h nm fr no st lv) (nm, fr, no, st, r, i', h') ∧ St b i' ∧ r.length ≤ 3 ∧ (∀ x ∈ r, 1 ≤ x.f0 ∧ x.f0 ≤ 9 ∧ 1 ≤ x.f1 ∧ x.f1 ≤ 3) := by
  intro d
  induction d with
  | zero =>
    intro j lv i h hj hl hz hs
    obtain rfl : j = 3 := by omega
    refine ⟨lv, i, h, evOne fun k => ?_, hs, hl, hz⟩;simp only [spec_l4Acct.l0];rw [if_neg (by omega)]
  | succ d ih =>
    intro j lv i h hj hl hz hs;obtain ⟨q, i1, h1, e1, hs1⟩ := l1Once_eq b i h 4 hs
    have ej : wrap64 ((j : Int) + 1) = ((j + 1 : Nat) : Int) := by rw [w64 (by omega) (by omega)]; rfl
    by_cases hq : q = true
    · obtain ⟨a, i2, h2, e2, hs2, a0, a1, _⟩ := l1Below_eq b i1 h1 9 hs1
      have a1 := a1 (by omega);have ea : wrap64 (1 + a) = 1 + a := w64 (by omega) (by omega)
      obtain ⟨r, i3, h3, hr, hs3, hrl, hrz⟩ := ih (j + 1) (lv ++ [(⟨1 + a, ((j + 1 : Nat) : Int)⟩ : S65)]) i2 h2 (by omega) (by simp; omega) (by
        intro x hx
        rcases List.mem_append.1 hx with hx | hx
        · have := hz x hx; omega
        · rw [List.mem_singleton.1 hx]
          dsimp only
          omega) hs2
      refine ⟨r, i3, h3, Ev.step (fun k => ?_) hr, hs3, hrl, hrz⟩;simp only [spec_l4Acct.l0];rw [if_pos (by omega), e1];simp only [Option.bind_some];rw [if_pos hq, e2];simp only [Option.bind_some];rw [if_pos (by omega), ej, ea]
    · obtain ⟨r, i3, h3, hr, hs3, hrl, hrz⟩ := ih (j + 1) lv i1 h1 (by omega) (by omega) (fun x hx => by have := hz x hx; omega) hs1
      refine ⟨r, i3, h3, Ev.step (fun k => ?_) hr, hs3, hrl, hrz⟩;simp only [spec_l4Acct.l0];rw [if_pos (by omega), e1];simp only [Option.bind_some];rw [if_neg hq, ej]
def Drawn1 (s : S63) : Prop := s.f0.size ≤ 9 ∧ s.f4.length ≤ 4
theorem l4Acct_ev (b : List Int) (i h : Int) (nm : ByteArray) (hs : St b i) : ∃ fr no st lv i' h', Ev (fun k => spec_l4Acct.f k b i h nm) (nm, fr, no, st, lv, i', h') ∧ St b i' ∧ lv.length ≤ 3 ∧ (fr = 0 ∨ fr = 10 ∨ fr = 100 ∨ fr = 5) ∧ 0 ≤ no ∧ no ≤ 2 ∧ (0 ≤ st ∧ st ≤ 30) ∧ (∀ x ∈ lv, 1 ≤ x.f0 ∧ x.f0 ≤ 9 ∧ 1 ≤ x.f1 ∧ x.f1 ≤ 3) := by
  obtain ⟨fr, i1, h1, e1, hs1, m1⟩ := l1Int_eq b i h [0, 10, 100, 5] (by simp) hs;obtain ⟨no, i2, h2, e2, hs2, n0, n1, _⟩ := l1Below_eq b i1 h1 3 hs1;have n1 := n1 (by omega);obtain ⟨st, i3, h3, e3, hs3, m3⟩ := l1Int_eq b i2 h2 [10, 10, 0, 4, 5, 30] (by simp) hs2;obtain ⟨lv, i4, h4, hr, hs4, hl, hz⟩ := l4Acct_l b nm fr no st 3 0 [] i3 h3 (by omega) (by simp) (fun x hx => by simp at hx) hs3;refine ⟨fr, no, st, lv, i4, h4, ?_, hs4, hl, by simpa using m1, n0, by omega, by simp at m3; omega, hz⟩;simp only [spec_l4Acct.f];exact evBindC e1 (evBindC e2 (evBindC e3 hr))
theorem l4Draw_l (b : List Int) (ns : List ByteArray) (hn : ns.length ≤ 5) (hz : ∀ s ∈ ns, s.size ≤ 9) : ∀ (d j : Nat) (x : List S63) (i h : Int), j + d = ns.length → x.length = j → (∀ s ∈ x, Drawn1 s) → St b i →
    ∃ r i' h', Ev (fun k => spec_l4Draw.l0 k x ns (j : Int) b i h) (r, i', h') ∧ St b i' ∧ r.length = ns.length ∧ (∀ s ∈ r, Drawn1 s) := by
  intro d
  induction d with
  | zero =>
    intro j x i h hj hx hxz hs;refine ⟨x, i, h, evOne fun k => ?_, hs, by omega, hxz⟩;simp only [spec_l4Draw.l0];rw [if_neg (by omega)]
  | succ d ih =>
    intro j x i h hj hx hxz hs
    have hlt : j < ns.length := by omega
    have hrd : rdOf ByteArray.empty ns (j : Int) = ns[j] := by
      unfold rdOf;simp [hlt]
    obtain ⟨fr, no, st, lv, i1, h1, he, hs1, hl, _⟩ := l4Acct_ev b i h ns[j] hs
    obtain ⟨r, i2, h2, hr, hs2, hrl, hrz⟩ := ih (j + 1) (x ++ [(⟨ns[j], fr, no, st, lv⟩ : S63)]) i1 h1 (by omega) (by simp; omega) (by
      intro s hs
      rcases List.mem_append.1 hs with h | h
      · exact hxz s h
      · rw [List.mem_singleton.1 h]
        exact ⟨hz _ (List.getElem_mem hlt), by dsimp only; omega⟩) hs1
    refine ⟨r, i2, h2, Ev.step (f := fun k => (spec_l4Acct.f k b i h ns[j]).bind fun bt => spec_l4Draw.l0 k (x ++ [(⟨bt.1, bt.2.1, bt.2.2.1, bt.2.2.2.1, bt.2.2.2.2.1⟩ : S63)]) ns ((j + 1 : Nat) : Int) b bt.2.2.2.2.2.1 bt.2.2.2.2.2.2) (fun k => ?_) (Ev.bind he hr), hs2, hrl, hrz⟩;simp only [spec_l4Draw.l0];rw [if_pos (by omega), if_pos (by omega), hrd, w64 (by omega) (by omega)];simp only [show x.length < 2199023255552 by omega, if_true];rfl
theorem l4Draw_ev (b : List Int) (i h : Int) (hs : St b i) : ∃ r i' h', Ev (fun k => spec_l4Draw.f k b i h) (r, i', h') ∧ St b i' ∧ r.length ≤ 5 ∧ (∀ s ∈ r, Drawn1 s) := by
  obtain ⟨ns, i1, h1, hn, hs1, hnl, hrise⟩ := l1Names_ev b i h hs
  have hz : ∀ s ∈ ns, s.size ≤ 9 := fun s hs => by have := rise_size hrise s hs; omega
  obtain ⟨r, i2, h2, hr, hs2, hrl, hrz⟩ := l4Draw_l b ns hnl hz ns.length 0 [] i1 h1 (by omega) rfl (fun s h => by simp at h) hs1;refine ⟨r, i2, h2, ?_, hs2, by omega, hrz⟩;simp only [spec_l4Draw.f];exact Ev.bind hn hr
theorem set0_drawn {l : List S63} (h : ∀ s ∈ l, Drawn1 s) {y : S63} (hy : Drawn1 y) : ∀ s ∈ l.set (0 : Int).toNat y, Drawn1 s := fun s hs => (List.mem_or_eq_of_mem_set hs).elim (h s) (fun e => e ▸ hy)
theorem l4Any_ev (b : List Int) (i h : Int) (hs : St b i) : ∃ r i' h', Ev (fun k => spec_l4Any.f k b i h) (r, i', h') ∧ St b i' ∧ r.length ≤ 6 ∧ (∀ s ∈ r, s.f0.size ≤ 9 ∧ s.f4.length ≤ 5) := by
  have up : ∀ {l : List S63}, (∀ s ∈ l, Drawn1 s) → ∀ s ∈ l, s.f0.size ≤ 9 ∧ s.f4.length ≤ 5 := fun h s hs => by have := h s hs; unfold Drawn1 at this; omega
  obtain ⟨l, i1, h1, hd, hs1, hl, hz⟩ := l4Draw_ev b i h hs;obtain ⟨q, i2, h2, e2, hs2, q0, q1, _⟩ := l1Below_eq b i1 h1 12 hs1;simp only [spec_l4Any.f]
  by_cases c0 : q = 0
  · obtain ⟨nm, i3, h3, e3, hs3, hnm⟩ := l1NameAny_eq b i2 h2 hs2
    obtain ⟨fr, no, st, lv, i4, h4, he, hs4, hll, _⟩ := l4Acct_ev b i3 h3 nm hs3;refine ⟨l ++ [(⟨nm, fr, no, st, lv⟩ : S63)], i4, h4, Ev.bind hd (evBindC e2 (evPos c0 (evBindC e3 (Ev.bind he (evPos (by dsimp only; omega) (Ev.now _)))))), hs4, by simp; omega, ?_⟩;intro s hs
    rcases List.mem_append.1 hs with h | h
    · exact up hz s h
    · rw [List.mem_singleton.1 h]
      exact ⟨hnm, by dsimp only; omega⟩
  · by_cases c1 : q = 1
    · by_cases hp : 0 < l.length
      · obtain ⟨v, i3, h3, e3, hs3, _⟩ := l1Int_eq b i2 h2 [(-1), 1000000, 1000001] (by simp) hs2
        have h00 : Drawn1 (rd_T63 l 0) := by
          have e : rd_T63 l 0 = l[0] := rdIA_get (xs := l) (i := 0) hp;rw [e];exact hz _ (List.getElem_mem hp)
        refine ⟨_, i3, h3, Ev.bind hd (evBindC e2 (evNeg c0 (evPos c1 (evPos (by dsimp only; omega) (evBindC e3 (evPos (by dsimp only; omega) (Ev.now _))))))), hs3, by rw [List.length_set]; exact Nat.le_trans hl (by decide), up (set0_drawn hz ?_)⟩;exact h00
      · exact ⟨l, i2, h2, Ev.bind hd (evBindC e2 (evNeg c0 (evPos c1 (evNeg (by dsimp only; omega) (Ev.now _))))), hs2, by omega, up hz⟩
    · by_cases c2 : q = 2
      · by_cases hp : 0 < l.length
        · obtain ⟨u, i3, h3, e3, hs3, _⟩ := l1Below_eq b i2 h2 2 hs2
          obtain ⟨v, i4, h4, e4, hs4, _⟩ := l1Below_eq b i3 h3 4 hs3
          have h00 : Drawn1 (rd_T63 l 0) := by
            have e : rd_T63 l 0 = l[0] := rdIA_get (xs := l) (i := 0) hp;rw [e];exact hz _ (List.getElem_mem hp)
          have h4' := h00.2;refine ⟨_, i4, h4, Ev.bind hd (evBindC e2 (evNeg c0 (evNeg c1 (evPos c2 (evPos (by dsimp only; omega) (evPos (by dsimp only; omega) (evBindC e3 (evBindC e4 (evPos (by dsimp only; omega) (Ev.now _)))))))))), hs4, by rw [List.length_set]; exact Nat.le_trans hl (by decide), ?_⟩;intro s hs
          rcases List.mem_or_eq_of_mem_set hs with h | h
          · exact up hz s h
          · rw [h]
            refine ⟨h00.1, ?_⟩
            dsimp only
            rw [List.length_append, List.length_singleton]
            omega
        · exact ⟨l, i2, h2, Ev.bind hd (evBindC e2 (evNeg c0 (evNeg c1 (evPos c2 (evNeg (by dsimp only; omega) (Ev.now _)))))), hs2, by omega, up hz⟩
      · exact ⟨l, i2, h2, Ev.bind hd (evBindC e2 (evNeg c0 (evNeg c1 (evNeg c2 (Ev.now _))))), hs2, by omega, up hz⟩
theorem l6Draw_ev (b : List Int) (i h : Int) (hs : St b i) : ∃ n l i' h', Ev (fun k => spec_l6Draw.f k b i h) (n, l, i', h') ∧ St b i' ∧ 0 ≤ n ∧ n ≤ 2 ∧ l.length ≤ 5 ∧ (∀ s ∈ l, Drawn1 s) := by
  obtain ⟨n, i1, h1, e1, hs1, n0, n1, _⟩ := l1Below_eq b i h 3 hs;have n1 := n1 (by omega);obtain ⟨l, i2, h2, hd, hs2, hl, hz⟩ := l4Draw_ev b i1 h1 hs1;refine ⟨n, l, i2, h2, ?_, hs2, n0, by omega, hl, hz⟩;simp only [spec_l6Draw.f];exact evBindC e1 (Ev.bind hd (Ev.now _))
theorem l6Any_ev (b : List Int) (i h : Int) (hs : St b i) : ∃ n l i' h', Ev (fun k => spec_l6Any.f k b i h) (n, l, i', h') ∧ St b i' ∧ -1 ≤ n ∧ n ≤ 901 ∧ l.length ≤ 6 ∧ (∀ s ∈ l, s.f0.size ≤ 9 ∧ s.f4.length ≤ 5) := by
  have up : ∀ {l : List S63}, (∀ s ∈ l, Drawn1 s) → ∀ s ∈ l, s.f0.size ≤ 9 ∧ s.f4.length ≤ 5 := fun h s hs => by have := h s hs; unfold Drawn1 at this; omega
  obtain ⟨n, l, i1, h1, hd, hs1, n0, n1, hl, hz⟩ := l6Draw_ev b i h hs;obtain ⟨q, i2, h2, e2, hs2, _⟩ := l1Below_eq b i1 h1 10 hs1;simp only [spec_l6Any.f]
  by_cases c0 : q = 0
  · obtain ⟨v, i3, h3, e3, hs3, hv⟩ := l1Int_eq b i2 h2 [(-1), 900, 901] (by simp) hs2
    have hv' : v = -1 ∨ v = 900 ∨ v = 901 := by simpa using hv
    exact ⟨v, l, i3, h3, Ev.bind hd (evBindC e2 (evPos c0 (evBindC e3 (Ev.now _)))), hs3, by omega, by omega, by omega, up hz⟩
  · by_cases c1 : q = 1
    · obtain ⟨r, i3, h3, hr, hs3, hrl, hrz⟩ := l4Any_ev b i2 h2 hs2
      exact ⟨n, r, i3, h3, Ev.bind hd (evBindC e2 (evNeg c0 (evPos c1 (Ev.bind hr (Ev.now _))))), hs3, by omega, by omega, hrl, hrz⟩
    · exact ⟨n, l, i2, h2, Ev.bind hd (evBindC e2 (evNeg c0 (evNeg c1 (Ev.now _)))), hs2, by omega, by omega, by omega, up hz⟩
end Go.Proofs.Ytcbpfofkdipjhaa.PM
