/- The plain law of FnNames: what it computes is always true. -/
import Derived.Test.YtcmlbjlbgcdogaaPCx0
import Derived.Test.YtcmlbjlbgcdogaaPCx3
import Derived.Test.YtcmlbjlbgcdogaaLibDFnNames
import Derived.Test.YtcmlbjlbgcdogaaTelC
namespace Go.Proofs.Ytcmlbjlbgcdogaa.Pure
open Go.RowKit Go.Proofs.YtcmlbjlbgcdogaaW.PrintWords Go.Proofs.YtcmlbjlbgcdogaaW.PrintLast Go.Proofs.YtcmlbjlbgcdogaaW.PrintMore Go.Proofs.Ytcmlbjlbgcdogaa.Base Go.Proofs.Ytcmlbjlbgcdogaa.PC
set_option linter.unusedVariables false
theorem big_eq (l : List Int) : laws_big.f l = some (decide ((l.length : Int) > 1048576)) := rfl
theorem notOk (l : List ByteArray) : namesOk (l ++ [(⟨#[65]⟩ : ByteArray)]) = false := by
  cases h : namesOk (l ++ [(⟨#[65]⟩ : ByteArray)]) with
  | false => rfl
  | true =>
    exfalso
    unfold namesOk at h
    rw [Bool.and_eq_true] at h
    have h1 := okFrom_at h.1 l.length (by omega) (by simp)
    unfold okAt at h1
    rw [Bool.and_eq_true] at h1
    have h2 := h1.1
    rw [rdS_get (by simp)] at h2
    simp at h2
    exact absurd h2 (by decide)
theorem FnNames_end (l : List ByteArray) (hl : l.length ≤ 21) (hs : ∀ s ∈ l, s.size ≤ 9) (b : Bool) (i : Int) : Ev (fun k => laws_FnNames.j1 k l b i false) true := by
  have h1 := iNamesOk_ev (l ++ [(⟨#[65]⟩ : ByteArray)]) (by simp; omega) (by
    intro s h
    rcases List.mem_append.1 h with h | h
    · have := hs s h; omega
    · simp at h; rw [h]; decide)
  rw [notOk] at h1
  refine Ev.step (f := fun k => (impl_NamesOk.f k (l ++ [(⟨#[65]⟩ : ByteArray)])).bind fun t218 => (some (!t218))) (fun k => ?_) (Ev.bind h1 (Ev.now _))
  simp only [laws_FnNames.j1, Option.bind_some, List.nil_append]
  rw [if_neg (by simp), if_pos (by simp; omega), if_pos (by omega)]
theorem FnNames_l (l : List ByteArray) (hl : l.length ≤ 21) (hs : ∀ s ∈ l, s.size ≤ 9) : ∀ (d i : Nat), i + d = l.length → Ev (fun k => laws_FnNames.l0 k l (namesOk l) (i : Int)) true := by
  intro d
  induction d with
  | zero =>
    intro i hi
    refine Ev.step (f := fun k => laws_FnNames.j1 k l (namesOk l) (i : Int) false) (fun k => ?_) (FnNames_end l hl hs _ _)
    simp only [laws_FnNames.l0]
    rw [if_neg (by omega)]
  | succ d ih =>
    intro i hi
    have hlt : i < l.length := by omega
    cases hok : namesOk l with
    | false =>
      refine Ev.step (f := fun k => laws_FnNames.j1 k l false (i : Int) false) (fun k => ?_) (FnNames_end l hl hs _ _)
      simp only [laws_FnNames.l0]
      rw [if_pos (by omega)]
    | true =>
      have hih := ih (i + 1) (by omega)
      rw [hok] at hih
      have h0 := hok
      unfold namesOk at h0
      rw [Bool.and_eq_true] at h0
      have h1 := okFrom_at h0.1 i (by omega) (by omega)
      unfold okAt at h1
      rw [Bool.and_eq_true] at h1
      have hm : rdOf ByteArray.empty l (i : Int) ∈ l := by rw [rdS_get hlt]; exact List.getElem_mem hlt
      have hn := iNameOk_ev (rdOf ByteArray.empty l (i : Int)) (by have := hs _ hm; omega)
      rw [h1.1] at hn
      have hw : wrap64 ((i : Int) + 1) = ((i + 1 : Nat) : Int) := by rw [w64 (by omega) (by omega)]; omega
      refine evStep2 (f := fun k => (impl_NameOk.f k (rdOf ByteArray.empty l (i : Int))).bind fun t206 => (if t206 = true then (if (i : Int) > 0 then (if 0 ≤ (wrap64 ((i : Int) - 1)) then (if (wrap64 ((i : Int) - 1)) < (l.length : Int) then (if ((Op.bytesLess ((rdOf ByteArray.empty l (wrap64 ((i : Int) - 1))).toList) ((rdOf ByteArray.empty l (i : Int)).toList)) = true) then (laws_FnNames.l0 k l true ((i + 1 : Nat) : Int)) else (some false)) else (none)) else (none)) else (laws_FnNames.l0 k l true ((i + 1 : Nat) : Int))) else (some false))) (fun k => ?_) (Ev.bind hn (evPos rfl ?_))
      · simp only [laws_FnNames.l0]
        rw [if_pos (by omega)]
        simp only [laws_FnNames.j1]
        rw [if_pos trivial, if_pos (by omega), if_pos (by omega), hw]
      · by_cases hi0 : (i : Int) > 0
        · have hw1 : wrap64 ((i : Int) - 1) = ((i - 1 : Nat) : Int) := by rw [w64 (by omega) (by omega)]; omega
          have hb : Op.bytesLess (rdOf ByteArray.empty l ((i - 1 : Nat) : Int)).toList (rdOf ByteArray.empty l (i : Int)).toList = true := by
            have := h1.2
            rw [decide_eq_false (by omega), Bool.false_or] at this
            exact this
          rw [hw1]
          exact evPos hi0 (evPos (by omega) (evPos (by omega) (evPos hb hih)))
        · exact evNeg hi0 hih
theorem FnNames : ∀ (l0 : (List Int)), (l0.length ≤ maxLen ∧ ∀ x ∈ l0, (Lit.int .u8 x).wf = true) → ∃ k, laws_FnNames.f k l0 = some true := by
  intro l0 hw
  refine Ev.rounds (g := fun k => laws_FnNames.f k l0) ?_
  simp only [laws_FnNames.f]
  refine evBindC (big_eq l0) ?_
  by_cases hbig : (l0.length : Int) > 1048576
  · exact evPos (by simpa using hbig) (Ev.now _)
  · obtain ⟨l, hd, hll, hls⟩ := DrawNamesOk_ev l0 (AllB.of_wf hw.2) (by omega)
    have hls' : ∀ s ∈ l, s.size ≤ 9223372036854775807 := fun s hs => by have := hls s hs; omega
    exact evNeg (by simpa using hbig) (Ev.bind hd (Ev.bind (iNamesOk_ev l (by omega) hls') (Ev.bind (sNamesOk_ev l (by omega) hls') (evNeg (by simp) (FnNames_l l hll hls l.length 0 (by omega))))))
end Go.Proofs.Ytcmlbjlbgcdogaa.Pure
