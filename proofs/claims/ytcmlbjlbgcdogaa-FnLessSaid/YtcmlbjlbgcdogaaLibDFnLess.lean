/- What the draws give: enough of it for the laws. No condition but the code's size. -/
import Derived.Test.YtcmlbjlbgcdogaaPEx0
import Derived.Test.YtcmlbjlbgcdogaaPEx2
import Derived.Test.YtcmlbjlbgcdogaaPEx3
import Derived.Test.YtcmlbjlbgcdogaaLibPFnLess
namespace Go.Proofs.Ytcmlbjlbgcdogaa.PE
open Go.RowKit Go.Proofs.YtcmlbjlbgcdogaaW.PrintWords Go.Proofs.YtcmlbjlbgcdogaaW.PrintLast Go.Proofs.YtcmlbjlbgcdogaaW.PrintMore Go.Proofs.Ytcmlbjlbgcdogaa.Base
set_option linter.unusedVariables false
/-- The cursor's place lies in its bytes. -/
def St (b : List Int) (i : Int) : Prop := AllB b ∧ b.length ≤ 281474976710656 ∧ 0 ≤ i ∧ i ≤ (b.length : Int)
theorem and255 (x : Int) : 0 ≤ Go.bits .and .i64 x 255 ∧ Go.bits .and .i64 x 255 ≤ 255 := by
  have h : (BitVec.ofInt 64 x &&& BitVec.ofInt 64 255).toNat ≤ 255 := by
    rw [BitVec.toNat_and]
    exact Nat.and_le_right
  have e : Go.bits .and .i64 x 255 = IntKind.i64.wrap ((BitVec.ofInt 64 x &&& BitVec.ofInt 64 255).toNat : Int) := rfl
  rw [e, wraps_i64 _ (by omega) (by omega)]
  omega
theorem l1New_l (b : List Int) (hl : b.length ≤ 281474976710656) : ∀ (d i : Nat) (h : Int), i + d = b.length → ∃ h', Ev (fun k => spec_l1New.l0 k b h (i : Int)) (b, 0, h') := by
  intro d
  induction d with
  | zero =>
    intro i h hi
    refine ⟨h, evOne fun k => ?_⟩
    simp only [spec_l1New.l0]
    rw [if_neg (by omega)]
  | succ d ih =>
    intro i h hi
    by_cases h4 : (i : Int) < 4000
    · obtain ⟨h', hr⟩ := ih (i + 1) (Go.bits .and .i64 (wrap64 ((wrap64 ((wrap64 (h * 137)) + (wrap64 (rd b (i : Int))))) + 11)) 1073741823) (by omega)
      refine ⟨h', Ev.step (f := fun k => spec_l1New.l0 k b (Go.bits .and .i64 (wrap64 ((wrap64 ((wrap64 (h * 137)) + (wrap64 (rd b (i : Int))))) + 11)) 1073741823) ((i + 1 : Nat) : Int)) (fun k => ?_) hr⟩
      simp only [spec_l1New.l0]
      rw [if_pos (by omega), if_pos h4, if_pos (by omega), w64 (x := (i : Int) + 1) (by omega) (by omega)]
      rfl
    · refine ⟨h, evOne fun k => ?_⟩
      simp only [spec_l1New.l0]
      rw [if_pos (by omega), if_neg h4]
theorem l1New_ev (b : List Int) (hb : AllB b) (hl : b.length ≤ 281474976710656) : ∃ h', Ev (fun k => spec_l1New.f k b) (b, 0, h') ∧ St b 0 := by
  obtain ⟨h', hr⟩ := l1New_l b hl b.length 0 _ (by omega)
  exact ⟨h', hr, hb, hl, by omega, by omega⟩
theorem l1Byte_eq (b : List Int) (i h : Int) (hs : St b i) : ∃ r i' h', spec_l1Byte.f b i h = some (r, i', h') ∧ St b i' ∧ 0 ≤ r ∧ r ≤ 255 := by
  obtain ⟨hb, hl, h0, h1⟩ := hs
  unfold spec_l1Byte.f
  by_cases hlt : i < (b.length : Int)
  · rw [if_pos hlt, if_pos h0]
    exact ⟨_, _, _, rfl, ⟨hb, hl, by rw [w64 (by omega) (by omega)]; omega, by rw [w64 (by omega) (by omega)]; omega⟩, (and255 _).1, (and255 _).2⟩
  · rw [if_neg hlt]
    exact ⟨_, _, _, rfl, ⟨hb, hl, h0, h1⟩, (and255 _).1, (and255 _).2⟩
theorem tmod_below (x n : Int) (h0 : 0 ≤ x) (hn : 0 < n) : 0 ≤ x.tmod n ∧ x.tmod n < n := by
  rw [Int.tmod_eq_emod_of_nonneg h0]
  exact ⟨Int.emod_nonneg _ (by omega), Int.emod_lt_of_pos _ hn⟩
theorem l1Below_eq (b : List Int) (i h n : Int) (hs : St b i) : ∃ r i' h', spec_l1Below.f b i h n = some (r, i', h') ∧ St b i' ∧ 0 ≤ r ∧ (0 < n → r < n) ∧ (n ≤ 0 → r = 0) := by
  unfold spec_l1Below.f
  by_cases h0 : n ≤ 0
  · rw [if_pos h0]
    exact ⟨_, _, _, rfl, hs, by omega, fun _ => by omega, fun _ => rfl⟩
  · rw [if_neg h0]
    by_cases h1 : n ≤ 256
    · rw [if_pos h1]
      obtain ⟨r, i', h', e, hs', r0, r1⟩ := l1Byte_eq b i h hs
      rw [e]
      simp only [Option.bind_some]
      rw [if_neg (by omega)]
      have := tmod_below r n r0 (by omega)
      exact ⟨_, _, _, rfl, hs', this.1, fun _ => this.2, fun _ => by omega⟩
    · rw [if_neg h1]
      obtain ⟨r, i', h', e, hs', r0, r1⟩ := l1Byte_eq b i h hs
      obtain ⟨s, i2, h2, e2, hs2, s0, s1⟩ := l1Byte_eq b i' h' hs'
      obtain ⟨t, i3, h3, e3, hs3, t0, t1⟩ := l1Byte_eq b i2 h2 hs2
      rw [e]
      simp only [Option.bind_some, e2, e3]
      rw [if_neg (by omega), w64 (x := r * 65536) (by omega) (by omega), w64 (x := s * 256) (by omega) (by omega), w64 (x := r * 65536 + s * 256) (by omega) (by omega), w64 (x := r * 65536 + s * 256 + t) (by omega) (by omega)]
      have := tmod_below (r * 65536 + s * 256 + t) n (by omega) (by omega)
      exact ⟨_, _, _, rfl, hs3, this.1, fun _ => this.2, fun _ => by omega⟩
theorem l1Int_eq (b : List Int) (i h : Int) (l : List Int) (hl0 : 0 < l.length) (hs : St b i) : ∃ r i' h', spec_l1Int.f b i h l = some (r, i', h') ∧ St b i' ∧ r ∈ l := by
  obtain ⟨r, i', h', e, hs', r0, r1, _⟩ := l1Below_eq b i h (l.length : Int) hs
  have r1 := r1 (by omega)
  unfold spec_l1Int.f
  rw [e]
  simp only [Option.bind_some]
  rw [if_pos r0, if_pos r1]
  refine ⟨_, _, _, rfl, hs', ?_⟩
  obtain ⟨j, rfl⟩ := Int.eq_ofNat_of_zero_le r0
  rw [rd_get (by omega)]
  exact List.getElem_mem _
theorem l1Once_eq (b : List Int) (i h n : Int) (hs : St b i) : ∃ r i' h', spec_l1Once.f b i h n = some (r, i', h') ∧ St b i' := by
  obtain ⟨r, i', h', e, hs', _⟩ := l1Below_eq b i h n hs
  unfold spec_l1Once.f
  rw [e]
  exact ⟨_, _, _, rfl, hs'⟩
theorem l1Str_eq (b : List Int) (i h : Int) (l : List ByteArray) (hl0 : 0 < l.length) (hs : St b i) : ∃ r i' h', spec_l1Str.f b i h l = some (r, i', h') ∧ St b i' ∧ r ∈ l := by
  obtain ⟨r, i', h', e, hs', r0, r1, _⟩ := l1Below_eq b i h (l.length : Int) hs
  have r1 := r1 (by omega)
  unfold spec_l1Str.f
  rw [e]
  simp only [Option.bind_some]
  rw [if_pos r0, if_pos r1]
  refine ⟨_, _, _, rfl, hs', ?_⟩
  obtain ⟨j, rfl⟩ := Int.eq_ofNat_of_zero_le r0
  unfold rdOf
  rw [Int.toNat_natCast, List.getD_eq_getElem?_getD, List.getElem?_eq_getElem (by omega)]
  exact List.getElem_mem _
theorem l1Name_eq (b : List Int) (i h : Int) (hs : St b i) : ∃ r i' h', spec_l1Name.f b i h = some (r, i', h') ∧ St b i' ∧ r ∈ [(⟨#[97]⟩ : ByteArray), (⟨#[98]⟩ : ByteArray), (⟨#[99]⟩ : ByteArray), (⟨#[100]⟩ : ByteArray), (⟨#[101]⟩ : ByteArray), (⟨#[97, 49]⟩ : ByteArray)] := by
  obtain ⟨r, i', h', e, hs', hr⟩ := l1Str_eq b i h [(⟨#[97]⟩ : ByteArray), (⟨#[98]⟩ : ByteArray), (⟨#[99]⟩ : ByteArray), (⟨#[100]⟩ : ByteArray), (⟨#[101]⟩ : ByteArray), (⟨#[97, 49]⟩ : ByteArray)] (by simp) hs
  unfold spec_l1Name.f
  rw [e]
  exact ⟨_, _, _, rfl, hs', hr⟩
theorem name_size {r : ByteArray} (h : r ∈ [(⟨#[97]⟩ : ByteArray), (⟨#[98]⟩ : ByteArray), (⟨#[99]⟩ : ByteArray), (⟨#[100]⟩ : ByteArray), (⟨#[101]⟩ : ByteArray), (⟨#[97, 49]⟩ : ByteArray)]) : 1 ≤ r.size ∧ r.size ≤ 2 := by
  simp at h
  rcases h with rfl | rfl | rfl | rfl | rfl | rfl <;> decide
theorem l5Tx_eq (b : List Int) (i h : Int) (hs : St b i) : ∃ kd fr tt am no i' h', spec_l5Tx.f b i h = some (kd, fr, tt, am, no, i', h') ∧ St b i' ∧ fr.size ≤ 2 ∧ tt.size ≤ 2 := by
  obtain ⟨k0, i1, h1, e1, s1, k00, k01, _⟩ := l1Below_eq b i h 3 hs
  obtain ⟨fr, i2, h2, e2, s2, hf⟩ := l1Name_eq b i1 h1 s1
  obtain ⟨am, i3, h3, e3, s3, _⟩ := l1Int_eq b i2 h2 [1, 5, 10, 3, 200] (by simp) s2
  obtain ⟨no, i4, h4, e4, s4, _⟩ := l1Below_eq b i3 h3 4 s3
  have hfs := name_size hf
  unfold spec_l5Tx.f
  rw [e1]; simp only [Option.bind_some]
  rw [e2]; simp only [Option.bind_some]
  rw [e3]; simp only [Option.bind_some]
  rw [e4]; simp only [Option.bind_some]
  by_cases hk : wrap64 (1 + k0) = 1
  · rw [if_pos hk]
    obtain ⟨tt, i5, h5, e5, s5, ht⟩ := l1Name_eq b i4 h4 s4
    have hts := name_size ht
    rw [e5]
    exact ⟨_, _, _, _, _, _, _, rfl, s5, by omega, by show tt.size ≤ 2; omega⟩
  · rw [if_neg hk]
    exact ⟨_, _, _, _, _, _, _, rfl, s4, by omega, by decide⟩
theorem DrawTxLess_ev (b : List Int) (hb : AllB b) (hl : b.length ≤ 281474976710656) : ∃ r, Ev (fun k => spec_DrawTxLess.f k b) r := by
  obtain ⟨h0, e0, s0⟩ := l1New_ev b hb hl
  obtain ⟨kd, fr, tt, am, no, i1, h1, e1, s1, _, _⟩ := l5Tx_eq b 0 h0 s0
  obtain ⟨o, i2, h2, e2, s2⟩ := l1Once_eq b i1 h1 3 s1
  have key : ∃ r, Ev (fun k => (spec_l1Once.f b i1 h1 3).bind fun bt482 => (if bt482.1 = true then (some (kd, fr, tt, am, no, kd, fr, tt, am, no)) else ((spec_l5Tx.f b bt482.2.1 bt482.2.2).bind fun bt485 => ((spec_l1Once.f b bt485.2.2.2.2.2.1 bt485.2.2.2.2.2.2 2).bind fun bt493 => (if bt493.1 = true then (some (kd, fr, tt, am, no, bt485.1, fr, bt485.2.2.1, bt485.2.2.2.1, no)) else (some (kd, fr, tt, am, no, bt485.1, bt485.2.1, bt485.2.2.1, bt485.2.2.2.1, bt485.2.2.2.2.1))))))) r := by
    cases o with
    | true => exact ⟨_, evBindC e2 (evPos rfl (Ev.now _))⟩
    | false =>
      obtain ⟨kd', fr', tt', am', no', i3, h3, e3, s3, _, _⟩ := l5Tx_eq b i2 h2 s2
      obtain ⟨o', i4, h4, e4, s4⟩ := l1Once_eq b i3 h3 2 s3
      cases o' with
      | true => exact ⟨_, evBindC e2 (evNeg (by simp) (evBindC e3 (evBindC e4 (evPos rfl (Ev.now _)))))⟩
      | false => exact ⟨_, evBindC e2 (evNeg (by simp) (evBindC e3 (evBindC e4 (evNeg (by simp) (Ev.now _)))))⟩
  obtain ⟨r, hr⟩ := key
  refine ⟨r, ?_⟩
  simp only [spec_DrawTxLess.f]
  exact Ev.bind e0 (evBindC e1 hr)
end Go.Proofs.Ytcmlbjlbgcdogaa.PE
