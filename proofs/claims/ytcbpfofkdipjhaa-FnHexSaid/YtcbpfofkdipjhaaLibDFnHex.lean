/- What the draws give: enough of it for the laws. No condition but the code's size. -/
import Derived.Test.YtcbpfofkdipjhaaPKx0
import Derived.Test.YtcbpfofkdipjhaaPKx1
import Derived.Test.YtcbpfofkdipjhaaLibPFnHex
namespace Go.Proofs.Ytcbpfofkdipjhaa.PK
open Go.RowKit Go.Proofs.YtcbpfofkdipjhaaW.PrintWords Go.Proofs.YtcbpfofkdipjhaaW.PrintLast Go.Proofs.YtcbpfofkdipjhaaW.PrintMore Go.Proofs.Ytcbpfofkdipjhaa.Base
set_option linter.unusedVariables false
/-- The cursor's place lies in its bytes. -/
def St (b : List Int) (i : Int) : Prop := AllB b ∧ b.length ≤ 281474976710656 ∧ 0 ≤ i ∧ i ≤ (b.length : Int)
theorem and255 (x : Int) : 0 ≤ Go.bits .and .i64 x 255 ∧ Go.bits .and .i64 x 255 ≤ 255 := by
  have h : (BitVec.ofInt 64 x &&& BitVec.ofInt 64 255).toNat ≤ 255 := by
    rw [BitVec.toNat_and]
    exact Nat.and_le_right
  have e : Go.bits .and .i64 x 255 = IntKind.i64.wrap ((BitVec.ofInt 64 x &&& BitVec.ofInt 64 255).toNat : Int) := rfl
  rw [e, wraps_i64 _ (by omega) (by omega)]
  omega
theorem l1New_l (b : List Int) (hl : b.length ≤ 281474976710656) : ∀ (d i : Nat) (h : Int), i + d = b.length → ∃ h', Ev (fun k => spec_l1New.l0 k b h (i : Int)) (b, 0, h') := by
  intro d
  induction d with
  | zero =>
    intro i h hi
    refine ⟨h, evOne fun k => ?_⟩
    simp only [spec_l1New.l0]
    rw [if_neg (by omega)]
  | succ d ih =>
    intro i h hi
    by_cases h4 : (i : Int) < 4000
    · obtain ⟨h', hr⟩ := ih (i + 1) (Go.bits .and .i64 (wrap64 ((wrap64 ((wrap64 (h * 137)) + (wrap64 (rd b (i : Int))))) + 11)) 1073741823) (by omega)
      refine ⟨h', Ev.step (f := fun k => spec_l1New.l0 k b (Go.bits .and .i64 (wrap64 ((wrap64 ((wrap64 (h * 137)) + (wrap64 (rd b (i : Int))))) + 11)) 1073741823) ((i + 1 : Nat) : Int)) (fun k => ?_) hr⟩
      simp only [spec_l1New.l0]
      rw [if_pos (by omega), if_pos h4, if_pos (by omega), w64 (x := (i : Int) + 1) (by omega) (by omega)]
      rfl
    · refine ⟨h, evOne fun k => ?_⟩
      simp only [spec_l1New.l0]
      rw [if_pos (by omega), if_neg h4]
theorem l1New_ev (b : List Int) (hb : AllB b) (hl : b.length ≤ 281474976710656) : ∃ h', Ev (fun k => spec_l1New.f k b) (b, 0, h') ∧ St b 0 := by
  obtain ⟨h', hr⟩ := l1New_l b hl b.length 0 _ (by omega)
  exact ⟨h', hr, hb, hl, by omega, by omega⟩
theorem l1Byte_eq (b : List Int) (i h : Int) (hs : St b i) : ∃ r i' h', spec_l1Byte.f b i h = some (r, i', h') ∧ St b i' ∧ 0 ≤ r ∧ r ≤ 255 := by
  obtain ⟨hb, hl, h0, h1⟩ := hs
  unfold spec_l1Byte.f
  by_cases hlt : i < (b.length : Int)
  · rw [if_pos hlt, if_pos h0]
    exact ⟨_, _, _, rfl, ⟨hb, hl, by rw [w64 (by omega) (by omega)]; omega, by rw [w64 (by omega) (by omega)]; omega⟩, (and255 _).1, (and255 _).2⟩
  · rw [if_neg hlt]
    exact ⟨_, _, _, rfl, ⟨hb, hl, h0, h1⟩, (and255 _).1, (and255 _).2⟩
theorem tmod_below (x n : Int) (h0 : 0 ≤ x) (hn : 0 < n) : 0 ≤ x.tmod n ∧ x.tmod n < n := by
  rw [Int.tmod_eq_emod_of_nonneg h0]
  exact ⟨Int.emod_nonneg _ (by omega), Int.emod_lt_of_pos _ hn⟩
theorem l1Below_eq (b : List Int) (i h n : Int) (hs : St b i) : ∃ r i' h', spec_l1Below.f b i h n = some (r, i', h') ∧ St b i' ∧ 0 ≤ r ∧ (0 < n → r < n) ∧ (n ≤ 0 → r = 0) := by
  unfold spec_l1Below.f
  by_cases h0 : n ≤ 0
  · rw [if_pos h0]
    exact ⟨_, _, _, rfl, hs, by omega, fun _ => by omega, fun _ => rfl⟩
  · rw [if_neg h0]
    by_cases h1 : n ≤ 256
    · rw [if_pos h1]
      obtain ⟨r, i', h', e, hs', r0, r1⟩ := l1Byte_eq b i h hs
      rw [e]
      simp only [Option.bind_some]
      rw [if_neg (by omega)]
      have := tmod_below r n r0 (by omega)
      exact ⟨_, _, _, rfl, hs', this.1, fun _ => this.2, fun _ => by omega⟩
    · rw [if_neg h1]
      obtain ⟨r, i', h', e, hs', r0, r1⟩ := l1Byte_eq b i h hs
      obtain ⟨s, i2, h2, e2, hs2, s0, s1⟩ := l1Byte_eq b i' h' hs'
      obtain ⟨t, i3, h3, e3, hs3, t0, t1⟩ := l1Byte_eq b i2 h2 hs2
      rw [e]
      simp only [Option.bind_some, e2, e3]
      rw [if_neg (by omega), w64 (x := r * 65536) (by omega) (by omega), w64 (x := s * 256) (by omega) (by omega), w64 (x := r * 65536 + s * 256) (by omega) (by omega), w64 (x := r * 65536 + s * 256 + t) (by omega) (by omega)]
      have := tmod_below (r * 65536 + s * 256 + t) n (by omega) (by omega)
      exact ⟨_, _, _, rfl, hs3, this.1, fun _ => this.2, fun _ => by omega⟩
theorem l1Int_eq (b : List Int) (i h : Int) (l : List Int) (hl0 : 0 < l.length) (hs : St b i) : ∃ r i' h', spec_l1Int.f b i h l = some (r, i', h') ∧ St b i' ∧ r ∈ l := by
  obtain ⟨r, i', h', e, hs', r0, r1, _⟩ := l1Below_eq b i h (l.length : Int) hs
  have r1 := r1 (by omega)
  unfold spec_l1Int.f
  rw [e]
  simp only [Option.bind_some]
  rw [if_pos r0, if_pos r1]
  refine ⟨_, _, _, rfl, hs', ?_⟩
  obtain ⟨j, rfl⟩ := Int.eq_ofNat_of_zero_le r0
  rw [rd_get (by omega)]
  exact List.getElem_mem _
theorem l1Bytes_l (b : List Int) (n : Nat) (hn : n ≤ 281474) : ∀ (d j : Nat) (x : List Int) (i h : Int), j + d = n → x.length = j → AllB x → St b i →
    ∃ r i' h', Ev (fun k => spec_l1Bytes.l0 k (n : Int) x (j : Int) b i h) (r, i', h') ∧ St b i' ∧ r.length = n ∧ AllB r := by
  intro d
  induction d with
  | zero =>
    intro j x i h hj hx ha hs
    refine ⟨x, i, h, evOne fun k => ?_, hs, by omega, ha⟩
    simp only [spec_l1Bytes.l0]
    rw [if_neg (by omega)]
  | succ d ih =>
    intro j x i h hj hx ha hs
    obtain ⟨r, i', h', e, hs', r0, r1⟩ := l1Byte_eq b i h hs
    obtain ⟨q, i2, h2, hr, hs2, hq⟩ := ih (j + 1) (x ++ [r % 256]) i' h' (by omega) (by simp; omega) (by
      intro y hy
      rcases List.mem_append.1 hy with hy | hy
      · exact ha y hy
      · simp at hy; omega) hs'
    refine ⟨q, i2, h2, Ev.step (f := fun k => spec_l1Bytes.l0 k (n : Int) (x ++ [r % 256]) ((j + 1 : Nat) : Int) b i' h') (fun k => ?_) hr, hs2, hq⟩
    simp only [spec_l1Bytes.l0]
    rw [if_pos (by omega), e]
    simp only [Option.bind_some]
    rw [if_pos (by omega), w64 (by omega) (by omega)]
    rfl
theorem l1Bytes_ev (b : List Int) (i h : Int) (n : Int) (h0 : 0 ≤ n) (hn : n ≤ 281474) (hs : St b i) : ∃ r i' h', Ev (fun k => spec_l1Bytes.f k b i h n) (r, i', h') ∧ St b i' ∧ (r.length : Int) = n ∧ AllB r := by
  obtain ⟨m, rfl⟩ := Int.eq_ofNat_of_zero_le h0
  obtain ⟨r, i', h', hr, hs', hl, ha⟩ := l1Bytes_l b m (by omega) m 0 [] i h (by omega) rfl (fun _ h => by simp at h) hs
  exact ⟨r, i', h', hr, hs', by omega, ha⟩
theorem l1Some_ev (b : List Int) (i h : Int) (hs : St b i) : ∃ r i' h', Ev (fun k => spec_l1Some.f k b i h) (r, i', h') ∧ St b i' ∧ r.length ≤ 9 ∧ AllB r := by
  obtain ⟨n, i', h', e, hs', hn⟩ := l1Int_eq b i h [0, 1, 2, 5, 9] (by simp) hs
  have hn' : 0 ≤ n ∧ n ≤ 9 := by simp at hn; omega
  obtain ⟨r, i2, h2, hr, hs2, hl, ha⟩ := l1Bytes_ev b i' h' n hn'.1 (by omega) hs'
  refine ⟨r, i2, h2, ?_, hs2, by omega, ha⟩
  simp only [spec_l1Some.f]
  exact evBindC e (Ev.bind hr (Ev.now _))
end Go.Proofs.Ytcbpfofkdipjhaa.PK
