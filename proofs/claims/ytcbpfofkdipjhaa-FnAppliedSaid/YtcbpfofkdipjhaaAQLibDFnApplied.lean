/- What the draws give: enough of it for the laws. No condition but the code's size. -/
import Derived.Test.YtcbpfofkdipjhaaAQPMx0
import Derived.Test.YtcbpfofkdipjhaaAQPMx13
import Derived.Test.YtcbpfofkdipjhaaAQPMx14
import Derived.Test.YtcbpfofkdipjhaaAQPMx15
import Derived.Test.YtcbpfofkdipjhaaAQLibPFnApplied
namespace Go.Proofs.Ytcbpfofkdipjhaa.PM
open Go.RowKit Go.Proofs.YtcbpfofkdipjhaaW.PrintWords Go.Proofs.YtcbpfofkdipjhaaW.PrintLast Go.Proofs.YtcbpfofkdipjhaaW.PrintMore Go.Proofs.Ytcbpfofkdipjhaa.Base
set_option linter.unusedVariables false
/-- The cursor's place lies in its bytes. -/
def St (b : List Int) (i : Int) : Prop := AllB b ∧ b.length ≤ 281474976710656 ∧ 0 ≤ i ∧ i ≤ (b.length : Int)
theorem and255 (x : Int) : 0 ≤ Go.bits .and .i64 x 255 ∧ Go.bits .and .i64 x 255 ≤ 255 := by
  have h : (BitVec.ofInt 64 x &&& BitVec.ofInt 64 255).toNat ≤ 255 := by
    rw [BitVec.toNat_and];exact Nat.and_le_right
  have e : Go.bits .and .i64 x 255 = IntKind.i64.wrap ((BitVec.ofInt 64 x &&& BitVec.ofInt 64 255).toNat : Int) := rfl;rw [e, wraps_i64 _ (by omega) (by omega)]
  omega
theorem l1New_l (b : List Int) (hl : b.length ≤ 281474976710656) : ∀ (d i : Nat) (h : Int), i + d = b.length → ∃ h', Ev (fun k => spec_l1New.l0 k b h (i : Int)) (b, 0, h') := by
  intro d
  induction d with
  | zero =>
    intro i h hi;refine ⟨h, evOne fun k => ?_⟩;simp only [spec_l1New.l0];rw [if_neg (by omega)]
  | succ d ih =>
    intro i h hi
    by_cases h4 : (i : Int) < 4000
    · obtain ⟨h', hr⟩ := ih (i + 1) (Go.bits .and .i64 (wrap64 ((wrap64 ((wrap64 (h * 137)) + (wrap64 (rd b (i : Int))))) + 11)) 1073741823) (by omega)
      refine ⟨h', Ev.step (f := fun k => spec_l1New.l0 k b (Go.bits .and .i64 (wrap64 ((wrap64 ((wrap64 (h * 137)) + (wrap64 (rd b (i : Int))))) + 11)) 1073741823) ((i + 1 : Nat) : Int)) (fun k => ?_) hr⟩;simp only [spec_l1New.l0];rw [if_pos (by omega), if_pos h4, if_pos (by omega), w64 (x := (i : Int) + 1) (by omega) (by omega)];rfl
    · refine ⟨h, evOne fun k => ?_⟩
      simp only [spec_l1New.l0];rw [if_pos (by omega), if_neg h4]
theorem l1New_ev (b : List Int) (hb : AllB b) (hl : b.length ≤ 281474976710656) : ∃ h', Ev (fun k => spec_l1New.f k b) (b, 0, h') ∧ St b 0 := by
  obtain ⟨h', hr⟩ := l1New_l b hl b.length 0 _ (by omega);exact ⟨h', hr, hb, hl, by omega, by omega⟩
theorem l1Byte_eq (b : List Int) (i h : Int) (hs : St b i) : ∃ r i' h', spec_l1Byte.f b i h = some (r, i', h') ∧ St b i' ∧ 0 ≤ r ∧ r ≤ 255 := by
  obtain ⟨hb, hl, h0, h1⟩ := hs;unfold spec_l1Byte.f
  by_cases hlt : i < (b.length : Int)
  · rw [if_pos hlt, if_pos h0]
    exact ⟨_, _, _, rfl, ⟨hb, hl, by rw [w64 (by omega) (by omega)]; omega, by rw [w64 (by omega) (by omega)]; omega⟩, (and255 _).1, (and255 _).2⟩
  · rw [if_neg hlt]
    exact ⟨_, _, _, rfl, ⟨hb, hl, h0, h1⟩, (and255 _).1, (and255 _).2⟩
theorem tmod_below (x n : Int) (h0 : 0 ≤ x) (hn : 0 < n) : 0 ≤ x.tmod n ∧ x.tmod n < n := by
  rw [Int.tmod_eq_emod_of_nonneg h0];exact ⟨Int.emod_nonneg _ (by omega), Int.emod_lt_of_pos _ hn⟩
theorem l1Below_eq (b : List Int) (i h n : Int) (hs : St b i) : ∃ r i' h', spec_l1Below.f b i h n = some (r, i', h') ∧ St b i' ∧ 0 ≤ r ∧ (0 < n → r < n) ∧ (n ≤ 0 → r = 0) := by
  unfold spec_l1Below.f
  by_cases h0 : n ≤ 0
  · rw [if_pos h0]
    exact ⟨_, _, _, rfl, hs, by omega, fun _ => by omega, fun _ => rfl⟩
  · rw [if_neg h0]
    by_cases h1 : n ≤ 256
    · rw [if_pos h1]
      obtain ⟨r, i', h', e, hs', r0, r1⟩ := l1Byte_eq b i h hs;rw [e];simp only [Option.bind_some];rw [if_neg (by omega)];have := tmod_below r n r0 (by omega);exact ⟨_, _, _, rfl, hs', this.1, fun _ => this.2, fun _ => by omega⟩
    · rw [if_neg h1]
      obtain ⟨r, i', h', e, hs', r0, r1⟩ := l1Byte_eq b i h hs;obtain ⟨s, i2, h2, e2, hs2, s0, s1⟩ := l1Byte_eq b i' h' hs';obtain ⟨t, i3, h3, e3, hs3, t0, t1⟩ := l1Byte_eq b i2 h2 hs2;rw [e];simp only [Option.bind_some, e2, e3];rw [if_neg (by omega), w64 (x := r * 65536) (by omega) (by omega), w64 (x := s * 256) (by omega) (by omega), w64 (x := r * 65536 + s * 256) (by omega) (by omega), w64 (x := r * 65536 + s * 256 + t) (by omega) (by omega)];have := tmod_below (r * 65536 + s * 256 + t) n (by omega) (by omega);exact ⟨_, _, _, rfl, hs3, this.1, fun _ => this.2, fun _ => by omega⟩
theorem l1Int_eq (b : List Int) (i h : Int) (l : List Int) (hl0 : 0 < l.length) (hs : St b i) : ∃ r i' h', spec_l1Int.f b i h l = some (r, i', h') ∧ St b i' ∧ r ∈ l := by
  obtain ⟨r, i', h', e, hs', r0, r1, _⟩ := l1Below_eq b i h (l.length : Int) hs;have r1 := r1 (by omega);unfold spec_l1Int.f;rw [e];simp only [Option.bind_some];rw [if_pos r0, if_pos r1];refine ⟨_, _, _, rfl, hs', ?_⟩;obtain ⟨j, rfl⟩ := Int.eq_ofNat_of_zero_le r0;rw [rd_get (by omega)];exact List.getElem_mem _
theorem l1Once_eq (b : List Int) (i h n : Int) (hs : St b i) : ∃ r i' h', spec_l1Once.f b i h n = some (r, i', h') ∧ St b i' := by
  obtain ⟨r, i', h', e, hs', _⟩ := l1Below_eq b i h n hs;unfold spec_l1Once.f;rw [e];exact ⟨_, _, _, rfl, hs'⟩
theorem l1Str_eq (b : List Int) (i h : Int) (l : List ByteArray) (hl0 : 0 < l.length) (hs : St b i) : ∃ r i' h', spec_l1Str.f b i h l = some (r, i', h') ∧ St b i' ∧ r ∈ l := by
  obtain ⟨r, i', h', e, hs', r0, r1, _⟩ := l1Below_eq b i h (l.length : Int) hs;have r1 := r1 (by omega);unfold spec_l1Str.f;rw [e];simp only [Option.bind_some];rw [if_pos r0, if_pos r1];refine ⟨_, _, _, rfl, hs', ?_⟩;obtain ⟨j, rfl⟩ := Int.eq_ofNat_of_zero_le r0;unfold rdOf;rw [Int.toNat_natCast, List.getD_eq_getElem?_getD, List.getElem?_eq_getElem (by omega)];exact List.getElem_mem _
theorem l1Name_eq (b : List Int) (i h : Int) (hs : St b i) : ∃ r i' h', spec_l1Name.f b i h = some (r, i', h') ∧ St b i' ∧ r ∈ [(⟨#[97]⟩ : ByteArray), (⟨#[98]⟩ : ByteArray), (⟨#[99]⟩ : ByteArray), (⟨#[100]⟩ : ByteArray), (⟨#[101]⟩ : ByteArray), (⟨#[97, 49]⟩ : ByteArray)] := by
  obtain ⟨r, i', h', e, hs', hr⟩ := l1Str_eq b i h [(⟨#[97]⟩ : ByteArray), (⟨#[98]⟩ : ByteArray), (⟨#[99]⟩ : ByteArray), (⟨#[100]⟩ : ByteArray), (⟨#[101]⟩ : ByteArray), (⟨#[97, 49]⟩ : ByteArray)] (by simp) hs;unfold spec_l1Name.f;rw [e];exact ⟨_, _, _, rfl, hs', hr⟩
theorem name_size {r : ByteArray} (h : r ∈ [(⟨#[97]⟩ : ByteArray), (⟨#[98]⟩ : ByteArray), (⟨#[99]⟩ : ByteArray), (⟨#[100]⟩ : ByteArray), (⟨#[101]⟩ : ByteArray), (⟨#[97, 49]⟩ : ByteArray)]) : 1 ≤ r.size ∧ r.size ≤ 2 := by
  simp at h
  rcases h with rfl | rfl | rfl | rfl | rfl | rfl <;> decide
theorem l1NameAny_eq (b : List Int) (i h : Int) (hs : St b i) : ∃ r i' h', spec_l1NameAny.f b i h = some (r, i', h') ∧ St b i' ∧ r.size ≤ 9 := by
  obtain ⟨o, i1, h1, e1, s1⟩ := l1Once_eq b i h 10 hs;unfold spec_l1NameAny.f;rw [e1];simp only [Option.bind_some]
  cases o with
  | true =>
    rw [if_pos rfl];obtain ⟨r, i', h', e, hs', hr⟩ := l1Str_eq b i1 h1 [(⟨#[]⟩ : ByteArray), (⟨#[65]⟩ : ByteArray), (⟨#[116, 111, 111, 108, 111, 110, 103, 57, 57]⟩ : ByteArray), (⟨#[97, 32, 98]⟩ : ByteArray), (⟨#[101, 105, 103, 104, 116, 108, 101, 116]⟩ : ByteArray)] (by simp) s1;rw [e];refine ⟨_, _, _, rfl, hs', ?_⟩;simp at hr
    show r.size ≤ 9
    clear e
    rcases hr with rfl | rfl | rfl | rfl | rfl <;> decide
  | false =>
    rw [if_neg (by simp)];obtain ⟨r, i', h', e, hs', hr⟩ := l1Name_eq b i1 h1 s1;rw [e];exact ⟨_, _, _, rfl, hs', by have := name_size hr; show r.size ≤ 9; omega⟩
theorem five_at (j : Nat) (h : j < 5) : ∃ c : UInt8, c.toNat = 97 + j ∧ rdOf ByteArray.empty [(⟨#[97]⟩ : ByteArray), (⟨#[98]⟩ : ByteArray), (⟨#[99]⟩ : ByteArray), (⟨#[100]⟩ : ByteArray), (⟨#[101]⟩ : ByteArray)] (j : Int) = ⟨#[c]⟩ := by
  have : j = 0 ∨ j = 1 ∨ j = 2 ∨ j = 3 ∨ j = 4 := by omega
  rcases this with rfl | rfl | rfl | rfl | rfl
  · exact ⟨97, rfl, rfl⟩
  · exact ⟨98, rfl, rfl⟩
  · exact ⟨99, rfl, rfl⟩
  · exact ⟨100, rfl, rfl⟩
  · exact ⟨101, rfl, rfl⟩
/-- The names drawn: single letters that rise, below letter number j. -/
def Rise : List ByteArray → Nat → Prop
  | [], _ => True
  | s :: l, j => ∃ c : UInt8, s = ⟨#[c]⟩ ∧ 97 + j ≤ c.toNat ∧ c.toNat ≤ 101 ∧ Rise l (c.toNat - 96)
theorem l1Names_l (b : List Int) : ∀ (d j : Nat) (x : List ByteArray) (i h : Int), j + d = 5 → x.length ≤ j → St b i →
    ∃ r i' h', Ev (fun k => spec_l1Names.l0 k x (j : Int) b i h) (x ++ r, i', h') ∧ St b i' ∧ r.length ≤ d ∧ Rise r j := by
  intro d
  induction d with
  | zero =>
    intro j x i h hj hx hs;refine ⟨[], i, h, evOne fun k => ?_, hs, by simp, trivial⟩;simp only [spec_l1Names.l0];rw [if_neg (by omega), List.append_nil]
  | succ d ih =>
    intro j x i h hj hx hs;obtain ⟨o, i1, h1, e1, s1⟩ := l1Once_eq b i h 3 hs
    have rise_mono : ∀ (r : List ByteArray) (p q : Nat), p ≤ q → Rise r q → Rise r p := by
      intro r p q hpq hr
      cases r with
      | nil => trivial
      | cons s l => obtain ⟨c, hc, h2, h3⟩ := hr; exact ⟨c, hc, by omega, h3⟩
    cases o with
    | true =>
      obtain ⟨r, i', h', hr, hs', hrl, hri⟩ := ih (j + 1) x i1 h1 (by omega) (by omega) s1;refine ⟨r, i', h', Ev.step (f := fun k => spec_l1Names.l0 k x ((j + 1 : Nat) : Int) b i1 h1) (fun k => ?_) hr, hs', by omega, rise_mono r j (j + 1) (by omega) hri⟩;simp only [spec_l1Names.l0];rw [if_pos (by omega), e1];simp only [Option.bind_some];rw [if_pos trivial, w64 (by omega) (by omega)];rfl
    | false =>
      obtain ⟨c, hc, hcj⟩ := five_at j (by omega);obtain ⟨r, i', h', hr, hs', hrl, hri⟩ := ih (j + 1) (x ++ [⟨#[c]⟩]) i1 h1 (by omega) (by simp; omega) s1;refine ⟨⟨#[c]⟩ :: r, i', h', Ev.step (f := fun k => spec_l1Names.l0 k (x ++ [⟨#[c]⟩]) ((j + 1 : Nat) : Int) b i1 h1) (fun k => ?_) (evEq hr (by simp)), hs', by simp; omega, ⟨c, rfl, by omega, by omega, ?_⟩⟩
      · simp only [spec_l1Names.l0]
        rw [if_pos (by omega), e1];simp only [Option.bind_some];rw [if_neg (by simp), if_pos (by omega), if_pos (by simp; omega), if_pos (by omega), hcj, w64 (by omega) (by omega)];rfl
      · rw [show c.toNat - 96 = j + 1 by omega]; exact hri
theorem l1Names_ev (b : List Int) (i h : Int) (hs : St b i) : ∃ r i' h', Ev (fun k => spec_l1Names.f k b i h) (r, i', h') ∧ St b i' ∧ r.length ≤ 5 ∧ Rise r 0 := by
  obtain ⟨r, i', h', hr, hs', hrl, hri⟩ := l1Names_l b 5 0 [] i h rfl (by simp) hs;refine ⟨r, i', h', ?_, hs', hrl, hri⟩;rw [List.nil_append] at hr;exact hr
theorem rise_size {l : List ByteArray} : ∀ {j : Nat}, Rise l j → ∀ s ∈ l, s.size = 1 := by
  induction l with
  | nil => intro j _ s hs; simp at hs
  | cons a l ih =>
    intro j hr s hs;obtain ⟨c, rfl, _, _, hr'⟩ := hr
    rcases List.mem_cons.1 hs with rfl | hs
    · rfl
    · exact ih hr' s hs
theorem l5Tx_eq (b : List Int) (i h : Int) (hs : St b i) : ∃ kd fr tt am no i' h', spec_l5Tx.f b i h = some (kd, fr, tt, am, no, i', h') ∧ St b i' ∧ fr.size ≤ 2 ∧ tt.size ≤ 2 := by
  obtain ⟨k0, i1, h1, e1, s1, k00, k01, _⟩ := l1Below_eq b i h 3 hs;obtain ⟨fr, i2, h2, e2, s2, hf⟩ := l1Name_eq b i1 h1 s1;obtain ⟨am, i3, h3, e3, s3, _⟩ := l1Int_eq b i2 h2 [1, 5, 10, 3, 200] (by simp) s2;obtain ⟨no, i4, h4, e4, s4, _⟩ := l1Below_eq b i3 h3 4 s3;have hfs := name_size hf;unfold spec_l5Tx.f;rw [e1]; simp only [Option.bind_some];rw [e2]; simp only [Option.bind_some];rw [e3]; simp only [Option.bind_some];rw [e4]; simp only [Option.bind_some]
  by_cases hk : wrap64 (1 + k0) = 1
  · rw [if_pos hk]
    obtain ⟨tt, i5, h5, e5, s5, ht⟩ := l1Name_eq b i4 h4 s4;have hts := name_size ht;rw [e5];exact ⟨_, _, _, _, _, _, _, rfl, s5, by omega, by show tt.size ≤ 2; omega⟩
  · rw [if_neg hk]
    exact ⟨_, _, _, _, _, _, _, rfl, s4, by omega, by decide⟩
theorem l5Any_eq (b : List Int) (i h : Int) (hs : St b i) : ∃ kd fr tt am no i' h', spec_l5Any.f b i h = some (kd, fr, tt, am, no, i', h') ∧ St b i' ∧ fr.size ≤ 2 ∧ tt.size ≤ 9 := by
  obtain ⟨kd, fr, tt, am, no, i1, h1, e1, s1, hf, ht⟩ := l5Tx_eq b i h hs;obtain ⟨r, i2, h2, e2, s2, _⟩ := l1Below_eq b i1 h1 12 s1;unfold spec_l5Any.f;rw [e1]; simp only [Option.bind_some];rw [e2]; simp only [Option.bind_some]
  by_cases r0 : r = 0
  · rw [if_pos r0]
    obtain ⟨z, i3, h3, e3, s3, _⟩ := l1Below_eq b i2 h2 5 s2;rw [e3];exact ⟨_, _, _, _, _, _, _, rfl, s3, by omega, by omega⟩
  · rw [if_neg r0]
    by_cases r1 : r = 1
    · rw [if_pos r1]
      obtain ⟨z, i3, h3, e3, s3, _⟩ := l1Int_eq b i2 h2 [0, -1, 1000000, 1000001] (by simp) s2;rw [e3];exact ⟨_, _, _, _, _, _, _, rfl, s3, by omega, by omega⟩
    · rw [if_neg r1]
      by_cases r2 : r = 2
      · rw [if_pos r2]
        obtain ⟨z, i3, h3, e3, s3, hz⟩ := l1NameAny_eq b i2 h2 s2;rw [e3];exact ⟨_, _, _, _, _, _, _, rfl, s3, by omega, by omega⟩
      · rw [if_neg r2]
        by_cases r3 : r = 3
        · rw [if_pos r3]
          obtain ⟨z, i3, h3, e3, s3, _⟩ := l1Int_eq b i2 h2 [-1, 10000, 10001] (by simp) s2;rw [e3];exact ⟨_, _, _, _, _, _, _, rfl, s3, by omega, by omega⟩
        · rw [if_neg r3]
          exact ⟨_, _, _, _, _, _, _, rfl, s2, by omega, by omega⟩
end Go.Proofs.Ytcbpfofkdipjhaa.PM
