/- SHA-256 plainly: the same words in 32-bit and in 64-bit arithmetic; lengths and bounds. No program. -/
import Derived.Test.YtcbpfofkdipjhaaSRShaE
import Derived.Test.YtcbpfofkdipjhaaSRBase
namespace Go.Proofs.Ytcbpfofkdipjhaa.Sha
open Go.RowKit Go.Proofs.YtcbpfofkdipjhaaW.PrintWords Go.Proofs.YtcbpfofkdipjhaaW.PrintMore Go.Proofs.Ytcbpfofkdipjhaa.Base
set_option linter.unusedVariables false
def W32 (x : Int) : Prop := 0 ≤ x ∧ x < 4294967296
theorem hk32 (n : Int) (h0 : 0 ≤ n) (h1 : n < 2 ^ 32) : IntKind.u32.wrap n = n := by rw [IntKind.wrap_u32]; omega
theorem hk64 (n : Int) (h0 : 0 ≤ n) (h1 : n < 2 ^ 32) : IntKind.i64.wrap n = n := by rw [IntKind.wrap_i64]; omega
theorem xor_nat (k : IntKind) (hj : 32 ≤ k.bits) (hk : ∀ n : Int, 0 ≤ n → n < 2 ^ 32 → k.wrap n = n) (a b : Nat) (ha : a < 2 ^ 32) (hb : b < 2 ^ 32) : Go.bits .xor k a b = ((a ^^^ b : Nat) : Int) := by
  have hp : 2 ^ 32 ≤ 2 ^ k.bits := Nat.pow_le_pow_right (by decide) hj
  have ha' : a % 2 ^ k.bits = a := Nat.mod_eq_of_lt (Nat.lt_of_lt_of_le ha hp)
  have hb' : b % 2 ^ k.bits = b := Nat.mod_eq_of_lt (Nat.lt_of_lt_of_le hb hp)
  simp only [Go.bits, BitVec.ofInt_natCast, BitVec.toNat_xor, BitVec.toNat_ofNat, ha', hb']
  exact hk _ (Int.natCast_nonneg _) (by exact_mod_cast Nat.xor_lt_two_pow ha hb)
theorem W32.nat {x : Int} (h : W32 x) : ∃ a : Nat, x = (a : Int) ∧ a < 2 ^ 32 := by
  obtain ⟨h0, h1⟩ := h
  obtain ⟨a, rfl⟩ := Int.eq_ofNat_of_zero_le h0
  exact ⟨a, rfl, by omega⟩
theorem W32.of {a : Nat} (h : a < 2 ^ 32) : W32 (a : Int) := ⟨Int.natCast_nonneg _, by omega⟩
theorem W32.mod (x : Int) : W32 (x % 4294967296) := ⟨by omega, by omega⟩
theorem and_same {x y : Int} (hx : W32 x) (hy : W32 y) : Go.bits .and .i64 x y = Go.bits .and .u32 x y ∧ W32 (Go.bits .and .u32 x y) := by
  obtain ⟨a, rfl, ha⟩ := hx.nat
  obtain ⟨b, rfl, hb⟩ := hy.nat
  rw [(bits_nat .u32 32 (by decide) hk32 a b ha hb).1, (bits_nat .i64 32 (by decide) hk64 a b ha hb).1]
  exact ⟨rfl, W32.of (Nat.and_lt_two_pow _ hb)⟩
theorem or_same {x y : Int} (hx : W32 x) (hy : W32 y) : Go.bits .or .i64 x y = Go.bits .or .u32 x y ∧ W32 (Go.bits .or .u32 x y) := by
  obtain ⟨a, rfl, ha⟩ := hx.nat
  obtain ⟨b, rfl, hb⟩ := hy.nat
  rw [(bits_nat .u32 32 (by decide) hk32 a b ha hb).2, (bits_nat .i64 32 (by decide) hk64 a b ha hb).2]
  exact ⟨rfl, W32.of (Nat.or_lt_two_pow ha hb)⟩
theorem xor_same {x y : Int} (hx : W32 x) (hy : W32 y) : Go.bits .xor .i64 x y = Go.bits .xor .u32 x y ∧ W32 (Go.bits .xor .u32 x y) := by
  obtain ⟨a, rfl, ha⟩ := hx.nat
  obtain ⟨b, rfl, hb⟩ := hy.nat
  rw [xor_nat .u32 (by decide) hk32 a b ha hb, xor_nat .i64 (by decide) hk64 a b ha hb]
  exact ⟨rfl, W32.of (Nat.xor_lt_two_pow ha hb)⟩
theorem pow_cast (n : Nat) : (2 : Int) ^ n = ((2 ^ n : Nat) : Int) := by simp
theorem rotr_nat (a n : Nat) (ha : a < 2 ^ 32) (hn : n ≤ 32) : rotr n (a : Int) = ((a * 2 ^ (32 - n) % 2 ^ 32 ||| a / 2 ^ n : Nat) : Int) := by
  have h1 : a / 2 ^ n < 2 ^ 32 := Nat.lt_of_le_of_lt (Nat.div_le_self _ _) ha
  have h2 : a * 2 ^ (32 - n) % 2 ^ 32 < 2 ^ 32 := Nat.mod_lt _ (by decide)
  rw [rotr, IntKind.wrap_u32, pow_cast, pow_cast, ← Int.natCast_mul, show (4294967296 : Int) = ((2 ^ 32 : Nat) : Int) from rfl, ← Int.natCast_emod, ← Int.natCast_ediv]
  exact (bits_nat .u32 32 (by decide) hk32 _ _ h2 h1).2
theorem rotr_W32 (n : Nat) (hn : n ≤ 32) {x : Int} (hx : W32 x) : W32 (rotr n x) := by
  obtain ⟨a, rfl, ha⟩ := hx.nat
  rw [rotr_nat a n ha hn]
  exact W32.of (Nat.or_lt_two_pow (Nat.mod_lt _ (by decide)) (Nat.lt_of_le_of_lt (Nat.div_le_self _ _) ha))
/-- A turn as the reference reckons it, in 64 bits. -/
theorem turn64 (n : Nat) (h2 : 2 ≤ n) (hn : n ≤ 32) {x : Int} (hx : W32 x) : Go.bits .and .i64 (Go.bits .or .i64 (shr .i64 x (IntKind.u64.wrap (n : Int))) (shl .i64 x (IntKind.u64.wrap (wrap64 (32 - (n : Int)))))) 4294967295 = rotr n x := by
  obtain ⟨a, rfl, ha⟩ := hx.nat
  have h1 : a / 2 ^ n < 2 ^ 32 := Nat.lt_of_le_of_lt (Nat.div_le_self _ _) ha
  have h3 : a * 2 ^ (32 - n) < 2 ^ 63 := by
    have hp : 2 ^ (32 - n) ≤ 2 ^ 30 := Nat.pow_le_pow_right (by decide) (by omega)
    have := Nat.mul_lt_mul_of_lt_of_le ha hp (by decide)
    omega
  have h4 : a / 2 ^ n < 2 ^ 63 := by omega
  have hw : ∀ n : Int, 0 ≤ n → n < 2 ^ 63 → IntKind.i64.wrap n = n := fun n h0 h1 => by rw [IntKind.wrap_i64]; omega
  have e1 : IntKind.u64.wrap (n : Int) = (n : Int) := u64_id _ (by omega) (by omega)
  have e2 : IntKind.u64.wrap (wrap64 (32 - (n : Int))) = ((32 - n : Nat) : Int) := by
    rw [w64 (by omega) (by omega), u64_id _ (by omega) (by omega)]
    omega
  have e3 : shr .i64 (a : Int) (n : Int) = ((a / 2 ^ n : Nat) : Int) := by
    unfold shr
    rw [show min (n : Int).toNat IntKind.i64.bits = n by simp [IntKind.bits]; omega, pow_cast, ← Int.natCast_ediv]
  have e4 : shl .i64 (a : Int) ((32 - n : Nat) : Int) = ((a * 2 ^ (32 - n) : Nat) : Int) := by
    unfold shl
    rw [show min ((32 - n : Nat) : Int).toNat IntKind.i64.bits = 32 - n by simp [IntKind.bits]; omega, pow_cast, ← Int.natCast_mul]
    exact hw _ (Int.natCast_nonneg _) (by exact_mod_cast h3)
  have ho : a / 2 ^ n ||| a * 2 ^ (32 - n) < 2 ^ 63 := Nat.or_lt_two_pow h4 h3
  rw [e1, e2, e3, e4, (bits_nat .i64 63 (by decide) hw _ _ h4 h3).2, show (4294967295 : Int) = 2 ^ 32 - 1 from rfl, bits_mask .i64 63 (by decide) hw 32 (by decide) _ (Int.natCast_nonneg _) (by exact_mod_cast ho), rotr_nat a n ha hn, pow_cast, ← Int.natCast_emod, Nat.or_mod_two_pow, Nat.mod_eq_of_lt h1, Nat.or_comm]
theorem mask32 {x : Int} (h0 : 0 ≤ x) (h1 : x < 2 ^ 63) : Go.bits .and .i64 x 4294967295 = x % 4294967296 := by
  have hw : ∀ n : Int, 0 ≤ n → n < 2 ^ 63 → IntKind.i64.wrap n = n := fun n h0 h1 => by rw [IntKind.wrap_i64]; omega
  rw [show (4294967295 : Int) = 2 ^ 32 - 1 from rfl, bits_mask .i64 63 (by decide) hw 32 (by decide) _ h0 h1]
  rfl
/-! ### the words of a block -/
theorem by4_64 (b : List Int) (hb : AllB b) (i : Nat) (hi : 4 * i + 3 < b.length) :
    Go.bits .or .i64 (Go.bits .or .i64 (Go.bits .or .i64 (wrap64 ((wrap64 (rd b ((4 * i : Nat) : Int))) * 16777216)) (wrap64 ((wrap64 (rd b ((4 * i + 1 : Nat) : Int))) * 65536))) (wrap64 ((wrap64 (rd b ((4 * i + 2 : Nat) : Int))) * 256))) (wrap64 (rd b ((4 * i + 3 : Nat) : Int))) = by4 b i ∧ W32 (by4 b i) := by
  have b0 := hb.get (4 * i) (by omega)
  have b1 := hb.get (4 * i + 1) (by omega)
  have b2 := hb.get (4 * i + 2) (by omega)
  have b3 := hb.get (4 * i + 3) (by omega)
  unfold by4
  generalize rd b ((4 * i : Nat) : Int) = x0 at b0 ⊢
  generalize rd b ((4 * i + 1 : Nat) : Int) = x1 at b1 ⊢
  generalize rd b ((4 * i + 2 : Nat) : Int) = x2 at b2 ⊢
  generalize rd b ((4 * i + 3 : Nat) : Int) = x3 at b3 ⊢
  have e0 : wrap64 (wrap64 x0 * 16777216) = x0 * 16777216 := by rw [w64 (x := x0) (by omega) (by omega), w64 (by omega) (by omega)]
  have e1 : wrap64 (wrap64 x1 * 65536) = x1 * 65536 := by rw [w64 (x := x1) (by omega) (by omega), w64 (by omega) (by omega)]
  have e2 : wrap64 (wrap64 x2 * 256) = x2 * 256 := by rw [w64 (x := x2) (by omega) (by omega), w64 (by omega) (by omega)]
  have e3 : wrap64 x3 = x3 := w64 (by omega) (by omega)
  have f0 : IntKind.u32.wrap (IntKind.u32.wrap x0 * 16777216) = x0 * 16777216 := by rw [IntKind.wrap_u32, IntKind.wrap_u32]; omega
  have f1 : IntKind.u32.wrap (IntKind.u32.wrap x1 * 65536) = x1 * 65536 := by rw [IntKind.wrap_u32, IntKind.wrap_u32]; omega
  have f2 : IntKind.u32.wrap (IntKind.u32.wrap x2 * 256) = x2 * 256 := by rw [IntKind.wrap_u32, IntKind.wrap_u32]; omega
  have f3 : IntKind.u32.wrap x3 = x3 := by rw [IntKind.wrap_u32]; omega
  rw [e0, e1, e2, e3, f0, f1, f2, f3]
  have w0 : W32 (x0 * 16777216) := ⟨by omega, by omega⟩
  have w1 : W32 (x1 * 65536) := ⟨by omega, by omega⟩
  have w2 : W32 (x2 * 256) := ⟨by omega, by omega⟩
  have w3 : W32 x3 := ⟨by omega, by omega⟩
  obtain ⟨g1, v1⟩ := or_same w0 w1
  obtain ⟨g2, v2⟩ := or_same v1 w2
  obtain ⟨g3, v3⟩ := or_same v2 w3
  rw [g1, g2, g3]
  exact ⟨rfl, v3⟩
def AllW (l : List Int) : Prop := ∀ x ∈ l, W32 x
theorem AllW.getD {l : List Int} (h : AllW l) (i : Nat) : W32 (l.getD i 0) := by
  rw [List.getD_eq_getElem?_getD]
  cases hx : l[i]? with
  | none => exact ⟨by simp, by simp⟩
  | some x => exact h x (List.mem_of_getElem? hx)
theorem AllW.set {l : List Int} (h : AllW l) (i : Nat) {x : Int} (hx : W32 x) : AllW (l.set i x) := fun y hy => (List.mem_or_eq_of_mem_set hy).elim (h y) (fun e => e ▸ hx)
theorem wx_64 {x : Int} (hx : W32 x) : Go.bits .xor .i64 (Go.bits .xor .i64 (rotr 7 x) (rotr 18 x)) (x / 8) = wx x ∧ W32 (wx x) := by
  have h8 : W32 (x / 8) := ⟨by have := hx.1; omega, by have := hx.2; omega⟩
  obtain ⟨g1, v1⟩ := xor_same (rotr_W32 7 (by decide) hx) (rotr_W32 18 (by decide) hx)
  obtain ⟨g2, v2⟩ := xor_same v1 h8
  rw [g1, g2, wx]
  exact ⟨rfl, v2⟩
theorem wy_64 {x : Int} (hx : W32 x) : Go.bits .xor .i64 (Go.bits .xor .i64 (rotr 17 x) (rotr 19 x)) (x / 1024) = wy x ∧ W32 (wy x) := by
  have h8 : W32 (x / 1024) := ⟨by have := hx.1; omega, by have := hx.2; omega⟩
  obtain ⟨g1, v1⟩ := xor_same (rotr_W32 17 (by decide) hx) (rotr_W32 19 (by decide) hx)
  obtain ⟨g2, v2⟩ := xor_same v1 h8
  rw [g1, g2, wy]
  exact ⟨rfl, v2⟩
theorem sum4_64 {a s b t : Int} (ha : W32 a) (hs : W32 s) (hb : W32 b) (ht : W32 t) : Go.bits .and .i64 (wrap64 ((wrap64 ((wrap64 (a + s)) + b)) + t)) 4294967295 = IntKind.u32.wrap (IntKind.u32.wrap (IntKind.u32.wrap (a + s) + b) + t) := by
  obtain ⟨a0, a1⟩ := ha
  obtain ⟨s0, s1⟩ := hs
  obtain ⟨b0, b1⟩ := hb
  obtain ⟨t0, t1⟩ := ht
  rw [w64 (x := a + s) (by omega) (by omega), w64 (x := a + s + b) (by omega) (by omega), w64 (by omega) (by omega), mask32 (by omega) (by omega), IntKind.wrap_u32, IntKind.wrap_u32, IntKind.wrap_u32]
  omega
theorem u32_W32 (x : Int) : W32 (IntKind.u32.wrap x) := by rw [IntKind.wrap_u32]; exact W32.mod x
theorem wsA_W (b : List Int) (hb : AllB b) (h : b.length = 64) (k : Nat) (hk : k ≤ 16) : AllW (wsA b k) := by
  intro x hx
  rcases List.mem_append.1 hx with h1 | h1
  · obtain ⟨i, hi, rfl⟩ := List.mem_map.1 h1
    have := List.mem_range.1 hi
    exact (by4_64 b hb i (by omega)).2
  · rw [List.eq_of_mem_replicate h1]
    exact ⟨by simp, by simp⟩
theorem wsB_W (b : List Int) (hb : AllB b) (h : b.length = 64) : ∀ n, AllW (wsB b n)
  | 0 => wsA_W b hb h 16 (Nat.le_refl _)
  | n + 1 => (wsB_W b hb h n).set _ (u32_W32 _)
theorem wsB_take (b : List Int) (n : Nat) (hn : n + 16 < 64) : (wsB b (n + 1)).take (n + 16 + 1) = (wsB b n).take (n + 16) ++ [wv (wsB b n) (n + 16)] := by
  rw [wsB, take_snoc (by rw [List.length_set, wsB_len]; exact hn), List.getElem_set_self, List.take_set_of_le (Nat.le_refl _)]
theorem take_getD (l : List Int) (j i : Nat) (h : i < j) : (l.take j).getD i 0 = l.getD i 0 := by
  simp only [List.getD_eq_getElem?_getD, List.getElem?_take, if_pos h]
theorem wsA_take (b : List Int) (k : Nat) (hk : k ≤ 16) : (wsA b k).take k = (List.range k).map (by4 b) := by
  unfold wsA
  rw [List.take_append_of_le_length (by simp), List.take_of_length_le (by simp)]
/-! ### a round over the eight words -/
theorem kWords_W : AllW kWords := by
  unfold AllW W32
  decide
theorem max32 : IntKind.u32.max = 4294967295 := by decide
theorem s1_64 {x : Int} (hx : W32 x) : Go.bits .xor .i64 (Go.bits .xor .i64 (rotr 6 x) (rotr 11 x)) (rotr 25 x) = s1 x ∧ W32 (s1 x) := by
  obtain ⟨g1, v1⟩ := xor_same (rotr_W32 6 (by decide) hx) (rotr_W32 11 (by decide) hx)
  obtain ⟨g2, v2⟩ := xor_same v1 (rotr_W32 25 (by decide) hx)
  rw [g1, g2, s1]
  exact ⟨rfl, v2⟩
theorem s0_64 {x : Int} (hx : W32 x) : Go.bits .xor .i64 (Go.bits .xor .i64 (rotr 2 x) (rotr 13 x)) (rotr 22 x) = s0 x ∧ W32 (s0 x) := by
  obtain ⟨g1, v1⟩ := xor_same (rotr_W32 2 (by decide) hx) (rotr_W32 13 (by decide) hx)
  obtain ⟨g2, v2⟩ := xor_same v1 (rotr_W32 22 (by decide) hx)
  rw [g1, g2, s0]
  exact ⟨rfl, v2⟩
theorem ch_64 {e f g : Int} (he : W32 e) (hf : W32 f) (hg : W32 g) : Go.bits .xor .i64 (Go.bits .and .i64 e f) (Go.bits .and .i64 (Go.bits .xor .i64 4294967295 e) g) = ch e f g ∧ W32 (ch e f g) := by
  have hm : W32 4294967295 := ⟨by decide, by decide⟩
  obtain ⟨g1, v1⟩ := and_same he hf
  obtain ⟨g2, v2⟩ := xor_same hm he
  obtain ⟨g3, v3⟩ := and_same v2 hg
  obtain ⟨g4, v4⟩ := xor_same v1 v3
  rw [g1, g2, g3, g4, ch, max32]
  exact ⟨rfl, v4⟩
theorem maj_64 {a b c : Int} (ha : W32 a) (hb : W32 b) (hc : W32 c) : Go.bits .xor .i64 (Go.bits .xor .i64 (Go.bits .and .i64 a b) (Go.bits .and .i64 a c)) (Go.bits .and .i64 b c) = maj a b c ∧ W32 (maj a b c) := by
  obtain ⟨g1, v1⟩ := and_same ha hb
  obtain ⟨g2, v2⟩ := and_same ha hc
  obtain ⟨g3, v3⟩ := and_same hb hc
  obtain ⟨g4, v4⟩ := xor_same v1 v2
  obtain ⟨g5, v5⟩ := xor_same v4 v3
  rw [g1, g2, g3, g4, g5, maj]
  exact ⟨rfl, v5⟩
theorem tt_W (e f g h k w : Int) : W32 (tt e f g h k w) := W32.mod _
/-- The reference's sum behind a round, not yet cut to 32 bits. -/
def tt64 (e f g h k w : Int) : Int := wrap64 ((wrap64 ((wrap64 ((wrap64 (h + s1 e)) + ch e f g)) + k)) + w)
theorem tt64_eq {e f g h k w : Int} (he : W32 e) (hf : W32 f) (hg : W32 g) (hh : W32 h) (hk : W32 k) (hw : W32 w) : tt64 e f g h k w = h + s1 e + ch e f g + k + w ∧ 0 ≤ tt64 e f g h k w ∧ tt64 e f g h k w < 21474836480 := by
  have h1 := (s1_64 he).2
  have h2 := (ch_64 he hf hg).2
  unfold tt64
  generalize s1 e = S at h1 ⊢
  generalize ch e f g = C at h2 ⊢
  obtain ⟨a0, a1⟩ := h1
  obtain ⟨b0, b1⟩ := h2
  obtain ⟨c0, c1⟩ := hh
  obtain ⟨d0, d1⟩ := hk
  obtain ⟨e0, e1⟩ := hw
  rw [w64 (x := h + S) (by omega) (by omega), w64 (x := h + S + C) (by omega) (by omega), w64 (x := h + S + C + k) (by omega) (by omega), w64 (by omega) (by omega)]
  exact ⟨rfl, by omega, by omega⟩
theorem sum_a {a b c e f g h k w : Int} (ha : W32 a) (hb : W32 b) (hc : W32 c) (he : W32 e) (hf : W32 f) (hg : W32 g) (hh : W32 h) (hk : W32 k) (hw : W32 w) :
    Go.bits .and .i64 (wrap64 (tt64 e f g h k w + wrap64 (s0 a + maj a b c))) 4294967295 = (tt e f g h k w + s0 a + maj a b c) % 4294967296 := by
  obtain ⟨q1, q2, q3⟩ := tt64_eq he hf hg hh hk hw
  have h1 := (s0_64 ha).2
  have h2 := (maj_64 ha hb hc).2
  unfold tt
  rw [q1] at q2 q3 ⊢
  generalize s0 a = S at h1 ⊢
  generalize maj a b c = M at h2 ⊢
  generalize h + s1 e + ch e f g + k = T at q2 q3 ⊢
  obtain ⟨a0, a1⟩ := h1
  obtain ⟨b0, b1⟩ := h2
  obtain ⟨c0, c1⟩ := hw
  rw [w64 (x := S + M) (by omega) (by omega), w64 (by omega) (by omega), mask32 (by omega) (by omega)]
  omega
theorem sum_d {d e f g h k w : Int} (hd : W32 d) (he : W32 e) (hf : W32 f) (hg : W32 g) (hh : W32 h) (hk : W32 k) (hw : W32 w) :
    Go.bits .and .i64 (wrap64 (d + tt64 e f g h k w)) 4294967295 = (d + tt e f g h k w) % 4294967296 := by
  obtain ⟨q1, q2, q3⟩ := tt64_eq he hf hg hh hk hw
  unfold tt
  rw [q1] at q2 q3 ⊢
  generalize h + s1 e + ch e f g + k = T at q2 q3 ⊢
  obtain ⟨a0, a1⟩ := hd
  obtain ⟨c0, c1⟩ := hw
  rw [w64 (by omega) (by omega), mask32 (by omega) (by omega)]
  omega
theorem step8_W {l : List Int} (h : AllW l) (k w : Int) : AllW (step8 l k w) := by
  unfold step8
  split
  · rename_i a b c d e f g i
    intro x hx
    simp only [List.mem_cons, List.not_mem_nil, or_false] at hx
    rcases hx with rfl | rfl | rfl | rfl | rfl | rfl | rfl | rfl
    · exact W32.mod _
    · exact h _ (by simp)
    · exact h _ (by simp)
    · exact h _ (by simp)
    · exact W32.mod _
    · exact h _ (by simp)
    · exact h _ (by simp)
    · exact h _ (by simp)
  · exact h
theorem vs_W (hl ws : List Int) (h : AllW hl) : ∀ n, AllW (vs hl ws n)
  | 0 => h
  | n + 1 => step8_W (vs_W hl ws h n) _ _
theorem vs_len (hl ws : List Int) (h : hl.length = 8) (n : Nat) : (vs hl ws n).length = 8 := by
  obtain ⟨h0, h1, h2, h3, h4, h5, h6, h7, rfl⟩ := list8 h
  obtain ⟨v0, v1, v2, v3, v4, v5, v6, v7, hv⟩ := vs_form h0 h1 h2 h3 h4 h5 h6 h7 ws n
  rw [hv]
  rfl
theorem mixL_W (hl v : List Int) (h : AllW hl) : ∀ n, AllW (mixL hl v n)
  | 0 => h
  | n + 1 => (mixL_W hl v h n).set _ (W32.mod _)
theorem turn8_W (hl b : List Int) (h : AllW hl) : AllW (turn8 hl b) := mixL_W _ _ h _
theorem h8_W : AllW h8 := by
  unfold AllW W32
  decide
theorem hashed_W (p : List Int) (l : List Nat) : AllW (hashed p l) := by
  unfold hashed
  suffices ∀ h : List Int, AllW h → AllW (l.foldl (fun h k => turn8 h (chunkOf p k)) h) from this h8 h8_W
  induction l with
  | nil => exact fun h hh => hh
  | cons k l ih => exact fun h hh => ih _ (turn8_W _ _ hh)
theorem mixL_8 (h0 h1 h2 h3 h4 h5 h6 h7 v0 v1 v2 v3 v4 v5 v6 v7 : Int) : mixL [h0, h1, h2, h3, h4, h5, h6, h7] [v0, v1, v2, v3, v4, v5, v6, v7] 8 = [(h0 + v0) % 4294967296, (h1 + v1) % 4294967296, (h2 + v2) % 4294967296, (h3 + v3) % 4294967296, (h4 + v4) % 4294967296, (h5 + v5) % 4294967296, (h6 + v6) % 4294967296, (h7 + v7) % 4294967296] := rfl
/-- As the reference adds: onto the turned words. -/
def addL (hl v : List Int) : Nat → List Int
  | 0 => v
  | n + 1 => (addL hl v n).set n ((hl.getD n 0 + v.getD n 0) % 4294967296)
theorem addL_len (hl v : List Int) : ∀ n, (addL hl v n).length = v.length
  | 0 => rfl
  | n + 1 => by rw [addL, List.length_set]; exact addL_len hl v n
theorem addL_get (hl v : List Int) : ∀ n i, n ≤ i → (addL hl v n).getD i 0 = v.getD i 0
  | 0, i, _ => rfl
  | n + 1, i, h => by
    have := addL_get hl v n i (by omega)
    rw [addL, List.getD_eq_getElem?_getD, List.getElem?_set_ne (by omega), ← List.getD_eq_getElem?_getD, this]
theorem addL_mixL {hl v : List Int} (hh : hl.length = 8) (hv : v.length = 8) : addL hl v 8 = mixL hl v 8 := by
  obtain ⟨h0, h1, h2, h3, h4, h5, h6, h7, rfl⟩ := list8 hh
  obtain ⟨v0, v1, v2, v3, v4, v5, v6, v7, rfl⟩ := list8 hv
  rfl
theorem chunkOf_len (p : List Int) (m k : Nat) (hm : p.length = 64 * m) (hk : k < m) : (chunkOf p k).length = 64 := by
  unfold chunkOf
  rw [List.length_take, List.length_drop]
  omega
theorem chunkOf_B (p : List Int) (hp : AllB p) (k : Nat) : AllB (chunkOf p k) := fun x hx => hp x (List.mem_of_mem_drop (List.mem_of_mem_take hx))
theorem wordBytes_len (l : List Int) : (wordBytes l).length = 4 * l.length := by
  induction l with
  | nil => rfl
  | cons x l ih =>
    rw [show wordBytes (x :: l) = [x / 16777216 % 256, x / 65536 % 256, x / 256 % 256, x % 256] ++ wordBytes l from rfl, List.length_append, ih, List.length_cons]
    simp
    omega
theorem strOfNums_size (l : List Int) : (strOfNums l).size = l.length := by
  unfold strOfNums
  simp [ByteArray.size]
theorem digL_size (p : List Int) (m : Nat) : (digL p m).size = 32 := by
  rw [digL, strOfNums_size, wordBytes_len, hashed_len]
/-! ### padding -/
def tailB (m : Int) : Nat → List Int
  | 0 => []
  | j + 1 => (shr .i64 m (8 * (j : Int))) % 256 :: tailB m j
theorem tailB_len (m : Int) : ∀ j, (tailB m j).length = j
  | 0 => rfl
  | j + 1 => by rw [tailB, List.length_cons, tailB_len m j]
theorem tailB_B (m : Int) : ∀ j, AllB (tailB m j)
  | 0 => fun x hx => by simp [tailB] at hx
  | j + 1 => fun x hx => by
    rcases List.mem_cons.1 hx with rfl | hx
    · omega
    · exact tailB_B m j x hx
def padL (b : List Int) : List Int := b ++ [128] ++ List.replicate ((119 - b.length % 64) % 64) 0 ++ tailB (wrap64 ((b.length : Int) * 8)) 8
theorem padL_len (b : List Int) : (padL b).length = 64 * ((padL b).length / 64) ∧ 0 < (padL b).length / 64 ∧ b.length + 9 ≤ (padL b).length ∧ (padL b).length ≤ b.length + 72 := by
  have e : (padL b).length = b.length + 1 + (119 - b.length % 64) % 64 + 8 := by simp [padL, tailB_len]; omega
  rw [e]
  omega
theorem padL_B {b : List Int} (h : AllB b) : AllB (padL b) := by
  intro x hx
  rcases List.mem_append.1 hx with hx | hx
  · rcases List.mem_append.1 hx with hx | hx
    · rcases List.mem_append.1 hx with hx | hx
      · exact h x hx
      · simp at hx
        omega
    · have := List.eq_of_mem_replicate hx
      omega
  · exact tailB_B _ _ x hx
theorem padL_get (b : List Int) (i : Nat) (h : i < b.length) : rd (padL b) (i : Int) = rd b (i : Int) := by
  simp only [rd_nat, padL, List.append_assoc, List.getD_eq_getElem?_getD, List.getElem?_append_left h]
theorem padL_mark (b : List Int) : rd (padL b) (b.length : Int) = 128 := by
  simp only [rd_nat, padL, List.append_assoc, List.getD_eq_getElem?_getD, List.getElem?_append_right (Nat.le_refl _), Nat.sub_self]
  rfl
/-- The digest of bytes. -/
def dig (b : List Int) : ByteArray := digL (padL b) ((padL b).length / 64)
theorem dig_size (b : List Int) : (dig b).size = 32 := digL_size _ _
theorem bytes_B (s : ByteArray) : AllB (bytesOf s) := bytes_all s
theorem AllB_app {a b : List Int} (h : AllB a) (k : AllB b) : AllB (a ++ b) := fun x hx => (List.mem_append.1 hx).elim (h x) (k x)
theorem AllB_one {x : Int} (h : 0 ≤ x ∧ x ≤ 255) : AllB [x] := fun y hy => by rw [List.mem_singleton.1 hy]; exact h
/-- A leaf's digest, a node's digest. -/
def leafD (a : ByteArray) : ByteArray := dig ([0] ++ bytesOf a)
def nodeD (a b : ByteArray) : ByteArray := dig ([1] ++ bytesOf a ++ bytesOf b)
theorem leafD_size (a : ByteArray) : (leafD a).size = 32 := dig_size _
theorem nodeD_size (a b : ByteArray) : (nodeD a b).size = 32 := dig_size _
end Go.Proofs.Ytcbpfofkdipjhaa.Sha
