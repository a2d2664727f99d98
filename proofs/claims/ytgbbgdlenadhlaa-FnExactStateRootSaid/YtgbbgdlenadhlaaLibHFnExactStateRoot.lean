/- What the reference's digest computes, said plainly. No condition but sizes. -/
import Derived.Test.YtgbbgdlenadhlaaPJx0
import Derived.Test.YtgbbgdlenadhlaaPJx3
import Derived.Test.YtgbbgdlenadhlaaPJx6
import Derived.Test.YtgbbgdlenadhlaaPJx7
import Derived.Test.YtgbbgdlenadhlaaPJx8
import Derived.Test.YtgbbgdlenadhlaaPJx9
import Derived.Test.YtgbbgdlenadhlaaShaP
import Derived.Test.YtgbbgdlenadhlaaLibFnExactStateRoot
namespace Go.Proofs.Ytgbbgdlenadhlaa.PJ
open Go.RowKit Go.Proofs.YtgbbgdlenadhlaaW.PrintWords Go.Proofs.YtgbbgdlenadhlaaW.PrintLast Go.Proofs.YtgbbgdlenadhlaaW.PrintMore Go.Proofs.Ytgbbgdlenadhlaa.Base Go.Proofs.Ytgbbgdlenadhlaa.Sha
set_option linter.unusedVariables false
set_option linter.unusedSimpArgs false
theorem turn_eq (n : Nat) (h2 : 2 ≤ n) (hn : n ≤ 32) {x : Int} (hx : W32 x) : spec_l2Turn.f x (n : Int) = some (rotr n x) := by
  have e1 : IntKind.u64.wrap (n : Int) = (n : Int) := u64_id _ (by omega) (by omega)
  have e2 : IntKind.u64.wrap (wrap64 (32 - (n : Int))) = ((32 - n : Nat) : Int) := by
    rw [w64 (by omega) (by omega), u64_id _ (by omega) (by omega)]
    omega
  unfold spec_l2Turn.f
  rw [if_pos (by rw [e1]; omega), if_pos (by rw [e2]; omega), turn64 n h2 hn hx]
theorem words_l1 (b : List Int) (hb : AllB b) (hl : b.length = 64) : ∀ (d n : Nat), n + d = 48 → Ev (fun k => spec_l2Words.l1 k ((wsB b n).take (n + 16)) ((n + 16 : Nat) : Int)) (wsB b 48) := by
  intro d
  induction d with
  | zero =>
    intro n hn
    obtain rfl : n = 48 := by omega
    refine evOne fun k => ?_
    simp only [spec_l2Words.l1]
    rw [if_neg (by omega), List.take_of_length_le (by rw [wsB_len]; omega)]
  | succ d ih =>
    intro n hn
    have hW := wsB_W b hb hl n
    have hlen : ((wsB b n).take (n + 16)).length = n + 16 := by rw [List.length_take, wsB_len]; omega
    have r : ∀ i : Nat, i < n + 16 → rd ((wsB b n).take (n + 16)) (i : Int) = (wsB b n).getD i 0 := fun i hi => by rw [rd_nat, take_getD _ _ _ hi]
    have e15 : wrap64 (((n + 16 : Nat) : Int) - 15) = ((n + 1 : Nat) : Int) := by rw [w64 (by omega) (by omega)]; omega
    have e2 : wrap64 (((n + 16 : Nat) : Int) - 2) = ((n + 14 : Nat) : Int) := by rw [w64 (by omega) (by omega)]; omega
    have e16 : wrap64 (((n + 16 : Nat) : Int) - 16) = ((n : Nat) : Int) := by rw [w64 (by omega) (by omega)]; omega
    have e7 : wrap64 (((n + 16 : Nat) : Int) - 7) = ((n + 9 : Nat) : Int) := by rw [w64 (by omega) (by omega)]; omega
    have e1 : wrap64 (((n + 16 : Nat) : Int) + 1) = ((n + 1 + 16 : Nat) : Int) := by rw [w64 (by omega) (by omega)]; omega
    have h1 := hW.getD (n + 1)
    have h14 := hW.getD (n + 14)
    have h0 := hW.getD n
    have h9 := hW.getD (n + 9)
    have t7 := turn_eq 7 (by decide) (by decide) h1
    have t18 := turn_eq 18 (by decide) (by decide) h1
    have t17 := turn_eq 17 (by decide) (by decide) h14
    have t19 := turn_eq 19 (by decide) (by decide) h14
    have hwv : wv (wsB b n) (n + 16) = IntKind.u32.wrap (IntKind.u32.wrap (IntKind.u32.wrap ((wsB b n).getD n 0 + wx ((wsB b n).getD (n + 1) 0)) + (wsB b n).getD (n + 9) 0) + wy ((wsB b n).getD (n + 14) 0)) := by
      rw [wv, show n + 16 - 16 = n by omega, show n + 16 - 15 = n + 1 by omega, show n + 16 - 7 = n + 9 by omega, show n + 16 - 2 = n + 14 by omega]
    have ih' := ih (n + 1) (by omega)
    have ht : (wsB b (n + 1)).take (n + 1 + 16) = (wsB b n).take (n + 16) ++ [wv (wsB b n) (n + 16)] := by
      have := wsB_take b n (by omega)
      rwa [show n + 16 + 1 = n + 1 + 16 by omega] at this
    rw [ht] at ih'
    refine Ev.step (fun k => ?_) ih'
    simp only [spec_l2Words.l1]
    rw [if_pos (by omega), e15, e2, e16, e7, e1, hlen, r (n + 1) (by omega), r (n + 14) (by omega), r n (by omega), r (n + 9) (by omega)]
    rw [if_pos (by omega), if_pos (by omega), if_pos (by omega), if_pos (by omega)]
    rw [show (7 : Int) = ((7 : Nat) : Int) from rfl, show (18 : Int) = ((18 : Nat) : Int) from rfl, show (17 : Int) = ((17 : Nat) : Int) from rfl, show (19 : Int) = ((19 : Nat) : Int) from rfl, t7, t18, t17, t19]
    simp only [Option.bind_some]
    rw [if_pos (by omega), if_pos (by omega), if_pos (by omega), if_pos (by omega), if_pos (by omega)]
    rw [(wx_64 h1).1, (wy_64 h14).1, sum4_64 h0 (wx_64 h1).2 h9 (wy_64 h14).2, hwv]
theorem words_l0 (b : List Int) (hb : AllB b) (hl : b.length = 64) : ∀ (d i : Nat), i + d = 16 → Ev (fun k => spec_l2Words.l0 k b ((List.range i).map (by4 b)) (i : Int)) (wsB b 48) := by
  intro d
  induction d with
  | zero =>
    intro i hi
    obtain rfl : i = 16 := by omega
    have h1 := words_l1 b hb hl 48 0 (by omega)
    have e : (wsB b 0).take (0 + 16) = (List.range 16).map (by4 b) := wsA_take b 16 (Nat.le_refl _)
    rw [e] at h1
    refine Ev.step (fun k => ?_) h1
    simp only [spec_l2Words.l0]
    rw [if_neg (by omega)]
    rfl
  | succ d ih =>
    intro i hi
    have e0 : wrap64 (4 * (i : Int)) = ((4 * i : Nat) : Int) := by rw [w64 (by omega) (by omega)]; omega
    have e1 : wrap64 (((4 * i : Nat) : Int) + 1) = ((4 * i + 1 : Nat) : Int) := by rw [w64 (by omega) (by omega)]; omega
    have e2 : wrap64 (((4 * i : Nat) : Int) + 2) = ((4 * i + 2 : Nat) : Int) := by rw [w64 (by omega) (by omega)]; omega
    have e3 : wrap64 (((4 * i : Nat) : Int) + 3) = ((4 * i + 3 : Nat) : Int) := by rw [w64 (by omega) (by omega)]; omega
    have e4 : wrap64 ((i : Int) + 1) = ((i + 1 : Nat) : Int) := by rw [w64 (by omega) (by omega)]; omega
    have hw := (by4_64 b hb i (by omega)).1
    have ih' := ih (i + 1) (by omega)
    rw [List.range_succ, List.map_append] at ih'
    refine Ev.step (fun k => ?_) ih'
    simp only [spec_l2Words.l0]
    rw [if_pos (by omega), e0, e1, e2, e3, e4, hw]
    rw [if_pos (by omega), if_pos (by omega), if_pos (by omega), if_pos (by omega), if_pos (by omega), if_pos (by omega), if_pos (by omega), if_pos (by omega), if_pos (by simp; omega)]
    rfl
theorem words_ev (b : List Int) (hb : AllB b) (hl : b.length = 64) : Ev (fun k => spec_l2Words.f k b) (wsB b 48) := words_l0 b hb hl 16 0 (by omega)
theorem block_l1 (hl v : List Int) (hh : hl.length = 8) (hv : v.length = 8) (wh : AllW hl) (wv : AllW v) : ∀ (d n : Nat), n + d = 8 → Ev (fun k => spec_l2Block.l1 k hl (addL hl v n) (n : Int)) (mixL hl v 8) := by
  intro d
  induction d with
  | zero =>
    intro n hn
    obtain rfl : n = 8 := by omega
    refine evOne fun k => ?_
    simp only [spec_l2Block.l1]
    rw [if_neg (by omega), addL_mixL hh hv]
  | succ d ih =>
    intro n hn
    have a := wv.getD n
    have b := wh.getD n
    have hl1 := addL_len hl v n
    have e1 : wrap64 ((n : Int) + 1) = ((n + 1 : Nat) : Int) := by rw [w64 (by omega) (by omega)]; omega
    have e2 : Go.bits .and .i64 (wrap64 (v.getD n 0 + hl.getD n 0)) 4294967295 = (hl.getD n 0 + v.getD n 0) % 4294967296 := by
      obtain ⟨a0, a1⟩ := a
      obtain ⟨b0, b1⟩ := b
      rw [w64 (by omega) (by omega), mask32 (by omega) (by omega), Int.add_comm]
    refine Ev.step (fun k => ?_) (ih (n + 1) (by omega))
    simp only [spec_l2Block.l1]
    rw [if_pos (by omega), if_pos (by omega), if_pos (by omega), if_pos (by omega), e1, rd_nat, rd_nat, addL_get hl v n n (Nat.le_refl _), e2, Int.toNat_natCast]
    rfl
theorem block_l0 (b : List Int) (h0 h1 h2 h3 h4 h5 h6 h7 : Int) (wh : AllW [h0, h1, h2, h3, h4, h5, h6, h7]) (hb : AllB b) (hl : b.length = 64) : ∀ (d n : Nat), n + d = 64 →
    Ev (fun k => spec_l2Block.l0 k [h0, h1, h2, h3, h4, h5, h6, h7] kWords (wsB b 48) (vs [h0, h1, h2, h3, h4, h5, h6, h7] (wsB b 48) n) (n : Int)) (turn8 [h0, h1, h2, h3, h4, h5, h6, h7] b) := by
  intro d
  induction d with
  | zero =>
    intro n hn
    obtain rfl : n = 64 := by omega
    refine Ev.step (fun k => ?_) (block_l1 [h0, h1, h2, h3, h4, h5, h6, h7] (vs [h0, h1, h2, h3, h4, h5, h6, h7] (wsB b 48) 64) rfl (vs_len _ _ rfl _) wh (vs_W _ _ wh _) 8 0 (by omega))
    simp only [spec_l2Block.l0]
    rw [if_neg (by omega)]
    rfl
  | succ d ih =>
    intro n hn
    obtain ⟨v0, v1, v2, v3, v4, v5, v6, v7, hv⟩ := vs_form h0 h1 h2 h3 h4 h5 h6 h7 (wsB b 48) n
    have hw : AllW [v0, v1, v2, v3, v4, v5, v6, v7] := hv ▸ vs_W _ (wsB b 48) wh n
    have w0 : W32 v0 := hw _ (by simp)
    have w1 : W32 v1 := hw _ (by simp)
    have w2 : W32 v2 := hw _ (by simp)
    have w3 : W32 v3 := hw _ (by simp)
    have w4 : W32 v4 := hw _ (by simp)
    have w5 : W32 v5 := hw _ (by simp)
    have w6 : W32 v6 := hw _ (by simp)
    have w7 : W32 v7 := hw _ (by simp)
    have wk := kWords_W.getD n
    have ww := (wsB_W b hb hl 48).getD n
    have t6 := turn_eq 6 (by decide) (by decide) w4
    have t11 := turn_eq 11 (by decide) (by decide) w4
    have t25 := turn_eq 25 (by decide) (by decide) w4
    have t2 := turn_eq 2 (by decide) (by decide) w0
    have t13 := turn_eq 13 (by decide) (by decide) w0
    have t22 := turn_eq 22 (by decide) (by decide) w0
    have e1 : wrap64 ((n : Int) + 1) = ((n + 1 : Nat) : Int) := by rw [w64 (by omega) (by omega)]; omega
    have ih' := ih (n + 1) (by omega)
    rw [vs, hv] at ih'
    refine Ev.step (fun k => ?_) ih'
    rw [hv]
    have r0 : rd [v0, v1, v2, v3, v4, v5, v6, v7] 0 = v0 := rfl
    have r1 : rd [v0, v1, v2, v3, v4, v5, v6, v7] 1 = v1 := rfl
    have r2 : rd [v0, v1, v2, v3, v4, v5, v6, v7] 2 = v2 := rfl
    have r3 : rd [v0, v1, v2, v3, v4, v5, v6, v7] 3 = v3 := rfl
    have r4 : rd [v0, v1, v2, v3, v4, v5, v6, v7] 4 = v4 := rfl
    have r5 : rd [v0, v1, v2, v3, v4, v5, v6, v7] 5 = v5 := rfl
    have r6 : rd [v0, v1, v2, v3, v4, v5, v6, v7] 6 = v6 := rfl
    have r7 : rd [v0, v1, v2, v3, v4, v5, v6, v7] 7 = v7 := rfl
    have l8 : (([v0, v1, v2, v3, v4, v5, v6, v7] : List Int).length : Int) = 8 := rfl
    have lk : (kWords.length : Int) = 64 := rfl
    have lw : ((wsB b 48).length : Int) = 64 := by rw [wsB_len]; rfl
    simp only [spec_l2Block.l0, r0, r1, r2, r3, r4, r5, r6, r7, l8, lk, lw, e1]
    rw [if_pos (by omega), if_pos (by decide)]
    rw [show (6 : Int) = ((6 : Nat) : Int) from rfl, show (11 : Int) = ((11 : Nat) : Int) from rfl, show (25 : Int) = ((25 : Nat) : Int) from rfl, show (2 : Int) = ((2 : Nat) : Int) from rfl, show (13 : Int) = ((13 : Nat) : Int) from rfl, show (22 : Int) = ((22 : Nat) : Int) from rfl, t6, t11, t25, t2, t13, t22]
    simp only [Option.bind_some]
    rw [if_pos (by decide), if_pos (by decide), if_pos (by decide), if_pos (by omega), if_pos (by omega), if_pos (by omega), if_pos (by decide), if_pos (by decide), if_pos (by decide), if_pos (by decide)]
    rw [(s1_64 w4).1, (s0_64 w0).1, (ch_64 w4 w5 w6).1, (maj_64 w0 w1 w2).1, rd_nat, rd_nat]
    have qa := sum_a w0 w1 w2 w4 w5 w6 w7 wk ww
    have qd := sum_d w3 w4 w5 w6 w7 wk ww
    unfold tt64 at qa qd
    rw [qa, qd]
    rfl
theorem block_ev (hl b : List Int) (hh : hl.length = 8) (wh : AllW hl) (hb : AllB b) (h64 : b.length = 64) : Ev (fun k => spec_l2Block.f k hl b kWords) (turn8 hl b) := by
  obtain ⟨h0, h1, h2, h3, h4, h5, h6, h7, rfl⟩ := list8 hh
  simp only [spec_l2Block.f]
  refine Ev.bind (words_ev b hb h64) (evBindC rfl (evPos (by simp) ?_))
  exact block_l0 b h0 h1 h2 h3 h4 h5 h6 h7 wh hb h64 64 0 (by omega)
theorem digest_l1 (hl : List Int) (h8 : hl.length = 8) : ∀ (d n : Nat), n + d = 8 → Ev (fun k => spec_Digest.l1 k hl (wordBytes (hl.take n)) (n : Int)) (strOfNums (wordBytes hl)) := by
  intro d
  induction d with
  | zero =>
    intro n hn
    obtain rfl : n = 8 := by omega
    refine evOne fun k => ?_
    simp only [spec_Digest.l1]
    rw [if_neg (by omega), List.take_of_length_le (by omega)]
  | succ d ih =>
    intro n hn
    have e1 : wrap64 ((n : Int) + 1) = ((n + 1 : Nat) : Int) := by rw [w64 (by omega) (by omega)]; omega
    have ih' := ih (n + 1) (by omega)
    rw [wordBytes_take hl n (by omega)] at ih'
    refine Ev.step (fun k => ?_) ih'
    simp only [spec_Digest.l1, Option.bind_some]
    rw [if_pos (by omega), if_pos (by omega), if_pos (by omega), if_pos (by rw [wordBytes_len, List.length_take]; simp; omega), e1, rd_nat]
theorem digest_l0 (p : List Int) (m : Nat) (hm : p.length = 64 * m) (hp : AllB p) (hs : m ≤ 1000000000000) : ∀ (d n : Nat), n + d = m → Ev (fun k => spec_Digest.l0 k p (hashed p (List.range n)) kWords ((64 * n : Nat) : Int)) (digL p m) := by
  intro d
  induction d with
  | zero =>
    intro n hn
    obtain rfl : n = m := by omega
    refine Ev.step (fun k => ?_) (digest_l1 (hashed p (List.range n)) (hashed_len _ _) 8 0 (by omega))
    simp only [spec_Digest.l0]
    rw [if_neg (by omega)]
    rfl
  | succ d ih =>
    intro n hn
    have e1 : wrap64 (((64 * n : Nat) : Int) + 64) = ((64 * (n + 1) : Nat) : Int) := by rw [w64 (by omega) (by omega)]; omega
    have hc : (p.take (64 * (n + 1))).drop (64 * n) = chunkOf p n := by
      rw [List.drop_take, chunkOf]
      congr 1
      omega
    have hb := block_ev (hashed p (List.range n)) (chunkOf p n) (hashed_len _ _) (hashed_W _ _) (chunkOf_B p hp n) (chunkOf_len p m n hm (by omega))
    have ih' := ih (n + 1) (by omega)
    rw [List.range_succ, hashed_snoc] at ih'
    refine Ev.step (f := fun k => (spec_l2Block.f k (hashed p (List.range n)) (chunkOf p n) kWords).bind fun t => spec_Digest.l0 k p t kWords ((64 * (n + 1) : Nat) : Int)) (fun k => ?_) (Ev.bind hb ih')
    simp only [spec_Digest.l0, e1, Int.toNat_natCast, hc]
    rw [if_pos (by omega), if_pos (by omega), if_pos (by omega), if_pos (by omega)]
theorem sPad_l1 (m : Int) : ∀ (j : Nat) (x : List Int), j ≤ 8 → x.length + j < 140737488355328 → Ev (fun k => spec_Padded.l1 k x m (8 * (j : Int) - 8)) (x ++ tailB m j) := by
  intro j
  induction j with
  | zero =>
    intro x hj hl
    refine evOne fun k => ?_
    simp only [spec_Padded.l1]
    rw [if_neg (by omega), tailB, List.append_nil]
  | succ j ih =>
    intro x hj hl
    have h1 := ih (x ++ [(shr .i64 m (8 * (j : Int))) % 256]) (by omega) (by simp; omega)
    have e1 : (8 * ((j + 1 : Nat) : Int) - 8) = 8 * (j : Int) := by omega
    rw [List.append_assoc] at h1
    refine Ev.step (fun k => ?_) h1
    simp only [spec_Padded.l1]
    rw [e1, if_pos (by omega), u64_id _ (by omega) (by omega), if_pos (by omega), if_pos (by omega), w64 (by omega) (by omega)]
theorem sPad_l0 (b : List Int) (hb : b.length ≤ 281474976) : ∀ (d : Nat) (x : List Int), d < 64 → (x.length + d) % 64 = 56 → x.length + d ≤ 281474977 + 64 → Ev (fun k => spec_Padded.l0 k b x) (x ++ List.replicate d 0 ++ tailB (wrap64 ((b.length : Int) * 8)) 8) := by
  intro d
  induction d with
  | zero =>
    intro x hd hm hl
    have h1 := sPad_l1 (wrap64 ((b.length : Int) * 8)) 8 x (by omega) (by omega)
    rw [List.replicate_zero, List.append_nil]
    refine Ev.step (fun k => ?_) h1
    simp only [spec_Padded.l0]
    rw [if_pos (by omega)]
    rfl
  | succ d ih =>
    intro x hd hm hl
    have hne : ¬ (x.length : Int) % 64 = 56 := by omega
    have h1 := ih (x ++ [0]) (by omega) (by simp; omega) (by simp; omega)
    rw [List.append_assoc x, List.singleton_append, ← List.replicate_succ] at h1
    refine Ev.step (fun k => ?_) h1
    simp only [spec_Padded.l0]
    rw [if_neg hne, if_pos (by omega)]
theorem sPadded_ev (b : List Int) (hb : b.length ≤ 281474976) : Ev (fun k => spec_Padded.f k b) (padL b) := by
  simp only [spec_Padded.f, Option.bind_some, List.nil_append, List.length_nil, Nat.zero_add]
  exact evPos (by omega) (evPos (by omega) (sPad_l0 b hb ((119 - b.length % 64) % 64) (b ++ [128]) (by omega) (by simp; omega) (by simp; omega)))
theorem iPad_l1 (m : Int) : ∀ (j : Nat) (x : List Int), j ≤ 8 → x.length + j < 140737488355328 → Ev (fun k => impl_Padded.l1 k x m ((j : Int) - 1)) (x ++ tailB m j) := by
  intro j
  induction j with
  | zero =>
    intro x hj hl
    refine evOne fun k => ?_
    simp only [impl_Padded.l1]
    rw [if_neg (by omega), tailB, List.append_nil]
  | succ j ih =>
    intro x hj hl
    have h1 := ih (x ++ [(shr .i64 m (8 * (j : Int))) % 256]) (by omega) (by simp; omega)
    have e2 : (((j + 1 : Nat) : Int) - 1) = (j : Int) := by omega
    rw [List.append_assoc] at h1
    refine Ev.step (fun k => ?_) h1
    simp only [impl_Padded.l1]
    rw [e2, if_pos (by omega), w64 (x := 8 * (j : Int)) (by omega) (by omega), u64_id _ (by omega) (by omega), if_pos (by omega), if_pos (by omega), w64 (by omega) (by omega)]
theorem iPad_l0 (b : List Int) (hb : b.length ≤ 281474976) : ∀ (d : Nat) (x : List Int), d < 64 → (x.length + d) % 64 = 56 → x.length + d ≤ 281474977 + 64 → Ev (fun k => impl_Padded.l0 k b x) (x ++ List.replicate d 0 ++ tailB (wrap64 ((b.length : Int) * 8)) 8) := by
  intro d
  induction d with
  | zero =>
    intro x hd hm hl
    have h1 := iPad_l1 (wrap64 ((b.length : Int) * 8)) 8 x (by omega) (by omega)
    have ht : Int.tmod (wrap64 ((x.length : Int) + 8)) 64 = 0 := by
      rw [w64 (by omega) (by omega), Int.tmod_eq_emod_of_nonneg (by omega)]
      omega
    rw [List.replicate_zero, List.append_nil]
    refine Ev.step (fun k => ?_) h1
    simp only [impl_Padded.l0]
    rw [if_pos ht, Int.mul_comm 8]
    rfl
  | succ d ih =>
    intro x hd hm hl
    have ht : ¬ Int.tmod (wrap64 ((x.length : Int) + 8)) 64 = 0 := by
      rw [w64 (by omega) (by omega), Int.tmod_eq_emod_of_nonneg (by omega)]
      omega
    have h1 := ih (x ++ [0]) (by omega) (by simp; omega) (by simp; omega)
    rw [List.append_assoc x, List.singleton_append, ← List.replicate_succ] at h1
    refine Ev.step (fun k => ?_) h1
    simp only [impl_Padded.l0]
    rw [if_neg ht, if_pos (by omega)]
theorem iPadded_ev (b : List Int) (hb : b.length ≤ 281474976) : Ev (fun k => impl_Padded.f k b) (padL b) := by
  have hc : slices_Clone_byte_byte.f b = some b := by
    unfold slices_Clone_byte_byte.f
    rw [if_pos (by omega)]
  simp only [impl_Padded.f]
  exact evBindC hc (evPos (by omega) (iPad_l0 b hb ((119 - b.length % 64) % 64) (b ++ [128]) (by omega) (by simp; omega) (by simp; omega)))
theorem iDigest_ev (b : List Int) (hb : b.length ≤ 281474976) : Ev (fun k => impl_Digest.f k b) (dig b) := by
  have hl := padL_len b
  simp only [impl_Digest.f]
  exact Ev.bind (iPadded_ev b hb) (evPos ⟨hl.2.1, hl.1⟩ (Ev.now _))
theorem sDigest_ev (b : List Int) (hb : b.length ≤ 281474976) (hB : AllB b) : Ev (fun k => spec_Digest.f k b) (dig b) := by
  have hl := padL_len b
  simp only [spec_Digest.f]
  refine Ev.bind (sPadded_ev b hb) (evBindC (a := kWords) rfl ?_)
  exact digest_l0 (padL b) ((padL b).length / 64) hl.1 (padL_B hB) (by omega) ((padL b).length / 64) 0 (by omega)
theorem iLeaf_ev (a : ByteArray) (h : a.size ≤ 281474900) : Ev (fun k => impl_LeafDigest.f k a) (leafD a) := by
  have hl := bytes_length a
  simp only [impl_LeafDigest.f, Option.bind_some]
  exact evPos (by simp; omega) (Ev.bind (iDigest_ev _ (by simp; omega)) (Ev.now _))
theorem sLeaf_ev (a : ByteArray) (h : a.size ≤ 281474900) : Ev (fun k => spec_LeafDigest.f k a) (leafD a) := by
  have hl := bytes_length a
  simp only [spec_LeafDigest.f, Option.bind_some]
  exact evPos (by simp; omega) (Ev.bind (sDigest_ev _ (by simp; omega) (AllB_app (AllB_one (by omega)) (bytes_B a))) (Ev.now _))
theorem iNode_ev (a b : ByteArray) (h : a.size + b.size ≤ 281474900) : Ev (fun k => impl_NodeDigest.f k a b) (nodeD a b) := by
  have hl := bytes_length a
  have hl2 := bytes_length b
  simp only [impl_NodeDigest.f, Option.bind_some]
  exact evPos (by simp; omega) (evPos (by simp; omega) (Ev.bind (iDigest_ev _ (by simp; omega)) (Ev.now _)))
theorem sNode_ev (a b : ByteArray) (h : a.size + b.size ≤ 281474900) : Ev (fun k => spec_NodeDigest.f k a b) (nodeD a b) := by
  have hl := bytes_length a
  have hl2 := bytes_length b
  simp only [spec_NodeDigest.f, Option.bind_some]
  exact evPos (by simp; omega) (evPos (by simp; omega) (Ev.bind (sDigest_ev _ (by simp; omega) (AllB_app (AllB_app (AllB_one (by omega)) (bytes_B a)) (bytes_B b))) (Ev.now _)))
end Go.Proofs.Ytgbbgdlenadhlaa.PJ
