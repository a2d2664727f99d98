/- The machine's side of Go functions: each as a plain function,and that the call does what it says. Written by a program (wip/mprint). -/
import Derived.Lib.Hide
import Derived.Test.YtcbpfofkdipjhaaAAPJx0
import Derived.Test.YtcbpfofkdipjhaaAAPJx9
import Derived.Test.YtcbpfofkdipjhaaAAPJx11
namespace Go.Proofs.Ytcbpfofkdipjhaa.PJ
open Go.RowKit Go.Proofs.YtcbpfofkdipjhaaW.PrintWords Go.Proofs.YtcbpfofkdipjhaaW.PrintLast Go.Proofs.YtcbpfofkdipjhaaW.PrintMore
attribute [local go_sem] max2_int min2_int max_two min_two max_three min_three max_four min_four   -- for this text's walks alone
set_option linter.unusedVariables false
set_option linter.unusedSimpArgs false

/-! ### impl_ApplyAll: function 24 -/
/-- The results' cell, the ledger as it is, and nothing else of old. -/
structure impl_ApplyAll.D (w W : World) (b4 b6 : Nat) (ep : Int) (A : Option Addr) (c : Nat) (l : List S63) : Prop where
  h4 : W.heap[b4]? = some (.cells #[.int .i64 0, .slice none 0 0] 31 (0, 0))
  h6 : W.heap[b6]? = some (.cells #[.int .i64 ep, .slice A l.length c] 31 (0, 0))
  s : Kd.S k63 63 W w.heap.size (fun k_ => k_ ≠ b4 ∧ k_ ≠ b6) (.slice A l.length c) l
  b : Below w.heap.size w W
  g4 : w.heap.size ≤ b4
  g6 : b4 < b6
theorem impl_ApplyAll.D.below {w W W' : World} {b4 b6 : Nat} {ep : Int} {A : Option Addr} {c : Nat} {l : List S63} (h : impl_ApplyAll.D w W b4 b6 ep A c l) (hb : Below W.heap.size W W') : impl_ApplyAll.D w W' b4 b6 ep A c l :=
  ⟨blk_below h.h4 hb, blk_below h.h6 hb, Kd.S_below h.s hb, below_step h.b hb, h.g4, h.g6⟩
theorem impl_ApplyAll.D.put {w W : World} {b4 b6 : Nat} {ep ep' : Int} {A A' : Option Addr} {c c' N : Nat} {l l' : List S63} (h : impl_ApplyAll.D w W b4 b6 ep A c l) (hN : b6 < N) (hs : Kd.S k63 63 W N (fun _ => True) (.slice A' l'.length c') l') : impl_ApplyAll.D w ((W.setCell ⟨b6, 0, none⟩ (.int .i64 ep')).setCell ⟨b6, 1, none⟩ (.slice A' l'.length c')) b4 b6 ep' A' c' l' :=
  ⟨blk_far (blk_far h.h4 (p := ⟨b6, 0, none⟩) (Nat.ne_of_lt h.g6) _) (p := ⟨b6, 1, none⟩) (Nat.ne_of_lt h.g6) _, blk_put (cs := #[.int .i64 ep', .slice A l.length c]) (blk_put (cs := #[.int .i64 ep, .slice A l.length c]) h.h6 0 _ rfl) 1 _ rfl,
   Kd.S_far (p := ⟨b6, 1, none⟩) (Kd.S_far (p := ⟨b6, 0, none⟩) (Kd.S_lower (Kd.S_mono (Kd.S_bound hs) (fun k_ hk => (⟨by have h1 := hk.2.1; have h2 := h.g6; omega, by have h1 := hk.2.1; omega⟩ : k_ ≠ b4 ∧ k_ ≠ b6))) (by have h1 := h.g4; have h2 := h.g6; omega)) (fun k_ hk => hk.2) _) (fun k_ hk => hk.2) _,
   below_set (below_set h.b (by have h1 := h.g4; have h2 := h.g6; omega)) (by have h1 := h.g4; have h2 := h.g6; omega), h.g4, h.g6⟩
theorem impl_ApplyAll.D.new {w w1 w2 : World} {b4 : Nat} {ep : Int} {A : Option Addr} {c : Nat} {l : List S63} (h4 : w1.heap[b4]? = some (.cells #[.int .i64 0, .slice none 0 0] 31 (0, 0))) (hb : Below w.heap.size w w1) (hg : w.heap.size ≤ b4) (hs : Kd.S k63 63 w2 w1.heap.size (fun _ => True) (.slice A l.length c) l) (hb2 : Below w1.heap.size w1 w2) :
    impl_ApplyAll.D w (w2.alloc (.cells #[.int .i64 ep, .slice A l.length c] 31 (0, 0))) b4 w2.heap.size ep A c l :=
  have h1 : b4 < w1.heap.size := blk_lt h4
  ⟨blk_alloc (blk_below h4 hb2) _, blk_new w2 _, Kd.S_lower (Kd.S_alloc (Kd.S_mono (Kd.S_bound hs) (fun k_ hk => (⟨by have h2 := hk.2.1; omega, by have h2 : k_ < w2.heap.size := hk.2.2.1; omega⟩ : k_ ≠ b4 ∧ k_ ≠ w2.heap.size))) _) hb.size, below_alloc (below_step hb hb2) _, hg, Nat.lt_of_lt_of_le h1 hb2.size⟩
theorem impl_ApplyAll.two (w : World) (o1 o2 : Obj) : ((w.alloc o1).alloc o2).heap[w.heap.size]? = some o1 ∧ ((w.alloc o1).alloc o2).heap[w.heap.size + 1]? = some o2 := by
  have h1 := blk_new w o1;have e1 : (w.alloc o1).heap.size = w.heap.size + 1 := Array.size_push _;refine ⟨blk_alloc h1 _, ?_⟩;rw [← e1];exact blk_new _ _
def impl_ApplyAll.l0 : Nat → List S35 → Nat → Int → Int → List S63 → Option (Int × List S63 × Int)
  | 0, _, _, _, _, _ => none
  | k + 1, ts, i, n, ep, l => if i < ts.length then (impl_Apply.f k ep l (rd_T35 ts (i : Int)).f0 (rd_T35 ts (i : Int)).f1 (rd_T35 ts (i : Int)).f2 (rd_T35 ts (i : Int)).f3 (rd_T35 ts (i : Int)).f4).bind fun b => impl_ApplyAll.l0 k ts (i + 1) (if b.2.2 = 0 then wrap64 (n + 1) else n) b.1 b.2.1 else some (ep, l, n)
def impl_ApplyAll.f (k : Nat) (ep : Int) (l : List S63) (ts : List S35) : Option (Int × List S63 × Int) := (impl_copyLedger.f k ep l).bind fun p => impl_ApplyAll.l0 k ts 0 0 p.1 p.2
theorem impl_ApplyAll.next {j N : Nat} (h : j < N) (hN : N ≤ 9223372036854775807) : wrap64 ((j : Int) + 1) = ((j + 1 : Nat) : Int) := by
  unfold wrap64
  omega
theorem impl_ApplyAll.meas (N j : Nat) (h : j < N) : N - (intOf (Value.int IntKind.i64 ((j + 1 : Nat) : Int))).toNat < N - (intOf (Value.int IntKind.i64 (j : Int))).toNat := by
  simp only [intOf, Int.toNat_natCast]
  omega
set_option maxHeartbeats 8000000 in
set_option maxRecDepth 100000 in
theorem impl_ApplyAll.calls (k : Nat) (ep : Int) (A0 : Option Addr) (c0 : Nat) (l0 : List S63) (A1 : Option Addr) (c1 : Nat) (l1 : List S35) (r1 : Int) (r2 : List S63) (r3 : Int) (w : World) (hr0 : Kd.C k63 w A0 l0.length l0) (hc0 : l0.length ≤ c0) (hr1 : Kd.C k35 w A1 l1.length l1) (hc1 : l1.length ≤ c1) (h : impl_ApplyAll.f k ep l0 l1 = some (r1, r2, r3)) :
    Calls Try.prog 24 #[.agg #[.int .i64 ep, .slice A0 l0.length c0], .slice A1 l1.length c1] w fun e w' => ∃ v1_ : Value, e = .returned (.tuple #[.agg #[.int .i64 r1, v1_], .int .i64 r3]) ∧ Kd.S k63 63 w' w.heap.size (fun _ => True) v1_ r2 ∧ Below w.heap.size w w' := by
  have HR := Aside0.mk hr0;have HC := Aside0.mk hc0;have HR1 := Aside0.mk hr1;have hN : l1.length ≤ 9223372036854775807 := hr1.2.1;have HN := Aside0.mk hN;obtain ⟨⟨e1, y⟩, hp, hl⟩ := Option.bind_eq_some_iff.mp h;have HP := Aside0.mk hp;have HL := Aside0.mk hl;clear hr0 hc0 hr1 hc1 h hp hl hN;go_enter Try.func24, Try.ntmps24
  go_upto_region 1 with fail
  have hw := impl_ApplyAll.two w (.cells #[.int .i64 ep, .slice A0 l0.length c0] 31 (0, 0)) (.cells #[.int .i64 0, .slice none 0 0] 31 (0, 0));have hb := below_alloc (below_alloc (Below.refl _ w) (.cells #[.int .i64 ep, .slice A0 l0.length c0] 31 (0, 0))) (.cells #[.int .i64 0, .slice none 0 0] 31 (0, 0))
  generalize (w.alloc (.cells #[.int .i64 ep, .slice A0 l0.length c0] 31)).alloc (.cells #[.int .i64 0, .slice none 0 0] 31) = w1 at hw hb ⊢
  have a0 := (blk_cell hw.1 0).trans rfl;have a1 := (blk_cell hw.1 1).trans rfl;have H4 := Aside0.mk hw.2;have HB := Aside0.mk hb;clear hw hb;have HG : Aside0 (w.heap.size ≤ w.heap.size + 1) := ⟨Nat.le_succ _⟩
  generalize w.heap.size + 1 = b4 at H4 HG ⊢
  go_upto_region 2 with (go_at_call 63; (with_reducible refine (impl_copyLedger.calls k ep _ _ l0 e1 y w1 ?s1 ?s2 HP.out).mono ?_); (case s1 => exact Kd.C_below HR.out HB.out); (case s2 => exact HC.out); rintro e w2 ⟨v2, rfl, hS, hb⟩; obtain ⟨A2, c2, rfl⟩ := Kd.S_slice hS; have HS := Aside0.mk hS; have HB2 := Aside0.mk hb; clear hS hb)
  have hD : impl_ApplyAll.D w (w2.alloc (.cells #[.int .i64 e1, .slice A2 y.length c2] 31 (0, 0))) b4 w2.heap.size e1 A2 c2 y := impl_ApplyAll.D.new H4.out HB.out HG.out HS.out HB2.out
  generalize w2.alloc (.cells #[.int .i64 e1, .slice A2 y.length c2] 31) = w3 at hD ⊢
  generalize w2.heap.size = b6 at hD ⊢
  have HD := Aside0.mk hD;clear hD a0 a1 HS HB2 HB H4 HG HP;go_wp2
  go_loopw [7, 16] (fun nv iv wr => ∃ (kq : Nat) (m : Int) (i : Nat) (ep : Int) (A : Option Addr) (c : Nat) (l : List S63), nv = .int .i64 m ∧ iv = .int .i64 (i : Int) ∧ i ≤ l1.length ∧ Aside0 (impl_ApplyAll.l0 kq l1 i m ep l = some (r1, r2, r3)) ∧ impl_ApplyAll.D w wr b4 b6 ep A c l) (fun nv iv _ => l1.length - (intOf iv).toNat)
  case atStart => exact ⟨k, 0, 0, e1, A2, c2, y, rfl, rfl, Nat.zero_le _, HL, HD.out⟩
  case round =>
    clear HD HL HR HC;obtain ⟨kq, m, i, ep, A, c, l, rfl, rfl, hi, H2, hD⟩ := hrel;have HD := Aside0.mk hD;clear hD
    by_cases hlt : i < l1.length
    · cases kq with
      | zero => exact absurd H2.out (by simp [impl_ApplyAll.l0])
      | succ kq =>
        have h2 := H2.out;simp only [impl_ApplyAll.l0] at h2;rw [if_pos hlt] at h2;obtain ⟨⟨x1, x2, x3⟩, hx, h2⟩ := Option.bind_eq_some_iff.mp h2;obtain ⟨ad, eA, x0, xf1, xf2, xf3, xf4⟩ := at_T35 (Kd.C_below HR1.out HD.out.b) (i : Int) (by omega) (by omega);subst eA;obtain ⟨s, hs_⟩ : ∃ s, s = rd_T35 l1 (i : Int) := ⟨_, rfl⟩;rw [← hs_] at x0 xf1 xf2 xf3 xf4 hx;rw [Int.toNat_natCast] at x0 xf1 xf2 xf3 xf4;have HX := Aside0.mk hx;have H3 := Aside0.mk h2;have p0 : (0 ≤ (i : Int)) = True := eq_true (by omega);have p1 : ((i : Int) < (l1.length : Int)) = True := eq_true (by omega);have HLT := Aside0.mk hlt;have nx := impl_ApplyAll.next hlt HN.out;clear hx h2 H2 hs_ hlt hi
        go_upto_region 6 with fail
        have hT := blk_new wr (.cells #[.int .i64 s.f0, .string s.f1, .string s.f2, .int .i64 s.f3, .int .i64 s.f4] 35 (0, 0));have hD := HD.out.below (below_alloc (Below.refl _ wr) (.cells #[.int .i64 s.f0, .string s.f1, .string s.f2, .int .i64 s.f3, .int .i64 s.f4] 35 (0, 0)));clear x0 xf1 xf2 xf3 xf4
        generalize wr.alloc (.cells #[.int .i64 s.f0, .string s.f1, .string s.f2, .int .i64 s.f3, .int .i64 s.f4] 35) = w5 at hT hD ⊢
        generalize wr.heap.size = b9 at hT ⊢
        have HD5 := Aside0.mk hD;have a0 := (blk_cell hD.h6 0).trans rfl;have a1 := (blk_cell hD.h6 1).trans rfl;have t0 := (blk_cell hT 0).trans rfl;have t1 := (blk_cell hT 1).trans rfl;have t2 := (blk_cell hT 2).trans rfl;have t3 := (blk_cell hT 3).trans rfl;have t4 := (blk_cell hT 4).trans rfl;clear hD hT
        go_upto_region 7 with (go_at_call 18; (with_reducible refine (impl_Apply.calls kq ep _ _ l s.f0 s.f1 s.f2 s.f3 s.f4 x1 x2 x3 w5 ?s1 ?s2 HX.out).mono ?_); (case s1 => exact (Kd.S_reads' HD5.out.s).2.2); (case s2 => exact (Kd.S_reads' HD5.out.s).2.1); rintro e w6 ⟨v6, rfl, hS, hb⟩; obtain ⟨A6, c6, rfl⟩ := Kd.S_slice hS; have HS := Aside0.mk hS; have HD6 := Aside0.mk (HD5.out.below hb); clear hS hb)
        have hB := blk_new w6 (.cells #[.int .i64 x1, .slice A6 x2.length c6] 31 (0, 0));have hD := HD6.out.below (below_alloc (Below.refl _ w6) (.cells #[.int .i64 x1, .slice A6 x2.length c6] 31 (0, 0)));have hS := Kd.S_alloc HS.out (.cells #[.int .i64 x1, .slice A6 x2.length c6] 31 (0, 0));clear a0 a1 t0 t1 t2 t3 t4
        generalize w6.alloc (.cells #[.int .i64 x1, .slice A6 x2.length c6] 31) = w7 at hB hD hS ⊢
        generalize w6.heap.size = b10 at hB ⊢
        have hP := hD.put (ep' := x1) (blk_lt HD5.out.h6) hS;have HP := Aside0.mk hP;have a0 := (blk_cell hB 0).trans rfl;have a1 := (blk_cell hB 1).trans rfl;have y0 := (blk_cell hD.h6 0).trans rfl;have y1 := (blk_cell hD.h6 1).trans rfl;have fy0 := blk_frozen hD.h6 0;have fy1 := blk_frozen hD.h6 1;clear hB hD hS hP HD6 HD5 HS
        by_cases c0 : x3 = 0
        · have b0 : (x3 == 0) = true := beq_iff_eq.mpr c0
          have h3 := H3.out;rw [if_pos c0] at h3;have H3 := Aside0.mk h3;clear h3 c0;go_wp2
          go_roundw
          case rel => exact ⟨kq, wrap64 (m + 1), i + 1, x1, A6, c6, x2, by go_num, by go_num, by have := HLT.out; omega, H3, HP.out⟩
          case measure => rw [nx]; exact impl_ApplyAll.meas _ i HLT.out
        · have b0 : (x3 == 0) = false := beq_eq_false_iff_ne.mpr c0
          have h3 := H3.out;rw [if_neg c0] at h3;have H3 := Aside0.mk h3;clear h3 c0;go_wp2
          go_roundw
          case rel => exact ⟨kq, m, i + 1, x1, A6, c6, x2, rfl, by go_num, by have := HLT.out; omega, H3, HP.out⟩
          case measure => rw [nx]; exact impl_ApplyAll.meas _ i HLT.out
    · cases kq with
      | zero => exact absurd H2.out (by simp [impl_ApplyAll.l0])
      | succ kq =>
        have h2 := H2.out;simp only [impl_ApplyAll.l0] at h2;rw [if_neg hlt] at h2
        obtain ⟨rfl, rfl, rfl⟩ : ep = r1 ∧ l = r2 ∧ m = r3 := by injection h2 with h2; injection h2 with e1 h2; injection h2 with e2 e3; exact ⟨e1, e2, e3⟩
        have p1 : ((i : Int) < (l1.length : Int)) = False := eq_false (by omega);have a0 := (blk_cell HD.out.h6 0).trans rfl;have a1 := (blk_cell HD.out.h6 1).trans rfl;have y0 := (blk_cell HD.out.h4 0).trans rfl;have y1 := (blk_cell HD.out.h4 1).trans rfl;have fy0 := blk_frozen HD.out.h4 0;have fy1 := blk_frozen HD.out.h4 1;clear h2 H2 hlt hi;go_wp2;refine bodyPost_ret (results_ct rfl _ _ b4 31 #[.int .i64 ep, .slice A l.length c] (0, 0) _ rfl (blk_put (cs := #[.int .i64 ep, .slice none 0 0]) (blk_put (cs := #[.int .i64 0, .slice none 0 0]) HD.out.h4 0 _ rfl) 1 _ rfl) Try.underlying31 rfl (by kernel_rfl)) rfl ?_;exact ⟨_, rfl, Kd.S_mono (Kd.S_far (p := ⟨b4, 1, none⟩) (Kd.S_far (p := ⟨b4, 0, none⟩) HD.out.s (fun k_ hk => hk.1) _) (fun k_ hk => hk.1) _) (fun _ _ => trivial), below_set (below_set HD.out.b HD.out.g4) HD.out.g4⟩
/-! ### laws_szTx: function 14 -/
def laws_szTx.f (a0_0 : Int) (a0_1 : ByteArray) (a0_2 : ByteArray) (a0_3 : Int) (a0_4 : Int) (a1 : Int) : Option (Int) := if (wrap64 (a1 - (a0_1.size : Int))) < 0 then (some (-1)) else (if (wrap64 ((wrap64 (a1 - (a0_1.size : Int))) - (a0_2.size : Int))) < 0 then (some (-1)) else (some (wrap64 ((wrap64 (a1 - (a0_1.size : Int))) - (a0_2.size : Int)))))
set_option maxHeartbeats 8000000 in
set_option maxRecDepth 100000 in
theorem laws_szTx.calls (a0_0 : Int) (a0_1 : ByteArray) (a0_2 : ByteArray) (a0_3 : Int) (a0_4 : Int) (a1 : Int) (r : Int) (w : World) (h : laws_szTx.f a0_0 a0_1 a0_2 a0_3 a0_4 a1 = some r) :
  Calls Try.prog 14 #[.agg #[.int .i64 a0_0,.string a0_1,.string a0_2,.int .i64 a0_3,.int .i64 a0_4],.int .i64 a1] w fun e w' => e = .returned (.int .i64 r) ∧ Below w.heap.size w w' := by
 have hu26 := Try.underlying26;have HB := Aside0.mk (Below.refl w.heap.size w);have H : (if (wrap64 (a1 - (a0_1.size : Int))) < 0 then (some (-1)) else (if (wrap64 ((wrap64 (a1 - (a0_1.size : Int))) - (a0_2.size : Int))) < 0 then (some (-1)) else (some (wrap64 ((wrap64 (a1 - (a0_1.size : Int))) - (a0_2.size : Int)))))) = some r := h;clear h
 by_cases c3 : (wrap64 (a1 - (a0_1.size : Int))) < 0
 ·rw [if_pos c3] at H;have c3b0 : decide ((wrap64 (a1 - (a0_1.size : Int))) < 0) = true := decide_eq_true c3;clear c3;obtain rfl := Option.some.inj H;go_enter Try.func14,Try.ntmps14
  go_wp2_with (((with_reducible refine gate_dst (N := 2) rfl ?_); refine box_event ?hg (N := 2) ?hd (cs := #[.int .i64 a0_0,.string a0_1,.string a0_2,.int .i64 a0_3,.int .i64 a0_4]) (t := 26) ?hr ?_; (case hd => rfl); (case hg => rfl); (case hr => (go_simp; done)); intro gb229 hg w4 hbox hb; have n0_ := Aside0.mk (below_step HB.out hb); have n1_ := Aside0.mk (hbox); have n2_ := Aside0.mk (by rw [hg]; exact (below_size HB.out) : w.heap.size ≤ gb229); have n3_ := Aside0.mk (by rw [hg]; exact (below_size HB.out) : w.heap.size ≤ gb229); clear HB; have HB := n0_; have BK229 := n1_; have GW229 := n2_; have GE229 := n3_; clear n0_ n1_ n2_ n3_; clear hb hbox hg; have hcz5_0 : w4.cell? ⟨gb229,0,none⟩ = some (.int .i64 a0_0) := (blk_cell BK229.out 0).trans rfl; have hcz5_1 : w4.cell? ⟨gb229,1,none⟩ = some (.string a0_1) := (blk_cell BK229.out 1).trans rfl; have hcz5_2 : w4.cell? ⟨gb229,2,none⟩ = some (.string a0_2) := (blk_cell BK229.out 2).trans rfl; have hcz5_3 : w4.cell? ⟨gb229,3,none⟩ = some (.int .i64 a0_3) := (blk_cell BK229.out 3).trans rfl; have hcz5_4 : w4.cell? ⟨gb229,4,none⟩ = some (.int .i64 a0_4) := (blk_cell BK229.out 4).trans rfl; have hfz5_0 := blk_frozen BK229.out 0; have hfz5_1 := blk_frozen BK229.out 1; have hfz5_2 := blk_frozen BK229.out 2; have hfz5_3 := blk_frozen BK229.out 3; have hfz5_4 := blk_frozen BK229.out 4))
  go_ret;exact ⟨by rfl,HB.out⟩
 ·rw [if_neg c3] at H;have c3b0 : decide ((wrap64 (a1 - (a0_1.size : Int))) < 0) = false := decide_eq_false c3;clear c3
  by_cases c6 : (wrap64 ((wrap64 (a1 - (a0_1.size : Int))) - (a0_2.size : Int))) < 0
  ·rw [if_pos c6] at H;have c6b0 : decide ((wrap64 ((wrap64 (a1 - (a0_1.size : Int))) - (a0_2.size : Int))) < 0) = true := decide_eq_true c6;clear c6;obtain rfl := Option.some.inj H;go_enter Try.func14,Try.ntmps14
   go_wp2_with (((with_reducible refine gate_dst (N := 2) rfl ?_); refine box_event ?hg (N := 2) ?hd (cs := #[.int .i64 a0_0,.string a0_1,.string a0_2,.int .i64 a0_3,.int .i64 a0_4]) (t := 26) ?hr ?_; (case hd => rfl); (case hg => rfl); (case hr => (go_simp; done)); intro gb229 hg w7 hbox hb; have n0_ := Aside0.mk (below_step HB.out hb); have n1_ := Aside0.mk (hbox); have n2_ := Aside0.mk (by rw [hg]; exact (below_size HB.out) : w.heap.size ≤ gb229); have n3_ := Aside0.mk (by rw [hg]; exact (below_size HB.out) : w.heap.size ≤ gb229); clear HB; have HB := n0_; have BK229 := n1_; have GW229 := n2_; have GE229 := n3_; clear n0_ n1_ n2_ n3_; clear hb hbox hg; have hcz8_0 : w7.cell? ⟨gb229,0,none⟩ = some (.int .i64 a0_0) := (blk_cell BK229.out 0).trans rfl; have hcz8_1 : w7.cell? ⟨gb229,1,none⟩ = some (.string a0_1) := (blk_cell BK229.out 1).trans rfl; have hcz8_2 : w7.cell? ⟨gb229,2,none⟩ = some (.string a0_2) := (blk_cell BK229.out 2).trans rfl; have hcz8_3 : w7.cell? ⟨gb229,3,none⟩ = some (.int .i64 a0_3) := (blk_cell BK229.out 3).trans rfl; have hcz8_4 : w7.cell? ⟨gb229,4,none⟩ = some (.int .i64 a0_4) := (blk_cell BK229.out 4).trans rfl; have hfz8_0 := blk_frozen BK229.out 0; have hfz8_1 := blk_frozen BK229.out 1; have hfz8_2 := blk_frozen BK229.out 2; have hfz8_3 := blk_frozen BK229.out 3; have hfz8_4 := blk_frozen BK229.out 4))
   go_ret;exact ⟨by rfl,HB.out⟩
  ·rw [if_neg c6] at H;have c6b0 : decide ((wrap64 ((wrap64 (a1 - (a0_1.size : Int))) - (a0_2.size : Int))) < 0) = false := decide_eq_false c6;clear c6;obtain rfl := Option.some.inj H;go_enter Try.func14,Try.ntmps14
   go_wp2_with (((with_reducible refine gate_dst (N := 2) rfl ?_); refine box_event ?hg (N := 2) ?hd (cs := #[.int .i64 a0_0,.string a0_1,.string a0_2,.int .i64 a0_3,.int .i64 a0_4]) (t := 26) ?hr ?_; (case hd => rfl); (case hg => rfl); (case hr => (go_simp; done)); intro gb229 hg w9 hbox hb; have n0_ := Aside0.mk (below_step HB.out hb); have n1_ := Aside0.mk (hbox); have n2_ := Aside0.mk (by rw [hg]; exact (below_size HB.out) : w.heap.size ≤ gb229); have n3_ := Aside0.mk (by rw [hg]; exact (below_size HB.out) : w.heap.size ≤ gb229); clear HB; have HB := n0_; have BK229 := n1_; have GW229 := n2_; have GE229 := n3_; clear n0_ n1_ n2_ n3_; clear hb hbox hg; have hcz10_0 : w9.cell? ⟨gb229,0,none⟩ = some (.int .i64 a0_0) := (blk_cell BK229.out 0).trans rfl; have hcz10_1 : w9.cell? ⟨gb229,1,none⟩ = some (.string a0_1) := (blk_cell BK229.out 1).trans rfl; have hcz10_2 : w9.cell? ⟨gb229,2,none⟩ = some (.string a0_2) := (blk_cell BK229.out 2).trans rfl; have hcz10_3 : w9.cell? ⟨gb229,3,none⟩ = some (.int .i64 a0_3) := (blk_cell BK229.out 3).trans rfl; have hcz10_4 : w9.cell? ⟨gb229,4,none⟩ = some (.int .i64 a0_4) := (blk_cell BK229.out 4).trans rfl; have hfz10_0 := blk_frozen BK229.out 0; have hfz10_1 := blk_frozen BK229.out 1; have hfz10_2 := blk_frozen BK229.out 2; have hfz10_3 := blk_frozen BK229.out 3; have hfz10_4 := blk_frozen BK229.out 4))
   go_ret;exact ⟨by rfl,HB.out⟩

/-! ### laws_szTxS: function 29 -/
def laws_szTxS.l0 : Nat → List (S26) → Int → Int → Option (Int)
 | 0,_,_,_ => none
 | k + 1,x0,x1,x5 => if x5 < (x0.length : Int) then (if 0 ≤ x5 then ((laws_szTx.f ((rd_T26 x0 x5).f0) ((rd_T26 x0 x5).f1) ((rd_T26 x0 x5).f2) ((rd_T26 x0 x5).f3) ((rd_T26 x0 x5).f4) x1).bind fun t231 => (if t231 < 0 then (some (-1)) else (laws_szTxS.l0 k x0 t231 (wrap64 (x5 + 1))))) else (none)) else (some x1)
def laws_szTxS.f (k : Nat) (l0 : List (S26)) (a1 : Int) : Option (Int) := if (wrap64 (a1 - (l0.length : Int))) < 0 then (some (-1)) else (laws_szTxS.l0 k l0 (wrap64 (a1 - (l0.length : Int))) 0)
set_option maxHeartbeats 8000000 in
set_option maxRecDepth 100000 in
theorem laws_szTxS.calls (k : Nat) (A0 : Option Addr) (c0 : Nat) (l0 : List (S26)) (a1 : Int) (r : Int) (w : World) (hr0 : Kd.C k26 w A0 l0.length l0) (hc0 : l0.length ≤ c0) (h : laws_szTxS.f k l0 a1 = some r) :
  Calls Try.prog 29 #[.slice A0 l0.length c0,.int .i64 a1] w fun e w' => e = .returned (.int .i64 r) ∧ Below w.heap.size w w' := by
 have hu26 := Try.underlying26;have HR0 := Aside0.mk hr0;have HC0 := Aside0.mk hc0;clear hr0 hc0;have HB := Aside0.mk (Below.refl w.heap.size w);have H : (if (wrap64 (a1 - (l0.length : Int))) < 0 then (some (-1)) else (laws_szTxS.l0 k l0 (wrap64 (a1 - (l0.length : Int))) 0)) = some r := h;clear h
 by_cases c3 : (wrap64 (a1 - (l0.length : Int))) < 0
 ·rw [if_pos c3] at H;have c3b0 : decide ((wrap64 (a1 - (l0.length : Int))) < 0) = true := decide_eq_true c3;clear c3;obtain rfl := Option.some.inj H;go_enter Try.func29,Try.ntmps29;go_wp2;go_ret;exact ⟨by rfl,HB.out⟩
 ·rw [if_neg c3] at H;have c3b0 : decide ((wrap64 (a1 - (l0.length : Int))) < 0) = false := decide_eq_false c3;clear c3;have H' := Aside0.mk H;clear H;go_enter Try.func29,Try.ntmps29;go_wp2
  go_loopg [1,5] k (fun kq v1 v5 w' => ∃ (x1_1 : Int) (x5_1 : Int),v1 = .int .i64 x1_1 ∧ v5 = .int .i64 x5_1 ∧ Aside0 (laws_szTxS.l0 kq l0 x1_1 x5_1 = some r) ∧ Aside0 (kq ≤ k) ∧ Aside0 (Below w.heap.size w w'))
  case atStart => exact ⟨(wrap64 (a1 - (l0.length : Int))),(0),(by rfl),(by rfl),H',⟨Nat.le_refl _⟩,⟨HB.out⟩⟩
  case round =>
   clear H'
   try clear c2
   try clear p2
   try clear c3
   try clear c3b0
   obtain ⟨x1_1,x5_1,rfl,rfl,HA,HK1,HB⟩ := hrel
   cases gk with
   | zero => exact absurd HA.out (by simp [laws_szTxS.l0])
   | succ k1 =>
    have H := HA.out;clear HA;simp only [laws_szTxS.l0] at H
    by_cases c4 : x5_1 < (l0.length : Int)
    ·rw [if_pos c4] at H;have c4b0 : decide (x5_1 < (l0.length : Int)) = true := decide_eq_true c4;clear c4
     by_cases c5 : 0 ≤ x5_1
     ·rw [if_pos c5] at H;have c5b0 : decide (0 ≤ x5_1) = true := decide_eq_true c5;clear c5;replace H := Option.bind_eq_some_iff.mp H;obtain ⟨t231,A60,H⟩ := H;replace H : (if t231 < 0 then (some (-1)) else (laws_szTxS.l0 k1 l0 t231 (wrap64 (x5_1 + 1)))) = some r := H;have A6 := Aside0.mk A60;clear A60
      by_cases c7 : t231 < 0
      ·rw [if_pos c7] at H;have c7b0 : decide (t231 < 0) = true := decide_eq_true c7;clear c7;obtain rfl := Option.some.inj H;have p230 : 0 ≤ (x5_1 : Int) := of_decide_eq_true (by (with_reducible assumption));have q230 : x5_1 < (l0.length : Int) := of_decide_eq_true (by (with_reducible assumption));obtain ⟨ad230,e230,hx230_0,hx230_1,hx230_2,hx230_3,hx230_4⟩ := at_T26 HR0.out x5_1 p230 q230
       cases e230
       replace hx230_0 := up_ HB.out hx230_0;replace hx230_1 := up_ HB.out hx230_1;replace hx230_2 := up_ HB.out hx230_2;replace hx230_3 := up_ HB.out hx230_3;replace hx230_4 := up_ HB.out hx230_4;replace p230 := eq_true p230;replace q230 := eq_true q230
       go_wp2_with (((with_reducible refine gate_callee (f := 14) rfl ?_); refine goesL_ (some 23) rfl rfl Try.func14 (by kernel_rfl) rfl #[.agg #[.int .i64 ((rd_T26 l0 x5_1).f0),.string ((rd_T26 l0 x5_1).f1),.string ((rd_T26 l0 x5_1).f2),.int .i64 ((rd_T26 l0 x5_1).f3),.int .i64 ((rd_T26 l0 x5_1).f4)],.int .i64 x1_1] rfl (by (try simp only [List.map_toArray,List.map_cons,List.map_nil]); rfl) ?_; (with_reducible refine (laws_szTx.calls ((rd_T26 l0 x5_1).f0) ((rd_T26 l0 x5_1).f1) ((rd_T26 l0 x5_1).f2) ((rd_T26 l0 x5_1).f3) ((rd_T26 l0 x5_1).f4) x1_1 t231 _ A6.out).mono ?_); rintro e w8 ⟨rfl,hb⟩; refine ⟨_,rfl,?_⟩; have n0_ := Aside0.mk (below_step HB.out hb); clear HB; have HB := n0_; clear n0_; (try clear hb); skip))
       go_ret;exact ⟨by rfl,HB.out⟩
      ·rw [if_neg c7] at H;have c7b0 : decide (t231 < 0) = false := decide_eq_false c7;clear c7;have H' := Aside0.mk H;clear H;have p230 : 0 ≤ (x5_1 : Int) := of_decide_eq_true (by (with_reducible assumption));have q230 : x5_1 < (l0.length : Int) := of_decide_eq_true (by (with_reducible assumption));obtain ⟨ad230,e230,hx230_0,hx230_1,hx230_2,hx230_3,hx230_4⟩ := at_T26 HR0.out x5_1 p230 q230
       cases e230
       replace hx230_0 := up_ HB.out hx230_0;replace hx230_1 := up_ HB.out hx230_1;replace hx230_2 := up_ HB.out hx230_2;replace hx230_3 := up_ HB.out hx230_3;replace hx230_4 := up_ HB.out hx230_4;replace p230 := eq_true p230;replace q230 := eq_true q230
       go_wp2_with (((with_reducible refine gate_callee (f := 14) rfl ?_); refine goesL_ (some 23) rfl rfl Try.func14 (by kernel_rfl) rfl #[.agg #[.int .i64 ((rd_T26 l0 x5_1).f0),.string ((rd_T26 l0 x5_1).f1),.string ((rd_T26 l0 x5_1).f2),.int .i64 ((rd_T26 l0 x5_1).f3),.int .i64 ((rd_T26 l0 x5_1).f4)],.int .i64 x1_1] rfl (by (try simp only [List.map_toArray,List.map_cons,List.map_nil]); rfl) ?_; (with_reducible refine (laws_szTx.calls ((rd_T26 l0 x5_1).f0) ((rd_T26 l0 x5_1).f1) ((rd_T26 l0 x5_1).f2) ((rd_T26 l0 x5_1).f3) ((rd_T26 l0 x5_1).f4) x1_1 t231 _ A6.out).mono ?_); rintro e w9 ⟨rfl,hb⟩; refine ⟨_,rfl,?_⟩; have n0_ := Aside0.mk (below_step HB.out hb); clear HB; have HB := n0_; clear n0_; (try clear hb); skip))
       go_roundg k1
       case measure => have := HK1.out; omega
       case rel => exact ⟨(t231),(wrap64 (x5_1 + 1)),(by rfl),(by rfl),H',⟨by have := HK1.out; omega⟩,⟨HB.out⟩⟩
     ·rw [if_neg c5] at H;exact absurd H (by simp)
    ·rw [if_neg c4] at H;have c4b0 : decide (x5_1 < (l0.length : Int)) = false := decide_eq_false c4;clear c4;obtain rfl := Option.some.inj H;go_wp2;go_ret;exact ⟨by rfl,HB.out⟩

/-! ### spec_l1In: function 91 -/
def spec_l1In.f (a0 : Int) (a1 : Int) (a2 : Int) : Option (Bool) := if a0 ≥ a1 then (some (decide (a0 ≤ a2))) else (some false)
set_option maxHeartbeats 8000000 in
set_option maxRecDepth 100000 in
theorem spec_l1In.calls (a0 : Int) (a1 : Int) (a2 : Int) (r : Bool) (w : World) (h : spec_l1In.f a0 a1 a2 = some r) :
  Calls Try.prog 91 #[.int .i64 a0,.int .i64 a1,.int .i64 a2] w fun e w' => e = .returned (.bool r) ∧ Drawn0 w w' := by
 have H : (if a0 ≥ a1 then (some (decide (a0 ≤ a2))) else (some false)) = some r := h;clear h
 by_cases c4 : a0 ≥ a1
 ·rw [if_pos c4] at H;have c4b0 : decide (a1 ≤ a0) = true := decide_eq_true c4;clear c4;obtain rfl := Option.some.inj H;go_enter Try.func91,Try.ntmps91;go_wp2;go_ret;exact ⟨by rfl,by repeat (exact Drawn0.refl _)⟩
 ·rw [if_neg c4] at H;have c4b0 : decide (a1 ≤ a0) = false := decide_eq_false c4;clear c4;obtain rfl := Option.some.inj H;go_enter Try.func91,Try.ntmps91;go_wp2;go_ret;exact ⟨by rfl,by repeat (exact Drawn0.refl _)⟩

/-! ### spec_NameOk: function 90 -/
def spec_NameOk.l0 : Nat → ByteArray → Int → Option (Bool)
 | 0,_,_ => none
 | k + 1,x0,x3 => if x3 < (x0.size : Int) then (if 0 ≤ x3 then ((spec_l1In.f (wrap64 (bt x0 x3)) 97 122).bind fun t233 => (if t233 = true then (spec_NameOk.l0 k x0 (wrap64 (x3 + 1))) else ((spec_l1In.f (wrap64 (bt x0 x3)) 48 57).bind fun t234 => (if t234 = true then (spec_NameOk.l0 k x0 (wrap64 (x3 + 1))) else (some false))))) else (none)) else ((spec_l1In.f (x0.size : Int) 1 8).bind fun t232 => (some t232))
def spec_NameOk.f (k : Nat) (a0 : ByteArray) : Option (Bool) := spec_NameOk.l0 k a0 0
set_option maxHeartbeats 8000000 in
set_option maxRecDepth 100000 in
theorem spec_NameOk.calls (k : Nat) (a0 : ByteArray) (r : Bool) (w : World) (h : spec_NameOk.f k a0 = some r) :
  Calls Try.prog 90 #[.string a0] w fun e w' => e = .returned (.bool r) ∧ Drawn0 w w' := by
 have H : (spec_NameOk.l0 k a0 0) = some r := h;clear h;have H' := Aside0.mk H;clear H;go_enter Try.func90,Try.ntmps90;go_wp2
 go_loopg [3] k (fun kq v3 w' => ∃ (x3_1 : Int),v3 = .int .i64 x3_1 ∧ Aside0 (spec_NameOk.l0 kq a0 x3_1 = some r) ∧ Aside0 (kq ≤ k) ∧ Drawn0 w w')
 case atStart => exact ⟨(0),(by rfl),H',⟨Nat.le_refl _⟩,by repeat (exact Drawn0.refl _)⟩
 case round =>
  clear H';obtain ⟨x3_1,rfl,HA,HK1,⟨m1,rfl⟩⟩ := hrel
  cases gk with
  | zero => exact absurd HA.out (by simp [spec_NameOk.l0])
  | succ k1 =>
   have H := HA.out;clear HA;simp only [spec_NameOk.l0] at H
   by_cases c2 : x3_1 < (a0.size : Int)
   ·rw [if_pos c2] at H;have c2b0 : decide (x3_1 < (a0.size : Int)) = true := decide_eq_true c2;clear c2
    by_cases c3 : 0 ≤ x3_1
    ·rw [if_pos c3] at H;have c3b0 : decide (0 ≤ x3_1) = true := decide_eq_true c3;clear c3;replace H := Option.bind_eq_some_iff.mp H;obtain ⟨t233,A50,H⟩ := H;replace H : (if t233 = true then (spec_NameOk.l0 k1 a0 (wrap64 (x3_1 + 1))) else ((spec_l1In.f (wrap64 (bt a0 x3_1)) 48 57).bind fun t234 => (if t234 = true then (spec_NameOk.l0 k1 a0 (wrap64 (x3_1 + 1))) else (some false)))) = some r := H;have A5 := Aside0.mk A50;clear A50
     by_cases c6 : t233 = true
     ·subst c6;rw [if_pos rfl] at H;have H' := Aside0.mk H;clear H;have p4 : 0 ≤ (x3_1 : Int) := of_decide_eq_true (by (with_reducible assumption));have q4 : x3_1 < (a0.size : Int) := of_decide_eq_true (by (with_reducible assumption));have hx4 := bt_at a0 x3_1;replace p4 := eq_true p4;replace q4 := eq_true q4
      go_wp2_with (((with_reducible refine gate_callee (f := 91) rfl ?_); refine goesL_ (some 14) rfl rfl Try.func91 (by kernel_rfl) rfl #[.int .i64 (wrap64 (bt a0 x3_1)),.int .i64 97,.int .i64 122] rfl (by (try simp only [List.map_toArray,List.map_cons,List.map_nil]); rfl) ?_; (with_reducible refine (spec_l1In.calls (wrap64 (bt a0 x3_1)) 97 122 true _ A5.out).mono ?_); rintro e w' ⟨rfl,⟨nd,rfl⟩⟩; refine ⟨_,rfl,?_⟩))
      go_roundg k1
      case measure => have := HK1.out; omega
      case rel => exact ⟨(wrap64 (x3_1 + 1)),(by rfl),H',⟨by have := HK1.out; omega⟩,by repeat (first | exact Drawn0.refl _ | apply Drawn0.step)⟩
     ·replace c6 := Bool.eq_false_iff.mpr c6;subst c6;rw [if_neg (show ¬ (false = true) by decide)] at H
      replace H := Option.bind_eq_some_iff.mp H;obtain ⟨t234,A80,H⟩ := H;replace H : (if t234 = true then (spec_NameOk.l0 k1 a0 (wrap64 (x3_1 + 1))) else (some false)) = some r := H;have A8 := Aside0.mk A80;clear A80
      by_cases c9 : t234 = true
      ·subst c9;rw [if_pos rfl] at H;have H' := Aside0.mk H;clear H;have p4 : 0 ≤ (x3_1 : Int) := of_decide_eq_true (by (with_reducible assumption));have q4 : x3_1 < (a0.size : Int) := of_decide_eq_true (by (with_reducible assumption));have hx4 := bt_at a0 x3_1;replace p4 := eq_true p4;replace q4 := eq_true q4
       go_wp2_with (first | ((with_reducible refine gate_callee (f := 91) rfl ?_); refine goesL_ (some 14) rfl rfl Try.func91 (by kernel_rfl) rfl #[.int .i64 (wrap64 (bt a0 x3_1)),.int .i64 97,.int .i64 122] rfl (by (try simp only [List.map_toArray,List.map_cons,List.map_nil]); rfl) ?_; (with_reducible refine (spec_l1In.calls (wrap64 (bt a0 x3_1)) 97 122 false _ A5.out).mono ?_); rintro e w' ⟨rfl,⟨nd,rfl⟩⟩; refine ⟨_,rfl,?_⟩; have p7 : 0 ≤ (x3_1 : Int) := of_decide_eq_true (by (with_reducible assumption)); have q7 : x3_1 < (a0.size : Int) := of_decide_eq_true (by (with_reducible assumption)); have hx7 := bt_at a0 x3_1; replace p7 := eq_true p7; replace q7 := eq_true q7) | (go_at_call 91; (with_reducible refine (spec_l1In.calls (wrap64 (bt a0 x3_1)) 48 57 true _ A8.out).mono ?_); rintro e w' ⟨rfl,⟨nd,rfl⟩⟩))
       go_roundg k1
       case measure => have := HK1.out; omega
       case rel => exact ⟨(wrap64 (x3_1 + 1)),(by rfl),H',⟨by have := HK1.out; omega⟩,by repeat (first | exact Drawn0.refl _ | apply Drawn0.step)⟩
      ·replace c9 := Bool.eq_false_iff.mpr c9;subst c9;rw [if_neg (show ¬ (false = true) by decide)] at H
       obtain rfl := Option.some.inj H;have p4 : 0 ≤ (x3_1 : Int) := of_decide_eq_true (by (with_reducible assumption));have q4 : x3_1 < (a0.size : Int) := of_decide_eq_true (by (with_reducible assumption));have hx4 := bt_at a0 x3_1;replace p4 := eq_true p4;replace q4 := eq_true q4
       go_wp2_with (first | ((with_reducible refine gate_callee (f := 91) rfl ?_); refine goesL_ (some 14) rfl rfl Try.func91 (by kernel_rfl) rfl #[.int .i64 (wrap64 (bt a0 x3_1)),.int .i64 97,.int .i64 122] rfl (by (try simp only [List.map_toArray,List.map_cons,List.map_nil]); rfl) ?_; (with_reducible refine (spec_l1In.calls (wrap64 (bt a0 x3_1)) 97 122 false _ A5.out).mono ?_); rintro e w' ⟨rfl,⟨nd,rfl⟩⟩; refine ⟨_,rfl,?_⟩; have p7 : 0 ≤ (x3_1 : Int) := of_decide_eq_true (by (with_reducible assumption)); have q7 : x3_1 < (a0.size : Int) := of_decide_eq_true (by (with_reducible assumption)); have hx7 := bt_at a0 x3_1; replace p7 := eq_true p7; replace q7 := eq_true q7) | (go_at_call 91; (with_reducible refine (spec_l1In.calls (wrap64 (bt a0 x3_1)) 48 57 false _ A8.out).mono ?_); rintro e w' ⟨rfl,⟨nd,rfl⟩⟩))
       go_ret;exact ⟨by rfl,by repeat (first | exact Drawn0.refl _ | apply Drawn0.step)⟩
    ·rw [if_neg c3] at H;exact absurd H (by simp)
   ·rw [if_neg c2] at H;have c2b0 : decide (x3_1 < (a0.size : Int)) = false := decide_eq_false c2;clear c2;replace H := Option.bind_eq_some_iff.mp H;obtain ⟨t232,A100,H⟩ := H;replace H : (some t232) = some r := H;have A10 := Aside0.mk A100;clear A100;obtain rfl := Option.some.inj H
    go_wp2_with (((with_reducible refine gate_callee (f := 91) rfl ?_); refine goesL_ (some 26) rfl rfl Try.func91 (by kernel_rfl) rfl #[.int .i64 (a0.size : Int),.int .i64 1,.int .i64 8] rfl (by (try simp only [List.map_toArray,List.map_cons,List.map_nil]); rfl) ?_; (with_reducible refine (spec_l1In.calls (a0.size : Int) 1 8 t232 _ A10.out).mono ?_); rintro e w' ⟨rfl,⟨nd,rfl⟩⟩; refine ⟨_,rfl,?_⟩))
    go_ret;exact ⟨by rfl,by repeat (first | exact Drawn0.refl _ | apply Drawn0.step)⟩

end Go.Proofs.Ytcbpfofkdipjhaa.PJ
