/- The machine's side of Go functions: each as a plain function,and that the call does what it says. Written by a program (wip/mprint). -/
import Derived.Test.YtcbpfofkdipjhaaCHPHx0
import Derived.Test.YtcbpfofkdipjhaaCHPHx3
import Derived.Test.YtcbpfofkdipjhaaCHPHx7
import Derived.Test.YtcbpfofkdipjhaaCHPHx8
import Derived.Test.YtcbpfofkdipjhaaCHPHx9
import Derived.Test.YtcbpfofkdipjhaaCHPHx11
import Derived.Lib.Hide
import Derived.Deep.RegionHeld3
namespace Go.Proofs.Ytcbpfofkdipjhaa.PH
open Go.RowKit Go.Proofs.YtcbpfofkdipjhaaW.PrintWords Go.Proofs.YtcbpfofkdipjhaaW.PrintLast Go.Proofs.YtcbpfofkdipjhaaW.PrintMore
attribute [local go_sem] max2_int min2_int max_two min_two max_three min_three max_four min_four   -- for this text's walks alone
set_option linter.unusedVariables false
set_option linter.unusedSimpArgs false

/-! ### laws_FnExactCredit: function 11 -/
def laws_FnExactCredit.h (k : Nat) (l : List S125) (nm : ByteArray) (n : Int) : Option Bool :=
 (laws_toAcctS.f k l).bind fun p => (spec_Credit.f k p nm n).bind fun a => (impl_Credit.f k p nm n).bind fun b =>
 (laws_eqAcctS.f k b.1 a.1).bind fun q1 => (laws_eqAcctS.f k p p).bind fun q2 =>
 (laws_markAcctS.f k p 1).bind fun mx => (laws_markAcctS.f k b.1 1).bind fun mg => (laws_heldAcctS.f k mg.2 1).bind fun hq =>
 if (q1 && (q2 && (decide (b.2 = a.2) && (decide (0 ≤ mx.1) && (decide (0 ≤ hq) && decide (hq = mg.1)))))) = true then some true else none
def laws_FnExactCredit.f (k : Nat) (l : List S125) (nm : ByteArray) (n : Int) : Option Bool :=
 if (nm.size : Int) > 1048576 then some true else (laws_szAcctS.f k l 1048576).bind fun t => if t < 0 then some true else laws_FnExactCredit.h k l nm n
theorem laws_FnExactCredit.mono : ∀ a0 a1 a2 k,LeO (laws_FnExactCredit.f k a0 a1 a2) (laws_FnExactCredit.f (k + 1) a0 a1 a2) := by
 intro a0 a1 a2 k;unfold laws_FnExactCredit.f laws_FnExactCredit.h
 repeat' first
   | (with_reducible exact laws_szAcctS.mono _ _ _)
   | (with_reducible exact laws_toAcctS.mono _ _)
   | (with_reducible exact spec_Credit.mono _ _ _ _)
   | (with_reducible exact impl_Credit.mono _ _ _ _)
   | (with_reducible exact laws_eqAcctS.mono _ _ _)
   | (with_reducible exact laws_markAcctS.mono _ _ _)
   | (with_reducible exact laws_heldAcctS.mono _ _ _)
   | (with_reducible exact LeO.refl _)
   | (with_reducible exact LeO.none _)
   | (with_reducible refine LeO.ite ?_ ?_)
   | (with_reducible refine LeO.bind ?_ (fun _ => ?_))
set_option maxHeartbeats 8000000 in
set_option maxRecDepth 100000 in
theorem laws_FnExactCredit.calls (k : Nat) (A0 : Option Addr) (c0 : Nat) (l0 : List S125) (nm : ByteArray) (n : Int) (r : Bool) (w : World) (hr0 : Kd.C k125 w A0 l0.length l0) (hc0 : l0.length ≤ c0) (h : laws_FnExactCredit.f k l0 nm n = some r) :
  Calls Try.prog 11 #[.slice A0 l0.length c0,.string nm,.int .i64 n] w fun e w' => e = .returned (.bool r) ∧ Below w.heap.size w w' := by
 have HR := Aside0.mk hr0;have HC := Aside0.mk hc0;have HB_0 := Aside0.mk (Below.refl w.heap.size w);unfold laws_FnExactCredit.f at h;clear hr0 hc0
 by_cases hbig : (nm.size : Int) > 1048576
 ·rw [if_pos hbig] at h;obtain rfl := Option.some.inj h;clear h;have hn := eq_true hbig;have hn2 : (1048576 < (nm.size : Int)) = True := eq_true hbig;clear hbig;go_enter Try.func11,Try.ntmps11;go_wp2;go_ret;exact ⟨rfl,HB_0.out⟩
 rw [if_neg hbig] at h;have hn := eq_false hbig;have hn2 : (1048576 < (nm.size : Int)) = False := eq_false hbig;clear hbig;obtain ⟨t,ht,h⟩ := Option.bind_eq_some_iff.mp h;have HT := Aside0.mk ht;clear ht
 by_cases hneg : t < 0
 ·rw [if_pos hneg] at h;obtain rfl := Option.some.inj h;clear h;have hn3 := eq_true hneg;clear hneg;go_enter Try.func11,Try.ntmps11
  go_wp2_with (go_at_call 52; refine (laws_szAcctS.calls k _ _ l0 1048576 t _ ?s1 ?s2 HT.out).mono ?_; (case s1 => exact HR.out); (case s2 => exact HC.out); rintro e w1 ⟨rfl,hb⟩; have HB_1 := Aside0.mk (below_step HB_0.out hb); clear hb)
  go_ret;exact ⟨rfl,HB_1.out⟩
 ·rw [if_neg hneg] at h;have hn3 := eq_false hneg;clear hneg;unfold laws_FnExactCredit.h at h;obtain ⟨p,hp,h⟩ := Option.bind_eq_some_iff.mp h;obtain ⟨⟨a1,a2⟩,ha,h⟩ := Option.bind_eq_some_iff.mp h;obtain ⟨⟨b1,b2⟩,hb,h⟩ := Option.bind_eq_some_iff.mp h;obtain ⟨q1,hq1,h⟩ := Option.bind_eq_some_iff.mp h;obtain ⟨q2,hq2,h⟩ := Option.bind_eq_some_iff.mp h;obtain ⟨⟨mx,x'⟩,hmx,h⟩ := Option.bind_eq_some_iff.mp h;obtain ⟨⟨mg,g'⟩,hmg,h⟩ := Option.bind_eq_some_iff.mp h;obtain ⟨hq,hhq,h⟩ := Option.bind_eq_some_iff.mp h
  by_cases hall : (q1 && (q2 && (decide (b2 = a2) && (decide (0 ≤ mx) && (decide (0 ≤ hq) && decide (hq = mg)))))) = true
  case neg => rw [if_neg hall] at h; exact absurd h (by simp)
  rw [if_pos hall] at h;obtain rfl := Option.some.inj h;clear h;simp only [Bool.and_eq_true,decide_eq_true_eq] at hall;obtain ⟨rfl,rfl,rfl,hmx0,hhq0,rfl⟩ := hall;have HP := Aside0.mk hp;have HA := Aside0.mk ha;have HBB := Aside0.mk hb;have HQ1 := Aside0.mk hq1;have HQ2 := Aside0.mk hq2;have HMX := Aside0.mk hmx;have HMG := Aside0.mk hmg;have HHQ := Aside0.mk hhq;clear hp ha hb hq1 hq2 hmx hmg hhq;have m1 : (mx < 0) = False := eq_false (Int.not_lt.2 hmx0);have m2 : (hq < 0) = False := eq_false (Int.not_lt.2 hhq0);clear hmx0 hhq0;go_enter Try.func11,Try.ntmps11
  go_upto_region 7 with (go_at_call 52; refine (laws_szAcctS.calls k _ _ l0 1048576 t _ ?s1 ?s2 HT.out).mono ?_; (case s1 => exact HR.out); (case s2 => exact HC.out); rintro e w1 ⟨rfl,hb⟩; have HB_1 := Aside0.mk (below_step HB_0.out hb); clear hb)
  go_upto_region 8 with (first | (go_at_call 53; refine (laws_toAcctS.calls k _ _ l0 p _ ?s1 ?s2 HP.out).mono ?_; (case s1 => exact Kd.C_below HR.out HB_1.out); (case s2 => exact HC.out); rintro e w2 ⟨v2,rfl,hS,hb⟩; obtain ⟨A2,c2,rfl⟩ := Kd.S_slice hS; have T1_2 := Aside0.mk (Kd.S_lower (Kd.S_mono (ok' := fun k_ => w1.heap.size ≤ k_ ∧ k_ < w2.heap.size) (Kd.S_bound hS) (fun k_ hk => ⟨hk.2.1,hk.2.2.1⟩)) (below_size HB_1.out)); clear hS; have HB_2 := Aside0.mk (below_step HB_1.out hb); have HZ_2 := Aside0.mk hb.size; clear hb) | (go_at_call 42; refine (spec_Credit.calls k _ _ p nm n a1 b2 _ ?s1 ?s2 HA.out).mono ?_; (case s1 => exact (Kd.S_reads' T1_2.out).2.2); (case s2 => exact (Kd.S_reads' T1_2.out).2.1); rintro e w3 ⟨v3,rfl,hS,hb⟩; obtain ⟨A3,c3,rfl⟩ := Kd.N_slice hS; have W0_3 := Aside0.mk (Kd.N_lower (Kd.N_mono (ok' := fun k_ => w2.heap.size ≤ k_ ∧ k_ < w3.heap.size) (Kd.N_bound hS) (fun k_ hk => ⟨hk.1,hk.2⟩)) (below_size HB_2.out)); clear hS; have HB_3 := Aside0.mk (below_step HB_2.out hb); have HZ_3 := Aside0.mk hb.size; clear hb))
  go_upto_region 9 with (go_at_call 53; refine (laws_toAcctS.calls k _ _ l0 p _ ?s1 ?s2 HP.out).mono ?_; (case s1 => exact Kd.C_below HR.out HB_3.out); (case s2 => exact HC.out); rintro e w4 ⟨v4,rfl,hS,hb⟩; obtain ⟨A4,c4,rfl⟩ := Kd.S_slice hS; have X0_4 := Aside0.mk (Kd.S_lower (Kd.S_mono (ok' := fun k_ => w3.heap.size ≤ k_ ∧ k_ < w4.heap.size) (Kd.S_bound hS) (fun k_ hk => ⟨hk.2.1,hk.2.2.1⟩)) (below_size HB_3.out)); clear hS; have W0_4 := Aside0.mk (Kd.N_below W0_3.out hb); have HB_4 := Aside0.mk (below_step HB_3.out hb); have HZ_4 := Aside0.mk hb.size; clear hb)
  go_upto_region 10 with (go_at_call 41; refine (impl_Credit.calls k _ _ p nm n b1 b2 _ ?s1 ?s2 HBB.out).mono ?_; (case s1 => exact (Kd.S_reads' X0_4.out).2.2); (case s2 => exact (Kd.S_reads' X0_4.out).2.1); rintro e w5 ⟨v5,rfl,hS,hb⟩; obtain ⟨A5,c5,rfl⟩ := Kd.S_slice hS; have G0_5 := Aside0.mk (Kd.S_lower (Kd.S_mono (ok' := fun k_ => w4.heap.size ≤ k_ ∧ k_ < w5.heap.size) (Kd.S_bound hS) (fun k_ hk => ⟨hk.2.1,hk.2.2.1⟩)) (below_size HB_4.out)); clear hS; have W0_5 := Aside0.mk (Kd.N_below W0_4.out hb); have X0_5 := Aside0.mk (Kd.S_below X0_4.out hb); have HB_5 := Aside0.mk (below_step HB_4.out hb); have HZ_5 := Aside0.mk hb.size; clear hb)
  have HO := Aside0.mk (And.intro HZ_3.out (And.intro HZ_4.out HZ_5.out))
  go_upto_region 12 with (go_at_call 54; refine (laws_eqAcctS.calls k _ _ b1 _ _ a1 true _ ?s1 ?s2 ?s3 ?s4 HQ1.out).mono ?_; (case s1 => exact (Kd.S_reads' G0_5.out).2.2); (case s2 => exact (Kd.S_reads' G0_5.out).2.1); (case s3 => exact (Kd.N_reads' W0_5.out).2.2); (case s4 => exact (Kd.N_reads' W0_5.out).2.1); rintro e w6 ⟨rfl,hb⟩; have W0_6 := Aside0.mk (Kd.N_below W0_5.out hb); have X0_6 := Aside0.mk (Kd.S_below X0_5.out hb); have G0_6 := Aside0.mk (Kd.S_below G0_5.out hb); have HB_6 := Aside0.mk (below_step HB_5.out hb); have HZ_6 := Aside0.mk hb.size; clear hb)
  go_upto_region 15 with (first | (go_at_call 53; refine (laws_toAcctS.calls k _ _ l0 p _ ?s1 ?s2 HP.out).mono ?_; (case s1 => exact Kd.C_below HR.out HB_6.out); (case s2 => exact HC.out); rintro e w7 ⟨v7,rfl,hS,hb⟩; obtain ⟨A7,c7,rfl⟩ := Kd.S_slice hS; have T2_7 := Aside0.mk (Kd.S_lower (Kd.S_mono (ok' := fun k_ => w6.heap.size ≤ k_ ∧ k_ < w7.heap.size) (Kd.S_bound hS) (fun k_ hk => ⟨hk.2.1,hk.2.2.1⟩)) (below_size HB_6.out)); clear hS; have W0_7 := Aside0.mk (Kd.N_below W0_6.out hb); have X0_7 := Aside0.mk (Kd.S_below X0_6.out hb); have G0_7 := Aside0.mk (Kd.S_below G0_6.out hb); have HB_7 := Aside0.mk (below_step HB_6.out hb); have HZ_7 := Aside0.mk hb.size; clear hb) | (go_at_call 54; refine (laws_eqAcctS.calls k _ _ p _ _ p true _ ?s1 ?s2 ?s3 ?s4 HQ2.out).mono ?_; (case s1 => exact (Kd.S_reads' X0_7.out).2.2); (case s2 => exact (Kd.S_reads' X0_7.out).2.1); (case s3 => exact (Kd.S_reads' T2_7.out).2.2); (case s4 => exact (Kd.S_reads' T2_7.out).2.1); rintro e w8 ⟨rfl,hb⟩; have W0_8 := Aside0.mk (Kd.N_below W0_7.out hb); have X0_8 := Aside0.mk (Kd.S_below X0_7.out hb); have G0_8 := Aside0.mk (Kd.S_below G0_7.out hb); have HB_8 := Aside0.mk (below_step HB_7.out hb); have HZ_8 := Aside0.mk hb.size; clear hb))
  go_upto_region 16 with (go_at_call 55; refine (laws_markAcctS.calls k (fun k_ => w3.heap.size ≤ k_ ∧ k_ < w4.heap.size) _ p 1 mx x' w _ HB_8.out X0_8.out HMX.out).mono ?_; rintro e w9 ⟨rfl,hs,hb,hk⟩; have W0_9 := Aside0.mk (Kd.N_kept W0_8.out hk (fun k_ hk_ hM => by have h1 := HO.out; omega)); have G0_9 := Aside0.mk (Kd.S_kept G0_8.out hk (fun k_ hk_ hM => by have h1 := HO.out; omega)); have HB_9 := Aside0.mk hb; have X0_9 := Aside0.mk hs; clear hs hb hk)
  go_upto_region 19 with (go_at_call 54; refine (laws_eqAcctS.calls k _ _ b1 _ _ a1 true _ ?s1 ?s2 ?s3 ?s4 HQ1.out).mono ?_; (case s1 => exact (Kd.S_reads' G0_9.out).2.2); (case s2 => exact (Kd.S_reads' G0_9.out).2.1); (case s3 => exact (Kd.N_reads' W0_9.out).2.2); (case s4 => exact (Kd.N_reads' W0_9.out).2.1); rintro e w10 ⟨rfl,hb⟩; have W0_10 := Aside0.mk (Kd.N_below W0_9.out hb); have G0_10 := Aside0.mk (Kd.S_below G0_9.out hb); have HB_10 := Aside0.mk (below_step HB_9.out hb); have HZ_10 := Aside0.mk hb.size; clear hb)
  go_upto_region 20 with (go_at_call 55; refine (laws_markAcctS.calls k (fun k_ => w4.heap.size ≤ k_ ∧ k_ < w5.heap.size) _ b1 1 hq g' w _ HB_10.out G0_10.out HMG.out).mono ?_; rintro e w11 ⟨rfl,hs,hb,hk⟩; have W0_11 := Aside0.mk (Kd.N_kept W0_10.out hk (fun k_ hk_ hM => by have h1 := HO.out; omega)); have HB_11 := Aside0.mk hb; have G0_11 := Aside0.mk hs; clear hs hb hk)
  have e6 : b1.length = g'.length := (Kd.S_reads' G0_11.out).1;rw [e6];have hG := G0_11.out;rw [e6] at hG;replace G0_11 := Aside0.mk hG;clear hG e6
  go_upto_region 26 with (go_at_call 56; refine (laws_heldAcctS.calls k _ _ g' 1 hq _ ?s1 ?s2 HHQ.out).mono ?_; (case s1 => exact (Kd.S_reads' G0_11.out).2.2); (case s2 => exact (Kd.S_reads' G0_11.out).2.1); rintro e w12 ⟨rfl,hb⟩; have W0_12 := Aside0.mk (Kd.N_below W0_11.out hb); have G0_12 := Aside0.mk (Kd.S_below G0_11.out hb); have HB_12 := Aside0.mk (below_step HB_11.out hb); have HZ_12 := Aside0.mk hb.size; clear hb)
  go_upto_region 27 with (first | (go_at_call 53; refine (laws_toAcctS.calls k _ _ l0 p _ ?s1 ?s2 HP.out).mono ?_; (case s1 => exact Kd.C_below HR.out HB_12.out); (case s2 => exact HC.out); rintro e w13 ⟨v13,rfl,hS,hb⟩; obtain ⟨A13,c13,rfl⟩ := Kd.S_slice hS; have T3_13 := Aside0.mk (Kd.S_lower (Kd.S_mono (ok' := fun k_ => w12.heap.size ≤ k_ ∧ k_ < w13.heap.size) (Kd.S_bound hS) (fun k_ hk => ⟨hk.2.1,hk.2.2.1⟩)) (below_size HB_12.out)); clear hS; have W0_13 := Aside0.mk (Kd.N_below W0_12.out hb); have G0_13 := Aside0.mk (Kd.S_below G0_12.out hb); have HB_13 := Aside0.mk (below_step HB_12.out hb); have HZ_13 := Aside0.mk hb.size; clear hb) | (go_at_call 41; refine (impl_Credit.calls k _ _ p nm n b1 b2 _ ?s1 ?s2 HBB.out).mono ?_; (case s1 => exact (Kd.S_reads' T3_13.out).2.2); (case s2 => exact (Kd.S_reads' T3_13.out).2.1); rintro e w14 ⟨v14,rfl,hS,hb⟩; obtain ⟨A14,c14,rfl⟩ := Kd.S_slice hS; have H0_14 := Aside0.mk (Kd.S_lower (Kd.S_mono (ok' := fun k_ => w13.heap.size ≤ k_ ∧ k_ < w14.heap.size) (Kd.S_bound hS) (fun k_ hk => ⟨hk.2.1,hk.2.2.1⟩)) (below_size HB_13.out)); clear hS; have W0_14 := Aside0.mk (Kd.N_below W0_13.out hb); have G0_14 := Aside0.mk (Kd.S_below G0_13.out hb); have HB_14 := Aside0.mk (below_step HB_13.out hb); have HZ_14 := Aside0.mk hb.size; clear hb))
  go_upto_region 30 with (go_at_call 54; refine (laws_eqAcctS.calls k _ _ b1 _ _ a1 true _ ?s1 ?s2 ?s3 ?s4 HQ1.out).mono ?_; (case s1 => exact (Kd.S_reads' H0_14.out).2.2); (case s2 => exact (Kd.S_reads' H0_14.out).2.1); (case s3 => exact (Kd.N_reads' W0_14.out).2.2); (case s4 => exact (Kd.N_reads' W0_14.out).2.1); rintro e w15 ⟨rfl,hb⟩; have W0_15 := Aside0.mk (Kd.N_below W0_14.out hb); have G0_15 := Aside0.mk (Kd.S_below G0_14.out hb); have H0_15 := Aside0.mk (Kd.S_below H0_14.out hb); have HB_15 := Aside0.mk (below_step HB_14.out hb); have HZ_15 := Aside0.mk hb.size; clear hb)
  go_wp2_with (go_at_call 56; refine (laws_heldAcctS.calls k _ _ g' 1 hq _ ?s1 ?s2 HHQ.out).mono ?_; (case s1 => exact (Kd.S_reads' G0_15.out).2.2); (case s2 => exact (Kd.S_reads' G0_15.out).2.1); rintro e w16 ⟨rfl,hb⟩; have W0_16 := Aside0.mk (Kd.N_below W0_15.out hb); have G0_16 := Aside0.mk (Kd.S_below G0_15.out hb); have H0_16 := Aside0.mk (Kd.S_below H0_15.out hb); have HB_16 := Aside0.mk (below_step HB_15.out hb); have HZ_16 := Aside0.mk hb.size; clear hb)
  go_ret;exact ⟨rfl,HB_16.out⟩

end Go.Proofs.Ytcbpfofkdipjhaa.PH
