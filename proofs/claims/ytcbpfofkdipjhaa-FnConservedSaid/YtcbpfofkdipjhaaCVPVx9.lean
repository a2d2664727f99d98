/- The machine's side of Go functions: each as a plain function,and that the call does what it says. Written by a program (wip/mprint). -/
import Derived.Test.YtcbpfofkdipjhaaCVPVx0
import Derived.Test.YtcbpfofkdipjhaaCVPVx8
namespace Go.Proofs.Ytcbpfofkdipjhaa.PV
open Go.RowKit Go.Proofs.YtcbpfofkdipjhaaW.PrintWords Go.Proofs.YtcbpfofkdipjhaaW.PrintLast Go.Proofs.YtcbpfofkdipjhaaW.PrintMore
attribute [local wf_preprocess] Act.put List.setIfInBounds_toArray List.set_cons_zero List.set_cons_succ i64_w i32_w
attribute [local go_sem] max2_int min2_int max_two min_two max_three min_three max_four min_four   -- for this text's walks alone
set_option linter.unusedVariables false
set_option linter.unusedSimpArgs false

/-! ### spec_AcctsOk: function 89 -/
def spec_AcctsOk.l0 : Nat → List (S63) → Int → Option (Bool)
 | 0,_,_ => none
 | k + 1,x0,x3 => if x3 < (x0.length : Int) then (if 0 ≤ x3 then ((spec_AcctOk.f k ((rd_T63 x0 x3).f0) ((rd_T63 x0 x3).f1) ((rd_T63 x0 x3).f2) ((rd_T63 x0 x3).f3) ((rd_T63 x0 x3).f4)).bind fun t254 => (if t254 = true then (if x3 > 0 then (if 0 ≤ (wrap64 (x3 - 1)) then (if (wrap64 (x3 - 1)) < (x0.length : Int) then (if ((Op.bytesLess (((rd_T63 x0 (wrap64 (x3 - 1))).f0).toList) (((rd_T63 x0 x3).f0).toList)) = true) then (spec_AcctsOk.l0 k x0 (wrap64 (x3 + 1))) else (some false)) else (none)) else (none)) else (spec_AcctsOk.l0 k x0 (wrap64 (x3 + 1)))) else (some false))) else (none)) else (if (x0.length : Int) ≤ 12 then ((spec_Wealth.f k x0).bind fun t257 => (some (decide (t257 ≤ 1000000)))) else (some false))
def spec_AcctsOk.f (k : Nat) (l0 : List (S63)) : Option (Bool) := spec_AcctsOk.l0 k l0 0
def spec_AcctsOk.T4 : Bool × List (List Nat × List Nat) := (true,[([],[]),([],[]),([0,1],[0,1]),([2],[2]),([3],[3]),([4],[4]),([5,4],[5]),([6],[6]),([7,6],[6,7]),([8,6,6],[6,8]),([9],[9]),([9],[9]),([11,9],[9,11]),([10,12,9],[9,10,12]),([13,9],[9,13]),([14,9],[9,14]),([9],[9]),([9],[9]),([16,17,9],[9,16,17]),([18,9],[9,18]),([19,9],[9,19]),([15,20,9],[9,15,20]),([9,21,6],[6,9,21]),([6,22],[6,22])])
def spec_AcctsOk.B4 : List Nat := [0,0,3,7,15,31,63,127,255,511,1023,1023,3071,8191,16383,32767,1023,1023,197631,459775,984063,2097151,4194303,8388607]
theorem spec_AcctsOk.tab4 : rtab .any (opsOf Try.f89 4) = spec_AcctsOk.T4 := by kernel_rfl
theorem spec_AcctsOk.bits4 : waitsOk spec_AcctsOk.T4.2 spec_AcctsOk.B4 = true := by kernel_rfl
set_option maxHeartbeats 8000000 in
set_option maxRecDepth 100000 in
theorem spec_AcctsOk.calls (k : Nat) (A0 : Option Addr) (c0 : Nat) (l0 : List (S63)) (r : Bool) (w : World) (hr0 : Kd.C k63 w A0 l0.length l0) (hc0 : l0.length ≤ c0) (h : spec_AcctsOk.f k l0 = some r) :
  Calls Try.prog 89 #[.slice A0 l0.length c0] w fun e w' => e = .returned (.bool r) ∧ Below w.heap.size w w' := by
 have hu63 := Try.underlying63;have HR0 := Aside0.mk hr0;have HC0 := Aside0.mk hc0;clear hr0 hc0;have HB := Aside0.mk (Below.refl w.heap.size w);have H : (spec_AcctsOk.l0 k l0 0) = some r := h;clear h;have H' := Aside0.mk H;clear H;go_enter Try.func89,Try.ntmps89;go_wp2
 go_loopg [3] k (fun kq v3 w' => ∃ (x3_1 : Int),v3 = .int .i64 x3_1 ∧ Aside0 (spec_AcctsOk.l0 kq l0 x3_1 = some r) ∧ Aside0 (kq ≤ k) ∧ Aside0 (Below w.heap.size w w'))
 case atStart => exact ⟨(0),(by rfl),H',⟨Nat.le_refl _⟩,⟨HB.out⟩⟩
 case round =>
  clear H';obtain ⟨x3_1,rfl,HA,HK1,HB⟩ := hrel
  cases gk with
  | zero => exact absurd HA.out (by simp [spec_AcctsOk.l0])
  | succ k1 =>
   have H := HA.out;clear HA;simp only [spec_AcctsOk.l0] at H
   by_cases c2 : x3_1 < (l0.length : Int)
   ·rw [if_pos c2] at H;have c2b0 := decide_eq_true c2;clear c2
    by_cases c3 : 0 ≤ x3_1
    ·rw [if_pos c3] at H;have c3b0 := decide_eq_true c3;clear c3;replace H := Option.bind_eq_some_iff.mp H;obtain ⟨t254,A40,H⟩ := H;replace H : (if t254 = true then (if x3_1 > 0 then (if 0 ≤ (wrap64 (x3_1 - 1)) then (if (wrap64 (x3_1 - 1)) < (l0.length : Int) then (if ((Op.bytesLess (((rd_T63 l0 (wrap64 (x3_1 - 1))).f0).toList) (((rd_T63 l0 x3_1).f0).toList)) = true) then (spec_AcctsOk.l0 k1 l0 (wrap64 (x3_1 + 1))) else (some false)) else (none)) else (none)) else (spec_AcctsOk.l0 k1 l0 (wrap64 (x3_1 + 1)))) else (some false)) = some r := H;have A4 := Aside0.mk A40;clear A40
     by_cases c5 : t254 = true
     ·subst c5
      rw [if_pos rfl] at H
      by_cases c6 : x3_1 > 0
      ·rw [if_pos c6] at H;have c6b0 := decide_eq_true c6;clear c6;obtain ⟨ji7,hji7⟩ : ∃ j_ : Int,(wrap64 (x3_1 - 1)) = j_ := ⟨_,rfl⟩
       replace H : (if 0 ≤ (ji7) then (if (ji7) < (l0.length : Int) then (if ((Op.bytesLess (((rd_T63 l0 (ji7)).f0).toList) (((rd_T63 l0 x3_1).f0).toList)) = true) then (spec_AcctsOk.l0 k1 l0 (wrap64 (x3_1 + 1))) else (some false)) else (none)) else (none)) = some r := by (rw [hji7] at H; exact H)
       skip
       have hji7w : (IntKind.i64.wrap (x3_1 - 1)) = ji7 := (i64_w _).trans hji7
       by_cases c8 : 0 ≤ (ji7)
       ·rw [if_pos c8] at H;have c8b0 := decide_eq_true c8;clear c8
        by_cases c9 : (ji7) < (l0.length : Int)
        ·rw [if_pos c9] at H;have c9b0 := decide_eq_true c9;clear c9
         by_cases c10 : ((Op.bytesLess (((rd_T63 l0 (ji7)).f0).toList) (((rd_T63 l0 x3_1).f0).toList)) = true)
         ·rw [if_pos c10] at H;have c10b0 : (Op.bytesLess (((rd_T63 l0 (ji7)).f0).toList) (((rd_T63 l0 x3_1).f0).toList)) = true := c10;clear c10;have H' := Aside0.mk H;clear H
          try go_wp2
          replace HB := Aside0.mk (below_drew1 HB.out);have p253 : 0 ≤ (x3_1 : Int) := odt (by with_reducible assumption);have q253 : x3_1 < (l0.length : Int) := odt (by with_reducible assumption);obtain ⟨ad253,A253_4,c253_4,e253,hx253_0,hx253_1,hx253_2,hx253_3,hx253_4,hl253_4,hi253_4⟩ := at_T63 HR0.out x3_1 p253 q253;have hw253_4 := hx253_4;have hw253_3 := hx253_3;have hw253_2 := hx253_2;have hw253_1 := hx253_1;have hw253_0 := hx253_0
          cases e253
          replace ⟨hx253_0,hx253_1,hx253_2,hx253_3,hx253_4⟩ := up5 HB.out hx253_0 hx253_1 hx253_2 hx253_3 hx253_4;have HR253_4 := Aside0.mk hi253_4;have HC253_4 := Aside0.mk hl253_4;clear hi253_4 hl253_4;replace p253 := eq_true p253;replace q253 := eq_true q253;have p255 : 0 ≤ ((ji7) : Int) := odt (by with_reducible assumption);have q255 : (ji7) < (l0.length : Int) := odt (by with_reducible assumption);obtain ⟨ad255,A255_4,c255_4,e255,hx255_0,hx255_1,hx255_2,hx255_3,hx255_4,hl255_4,hi255_4⟩ := at_T63 HR0.out (ji7) p255 q255;have hw255_4 := hx255_4;have hw255_3 := hx255_3;have hw255_2 := hx255_2;have hw255_1 := hx255_1;have hw255_0 := hx255_0;obtain rfl : ad253 = ad255 := (by injection e255);replace ⟨hx255_0,hx255_1,hx255_2,hx255_3,hx255_4⟩ := up5 HB.out hx255_0 hx255_1 hx255_2 hx255_3 hx255_4;have HR255_4 := Aside0.mk hi255_4;have HC255_4 := Aside0.mk hl255_4;clear hi255_4 hl255_4;replace p255 := eq_true p255;replace q255 := eq_true q255;have p256 : 0 ≤ (x3_1 : Int) := odt (by with_reducible assumption);have q256 : x3_1 < (l0.length : Int) := odt (by with_reducible assumption);obtain ⟨ad256,A256_4,c256_4,e256,hx256_0,hx256_1,hx256_2,hx256_3,hx256_4,hl256_4,hi256_4⟩ := at_T63 HR0.out x3_1 p256 q256;have hw256_4 := hx256_4;have hw256_3 := hx256_3;have hw256_2 := hx256_2;have hw256_1 := hx256_1;have hw256_0 := hx256_0;obtain rfl : ad253 = ad256 := (by injection e256);replace ⟨hx256_0,hx256_1,hx256_2,hx256_3,hx256_4⟩ := up5 HB.out hx256_0 hx256_1 hx256_2 hx256_3 hx256_4;have HR256_4 := Aside0.mk hi256_4;have HC256_4 := Aside0.mk hl256_4;clear hi256_4 hl256_4;replace p256 := eq_true p256;replace q256 := eq_true q256;refine start_ (n := 24) (S := fun w' => w'.cell? (ad253.add ((x3_1).toNat * 5)) = some (.string ((rd_T63 l0 x3_1).f0)) ∧ w'.cell? ⟨(ad253.add ((x3_1).toNat * 5)).block,(ad253.add ((x3_1).toNat * 5)).off + 1,none⟩ = some (.int .i64 ((rd_T63 l0 x3_1).f1)) ∧ w'.cell? ⟨(ad253.add ((x3_1).toNat * 5)).block,(ad253.add ((x3_1).toNat * 5)).off + 2,none⟩ = some (.int .i64 ((rd_T63 l0 x3_1).f2)) ∧ w'.cell? ⟨(ad253.add ((x3_1).toNat * 5)).block,(ad253.add ((x3_1).toNat * 5)).off + 3,none⟩ = some (.int .i64 ((rd_T63 l0 x3_1).f3)) ∧ w'.cell? ⟨(ad253.add ((x3_1).toNat * 5)).block,(ad253.add ((x3_1).toNat * 5)).off + 4,none⟩ = some (.slice A253_4 ((rd_T63 l0 x3_1).f4).length c253_4) ∧ w'.cell? (ad253.add ((ji7).toNat * 5)) = some (.string ((rd_T63 l0 (ji7)).f0)) ∧ w'.cell? ⟨(ad253.add ((ji7).toNat * 5)).block,(ad253.add ((ji7).toNat * 5)).off + 1,none⟩ = some (.int .i64 ((rd_T63 l0 (ji7)).f1)) ∧ w'.cell? ⟨(ad253.add ((ji7).toNat * 5)).block,(ad253.add ((ji7).toNat * 5)).off + 2,none⟩ = some (.int .i64 ((rd_T63 l0 (ji7)).f2)) ∧ w'.cell? ⟨(ad253.add ((ji7).toNat * 5)).block,(ad253.add ((ji7).toNat * 5)).off + 3,none⟩ = some (.int .i64 ((rd_T63 l0 (ji7)).f3)) ∧ w'.cell? ⟨(ad253.add ((ji7).toNat * 5)).block,(ad253.add ((ji7).toNat * 5)).off + 4,none⟩ = some (.slice A255_4 ((rd_T63 l0 (ji7)).f4).length c255_4) ∧ w'.cell? (ad253.add ((x3_1).toNat * 5)) = some (.string ((rd_T63 l0 x3_1).f0)) ∧ w'.cell? ⟨(ad253.add ((x3_1).toNat * 5)).block,(ad253.add ((x3_1).toNat * 5)).off + 1,none⟩ = some (.int .i64 ((rd_T63 l0 x3_1).f1)) ∧ w'.cell? ⟨(ad253.add ((x3_1).toNat * 5)).block,(ad253.add ((x3_1).toNat * 5)).off + 2,none⟩ = some (.int .i64 ((rd_T63 l0 x3_1).f2)) ∧ w'.cell? ⟨(ad253.add ((x3_1).toNat * 5)).block,(ad253.add ((x3_1).toNat * 5)).off + 3,none⟩ = some (.int .i64 ((rd_T63 l0 x3_1).f3)) ∧ w'.cell? ⟨(ad253.add ((x3_1).toNat * 5)).block,(ad253.add ((x3_1).toNat * 5)).off + 4,none⟩ = some (.slice A256_4 ((rd_T63 l0 x3_1).f4).length c256_4)) (ds := []) (Array.replicate 24 false) (by kernel_rfl) rfl rfl ⟨(up_ HB.out hw253_0),(up_ HB.out hw253_1),(up_ HB.out hw253_2),(up_ HB.out hw253_3),(up_ HB.out hw253_4),(up_ HB.out hw255_0),(up_ HB.out hw255_1),(up_ HB.out hw255_2),(up_ HB.out hw255_3),(up_ HB.out hw255_4),(up_ HB.out hw256_0),(up_ HB.out hw256_1),(up_ HB.out hw256_2),(up_ HB.out hw256_3),(up_ HB.out hw256_4)⟩ (fun hHeld => ?_); refine with_tabW spec_AcctsOk.tab4 spec_AcctsOk.bits4 (fun HT_ HW_ => ?_)
          generalize wr.drew = w11 at HB HR253_4 HR255_4 HR256_4 hx253_0 hx253_1 hx253_2 hx253_3 hx253_4 hx255_0 hx255_1 hx255_2 hx255_3 hx255_4 hx256_0 hx256_1 hx256_2 hx256_3 hx256_4 hHeld ⊢
          refine pu 0 (some 10) (fl 24 1) HT_ rfl rfl (by kernel_rfl) (fun _ _ _ h => h) (by rfl) (fun w' => by go_simp;with_reducible rfl) (by simp only [wf_preprocess];rfl) ?_
          refine pu 1 (some 11) (fl 24 3) HT_ rfl rfl (by kernel_rfl) (fun _ _ _ h => h) (by rfl) (fun w' => by go_simp;with_reducible rfl) (by simp only [wf_preprocess];rfl) ?_
          refine pu 2 (some 12) (fl 24 7) HT_ rfl rfl (by kernel_rfl) (fun _ _ _ h => h) (by rfl) (fun w' => by go_simp;with_reducible rfl) (by simp only [wf_preprocess];rfl) ?_
          refine tk 3 (some 13) (fl 24 15) HT_ HW_ rfl rfl (by kernel_rfl) (fun _ _ _ h => h) (by rfl) (by rintro w' ⟨s0,s1,s2,s3,s4,s5,s6,s7,s8,s9,s10,s11,s12,s13,s14⟩;go_simp;with_reducible rfl) hHeld (by simp only [wf_preprocess];rfl) ?_
          refine one_ (i := 4) (N := some 14) (fl 24 31) rfl rfl (one_of HT_.out (by kernel_rfl)) (by decide) (fun K hK => ?_);refine goes_ Try.func123 (by kernel_rfl) rfl #[.agg #[.string ((rd_T63 l0 x3_1).f0),.int .i64 ((rd_T63 l0 x3_1).f1),.int .i64 ((rd_T63 l0 x3_1).f2),.int .i64 ((rd_T63 l0 x3_1).f3),.slice A253_4 ((rd_T63 l0 x3_1).f4).length c253_4]] (by rfl) rfl rfl (by (try simp only [List.map_toArray,List.map_cons,List.map_nil]); rfl) ?_
          with_reducible refine (spec_AcctOk.calls k1 ((rd_T63 l0 x3_1).f0) ((rd_T63 l0 x3_1).f1) ((rd_T63 l0 x3_1).f2) ((rd_T63 l0 x3_1).f3) _ _ ((rd_T63 l0 x3_1).f4) true _ ?side1 ?side2 A4.out).mono ?_
          (case side1 => repeat (exact (Kd.C_below HR253_4.out HB.out)))
          (case side2 => exact HC253_4.out)
          rintro e w12 ⟨rfl,hb⟩;refine ⟨_,rfl,?_⟩;replace HB := bst HB hb
          (try clear hb)
          skip
          skip
          skip
          refine hK.out _ _ ⟨(up_ HB.out hw253_0),(up_ HB.out hw253_1),(up_ HB.out hw253_2),(up_ HB.out hw253_3),(up_ HB.out hw253_4),(up_ HB.out hw255_0),(up_ HB.out hw255_1),(up_ HB.out hw255_2),(up_ HB.out hw255_3),(up_ HB.out hw255_4),(up_ HB.out hw256_0),(up_ HB.out hw256_1),(up_ HB.out hw256_2),(up_ HB.out hw256_3),(up_ HB.out hw256_4)⟩ (fun hHeld => ?_);clear hK K;refine norm_ (a' := ?_) ?_ ?_;rotate_left
          ·show Act.put _ (some 14) _ = _
           simp only [wf_preprocess];rfl
          refine pu 5 (some 15) (fl 24 63) HT_ rfl rfl (by kernel_rfl) (fun _ _ _ h => h) (by rfl) (fun w' => by go_simp;with_reducible rfl) (by simp only [wf_preprocess];rfl) ?_
          refine pu 6 (some 16) (fl 24 127) HT_ rfl rfl (by kernel_rfl) (fun _ _ _ h => h) (by rfl) (fun w' => by go_simp;with_reducible rfl) (by simp only [wf_preprocess];rfl) ?_
          refine pu 7 (some 17) (fl 24 255) HT_ rfl rfl (by kernel_rfl) (fun _ _ _ h => h) (by rfl) (fun w' => by go_simp;with_reducible rfl) (by simp only [wf_preprocess];rfl) ?_
          refine pu 8 (some 18) (fl 24 511) HT_ rfl rfl (by kernel_rfl) (fun _ _ _ h => h) (by rfl) (fun w' => by go_simp;with_reducible rfl) (by simp only [wf_preprocess];rfl) ?_
          refine pu 9 (some 19) (fl 24 1023) HT_ rfl rfl (by kernel_rfl) (fun _ _ _ h => h) (by rfl) (fun w' => by go_simp;with_reducible rfl) (by simp only [wf_preprocess];rfl) ?_
          refine pu 10 (some 20) (fl 24 2047) HT_ rfl rfl (by kernel_rfl) (fun _ _ _ h => h) (by rfl) (fun w' => by go_simp;with_reducible rfl) (by simp only [wf_preprocess];rfl) ?_
          refine pu 11 (some 21) (fl 24 4095) HT_ rfl rfl (by kernel_rfl) (fun _ _ _ h => h) (by rfl) (fun w' => by go_simp;with_reducible rfl) (by simp only [wf_preprocess];rfl) ?_
          refine pu 12 (some 22) (fl 24 8191) HT_ rfl rfl (by kernel_rfl) (fun _ _ _ h => h) (by rfl) (fun w' => by go_simp;with_reducible rfl) (by simp only [wf_preprocess];rfl) ?_
          refine pu 13 (some 23) (fl 24 16383) HT_ rfl rfl (by kernel_rfl) (fun _ _ _ h => h) (by rfl) (fun w' => by go_simp;with_reducible rfl) (by simp only [wf_preprocess];rfl) ?_
          refine pu 14 (some 24) (fl 24 32767) HT_ rfl rfl (by kernel_rfl) (fun _ _ _ h => h) (by rfl) (fun w' => by go_simp;with_reducible rfl) (by simp only [wf_preprocess];rfl) ?_
          refine pu 16 (some 26) (fl 24 98303) HT_ rfl rfl (by kernel_rfl) (fun _ _ _ h => h) (by rfl) (fun w' => by go_simp;with_reducible rfl) (by simp only [wf_preprocess];rfl) ?_
          refine pu 17 (some 27) (fl 24 229375) HT_ rfl rfl (by kernel_rfl) (fun _ _ _ h => h) (by rfl) (fun w' => by go_simp;with_reducible rfl) (by simp only [wf_preprocess];rfl) ?_
          refine pu 18 (some 28) (fl 24 491519) HT_ rfl rfl (by kernel_rfl) (fun _ _ _ h => h) (by rfl) (fun w' => by go_simp;with_reducible rfl) (by simp only [wf_preprocess];rfl) ?_
          refine pu 19 (some 29) (fl 24 1015807) HT_ rfl rfl (by kernel_rfl) (fun _ _ _ h => h) (by rfl) (fun w' => by go_simp;with_reducible rfl) (by simp only [wf_preprocess];rfl) ?_
          refine tk 15 (some 25) (fl 24 1048575) HT_ HW_ rfl rfl (by kernel_rfl) (fun _ _ _ h => h) (by rfl) (by rintro w' ⟨s0,s1,s2,s3,s4,s5,s6,s7,s8,s9,s10,s11,s12,s13,s14⟩;go_simp;with_reducible rfl) hHeld (by simp only [wf_preprocess];rfl) ?_
          refine tk 20 (some 30) (fl 24 2097151) HT_ HW_ rfl rfl (by kernel_rfl) (fun _ _ _ h => h) (by rfl) (by rintro w' ⟨s0,s1,s2,s3,s4,s5,s6,s7,s8,s9,s10,s11,s12,s13,s14⟩;go_simp;with_reducible rfl) hHeld (by simp only [wf_preprocess];rfl) ?_
          refine pu 21 (some 31) (fl 24 4194303) HT_ rfl rfl (by kernel_rfl) (fun _ _ _ h => h) (by rfl) (fun w' => by go_simp;with_reducible rfl) (by simp only [wf_preprocess];rfl) ?_
          refine pu 22 (some 32) (fl 24 8388607) HT_ rfl rfl (by kernel_rfl) (fun _ _ _ h => h) (by rfl) (fun w' => by go_simp;with_reducible rfl) (by simp only [wf_preprocess];rfl) ?_
          refine pu 23 (some 33) (fl 24 16777215) HT_ rfl rfl (by kernel_rfl) (fun _ _ _ h => h) (by rfl) (fun w' => by go_simp;with_reducible rfl) (by simp only [wf_preprocess];rfl) ?_
          refine done_ (done_of HT_.out (by kernel_rfl)) ?_
          try go_wp2
          go_roundg k1
          case measure => have := HK1.out; omega
          case rel => exact ⟨(wrap64 (x3_1 + 1)),(by rfl),H',⟨by have := HK1.out; omega⟩,⟨HB.out⟩⟩
         ·rw [if_neg c10] at H
          have c10b0 : (Op.bytesLess (((rd_T63 l0 (ji7)).f0).toList) (((rd_T63 l0 x3_1).f0).toList)) = false := by simpa using c10
          clear c10;obtain rfl := Option.some.inj H
          try go_wp2
          replace HB := Aside0.mk (below_drew1 HB.out);have p253 : 0 ≤ (x3_1 : Int) := odt (by with_reducible assumption);have q253 : x3_1 < (l0.length : Int) := odt (by with_reducible assumption);obtain ⟨ad253,A253_4,c253_4,e253,hx253_0,hx253_1,hx253_2,hx253_3,hx253_4,hl253_4,hi253_4⟩ := at_T63 HR0.out x3_1 p253 q253;have hw253_4 := hx253_4;have hw253_3 := hx253_3;have hw253_2 := hx253_2;have hw253_1 := hx253_1;have hw253_0 := hx253_0
          cases e253
          replace ⟨hx253_0,hx253_1,hx253_2,hx253_3,hx253_4⟩ := up5 HB.out hx253_0 hx253_1 hx253_2 hx253_3 hx253_4;have HR253_4 := Aside0.mk hi253_4;have HC253_4 := Aside0.mk hl253_4;clear hi253_4 hl253_4;replace p253 := eq_true p253;replace q253 := eq_true q253;have p255 : 0 ≤ ((ji7) : Int) := odt (by with_reducible assumption);have q255 : (ji7) < (l0.length : Int) := odt (by with_reducible assumption);obtain ⟨ad255,A255_4,c255_4,e255,hx255_0,hx255_1,hx255_2,hx255_3,hx255_4,hl255_4,hi255_4⟩ := at_T63 HR0.out (ji7) p255 q255;have hw255_4 := hx255_4;have hw255_3 := hx255_3;have hw255_2 := hx255_2;have hw255_1 := hx255_1;have hw255_0 := hx255_0;obtain rfl : ad253 = ad255 := (by injection e255);replace ⟨hx255_0,hx255_1,hx255_2,hx255_3,hx255_4⟩ := up5 HB.out hx255_0 hx255_1 hx255_2 hx255_3 hx255_4;have HR255_4 := Aside0.mk hi255_4;have HC255_4 := Aside0.mk hl255_4;clear hi255_4 hl255_4;replace p255 := eq_true p255;replace q255 := eq_true q255;have p256 : 0 ≤ (x3_1 : Int) := odt (by with_reducible assumption);have q256 : x3_1 < (l0.length : Int) := odt (by with_reducible assumption);obtain ⟨ad256,A256_4,c256_4,e256,hx256_0,hx256_1,hx256_2,hx256_3,hx256_4,hl256_4,hi256_4⟩ := at_T63 HR0.out x3_1 p256 q256;have hw256_4 := hx256_4;have hw256_3 := hx256_3;have hw256_2 := hx256_2;have hw256_1 := hx256_1;have hw256_0 := hx256_0;obtain rfl : ad253 = ad256 := (by injection e256);replace ⟨hx256_0,hx256_1,hx256_2,hx256_3,hx256_4⟩ := up5 HB.out hx256_0 hx256_1 hx256_2 hx256_3 hx256_4;have HR256_4 := Aside0.mk hi256_4;have HC256_4 := Aside0.mk hl256_4;clear hi256_4 hl256_4;replace p256 := eq_true p256;replace q256 := eq_true q256;refine start_ (n := 24) (S := fun w' => w'.cell? (ad253.add ((x3_1).toNat * 5)) = some (.string ((rd_T63 l0 x3_1).f0)) ∧ w'.cell? ⟨(ad253.add ((x3_1).toNat * 5)).block,(ad253.add ((x3_1).toNat * 5)).off + 1,none⟩ = some (.int .i64 ((rd_T63 l0 x3_1).f1)) ∧ w'.cell? ⟨(ad253.add ((x3_1).toNat * 5)).block,(ad253.add ((x3_1).toNat * 5)).off + 2,none⟩ = some (.int .i64 ((rd_T63 l0 x3_1).f2)) ∧ w'.cell? ⟨(ad253.add ((x3_1).toNat * 5)).block,(ad253.add ((x3_1).toNat * 5)).off + 3,none⟩ = some (.int .i64 ((rd_T63 l0 x3_1).f3)) ∧ w'.cell? ⟨(ad253.add ((x3_1).toNat * 5)).block,(ad253.add ((x3_1).toNat * 5)).off + 4,none⟩ = some (.slice A253_4 ((rd_T63 l0 x3_1).f4).length c253_4) ∧ w'.cell? (ad253.add ((ji7).toNat * 5)) = some (.string ((rd_T63 l0 (ji7)).f0)) ∧ w'.cell? ⟨(ad253.add ((ji7).toNat * 5)).block,(ad253.add ((ji7).toNat * 5)).off + 1,none⟩ = some (.int .i64 ((rd_T63 l0 (ji7)).f1)) ∧ w'.cell? ⟨(ad253.add ((ji7).toNat * 5)).block,(ad253.add ((ji7).toNat * 5)).off + 2,none⟩ = some (.int .i64 ((rd_T63 l0 (ji7)).f2)) ∧ w'.cell? ⟨(ad253.add ((ji7).toNat * 5)).block,(ad253.add ((ji7).toNat * 5)).off + 3,none⟩ = some (.int .i64 ((rd_T63 l0 (ji7)).f3)) ∧ w'.cell? ⟨(ad253.add ((ji7).toNat * 5)).block,(ad253.add ((ji7).toNat * 5)).off + 4,none⟩ = some (.slice A255_4 ((rd_T63 l0 (ji7)).f4).length c255_4) ∧ w'.cell? (ad253.add ((x3_1).toNat * 5)) = some (.string ((rd_T63 l0 x3_1).f0)) ∧ w'.cell? ⟨(ad253.add ((x3_1).toNat * 5)).block,(ad253.add ((x3_1).toNat * 5)).off + 1,none⟩ = some (.int .i64 ((rd_T63 l0 x3_1).f1)) ∧ w'.cell? ⟨(ad253.add ((x3_1).toNat * 5)).block,(ad253.add ((x3_1).toNat * 5)).off + 2,none⟩ = some (.int .i64 ((rd_T63 l0 x3_1).f2)) ∧ w'.cell? ⟨(ad253.add ((x3_1).toNat * 5)).block,(ad253.add ((x3_1).toNat * 5)).off + 3,none⟩ = some (.int .i64 ((rd_T63 l0 x3_1).f3)) ∧ w'.cell? ⟨(ad253.add ((x3_1).toNat * 5)).block,(ad253.add ((x3_1).toNat * 5)).off + 4,none⟩ = some (.slice A256_4 ((rd_T63 l0 x3_1).f4).length c256_4)) (ds := []) (Array.replicate 24 false) (by kernel_rfl) rfl rfl ⟨(up_ HB.out hw253_0),(up_ HB.out hw253_1),(up_ HB.out hw253_2),(up_ HB.out hw253_3),(up_ HB.out hw253_4),(up_ HB.out hw255_0),(up_ HB.out hw255_1),(up_ HB.out hw255_2),(up_ HB.out hw255_3),(up_ HB.out hw255_4),(up_ HB.out hw256_0),(up_ HB.out hw256_1),(up_ HB.out hw256_2),(up_ HB.out hw256_3),(up_ HB.out hw256_4)⟩ (fun hHeld => ?_); refine with_tabW spec_AcctsOk.tab4 spec_AcctsOk.bits4 (fun HT_ HW_ => ?_)
          generalize wr.drew = w13 at HB HR253_4 HR255_4 HR256_4 hx253_0 hx253_1 hx253_2 hx253_3 hx253_4 hx255_0 hx255_1 hx255_2 hx255_3 hx255_4 hx256_0 hx256_1 hx256_2 hx256_3 hx256_4 hHeld ⊢
          refine pu 0 (some 10) (fl 24 1) HT_ rfl rfl (by kernel_rfl) (fun _ _ _ h => h) (by rfl) (fun w' => by go_simp;with_reducible rfl) (by simp only [wf_preprocess];rfl) ?_
          refine pu 1 (some 11) (fl 24 3) HT_ rfl rfl (by kernel_rfl) (fun _ _ _ h => h) (by rfl) (fun w' => by go_simp;with_reducible rfl) (by simp only [wf_preprocess];rfl) ?_
          refine pu 2 (some 12) (fl 24 7) HT_ rfl rfl (by kernel_rfl) (fun _ _ _ h => h) (by rfl) (fun w' => by go_simp;with_reducible rfl) (by simp only [wf_preprocess];rfl) ?_
          refine tk 3 (some 13) (fl 24 15) HT_ HW_ rfl rfl (by kernel_rfl) (fun _ _ _ h => h) (by rfl) (by rintro w' ⟨s0,s1,s2,s3,s4,s5,s6,s7,s8,s9,s10,s11,s12,s13,s14⟩;go_simp;with_reducible rfl) hHeld (by simp only [wf_preprocess];rfl) ?_
          refine one_ (i := 4) (N := some 14) (fl 24 31) rfl rfl (one_of HT_.out (by kernel_rfl)) (by decide) (fun K hK => ?_);refine goes_ Try.func123 (by kernel_rfl) rfl #[.agg #[.string ((rd_T63 l0 x3_1).f0),.int .i64 ((rd_T63 l0 x3_1).f1),.int .i64 ((rd_T63 l0 x3_1).f2),.int .i64 ((rd_T63 l0 x3_1).f3),.slice A253_4 ((rd_T63 l0 x3_1).f4).length c253_4]] (by rfl) rfl rfl (by (try simp only [List.map_toArray,List.map_cons,List.map_nil]); rfl) ?_
          with_reducible refine (spec_AcctOk.calls k1 ((rd_T63 l0 x3_1).f0) ((rd_T63 l0 x3_1).f1) ((rd_T63 l0 x3_1).f2) ((rd_T63 l0 x3_1).f3) _ _ ((rd_T63 l0 x3_1).f4) true _ ?side1 ?side2 A4.out).mono ?_
          (case side1 => repeat (exact (Kd.C_below HR253_4.out HB.out)))
          (case side2 => exact HC253_4.out)
          rintro e w14 ⟨rfl,hb⟩;refine ⟨_,rfl,?_⟩;replace HB := bst HB hb
          (try clear hb)
          skip
          skip
          skip
          refine hK.out _ _ ⟨(up_ HB.out hw253_0),(up_ HB.out hw253_1),(up_ HB.out hw253_2),(up_ HB.out hw253_3),(up_ HB.out hw253_4),(up_ HB.out hw255_0),(up_ HB.out hw255_1),(up_ HB.out hw255_2),(up_ HB.out hw255_3),(up_ HB.out hw255_4),(up_ HB.out hw256_0),(up_ HB.out hw256_1),(up_ HB.out hw256_2),(up_ HB.out hw256_3),(up_ HB.out hw256_4)⟩ (fun hHeld => ?_);clear hK K;refine norm_ (a' := ?_) ?_ ?_;rotate_left
          ·show Act.put _ (some 14) _ = _
           simp only [wf_preprocess];rfl
          refine pu 5 (some 15) (fl 24 63) HT_ rfl rfl (by kernel_rfl) (fun _ _ _ h => h) (by rfl) (fun w' => by go_simp;with_reducible rfl) (by simp only [wf_preprocess];rfl) ?_
          refine pu 6 (some 16) (fl 24 127) HT_ rfl rfl (by kernel_rfl) (fun _ _ _ h => h) (by rfl) (fun w' => by go_simp;with_reducible rfl) (by simp only [wf_preprocess];rfl) ?_
          refine pu 7 (some 17) (fl 24 255) HT_ rfl rfl (by kernel_rfl) (fun _ _ _ h => h) (by rfl) (fun w' => by go_simp;with_reducible rfl) (by simp only [wf_preprocess];rfl) ?_
          refine pu 8 (some 18) (fl 24 511) HT_ rfl rfl (by kernel_rfl) (fun _ _ _ h => h) (by rfl) (fun w' => by go_simp;with_reducible rfl) (by simp only [wf_preprocess];rfl) ?_
          refine pu 9 (some 19) (fl 24 1023) HT_ rfl rfl (by kernel_rfl) (fun _ _ _ h => h) (by rfl) (fun w' => by go_simp;with_reducible rfl) (by simp only [wf_preprocess];rfl) ?_
          refine pu 10 (some 20) (fl 24 2047) HT_ rfl rfl (by kernel_rfl) (fun _ _ _ h => h) (by rfl) (fun w' => by go_simp;with_reducible rfl) (by simp only [wf_preprocess];rfl) ?_
          refine pu 11 (some 21) (fl 24 4095) HT_ rfl rfl (by kernel_rfl) (fun _ _ _ h => h) (by rfl) (fun w' => by go_simp;with_reducible rfl) (by simp only [wf_preprocess];rfl) ?_
          refine pu 12 (some 22) (fl 24 8191) HT_ rfl rfl (by kernel_rfl) (fun _ _ _ h => h) (by rfl) (fun w' => by go_simp;with_reducible rfl) (by simp only [wf_preprocess];rfl) ?_
          refine pu 13 (some 23) (fl 24 16383) HT_ rfl rfl (by kernel_rfl) (fun _ _ _ h => h) (by rfl) (fun w' => by go_simp;with_reducible rfl) (by simp only [wf_preprocess];rfl) ?_
          refine pu 14 (some 24) (fl 24 32767) HT_ rfl rfl (by kernel_rfl) (fun _ _ _ h => h) (by rfl) (fun w' => by go_simp;with_reducible rfl) (by simp only [wf_preprocess];rfl) ?_
          refine pu 16 (some 26) (fl 24 98303) HT_ rfl rfl (by kernel_rfl) (fun _ _ _ h => h) (by rfl) (fun w' => by go_simp;with_reducible rfl) (by simp only [wf_preprocess];rfl) ?_
          refine pu 17 (some 27) (fl 24 229375) HT_ rfl rfl (by kernel_rfl) (fun _ _ _ h => h) (by rfl) (fun w' => by go_simp;with_reducible rfl) (by simp only [wf_preprocess];rfl) ?_
          refine pu 18 (some 28) (fl 24 491519) HT_ rfl rfl (by kernel_rfl) (fun _ _ _ h => h) (by rfl) (fun w' => by go_simp;with_reducible rfl) (by simp only [wf_preprocess];rfl) ?_
          refine pu 19 (some 29) (fl 24 1015807) HT_ rfl rfl (by kernel_rfl) (fun _ _ _ h => h) (by rfl) (fun w' => by go_simp;with_reducible rfl) (by simp only [wf_preprocess];rfl) ?_
          refine tk 15 (some 25) (fl 24 1048575) HT_ HW_ rfl rfl (by kernel_rfl) (fun _ _ _ h => h) (by rfl) (by rintro w' ⟨s0,s1,s2,s3,s4,s5,s6,s7,s8,s9,s10,s11,s12,s13,s14⟩;go_simp;with_reducible rfl) hHeld (by simp only [wf_preprocess];rfl) ?_
          refine tk 20 (some 30) (fl 24 2097151) HT_ HW_ rfl rfl (by kernel_rfl) (fun _ _ _ h => h) (by rfl) (by rintro w' ⟨s0,s1,s2,s3,s4,s5,s6,s7,s8,s9,s10,s11,s12,s13,s14⟩;go_simp;with_reducible rfl) hHeld (by simp only [wf_preprocess];rfl) ?_
          refine pu 21 (some 31) (fl 24 4194303) HT_ rfl rfl (by kernel_rfl) (fun _ _ _ h => h) (by rfl) (fun w' => by go_simp;with_reducible rfl) (by simp only [wf_preprocess];rfl) ?_
          refine pu 22 (some 32) (fl 24 8388607) HT_ rfl rfl (by kernel_rfl) (fun _ _ _ h => h) (by rfl) (fun w' => by go_simp;with_reducible rfl) (by simp only [wf_preprocess];rfl) ?_
          refine pu 23 (some 33) (fl 24 16777215) HT_ rfl rfl (by kernel_rfl) (fun _ _ _ h => h) (by rfl) (fun w' => by go_simp;with_reducible rfl) (by simp only [wf_preprocess];rfl) ?_
          refine done_ (done_of HT_.out (by kernel_rfl)) ?_
          try go_wp2
          go_ret;exact ⟨by rfl,HB.out⟩
        ·rw [if_neg c9] at H;exact absurd H (by simp)
       ·rw [if_neg c8] at H;exact absurd H (by simp)
      ·rw [if_neg c6] at H;have c6b0 := decide_eq_false c6;clear c6;have H' := Aside0.mk H;clear H
       try go_wp2
       replace HB := Aside0.mk (below_drew1 HB.out);have p253 : 0 ≤ (x3_1 : Int) := odt (by with_reducible assumption);have q253 : x3_1 < (l0.length : Int) := odt (by with_reducible assumption);obtain ⟨ad253,A253_4,c253_4,e253,hx253_0,hx253_1,hx253_2,hx253_3,hx253_4,hl253_4,hi253_4⟩ := at_T63 HR0.out x3_1 p253 q253;have hw253_4 := hx253_4;have hw253_3 := hx253_3;have hw253_2 := hx253_2;have hw253_1 := hx253_1;have hw253_0 := hx253_0
       cases e253
       replace ⟨hx253_0,hx253_1,hx253_2,hx253_3,hx253_4⟩ := up5 HB.out hx253_0 hx253_1 hx253_2 hx253_3 hx253_4;have HR253_4 := Aside0.mk hi253_4;have HC253_4 := Aside0.mk hl253_4;clear hi253_4 hl253_4;replace p253 := eq_true p253;replace q253 := eq_true q253;refine start_ (n := 24) (S := fun w' => w'.cell? (ad253.add ((x3_1).toNat * 5)) = some (.string ((rd_T63 l0 x3_1).f0)) ∧ w'.cell? ⟨(ad253.add ((x3_1).toNat * 5)).block,(ad253.add ((x3_1).toNat * 5)).off + 1,none⟩ = some (.int .i64 ((rd_T63 l0 x3_1).f1)) ∧ w'.cell? ⟨(ad253.add ((x3_1).toNat * 5)).block,(ad253.add ((x3_1).toNat * 5)).off + 2,none⟩ = some (.int .i64 ((rd_T63 l0 x3_1).f2)) ∧ w'.cell? ⟨(ad253.add ((x3_1).toNat * 5)).block,(ad253.add ((x3_1).toNat * 5)).off + 3,none⟩ = some (.int .i64 ((rd_T63 l0 x3_1).f3)) ∧ w'.cell? ⟨(ad253.add ((x3_1).toNat * 5)).block,(ad253.add ((x3_1).toNat * 5)).off + 4,none⟩ = some (.slice A253_4 ((rd_T63 l0 x3_1).f4).length c253_4)) (ds := []) (Array.replicate 24 false) (by kernel_rfl) rfl rfl ⟨(up_ HB.out hw253_0),(up_ HB.out hw253_1),(up_ HB.out hw253_2),(up_ HB.out hw253_3),(up_ HB.out hw253_4)⟩ (fun hHeld => ?_); refine with_tabW spec_AcctsOk.tab4 spec_AcctsOk.bits4 (fun HT_ HW_ => ?_)
       generalize wr.drew = w15 at HB HR253_4 hx253_0 hx253_1 hx253_2 hx253_3 hx253_4 hHeld ⊢
       refine pu 0 (some 10) (fl 24 1) HT_ rfl rfl (by kernel_rfl) (fun _ _ _ h => h) (by rfl) (fun w' => by go_simp;with_reducible rfl) (by simp only [wf_preprocess];rfl) ?_
       refine pu 1 (some 11) (fl 24 3) HT_ rfl rfl (by kernel_rfl) (fun _ _ _ h => h) (by rfl) (fun w' => by go_simp;with_reducible rfl) (by simp only [wf_preprocess];rfl) ?_
       refine pu 2 (some 12) (fl 24 7) HT_ rfl rfl (by kernel_rfl) (fun _ _ _ h => h) (by rfl) (fun w' => by go_simp;with_reducible rfl) (by simp only [wf_preprocess];rfl) ?_
       refine tk 3 (some 13) (fl 24 15) HT_ HW_ rfl rfl (by kernel_rfl) (fun _ _ _ h => h) (by rfl) (by rintro w' ⟨s0,s1,s2,s3,s4⟩;go_simp;with_reducible rfl) hHeld (by simp only [wf_preprocess];rfl) ?_
       refine one_ (i := 4) (N := some 14) (fl 24 31) rfl rfl (one_of HT_.out (by kernel_rfl)) (by decide) (fun K hK => ?_);refine goes_ Try.func123 (by kernel_rfl) rfl #[.agg #[.string ((rd_T63 l0 x3_1).f0),.int .i64 ((rd_T63 l0 x3_1).f1),.int .i64 ((rd_T63 l0 x3_1).f2),.int .i64 ((rd_T63 l0 x3_1).f3),.slice A253_4 ((rd_T63 l0 x3_1).f4).length c253_4]] (by rfl) rfl rfl (by (try simp only [List.map_toArray,List.map_cons,List.map_nil]); rfl) ?_
       with_reducible refine (spec_AcctOk.calls k1 ((rd_T63 l0 x3_1).f0) ((rd_T63 l0 x3_1).f1) ((rd_T63 l0 x3_1).f2) ((rd_T63 l0 x3_1).f3) _ _ ((rd_T63 l0 x3_1).f4) true _ ?side1 ?side2 A4.out).mono ?_
       (case side1 => repeat (exact (Kd.C_below HR253_4.out HB.out)))
       (case side2 => exact HC253_4.out)
       rintro e w16 ⟨rfl,hb⟩;refine ⟨_,rfl,?_⟩;replace HB := bst HB hb
       (try clear hb)
       skip
       skip
       skip
       refine hK.out _ _ ⟨(up_ HB.out hw253_0),(up_ HB.out hw253_1),(up_ HB.out hw253_2),(up_ HB.out hw253_3),(up_ HB.out hw253_4)⟩ (fun hHeld => ?_);clear hK K;refine norm_ (a' := ?_) ?_ ?_;rotate_left
       ·show Act.put _ (some 14) _ = _
        simp only [wf_preprocess];rfl
       refine pu 5 (some 15) (fl 24 63) HT_ rfl rfl (by kernel_rfl) (fun _ _ _ h => h) (by rfl) (fun w' => by go_simp;with_reducible rfl) (by simp only [wf_preprocess];rfl) ?_
       refine pu 6 (some 16) (fl 24 127) HT_ rfl rfl (by kernel_rfl) (fun _ _ _ h => h) (by rfl) (fun w' => by go_simp;with_reducible rfl) (by simp only [wf_preprocess];rfl) ?_
       refine pu 7 (some 17) (fl 24 255) HT_ rfl rfl (by kernel_rfl) (fun _ _ _ h => h) (by rfl) (fun w' => by go_simp;with_reducible rfl) (by simp only [wf_preprocess];rfl) ?_
       refine pu 8 (some 18) (fl 24 511) HT_ rfl rfl (by kernel_rfl) (fun _ _ _ h => h) (by rfl) (fun w' => by go_simp;with_reducible rfl) (by simp only [wf_preprocess];rfl) ?_
       refine pu 9 (some 19) (fl 24 1023) HT_ rfl rfl (by kernel_rfl) (fun _ _ _ h => h) (by rfl) (fun w' => by go_simp;with_reducible rfl) (by simp only [wf_preprocess];rfl) ?_
       refine pn 10 (some 20) (fl 24 2047) HT_ rfl rfl (by kernel_rfl) (fun _ _ _ h => h) (by rfl) (by simp only [wf_preprocess];rfl) ?_
       refine pn 11 (some 21) (fl 24 4095) HT_ rfl rfl (by kernel_rfl) (fun _ _ _ h => h) (by rfl) (by simp only [wf_preprocess];rfl) ?_
       refine pn 12 (some 22) (fl 24 8191) HT_ rfl rfl (by kernel_rfl) (fun _ _ _ h => h) (by rfl) (by simp only [wf_preprocess];rfl) ?_
       refine pn 13 (some 23) (fl 24 16383) HT_ rfl rfl (by kernel_rfl) (fun _ _ _ h => h) (by rfl) (by simp only [wf_preprocess];rfl) ?_
       refine pn 14 (some 24) (fl 24 32767) HT_ rfl rfl (by kernel_rfl) (fun _ _ _ h => h) (by rfl) (by simp only [wf_preprocess];rfl) ?_
       refine pn 15 (some 25) (fl 24 65535) HT_ rfl rfl (by kernel_rfl) (fun _ _ _ h => h) (by rfl) (by simp only [wf_preprocess];rfl) ?_
       refine pn 16 (some 26) (fl 24 131071) HT_ rfl rfl (by kernel_rfl) (fun _ _ _ h => h) (by rfl) (by simp only [wf_preprocess];rfl) ?_
       refine pn 17 (some 27) (fl 24 262143) HT_ rfl rfl (by kernel_rfl) (fun _ _ _ h => h) (by rfl) (by simp only [wf_preprocess];rfl) ?_
       refine pn 18 (some 28) (fl 24 524287) HT_ rfl rfl (by kernel_rfl) (fun _ _ _ h => h) (by rfl) (by simp only [wf_preprocess];rfl) ?_
       refine pn 19 (some 29) (fl 24 1048575) HT_ rfl rfl (by kernel_rfl) (fun _ _ _ h => h) (by rfl) (by simp only [wf_preprocess];rfl) ?_
       refine pn 20 (some 30) (fl 24 2097151) HT_ rfl rfl (by kernel_rfl) (fun _ _ _ h => h) (by rfl) (by simp only [wf_preprocess];rfl) ?_
       refine pn 21 (some 31) (fl 24 4194303) HT_ rfl rfl (by kernel_rfl) (fun _ _ _ h => h) (by rfl) (by simp only [wf_preprocess];rfl) ?_
       refine pu 22 (some 32) (fl 24 8388607) HT_ rfl rfl (by kernel_rfl) (fun _ _ _ h => h) (by rfl) (fun w' => by go_simp;with_reducible rfl) (by simp only [wf_preprocess];rfl) ?_
       refine pu 23 (some 33) (fl 24 16777215) HT_ rfl rfl (by kernel_rfl) (fun _ _ _ h => h) (by rfl) (fun w' => by go_simp;with_reducible rfl) (by simp only [wf_preprocess];rfl) ?_
       refine done_ (done_of HT_.out (by kernel_rfl)) ?_
       try go_wp2
       go_roundg k1
       case measure => have := HK1.out; omega
       case rel => exact ⟨(wrap64 (x3_1 + 1)),(by rfl),H',⟨by have := HK1.out; omega⟩,⟨HB.out⟩⟩
     ·replace c5 := Bool.eq_false_iff.mpr c5;subst c5
      rw [if_neg (show ¬ (false = true) by decide)] at H
      obtain rfl := Option.some.inj H
      try go_wp2
      replace HB := Aside0.mk (below_drew1 HB.out);have p253 : 0 ≤ (x3_1 : Int) := odt (by with_reducible assumption);have q253 : x3_1 < (l0.length : Int) := odt (by with_reducible assumption);obtain ⟨ad253,A253_4,c253_4,e253,hx253_0,hx253_1,hx253_2,hx253_3,hx253_4,hl253_4,hi253_4⟩ := at_T63 HR0.out x3_1 p253 q253;have hw253_4 := hx253_4;have hw253_3 := hx253_3;have hw253_2 := hx253_2;have hw253_1 := hx253_1;have hw253_0 := hx253_0
      cases e253
      replace ⟨hx253_0,hx253_1,hx253_2,hx253_3,hx253_4⟩ := up5 HB.out hx253_0 hx253_1 hx253_2 hx253_3 hx253_4;have HR253_4 := Aside0.mk hi253_4;have HC253_4 := Aside0.mk hl253_4;clear hi253_4 hl253_4;replace p253 := eq_true p253;replace q253 := eq_true q253;refine start_ (n := 24) (S := fun w' => w'.cell? (ad253.add ((x3_1).toNat * 5)) = some (.string ((rd_T63 l0 x3_1).f0)) ∧ w'.cell? ⟨(ad253.add ((x3_1).toNat * 5)).block,(ad253.add ((x3_1).toNat * 5)).off + 1,none⟩ = some (.int .i64 ((rd_T63 l0 x3_1).f1)) ∧ w'.cell? ⟨(ad253.add ((x3_1).toNat * 5)).block,(ad253.add ((x3_1).toNat * 5)).off + 2,none⟩ = some (.int .i64 ((rd_T63 l0 x3_1).f2)) ∧ w'.cell? ⟨(ad253.add ((x3_1).toNat * 5)).block,(ad253.add ((x3_1).toNat * 5)).off + 3,none⟩ = some (.int .i64 ((rd_T63 l0 x3_1).f3)) ∧ w'.cell? ⟨(ad253.add ((x3_1).toNat * 5)).block,(ad253.add ((x3_1).toNat * 5)).off + 4,none⟩ = some (.slice A253_4 ((rd_T63 l0 x3_1).f4).length c253_4)) (ds := []) (Array.replicate 24 false) (by kernel_rfl) rfl rfl ⟨(up_ HB.out hw253_0),(up_ HB.out hw253_1),(up_ HB.out hw253_2),(up_ HB.out hw253_3),(up_ HB.out hw253_4)⟩ (fun hHeld => ?_); refine with_tabW spec_AcctsOk.tab4 spec_AcctsOk.bits4 (fun HT_ HW_ => ?_)
      generalize wr.drew = w17 at HB HR253_4 hx253_0 hx253_1 hx253_2 hx253_3 hx253_4 hHeld ⊢
      refine pu 0 (some 10) (fl 24 1) HT_ rfl rfl (by kernel_rfl) (fun _ _ _ h => h) (by rfl) (fun w' => by go_simp;with_reducible rfl) (by simp only [wf_preprocess];rfl) ?_
      refine pu 1 (some 11) (fl 24 3) HT_ rfl rfl (by kernel_rfl) (fun _ _ _ h => h) (by rfl) (fun w' => by go_simp;with_reducible rfl) (by simp only [wf_preprocess];rfl) ?_
      refine pu 2 (some 12) (fl 24 7) HT_ rfl rfl (by kernel_rfl) (fun _ _ _ h => h) (by rfl) (fun w' => by go_simp;with_reducible rfl) (by simp only [wf_preprocess];rfl) ?_
      refine tk 3 (some 13) (fl 24 15) HT_ HW_ rfl rfl (by kernel_rfl) (fun _ _ _ h => h) (by rfl) (by rintro w' ⟨s0,s1,s2,s3,s4⟩;go_simp;with_reducible rfl) hHeld (by simp only [wf_preprocess];rfl) ?_
      refine one_ (i := 4) (N := some 14) (fl 24 31) rfl rfl (one_of HT_.out (by kernel_rfl)) (by decide) (fun K hK => ?_);refine goes_ Try.func123 (by kernel_rfl) rfl #[.agg #[.string ((rd_T63 l0 x3_1).f0),.int .i64 ((rd_T63 l0 x3_1).f1),.int .i64 ((rd_T63 l0 x3_1).f2),.int .i64 ((rd_T63 l0 x3_1).f3),.slice A253_4 ((rd_T63 l0 x3_1).f4).length c253_4]] (by rfl) rfl rfl (by (try simp only [List.map_toArray,List.map_cons,List.map_nil]); rfl) ?_
      with_reducible refine (spec_AcctOk.calls k1 ((rd_T63 l0 x3_1).f0) ((rd_T63 l0 x3_1).f1) ((rd_T63 l0 x3_1).f2) ((rd_T63 l0 x3_1).f3) _ _ ((rd_T63 l0 x3_1).f4) false _ ?side1 ?side2 A4.out).mono ?_
      (case side1 => repeat (exact (Kd.C_below HR253_4.out HB.out)))
      (case side2 => exact HC253_4.out)
      rintro e w18 ⟨rfl,hb⟩;refine ⟨_,rfl,?_⟩;replace HB := bst HB hb
      (try clear hb)
      skip
      skip
      skip
      refine hK.out _ _ ⟨(up_ HB.out hw253_0),(up_ HB.out hw253_1),(up_ HB.out hw253_2),(up_ HB.out hw253_3),(up_ HB.out hw253_4)⟩ (fun hHeld => ?_);clear hK K;refine norm_ (a' := ?_) ?_ ?_;rotate_left
      ·show Act.put _ (some 14) _ = _
       simp only [wf_preprocess];rfl
      refine pu 5 (some 15) (fl 24 63) HT_ rfl rfl (by kernel_rfl) (fun _ _ _ h => h) (by rfl) (fun w' => by go_simp;with_reducible rfl) (by simp only [wf_preprocess];rfl) ?_
      refine pu 6 (some 16) (fl 24 127) HT_ rfl rfl (by kernel_rfl) (fun _ _ _ h => h) (by rfl) (fun w' => by go_simp;with_reducible rfl) (by simp only [wf_preprocess];rfl) ?_
      refine pn 7 (some 17) (fl 24 255) HT_ rfl rfl (by kernel_rfl) (fun _ _ _ h => h) (by rfl) (by simp only [wf_preprocess];rfl) ?_
      refine pn 8 (some 18) (fl 24 511) HT_ rfl rfl (by kernel_rfl) (fun _ _ _ h => h) (by rfl) (by simp only [wf_preprocess];rfl) ?_
      refine pn 9 (some 19) (fl 24 1023) HT_ rfl rfl (by kernel_rfl) (fun _ _ _ h => h) (by rfl) (by simp only [wf_preprocess];rfl) ?_
      refine pn 10 (some 20) (fl 24 2047) HT_ rfl rfl (by kernel_rfl) (fun _ _ _ h => h) (by rfl) (by simp only [wf_preprocess];rfl) ?_
      refine pn 11 (some 21) (fl 24 4095) HT_ rfl rfl (by kernel_rfl) (fun _ _ _ h => h) (by rfl) (by simp only [wf_preprocess];rfl) ?_
      refine pn 12 (some 22) (fl 24 8191) HT_ rfl rfl (by kernel_rfl) (fun _ _ _ h => h) (by rfl) (by simp only [wf_preprocess];rfl) ?_
      refine pn 13 (some 23) (fl 24 16383) HT_ rfl rfl (by kernel_rfl) (fun _ _ _ h => h) (by rfl) (by simp only [wf_preprocess];rfl) ?_
      refine pn 14 (some 24) (fl 24 32767) HT_ rfl rfl (by kernel_rfl) (fun _ _ _ h => h) (by rfl) (by simp only [wf_preprocess];rfl) ?_
      refine pn 15 (some 25) (fl 24 65535) HT_ rfl rfl (by kernel_rfl) (fun _ _ _ h => h) (by rfl) (by simp only [wf_preprocess];rfl) ?_
      refine pn 16 (some 26) (fl 24 131071) HT_ rfl rfl (by kernel_rfl) (fun _ _ _ h => h) (by rfl) (by simp only [wf_preprocess];rfl) ?_
      refine pn 17 (some 27) (fl 24 262143) HT_ rfl rfl (by kernel_rfl) (fun _ _ _ h => h) (by rfl) (by simp only [wf_preprocess];rfl) ?_
      refine pn 18 (some 28) (fl 24 524287) HT_ rfl rfl (by kernel_rfl) (fun _ _ _ h => h) (by rfl) (by simp only [wf_preprocess];rfl) ?_
      refine pn 19 (some 29) (fl 24 1048575) HT_ rfl rfl (by kernel_rfl) (fun _ _ _ h => h) (by rfl) (by simp only [wf_preprocess];rfl) ?_
      refine pn 20 (some 30) (fl 24 2097151) HT_ rfl rfl (by kernel_rfl) (fun _ _ _ h => h) (by rfl) (by simp only [wf_preprocess];rfl) ?_
      refine pn 21 (some 31) (fl 24 4194303) HT_ rfl rfl (by kernel_rfl) (fun _ _ _ h => h) (by rfl) (by simp only [wf_preprocess];rfl) ?_
      refine pn 22 (some 32) (fl 24 8388607) HT_ rfl rfl (by kernel_rfl) (fun _ _ _ h => h) (by rfl) (by simp only [wf_preprocess];rfl) ?_
      refine pu 23 (some 33) (fl 24 16777215) HT_ rfl rfl (by kernel_rfl) (fun _ _ _ h => h) (by rfl) (fun w' => by go_simp;with_reducible rfl) (by simp only [wf_preprocess];rfl) ?_
      refine done_ (done_of HT_.out (by kernel_rfl)) ?_
      try go_wp2
      go_ret;exact ⟨by rfl,HB.out⟩
    ·rw [if_neg c3] at H;exact absurd H (by simp)
   ·rw [if_neg c2] at H;have c2b0 := decide_eq_false c2;clear c2
    by_cases c19 : (l0.length : Int) ≤ 12
    ·rw [if_pos c19] at H;have c19b0 := decide_eq_true c19;have c19b1 : decide (l0.length ≤ 12) = true := decide_eq_true (by omega);clear c19;replace H := Option.bind_eq_some_iff.mp H;obtain ⟨t257,A200,H⟩ := H;replace H : (some (decide (t257 ≤ 1000000))) = some r := H;have A20 := Aside0.mk A200;clear A200;obtain rfl := Option.some.inj H
     go_wp2_with ((go_at_call 124; (with_reducible refine (spec_Wealth.calls k1 _ _ l0 t257 _ ?side1 ?side2 A20.out).mono ?_); (case side1 => repeat (exact (Kd.C_below HR0.out HB.out))); (case side2 => exact HC0.out); rintro e w21 ⟨rfl,hb⟩; replace HB := bst HB hb; (try clear hb); skip))
     go_ret;exact ⟨by rfl,HB.out⟩
    ·rw [if_neg c19] at H;have c19b0 := decide_eq_false c19;have c19b1 : decide (l0.length ≤ 12) = false := decide_eq_false (by omega);clear c19;obtain rfl := Option.some.inj H;go_wp2;go_ret;exact ⟨by rfl,HB.out⟩

end Go.Proofs.Ytcbpfofkdipjhaa.PV
