/- The machine's side of Go functions: each as a plain function,and that the call does what it says. Written by a program (wip/mprint). -/
import Derived.Test.YtcbpfofkdipjhaaAAPJx0
import Derived.Test.YtcbpfofkdipjhaaAAPJx13
namespace Go.Proofs.Ytcbpfofkdipjhaa.PJ
open Go.RowKit Go.Proofs.YtcbpfofkdipjhaaW.PrintWords Go.Proofs.YtcbpfofkdipjhaaW.PrintLast Go.Proofs.YtcbpfofkdipjhaaW.PrintMore
attribute [local wf_preprocess] Act.put List.setIfInBounds_toArray List.set_cons_zero List.set_cons_succ i64_w i32_w
attribute [local go_sem] max2_int min2_int max_two min_two max_three min_three max_four min_four   -- for this text's walks alone
set_option linter.unusedVariables false
set_option linter.unusedSimpArgs false

/-! ### spec_AcctsOk: function 89 -/
def spec_AcctsOk.l0 : Nat → List (S63) → Int → Option (Bool)
 | 0,_,_ => none
 | k + 1,x0,x3 => if x3 < (x0.length : Int) then (if 0 ≤ x3 then ((spec_AcctOk.f k ((rd_T63 x0 x3).f0) ((rd_T63 x0 x3).f1) ((rd_T63 x0 x3).f2) ((rd_T63 x0 x3).f3) ((rd_T63 x0 x3).f4)).bind fun t250 => (if t250 = true then (if x3 > 0 then (if 0 ≤ (wrap64 (x3 - 1)) then (if (wrap64 (x3 - 1)) < (x0.length : Int) then (if ((Op.bytesLess (((rd_T63 x0 (wrap64 (x3 - 1))).f0).toList) (((rd_T63 x0 x3).f0).toList)) = true) then (spec_AcctsOk.l0 k x0 (wrap64 (x3 + 1))) else (some false)) else (none)) else (none)) else (spec_AcctsOk.l0 k x0 (wrap64 (x3 + 1)))) else (some false))) else (none)) else (if (x0.length : Int) ≤ 12 then ((spec_Wealth.f k x0).bind fun t253 => (some (decide (t253 ≤ 1000000)))) else (some false))
def spec_AcctsOk.f (k : Nat) (l0 : List (S63)) : Option (Bool) := spec_AcctsOk.l0 k l0 0
def spec_AcctsOk.T4 : Bool × List (List Nat × List Nat) := (true,[([],[]),([],[]),([0,1],[0,1]),([2],[2]),([3],[3]),([4],[4]),([5,4],[5]),([6],[6]),([7,6],[6,7]),([8,6,6],[6,8]),([9],[9]),([9],[9]),([11,9],[9,11]),([10,12,9],[9,10,12]),([13,9],[9,13]),([14,9],[9,14]),([9],[9]),([9],[9]),([16,17,9],[9,16,17]),([18,9],[9,18]),([19,9],[9,19]),([15,20,9],[9,15,20]),([9,21,6],[6,9,21]),([6,22],[6,22])])
def spec_AcctsOk.B4 : List Nat := [0,0,3,7,15,31,63,127,255,511,1023,1023,3071,8191,16383,32767,1023,1023,197631,459775,984063,2097151,4194303,8388607]
theorem spec_AcctsOk.tab4 : rtab .any (opsOf Try.f89 4) = spec_AcctsOk.T4 := by kernel_rfl
theorem spec_AcctsOk.bits4 : waitsOk spec_AcctsOk.T4.2 spec_AcctsOk.B4 = true := by kernel_rfl
set_option maxHeartbeats 8000000 in
set_option maxRecDepth 100000 in
theorem spec_AcctsOk.calls (k : Nat) (A0 : Option Addr) (c0 : Nat) (l0 : List (S63)) (r : Bool) (w : World) (hr0 : Kd.C k63 w A0 l0.length l0) (hc0 : l0.length ≤ c0) (h : spec_AcctsOk.f k l0 = some r) :
  Calls Try.prog 89 #[.slice A0 l0.length c0] w fun e w' => e = .returned (.bool r) ∧ Below w.heap.size w w' := by
 have hu63 := Try.underlying63;have HR0 := Aside0.mk hr0;have HC0 := Aside0.mk hc0;clear hr0 hc0;have HB := Aside0.mk (Below.refl w.heap.size w);have H : (spec_AcctsOk.l0 k l0 0) = some r := h;clear h;have H' := Aside0.mk H;clear H;go_enter Try.func89,Try.ntmps89;go_wp2
 go_loopg [3] k (fun kq v3 w' => ∃ (x3_1 : Int),v3 = .int .i64 x3_1 ∧ Aside0 (spec_AcctsOk.l0 kq l0 x3_1 = some r) ∧ Aside0 (kq ≤ k) ∧ Aside0 (Below w.heap.size w w'))
 case atStart => exact ⟨(0),(by rfl),H',⟨Nat.le_refl _⟩,⟨HB.out⟩⟩
 case round =>
  clear H';obtain ⟨x3_1,rfl,HA,HK1,HB⟩ := hrel
  cases gk with
  | zero => exact absurd HA.out (by simp [spec_AcctsOk.l0])
  | succ k1 =>
   have H := HA.out;clear HA;simp only [spec_AcctsOk.l0] at H
   by_cases c2 : x3_1 < (l0.length : Int)
   ·rw [if_pos c2] at H;have c2b0 : decide (x3_1 < (l0.length : Int)) = true := decide_eq_true c2;clear c2
    by_cases c3 : 0 ≤ x3_1
    ·rw [if_pos c3] at H;have c3b0 : decide (0 ≤ x3_1) = true := decide_eq_true c3;clear c3;replace H := Option.bind_eq_some_iff.mp H;obtain ⟨t250,A40,H⟩ := H;replace H : (if t250 = true then (if x3_1 > 0 then (if 0 ≤ (wrap64 (x3_1 - 1)) then (if (wrap64 (x3_1 - 1)) < (l0.length : Int) then (if ((Op.bytesLess (((rd_T63 l0 (wrap64 (x3_1 - 1))).f0).toList) (((rd_T63 l0 x3_1).f0).toList)) = true) then (spec_AcctsOk.l0 k1 l0 (wrap64 (x3_1 + 1))) else (some false)) else (none)) else (none)) else (spec_AcctsOk.l0 k1 l0 (wrap64 (x3_1 + 1)))) else (some false)) = some r := H;have A4 := Aside0.mk A40;clear A40
     by_cases c5 : t250 = true
     ·subst c5;rw [if_pos rfl] at H
      by_cases c6 : x3_1 > 0
      ·rw [if_pos c6] at H;have c6b0 : decide (0 < x3_1) = true := decide_eq_true c6;clear c6;obtain ⟨ji7,hji7⟩ : ∃ j_ : Int,(wrap64 (x3_1 - 1)) = j_ := ⟨_,rfl⟩
       replace H : (if 0 ≤ (ji7) then (if (ji7) < (l0.length : Int) then (if ((Op.bytesLess (((rd_T63 l0 (ji7)).f0).toList) (((rd_T63 l0 x3_1).f0).toList)) = true) then (spec_AcctsOk.l0 k1 l0 (wrap64 (x3_1 + 1))) else (some false)) else (none)) else (none)) = some r := by (rw [hji7] at H; exact H)
       skip
       have hji7w : (IntKind.i64.wrap (x3_1 - 1)) = ji7 := (i64_w _).trans hji7
       by_cases c8 : 0 ≤ (ji7)
       ·rw [if_pos c8] at H;have c8b0 : decide (0 ≤ (ji7)) = true := decide_eq_true c8;clear c8
        by_cases c9 : (ji7) < (l0.length : Int)
        ·rw [if_pos c9] at H;have c9b0 : decide ((ji7) < (l0.length : Int)) = true := decide_eq_true c9;clear c9
         by_cases c10 : ((Op.bytesLess (((rd_T63 l0 (ji7)).f0).toList) (((rd_T63 l0 x3_1).f0).toList)) = true)
         ·rw [if_pos c10] at H;have c10b0 : (Op.bytesLess (((rd_T63 l0 (ji7)).f0).toList) (((rd_T63 l0 x3_1).f0).toList)) = true := c10;clear c10;have H' := Aside0.mk H;clear H
          try go_wp2
          have n0_ := Aside0.mk (below_drew1 HB.out);clear HB;have HB := n0_;clear n0_;have p249 : 0 ≤ (x3_1 : Int) := of_decide_eq_true (by (with_reducible assumption));have q249 : x3_1 < (l0.length : Int) := of_decide_eq_true (by (with_reducible assumption));obtain ⟨ad249,A249_4,c249_4,e249,hx249_0,hx249_1,hx249_2,hx249_3,hx249_4,hl249_4,hi249_4⟩ := at_T63 HR0.out x3_1 p249 q249;have hw249_4 := hx249_4;have hw249_3 := hx249_3;have hw249_2 := hx249_2;have hw249_1 := hx249_1;have hw249_0 := hx249_0
          cases e249
          replace hx249_0 := up_ HB.out hx249_0;replace hx249_1 := up_ HB.out hx249_1;replace hx249_2 := up_ HB.out hx249_2;replace hx249_3 := up_ HB.out hx249_3;replace hx249_4 := up_ HB.out hx249_4;have HR249_4 := Aside0.mk hi249_4;have HC249_4 := Aside0.mk hl249_4;clear hi249_4 hl249_4;replace p249 := eq_true p249;replace q249 := eq_true q249;have p251 : 0 ≤ ((ji7) : Int) := of_decide_eq_true (by (with_reducible assumption));have q251 : (ji7) < (l0.length : Int) := of_decide_eq_true (by (with_reducible assumption));obtain ⟨ad251,A251_4,c251_4,e251,hx251_0,hx251_1,hx251_2,hx251_3,hx251_4,hl251_4,hi251_4⟩ := at_T63 HR0.out (ji7) p251 q251;have hw251_4 := hx251_4;have hw251_3 := hx251_3;have hw251_2 := hx251_2;have hw251_1 := hx251_1;have hw251_0 := hx251_0;obtain rfl : ad249 = ad251 := (by injection e251);replace hx251_0 := up_ HB.out hx251_0;replace hx251_1 := up_ HB.out hx251_1;replace hx251_2 := up_ HB.out hx251_2;replace hx251_3 := up_ HB.out hx251_3;replace hx251_4 := up_ HB.out hx251_4;have HR251_4 := Aside0.mk hi251_4;have HC251_4 := Aside0.mk hl251_4;clear hi251_4 hl251_4;replace p251 := eq_true p251;replace q251 := eq_true q251;have p252 : 0 ≤ (x3_1 : Int) := of_decide_eq_true (by (with_reducible assumption));have q252 : x3_1 < (l0.length : Int) := of_decide_eq_true (by (with_reducible assumption));obtain ⟨ad252,A252_4,c252_4,e252,hx252_0,hx252_1,hx252_2,hx252_3,hx252_4,hl252_4,hi252_4⟩ := at_T63 HR0.out x3_1 p252 q252;have hw252_4 := hx252_4;have hw252_3 := hx252_3;have hw252_2 := hx252_2;have hw252_1 := hx252_1;have hw252_0 := hx252_0;obtain rfl : ad249 = ad252 := (by injection e252);replace hx252_0 := up_ HB.out hx252_0;replace hx252_1 := up_ HB.out hx252_1;replace hx252_2 := up_ HB.out hx252_2;replace hx252_3 := up_ HB.out hx252_3;replace hx252_4 := up_ HB.out hx252_4;have HR252_4 := Aside0.mk hi252_4;have HC252_4 := Aside0.mk hl252_4;clear hi252_4 hl252_4;replace p252 := eq_true p252;replace q252 := eq_true q252;refine start_ (n := 24) (S := fun w' => w'.cell? (ad249.add ((x3_1).toNat * 5)) = some (.string ((rd_T63 l0 x3_1).f0)) ∧ w'.cell? ⟨(ad249.add ((x3_1).toNat * 5)).block,(ad249.add ((x3_1).toNat * 5)).off + 1,none⟩ = some (.int .i64 ((rd_T63 l0 x3_1).f1)) ∧ w'.cell? ⟨(ad249.add ((x3_1).toNat * 5)).block,(ad249.add ((x3_1).toNat * 5)).off + 2,none⟩ = some (.int .i64 ((rd_T63 l0 x3_1).f2)) ∧ w'.cell? ⟨(ad249.add ((x3_1).toNat * 5)).block,(ad249.add ((x3_1).toNat * 5)).off + 3,none⟩ = some (.int .i64 ((rd_T63 l0 x3_1).f3)) ∧ w'.cell? ⟨(ad249.add ((x3_1).toNat * 5)).block,(ad249.add ((x3_1).toNat * 5)).off + 4,none⟩ = some (.slice A249_4 ((rd_T63 l0 x3_1).f4).length c249_4) ∧ w'.cell? (ad249.add ((ji7).toNat * 5)) = some (.string ((rd_T63 l0 (ji7)).f0)) ∧ w'.cell? ⟨(ad249.add ((ji7).toNat * 5)).block,(ad249.add ((ji7).toNat * 5)).off + 1,none⟩ = some (.int .i64 ((rd_T63 l0 (ji7)).f1)) ∧ w'.cell? ⟨(ad249.add ((ji7).toNat * 5)).block,(ad249.add ((ji7).toNat * 5)).off + 2,none⟩ = some (.int .i64 ((rd_T63 l0 (ji7)).f2)) ∧ w'.cell? ⟨(ad249.add ((ji7).toNat * 5)).block,(ad249.add ((ji7).toNat * 5)).off + 3,none⟩ = some (.int .i64 ((rd_T63 l0 (ji7)).f3)) ∧ w'.cell? ⟨(ad249.add ((ji7).toNat * 5)).block,(ad249.add ((ji7).toNat * 5)).off + 4,none⟩ = some (.slice A251_4 ((rd_T63 l0 (ji7)).f4).length c251_4) ∧ w'.cell? (ad249.add ((x3_1).toNat * 5)) = some (.string ((rd_T63 l0 x3_1).f0)) ∧ w'.cell? ⟨(ad249.add ((x3_1).toNat * 5)).block,(ad249.add ((x3_1).toNat * 5)).off + 1,none⟩ = some (.int .i64 ((rd_T63 l0 x3_1).f1)) ∧ w'.cell? ⟨(ad249.add ((x3_1).toNat * 5)).block,(ad249.add ((x3_1).toNat * 5)).off + 2,none⟩ = some (.int .i64 ((rd_T63 l0 x3_1).f2)) ∧ w'.cell? ⟨(ad249.add ((x3_1).toNat * 5)).block,(ad249.add ((x3_1).toNat * 5)).off + 3,none⟩ = some (.int .i64 ((rd_T63 l0 x3_1).f3)) ∧ w'.cell? ⟨(ad249.add ((x3_1).toNat * 5)).block,(ad249.add ((x3_1).toNat * 5)).off + 4,none⟩ = some (.slice A252_4 ((rd_T63 l0 x3_1).f4).length c252_4)) (ds := []) #[false,false,false,false,false,false,false,false,false,false,false,false,false,false,false,false,false,false,false,false,false,false,false,false] (by kernel_rfl) rfl rfl ⟨(up_ HB.out hw249_0),(up_ HB.out hw249_1),(up_ HB.out hw249_2),(up_ HB.out hw249_3),(up_ HB.out hw249_4),(up_ HB.out hw251_0),(up_ HB.out hw251_1),(up_ HB.out hw251_2),(up_ HB.out hw251_3),(up_ HB.out hw251_4),(up_ HB.out hw252_0),(up_ HB.out hw252_1),(up_ HB.out hw252_2),(up_ HB.out hw252_3),(up_ HB.out hw252_4)⟩ (fun hHeld => ?_); refine with_tabW spec_AcctsOk.tab4 spec_AcctsOk.bits4 (fun HT_ HW_ => ?_)
          generalize wr.drew = w11 at HB HR249_4 HR251_4 HR252_4 hx249_0 hx249_1 hx249_2 hx249_3 hx249_4 hx251_0 hx251_1 hx251_2 hx251_3 hx251_4 hx252_0 hx252_1 hx252_2 hx252_3 hx252_4 hHeld ⊢
          refine pure_ (i := 0) (N := some 10) (v := ?_) (a' := ?_) #[true,false,false,false,false,false,false,false,false,false,false,false,false,false,false,false,false,false,false,false,false,false,false,false] rfl rfl (any_of HT_.out (by kernel_rfl)) (fun _ _ _ h => h) (Or.inl ⟨by rfl,?_⟩) ?_ ?_;rotate_left
          ·intro w';go_simp;with_reducible rfl
          rotate_left
          ·simp only [wf_preprocess];rfl
          refine pure_ (i := 1) (N := some 11) (v := ?_) (a' := ?_) #[true,true,false,false,false,false,false,false,false,false,false,false,false,false,false,false,false,false,false,false,false,false,false,false] rfl rfl (any_of HT_.out (by kernel_rfl)) (fun _ _ _ h => h) (Or.inl ⟨by rfl,?_⟩) ?_ ?_;rotate_left
          ·intro w';go_simp;with_reducible rfl
          rotate_left
          ·simp only [wf_preprocess];rfl
          refine pure_ (i := 2) (N := some 12) (v := ?_) (a' := ?_) #[true,true,true,false,false,false,false,false,false,false,false,false,false,false,false,false,false,false,false,false,false,false,false,false] rfl rfl (any_of HT_.out (by kernel_rfl)) (fun _ _ _ h => h) (Or.inl ⟨by rfl,?_⟩) ?_ ?_;rotate_left
          ·intro w';go_simp;with_reducible rfl
          rotate_left
          ·simp only [wf_preprocess];rfl
          refine take_ (i := 3) (N := some 13) (v := ?_) (a' := ?_) #[true,true,true,true,false,false,false,false,false,false,false,false,false,false,false,false,false,false,false,false,false,false,false,false] rfl rfl (take_ofW HT_.out HW_.out (by kernel_rfl)) (fun _ _ _ h => h) (Or.inl ⟨by rfl,?_⟩) hHeld ?_ ?_;rotate_left
          ·rintro w' ⟨s0,s1,s2,s3,s4,s5,s6,s7,s8,s9,s10,s11,s12,s13,s14⟩;go_simp;with_reducible rfl
          rotate_left
          ·simp only [wf_preprocess];rfl
          refine one_ (i := 4) (N := some 14) #[true,true,true,true,true,false,false,false,false,false,false,false,false,false,false,false,false,false,false,false,false,false,false,false] rfl rfl (one_of HT_.out (by kernel_rfl)) (by decide) (fun K hK => ?_);refine goes_ Try.func123 (by kernel_rfl) rfl #[.agg #[.string ((rd_T63 l0 x3_1).f0),.int .i64 ((rd_T63 l0 x3_1).f1),.int .i64 ((rd_T63 l0 x3_1).f2),.int .i64 ((rd_T63 l0 x3_1).f3),.slice A249_4 ((rd_T63 l0 x3_1).f4).length c249_4]] (by rfl) rfl rfl (by (try simp only [List.map_toArray,List.map_cons,List.map_nil]); rfl) ?_
          with_reducible refine (spec_AcctOk.calls k1 ((rd_T63 l0 x3_1).f0) ((rd_T63 l0 x3_1).f1) ((rd_T63 l0 x3_1).f2) ((rd_T63 l0 x3_1).f3) _ _ ((rd_T63 l0 x3_1).f4) true _ ?side1 ?side2 A4.out).mono ?_
          (case side1 => repeat (exact (Kd.C_below HR249_4.out HB.out)))
          (case side2 => exact HC249_4.out)
          rintro e w12 ⟨rfl,hb⟩;refine ⟨_,rfl,?_⟩;have n0_ := Aside0.mk (below_step HB.out hb);clear HB;have HB := n0_;clear n0_
          (try clear hb)
          skip
          skip
          skip
          refine hK.out _ _ ⟨(up_ HB.out hw249_0),(up_ HB.out hw249_1),(up_ HB.out hw249_2),(up_ HB.out hw249_3),(up_ HB.out hw249_4),(up_ HB.out hw251_0),(up_ HB.out hw251_1),(up_ HB.out hw251_2),(up_ HB.out hw251_3),(up_ HB.out hw251_4),(up_ HB.out hw252_0),(up_ HB.out hw252_1),(up_ HB.out hw252_2),(up_ HB.out hw252_3),(up_ HB.out hw252_4)⟩ (fun hHeld => ?_);clear hK K;refine norm_ (a' := ?_) ?_ ?_;rotate_left
          ·show Act.put _ (some 14) _ = _
           simp only [wf_preprocess];rfl
          refine pure_ (i := 5) (N := some 15) (v := ?_) (a' := ?_) #[true,true,true,true,true,true,false,false,false,false,false,false,false,false,false,false,false,false,false,false,false,false,false,false] rfl rfl (any_of HT_.out (by kernel_rfl)) (fun _ _ _ h => h) (Or.inl ⟨by rfl,?_⟩) ?_ ?_;rotate_left
          ·intro w';go_simp;with_reducible rfl
          rotate_left
          ·simp only [wf_preprocess];rfl
          refine pure_ (i := 6) (N := some 16) (v := ?_) (a' := ?_) #[true,true,true,true,true,true,true,false,false,false,false,false,false,false,false,false,false,false,false,false,false,false,false,false] rfl rfl (any_of HT_.out (by kernel_rfl)) (fun _ _ _ h => h) (Or.inl ⟨by rfl,?_⟩) ?_ ?_;rotate_left
          ·intro w';go_simp;with_reducible rfl
          rotate_left
          ·simp only [wf_preprocess];rfl
          refine pure_ (i := 7) (N := some 17) (v := ?_) (a' := ?_) #[true,true,true,true,true,true,true,true,false,false,false,false,false,false,false,false,false,false,false,false,false,false,false,false] rfl rfl (any_of HT_.out (by kernel_rfl)) (fun _ _ _ h => h) (Or.inl ⟨by rfl,?_⟩) ?_ ?_;rotate_left
          ·intro w';go_simp;with_reducible rfl
          rotate_left
          ·simp only [wf_preprocess];rfl
          refine pure_ (i := 8) (N := some 18) (v := ?_) (a' := ?_) #[true,true,true,true,true,true,true,true,true,false,false,false,false,false,false,false,false,false,false,false,false,false,false,false] rfl rfl (any_of HT_.out (by kernel_rfl)) (fun _ _ _ h => h) (Or.inl ⟨by rfl,?_⟩) ?_ ?_;rotate_left
          ·intro w';go_simp;with_reducible rfl
          rotate_left
          ·simp only [wf_preprocess];rfl
          refine pure_ (i := 9) (N := some 19) (v := ?_) (a' := ?_) #[true,true,true,true,true,true,true,true,true,true,false,false,false,false,false,false,false,false,false,false,false,false,false,false] rfl rfl (any_of HT_.out (by kernel_rfl)) (fun _ _ _ h => h) (Or.inl ⟨by rfl,?_⟩) ?_ ?_;rotate_left
          ·intro w';go_simp;with_reducible rfl
          rotate_left
          ·simp only [wf_preprocess];rfl
          refine pure_ (i := 10) (N := some 20) (v := ?_) (a' := ?_) #[true,true,true,true,true,true,true,true,true,true,true,false,false,false,false,false,false,false,false,false,false,false,false,false] rfl rfl (any_of HT_.out (by kernel_rfl)) (fun _ _ _ h => h) (Or.inl ⟨by rfl,?_⟩) ?_ ?_;rotate_left
          ·intro w';go_simp;with_reducible rfl
          rotate_left
          ·simp only [wf_preprocess];rfl
          refine pure_ (i := 11) (N := some 21) (v := ?_) (a' := ?_) #[true,true,true,true,true,true,true,true,true,true,true,true,false,false,false,false,false,false,false,false,false,false,false,false] rfl rfl (any_of HT_.out (by kernel_rfl)) (fun _ _ _ h => h) (Or.inl ⟨by rfl,?_⟩) ?_ ?_;rotate_left
          ·intro w';go_simp;with_reducible rfl
          rotate_left
          ·simp only [wf_preprocess];rfl
          refine pure_ (i := 12) (N := some 22) (v := ?_) (a' := ?_) #[true,true,true,true,true,true,true,true,true,true,true,true,true,false,false,false,false,false,false,false,false,false,false,false] rfl rfl (any_of HT_.out (by kernel_rfl)) (fun _ _ _ h => h) (Or.inl ⟨by rfl,?_⟩) ?_ ?_;rotate_left
          ·intro w';go_simp;with_reducible rfl
          rotate_left
          ·simp only [wf_preprocess];rfl
          refine pure_ (i := 13) (N := some 23) (v := ?_) (a' := ?_) #[true,true,true,true,true,true,true,true,true,true,true,true,true,true,false,false,false,false,false,false,false,false,false,false] rfl rfl (any_of HT_.out (by kernel_rfl)) (fun _ _ _ h => h) (Or.inl ⟨by rfl,?_⟩) ?_ ?_;rotate_left
          ·intro w';go_simp;with_reducible rfl
          rotate_left
          ·simp only [wf_preprocess];rfl
          refine pure_ (i := 14) (N := some 24) (v := ?_) (a' := ?_) #[true,true,true,true,true,true,true,true,true,true,true,true,true,true,true,false,false,false,false,false,false,false,false,false] rfl rfl (any_of HT_.out (by kernel_rfl)) (fun _ _ _ h => h) (Or.inl ⟨by rfl,?_⟩) ?_ ?_;rotate_left
          ·intro w';go_simp;with_reducible rfl
          rotate_left
          ·simp only [wf_preprocess];rfl
          refine pure_ (i := 16) (N := some 26) (v := ?_) (a' := ?_) #[true,true,true,true,true,true,true,true,true,true,true,true,true,true,true,false,true,false,false,false,false,false,false,false] rfl rfl (any_of HT_.out (by kernel_rfl)) (fun _ _ _ h => h) (Or.inl ⟨by rfl,?_⟩) ?_ ?_;rotate_left
          ·intro w';go_simp;with_reducible rfl
          rotate_left
          ·simp only [wf_preprocess];rfl
          refine pure_ (i := 17) (N := some 27) (v := ?_) (a' := ?_) #[true,true,true,true,true,true,true,true,true,true,true,true,true,true,true,false,true,true,false,false,false,false,false,false] rfl rfl (any_of HT_.out (by kernel_rfl)) (fun _ _ _ h => h) (Or.inl ⟨by rfl,?_⟩) ?_ ?_;rotate_left
          ·intro w';go_simp;with_reducible rfl
          rotate_left
          ·simp only [wf_preprocess];rfl
          refine pure_ (i := 18) (N := some 28) (v := ?_) (a' := ?_) #[true,true,true,true,true,true,true,true,true,true,true,true,true,true,true,false,true,true,true,false,false,false,false,false] rfl rfl (any_of HT_.out (by kernel_rfl)) (fun _ _ _ h => h) (Or.inl ⟨by rfl,?_⟩) ?_ ?_;rotate_left
          ·intro w';go_simp;with_reducible rfl
          rotate_left
          ·simp only [wf_preprocess];rfl
          refine pure_ (i := 19) (N := some 29) (v := ?_) (a' := ?_) #[true,true,true,true,true,true,true,true,true,true,true,true,true,true,true,false,true,true,true,true,false,false,false,false] rfl rfl (any_of HT_.out (by kernel_rfl)) (fun _ _ _ h => h) (Or.inl ⟨by rfl,?_⟩) ?_ ?_;rotate_left
          ·intro w';go_simp;with_reducible rfl
          rotate_left
          ·simp only [wf_preprocess];rfl
          refine take_ (i := 15) (N := some 25) (v := ?_) (a' := ?_) #[true,true,true,true,true,true,true,true,true,true,true,true,true,true,true,true,true,true,true,true,false,false,false,false] rfl rfl (take_ofW HT_.out HW_.out (by kernel_rfl)) (fun _ _ _ h => h) (Or.inl ⟨by rfl,?_⟩) hHeld ?_ ?_;rotate_left
          ·rintro w' ⟨s0,s1,s2,s3,s4,s5,s6,s7,s8,s9,s10,s11,s12,s13,s14⟩;go_simp;with_reducible rfl
          rotate_left
          ·simp only [wf_preprocess];rfl
          refine take_ (i := 20) (N := some 30) (v := ?_) (a' := ?_) #[true,true,true,true,true,true,true,true,true,true,true,true,true,true,true,true,true,true,true,true,true,false,false,false] rfl rfl (take_ofW HT_.out HW_.out (by kernel_rfl)) (fun _ _ _ h => h) (Or.inl ⟨by rfl,?_⟩) hHeld ?_ ?_;rotate_left
          ·rintro w' ⟨s0,s1,s2,s3,s4,s5,s6,s7,s8,s9,s10,s11,s12,s13,s14⟩;go_simp;with_reducible rfl
          rotate_left
          ·simp only [wf_preprocess];rfl
          refine pure_ (i := 21) (N := some 31) (v := ?_) (a' := ?_) #[true,true,true,true,true,true,true,true,true,true,true,true,true,true,true,true,true,true,true,true,true,true,false,false] rfl rfl (any_of HT_.out (by kernel_rfl)) (fun _ _ _ h => h) (Or.inl ⟨by rfl,?_⟩) ?_ ?_;rotate_left
          ·intro w';go_simp;with_reducible rfl
          rotate_left
          ·simp only [wf_preprocess];rfl
          refine pure_ (i := 22) (N := some 32) (v := ?_) (a' := ?_) #[true,true,true,true,true,true,true,true,true,true,true,true,true,true,true,true,true,true,true,true,true,true,true,false] rfl rfl (any_of HT_.out (by kernel_rfl)) (fun _ _ _ h => h) (Or.inl ⟨by rfl,?_⟩) ?_ ?_;rotate_left
          ·intro w';go_simp;with_reducible rfl
          rotate_left
          ·simp only [wf_preprocess];rfl
          refine pure_ (i := 23) (N := some 33) (v := ?_) (a' := ?_) #[true,true,true,true,true,true,true,true,true,true,true,true,true,true,true,true,true,true,true,true,true,true,true,true] rfl rfl (any_of HT_.out (by kernel_rfl)) (fun _ _ _ h => h) (Or.inl ⟨by rfl,?_⟩) ?_ ?_;rotate_left
          ·intro w';go_simp;with_reducible rfl
          rotate_left
          ·simp only [wf_preprocess];rfl
          refine done_ (done_of HT_.out (by kernel_rfl)) ?_
          try go_wp2
          go_roundg k1
          case measure => have := HK1.out; omega
          case rel => exact ⟨(wrap64 (x3_1 + 1)),(by rfl),H',⟨by have := HK1.out; omega⟩,⟨HB.out⟩⟩
         ·rw [if_neg c10] at H
          have c10b0 : (Op.bytesLess (((rd_T63 l0 (ji7)).f0).toList) (((rd_T63 l0 x3_1).f0).toList)) = false := by simpa using c10
          clear c10;obtain rfl := Option.some.inj H
          try go_wp2
          have n0_ := Aside0.mk (below_drew1 HB.out);clear HB;have HB := n0_;clear n0_;have p249 : 0 ≤ (x3_1 : Int) := of_decide_eq_true (by (with_reducible assumption));have q249 : x3_1 < (l0.length : Int) := of_decide_eq_true (by (with_reducible assumption));obtain ⟨ad249,A249_4,c249_4,e249,hx249_0,hx249_1,hx249_2,hx249_3,hx249_4,hl249_4,hi249_4⟩ := at_T63 HR0.out x3_1 p249 q249;have hw249_4 := hx249_4;have hw249_3 := hx249_3;have hw249_2 := hx249_2;have hw249_1 := hx249_1;have hw249_0 := hx249_0
          cases e249
          replace hx249_0 := up_ HB.out hx249_0;replace hx249_1 := up_ HB.out hx249_1;replace hx249_2 := up_ HB.out hx249_2;replace hx249_3 := up_ HB.out hx249_3;replace hx249_4 := up_ HB.out hx249_4;have HR249_4 := Aside0.mk hi249_4;have HC249_4 := Aside0.mk hl249_4;clear hi249_4 hl249_4;replace p249 := eq_true p249;replace q249 := eq_true q249;have p251 : 0 ≤ ((ji7) : Int) := of_decide_eq_true (by (with_reducible assumption));have q251 : (ji7) < (l0.length : Int) := of_decide_eq_true (by (with_reducible assumption));obtain ⟨ad251,A251_4,c251_4,e251,hx251_0,hx251_1,hx251_2,hx251_3,hx251_4,hl251_4,hi251_4⟩ := at_T63 HR0.out (ji7) p251 q251;have hw251_4 := hx251_4;have hw251_3 := hx251_3;have hw251_2 := hx251_2;have hw251_1 := hx251_1;have hw251_0 := hx251_0;obtain rfl : ad249 = ad251 := (by injection e251);replace hx251_0 := up_ HB.out hx251_0;replace hx251_1 := up_ HB.out hx251_1;replace hx251_2 := up_ HB.out hx251_2;replace hx251_3 := up_ HB.out hx251_3;replace hx251_4 := up_ HB.out hx251_4;have HR251_4 := Aside0.mk hi251_4;have HC251_4 := Aside0.mk hl251_4;clear hi251_4 hl251_4;replace p251 := eq_true p251;replace q251 := eq_true q251;have p252 : 0 ≤ (x3_1 : Int) := of_decide_eq_true (by (with_reducible assumption));have q252 : x3_1 < (l0.length : Int) := of_decide_eq_true (by (with_reducible assumption));obtain ⟨ad252,A252_4,c252_4,e252,hx252_0,hx252_1,hx252_2,hx252_3,hx252_4,hl252_4,hi252_4⟩ := at_T63 HR0.out x3_1 p252 q252;have hw252_4 := hx252_4;have hw252_3 := hx252_3;have hw252_2 := hx252_2;have hw252_1 := hx252_1;have hw252_0 := hx252_0;obtain rfl : ad249 = ad252 := (by injection e252);replace hx252_0 := up_ HB.out hx252_0;replace hx252_1 := up_ HB.out hx252_1;replace hx252_2 := up_ HB.out hx252_2;replace hx252_3 := up_ HB.out hx252_3;replace hx252_4 := up_ HB.out hx252_4;have HR252_4 := Aside0.mk hi252_4;have HC252_4 := Aside0.mk hl252_4;clear hi252_4 hl252_4;replace p252 := eq_true p252;replace q252 := eq_true q252;refine start_ (n := 24) (S := fun w' => w'.cell? (ad249.add ((x3_1).toNat * 5)) = some (.string ((rd_T63 l0 x3_1).f0)) ∧ w'.cell? ⟨(ad249.add ((x3_1).toNat * 5)).block,(ad249.add ((x3_1).toNat * 5)).off + 1,none⟩ = some (.int .i64 ((rd_T63 l0 x3_1).f1)) ∧ w'.cell? ⟨(ad249.add ((x3_1).toNat * 5)).block,(ad249.add ((x3_1).toNat * 5)).off + 2,none⟩ = some (.int .i64 ((rd_T63 l0 x3_1).f2)) ∧ w'.cell? ⟨(ad249.add ((x3_1).toNat * 5)).block,(ad249.add ((x3_1).toNat * 5)).off + 3,none⟩ = some (.int .i64 ((rd_T63 l0 x3_1).f3)) ∧ w'.cell? ⟨(ad249.add ((x3_1).toNat * 5)).block,(ad249.add ((x3_1).toNat * 5)).off + 4,none⟩ = some (.slice A249_4 ((rd_T63 l0 x3_1).f4).length c249_4) ∧ w'.cell? (ad249.add ((ji7).toNat * 5)) = some (.string ((rd_T63 l0 (ji7)).f0)) ∧ w'.cell? ⟨(ad249.add ((ji7).toNat * 5)).block,(ad249.add ((ji7).toNat * 5)).off + 1,none⟩ = some (.int .i64 ((rd_T63 l0 (ji7)).f1)) ∧ w'.cell? ⟨(ad249.add ((ji7).toNat * 5)).block,(ad249.add ((ji7).toNat * 5)).off + 2,none⟩ = some (.int .i64 ((rd_T63 l0 (ji7)).f2)) ∧ w'.cell? ⟨(ad249.add ((ji7).toNat * 5)).block,(ad249.add ((ji7).toNat * 5)).off + 3,none⟩ = some (.int .i64 ((rd_T63 l0 (ji7)).f3)) ∧ w'.cell? ⟨(ad249.add ((ji7).toNat * 5)).block,(ad249.add ((ji7).toNat * 5)).off + 4,none⟩ = some (.slice A251_4 ((rd_T63 l0 (ji7)).f4).length c251_4) ∧ w'.cell? (ad249.add ((x3_1).toNat * 5)) = some (.string ((rd_T63 l0 x3_1).f0)) ∧ w'.cell? ⟨(ad249.add ((x3_1).toNat * 5)).block,(ad249.add ((x3_1).toNat * 5)).off + 1,none⟩ = some (.int .i64 ((rd_T63 l0 x3_1).f1)) ∧ w'.cell? ⟨(ad249.add ((x3_1).toNat * 5)).block,(ad249.add ((x3_1).toNat * 5)).off + 2,none⟩ = some (.int .i64 ((rd_T63 l0 x3_1).f2)) ∧ w'.cell? ⟨(ad249.add ((x3_1).toNat * 5)).block,(ad249.add ((x3_1).toNat * 5)).off + 3,none⟩ = some (.int .i64 ((rd_T63 l0 x3_1).f3)) ∧ w'.cell? ⟨(ad249.add ((x3_1).toNat * 5)).block,(ad249.add ((x3_1).toNat * 5)).off + 4,none⟩ = some (.slice A252_4 ((rd_T63 l0 x3_1).f4).length c252_4)) (ds := []) #[false,false,false,false,false,false,false,false,false,false,false,false,false,false,false,false,false,false,false,false,false,false,false,false] (by kernel_rfl) rfl rfl ⟨(up_ HB.out hw249_0),(up_ HB.out hw249_1),(up_ HB.out hw249_2),(up_ HB.out hw249_3),(up_ HB.out hw249_4),(up_ HB.out hw251_0),(up_ HB.out hw251_1),(up_ HB.out hw251_2),(up_ HB.out hw251_3),(up_ HB.out hw251_4),(up_ HB.out hw252_0),(up_ HB.out hw252_1),(up_ HB.out hw252_2),(up_ HB.out hw252_3),(up_ HB.out hw252_4)⟩ (fun hHeld => ?_); refine with_tabW spec_AcctsOk.tab4 spec_AcctsOk.bits4 (fun HT_ HW_ => ?_)
          generalize wr.drew = w13 at HB HR249_4 HR251_4 HR252_4 hx249_0 hx249_1 hx249_2 hx249_3 hx249_4 hx251_0 hx251_1 hx251_2 hx251_3 hx251_4 hx252_0 hx252_1 hx252_2 hx252_3 hx252_4 hHeld ⊢
          refine pure_ (i := 0) (N := some 10) (v := ?_) (a' := ?_) #[true,false,false,false,false,false,false,false,false,false,false,false,false,false,false,false,false,false,false,false,false,false,false,false] rfl rfl (any_of HT_.out (by kernel_rfl)) (fun _ _ _ h => h) (Or.inl ⟨by rfl,?_⟩) ?_ ?_;rotate_left
          ·intro w';go_simp;with_reducible rfl
          rotate_left
          ·simp only [wf_preprocess];rfl
          refine pure_ (i := 1) (N := some 11) (v := ?_) (a' := ?_) #[true,true,false,false,false,false,false,false,false,false,false,false,false,false,false,false,false,false,false,false,false,false,false,false] rfl rfl (any_of HT_.out (by kernel_rfl)) (fun _ _ _ h => h) (Or.inl ⟨by rfl,?_⟩) ?_ ?_;rotate_left
          ·intro w';go_simp;with_reducible rfl
          rotate_left
          ·simp only [wf_preprocess];rfl
          refine pure_ (i := 2) (N := some 12) (v := ?_) (a' := ?_) #[true,true,true,false,false,false,false,false,false,false,false,false,false,false,false,false,false,false,false,false,false,false,false,false] rfl rfl (any_of HT_.out (by kernel_rfl)) (fun _ _ _ h => h) (Or.inl ⟨by rfl,?_⟩) ?_ ?_;rotate_left
          ·intro w';go_simp;with_reducible rfl
          rotate_left
          ·simp only [wf_preprocess];rfl
          refine take_ (i := 3) (N := some 13) (v := ?_) (a' := ?_) #[true,true,true,true,false,false,false,false,false,false,false,false,false,false,false,false,false,false,false,false,false,false,false,false] rfl rfl (take_ofW HT_.out HW_.out (by kernel_rfl)) (fun _ _ _ h => h) (Or.inl ⟨by rfl,?_⟩) hHeld ?_ ?_;rotate_left
          ·rintro w' ⟨s0,s1,s2,s3,s4,s5,s6,s7,s8,s9,s10,s11,s12,s13,s14⟩;go_simp;with_reducible rfl
          rotate_left
          ·simp only [wf_preprocess];rfl
          refine one_ (i := 4) (N := some 14) #[true,true,true,true,true,false,false,false,false,false,false,false,false,false,false,false,false,false,false,false,false,false,false,false] rfl rfl (one_of HT_.out (by kernel_rfl)) (by decide) (fun K hK => ?_);refine goes_ Try.func123 (by kernel_rfl) rfl #[.agg #[.string ((rd_T63 l0 x3_1).f0),.int .i64 ((rd_T63 l0 x3_1).f1),.int .i64 ((rd_T63 l0 x3_1).f2),.int .i64 ((rd_T63 l0 x3_1).f3),.slice A249_4 ((rd_T63 l0 x3_1).f4).length c249_4]] (by rfl) rfl rfl (by (try simp only [List.map_toArray,List.map_cons,List.map_nil]); rfl) ?_
          with_reducible refine (spec_AcctOk.calls k1 ((rd_T63 l0 x3_1).f0) ((rd_T63 l0 x3_1).f1) ((rd_T63 l0 x3_1).f2) ((rd_T63 l0 x3_1).f3) _ _ ((rd_T63 l0 x3_1).f4) true _ ?side1 ?side2 A4.out).mono ?_
          (case side1 => repeat (exact (Kd.C_below HR249_4.out HB.out)))
          (case side2 => exact HC249_4.out)
          rintro e w14 ⟨rfl,hb⟩;refine ⟨_,rfl,?_⟩;have n0_ := Aside0.mk (below_step HB.out hb);clear HB;have HB := n0_;clear n0_
          (try clear hb)
          skip
          skip
          skip
          refine hK.out _ _ ⟨(up_ HB.out hw249_0),(up_ HB.out hw249_1),(up_ HB.out hw249_2),(up_ HB.out hw249_3),(up_ HB.out hw249_4),(up_ HB.out hw251_0),(up_ HB.out hw251_1),(up_ HB.out hw251_2),(up_ HB.out hw251_3),(up_ HB.out hw251_4),(up_ HB.out hw252_0),(up_ HB.out hw252_1),(up_ HB.out hw252_2),(up_ HB.out hw252_3),(up_ HB.out hw252_4)⟩ (fun hHeld => ?_);clear hK K;refine norm_ (a' := ?_) ?_ ?_;rotate_left
          ·show Act.put _ (some 14) _ = _
           simp only [wf_preprocess];rfl
          refine pure_ (i := 5) (N := some 15) (v := ?_) (a' := ?_) #[true,true,true,true,true,true,false,false,false,false,false,false,false,false,false,false,false,false,false,false,false,false,false,false] rfl rfl (any_of HT_.out (by kernel_rfl)) (fun _ _ _ h => h) (Or.inl ⟨by rfl,?_⟩) ?_ ?_;rotate_left
          ·intro w';go_simp;with_reducible rfl
          rotate_left
          ·simp only [wf_preprocess];rfl
          refine pure_ (i := 6) (N := some 16) (v := ?_) (a' := ?_) #[true,true,true,true,true,true,true,false,false,false,false,false,false,false,false,false,false,false,false,false,false,false,false,false] rfl rfl (any_of HT_.out (by kernel_rfl)) (fun _ _ _ h => h) (Or.inl ⟨by rfl,?_⟩) ?_ ?_;rotate_left
          ·intro w';go_simp;with_reducible rfl
          rotate_left
          ·simp only [wf_preprocess];rfl
          refine pure_ (i := 7) (N := some 17) (v := ?_) (a' := ?_) #[true,true,true,true,true,true,true,true,false,false,false,false,false,false,false,false,false,false,false,false,false,false,false,false] rfl rfl (any_of HT_.out (by kernel_rfl)) (fun _ _ _ h => h) (Or.inl ⟨by rfl,?_⟩) ?_ ?_;rotate_left
          ·intro w';go_simp;with_reducible rfl
          rotate_left
          ·simp only [wf_preprocess];rfl
          refine pure_ (i := 8) (N := some 18) (v := ?_) (a' := ?_) #[true,true,true,true,true,true,true,true,true,false,false,false,false,false,false,false,false,false,false,false,false,false,false,false] rfl rfl (any_of HT_.out (by kernel_rfl)) (fun _ _ _ h => h) (Or.inl ⟨by rfl,?_⟩) ?_ ?_;rotate_left
          ·intro w';go_simp;with_reducible rfl
          rotate_left
          ·simp only [wf_preprocess];rfl
          refine pure_ (i := 9) (N := some 19) (v := ?_) (a' := ?_) #[true,true,true,true,true,true,true,true,true,true,false,false,false,false,false,false,false,false,false,false,false,false,false,false] rfl rfl (any_of HT_.out (by kernel_rfl)) (fun _ _ _ h => h) (Or.inl ⟨by rfl,?_⟩) ?_ ?_;rotate_left
          ·intro w';go_simp;with_reducible rfl
          rotate_left
          ·simp only [wf_preprocess];rfl
          refine pure_ (i := 10) (N := some 20) (v := ?_) (a' := ?_) #[true,true,true,true,true,true,true,true,true,true,true,false,false,false,false,false,false,false,false,false,false,false,false,false] rfl rfl (any_of HT_.out (by kernel_rfl)) (fun _ _ _ h => h) (Or.inl ⟨by rfl,?_⟩) ?_ ?_;rotate_left
          ·intro w';go_simp;with_reducible rfl
          rotate_left
          ·simp only [wf_preprocess];rfl
          refine pure_ (i := 11) (N := some 21) (v := ?_) (a' := ?_) #[true,true,true,true,true,true,true,true,true,true,true,true,false,false,false,false,false,false,false,false,false,false,false,false] rfl rfl (any_of HT_.out (by kernel_rfl)) (fun _ _ _ h => h) (Or.inl ⟨by rfl,?_⟩) ?_ ?_;rotate_left
          ·intro w';go_simp;with_reducible rfl
          rotate_left
          ·simp only [wf_preprocess];rfl
          refine pure_ (i := 12) (N := some 22) (v := ?_) (a' := ?_) #[true,true,true,true,true,true,true,true,true,true,true,true,true,false,false,false,false,false,false,false,false,false,false,false] rfl rfl (any_of HT_.out (by kernel_rfl)) (fun _ _ _ h => h) (Or.inl ⟨by rfl,?_⟩) ?_ ?_;rotate_left
          ·intro w';go_simp;with_reducible rfl
          rotate_left
          ·simp only [wf_preprocess];rfl
          refine pure_ (i := 13) (N := some 23) (v := ?_) (a' := ?_) #[true,true,true,true,true,true,true,true,true,true,true,true,true,true,false,false,false,false,false,false,false,false,false,false] rfl rfl (any_of HT_.out (by kernel_rfl)) (fun _ _ _ h => h) (Or.inl ⟨by rfl,?_⟩) ?_ ?_;rotate_left
          ·intro w';go_simp;with_reducible rfl
          rotate_left
          ·simp only [wf_preprocess];rfl
          refine pure_ (i := 14) (N := some 24) (v := ?_) (a' := ?_) #[true,true,true,true,true,true,true,true,true,true,true,true,true,true,true,false,false,false,false,false,false,false,false,false] rfl rfl (any_of HT_.out (by kernel_rfl)) (fun _ _ _ h => h) (Or.inl ⟨by rfl,?_⟩) ?_ ?_;rotate_left
          ·intro w';go_simp;with_reducible rfl
          rotate_left
          ·simp only [wf_preprocess];rfl
          refine pure_ (i := 16) (N := some 26) (v := ?_) (a' := ?_) #[true,true,true,true,true,true,true,true,true,true,true,true,true,true,true,false,true,false,false,false,false,false,false,false] rfl rfl (any_of HT_.out (by kernel_rfl)) (fun _ _ _ h => h) (Or.inl ⟨by rfl,?_⟩) ?_ ?_;rotate_left
          ·intro w';go_simp;with_reducible rfl
          rotate_left
          ·simp only [wf_preprocess];rfl
          refine pure_ (i := 17) (N := some 27) (v := ?_) (a' := ?_) #[true,true,true,true,true,true,true,true,true,true,true,true,true,true,true,false,true,true,false,false,false,false,false,false] rfl rfl (any_of HT_.out (by kernel_rfl)) (fun _ _ _ h => h) (Or.inl ⟨by rfl,?_⟩) ?_ ?_;rotate_left
          ·intro w';go_simp;with_reducible rfl
          rotate_left
          ·simp only [wf_preprocess];rfl
          refine pure_ (i := 18) (N := some 28) (v := ?_) (a' := ?_) #[true,true,true,true,true,true,true,true,true,true,true,true,true,true,true,false,true,true,true,false,false,false,false,false] rfl rfl (any_of HT_.out (by kernel_rfl)) (fun _ _ _ h => h) (Or.inl ⟨by rfl,?_⟩) ?_ ?_;rotate_left
          ·intro w';go_simp;with_reducible rfl
          rotate_left
          ·simp only [wf_preprocess];rfl
          refine pure_ (i := 19) (N := some 29) (v := ?_) (a' := ?_) #[true,true,true,true,true,true,true,true,true,true,true,true,true,true,true,false,true,true,true,true,false,false,false,false] rfl rfl (any_of HT_.out (by kernel_rfl)) (fun _ _ _ h => h) (Or.inl ⟨by rfl,?_⟩) ?_ ?_;rotate_left
          ·intro w';go_simp;with_reducible rfl
          rotate_left
          ·simp only [wf_preprocess];rfl
          refine take_ (i := 15) (N := some 25) (v := ?_) (a' := ?_) #[true,true,true,true,true,true,true,true,true,true,true,true,true,true,true,true,true,true,true,true,false,false,false,false] rfl rfl (take_ofW HT_.out HW_.out (by kernel_rfl)) (fun _ _ _ h => h) (Or.inl ⟨by rfl,?_⟩) hHeld ?_ ?_;rotate_left
          ·rintro w' ⟨s0,s1,s2,s3,s4,s5,s6,s7,s8,s9,s10,s11,s12,s13,s14⟩;go_simp;with_reducible rfl
          rotate_left
          ·simp only [wf_preprocess];rfl
          refine take_ (i := 20) (N := some 30) (v := ?_) (a' := ?_) #[true,true,true,true,true,true,true,true,true,true,true,true,true,true,true,true,true,true,true,true,true,false,false,false] rfl rfl (take_ofW HT_.out HW_.out (by kernel_rfl)) (fun _ _ _ h => h) (Or.inl ⟨by rfl,?_⟩) hHeld ?_ ?_;rotate_left
          ·rintro w' ⟨s0,s1,s2,s3,s4,s5,s6,s7,s8,s9,s10,s11,s12,s13,s14⟩;go_simp;with_reducible rfl
          rotate_left
          ·simp only [wf_preprocess];rfl
          refine pure_ (i := 21) (N := some 31) (v := ?_) (a' := ?_) #[true,true,true,true,true,true,true,true,true,true,true,true,true,true,true,true,true,true,true,true,true,true,false,false] rfl rfl (any_of HT_.out (by kernel_rfl)) (fun _ _ _ h => h) (Or.inl ⟨by rfl,?_⟩) ?_ ?_;rotate_left
          ·intro w';go_simp;with_reducible rfl
          rotate_left
          ·simp only [wf_preprocess];rfl
          refine pure_ (i := 22) (N := some 32) (v := ?_) (a' := ?_) #[true,true,true,true,true,true,true,true,true,true,true,true,true,true,true,true,true,true,true,true,true,true,true,false] rfl rfl (any_of HT_.out (by kernel_rfl)) (fun _ _ _ h => h) (Or.inl ⟨by rfl,?_⟩) ?_ ?_;rotate_left
          ·intro w';go_simp;with_reducible rfl
          rotate_left
          ·simp only [wf_preprocess];rfl
          refine pure_ (i := 23) (N := some 33) (v := ?_) (a' := ?_) #[true,true,true,true,true,true,true,true,true,true,true,true,true,true,true,true,true,true,true,true,true,true,true,true] rfl rfl (any_of HT_.out (by kernel_rfl)) (fun _ _ _ h => h) (Or.inl ⟨by rfl,?_⟩) ?_ ?_;rotate_left
          ·intro w';go_simp;with_reducible rfl
          rotate_left
          ·simp only [wf_preprocess];rfl
          refine done_ (done_of HT_.out (by kernel_rfl)) ?_
          try go_wp2
          go_ret;exact ⟨by rfl,HB.out⟩
        ·rw [if_neg c9] at H;exact absurd H (by simp)
       ·rw [if_neg c8] at H;exact absurd H (by simp)
      ·rw [if_neg c6] at H;have c6b0 : decide (0 < x3_1) = false := decide_eq_false c6;clear c6;have H' := Aside0.mk H;clear H
       try go_wp2
       have n0_ := Aside0.mk (below_drew1 HB.out);clear HB;have HB := n0_;clear n0_;have p249 : 0 ≤ (x3_1 : Int) := of_decide_eq_true (by (with_reducible assumption));have q249 : x3_1 < (l0.length : Int) := of_decide_eq_true (by (with_reducible assumption));obtain ⟨ad249,A249_4,c249_4,e249,hx249_0,hx249_1,hx249_2,hx249_3,hx249_4,hl249_4,hi249_4⟩ := at_T63 HR0.out x3_1 p249 q249;have hw249_4 := hx249_4;have hw249_3 := hx249_3;have hw249_2 := hx249_2;have hw249_1 := hx249_1;have hw249_0 := hx249_0
       cases e249
       replace hx249_0 := up_ HB.out hx249_0;replace hx249_1 := up_ HB.out hx249_1;replace hx249_2 := up_ HB.out hx249_2;replace hx249_3 := up_ HB.out hx249_3;replace hx249_4 := up_ HB.out hx249_4;have HR249_4 := Aside0.mk hi249_4;have HC249_4 := Aside0.mk hl249_4;clear hi249_4 hl249_4;replace p249 := eq_true p249;replace q249 := eq_true q249;refine start_ (n := 24) (S := fun w' => w'.cell? (ad249.add ((x3_1).toNat * 5)) = some (.string ((rd_T63 l0 x3_1).f0)) ∧ w'.cell? ⟨(ad249.add ((x3_1).toNat * 5)).block,(ad249.add ((x3_1).toNat * 5)).off + 1,none⟩ = some (.int .i64 ((rd_T63 l0 x3_1).f1)) ∧ w'.cell? ⟨(ad249.add ((x3_1).toNat * 5)).block,(ad249.add ((x3_1).toNat * 5)).off + 2,none⟩ = some (.int .i64 ((rd_T63 l0 x3_1).f2)) ∧ w'.cell? ⟨(ad249.add ((x3_1).toNat * 5)).block,(ad249.add ((x3_1).toNat * 5)).off + 3,none⟩ = some (.int .i64 ((rd_T63 l0 x3_1).f3)) ∧ w'.cell? ⟨(ad249.add ((x3_1).toNat * 5)).block,(ad249.add ((x3_1).toNat * 5)).off + 4,none⟩ = some (.slice A249_4 ((rd_T63 l0 x3_1).f4).length c249_4)) (ds := []) #[false,false,false,false,false,false,false,false,false,false,false,false,false,false,false,false,false,false,false,false,false,false,false,false] (by kernel_rfl) rfl rfl ⟨(up_ HB.out hw249_0),(up_ HB.out hw249_1),(up_ HB.out hw249_2),(up_ HB.out hw249_3),(up_ HB.out hw249_4)⟩ (fun hHeld => ?_); refine with_tabW spec_AcctsOk.tab4 spec_AcctsOk.bits4 (fun HT_ HW_ => ?_)
       generalize wr.drew = w15 at HB HR249_4 hx249_0 hx249_1 hx249_2 hx249_3 hx249_4 hHeld ⊢
       refine pure_ (i := 0) (N := some 10) (v := ?_) (a' := ?_) #[true,false,false,false,false,false,false,false,false,false,false,false,false,false,false,false,false,false,false,false,false,false,false,false] rfl rfl (any_of HT_.out (by kernel_rfl)) (fun _ _ _ h => h) (Or.inl ⟨by rfl,?_⟩) ?_ ?_;rotate_left
       ·intro w';go_simp;with_reducible rfl
       rotate_left
       ·simp only [wf_preprocess];rfl
       refine pure_ (i := 1) (N := some 11) (v := ?_) (a' := ?_) #[true,true,false,false,false,false,false,false,false,false,false,false,false,false,false,false,false,false,false,false,false,false,false,false] rfl rfl (any_of HT_.out (by kernel_rfl)) (fun _ _ _ h => h) (Or.inl ⟨by rfl,?_⟩) ?_ ?_;rotate_left
       ·intro w';go_simp;with_reducible rfl
       rotate_left
       ·simp only [wf_preprocess];rfl
       refine pure_ (i := 2) (N := some 12) (v := ?_) (a' := ?_) #[true,true,true,false,false,false,false,false,false,false,false,false,false,false,false,false,false,false,false,false,false,false,false,false] rfl rfl (any_of HT_.out (by kernel_rfl)) (fun _ _ _ h => h) (Or.inl ⟨by rfl,?_⟩) ?_ ?_;rotate_left
       ·intro w';go_simp;with_reducible rfl
       rotate_left
       ·simp only [wf_preprocess];rfl
       refine take_ (i := 3) (N := some 13) (v := ?_) (a' := ?_) #[true,true,true,true,false,false,false,false,false,false,false,false,false,false,false,false,false,false,false,false,false,false,false,false] rfl rfl (take_ofW HT_.out HW_.out (by kernel_rfl)) (fun _ _ _ h => h) (Or.inl ⟨by rfl,?_⟩) hHeld ?_ ?_;rotate_left
       ·rintro w' ⟨s0,s1,s2,s3,s4⟩;go_simp;with_reducible rfl
       rotate_left
       ·simp only [wf_preprocess];rfl
       refine one_ (i := 4) (N := some 14) #[true,true,true,true,true,false,false,false,false,false,false,false,false,false,false,false,false,false,false,false,false,false,false,false] rfl rfl (one_of HT_.out (by kernel_rfl)) (by decide) (fun K hK => ?_);refine goes_ Try.func123 (by kernel_rfl) rfl #[.agg #[.string ((rd_T63 l0 x3_1).f0),.int .i64 ((rd_T63 l0 x3_1).f1),.int .i64 ((rd_T63 l0 x3_1).f2),.int .i64 ((rd_T63 l0 x3_1).f3),.slice A249_4 ((rd_T63 l0 x3_1).f4).length c249_4]] (by rfl) rfl rfl (by (try simp only [List.map_toArray,List.map_cons,List.map_nil]); rfl) ?_
       with_reducible refine (spec_AcctOk.calls k1 ((rd_T63 l0 x3_1).f0) ((rd_T63 l0 x3_1).f1) ((rd_T63 l0 x3_1).f2) ((rd_T63 l0 x3_1).f3) _ _ ((rd_T63 l0 x3_1).f4) true _ ?side1 ?side2 A4.out).mono ?_
       (case side1 => repeat (exact (Kd.C_below HR249_4.out HB.out)))
       (case side2 => exact HC249_4.out)
       rintro e w16 ⟨rfl,hb⟩;refine ⟨_,rfl,?_⟩;have n0_ := Aside0.mk (below_step HB.out hb);clear HB;have HB := n0_;clear n0_
       (try clear hb)
       skip
       skip
       skip
       refine hK.out _ _ ⟨(up_ HB.out hw249_0),(up_ HB.out hw249_1),(up_ HB.out hw249_2),(up_ HB.out hw249_3),(up_ HB.out hw249_4)⟩ (fun hHeld => ?_);clear hK K;refine norm_ (a' := ?_) ?_ ?_;rotate_left
       ·show Act.put _ (some 14) _ = _
        simp only [wf_preprocess];rfl
       refine pure_ (i := 5) (N := some 15) (v := ?_) (a' := ?_) #[true,true,true,true,true,true,false,false,false,false,false,false,false,false,false,false,false,false,false,false,false,false,false,false] rfl rfl (any_of HT_.out (by kernel_rfl)) (fun _ _ _ h => h) (Or.inl ⟨by rfl,?_⟩) ?_ ?_;rotate_left
       ·intro w';go_simp;with_reducible rfl
       rotate_left
       ·simp only [wf_preprocess];rfl
       refine pure_ (i := 6) (N := some 16) (v := ?_) (a' := ?_) #[true,true,true,true,true,true,true,false,false,false,false,false,false,false,false,false,false,false,false,false,false,false,false,false] rfl rfl (any_of HT_.out (by kernel_rfl)) (fun _ _ _ h => h) (Or.inl ⟨by rfl,?_⟩) ?_ ?_;rotate_left
       ·intro w';go_simp;with_reducible rfl
       rotate_left
       ·simp only [wf_preprocess];rfl
       refine pure_ (i := 7) (N := some 17) (v := ?_) (a' := ?_) #[true,true,true,true,true,true,true,true,false,false,false,false,false,false,false,false,false,false,false,false,false,false,false,false] rfl rfl (any_of HT_.out (by kernel_rfl)) (fun _ _ _ h => h) (Or.inl ⟨by rfl,?_⟩) ?_ ?_;rotate_left
       ·intro w';go_simp;with_reducible rfl
       rotate_left
       ·simp only [wf_preprocess];rfl
       refine pure_ (i := 8) (N := some 18) (v := ?_) (a' := ?_) #[true,true,true,true,true,true,true,true,true,false,false,false,false,false,false,false,false,false,false,false,false,false,false,false] rfl rfl (any_of HT_.out (by kernel_rfl)) (fun _ _ _ h => h) (Or.inl ⟨by rfl,?_⟩) ?_ ?_;rotate_left
       ·intro w';go_simp;with_reducible rfl
       rotate_left
       ·simp only [wf_preprocess];rfl
       refine pure_ (i := 9) (N := some 19) (v := ?_) (a' := ?_) #[true,true,true,true,true,true,true,true,true,true,false,false,false,false,false,false,false,false,false,false,false,false,false,false] rfl rfl (any_of HT_.out (by kernel_rfl)) (fun _ _ _ h => h) (Or.inl ⟨by rfl,?_⟩) ?_ ?_;rotate_left
       ·intro w';go_simp;with_reducible rfl
       rotate_left
       ·simp only [wf_preprocess];rfl
       refine pure_ (i := 10) (N := some 20) (v := undef) (a' := ?_) #[true,true,true,true,true,true,true,true,true,true,true,false,false,false,false,false,false,false,false,false,false,false,false,false] rfl rfl (any_of HT_.out (by kernel_rfl)) (fun _ _ _ h => h) (Or.inr ⟨by rfl,rfl⟩) ?_ ?_;rotate_left
       ·simp only [wf_preprocess];rfl
       refine pure_ (i := 11) (N := some 21) (v := undef) (a' := ?_) #[true,true,true,true,true,true,true,true,true,true,true,true,false,false,false,false,false,false,false,false,false,false,false,false] rfl rfl (any_of HT_.out (by kernel_rfl)) (fun _ _ _ h => h) (Or.inr ⟨by rfl,rfl⟩) ?_ ?_;rotate_left
       ·simp only [wf_preprocess];rfl
       refine pure_ (i := 12) (N := some 22) (v := undef) (a' := ?_) #[true,true,true,true,true,true,true,true,true,true,true,true,true,false,false,false,false,false,false,false,false,false,false,false] rfl rfl (any_of HT_.out (by kernel_rfl)) (fun _ _ _ h => h) (Or.inr ⟨by rfl,rfl⟩) ?_ ?_;rotate_left
       ·simp only [wf_preprocess];rfl
       refine pure_ (i := 13) (N := some 23) (v := undef) (a' := ?_) #[true,true,true,true,true,true,true,true,true,true,true,true,true,true,false,false,false,false,false,false,false,false,false,false] rfl rfl (any_of HT_.out (by kernel_rfl)) (fun _ _ _ h => h) (Or.inr ⟨by rfl,rfl⟩) ?_ ?_;rotate_left
       ·simp only [wf_preprocess];rfl
       refine pure_ (i := 14) (N := some 24) (v := undef) (a' := ?_) #[true,true,true,true,true,true,true,true,true,true,true,true,true,true,true,false,false,false,false,false,false,false,false,false] rfl rfl (any_of HT_.out (by kernel_rfl)) (fun _ _ _ h => h) (Or.inr ⟨by rfl,rfl⟩) ?_ ?_;rotate_left
       ·simp only [wf_preprocess];rfl
       refine pure_ (i := 15) (N := some 25) (v := undef) (a' := ?_) #[true,true,true,true,true,true,true,true,true,true,true,true,true,true,true,true,false,false,false,false,false,false,false,false] rfl rfl (any_of HT_.out (by kernel_rfl)) (fun _ _ _ h => h) (Or.inr ⟨by rfl,rfl⟩) ?_ ?_;rotate_left
       ·simp only [wf_preprocess];rfl
       refine pure_ (i := 16) (N := some 26) (v := undef) (a' := ?_) #[true,true,true,true,true,true,true,true,true,true,true,true,true,true,true,true,true,false,false,false,false,false,false,false] rfl rfl (any_of HT_.out (by kernel_rfl)) (fun _ _ _ h => h) (Or.inr ⟨by rfl,rfl⟩) ?_ ?_;rotate_left
       ·simp only [wf_preprocess];rfl
       refine pure_ (i := 17) (N := some 27) (v := undef) (a' := ?_) #[true,true,true,true,true,true,true,true,true,true,true,true,true,true,true,true,true,true,false,false,false,false,false,false] rfl rfl (any_of HT_.out (by kernel_rfl)) (fun _ _ _ h => h) (Or.inr ⟨by rfl,rfl⟩) ?_ ?_;rotate_left
       ·simp only [wf_preprocess];rfl
       refine pure_ (i := 18) (N := some 28) (v := undef) (a' := ?_) #[true,true,true,true,true,true,true,true,true,true,true,true,true,true,true,true,true,true,true,false,false,false,false,false] rfl rfl (any_of HT_.out (by kernel_rfl)) (fun _ _ _ h => h) (Or.inr ⟨by rfl,rfl⟩) ?_ ?_;rotate_left
       ·simp only [wf_preprocess];rfl
       refine pure_ (i := 19) (N := some 29) (v := undef) (a' := ?_) #[true,true,true,true,true,true,true,true,true,true,true,true,true,true,true,true,true,true,true,true,false,false,false,false] rfl rfl (any_of HT_.out (by kernel_rfl)) (fun _ _ _ h => h) (Or.inr ⟨by rfl,rfl⟩) ?_ ?_;rotate_left
       ·simp only [wf_preprocess];rfl
       refine pure_ (i := 20) (N := some 30) (v := undef) (a' := ?_) #[true,true,true,true,true,true,true,true,true,true,true,true,true,true,true,true,true,true,true,true,true,false,false,false] rfl rfl (any_of HT_.out (by kernel_rfl)) (fun _ _ _ h => h) (Or.inr ⟨by rfl,rfl⟩) ?_ ?_;rotate_left
       ·simp only [wf_preprocess];rfl
       refine pure_ (i := 21) (N := some 31) (v := undef) (a' := ?_) #[true,true,true,true,true,true,true,true,true,true,true,true,true,true,true,true,true,true,true,true,true,true,false,false] rfl rfl (any_of HT_.out (by kernel_rfl)) (fun _ _ _ h => h) (Or.inr ⟨by rfl,rfl⟩) ?_ ?_;rotate_left
       ·simp only [wf_preprocess];rfl
       refine pure_ (i := 22) (N := some 32) (v := ?_) (a' := ?_) #[true,true,true,true,true,true,true,true,true,true,true,true,true,true,true,true,true,true,true,true,true,true,true,false] rfl rfl (any_of HT_.out (by kernel_rfl)) (fun _ _ _ h => h) (Or.inl ⟨by rfl,?_⟩) ?_ ?_;rotate_left
       ·intro w';go_simp;with_reducible rfl
       rotate_left
       ·simp only [wf_preprocess];rfl
       refine pure_ (i := 23) (N := some 33) (v := ?_) (a' := ?_) #[true,true,true,true,true,true,true,true,true,true,true,true,true,true,true,true,true,true,true,true,true,true,true,true] rfl rfl (any_of HT_.out (by kernel_rfl)) (fun _ _ _ h => h) (Or.inl ⟨by rfl,?_⟩) ?_ ?_;rotate_left
       ·intro w';go_simp;with_reducible rfl
       rotate_left
       ·simp only [wf_preprocess];rfl
       refine done_ (done_of HT_.out (by kernel_rfl)) ?_
       try go_wp2
       go_roundg k1
       case measure => have := HK1.out; omega
       case rel => exact ⟨(wrap64 (x3_1 + 1)),(by rfl),H',⟨by have := HK1.out; omega⟩,⟨HB.out⟩⟩
     ·replace c5 := Bool.eq_false_iff.mpr c5;subst c5;rw [if_neg (show ¬ (false = true) by decide)] at H;obtain rfl := Option.some.inj H
      try go_wp2
      have n0_ := Aside0.mk (below_drew1 HB.out);clear HB;have HB := n0_;clear n0_;have p249 : 0 ≤ (x3_1 : Int) := of_decide_eq_true (by (with_reducible assumption));have q249 : x3_1 < (l0.length : Int) := of_decide_eq_true (by (with_reducible assumption));obtain ⟨ad249,A249_4,c249_4,e249,hx249_0,hx249_1,hx249_2,hx249_3,hx249_4,hl249_4,hi249_4⟩ := at_T63 HR0.out x3_1 p249 q249;have hw249_4 := hx249_4;have hw249_3 := hx249_3;have hw249_2 := hx249_2;have hw249_1 := hx249_1;have hw249_0 := hx249_0
      cases e249
      replace hx249_0 := up_ HB.out hx249_0;replace hx249_1 := up_ HB.out hx249_1;replace hx249_2 := up_ HB.out hx249_2;replace hx249_3 := up_ HB.out hx249_3;replace hx249_4 := up_ HB.out hx249_4;have HR249_4 := Aside0.mk hi249_4;have HC249_4 := Aside0.mk hl249_4;clear hi249_4 hl249_4;replace p249 := eq_true p249;replace q249 := eq_true q249;refine start_ (n := 24) (S := fun w' => w'.cell? (ad249.add ((x3_1).toNat * 5)) = some (.string ((rd_T63 l0 x3_1).f0)) ∧ w'.cell? ⟨(ad249.add ((x3_1).toNat * 5)).block,(ad249.add ((x3_1).toNat * 5)).off + 1,none⟩ = some (.int .i64 ((rd_T63 l0 x3_1).f1)) ∧ w'.cell? ⟨(ad249.add ((x3_1).toNat * 5)).block,(ad249.add ((x3_1).toNat * 5)).off + 2,none⟩ = some (.int .i64 ((rd_T63 l0 x3_1).f2)) ∧ w'.cell? ⟨(ad249.add ((x3_1).toNat * 5)).block,(ad249.add ((x3_1).toNat * 5)).off + 3,none⟩ = some (.int .i64 ((rd_T63 l0 x3_1).f3)) ∧ w'.cell? ⟨(ad249.add ((x3_1).toNat * 5)).block,(ad249.add ((x3_1).toNat * 5)).off + 4,none⟩ = some (.slice A249_4 ((rd_T63 l0 x3_1).f4).length c249_4)) (ds := []) #[false,false,false,false,false,false,false,false,false,false,false,false,false,false,false,false,false,false,false,false,false,false,false,false] (by kernel_rfl) rfl rfl ⟨(up_ HB.out hw249_0),(up_ HB.out hw249_1),(up_ HB.out hw249_2),(up_ HB.out hw249_3),(up_ HB.out hw249_4)⟩ (fun hHeld => ?_); refine with_tabW spec_AcctsOk.tab4 spec_AcctsOk.bits4 (fun HT_ HW_ => ?_)
      generalize wr.drew = w17 at HB HR249_4 hx249_0 hx249_1 hx249_2 hx249_3 hx249_4 hHeld ⊢
      refine pure_ (i := 0) (N := some 10) (v := ?_) (a' := ?_) #[true,false,false,false,false,false,false,false,false,false,false,false,false,false,false,false,false,false,false,false,false,false,false,false] rfl rfl (any_of HT_.out (by kernel_rfl)) (fun _ _ _ h => h) (Or.inl ⟨by rfl,?_⟩) ?_ ?_;rotate_left
      ·intro w';go_simp;with_reducible rfl
      rotate_left
      ·simp only [wf_preprocess];rfl
      refine pure_ (i := 1) (N := some 11) (v := ?_) (a' := ?_) #[true,true,false,false,false,false,false,false,false,false,false,false,false,false,false,false,false,false,false,false,false,false,false,false] rfl rfl (any_of HT_.out (by kernel_rfl)) (fun _ _ _ h => h) (Or.inl ⟨by rfl,?_⟩) ?_ ?_;rotate_left
      ·intro w';go_simp;with_reducible rfl
      rotate_left
      ·simp only [wf_preprocess];rfl
      refine pure_ (i := 2) (N := some 12) (v := ?_) (a' := ?_) #[true,true,true,false,false,false,false,false,false,false,false,false,false,false,false,false,false,false,false,false,false,false,false,false] rfl rfl (any_of HT_.out (by kernel_rfl)) (fun _ _ _ h => h) (Or.inl ⟨by rfl,?_⟩) ?_ ?_;rotate_left
      ·intro w';go_simp;with_reducible rfl
      rotate_left
      ·simp only [wf_preprocess];rfl
      refine take_ (i := 3) (N := some 13) (v := ?_) (a' := ?_) #[true,true,true,true,false,false,false,false,false,false,false,false,false,false,false,false,false,false,false,false,false,false,false,false] rfl rfl (take_ofW HT_.out HW_.out (by kernel_rfl)) (fun _ _ _ h => h) (Or.inl ⟨by rfl,?_⟩) hHeld ?_ ?_;rotate_left
      ·rintro w' ⟨s0,s1,s2,s3,s4⟩;go_simp;with_reducible rfl
      rotate_left
      ·simp only [wf_preprocess];rfl
      refine one_ (i := 4) (N := some 14) #[true,true,true,true,true,false,false,false,false,false,false,false,false,false,false,false,false,false,false,false,false,false,false,false] rfl rfl (one_of HT_.out (by kernel_rfl)) (by decide) (fun K hK => ?_);refine goes_ Try.func123 (by kernel_rfl) rfl #[.agg #[.string ((rd_T63 l0 x3_1).f0),.int .i64 ((rd_T63 l0 x3_1).f1),.int .i64 ((rd_T63 l0 x3_1).f2),.int .i64 ((rd_T63 l0 x3_1).f3),.slice A249_4 ((rd_T63 l0 x3_1).f4).length c249_4]] (by rfl) rfl rfl (by (try simp only [List.map_toArray,List.map_cons,List.map_nil]); rfl) ?_
      with_reducible refine (spec_AcctOk.calls k1 ((rd_T63 l0 x3_1).f0) ((rd_T63 l0 x3_1).f1) ((rd_T63 l0 x3_1).f2) ((rd_T63 l0 x3_1).f3) _ _ ((rd_T63 l0 x3_1).f4) false _ ?side1 ?side2 A4.out).mono ?_
      (case side1 => repeat (exact (Kd.C_below HR249_4.out HB.out)))
      (case side2 => exact HC249_4.out)
      rintro e w18 ⟨rfl,hb⟩;refine ⟨_,rfl,?_⟩;have n0_ := Aside0.mk (below_step HB.out hb);clear HB;have HB := n0_;clear n0_
      (try clear hb)
      skip
      skip
      skip
      refine hK.out _ _ ⟨(up_ HB.out hw249_0),(up_ HB.out hw249_1),(up_ HB.out hw249_2),(up_ HB.out hw249_3),(up_ HB.out hw249_4)⟩ (fun hHeld => ?_);clear hK K;refine norm_ (a' := ?_) ?_ ?_;rotate_left
      ·show Act.put _ (some 14) _ = _
       simp only [wf_preprocess];rfl
      refine pure_ (i := 5) (N := some 15) (v := ?_) (a' := ?_) #[true,true,true,true,true,true,false,false,false,false,false,false,false,false,false,false,false,false,false,false,false,false,false,false] rfl rfl (any_of HT_.out (by kernel_rfl)) (fun _ _ _ h => h) (Or.inl ⟨by rfl,?_⟩) ?_ ?_;rotate_left
      ·intro w';go_simp;with_reducible rfl
      rotate_left
      ·simp only [wf_preprocess];rfl
      refine pure_ (i := 6) (N := some 16) (v := ?_) (a' := ?_) #[true,true,true,true,true,true,true,false,false,false,false,false,false,false,false,false,false,false,false,false,false,false,false,false] rfl rfl (any_of HT_.out (by kernel_rfl)) (fun _ _ _ h => h) (Or.inl ⟨by rfl,?_⟩) ?_ ?_;rotate_left
      ·intro w';go_simp;with_reducible rfl
      rotate_left
      ·simp only [wf_preprocess];rfl
      refine pure_ (i := 7) (N := some 17) (v := undef) (a' := ?_) #[true,true,true,true,true,true,true,true,false,false,false,false,false,false,false,false,false,false,false,false,false,false,false,false] rfl rfl (any_of HT_.out (by kernel_rfl)) (fun _ _ _ h => h) (Or.inr ⟨by rfl,rfl⟩) ?_ ?_;rotate_left
      ·simp only [wf_preprocess];rfl
      refine pure_ (i := 8) (N := some 18) (v := undef) (a' := ?_) #[true,true,true,true,true,true,true,true,true,false,false,false,false,false,false,false,false,false,false,false,false,false,false,false] rfl rfl (any_of HT_.out (by kernel_rfl)) (fun _ _ _ h => h) (Or.inr ⟨by rfl,rfl⟩) ?_ ?_;rotate_left
      ·simp only [wf_preprocess];rfl
      refine pure_ (i := 9) (N := some 19) (v := undef) (a' := ?_) #[true,true,true,true,true,true,true,true,true,true,false,false,false,false,false,false,false,false,false,false,false,false,false,false] rfl rfl (any_of HT_.out (by kernel_rfl)) (fun _ _ _ h => h) (Or.inr ⟨by rfl,rfl⟩) ?_ ?_;rotate_left
      ·simp only [wf_preprocess];rfl
      refine pure_ (i := 10) (N := some 20) (v := undef) (a' := ?_) #[true,true,true,true,true,true,true,true,true,true,true,false,false,false,false,false,false,false,false,false,false,false,false,false] rfl rfl (any_of HT_.out (by kernel_rfl)) (fun _ _ _ h => h) (Or.inr ⟨by rfl,rfl⟩) ?_ ?_;rotate_left
      ·simp only [wf_preprocess];rfl
      refine pure_ (i := 11) (N := some 21) (v := undef) (a' := ?_) #[true,true,true,true,true,true,true,true,true,true,true,true,false,false,false,false,false,false,false,false,false,false,false,false] rfl rfl (any_of HT_.out (by kernel_rfl)) (fun _ _ _ h => h) (Or.inr ⟨by rfl,rfl⟩) ?_ ?_;rotate_left
      ·simp only [wf_preprocess];rfl
      refine pure_ (i := 12) (N := some 22) (v := undef) (a' := ?_) #[true,true,true,true,true,true,true,true,true,true,true,true,true,false,false,false,false,false,false,false,false,false,false,false] rfl rfl (any_of HT_.out (by kernel_rfl)) (fun _ _ _ h => h) (Or.inr ⟨by rfl,rfl⟩) ?_ ?_;rotate_left
      ·simp only [wf_preprocess];rfl
      refine pure_ (i := 13) (N := some 23) (v := undef) (a' := ?_) #[true,true,true,true,true,true,true,true,true,true,true,true,true,true,false,false,false,false,false,false,false,false,false,false] rfl rfl (any_of HT_.out (by kernel_rfl)) (fun _ _ _ h => h) (Or.inr ⟨by rfl,rfl⟩) ?_ ?_;rotate_left
      ·simp only [wf_preprocess];rfl
      refine pure_ (i := 14) (N := some 24) (v := undef) (a' := ?_) #[true,true,true,true,true,true,true,true,true,true,true,true,true,true,true,false,false,false,false,false,false,false,false,false] rfl rfl (any_of HT_.out (by kernel_rfl)) (fun _ _ _ h => h) (Or.inr ⟨by rfl,rfl⟩) ?_ ?_;rotate_left
      ·simp only [wf_preprocess];rfl
      refine pure_ (i := 15) (N := some 25) (v := undef) (a' := ?_) #[true,true,true,true,true,true,true,true,true,true,true,true,true,true,true,true,false,false,false,false,false,false,false,false] rfl rfl (any_of HT_.out (by kernel_rfl)) (fun _ _ _ h => h) (Or.inr ⟨by rfl,rfl⟩) ?_ ?_;rotate_left
      ·simp only [wf_preprocess];rfl
      refine pure_ (i := 16) (N := some 26) (v := undef) (a' := ?_) #[true,true,true,true,true,true,true,true,true,true,true,true,true,true,true,true,true,false,false,false,false,false,false,false] rfl rfl (any_of HT_.out (by kernel_rfl)) (fun _ _ _ h => h) (Or.inr ⟨by rfl,rfl⟩) ?_ ?_;rotate_left
      ·simp only [wf_preprocess];rfl
      refine pure_ (i := 17) (N := some 27) (v := undef) (a' := ?_) #[true,true,true,true,true,true,true,true,true,true,true,true,true,true,true,true,true,true,false,false,false,false,false,false] rfl rfl (any_of HT_.out (by kernel_rfl)) (fun _ _ _ h => h) (Or.inr ⟨by rfl,rfl⟩) ?_ ?_;rotate_left
      ·simp only [wf_preprocess];rfl
      refine pure_ (i := 18) (N := some 28) (v := undef) (a' := ?_) #[true,true,true,true,true,true,true,true,true,true,true,true,true,true,true,true,true,true,true,false,false,false,false,false] rfl rfl (any_of HT_.out (by kernel_rfl)) (fun _ _ _ h => h) (Or.inr ⟨by rfl,rfl⟩) ?_ ?_;rotate_left
      ·simp only [wf_preprocess];rfl
      refine pure_ (i := 19) (N := some 29) (v := undef) (a' := ?_) #[true,true,true,true,true,true,true,true,true,true,true,true,true,true,true,true,true,true,true,true,false,false,false,false] rfl rfl (any_of HT_.out (by kernel_rfl)) (fun _ _ _ h => h) (Or.inr ⟨by rfl,rfl⟩) ?_ ?_;rotate_left
      ·simp only [wf_preprocess];rfl
      refine pure_ (i := 20) (N := some 30) (v := undef) (a' := ?_) #[true,true,true,true,true,true,true,true,true,true,true,true,true,true,true,true,true,true,true,true,true,false,false,false] rfl rfl (any_of HT_.out (by kernel_rfl)) (fun _ _ _ h => h) (Or.inr ⟨by rfl,rfl⟩) ?_ ?_;rotate_left
      ·simp only [wf_preprocess];rfl
      refine pure_ (i := 21) (N := some 31) (v := undef) (a' := ?_) #[true,true,true,true,true,true,true,true,true,true,true,true,true,true,true,true,true,true,true,true,true,true,false,false] rfl rfl (any_of HT_.out (by kernel_rfl)) (fun _ _ _ h => h) (Or.inr ⟨by rfl,rfl⟩) ?_ ?_;rotate_left
      ·simp only [wf_preprocess];rfl
      refine pure_ (i := 22) (N := some 32) (v := undef) (a' := ?_) #[true,true,true,true,true,true,true,true,true,true,true,true,true,true,true,true,true,true,true,true,true,true,true,false] rfl rfl (any_of HT_.out (by kernel_rfl)) (fun _ _ _ h => h) (Or.inr ⟨by rfl,rfl⟩) ?_ ?_;rotate_left
      ·simp only [wf_preprocess];rfl
      refine pure_ (i := 23) (N := some 33) (v := ?_) (a' := ?_) #[true,true,true,true,true,true,true,true,true,true,true,true,true,true,true,true,true,true,true,true,true,true,true,true] rfl rfl (any_of HT_.out (by kernel_rfl)) (fun _ _ _ h => h) (Or.inl ⟨by rfl,?_⟩) ?_ ?_;rotate_left
      ·intro w';go_simp;with_reducible rfl
      rotate_left
      ·simp only [wf_preprocess];rfl
      refine done_ (done_of HT_.out (by kernel_rfl)) ?_
      try go_wp2
      go_ret;exact ⟨by rfl,HB.out⟩
    ·rw [if_neg c3] at H;exact absurd H (by simp)
   ·rw [if_neg c2] at H;have c2b0 : decide (x3_1 < (l0.length : Int)) = false := decide_eq_false c2;clear c2
    by_cases c19 : (l0.length : Int) ≤ 12
    ·rw [if_pos c19] at H;have c19b0 : decide ((l0.length : Int) ≤ 12) = true := decide_eq_true c19;have c19b1 : decide (l0.length ≤ 12) = true := decide_eq_true (by omega);clear c19;replace H := Option.bind_eq_some_iff.mp H;obtain ⟨t253,A200,H⟩ := H;replace H : (some (decide (t253 ≤ 1000000))) = some r := H;have A20 := Aside0.mk A200;clear A200;obtain rfl := Option.some.inj H
     go_wp2_with ((go_at_call 124; (with_reducible refine (spec_Wealth.calls k1 _ _ l0 t253 _ ?side1 ?side2 A20.out).mono ?_); (case side1 => repeat (exact (Kd.C_below HR0.out HB.out))); (case side2 => exact HC0.out); rintro e w21 ⟨rfl,hb⟩; have n0_ := Aside0.mk (below_step HB.out hb); clear HB; have HB := n0_; clear n0_; (try clear hb); skip))
     go_ret;exact ⟨by rfl,HB.out⟩
    ·rw [if_neg c19] at H;have c19b0 : decide ((l0.length : Int) ≤ 12) = false := decide_eq_false c19;have c19b1 : decide (l0.length ≤ 12) = false := decide_eq_false (by omega);clear c19;obtain rfl := Option.some.inj H;go_wp2;go_ret;exact ⟨by rfl,HB.out⟩

end Go.Proofs.Ytcbpfofkdipjhaa.PJ
