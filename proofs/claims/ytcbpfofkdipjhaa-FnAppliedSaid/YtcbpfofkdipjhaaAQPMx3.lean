/- The machine's side of Go functions: each as a plain function,and that the call does what it says. Written by a program (wip/mprint). -/
import Derived.Test.YtcbpfofkdipjhaaAQPMx0
import Derived.Test.YtcbpfofkdipjhaaAQPMx1
import Derived.Test.YtcbpfofkdipjhaaAQPMx2
namespace Go.Proofs.Ytcbpfofkdipjhaa.PM
open Go.RowKit Go.Proofs.YtcbpfofkdipjhaaW.PrintWords Go.Proofs.YtcbpfofkdipjhaaW.PrintLast Go.Proofs.YtcbpfofkdipjhaaW.PrintMore
attribute [local wf_preprocess] Act.put List.setIfInBounds_toArray List.set_cons_zero List.set_cons_succ i64_w i32_w
attribute [local go_sem] max2_int min2_int max_two min_two max_three min_three max_four min_four   -- for this text's walks alone
set_option linter.unusedVariables false
set_option linter.unusedSimpArgs false

/-! ### spec_AcctsOk: function 89 -/
def spec_AcctsOk.l0 : Nat → List (S63) → Int → Option (Bool)
 | 0,_,_ => none
 | k + 1,x0,x3 => if x3 < (x0.length : Int) then (if 0 ≤ x3 then ((spec_AcctOk.f k ((rd_T63 x0 x3).f0) ((rd_T63 x0 x3).f1) ((rd_T63 x0 x3).f2) ((rd_T63 x0 x3).f3) ((rd_T63 x0 x3).f4)).bind fun t119 => (if t119 = true then (if x3 > 0 then (if 0 ≤ (wrap64 (x3 - 1)) then (if (wrap64 (x3 - 1)) < (x0.length : Int) then (if ((Op.bytesLess (((rd_T63 x0 (wrap64 (x3 - 1))).f0).toList) (((rd_T63 x0 x3).f0).toList)) = true) then (spec_AcctsOk.l0 k x0 (wrap64 (x3 + 1))) else (some false)) else (none)) else (none)) else (spec_AcctsOk.l0 k x0 (wrap64 (x3 + 1)))) else (some false))) else (none)) else (if (x0.length : Int) ≤ 12 then ((spec_Wealth.f k x0).bind fun t122 => (some (decide (t122 ≤ 1000000)))) else (some false))
def spec_AcctsOk.f (k : Nat) (l0 : List (S63)) : Option (Bool) := spec_AcctsOk.l0 k l0 0
def spec_AcctsOk.T4 : Bool × List (List Nat × List Nat) := (true,[([],[]),([],[]),([0,1],[0,1]),([2],[2]),([3],[3]),([4],[4]),([5,4],[5]),([6],[6]),([7,6],[6,7]),([8,6,6],[6,8]),([9],[9]),([9],[9]),([11,9],[9,11]),([10,12,9],[9,10,12]),([13,9],[9,13]),([14,9],[9,14]),([9],[9]),([9],[9]),([16,17,9],[9,16,17]),([18,9],[9,18]),([19,9],[9,19]),([15,20,9],[9,15,20]),([9,21,6],[6,9,21]),([6,22],[6,22])])
def spec_AcctsOk.B4 : List Nat := [0,0,3,7,15,31,63,127,255,511,1023,1023,3071,8191,16383,32767,1023,1023,197631,459775,984063,2097151,4194303,8388607]
theorem spec_AcctsOk.tab4 : rtab .any (opsOf Try.f89 4) = spec_AcctsOk.T4 := by kernel_rfl
theorem spec_AcctsOk.bits4 : waitsOk spec_AcctsOk.T4.2 spec_AcctsOk.B4 = true := by kernel_rfl
set_option maxHeartbeats 8000000 in
set_option maxRecDepth 100000 in
theorem spec_AcctsOk.calls (k : Nat) (A0 : Option Addr) (c0 : Nat) (l0 : List (S63)) (r : Bool) (w : World) (hr0 : Kd.C k63 w A0 l0.length l0) (hc0 : l0.length ≤ c0) (h : spec_AcctsOk.f k l0 = some r) :
  Calls Try.prog 89 #[.slice A0 l0.length c0] w fun e w' => e = .returned (.bool r) ∧ Below w.heap.size w w' := by
 have hu63 := Try.underlying63;have HR0 := Aside0.mk hr0;have HC0 := Aside0.mk hc0;clear hr0 hc0;have HB := Aside0.mk (Below.refl w.heap.size w);have H : (spec_AcctsOk.l0 k l0 0) = some r := h;clear h;have H' := Aside0.mk H;clear H;go_enter Try.func89,Try.ntmps89;go_wp2
 go_loopg [3] k (fun kq v3 w' => ∃ (x3_1 : Int),v3 = .int .i64 x3_1 ∧ Aside0 (spec_AcctsOk.l0 kq l0 x3_1 = some r) ∧ Aside0 (kq ≤ k) ∧ Aside0 (Below w.heap.size w w'))
 case atStart => exact ⟨(0),(by rfl),H',⟨Nat.le_refl _⟩,⟨HB.out⟩⟩
 case round =>
  clear H';obtain ⟨x3_1,rfl,HA,HK1,HB⟩ := hrel
  cases gk with
  | zero => exact absurd HA.out (by simp [spec_AcctsOk.l0])
  | succ k1 =>
   have H := HA.out;clear HA;simp only [spec_AcctsOk.l0] at H
   by_cases c2 : x3_1 < (l0.length : Int)
   ·rw [if_pos c2] at H;have c2b0 : decide (x3_1 < (l0.length : Int)) = true := decide_eq_true c2;clear c2
    by_cases c3 : 0 ≤ x3_1
    ·rw [if_pos c3] at H;have c3b0 : decide (0 ≤ x3_1) = true := decide_eq_true c3;clear c3;replace H := Option.bind_eq_some_iff.mp H;obtain ⟨t119,A40,H⟩ := H;replace H : (if t119 = true then (if x3_1 > 0 then (if 0 ≤ (wrap64 (x3_1 - 1)) then (if (wrap64 (x3_1 - 1)) < (l0.length : Int) then (if ((Op.bytesLess (((rd_T63 l0 (wrap64 (x3_1 - 1))).f0).toList) (((rd_T63 l0 x3_1).f0).toList)) = true) then (spec_AcctsOk.l0 k1 l0 (wrap64 (x3_1 + 1))) else (some false)) else (none)) else (none)) else (spec_AcctsOk.l0 k1 l0 (wrap64 (x3_1 + 1)))) else (some false)) = some r := H;have A4 := Aside0.mk A40;clear A40
     by_cases c5 : t119 = true
     ·subst c5
      rw [if_pos rfl] at H
      by_cases c6 : x3_1 > 0
      ·rw [if_pos c6] at H;have c6b0 : decide (0 < x3_1) = true := decide_eq_true c6;clear c6;obtain ⟨ji7,hji7⟩ : ∃ j_ : Int,(wrap64 (x3_1 - 1)) = j_ := ⟨_,rfl⟩
       replace H : (if 0 ≤ (ji7) then (if (ji7) < (l0.length : Int) then (if ((Op.bytesLess (((rd_T63 l0 (ji7)).f0).toList) (((rd_T63 l0 x3_1).f0).toList)) = true) then (spec_AcctsOk.l0 k1 l0 (wrap64 (x3_1 + 1))) else (some false)) else (none)) else (none)) = some r := by (rw [hji7] at H; exact H)
       skip
       have hji7w : (IntKind.i64.wrap (x3_1 - 1)) = ji7 := (i64_w _).trans hji7
       by_cases c8 : 0 ≤ (ji7)
       ·rw [if_pos c8] at H;have c8b0 : decide (0 ≤ (ji7)) = true := decide_eq_true c8;clear c8
        by_cases c9 : (ji7) < (l0.length : Int)
        ·rw [if_pos c9] at H;have c9b0 : decide ((ji7) < (l0.length : Int)) = true := decide_eq_true c9;clear c9
         by_cases c10 : ((Op.bytesLess (((rd_T63 l0 (ji7)).f0).toList) (((rd_T63 l0 x3_1).f0).toList)) = true)
         ·rw [if_pos c10] at H;have c10b0 : (Op.bytesLess (((rd_T63 l0 (ji7)).f0).toList) (((rd_T63 l0 x3_1).f0).toList)) = true := c10;clear c10;have H' := Aside0.mk H;clear H
          try go_wp2
          have n0_ := Aside0.mk (below_drew1 HB.out);clear HB;have HB := n0_;clear n0_;have p118 : 0 ≤ (x3_1 : Int) := of_decide_eq_true (by (with_reducible assumption));have q118 : x3_1 < (l0.length : Int) := of_decide_eq_true (by (with_reducible assumption));obtain ⟨ad118,A118_4,c118_4,e118,hx118_0,hx118_1,hx118_2,hx118_3,hx118_4,hl118_4,hi118_4⟩ := at_T63 HR0.out x3_1 p118 q118;have hw118_4 := hx118_4;have hw118_3 := hx118_3;have hw118_2 := hx118_2;have hw118_1 := hx118_1;have hw118_0 := hx118_0
          cases e118
          replace hx118_0 := up_ HB.out hx118_0;replace hx118_1 := up_ HB.out hx118_1;replace hx118_2 := up_ HB.out hx118_2;replace hx118_3 := up_ HB.out hx118_3;replace hx118_4 := up_ HB.out hx118_4;have HR118_4 := Aside0.mk hi118_4;have HC118_4 := Aside0.mk hl118_4;clear hi118_4 hl118_4;replace p118 := eq_true p118;replace q118 := eq_true q118;have p120 : 0 ≤ ((ji7) : Int) := of_decide_eq_true (by (with_reducible assumption));have q120 : (ji7) < (l0.length : Int) := of_decide_eq_true (by (with_reducible assumption));obtain ⟨ad120,A120_4,c120_4,e120,hx120_0,hx120_1,hx120_2,hx120_3,hx120_4,hl120_4,hi120_4⟩ := at_T63 HR0.out (ji7) p120 q120;have hw120_4 := hx120_4;have hw120_3 := hx120_3;have hw120_2 := hx120_2;have hw120_1 := hx120_1;have hw120_0 := hx120_0;obtain rfl : ad118 = ad120 := (by injection e120);replace hx120_0 := up_ HB.out hx120_0;replace hx120_1 := up_ HB.out hx120_1;replace hx120_2 := up_ HB.out hx120_2;replace hx120_3 := up_ HB.out hx120_3;replace hx120_4 := up_ HB.out hx120_4;have HR120_4 := Aside0.mk hi120_4;have HC120_4 := Aside0.mk hl120_4;clear hi120_4 hl120_4;replace p120 := eq_true p120;replace q120 := eq_true q120;have p121 : 0 ≤ (x3_1 : Int) := of_decide_eq_true (by (with_reducible assumption));have q121 : x3_1 < (l0.length : Int) := of_decide_eq_true (by (with_reducible assumption));obtain ⟨ad121,A121_4,c121_4,e121,hx121_0,hx121_1,hx121_2,hx121_3,hx121_4,hl121_4,hi121_4⟩ := at_T63 HR0.out x3_1 p121 q121;have hw121_4 := hx121_4;have hw121_3 := hx121_3;have hw121_2 := hx121_2;have hw121_1 := hx121_1;have hw121_0 := hx121_0;obtain rfl : ad118 = ad121 := (by injection e121);replace hx121_0 := up_ HB.out hx121_0;replace hx121_1 := up_ HB.out hx121_1;replace hx121_2 := up_ HB.out hx121_2;replace hx121_3 := up_ HB.out hx121_3;replace hx121_4 := up_ HB.out hx121_4;have HR121_4 := Aside0.mk hi121_4;have HC121_4 := Aside0.mk hl121_4;clear hi121_4 hl121_4;replace p121 := eq_true p121;replace q121 := eq_true q121;refine start_ (n := 24) (S := fun w' => w'.cell? (ad118.add ((x3_1).toNat * 5)) = some (.string ((rd_T63 l0 x3_1).f0)) ∧ w'.cell? ⟨(ad118.add ((x3_1).toNat * 5)).block,(ad118.add ((x3_1).toNat * 5)).off + 1,none⟩ = some (.int .i64 ((rd_T63 l0 x3_1).f1)) ∧ w'.cell? ⟨(ad118.add ((x3_1).toNat * 5)).block,(ad118.add ((x3_1).toNat * 5)).off + 2,none⟩ = some (.int .i64 ((rd_T63 l0 x3_1).f2)) ∧ w'.cell? ⟨(ad118.add ((x3_1).toNat * 5)).block,(ad118.add ((x3_1).toNat * 5)).off + 3,none⟩ = some (.int .i64 ((rd_T63 l0 x3_1).f3)) ∧ w'.cell? ⟨(ad118.add ((x3_1).toNat * 5)).block,(ad118.add ((x3_1).toNat * 5)).off + 4,none⟩ = some (.slice A118_4 ((rd_T63 l0 x3_1).f4).length c118_4) ∧ w'.cell? (ad118.add ((ji7).toNat * 5)) = some (.string ((rd_T63 l0 (ji7)).f0)) ∧ w'.cell? ⟨(ad118.add ((ji7).toNat * 5)).block,(ad118.add ((ji7).toNat * 5)).off + 1,none⟩ = some (.int .i64 ((rd_T63 l0 (ji7)).f1)) ∧ w'.cell? ⟨(ad118.add ((ji7).toNat * 5)).block,(ad118.add ((ji7).toNat * 5)).off + 2,none⟩ = some (.int .i64 ((rd_T63 l0 (ji7)).f2)) ∧ w'.cell? ⟨(ad118.add ((ji7).toNat * 5)).block,(ad118.add ((ji7).toNat * 5)).off + 3,none⟩ = some (.int .i64 ((rd_T63 l0 (ji7)).f3)) ∧ w'.cell? ⟨(ad118.add ((ji7).toNat * 5)).block,(ad118.add ((ji7).toNat * 5)).off + 4,none⟩ = some (.slice A120_4 ((rd_T63 l0 (ji7)).f4).length c120_4) ∧ w'.cell? (ad118.add ((x3_1).toNat * 5)) = some (.string ((rd_T63 l0 x3_1).f0)) ∧ w'.cell? ⟨(ad118.add ((x3_1).toNat * 5)).block,(ad118.add ((x3_1).toNat * 5)).off + 1,none⟩ = some (.int .i64 ((rd_T63 l0 x3_1).f1)) ∧ w'.cell? ⟨(ad118.add ((x3_1).toNat * 5)).block,(ad118.add ((x3_1).toNat * 5)).off + 2,none⟩ = some (.int .i64 ((rd_T63 l0 x3_1).f2)) ∧ w'.cell? ⟨(ad118.add ((x3_1).toNat * 5)).block,(ad118.add ((x3_1).toNat * 5)).off + 3,none⟩ = some (.int .i64 ((rd_T63 l0 x3_1).f3)) ∧ w'.cell? ⟨(ad118.add ((x3_1).toNat * 5)).block,(ad118.add ((x3_1).toNat * 5)).off + 4,none⟩ = some (.slice A121_4 ((rd_T63 l0 x3_1).f4).length c121_4)) (ds := []) #[false,false,false,false,false,false,false,false,false,false,false,false,false,false,false,false,false,false,false,false,false,false,false,false] (by kernel_rfl) rfl rfl ⟨(up_ HB.out hw118_0),(up_ HB.out hw118_1),(up_ HB.out hw118_2),(up_ HB.out hw118_3),(up_ HB.out hw118_4),(up_ HB.out hw120_0),(up_ HB.out hw120_1),(up_ HB.out hw120_2),(up_ HB.out hw120_3),(up_ HB.out hw120_4),(up_ HB.out hw121_0),(up_ HB.out hw121_1),(up_ HB.out hw121_2),(up_ HB.out hw121_3),(up_ HB.out hw121_4)⟩ (fun hHeld => ?_); refine with_tabW spec_AcctsOk.tab4 spec_AcctsOk.bits4 (fun HT_ HW_ => ?_)
          generalize wr.drew = w11 at HB HR118_4 HR120_4 HR121_4 hx118_0 hx118_1 hx118_2 hx118_3 hx118_4 hx120_0 hx120_1 hx120_2 hx120_3 hx120_4 hx121_0 hx121_1 hx121_2 hx121_3 hx121_4 hHeld ⊢
          refine pure_ (i := 0) (N := some 10) (v := ?_) (a' := ?_) #[true,false,false,false,false,false,false,false,false,false,false,false,false,false,false,false,false,false,false,false,false,false,false,false] rfl rfl (any_of HT_.out (by kernel_rfl)) (fun _ _ _ h => h) (Or.inl ⟨by rfl,?_⟩) ?_ ?_;rotate_left
          ·intro w';go_simp;with_reducible rfl
          rotate_left
          ·simp only [wf_preprocess];rfl
          refine pure_ (i := 1) (N := some 11) (v := ?_) (a' := ?_) #[true,true,false,false,false,false,false,false,false,false,false,false,false,false,false,false,false,false,false,false,false,false,false,false] rfl rfl (any_of HT_.out (by kernel_rfl)) (fun _ _ _ h => h) (Or.inl ⟨by rfl,?_⟩) ?_ ?_;rotate_left
          ·intro w';go_simp;with_reducible rfl
          rotate_left
          ·simp only [wf_preprocess];rfl
          refine pure_ (i := 2) (N := some 12) (v := ?_) (a' := ?_) #[true,true,true,false,false,false,false,false,false,false,false,false,false,false,false,false,false,false,false,false,false,false,false,false] rfl rfl (any_of HT_.out (by kernel_rfl)) (fun _ _ _ h => h) (Or.inl ⟨by rfl,?_⟩) ?_ ?_;rotate_left
          ·intro w';go_simp;with_reducible rfl
          rotate_left
          ·simp only [wf_preprocess];rfl
          refine take_ (i := 3) (N := some 13) (v := ?_) (a' := ?_) #[true,true,true,true,false,false,false,false,false,false,false,false,false,false,false,false,false,false,false,false,false,false,false,false] rfl rfl (take_ofW HT_.out HW_.out (by kernel_rfl)) (fun _ _ _ h => h) (Or.inl ⟨by rfl,?_⟩) hHeld ?_ ?_;rotate_left
          ·rintro w' ⟨s0,s1,s2,s3,s4,s5,s6,s7,s8,s9,s10,s11,s12,s13,s14⟩;go_simp;with_reducible rfl
          rotate_left
          ·simp only [wf_preprocess];rfl
          refine one_ (i := 4) (N := some 14) #[true,true,true,true,true,false,false,false,false,false,false,false,false,false,false,false,false,false,false,false,false,false,false,false] rfl rfl (one_of HT_.out (by kernel_rfl)) (by decide) (fun K hK => ?_);refine goes_ Try.func123 (by kernel_rfl) rfl #[.agg #[.string ((rd_T63 l0 x3_1).f0),.int .i64 ((rd_T63 l0 x3_1).f1),.int .i64 ((rd_T63 l0 x3_1).f2),.int .i64 ((rd_T63 l0 x3_1).f3),.slice A118_4 ((rd_T63 l0 x3_1).f4).length c118_4]] (by rfl) rfl rfl (by (try simp only [List.map_toArray,List.map_cons,List.map_nil]); rfl) ?_
          with_reducible refine (spec_AcctOk.calls k1 ((rd_T63 l0 x3_1).f0) ((rd_T63 l0 x3_1).f1) ((rd_T63 l0 x3_1).f2) ((rd_T63 l0 x3_1).f3) _ _ ((rd_T63 l0 x3_1).f4) true _ ?side1 ?side2 A4.out).mono ?_
          (case side1 => repeat (exact (Kd.C_below HR118_4.out HB.out)))
          (case side2 => exact HC118_4.out)
          rintro e w12 ⟨rfl,hb⟩;refine ⟨_,rfl,?_⟩;have n0_ := Aside0.mk (below_step HB.out hb);clear HB;have HB := n0_;clear n0_
          (try clear hb)
          skip
          skip
          skip
          refine hK.out _ _ ⟨(up_ HB.out hw118_0),(up_ HB.out hw118_1),(up_ HB.out hw118_2),(up_ HB.out hw118_3),(up_ HB.out hw118_4),(up_ HB.out hw120_0),(up_ HB.out hw120_1),(up_ HB.out hw120_2),(up_ HB.out hw120_3),(up_ HB.out hw120_4),(up_ HB.out hw121_0),(up_ HB.out hw121_1),(up_ HB.out hw121_2),(up_ HB.out hw121_3),(up_ HB.out hw121_4)⟩ (fun hHeld => ?_);clear hK K;refine norm_ (a' := ?_) ?_ ?_;rotate_left
          ·show Act.put _ (some 14) _ = _
           simp only [wf_preprocess];rfl
          refine pure_ (i := 5) (N := some 15) (v := ?_) (a' := ?_) #[true,true,true,true,true,true,false,false,false,false,false,false,false,false,false,false,false,false,false,false,false,false,false,false] rfl rfl (any_of HT_.out (by kernel_rfl)) (fun _ _ _ h => h) (Or.inl ⟨by rfl,?_⟩) ?_ ?_;rotate_left
          ·intro w';go_simp;with_reducible rfl
          rotate_left
          ·simp only [wf_preprocess];rfl
          refine pure_ (i := 6) (N := some 16) (v := ?_) (a' := ?_) #[true,true,true,true,true,true,true,false,false,false,false,false,false,false,false,false,false,false,false,false,false,false,false,false] rfl rfl (any_of HT_.out (by kernel_rfl)) (fun _ _ _ h => h) (Or.inl ⟨by rfl,?_⟩) ?_ ?_;rotate_left
          ·intro w';go_simp;with_reducible rfl
          rotate_left
          ·simp only [wf_preprocess];rfl
          refine pure_ (i := 7) (N := some 17) (v := ?_) (a' := ?_) #[true,true,true,true,true,true,true,true,false,false,false,false,false,false,false,false,false,false,false,false,false,false,false,false] rfl rfl (any_of HT_.out (by kernel_rfl)) (fun _ _ _ h => h) (Or.inl ⟨by rfl,?_⟩) ?_ ?_;rotate_left
          ·intro w';go_simp;with_reducible rfl
          rotate_left
          ·simp only [wf_preprocess];rfl
          refine pure_ (i := 8) (N := some 18) (v := ?_) (a' := ?_) #[true,true,true,true,true,true,true,true,true,false,false,false,false,false,false,false,false,false,false,false,false,false,false,false] rfl rfl (any_of HT_.out (by kernel_rfl)) (fun _ _ _ h => h) (Or.inl ⟨by rfl,?_⟩) ?_ ?_;rotate_left
          ·intro w';go_simp;with_reducible rfl
          rotate_left
          ·simp only [wf_preprocess];rfl
          refine pure_ (i := 9) (N := some 19) (v := ?_) (a' := ?_) #[true,true,true,true,true,true,true,true,true,true,false,false,false,false,false,false,false,false,false,false,false,false,false,false] rfl rfl (any_of HT_.out (by kernel_rfl)) (fun _ _ _ h => h) (Or.inl ⟨by rfl,?_⟩) ?_ ?_;rotate_left
          ·intro w';go_simp;with_reducible rfl
          rotate_left
          ·simp only [wf_preprocess];rfl
          refine pure_ (i := 10) (N := some 20) (v := ?_) (a' := ?_) #[true,true,true,true,true,true,true,true,true,true,true,false,false,false,false,false,false,false,false,false,false,false,false,false] rfl rfl (any_of HT_.out (by kernel_rfl)) (fun _ _ _ h => h) (Or.inl ⟨by rfl,?_⟩) ?_ ?_;rotate_left
          ·intro w';go_simp;with_reducible rfl
          rotate_left
          ·simp only [wf_preprocess];rfl
          refine pure_ (i := 11) (N := some 21) (v := ?_) (a' := ?_) #[true,true,true,true,true,true,true,true,true,true,true,true,false,false,false,false,false,false,false,false,false,false,false,false] rfl rfl (any_of HT_.out (by kernel_rfl)) (fun _ _ _ h => h) (Or.inl ⟨by rfl,?_⟩) ?_ ?_;rotate_left
          ·intro w';go_simp;with_reducible rfl
          rotate_left
          ·simp only [wf_preprocess];rfl
          refine pure_ (i := 12) (N := some 22) (v := ?_) (a' := ?_) #[true,true,true,true,true,true,true,true,true,true,true,true,true,false,false,false,false,false,false,false,false,false,false,false] rfl rfl (any_of HT_.out (by kernel_rfl)) (fun _ _ _ h => h) (Or.inl ⟨by rfl,?_⟩) ?_ ?_;rotate_left
          ·intro w';go_simp;with_reducible rfl
          rotate_left
          ·simp only [wf_preprocess];rfl
          refine pure_ (i := 13) (N := some 23) (v := ?_) (a' := ?_) #[true,true,true,true,true,true,true,true,true,true,true,true,true,true,false,false,false,false,false,false,false,false,false,false] rfl rfl (any_of HT_.out (by kernel_rfl)) (fun _ _ _ h => h) (Or.inl ⟨by rfl,?_⟩) ?_ ?_;rotate_left
          ·intro w';go_simp;with_reducible rfl
          rotate_left
          ·simp only [wf_preprocess];rfl
          refine pure_ (i := 14) (N := some 24) (v := ?_) (a' := ?_) #[true,true,true,true,true,true,true,true,true,true,true,true,true,true,true,false,false,false,false,false,false,false,false,false] rfl rfl (any_of HT_.out (by kernel_rfl)) (fun _ _ _ h => h) (Or.inl ⟨by rfl,?_⟩) ?_ ?_;rotate_left
          ·intro w';go_simp;with_reducible rfl
          rotate_left
          ·simp only [wf_preprocess];rfl
          refine pure_ (i := 16) (N := some 26) (v := ?_) (a' := ?_) #[true,true,true,true,true,true,true,true,true,true,true,true,true,true,true,false,true,false,false,false,false,false,false,false] rfl rfl (any_of HT_.out (by kernel_rfl)) (fun _ _ _ h => h) (Or.inl ⟨by rfl,?_⟩) ?_ ?_;rotate_left
          ·intro w';go_simp;with_reducible rfl
          rotate_left
          ·simp only [wf_preprocess];rfl
          refine pure_ (i := 17) (N := some 27) (v := ?_) (a' := ?_) #[true,true,true,true,true,true,true,true,true,true,true,true,true,true,true,false,true,true,false,false,false,false,false,false] rfl rfl (any_of HT_.out (by kernel_rfl)) (fun _ _ _ h => h) (Or.inl ⟨by rfl,?_⟩) ?_ ?_;rotate_left
          ·intro w';go_simp;with_reducible rfl
          rotate_left
          ·simp only [wf_preprocess];rfl
          refine pure_ (i := 18) (N := some 28) (v := ?_) (a' := ?_) #[true,true,true,true,true,true,true,true,true,true,true,true,true,true,true,false,true,true,true,false,false,false,false,false] rfl rfl (any_of HT_.out (by kernel_rfl)) (fun _ _ _ h => h) (Or.inl ⟨by rfl,?_⟩) ?_ ?_;rotate_left
          ·intro w';go_simp;with_reducible rfl
          rotate_left
          ·simp only [wf_preprocess];rfl
          refine pure_ (i := 19) (N := some 29) (v := ?_) (a' := ?_) #[true,true,true,true,true,true,true,true,true,true,true,true,true,true,true,false,true,true,true,true,false,false,false,false] rfl rfl (any_of HT_.out (by kernel_rfl)) (fun _ _ _ h => h) (Or.inl ⟨by rfl,?_⟩) ?_ ?_;rotate_left
          ·intro w';go_simp;with_reducible rfl
          rotate_left
          ·simp only [wf_preprocess];rfl
          refine take_ (i := 15) (N := some 25) (v := ?_) (a' := ?_) #[true,true,true,true,true,true,true,true,true,true,true,true,true,true,true,true,true,true,true,true,false,false,false,false] rfl rfl (take_ofW HT_.out HW_.out (by kernel_rfl)) (fun _ _ _ h => h) (Or.inl ⟨by rfl,?_⟩) hHeld ?_ ?_;rotate_left
          ·rintro w' ⟨s0,s1,s2,s3,s4,s5,s6,s7,s8,s9,s10,s11,s12,s13,s14⟩;go_simp;with_reducible rfl
          rotate_left
          ·simp only [wf_preprocess];rfl
          refine take_ (i := 20) (N := some 30) (v := ?_) (a' := ?_) #[true,true,true,true,true,true,true,true,true,true,true,true,true,true,true,true,true,true,true,true,true,false,false,false] rfl rfl (take_ofW HT_.out HW_.out (by kernel_rfl)) (fun _ _ _ h => h) (Or.inl ⟨by rfl,?_⟩) hHeld ?_ ?_;rotate_left
          ·rintro w' ⟨s0,s1,s2,s3,s4,s5,s6,s7,s8,s9,s10,s11,s12,s13,s14⟩;go_simp;with_reducible rfl
          rotate_left
          ·simp only [wf_preprocess];rfl
          refine pure_ (i := 21) (N := some 31) (v := ?_) (a' := ?_) #[true,true,true,true,true,true,true,true,true,true,true,true,true,true,true,true,true,true,true,true,true,true,false,false] rfl rfl (any_of HT_.out (by kernel_rfl)) (fun _ _ _ h => h) (Or.inl ⟨by rfl,?_⟩) ?_ ?_;rotate_left
          ·intro w';go_simp;with_reducible rfl
          rotate_left
          ·simp only [wf_preprocess];rfl
          refine pure_ (i := 22) (N := some 32) (v := ?_) (a' := ?_) #[true,true,true,true,true,true,true,true,true,true,true,true,true,true,true,true,true,true,true,true,true,true,true,false] rfl rfl (any_of HT_.out (by kernel_rfl)) (fun _ _ _ h => h) (Or.inl ⟨by rfl,?_⟩) ?_ ?_;rotate_left
          ·intro w';go_simp;with_reducible rfl
          rotate_left
          ·simp only [wf_preprocess];rfl
          refine pure_ (i := 23) (N := some 33) (v := ?_) (a' := ?_) #[true,true,true,true,true,true,true,true,true,true,true,true,true,true,true,true,true,true,true,true,true,true,true,true] rfl rfl (any_of HT_.out (by kernel_rfl)) (fun _ _ _ h => h) (Or.inl ⟨by rfl,?_⟩) ?_ ?_;rotate_left
          ·intro w';go_simp;with_reducible rfl
          rotate_left
          ·simp only [wf_preprocess];rfl
          refine done_ (done_of HT_.out (by kernel_rfl)) ?_
          try go_wp2
          go_roundg k1
          case measure => have := HK1.out; omega
          case rel => exact ⟨(wrap64 (x3_1 + 1)),(by rfl),H',⟨by have := HK1.out; omega⟩,⟨HB.out⟩⟩
         ·rw [if_neg c10] at H
          have c10b0 : (Op.bytesLess (((rd_T63 l0 (ji7)).f0).toList) (((rd_T63 l0 x3_1).f0).toList)) = false := by simpa using c10
          clear c10;obtain rfl := Option.some.inj H
          try go_wp2
          have n0_ := Aside0.mk (below_drew1 HB.out);clear HB;have HB := n0_;clear n0_;have p118 : 0 ≤ (x3_1 : Int) := of_decide_eq_true (by (with_reducible assumption));have q118 : x3_1 < (l0.length : Int) := of_decide_eq_true (by (with_reducible assumption));obtain ⟨ad118,A118_4,c118_4,e118,hx118_0,hx118_1,hx118_2,hx118_3,hx118_4,hl118_4,hi118_4⟩ := at_T63 HR0.out x3_1 p118 q118;have hw118_4 := hx118_4;have hw118_3 := hx118_3;have hw118_2 := hx118_2;have hw118_1 := hx118_1;have hw118_0 := hx118_0
          cases e118
          replace hx118_0 := up_ HB.out hx118_0;replace hx118_1 := up_ HB.out hx118_1;replace hx118_2 := up_ HB.out hx118_2;replace hx118_3 := up_ HB.out hx118_3;replace hx118_4 := up_ HB.out hx118_4;have HR118_4 := Aside0.mk hi118_4;have HC118_4 := Aside0.mk hl118_4;clear hi118_4 hl118_4;replace p118 := eq_true p118;replace q118 := eq_true q118;have p120 : 0 ≤ ((ji7) : Int) := of_decide_eq_true (by (with_reducible assumption));have q120 : (ji7) < (l0.length : Int) := of_decide_eq_true (by (with_reducible assumption));obtain ⟨ad120,A120_4,c120_4,e120,hx120_0,hx120_1,hx120_2,hx120_3,hx120_4,hl120_4,hi120_4⟩ := at_T63 HR0.out (ji7) p120 q120;have hw120_4 := hx120_4;have hw120_3 := hx120_3;have hw120_2 := hx120_2;have hw120_1 := hx120_1;have hw120_0 := hx120_0;obtain rfl : ad118 = ad120 := (by injection e120);replace hx120_0 := up_ HB.out hx120_0;replace hx120_1 := up_ HB.out hx120_1;replace hx120_2 := up_ HB.out hx120_2;replace hx120_3 := up_ HB.out hx120_3;replace hx120_4 := up_ HB.out hx120_4;have HR120_4 := Aside0.mk hi120_4;have HC120_4 := Aside0.mk hl120_4;clear hi120_4 hl120_4;replace p120 := eq_true p120;replace q120 := eq_true q120;have p121 : 0 ≤ (x3_1 : Int) := of_decide_eq_true (by (with_reducible assumption));have q121 : x3_1 < (l0.length : Int) := of_decide_eq_true (by (with_reducible assumption));obtain ⟨ad121,A121_4,c121_4,e121,hx121_0,hx121_1,hx121_2,hx121_3,hx121_4,hl121_4,hi121_4⟩ := at_T63 HR0.out x3_1 p121 q121;have hw121_4 := hx121_4;have hw121_3 := hx121_3;have hw121_2 := hx121_2;have hw121_1 := hx121_1;have hw121_0 := hx121_0;obtain rfl : ad118 = ad121 := (by injection e121);replace hx121_0 := up_ HB.out hx121_0;replace hx121_1 := up_ HB.out hx121_1;replace hx121_2 := up_ HB.out hx121_2;replace hx121_3 := up_ HB.out hx121_3;replace hx121_4 := up_ HB.out hx121_4;have HR121_4 := Aside0.mk hi121_4;have HC121_4 := Aside0.mk hl121_4;clear hi121_4 hl121_4;replace p121 := eq_true p121;replace q121 := eq_true q121;refine start_ (n := 24) (S := fun w' => w'.cell? (ad118.add ((x3_1).toNat * 5)) = some (.string ((rd_T63 l0 x3_1).f0)) ∧ w'.cell? ⟨(ad118.add ((x3_1).toNat * 5)).block,(ad118.add ((x3_1).toNat * 5)).off + 1,none⟩ = some (.int .i64 ((rd_T63 l0 x3_1).f1)) ∧ w'.cell? ⟨(ad118.add ((x3_1).toNat * 5)).block,(ad118.add ((x3_1).toNat * 5)).off + 2,none⟩ = some (.int .i64 ((rd_T63 l0 x3_1).f2)) ∧ w'.cell? ⟨(ad118.add ((x3_1).toNat * 5)).block,(ad118.add ((x3_1).toNat * 5)).off + 3,none⟩ = some (.int .i64 ((rd_T63 l0 x3_1).f3)) ∧ w'.cell? ⟨(ad118.add ((x3_1).toNat * 5)).block,(ad118.add ((x3_1).toNat * 5)).off + 4,none⟩ = some (.slice A118_4 ((rd_T63 l0 x3_1).f4).length c118_4) ∧ w'.cell? (ad118.add ((ji7).toNat * 5)) = some (.string ((rd_T63 l0 (ji7)).f0)) ∧ w'.cell? ⟨(ad118.add ((ji7).toNat * 5)).block,(ad118.add ((ji7).toNat * 5)).off + 1,none⟩ = some (.int .i64 ((rd_T63 l0 (ji7)).f1)) ∧ w'.cell? ⟨(ad118.add ((ji7).toNat * 5)).block,(ad118.add ((ji7).toNat * 5)).off + 2,none⟩ = some (.int .i64 ((rd_T63 l0 (ji7)).f2)) ∧ w'.cell? ⟨(ad118.add ((ji7).toNat * 5)).block,(ad118.add ((ji7).toNat * 5)).off + 3,none⟩ = some (.int .i64 ((rd_T63 l0 (ji7)).f3)) ∧ w'.cell? ⟨(ad118.add ((ji7).toNat * 5)).block,(ad118.add ((ji7).toNat * 5)).off + 4,none⟩ = some (.slice A120_4 ((rd_T63 l0 (ji7)).f4).length c120_4) ∧ w'.cell? (ad118.add ((x3_1).toNat * 5)) = some (.string ((rd_T63 l0 x3_1).f0)) ∧ w'.cell? ⟨(ad118.add ((x3_1).toNat * 5)).block,(ad118.add ((x3_1).toNat * 5)).off + 1,none⟩ = some (.int .i64 ((rd_T63 l0 x3_1).f1)) ∧ w'.cell? ⟨(ad118.add ((x3_1).toNat * 5)).block,(ad118.add ((x3_1).toNat * 5)).off + 2,none⟩ = some (.int .i64 ((rd_T63 l0 x3_1).f2)) ∧ w'.cell? ⟨(ad118.add ((x3_1).toNat * 5)).block,(ad118.add ((x3_1).toNat * 5)).off + 3,none⟩ = some (.int .i64 ((rd_T63 l0 x3_1).f3)) ∧ w'.cell? ⟨(ad118.add ((x3_1).toNat * 5)).block,(ad118.add ((x3_1).toNat * 5)).off + 4,none⟩ = some (.slice A121_4 ((rd_T63 l0 x3_1).f4).length c121_4)) (ds := []) #[false,false,false,false,false,false,false,false,false,false,false,false,false,false,false,false,false,false,false,false,false,false,false,false] (by kernel_rfl) rfl rfl ⟨(up_ HB.out hw118_0),(up_ HB.out hw118_1),(up_ HB.out hw118_2),(up_ HB.out hw118_3),(up_ HB.out hw118_4),(up_ HB.out hw120_0),(up_ HB.out hw120_1),(up_ HB.out hw120_2),(up_ HB.out hw120_3),(up_ HB.out hw120_4),(up_ HB.out hw121_0),(up_ HB.out hw121_1),(up_ HB.out hw121_2),(up_ HB.out hw121_3),(up_ HB.out hw121_4)⟩ (fun hHeld => ?_); refine with_tabW spec_AcctsOk.tab4 spec_AcctsOk.bits4 (fun HT_ HW_ => ?_)
          generalize wr.drew = w13 at HB HR118_4 HR120_4 HR121_4 hx118_0 hx118_1 hx118_2 hx118_3 hx118_4 hx120_0 hx120_1 hx120_2 hx120_3 hx120_4 hx121_0 hx121_1 hx121_2 hx121_3 hx121_4 hHeld ⊢
          refine pure_ (i := 0) (N := some 10) (v := ?_) (a' := ?_) #[true,false,false,false,false,false,false,false,false,false,false,false,false,false,false,false,false,false,false,false,false,false,false,false] rfl rfl (any_of HT_.out (by kernel_rfl)) (fun _ _ _ h => h) (Or.inl ⟨by rfl,?_⟩) ?_ ?_;rotate_left
          ·intro w';go_simp;with_reducible rfl
          rotate_left
          ·simp only [wf_preprocess];rfl
          refine pure_ (i := 1) (N := some 11) (v := ?_) (a' := ?_) #[true,true,false,false,false,false,false,false,false,false,false,false,false,false,false,false,false,false,false,false,false,false,false,false] rfl rfl (any_of HT_.out (by kernel_rfl)) (fun _ _ _ h => h) (Or.inl ⟨by rfl,?_⟩) ?_ ?_;rotate_left
          ·intro w';go_simp;with_reducible rfl
          rotate_left
          ·simp only [wf_preprocess];rfl
          refine pure_ (i := 2) (N := some 12) (v := ?_) (a' := ?_) #[true,true,true,false,false,false,false,false,false,false,false,false,false,false,false,false,false,false,false,false,false,false,false,false] rfl rfl (any_of HT_.out (by kernel_rfl)) (fun _ _ _ h => h) (Or.inl ⟨by rfl,?_⟩) ?_ ?_;rotate_left
          ·intro w';go_simp;with_reducible rfl
          rotate_left
          ·simp only [wf_preprocess];rfl
          refine take_ (i := 3) (N := some 13) (v := ?_) (a' := ?_) #[true,true,true,true,false,false,false,false,false,false,false,false,false,false,false,false,false,false,false,false,false,false,false,false] rfl rfl (take_ofW HT_.out HW_.out (by kernel_rfl)) (fun _ _ _ h => h) (Or.inl ⟨by rfl,?_⟩) hHeld ?_ ?_;rotate_left
          ·rintro w' ⟨s0,s1,s2,s3,s4,s5,s6,s7,s8,s9,s10,s11,s12,s13,s14⟩;go_simp;with_reducible rfl
          rotate_left
          ·simp only [wf_preprocess];rfl
          refine one_ (i := 4) (N := some 14) #[true,true,true,true,true,false,false,false,false,false,false,false,false,false,false,false,false,false,false,false,false,false,false,false] rfl rfl (one_of HT_.out (by kernel_rfl)) (by decide) (fun K hK => ?_);refine goes_ Try.func123 (by kernel_rfl) rfl #[.agg #[.string ((rd_T63 l0 x3_1).f0),.int .i64 ((rd_T63 l0 x3_1).f1),.int .i64 ((rd_T63 l0 x3_1).f2),.int .i64 ((rd_T63 l0 x3_1).f3),.slice A118_4 ((rd_T63 l0 x3_1).f4).length c118_4]] (by rfl) rfl rfl (by (try simp only [List.map_toArray,List.map_cons,List.map_nil]); rfl) ?_
          with_reducible refine (spec_AcctOk.calls k1 ((rd_T63 l0 x3_1).f0) ((rd_T63 l0 x3_1).f1) ((rd_T63 l0 x3_1).f2) ((rd_T63 l0 x3_1).f3) _ _ ((rd_T63 l0 x3_1).f4) true _ ?side1 ?side2 A4.out).mono ?_
          (case side1 => repeat (exact (Kd.C_below HR118_4.out HB.out)))
          (case side2 => exact HC118_4.out)
          rintro e w14 ⟨rfl,hb⟩;refine ⟨_,rfl,?_⟩;have n0_ := Aside0.mk (below_step HB.out hb);clear HB;have HB := n0_;clear n0_
          (try clear hb)
          skip
          skip
          skip
          refine hK.out _ _ ⟨(up_ HB.out hw118_0),(up_ HB.out hw118_1),(up_ HB.out hw118_2),(up_ HB.out hw118_3),(up_ HB.out hw118_4),(up_ HB.out hw120_0),(up_ HB.out hw120_1),(up_ HB.out hw120_2),(up_ HB.out hw120_3),(up_ HB.out hw120_4),(up_ HB.out hw121_0),(up_ HB.out hw121_1),(up_ HB.out hw121_2),(up_ HB.out hw121_3),(up_ HB.out hw121_4)⟩ (fun hHeld => ?_);clear hK K;refine norm_ (a' := ?_) ?_ ?_;rotate_left
          ·show Act.put _ (some 14) _ = _
           simp only [wf_preprocess];rfl
          refine pure_ (i := 5) (N := some 15) (v := ?_) (a' := ?_) #[true,true,true,true,true,true,false,false,false,false,false,false,false,false,false,false,false,false,false,false,false,false,false,false] rfl rfl (any_of HT_.out (by kernel_rfl)) (fun _ _ _ h => h) (Or.inl ⟨by rfl,?_⟩) ?_ ?_;rotate_left
          ·intro w';go_simp;with_reducible rfl
          rotate_left
          ·simp only [wf_preprocess];rfl
          refine pure_ (i := 6) (N := some 16) (v := ?_) (a' := ?_) #[true,true,true,true,true,true,true,false,false,false,false,false,false,false,false,false,false,false,false,false,false,false,false,false] rfl rfl (any_of HT_.out (by kernel_rfl)) (fun _ _ _ h => h) (Or.inl ⟨by rfl,?_⟩) ?_ ?_;rotate_left
          ·intro w';go_simp;with_reducible rfl
          rotate_left
          ·simp only [wf_preprocess];rfl
          refine pure_ (i := 7) (N := some 17) (v := ?_) (a' := ?_) #[true,true,true,true,true,true,true,true,false,false,false,false,false,false,false,false,false,false,false,false,false,false,false,false] rfl rfl (any_of HT_.out (by kernel_rfl)) (fun _ _ _ h => h) (Or.inl ⟨by rfl,?_⟩) ?_ ?_;rotate_left
          ·intro w';go_simp;with_reducible rfl
          rotate_left
          ·simp only [wf_preprocess];rfl
          refine pure_ (i := 8) (N := some 18) (v := ?_) (a' := ?_) #[true,true,true,true,true,true,true,true,true,false,false,false,false,false,false,false,false,false,false,false,false,false,false,false] rfl rfl (any_of HT_.out (by kernel_rfl)) (fun _ _ _ h => h) (Or.inl ⟨by rfl,?_⟩) ?_ ?_;rotate_left
          ·intro w';go_simp;with_reducible rfl
          rotate_left
          ·simp only [wf_preprocess];rfl
          refine pure_ (i := 9) (N := some 19) (v := ?_) (a' := ?_) #[true,true,true,true,true,true,true,true,true,true,false,false,false,false,false,false,false,false,false,false,false,false,false,false] rfl rfl (any_of HT_.out (by kernel_rfl)) (fun _ _ _ h => h) (Or.inl ⟨by rfl,?_⟩) ?_ ?_;rotate_left
          ·intro w';go_simp;with_reducible rfl
          rotate_left
          ·simp only [wf_preprocess];rfl
          refine pure_ (i := 10) (N := some 20) (v := ?_) (a' := ?_) #[true,true,true,true,true,true,true,true,true,true,true,false,false,false,false,false,false,false,false,false,false,false,false,false] rfl rfl (any_of HT_.out (by kernel_rfl)) (fun _ _ _ h => h) (Or.inl ⟨by rfl,?_⟩) ?_ ?_;rotate_left
          ·intro w';go_simp;with_reducible rfl
          rotate_left
          ·simp only [wf_preprocess];rfl
          refine pure_ (i := 11) (N := some 21) (v := ?_) (a' := ?_) #[true,true,true,true,true,true,true,true,true,true,true,true,false,false,false,false,false,false,false,false,false,false,false,false] rfl rfl (any_of HT_.out (by kernel_rfl)) (fun _ _ _ h => h) (Or.inl ⟨by rfl,?_⟩) ?_ ?_;rotate_left
          ·intro w';go_simp;with_reducible rfl
          rotate_left
          ·simp only [wf_preprocess];rfl
          refine pure_ (i := 12) (N := some 22) (v := ?_) (a' := ?_) #[true,true,true,true,true,true,true,true,true,true,true,true,true,false,false,false,false,false,false,false,false,false,false,false] rfl rfl (any_of HT_.out (by kernel_rfl)) (fun _ _ _ h => h) (Or.inl ⟨by rfl,?_⟩) ?_ ?_;rotate_left
          ·intro w';go_simp;with_reducible rfl
          rotate_left
          ·simp only [wf_preprocess];rfl
          refine pure_ (i := 13) (N := some 23) (v := ?_) (a' := ?_) #[true,true,true,true,true,true,true,true,true,true,true,true,true,true,false,false,false,false,false,false,false,false,false,false] rfl rfl (any_of HT_.out (by kernel_rfl)) (fun _ _ _ h => h) (Or.inl ⟨by rfl,?_⟩) ?_ ?_;rotate_left
          ·intro w';go_simp;with_reducible rfl
          rotate_left
          ·simp only [wf_preprocess];rfl
          refine pure_ (i := 14) (N := some 24) (v := ?_) (a' := ?_) #[true,true,true,true,true,true,true,true,true,true,true,true,true,true,true,false,false,false,false,false,false,false,false,false] rfl rfl (any_of HT_.out (by kernel_rfl)) (fun _ _ _ h => h) (Or.inl ⟨by rfl,?_⟩) ?_ ?_;rotate_left
          ·intro w';go_simp;with_reducible rfl
          rotate_left
          ·simp only [wf_preprocess];rfl
          refine pure_ (i := 16) (N := some 26) (v := ?_) (a' := ?_) #[true,true,true,true,true,true,true,true,true,true,true,true,true,true,true,false,true,false,false,false,false,false,false,false] rfl rfl (any_of HT_.out (by kernel_rfl)) (fun _ _ _ h => h) (Or.inl ⟨by rfl,?_⟩) ?_ ?_;rotate_left
          ·intro w';go_simp;with_reducible rfl
          rotate_left
          ·simp only [wf_preprocess];rfl
          refine pure_ (i := 17) (N := some 27) (v := ?_) (a' := ?_) #[true,true,true,true,true,true,true,true,true,true,true,true,true,true,true,false,true,true,false,false,false,false,false,false] rfl rfl (any_of HT_.out (by kernel_rfl)) (fun _ _ _ h => h) (Or.inl ⟨by rfl,?_⟩) ?_ ?_;rotate_left
          ·intro w';go_simp;with_reducible rfl
          rotate_left
          ·simp only [wf_preprocess];rfl
          refine pure_ (i := 18) (N := some 28) (v := ?_) (a' := ?_) #[true,true,true,true,true,true,true,true,true,true,true,true,true,true,true,false,true,true,true,false,false,false,false,false] rfl rfl (any_of HT_.out (by kernel_rfl)) (fun _ _ _ h => h) (Or.inl ⟨by rfl,?_⟩) ?_ ?_;rotate_left
          ·intro w';go_simp;with_reducible rfl
          rotate_left
          ·simp only [wf_preprocess];rfl
          refine pure_ (i := 19) (N := some 29) (v := ?_) (a' := ?_) #[true,true,true,true,true,true,true,true,true,true,true,true,true,true,true,false,true,true,true,true,false,false,false,false] rfl rfl (any_of HT_.out (by kernel_rfl)) (fun _ _ _ h => h) (Or.inl ⟨by rfl,?_⟩) ?_ ?_;rotate_left
          ·intro w';go_simp;with_reducible rfl
          rotate_left
          ·simp only [wf_preprocess];rfl
          refine take_ (i := 15) (N := some 25) (v := ?_) (a' := ?_) #[true,true,true,true,true,true,true,true,true,true,true,true,true,true,true,true,true,true,true,true,false,false,false,false] rfl rfl (take_ofW HT_.out HW_.out (by kernel_rfl)) (fun _ _ _ h => h) (Or.inl ⟨by rfl,?_⟩) hHeld ?_ ?_;rotate_left
          ·rintro w' ⟨s0,s1,s2,s3,s4,s5,s6,s7,s8,s9,s10,s11,s12,s13,s14⟩;go_simp;with_reducible rfl
          rotate_left
          ·simp only [wf_preprocess];rfl
          refine take_ (i := 20) (N := some 30) (v := ?_) (a' := ?_) #[true,true,true,true,true,true,true,true,true,true,true,true,true,true,true,true,true,true,true,true,true,false,false,false] rfl rfl (take_ofW HT_.out HW_.out (by kernel_rfl)) (fun _ _ _ h => h) (Or.inl ⟨by rfl,?_⟩) hHeld ?_ ?_;rotate_left
          ·rintro w' ⟨s0,s1,s2,s3,s4,s5,s6,s7,s8,s9,s10,s11,s12,s13,s14⟩;go_simp;with_reducible rfl
          rotate_left
          ·simp only [wf_preprocess];rfl
          refine pure_ (i := 21) (N := some 31) (v := ?_) (a' := ?_) #[true,true,true,true,true,true,true,true,true,true,true,true,true,true,true,true,true,true,true,true,true,true,false,false] rfl rfl (any_of HT_.out (by kernel_rfl)) (fun _ _ _ h => h) (Or.inl ⟨by rfl,?_⟩) ?_ ?_;rotate_left
          ·intro w';go_simp;with_reducible rfl
          rotate_left
          ·simp only [wf_preprocess];rfl
          refine pure_ (i := 22) (N := some 32) (v := ?_) (a' := ?_) #[true,true,true,true,true,true,true,true,true,true,true,true,true,true,true,true,true,true,true,true,true,true,true,false] rfl rfl (any_of HT_.out (by kernel_rfl)) (fun _ _ _ h => h) (Or.inl ⟨by rfl,?_⟩) ?_ ?_;rotate_left
          ·intro w';go_simp;with_reducible rfl
          rotate_left
          ·simp only [wf_preprocess];rfl
          refine pure_ (i := 23) (N := some 33) (v := ?_) (a' := ?_) #[true,true,true,true,true,true,true,true,true,true,true,true,true,true,true,true,true,true,true,true,true,true,true,true] rfl rfl (any_of HT_.out (by kernel_rfl)) (fun _ _ _ h => h) (Or.inl ⟨by rfl,?_⟩) ?_ ?_;rotate_left
          ·intro w';go_simp;with_reducible rfl
          rotate_left
          ·simp only [wf_preprocess];rfl
          refine done_ (done_of HT_.out (by kernel_rfl)) ?_
          try go_wp2
          go_ret;exact ⟨by rfl,HB.out⟩
        ·rw [if_neg c9] at H;exact absurd H (by simp)
       ·rw [if_neg c8] at H;exact absurd H (by simp)
      ·rw [if_neg c6] at H;have c6b0 : decide (0 < x3_1) = false := decide_eq_false c6;clear c6;have H' := Aside0.mk H;clear H
       try go_wp2
       have n0_ := Aside0.mk (below_drew1 HB.out);clear HB;have HB := n0_;clear n0_;have p118 : 0 ≤ (x3_1 : Int) := of_decide_eq_true (by (with_reducible assumption));have q118 : x3_1 < (l0.length : Int) := of_decide_eq_true (by (with_reducible assumption));obtain ⟨ad118,A118_4,c118_4,e118,hx118_0,hx118_1,hx118_2,hx118_3,hx118_4,hl118_4,hi118_4⟩ := at_T63 HR0.out x3_1 p118 q118;have hw118_4 := hx118_4;have hw118_3 := hx118_3;have hw118_2 := hx118_2;have hw118_1 := hx118_1;have hw118_0 := hx118_0
       cases e118
       replace hx118_0 := up_ HB.out hx118_0;replace hx118_1 := up_ HB.out hx118_1;replace hx118_2 := up_ HB.out hx118_2;replace hx118_3 := up_ HB.out hx118_3;replace hx118_4 := up_ HB.out hx118_4;have HR118_4 := Aside0.mk hi118_4;have HC118_4 := Aside0.mk hl118_4;clear hi118_4 hl118_4;replace p118 := eq_true p118;replace q118 := eq_true q118;refine start_ (n := 24) (S := fun w' => w'.cell? (ad118.add ((x3_1).toNat * 5)) = some (.string ((rd_T63 l0 x3_1).f0)) ∧ w'.cell? ⟨(ad118.add ((x3_1).toNat * 5)).block,(ad118.add ((x3_1).toNat * 5)).off + 1,none⟩ = some (.int .i64 ((rd_T63 l0 x3_1).f1)) ∧ w'.cell? ⟨(ad118.add ((x3_1).toNat * 5)).block,(ad118.add ((x3_1).toNat * 5)).off + 2,none⟩ = some (.int .i64 ((rd_T63 l0 x3_1).f2)) ∧ w'.cell? ⟨(ad118.add ((x3_1).toNat * 5)).block,(ad118.add ((x3_1).toNat * 5)).off + 3,none⟩ = some (.int .i64 ((rd_T63 l0 x3_1).f3)) ∧ w'.cell? ⟨(ad118.add ((x3_1).toNat * 5)).block,(ad118.add ((x3_1).toNat * 5)).off + 4,none⟩ = some (.slice A118_4 ((rd_T63 l0 x3_1).f4).length c118_4)) (ds := []) #[false,false,false,false,false,false,false,false,false,false,false,false,false,false,false,false,false,false,false,false,false,false,false,false] (by kernel_rfl) rfl rfl ⟨(up_ HB.out hw118_0),(up_ HB.out hw118_1),(up_ HB.out hw118_2),(up_ HB.out hw118_3),(up_ HB.out hw118_4)⟩ (fun hHeld => ?_); refine with_tabW spec_AcctsOk.tab4 spec_AcctsOk.bits4 (fun HT_ HW_ => ?_)
       generalize wr.drew = w15 at HB HR118_4 hx118_0 hx118_1 hx118_2 hx118_3 hx118_4 hHeld ⊢
       refine pure_ (i := 0) (N := some 10) (v := ?_) (a' := ?_) #[true,false,false,false,false,false,false,false,false,false,false,false,false,false,false,false,false,false,false,false,false,false,false,false] rfl rfl (any_of HT_.out (by kernel_rfl)) (fun _ _ _ h => h) (Or.inl ⟨by rfl,?_⟩) ?_ ?_;rotate_left
       ·intro w';go_simp;with_reducible rfl
       rotate_left
       ·simp only [wf_preprocess];rfl
       refine pure_ (i := 1) (N := some 11) (v := ?_) (a' := ?_) #[true,true,false,false,false,false,false,false,false,false,false,false,false,false,false,false,false,false,false,false,false,false,false,false] rfl rfl (any_of HT_.out (by kernel_rfl)) (fun _ _ _ h => h) (Or.inl ⟨by rfl,?_⟩) ?_ ?_;rotate_left
       ·intro w';go_simp;with_reducible rfl
       rotate_left
       ·simp only [wf_preprocess];rfl
       refine pure_ (i := 2) (N := some 12) (v := ?_) (a' := ?_) #[true,true,true,false,false,false,false,false,false,false,false,false,false,false,false,false,false,false,false,false,false,false,false,false] rfl rfl (any_of HT_.out (by kernel_rfl)) (fun _ _ _ h => h) (Or.inl ⟨by rfl,?_⟩) ?_ ?_;rotate_left
       ·intro w';go_simp;with_reducible rfl
       rotate_left
       ·simp only [wf_preprocess];rfl
       refine take_ (i := 3) (N := some 13) (v := ?_) (a' := ?_) #[true,true,true,true,false,false,false,false,false,false,false,false,false,false,false,false,false,false,false,false,false,false,false,false] rfl rfl (take_ofW HT_.out HW_.out (by kernel_rfl)) (fun _ _ _ h => h) (Or.inl ⟨by rfl,?_⟩) hHeld ?_ ?_;rotate_left
       ·rintro w' ⟨s0,s1,s2,s3,s4⟩;go_simp;with_reducible rfl
       rotate_left
       ·simp only [wf_preprocess];rfl
       refine one_ (i := 4) (N := some 14) #[true,true,true,true,true,false,false,false,false,false,false,false,false,false,false,false,false,false,false,false,false,false,false,false] rfl rfl (one_of HT_.out (by kernel_rfl)) (by decide) (fun K hK => ?_);refine goes_ Try.func123 (by kernel_rfl) rfl #[.agg #[.string ((rd_T63 l0 x3_1).f0),.int .i64 ((rd_T63 l0 x3_1).f1),.int .i64 ((rd_T63 l0 x3_1).f2),.int .i64 ((rd_T63 l0 x3_1).f3),.slice A118_4 ((rd_T63 l0 x3_1).f4).length c118_4]] (by rfl) rfl rfl (by (try simp only [List.map_toArray,List.map_cons,List.map_nil]); rfl) ?_
       with_reducible refine (spec_AcctOk.calls k1 ((rd_T63 l0 x3_1).f0) ((rd_T63 l0 x3_1).f1) ((rd_T63 l0 x3_1).f2) ((rd_T63 l0 x3_1).f3) _ _ ((rd_T63 l0 x3_1).f4) true _ ?side1 ?side2 A4.out).mono ?_
       (case side1 => repeat (exact (Kd.C_below HR118_4.out HB.out)))
       (case side2 => exact HC118_4.out)
       rintro e w16 ⟨rfl,hb⟩;refine ⟨_,rfl,?_⟩;have n0_ := Aside0.mk (below_step HB.out hb);clear HB;have HB := n0_;clear n0_
       (try clear hb)
       skip
       skip
       skip
       refine hK.out _ _ ⟨(up_ HB.out hw118_0),(up_ HB.out hw118_1),(up_ HB.out hw118_2),(up_ HB.out hw118_3),(up_ HB.out hw118_4)⟩ (fun hHeld => ?_);clear hK K;refine norm_ (a' := ?_) ?_ ?_;rotate_left
       ·show Act.put _ (some 14) _ = _
        simp only [wf_preprocess];rfl
       refine pure_ (i := 5) (N := some 15) (v := ?_) (a' := ?_) #[true,true,true,true,true,true,false,false,false,false,false,false,false,false,false,false,false,false,false,false,false,false,false,false] rfl rfl (any_of HT_.out (by kernel_rfl)) (fun _ _ _ h => h) (Or.inl ⟨by rfl,?_⟩) ?_ ?_;rotate_left
       ·intro w';go_simp;with_reducible rfl
       rotate_left
       ·simp only [wf_preprocess];rfl
       refine pure_ (i := 6) (N := some 16) (v := ?_) (a' := ?_) #[true,true,true,true,true,true,true,false,false,false,false,false,false,false,false,false,false,false,false,false,false,false,false,false] rfl rfl (any_of HT_.out (by kernel_rfl)) (fun _ _ _ h => h) (Or.inl ⟨by rfl,?_⟩) ?_ ?_;rotate_left
       ·intro w';go_simp;with_reducible rfl
       rotate_left
       ·simp only [wf_preprocess];rfl
       refine pure_ (i := 7) (N := some 17) (v := ?_) (a' := ?_) #[true,true,true,true,true,true,true,true,false,false,false,false,false,false,false,false,false,false,false,false,false,false,false,false] rfl rfl (any_of HT_.out (by kernel_rfl)) (fun _ _ _ h => h) (Or.inl ⟨by rfl,?_⟩) ?_ ?_;rotate_left
       ·intro w';go_simp;with_reducible rfl
       rotate_left
       ·simp only [wf_preprocess];rfl
       refine pure_ (i := 8) (N := some 18) (v := ?_) (a' := ?_) #[true,true,true,true,true,true,true,true,true,false,false,false,false,false,false,false,false,false,false,false,false,false,false,false] rfl rfl (any_of HT_.out (by kernel_rfl)) (fun _ _ _ h => h) (Or.inl ⟨by rfl,?_⟩) ?_ ?_;rotate_left
       ·intro w';go_simp;with_reducible rfl
       rotate_left
       ·simp only [wf_preprocess];rfl
       refine pure_ (i := 9) (N := some 19) (v := ?_) (a' := ?_) #[true,true,true,true,true,true,true,true,true,true,false,false,false,false,false,false,false,false,false,false,false,false,false,false] rfl rfl (any_of HT_.out (by kernel_rfl)) (fun _ _ _ h => h) (Or.inl ⟨by rfl,?_⟩) ?_ ?_;rotate_left
       ·intro w';go_simp;with_reducible rfl
       rotate_left
       ·simp only [wf_preprocess];rfl
       refine pure_ (i := 10) (N := some 20) (v := undef) (a' := ?_) #[true,true,true,true,true,true,true,true,true,true,true,false,false,false,false,false,false,false,false,false,false,false,false,false] rfl rfl (any_of HT_.out (by kernel_rfl)) (fun _ _ _ h => h) (Or.inr ⟨by rfl,rfl⟩) ?_ ?_;rotate_left
       ·simp only [wf_preprocess];rfl
       refine pure_ (i := 11) (N := some 21) (v := undef) (a' := ?_) #[true,true,true,true,true,true,true,true,true,true,true,true,false,false,false,false,false,false,false,false,false,false,false,false] rfl rfl (any_of HT_.out (by kernel_rfl)) (fun _ _ _ h => h) (Or.inr ⟨by rfl,rfl⟩) ?_ ?_;rotate_left
       ·simp only [wf_preprocess];rfl
       refine pure_ (i := 12) (N := some 22) (v := undef) (a' := ?_) #[true,true,true,true,true,true,true,true,true,true,true,true,true,false,false,false,false,false,false,false,false,false,false,false] rfl rfl (any_of HT_.out (by kernel_rfl)) (fun _ _ _ h => h) (Or.inr ⟨by rfl,rfl⟩) ?_ ?_;rotate_left
       ·simp only [wf_preprocess];rfl
       refine pure_ (i := 13) (N := some 23) (v := undef) (a' := ?_) #[true,true,true,true,true,true,true,true,true,true,true,true,true,true,false,false,false,false,false,false,false,false,false,false] rfl rfl (any_of HT_.out (by kernel_rfl)) (fun _ _ _ h => h) (Or.inr ⟨by rfl,rfl⟩) ?_ ?_;rotate_left
       ·simp only [wf_preprocess];rfl
       refine pure_ (i := 14) (N := some 24) (v := undef) (a' := ?_) #[true,true,true,true,true,true,true,true,true,true,true,true,true,true,true,false,false,false,false,false,false,false,false,false] rfl rfl (any_of HT_.out (by kernel_rfl)) (fun _ _ _ h => h) (Or.inr ⟨by rfl,rfl⟩) ?_ ?_;rotate_left
       ·simp only [wf_preprocess];rfl
       refine pure_ (i := 15) (N := some 25) (v := undef) (a' := ?_) #[true,true,true,true,true,true,true,true,true,true,true,true,true,true,true,true,false,false,false,false,false,false,false,false] rfl rfl (any_of HT_.out (by kernel_rfl)) (fun _ _ _ h => h) (Or.inr ⟨by rfl,rfl⟩) ?_ ?_;rotate_left
       ·simp only [wf_preprocess];rfl
       refine pure_ (i := 16) (N := some 26) (v := undef) (a' := ?_) #[true,true,true,true,true,true,true,true,true,true,true,true,true,true,true,true,true,false,false,false,false,false,false,false] rfl rfl (any_of HT_.out (by kernel_rfl)) (fun _ _ _ h => h) (Or.inr ⟨by rfl,rfl⟩) ?_ ?_;rotate_left
       ·simp only [wf_preprocess];rfl
       refine pure_ (i := 17) (N := some 27) (v := undef) (a' := ?_) #[true,true,true,true,true,true,true,true,true,true,true,true,true,true,true,true,true,true,false,false,false,false,false,false] rfl rfl (any_of HT_.out (by kernel_rfl)) (fun _ _ _ h => h) (Or.inr ⟨by rfl,rfl⟩) ?_ ?_;rotate_left
       ·simp only [wf_preprocess];rfl
       refine pure_ (i := 18) (N := some 28) (v := undef) (a' := ?_) #[true,true,true,true,true,true,true,true,true,true,true,true,true,true,true,true,true,true,true,false,false,false,false,false] rfl rfl (any_of HT_.out (by kernel_rfl)) (fun _ _ _ h => h) (Or.inr ⟨by rfl,rfl⟩) ?_ ?_;rotate_left
       ·simp only [wf_preprocess];rfl
       refine pure_ (i := 19) (N := some 29) (v := undef) (a' := ?_) #[true,true,true,true,true,true,true,true,true,true,true,true,true,true,true,true,true,true,true,true,false,false,false,false] rfl rfl (any_of HT_.out (by kernel_rfl)) (fun _ _ _ h => h) (Or.inr ⟨by rfl,rfl⟩) ?_ ?_;rotate_left
       ·simp only [wf_preprocess];rfl
       refine pure_ (i := 20) (N := some 30) (v := undef) (a' := ?_) #[true,true,true,true,true,true,true,true,true,true,true,true,true,true,true,true,true,true,true,true,true,false,false,false] rfl rfl (any_of HT_.out (by kernel_rfl)) (fun _ _ _ h => h) (Or.inr ⟨by rfl,rfl⟩) ?_ ?_;rotate_left
       ·simp only [wf_preprocess];rfl
       refine pure_ (i := 21) (N := some 31) (v := undef) (a' := ?_) #[true,true,true,true,true,true,true,true,true,true,true,true,true,true,true,true,true,true,true,true,true,true,false,false] rfl rfl (any_of HT_.out (by kernel_rfl)) (fun _ _ _ h => h) (Or.inr ⟨by rfl,rfl⟩) ?_ ?_;rotate_left
       ·simp only [wf_preprocess];rfl
       refine pure_ (i := 22) (N := some 32) (v := ?_) (a' := ?_) #[true,true,true,true,true,true,true,true,true,true,true,true,true,true,true,true,true,true,true,true,true,true,true,false] rfl rfl (any_of HT_.out (by kernel_rfl)) (fun _ _ _ h => h) (Or.inl ⟨by rfl,?_⟩) ?_ ?_;rotate_left
       ·intro w';go_simp;with_reducible rfl
       rotate_left
       ·simp only [wf_preprocess];rfl
       refine pure_ (i := 23) (N := some 33) (v := ?_) (a' := ?_) #[true,true,true,true,true,true,true,true,true,true,true,true,true,true,true,true,true,true,true,true,true,true,true,true] rfl rfl (any_of HT_.out (by kernel_rfl)) (fun _ _ _ h => h) (Or.inl ⟨by rfl,?_⟩) ?_ ?_;rotate_left
       ·intro w';go_simp;with_reducible rfl
       rotate_left
       ·simp only [wf_preprocess];rfl
       refine done_ (done_of HT_.out (by kernel_rfl)) ?_
       try go_wp2
       go_roundg k1
       case measure => have := HK1.out; omega
       case rel => exact ⟨(wrap64 (x3_1 + 1)),(by rfl),H',⟨by have := HK1.out; omega⟩,⟨HB.out⟩⟩
     ·replace c5 := Bool.eq_false_iff.mpr c5;subst c5
      rw [if_neg (show ¬ (false = true) by decide)] at H
      obtain rfl := Option.some.inj H
      try go_wp2
      have n0_ := Aside0.mk (below_drew1 HB.out);clear HB;have HB := n0_;clear n0_;have p118 : 0 ≤ (x3_1 : Int) := of_decide_eq_true (by (with_reducible assumption));have q118 : x3_1 < (l0.length : Int) := of_decide_eq_true (by (with_reducible assumption));obtain ⟨ad118,A118_4,c118_4,e118,hx118_0,hx118_1,hx118_2,hx118_3,hx118_4,hl118_4,hi118_4⟩ := at_T63 HR0.out x3_1 p118 q118;have hw118_4 := hx118_4;have hw118_3 := hx118_3;have hw118_2 := hx118_2;have hw118_1 := hx118_1;have hw118_0 := hx118_0
      cases e118
      replace hx118_0 := up_ HB.out hx118_0;replace hx118_1 := up_ HB.out hx118_1;replace hx118_2 := up_ HB.out hx118_2;replace hx118_3 := up_ HB.out hx118_3;replace hx118_4 := up_ HB.out hx118_4;have HR118_4 := Aside0.mk hi118_4;have HC118_4 := Aside0.mk hl118_4;clear hi118_4 hl118_4;replace p118 := eq_true p118;replace q118 := eq_true q118;refine start_ (n := 24) (S := fun w' => w'.cell? (ad118.add ((x3_1).toNat * 5)) = some (.string ((rd_T63 l0 x3_1).f0)) ∧ w'.cell? ⟨(ad118.add ((x3_1).toNat * 5)).block,(ad118.add ((x3_1).toNat * 5)).off + 1,none⟩ = some (.int .i64 ((rd_T63 l0 x3_1).f1)) ∧ w'.cell? ⟨(ad118.add ((x3_1).toNat * 5)).block,(ad118.add ((x3_1).toNat * 5)).off + 2,none⟩ = some (.int .i64 ((rd_T63 l0 x3_1).f2)) ∧ w'.cell? ⟨(ad118.add ((x3_1).toNat * 5)).block,(ad118.add ((x3_1).toNat * 5)).off + 3,none⟩ = some (.int .i64 ((rd_T63 l0 x3_1).f3)) ∧ w'.cell? ⟨(ad118.add ((x3_1).toNat * 5)).block,(ad118.add ((x3_1).toNat * 5)).off + 4,none⟩ = some (.slice A118_4 ((rd_T63 l0 x3_1).f4).length c118_4)) (ds := []) #[false,false,false,false,false,false,false,false,false,false,false,false,false,false,false,false,false,false,false,false,false,false,false,false] (by kernel_rfl) rfl rfl ⟨(up_ HB.out hw118_0),(up_ HB.out hw118_1),(up_ HB.out hw118_2),(up_ HB.out hw118_3),(up_ HB.out hw118_4)⟩ (fun hHeld => ?_); refine with_tabW spec_AcctsOk.tab4 spec_AcctsOk.bits4 (fun HT_ HW_ => ?_)
      generalize wr.drew = w17 at HB HR118_4 hx118_0 hx118_1 hx118_2 hx118_3 hx118_4 hHeld ⊢
      refine pure_ (i := 0) (N := some 10) (v := ?_) (a' := ?_) #[true,false,false,false,false,false,false,false,false,false,false,false,false,false,false,false,false,false,false,false,false,false,false,false] rfl rfl (any_of HT_.out (by kernel_rfl)) (fun _ _ _ h => h) (Or.inl ⟨by rfl,?_⟩) ?_ ?_;rotate_left
      ·intro w';go_simp;with_reducible rfl
      rotate_left
      ·simp only [wf_preprocess];rfl
      refine pure_ (i := 1) (N := some 11) (v := ?_) (a' := ?_) #[true,true,false,false,false,false,false,false,false,false,false,false,false,false,false,false,false,false,false,false,false,false,false,false] rfl rfl (any_of HT_.out (by kernel_rfl)) (fun _ _ _ h => h) (Or.inl ⟨by rfl,?_⟩) ?_ ?_;rotate_left
      ·intro w';go_simp;with_reducible rfl
      rotate_left
      ·simp only [wf_preprocess];rfl
      refine pure_ (i := 2) (N := some 12) (v := ?_) (a' := ?_) #[true,true,true,false,false,false,false,false,false,false,false,false,false,false,false,false,false,false,false,false,false,false,false,false] rfl rfl (any_of HT_.out (by kernel_rfl)) (fun _ _ _ h => h) (Or.inl ⟨by rfl,?_⟩) ?_ ?_;rotate_left
      ·intro w';go_simp;with_reducible rfl
      rotate_left
      ·simp only [wf_preprocess];rfl
      refine take_ (i := 3) (N := some 13) (v := ?_) (a' := ?_) #[true,true,true,true,false,false,false,false,false,false,false,false,false,false,false,false,false,false,false,false,false,false,false,false] rfl rfl (take_ofW HT_.out HW_.out (by kernel_rfl)) (fun _ _ _ h => h) (Or.inl ⟨by rfl,?_⟩) hHeld ?_ ?_;rotate_left
      ·rintro w' ⟨s0,s1,s2,s3,s4⟩;go_simp;with_reducible rfl
      rotate_left
      ·simp only [wf_preprocess];rfl
      refine one_ (i := 4) (N := some 14) #[true,true,true,true,true,false,false,false,false,false,false,false,false,false,false,false,false,false,false,false,false,false,false,false] rfl rfl (one_of HT_.out (by kernel_rfl)) (by decide) (fun K hK => ?_);refine goes_ Try.func123 (by kernel_rfl) rfl #[.agg #[.string ((rd_T63 l0 x3_1).f0),.int .i64 ((rd_T63 l0 x3_1).f1),.int .i64 ((rd_T63 l0 x3_1).f2),.int .i64 ((rd_T63 l0 x3_1).f3),.slice A118_4 ((rd_T63 l0 x3_1).f4).length c118_4]] (by rfl) rfl rfl (by (try simp only [List.map_toArray,List.map_cons,List.map_nil]); rfl) ?_
      with_reducible refine (spec_AcctOk.calls k1 ((rd_T63 l0 x3_1).f0) ((rd_T63 l0 x3_1).f1) ((rd_T63 l0 x3_1).f2) ((rd_T63 l0 x3_1).f3) _ _ ((rd_T63 l0 x3_1).f4) false _ ?side1 ?side2 A4.out).mono ?_
      (case side1 => repeat (exact (Kd.C_below HR118_4.out HB.out)))
      (case side2 => exact HC118_4.out)
      rintro e w18 ⟨rfl,hb⟩;refine ⟨_,rfl,?_⟩;have n0_ := Aside0.mk (below_step HB.out hb);clear HB;have HB := n0_;clear n0_
      (try clear hb)
      skip
      skip
      skip
      refine hK.out _ _ ⟨(up_ HB.out hw118_0),(up_ HB.out hw118_1),(up_ HB.out hw118_2),(up_ HB.out hw118_3),(up_ HB.out hw118_4)⟩ (fun hHeld => ?_);clear hK K;refine norm_ (a' := ?_) ?_ ?_;rotate_left
      ·show Act.put _ (some 14) _ = _
       simp only [wf_preprocess];rfl
      refine pure_ (i := 5) (N := some 15) (v := ?_) (a' := ?_) #[true,true,true,true,true,true,false,false,false,false,false,false,false,false,false,false,false,false,false,false,false,false,false,false] rfl rfl (any_of HT_.out (by kernel_rfl)) (fun _ _ _ h => h) (Or.inl ⟨by rfl,?_⟩) ?_ ?_;rotate_left
      ·intro w';go_simp;with_reducible rfl
      rotate_left
      ·simp only [wf_preprocess];rfl
      refine pure_ (i := 6) (N := some 16) (v := ?_) (a' := ?_) #[true,true,true,true,true,true,true,false,false,false,false,false,false,false,false,false,false,false,false,false,false,false,false,false] rfl rfl (any_of HT_.out (by kernel_rfl)) (fun _ _ _ h => h) (Or.inl ⟨by rfl,?_⟩) ?_ ?_;rotate_left
      ·intro w';go_simp;with_reducible rfl
      rotate_left
      ·simp only [wf_preprocess];rfl
      refine pure_ (i := 7) (N := some 17) (v := undef) (a' := ?_) #[true,true,true,true,true,true,true,true,false,false,false,false,false,false,false,false,false,false,false,false,false,false,false,false] rfl rfl (any_of HT_.out (by kernel_rfl)) (fun _ _ _ h => h) (Or.inr ⟨by rfl,rfl⟩) ?_ ?_;rotate_left
      ·simp only [wf_preprocess];rfl
      refine pure_ (i := 8) (N := some 18) (v := undef) (a' := ?_) #[true,true,true,true,true,true,true,true,true,false,false,false,false,false,false,false,false,false,false,false,false,false,false,false] rfl rfl (any_of HT_.out (by kernel_rfl)) (fun _ _ _ h => h) (Or.inr ⟨by rfl,rfl⟩) ?_ ?_;rotate_left
      ·simp only [wf_preprocess];rfl
      refine pure_ (i := 9) (N := some 19) (v := undef) (a' := ?_) #[true,true,true,true,true,true,true,true,true,true,false,false,false,false,false,false,false,false,false,false,false,false,false,false] rfl rfl (any_of HT_.out (by kernel_rfl)) (fun _ _ _ h => h) (Or.inr ⟨by rfl,rfl⟩) ?_ ?_;rotate_left
      ·simp only [wf_preprocess];rfl
      refine pure_ (i := 10) (N := some 20) (v := undef) (a' := ?_) #[true,true,true,true,true,true,true,true,true,true,true,false,false,false,false,false,false,false,false,false,false,false,false,false] rfl rfl (any_of HT_.out (by kernel_rfl)) (fun _ _ _ h => h) (Or.inr ⟨by rfl,rfl⟩) ?_ ?_;rotate_left
      ·simp only [wf_preprocess];rfl
      refine pure_ (i := 11) (N := some 21) (v := undef) (a' := ?_) #[true,true,true,true,true,true,true,true,true,true,true,true,false,false,false,false,false,false,false,false,false,false,false,false] rfl rfl (any_of HT_.out (by kernel_rfl)) (fun _ _ _ h => h) (Or.inr ⟨by rfl,rfl⟩) ?_ ?_;rotate_left
      ·simp only [wf_preprocess];rfl
      refine pure_ (i := 12) (N := some 22) (v := undef) (a' := ?_) #[true,true,true,true,true,true,true,true,true,true,true,true,true,false,false,false,false,false,false,false,false,false,false,false] rfl rfl (any_of HT_.out (by kernel_rfl)) (fun _ _ _ h => h) (Or.inr ⟨by rfl,rfl⟩) ?_ ?_;rotate_left
      ·simp only [wf_preprocess];rfl
      refine pure_ (i := 13) (N := some 23) (v := undef) (a' := ?_) #[true,true,true,true,true,true,true,true,true,true,true,true,true,true,false,false,false,false,false,false,false,false,false,false] rfl rfl (any_of HT_.out (by kernel_rfl)) (fun _ _ _ h => h) (Or.inr ⟨by rfl,rfl⟩) ?_ ?_;rotate_left
      ·simp only [wf_preprocess];rfl
      refine pure_ (i := 14) (N := some 24) (v := undef) (a' := ?_) #[true,true,true,true,true,true,true,true,true,true,true,true,true,true,true,false,false,false,false,false,false,false,false,false] rfl rfl (any_of HT_.out (by kernel_rfl)) (fun _ _ _ h => h) (Or.inr ⟨by rfl,rfl⟩) ?_ ?_;rotate_left
      ·simp only [wf_preprocess];rfl
      refine pure_ (i := 15) (N := some 25) (v := undef) (a' := ?_) #[true,true,true,true,true,true,true,true,true,true,true,true,true,true,true,true,false,false,false,false,false,false,false,false] rfl rfl (any_of HT_.out (by kernel_rfl)) (fun _ _ _ h => h) (Or.inr ⟨by rfl,rfl⟩) ?_ ?_;rotate_left
      ·simp only [wf_preprocess];rfl
      refine pure_ (i := 16) (N := some 26) (v := undef) (a' := ?_) #[true,true,true,true,true,true,true,true,true,true,true,true,true,true,true,true,true,false,false,false,false,false,false,false] rfl rfl (any_of HT_.out (by kernel_rfl)) (fun _ _ _ h => h) (Or.inr ⟨by rfl,rfl⟩) ?_ ?_;rotate_left
      ·simp only [wf_preprocess];rfl
      refine pure_ (i := 17) (N := some 27) (v := undef) (a' := ?_) #[true,true,true,true,true,true,true,true,true,true,true,true,true,true,true,true,true,true,false,false,false,false,false,false] rfl rfl (any_of HT_.out (by kernel_rfl)) (fun _ _ _ h => h) (Or.inr ⟨by rfl,rfl⟩) ?_ ?_;rotate_left
      ·simp only [wf_preprocess];rfl
      refine pure_ (i := 18) (N := some 28) (v := undef) (a' := ?_) #[true,true,true,true,true,true,true,true,true,true,true,true,true,true,true,true,true,true,true,false,false,false,false,false] rfl rfl (any_of HT_.out (by kernel_rfl)) (fun _ _ _ h => h) (Or.inr ⟨by rfl,rfl⟩) ?_ ?_;rotate_left
      ·simp only [wf_preprocess];rfl
      refine pure_ (i := 19) (N := some 29) (v := undef) (a' := ?_) #[true,true,true,true,true,true,true,true,true,true,true,true,true,true,true,true,true,true,true,true,false,false,false,false] rfl rfl (any_of HT_.out (by kernel_rfl)) (fun _ _ _ h => h) (Or.inr ⟨by rfl,rfl⟩) ?_ ?_;rotate_left
      ·simp only [wf_preprocess];rfl
      refine pure_ (i := 20) (N := some 30) (v := undef) (a' := ?_) #[true,true,true,true,true,true,true,true,true,true,true,true,true,true,true,true,true,true,true,true,true,false,false,false] rfl rfl (any_of HT_.out (by kernel_rfl)) (fun _ _ _ h => h) (Or.inr ⟨by rfl,rfl⟩) ?_ ?_;rotate_left
      ·simp only [wf_preprocess];rfl
      refine pure_ (i := 21) (N := some 31) (v := undef) (a' := ?_) #[true,true,true,true,true,true,true,true,true,true,true,true,true,true,true,true,true,true,true,true,true,true,false,false] rfl rfl (any_of HT_.out (by kernel_rfl)) (fun _ _ _ h => h) (Or.inr ⟨by rfl,rfl⟩) ?_ ?_;rotate_left
      ·simp only [wf_preprocess];rfl
      refine pure_ (i := 22) (N := some 32) (v := undef) (a' := ?_) #[true,true,true,true,true,true,true,true,true,true,true,true,true,true,true,true,true,true,true,true,true,true,true,false] rfl rfl (any_of HT_.out (by kernel_rfl)) (fun _ _ _ h => h) (Or.inr ⟨by rfl,rfl⟩) ?_ ?_;rotate_left
      ·simp only [wf_preprocess];rfl
      refine pure_ (i := 23) (N := some 33) (v := ?_) (a' := ?_) #[true,true,true,true,true,true,true,true,true,true,true,true,true,true,true,true,true,true,true,true,true,true,true,true] rfl rfl (any_of HT_.out (by kernel_rfl)) (fun _ _ _ h => h) (Or.inl ⟨by rfl,?_⟩) ?_ ?_;rotate_left
      ·intro w';go_simp;with_reducible rfl
      rotate_left
      ·simp only [wf_preprocess];rfl
      refine done_ (done_of HT_.out (by kernel_rfl)) ?_
      try go_wp2
      go_ret;exact ⟨by rfl,HB.out⟩
    ·rw [if_neg c3] at H;exact absurd H (by simp)
   ·rw [if_neg c2] at H;have c2b0 : decide (x3_1 < (l0.length : Int)) = false := decide_eq_false c2;clear c2
    by_cases c19 : (l0.length : Int) ≤ 12
    ·rw [if_pos c19] at H;have c19b0 : decide ((l0.length : Int) ≤ 12) = true := decide_eq_true c19;have c19b1 : decide (l0.length ≤ 12) = true := decide_eq_true (by omega);clear c19;replace H := Option.bind_eq_some_iff.mp H;obtain ⟨t122,A200,H⟩ := H;replace H : (some (decide (t122 ≤ 1000000))) = some r := H;have A20 := Aside0.mk A200;clear A200;obtain rfl := Option.some.inj H
     go_wp2_with ((go_at_call 124; (with_reducible refine (spec_Wealth.calls k1 _ _ l0 t122 _ ?side1 ?side2 A20.out).mono ?_); (case side1 => repeat (exact (Kd.C_below HR0.out HB.out))); (case side2 => exact HC0.out); rintro e w21 ⟨rfl,hb⟩; have n0_ := Aside0.mk (below_step HB.out hb); clear HB; have HB := n0_; clear n0_; (try clear hb); skip))
     go_ret;exact ⟨by rfl,HB.out⟩
    ·rw [if_neg c19] at H;have c19b0 : decide ((l0.length : Int) ≤ 12) = false := decide_eq_false c19;have c19b1 : decide (l0.length ≤ 12) = false := decide_eq_false (by omega);clear c19;obtain rfl := Option.some.inj H;go_wp2;go_ret;exact ⟨by rfl,HB.out⟩

end Go.Proofs.Ytcbpfofkdipjhaa.PM
