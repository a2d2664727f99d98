/- The machine's side of Go functions: each as a plain function,and that the call does what it says. Written by a program (wip/mprint). -/
import Derived.Test.YtcbpfofkdipjhaaAAPJx0
import Derived.Test.YtcbpfofkdipjhaaAAPJx3
import Derived.Test.YtcbpfofkdipjhaaAAPJx4
namespace Go.Proofs.Ytcbpfofkdipjhaa.PJ
open Go.RowKit Go.Proofs.YtcbpfofkdipjhaaW.PrintWords Go.Proofs.YtcbpfofkdipjhaaW.PrintLast Go.Proofs.YtcbpfofkdipjhaaW.PrintMore
attribute [local wf_preprocess] Act.put List.setIfInBounds_toArray List.set_cons_zero List.set_cons_succ i64_w i32_w
attribute [local go_sem] max2_int min2_int max_two min_two max_three min_three max_four min_four   -- for this text's walks alone
set_option linter.unusedVariables false
set_option linter.unusedSimpArgs false

/-! ### laws_heldAcctS: function 56 -/
def laws_heldAcctS.l0 : Nat → List (S63) → Int → Int → Option (Int)
 | 0,_,_,_ => none
 | k + 1,x0,x1,x5 => if x5 < (x0.length : Int) then (if 0 ≤ x5 then ((laws_markText.f k x1).bind fun t163 => (if ((rd_T63 x0 x5).f0).toList = t163.toList then (if ((rd_T63 x0 x5).f1) = (wrap64 (x1 + 1)) then (if ((rd_T63 x0 x5).f2) = (wrap64 ((wrap64 (x1 + 1)) + 1)) then (if ((rd_T63 x0 x5).f3) = (wrap64 ((wrap64 ((wrap64 (x1 + 1)) + 1)) + 1)) then ((laws_heldLeaveS.f k ((rd_T63 x0 x5).f4) (wrap64 ((wrap64 ((wrap64 ((wrap64 (x1 + 1)) + 1)) + 1)) + 1))).bind fun t168 => (if t168 < 0 then (some (-1)) else (laws_heldAcctS.l0 k x0 t168 (wrap64 (x5 + 1))))) else (some (-1))) else (some (-1))) else (some (-1))) else (some (-1)))) else (none)) else (some x1)
def laws_heldAcctS.f (k : Nat) (l0 : List (S63)) (a1 : Int) : Option (Int) := laws_heldAcctS.l0 k l0 a1 0
def laws_heldAcctS.T4 : Bool × List (List Nat × List Nat) := (true,[([],[]),([],[]),([0,1],[0,1]),([2],[2]),([3],[3]),([],[]),([5],[5]),([4,6],[4,6])])
def laws_heldAcctS.B4 : List Nat := [0,0,3,7,15,0,32,127]
theorem laws_heldAcctS.tab4 : rtab .any (opsOf Try.f56 4) = laws_heldAcctS.T4 := by kernel_rfl
theorem laws_heldAcctS.bits4 : waitsOk laws_heldAcctS.T4.2 laws_heldAcctS.B4 = true := by kernel_rfl
set_option maxHeartbeats 8000000 in
set_option maxRecDepth 100000 in
theorem laws_heldAcctS.calls (k : Nat) (A0 : Option Addr) (c0 : Nat) (l0 : List (S63)) (a1 : Int) (r : Int) (w : World) (hr0 : Kd.C k63 w A0 l0.length l0) (hc0 : l0.length ≤ c0) (h : laws_heldAcctS.f k l0 a1 = some r) :
  Calls Try.prog 56 #[.slice A0 l0.length c0,.int .i64 a1] w fun e w' => e = .returned (.int .i64 r) ∧ Below w.heap.size w w' := by
 have HR0 := Aside0.mk hr0;have HC0 := Aside0.mk hc0;clear hr0 hc0;have HB := Aside0.mk (Below.refl w.heap.size w);have H : (laws_heldAcctS.l0 k l0 a1 0) = some r := h;clear h;have H' := Aside0.mk H;clear H;go_enter Try.func56,Try.ntmps56;go_wp2
 go_loopg [1,5] k (fun kq v1 v5 w' => ∃ (x1_1 : Int) (x5_1 : Int),v1 = .int .i64 x1_1 ∧ v5 = .int .i64 x5_1 ∧ Aside0 (laws_heldAcctS.l0 kq l0 x1_1 x5_1 = some r) ∧ Aside0 (kq ≤ k) ∧ Aside0 (Below w.heap.size w w'))
 case atStart => exact ⟨(a1),(0),(by rfl),(by rfl),H',⟨Nat.le_refl _⟩,⟨HB.out⟩⟩
 case round =>
  clear H'
  try clear p2
  obtain ⟨x1_1,x5_1,rfl,rfl,HA,HK1,HB⟩ := hrel
  cases gk with
  | zero => exact absurd HA.out (by simp [laws_heldAcctS.l0])
  | succ k1 =>
   have H := HA.out;clear HA;simp only [laws_heldAcctS.l0] at H
   by_cases c3 : x5_1 < (l0.length : Int)
   ·rw [if_pos c3] at H;have c3b0 : decide (x5_1 < (l0.length : Int)) = true := decide_eq_true c3;clear c3
    by_cases c4 : 0 ≤ x5_1
    ·rw [if_pos c4] at H;have c4b0 : decide (0 ≤ x5_1) = true := decide_eq_true c4;clear c4;replace H := Option.bind_eq_some_iff.mp H;obtain ⟨t163,A50,H⟩ := H;replace H : (if ((rd_T63 l0 x5_1).f0).toList = t163.toList then (if ((rd_T63 l0 x5_1).f1) = (wrap64 (x1_1 + 1)) then (if ((rd_T63 l0 x5_1).f2) = (wrap64 ((wrap64 (x1_1 + 1)) + 1)) then (if ((rd_T63 l0 x5_1).f3) = (wrap64 ((wrap64 ((wrap64 (x1_1 + 1)) + 1)) + 1)) then ((laws_heldLeaveS.f k1 ((rd_T63 l0 x5_1).f4) (wrap64 ((wrap64 ((wrap64 ((wrap64 (x1_1 + 1)) + 1)) + 1)) + 1))).bind fun t168 => (if t168 < 0 then (some (-1)) else (laws_heldAcctS.l0 k1 l0 t168 (wrap64 (x5_1 + 1))))) else (some (-1))) else (some (-1))) else (some (-1))) else (some (-1))) = some r := H;have A5 := Aside0.mk A50;clear A50
     by_cases c6 : ((rd_T63 l0 x5_1).f0).toList = t163.toList
     ·rw [if_pos c6] at H;have c6b0 : (((rd_T63 l0 x5_1).f0).toList == t163.toList) = true := beq_iff_eq.mpr c6;have c6b1 : (((rd_T63 l0 x5_1).f0).toList != t163.toList) = false := bne_eq_false_iff_eq.mpr c6;clear c6
      by_cases c7 : ((rd_T63 l0 x5_1).f1) = (wrap64 (x1_1 + 1))
      ·rw [if_pos c7] at H;have c7b0 : (((rd_T63 l0 x5_1).f1) == (wrap64 (x1_1 + 1))) = true := beq_iff_eq.mpr c7;have c7b1 : (((rd_T63 l0 x5_1).f1) != (wrap64 (x1_1 + 1))) = false := bne_eq_false_iff_eq.mpr c7;clear c7
       by_cases c8 : ((rd_T63 l0 x5_1).f2) = (wrap64 ((wrap64 (x1_1 + 1)) + 1))
       ·rw [if_pos c8] at H;have c8b0 : (((rd_T63 l0 x5_1).f2) == (wrap64 ((wrap64 (x1_1 + 1)) + 1))) = true := beq_iff_eq.mpr c8;have c8b1 : (((rd_T63 l0 x5_1).f2) != (wrap64 ((wrap64 (x1_1 + 1)) + 1))) = false := bne_eq_false_iff_eq.mpr c8;clear c8
        by_cases c9 : ((rd_T63 l0 x5_1).f3) = (wrap64 ((wrap64 ((wrap64 (x1_1 + 1)) + 1)) + 1))
        ·rw [if_pos c9] at H;have c9b0 : (((rd_T63 l0 x5_1).f3) == (wrap64 ((wrap64 ((wrap64 (x1_1 + 1)) + 1)) + 1))) = true := beq_iff_eq.mpr c9;have c9b1 : (((rd_T63 l0 x5_1).f3) != (wrap64 ((wrap64 ((wrap64 (x1_1 + 1)) + 1)) + 1))) = false := bne_eq_false_iff_eq.mpr c9;clear c9;replace H := Option.bind_eq_some_iff.mp H;obtain ⟨t168,A100,H⟩ := H;replace H : (if t168 < 0 then (some (-1)) else (laws_heldAcctS.l0 k1 l0 t168 (wrap64 (x5_1 + 1)))) = some r := H;have A10 := Aside0.mk A100;clear A100
         by_cases c11 : t168 < 0
         ·rw [if_pos c11] at H;have c11b0 : decide (t168 < 0) = true := decide_eq_true c11;clear c11;obtain rfl := Option.some.inj H
          try go_wp2
          have n0_ := Aside0.mk (below_drew1 HB.out);clear HB;have HB := n0_;clear n0_;have p162 : 0 ≤ (x5_1 : Int) := of_decide_eq_true (by (with_reducible assumption));have q162 : x5_1 < (l0.length : Int) := of_decide_eq_true (by (with_reducible assumption));obtain ⟨ad162,A162_4,c162_4,e162,hx162_0,hx162_1,hx162_2,hx162_3,hx162_4,hl162_4,hi162_4⟩ := at_T63 HR0.out x5_1 p162 q162;have hw162_4 := hx162_4;have hw162_3 := hx162_3;have hw162_2 := hx162_2;have hw162_1 := hx162_1;have hw162_0 := hx162_0
          cases e162
          replace hx162_0 := up_ HB.out hx162_0;replace hx162_1 := up_ HB.out hx162_1;replace hx162_2 := up_ HB.out hx162_2;replace hx162_3 := up_ HB.out hx162_3;replace hx162_4 := up_ HB.out hx162_4;have HR162_4 := Aside0.mk hi162_4;have HC162_4 := Aside0.mk hl162_4;clear hi162_4 hl162_4;replace p162 := eq_true p162;replace q162 := eq_true q162;refine start_ (n := 8) (S := fun w' => w'.cell? (ad162.add ((x5_1).toNat * 5)) = some (.string ((rd_T63 l0 x5_1).f0)) ∧ w'.cell? ⟨(ad162.add ((x5_1).toNat * 5)).block,(ad162.add ((x5_1).toNat * 5)).off + 1,none⟩ = some (.int .i64 ((rd_T63 l0 x5_1).f1)) ∧ w'.cell? ⟨(ad162.add ((x5_1).toNat * 5)).block,(ad162.add ((x5_1).toNat * 5)).off + 2,none⟩ = some (.int .i64 ((rd_T63 l0 x5_1).f2)) ∧ w'.cell? ⟨(ad162.add ((x5_1).toNat * 5)).block,(ad162.add ((x5_1).toNat * 5)).off + 3,none⟩ = some (.int .i64 ((rd_T63 l0 x5_1).f3)) ∧ w'.cell? ⟨(ad162.add ((x5_1).toNat * 5)).block,(ad162.add ((x5_1).toNat * 5)).off + 4,none⟩ = some (.slice A162_4 ((rd_T63 l0 x5_1).f4).length c162_4)) (ds := []) #[false,false,false,false,false,false,false,false] (by kernel_rfl) rfl rfl ⟨(up_ HB.out hw162_0),(up_ HB.out hw162_1),(up_ HB.out hw162_2),(up_ HB.out hw162_3),(up_ HB.out hw162_4)⟩ (fun hHeld => ?_); refine with_tabW laws_heldAcctS.tab4 laws_heldAcctS.bits4 (fun HT_ HW_ => ?_)
          generalize wr.drew = w12 at HB HR162_4 hx162_0 hx162_1 hx162_2 hx162_3 hx162_4 hHeld ⊢
          refine pure_ (i := 0) (N := some 12) (v := ?_) (a' := ?_) #[true,false,false,false,false,false,false,false] rfl rfl (any_of HT_.out (by kernel_rfl)) (fun _ _ _ h => h) (Or.inl ⟨by rfl,?_⟩) ?_ ?_;rotate_left
          ·intro w';go_simp;with_reducible rfl
          rotate_left
          ·simp only [wf_preprocess];rfl
          refine pure_ (i := 1) (N := some 13) (v := ?_) (a' := ?_) #[true,true,false,false,false,false,false,false] rfl rfl (any_of HT_.out (by kernel_rfl)) (fun _ _ _ h => h) (Or.inl ⟨by rfl,?_⟩) ?_ ?_;rotate_left
          ·intro w';go_simp;with_reducible rfl
          rotate_left
          ·simp only [wf_preprocess];rfl
          refine pure_ (i := 2) (N := some 14) (v := ?_) (a' := ?_) #[true,true,true,false,false,false,false,false] rfl rfl (any_of HT_.out (by kernel_rfl)) (fun _ _ _ h => h) (Or.inl ⟨by rfl,?_⟩) ?_ ?_;rotate_left
          ·intro w';go_simp;with_reducible rfl
          rotate_left
          ·simp only [wf_preprocess];rfl
          refine pure_ (i := 3) (N := some 15) (v := ?_) (a' := ?_) #[true,true,true,true,false,false,false,false] rfl rfl (any_of HT_.out (by kernel_rfl)) (fun _ _ _ h => h) (Or.inl ⟨by rfl,?_⟩) ?_ ?_;rotate_left
          ·intro w';go_simp;with_reducible rfl
          rotate_left
          ·simp only [wf_preprocess];rfl
          refine pure_ (i := 5) (N := some 17) (v := ?_) (a' := ?_) #[true,true,true,true,false,true,false,false] rfl rfl (any_of HT_.out (by kernel_rfl)) (fun _ _ _ h => h) (Or.inl ⟨by rfl,?_⟩) ?_ ?_;rotate_left
          ·intro w';go_simp;with_reducible rfl
          rotate_left
          ·simp only [wf_preprocess];rfl
          refine take_ (i := 4) (N := some 16) (v := ?_) (a' := ?_) #[true,true,true,true,true,true,false,false] rfl rfl (take_ofW HT_.out HW_.out (by kernel_rfl)) (fun _ _ _ h => h) (Or.inl ⟨by rfl,?_⟩) hHeld ?_ ?_;rotate_left
          ·rintro w' ⟨s0,s1,s2,s3,s4⟩;go_simp;with_reducible rfl
          rotate_left
          ·simp only [wf_preprocess];rfl
          refine one_ (i := 6) (N := some 18) #[true,true,true,true,true,true,true,false] rfl rfl (one_of HT_.out (by kernel_rfl)) (by decide) (fun K hK => ?_);refine goes_ Try.func74 (by kernel_rfl) rfl #[.int .i64 x1_1] (by rfl) rfl rfl (by (try simp only [List.map_toArray,List.map_cons,List.map_nil]); rfl) ?_
          with_reducible refine (laws_markText.calls k1 x1_1 t163 _ A5.out).mono ?_
          rintro e w13 ⟨rfl,hb⟩;refine ⟨_,rfl,?_⟩;have n0_ := Aside0.mk (below_step HB.out hb);clear HB;have HB := n0_;clear n0_
          (try clear hb)
          skip
          skip
          skip
          refine hK.out _ _ ⟨(up_ HB.out hw162_0),(up_ HB.out hw162_1),(up_ HB.out hw162_2),(up_ HB.out hw162_3),(up_ HB.out hw162_4)⟩ (fun hHeld => ?_);clear hK K;refine norm_ (a' := ?_) ?_ ?_;rotate_left
          ·show Act.put _ (some 18) _ = _
           simp only [wf_preprocess];rfl
          refine pure_ (i := 7) (N := some 19) (v := ?_) (a' := ?_) #[true,true,true,true,true,true,true,true] rfl rfl (any_of HT_.out (by kernel_rfl)) (fun _ _ _ h => h) (Or.inl ⟨by rfl,?_⟩) ?_ ?_;rotate_left
          ·intro w';go_simp;with_reducible rfl
          rotate_left
          ·simp only [wf_preprocess];rfl
          refine done_ (done_of HT_.out (by kernel_rfl)) ?_;have p164 : 0 ≤ (x5_1 : Int) := of_decide_eq_true (by (with_reducible assumption));have q164 : x5_1 < (l0.length : Int) := of_decide_eq_true (by (with_reducible assumption));obtain ⟨ad164,A164_4,c164_4,e164,hx164_0,hx164_1,hx164_2,hx164_3,hx164_4,hl164_4,hi164_4⟩ := at_T63 HR0.out x5_1 p164 q164;obtain rfl : ad162 = ad164 := (by injection e164);replace hx164_0 := up_ HB.out hx164_0;replace hx164_1 := up_ HB.out hx164_1;replace hx164_2 := up_ HB.out hx164_2;replace hx164_3 := up_ HB.out hx164_3;replace hx164_4 := up_ HB.out hx164_4;have HR164_4 := Aside0.mk hi164_4;have HC164_4 := Aside0.mk hl164_4;clear hi164_4 hl164_4;replace p164 := eq_true p164;replace q164 := eq_true q164
          (try clear hHeld)
          have p165 : 0 ≤ (x5_1 : Int) := of_decide_eq_true (by (with_reducible assumption));have q165 : x5_1 < (l0.length : Int) := of_decide_eq_true (by (with_reducible assumption));obtain ⟨ad165,A165_4,c165_4,e165,hx165_0,hx165_1,hx165_2,hx165_3,hx165_4,hl165_4,hi165_4⟩ := at_T63 HR0.out x5_1 p165 q165;obtain rfl : ad162 = ad165 := (by injection e165);replace hx165_0 := up_ HB.out hx165_0;replace hx165_1 := up_ HB.out hx165_1;replace hx165_2 := up_ HB.out hx165_2;replace hx165_3 := up_ HB.out hx165_3;replace hx165_4 := up_ HB.out hx165_4;have HR165_4 := Aside0.mk hi165_4;have HC165_4 := Aside0.mk hl165_4;clear hi165_4 hl165_4;replace p165 := eq_true p165;replace q165 := eq_true q165;have ea_ := Option.some.inj (hx164_4.symm.trans hx165_4)
          injection ea_ with ea_ en_ ec_
          subst ea_;subst ec_;clear en_;have p166 : 0 ≤ (x5_1 : Int) := of_decide_eq_true (by (with_reducible assumption));have q166 : x5_1 < (l0.length : Int) := of_decide_eq_true (by (with_reducible assumption));obtain ⟨ad166,A166_4,c166_4,e166,hx166_0,hx166_1,hx166_2,hx166_3,hx166_4,hl166_4,hi166_4⟩ := at_T63 HR0.out x5_1 p166 q166;obtain rfl : ad162 = ad166 := (by injection e166);replace hx166_0 := up_ HB.out hx166_0;replace hx166_1 := up_ HB.out hx166_1;replace hx166_2 := up_ HB.out hx166_2;replace hx166_3 := up_ HB.out hx166_3;replace hx166_4 := up_ HB.out hx166_4;have HR166_4 := Aside0.mk hi166_4;have HC166_4 := Aside0.mk hl166_4;clear hi166_4 hl166_4;replace p166 := eq_true p166;replace q166 := eq_true q166;have ea_ := Option.some.inj (hx164_4.symm.trans hx166_4)
          injection ea_ with ea_ en_ ec_
          subst ea_;subst ec_;clear en_;have p167 : 0 ≤ (x5_1 : Int) := of_decide_eq_true (by (with_reducible assumption));have q167 : x5_1 < (l0.length : Int) := of_decide_eq_true (by (with_reducible assumption));obtain ⟨ad167,A167_4,c167_4,e167,hx167_0,hx167_1,hx167_2,hx167_3,hx167_4,hl167_4,hi167_4⟩ := at_T63 HR0.out x5_1 p167 q167;obtain rfl : ad162 = ad167 := (by injection e167);replace hx167_0 := up_ HB.out hx167_0;replace hx167_1 := up_ HB.out hx167_1;replace hx167_2 := up_ HB.out hx167_2;replace hx167_3 := up_ HB.out hx167_3;replace hx167_4 := up_ HB.out hx167_4;have HR167_4 := Aside0.mk hi167_4;have HC167_4 := Aside0.mk hl167_4;clear hi167_4 hl167_4;replace p167 := eq_true p167;replace q167 := eq_true q167;have ea_ := Option.some.inj (hx164_4.symm.trans hx167_4)
          injection ea_ with ea_ en_ ec_
          subst ea_;subst ec_;clear en_
          try go_wp2_with (((with_reducible refine gate_callee (f := 103) rfl ?_); refine goesL_ (some 55) rfl rfl Try.func103 (by kernel_rfl) rfl #[.slice A164_4 ((rd_T63 l0 x5_1).f4).length c164_4,.int .i64 (wrap64 ((wrap64 ((wrap64 ((wrap64 (x1_1 + 1)) + 1)) + 1)) + 1))] rfl (by (try simp only [List.map_toArray,List.map_cons,List.map_nil]); rfl) ?_; (with_reducible refine (laws_heldLeaveS.calls k1 _ _ ((rd_T63 l0 x5_1).f4) (wrap64 ((wrap64 ((wrap64 ((wrap64 (x1_1 + 1)) + 1)) + 1)) + 1)) t168 _ ?side1 ?side2 A10.out).mono ?_); (case side1 => repeat (exact (Kd.C_below HR167_4.out HB.out))); (case side2 => exact HC167_4.out); rintro e w' ⟨rfl,⟨nd,rfl⟩⟩; refine ⟨_,rfl,?_⟩))
          go_ret;exact ⟨by rfl,by repeat (with_reducible first | exact HB.out | apply pw_below_drewN)⟩
         ·rw [if_neg c11] at H;have c11b0 : decide (t168 < 0) = false := decide_eq_false c11;clear c11;have H' := Aside0.mk H;clear H
          try go_wp2
          have n0_ := Aside0.mk (below_drew1 HB.out);clear HB;have HB := n0_;clear n0_;have p162 : 0 ≤ (x5_1 : Int) := of_decide_eq_true (by (with_reducible assumption));have q162 : x5_1 < (l0.length : Int) := of_decide_eq_true (by (with_reducible assumption));obtain ⟨ad162,A162_4,c162_4,e162,hx162_0,hx162_1,hx162_2,hx162_3,hx162_4,hl162_4,hi162_4⟩ := at_T63 HR0.out x5_1 p162 q162;have hw162_4 := hx162_4;have hw162_3 := hx162_3;have hw162_2 := hx162_2;have hw162_1 := hx162_1;have hw162_0 := hx162_0
          cases e162
          replace hx162_0 := up_ HB.out hx162_0;replace hx162_1 := up_ HB.out hx162_1;replace hx162_2 := up_ HB.out hx162_2;replace hx162_3 := up_ HB.out hx162_3;replace hx162_4 := up_ HB.out hx162_4;have HR162_4 := Aside0.mk hi162_4;have HC162_4 := Aside0.mk hl162_4;clear hi162_4 hl162_4;replace p162 := eq_true p162;replace q162 := eq_true q162;refine start_ (n := 8) (S := fun w' => w'.cell? (ad162.add ((x5_1).toNat * 5)) = some (.string ((rd_T63 l0 x5_1).f0)) ∧ w'.cell? ⟨(ad162.add ((x5_1).toNat * 5)).block,(ad162.add ((x5_1).toNat * 5)).off + 1,none⟩ = some (.int .i64 ((rd_T63 l0 x5_1).f1)) ∧ w'.cell? ⟨(ad162.add ((x5_1).toNat * 5)).block,(ad162.add ((x5_1).toNat * 5)).off + 2,none⟩ = some (.int .i64 ((rd_T63 l0 x5_1).f2)) ∧ w'.cell? ⟨(ad162.add ((x5_1).toNat * 5)).block,(ad162.add ((x5_1).toNat * 5)).off + 3,none⟩ = some (.int .i64 ((rd_T63 l0 x5_1).f3)) ∧ w'.cell? ⟨(ad162.add ((x5_1).toNat * 5)).block,(ad162.add ((x5_1).toNat * 5)).off + 4,none⟩ = some (.slice A162_4 ((rd_T63 l0 x5_1).f4).length c162_4)) (ds := []) #[false,false,false,false,false,false,false,false] (by kernel_rfl) rfl rfl ⟨(up_ HB.out hw162_0),(up_ HB.out hw162_1),(up_ HB.out hw162_2),(up_ HB.out hw162_3),(up_ HB.out hw162_4)⟩ (fun hHeld => ?_); refine with_tabW laws_heldAcctS.tab4 laws_heldAcctS.bits4 (fun HT_ HW_ => ?_)
          generalize wr.drew = w14 at HB HR162_4 hx162_0 hx162_1 hx162_2 hx162_3 hx162_4 hHeld ⊢
          refine pure_ (i := 0) (N := some 12) (v := ?_) (a' := ?_) #[true,false,false,false,false,false,false,false] rfl rfl (any_of HT_.out (by kernel_rfl)) (fun _ _ _ h => h) (Or.inl ⟨by rfl,?_⟩) ?_ ?_;rotate_left
          ·intro w';go_simp;with_reducible rfl
          rotate_left
          ·simp only [wf_preprocess];rfl
          refine pure_ (i := 1) (N := some 13) (v := ?_) (a' := ?_) #[true,true,false,false,false,false,false,false] rfl rfl (any_of HT_.out (by kernel_rfl)) (fun _ _ _ h => h) (Or.inl ⟨by rfl,?_⟩) ?_ ?_;rotate_left
          ·intro w';go_simp;with_reducible rfl
          rotate_left
          ·simp only [wf_preprocess];rfl
          refine pure_ (i := 2) (N := some 14) (v := ?_) (a' := ?_) #[true,true,true,false,false,false,false,false] rfl rfl (any_of HT_.out (by kernel_rfl)) (fun _ _ _ h => h) (Or.inl ⟨by rfl,?_⟩) ?_ ?_;rotate_left
          ·intro w';go_simp;with_reducible rfl
          rotate_left
          ·simp only [wf_preprocess];rfl
          refine pure_ (i := 3) (N := some 15) (v := ?_) (a' := ?_) #[true,true,true,true,false,false,false,false] rfl rfl (any_of HT_.out (by kernel_rfl)) (fun _ _ _ h => h) (Or.inl ⟨by rfl,?_⟩) ?_ ?_;rotate_left
          ·intro w';go_simp;with_reducible rfl
          rotate_left
          ·simp only [wf_preprocess];rfl
          refine pure_ (i := 5) (N := some 17) (v := ?_) (a' := ?_) #[true,true,true,true,false,true,false,false] rfl rfl (any_of HT_.out (by kernel_rfl)) (fun _ _ _ h => h) (Or.inl ⟨by rfl,?_⟩) ?_ ?_;rotate_left
          ·intro w';go_simp;with_reducible rfl
          rotate_left
          ·simp only [wf_preprocess];rfl
          refine take_ (i := 4) (N := some 16) (v := ?_) (a' := ?_) #[true,true,true,true,true,true,false,false] rfl rfl (take_ofW HT_.out HW_.out (by kernel_rfl)) (fun _ _ _ h => h) (Or.inl ⟨by rfl,?_⟩) hHeld ?_ ?_;rotate_left
          ·rintro w' ⟨s0,s1,s2,s3,s4⟩;go_simp;with_reducible rfl
          rotate_left
          ·simp only [wf_preprocess];rfl
          refine one_ (i := 6) (N := some 18) #[true,true,true,true,true,true,true,false] rfl rfl (one_of HT_.out (by kernel_rfl)) (by decide) (fun K hK => ?_);refine goes_ Try.func74 (by kernel_rfl) rfl #[.int .i64 x1_1] (by rfl) rfl rfl (by (try simp only [List.map_toArray,List.map_cons,List.map_nil]); rfl) ?_
          with_reducible refine (laws_markText.calls k1 x1_1 t163 _ A5.out).mono ?_
          rintro e w15 ⟨rfl,hb⟩;refine ⟨_,rfl,?_⟩;have n0_ := Aside0.mk (below_step HB.out hb);clear HB;have HB := n0_;clear n0_
          (try clear hb)
          skip
          skip
          skip
          refine hK.out _ _ ⟨(up_ HB.out hw162_0),(up_ HB.out hw162_1),(up_ HB.out hw162_2),(up_ HB.out hw162_3),(up_ HB.out hw162_4)⟩ (fun hHeld => ?_);clear hK K;refine norm_ (a' := ?_) ?_ ?_;rotate_left
          ·show Act.put _ (some 18) _ = _
           simp only [wf_preprocess];rfl
          refine pure_ (i := 7) (N := some 19) (v := ?_) (a' := ?_) #[true,true,true,true,true,true,true,true] rfl rfl (any_of HT_.out (by kernel_rfl)) (fun _ _ _ h => h) (Or.inl ⟨by rfl,?_⟩) ?_ ?_;rotate_left
          ·intro w';go_simp;with_reducible rfl
          rotate_left
          ·simp only [wf_preprocess];rfl
          refine done_ (done_of HT_.out (by kernel_rfl)) ?_;have p164 : 0 ≤ (x5_1 : Int) := of_decide_eq_true (by (with_reducible assumption));have q164 : x5_1 < (l0.length : Int) := of_decide_eq_true (by (with_reducible assumption));obtain ⟨ad164,A164_4,c164_4,e164,hx164_0,hx164_1,hx164_2,hx164_3,hx164_4,hl164_4,hi164_4⟩ := at_T63 HR0.out x5_1 p164 q164;obtain rfl : ad162 = ad164 := (by injection e164);replace hx164_0 := up_ HB.out hx164_0;replace hx164_1 := up_ HB.out hx164_1;replace hx164_2 := up_ HB.out hx164_2;replace hx164_3 := up_ HB.out hx164_3;replace hx164_4 := up_ HB.out hx164_4;have HR164_4 := Aside0.mk hi164_4;have HC164_4 := Aside0.mk hl164_4;clear hi164_4 hl164_4;replace p164 := eq_true p164;replace q164 := eq_true q164
          (try clear hHeld)
          have p165 : 0 ≤ (x5_1 : Int) := of_decide_eq_true (by (with_reducible assumption));have q165 : x5_1 < (l0.length : Int) := of_decide_eq_true (by (with_reducible assumption));obtain ⟨ad165,A165_4,c165_4,e165,hx165_0,hx165_1,hx165_2,hx165_3,hx165_4,hl165_4,hi165_4⟩ := at_T63 HR0.out x5_1 p165 q165;obtain rfl : ad162 = ad165 := (by injection e165);replace hx165_0 := up_ HB.out hx165_0;replace hx165_1 := up_ HB.out hx165_1;replace hx165_2 := up_ HB.out hx165_2;replace hx165_3 := up_ HB.out hx165_3;replace hx165_4 := up_ HB.out hx165_4;have HR165_4 := Aside0.mk hi165_4;have HC165_4 := Aside0.mk hl165_4;clear hi165_4 hl165_4;replace p165 := eq_true p165;replace q165 := eq_true q165;have ea_ := Option.some.inj (hx164_4.symm.trans hx165_4)
          injection ea_ with ea_ en_ ec_
          subst ea_;subst ec_;clear en_;have p166 : 0 ≤ (x5_1 : Int) := of_decide_eq_true (by (with_reducible assumption));have q166 : x5_1 < (l0.length : Int) := of_decide_eq_true (by (with_reducible assumption));obtain ⟨ad166,A166_4,c166_4,e166,hx166_0,hx166_1,hx166_2,hx166_3,hx166_4,hl166_4,hi166_4⟩ := at_T63 HR0.out x5_1 p166 q166;obtain rfl : ad162 = ad166 := (by injection e166);replace hx166_0 := up_ HB.out hx166_0;replace hx166_1 := up_ HB.out hx166_1;replace hx166_2 := up_ HB.out hx166_2;replace hx166_3 := up_ HB.out hx166_3;replace hx166_4 := up_ HB.out hx166_4;have HR166_4 := Aside0.mk hi166_4;have HC166_4 := Aside0.mk hl166_4;clear hi166_4 hl166_4;replace p166 := eq_true p166;replace q166 := eq_true q166;have ea_ := Option.some.inj (hx164_4.symm.trans hx166_4)
          injection ea_ with ea_ en_ ec_
          subst ea_;subst ec_;clear en_;have p167 : 0 ≤ (x5_1 : Int) := of_decide_eq_true (by (with_reducible assumption));have q167 : x5_1 < (l0.length : Int) := of_decide_eq_true (by (with_reducible assumption));obtain ⟨ad167,A167_4,c167_4,e167,hx167_0,hx167_1,hx167_2,hx167_3,hx167_4,hl167_4,hi167_4⟩ := at_T63 HR0.out x5_1 p167 q167;obtain rfl : ad162 = ad167 := (by injection e167);replace hx167_0 := up_ HB.out hx167_0;replace hx167_1 := up_ HB.out hx167_1;replace hx167_2 := up_ HB.out hx167_2;replace hx167_3 := up_ HB.out hx167_3;replace hx167_4 := up_ HB.out hx167_4;have HR167_4 := Aside0.mk hi167_4;have HC167_4 := Aside0.mk hl167_4;clear hi167_4 hl167_4;replace p167 := eq_true p167;replace q167 := eq_true q167;have ea_ := Option.some.inj (hx164_4.symm.trans hx167_4)
          injection ea_ with ea_ en_ ec_
          subst ea_;subst ec_;clear en_
          try go_wp2_with (((with_reducible refine gate_callee (f := 103) rfl ?_); refine goesL_ (some 55) rfl rfl Try.func103 (by kernel_rfl) rfl #[.slice A164_4 ((rd_T63 l0 x5_1).f4).length c164_4,.int .i64 (wrap64 ((wrap64 ((wrap64 ((wrap64 (x1_1 + 1)) + 1)) + 1)) + 1))] rfl (by (try simp only [List.map_toArray,List.map_cons,List.map_nil]); rfl) ?_; (with_reducible refine (laws_heldLeaveS.calls k1 _ _ ((rd_T63 l0 x5_1).f4) (wrap64 ((wrap64 ((wrap64 ((wrap64 (x1_1 + 1)) + 1)) + 1)) + 1)) t168 _ ?side1 ?side2 A10.out).mono ?_); (case side1 => repeat (exact (Kd.C_below HR167_4.out HB.out))); (case side2 => exact HC167_4.out); rintro e w' ⟨rfl,⟨nd,rfl⟩⟩; refine ⟨_,rfl,?_⟩))
          go_roundg k1
          case measure => have := HK1.out; omega
          case rel => exact ⟨(t168),(wrap64 (x5_1 + 1)),(by rfl),(by rfl),H',⟨by have := HK1.out; omega⟩,⟨by repeat (with_reducible first | exact HB.out | apply pw_below_drewN)⟩⟩
        ·rw [if_neg c9] at H;have c9b0 : (((rd_T63 l0 x5_1).f3) == (wrap64 ((wrap64 ((wrap64 (x1_1 + 1)) + 1)) + 1))) = false := beq_eq_false_iff_ne.mpr c9;have c9b1 : (((rd_T63 l0 x5_1).f3) != (wrap64 ((wrap64 ((wrap64 (x1_1 + 1)) + 1)) + 1))) = true := bne_iff_ne.mpr c9;obtain rfl := Option.some.inj H
         try go_wp2
         have n0_ := Aside0.mk (below_drew1 HB.out);clear HB;have HB := n0_;clear n0_;have p162 : 0 ≤ (x5_1 : Int) := of_decide_eq_true (by (with_reducible assumption));have q162 : x5_1 < (l0.length : Int) := of_decide_eq_true (by (with_reducible assumption));obtain ⟨ad162,A162_4,c162_4,e162,hx162_0,hx162_1,hx162_2,hx162_3,hx162_4,hl162_4,hi162_4⟩ := at_T63 HR0.out x5_1 p162 q162;have hw162_4 := hx162_4;have hw162_3 := hx162_3;have hw162_2 := hx162_2;have hw162_1 := hx162_1;have hw162_0 := hx162_0
         cases e162
         replace hx162_0 := up_ HB.out hx162_0;replace hx162_1 := up_ HB.out hx162_1;replace hx162_2 := up_ HB.out hx162_2;replace hx162_3 := up_ HB.out hx162_3;replace hx162_4 := up_ HB.out hx162_4;have HR162_4 := Aside0.mk hi162_4;have HC162_4 := Aside0.mk hl162_4;clear hi162_4 hl162_4;replace p162 := eq_true p162;replace q162 := eq_true q162;refine start_ (n := 8) (S := fun w' => w'.cell? (ad162.add ((x5_1).toNat * 5)) = some (.string ((rd_T63 l0 x5_1).f0)) ∧ w'.cell? ⟨(ad162.add ((x5_1).toNat * 5)).block,(ad162.add ((x5_1).toNat * 5)).off + 1,none⟩ = some (.int .i64 ((rd_T63 l0 x5_1).f1)) ∧ w'.cell? ⟨(ad162.add ((x5_1).toNat * 5)).block,(ad162.add ((x5_1).toNat * 5)).off + 2,none⟩ = some (.int .i64 ((rd_T63 l0 x5_1).f2)) ∧ w'.cell? ⟨(ad162.add ((x5_1).toNat * 5)).block,(ad162.add ((x5_1).toNat * 5)).off + 3,none⟩ = some (.int .i64 ((rd_T63 l0 x5_1).f3)) ∧ w'.cell? ⟨(ad162.add ((x5_1).toNat * 5)).block,(ad162.add ((x5_1).toNat * 5)).off + 4,none⟩ = some (.slice A162_4 ((rd_T63 l0 x5_1).f4).length c162_4)) (ds := []) #[false,false,false,false,false,false,false,false] (by kernel_rfl) rfl rfl ⟨(up_ HB.out hw162_0),(up_ HB.out hw162_1),(up_ HB.out hw162_2),(up_ HB.out hw162_3),(up_ HB.out hw162_4)⟩ (fun hHeld => ?_); refine with_tabW laws_heldAcctS.tab4 laws_heldAcctS.bits4 (fun HT_ HW_ => ?_)
         generalize wr.drew = w16 at HB HR162_4 hx162_0 hx162_1 hx162_2 hx162_3 hx162_4 hHeld ⊢
         refine pure_ (i := 0) (N := some 12) (v := ?_) (a' := ?_) #[true,false,false,false,false,false,false,false] rfl rfl (any_of HT_.out (by kernel_rfl)) (fun _ _ _ h => h) (Or.inl ⟨by rfl,?_⟩) ?_ ?_;rotate_left
         ·intro w';go_simp;with_reducible rfl
         rotate_left
         ·simp only [wf_preprocess];rfl
         refine pure_ (i := 1) (N := some 13) (v := ?_) (a' := ?_) #[true,true,false,false,false,false,false,false] rfl rfl (any_of HT_.out (by kernel_rfl)) (fun _ _ _ h => h) (Or.inl ⟨by rfl,?_⟩) ?_ ?_;rotate_left
         ·intro w';go_simp;with_reducible rfl
         rotate_left
         ·simp only [wf_preprocess];rfl
         refine pure_ (i := 2) (N := some 14) (v := ?_) (a' := ?_) #[true,true,true,false,false,false,false,false] rfl rfl (any_of HT_.out (by kernel_rfl)) (fun _ _ _ h => h) (Or.inl ⟨by rfl,?_⟩) ?_ ?_;rotate_left
         ·intro w';go_simp;with_reducible rfl
         rotate_left
         ·simp only [wf_preprocess];rfl
         refine pure_ (i := 3) (N := some 15) (v := ?_) (a' := ?_) #[true,true,true,true,false,false,false,false] rfl rfl (any_of HT_.out (by kernel_rfl)) (fun _ _ _ h => h) (Or.inl ⟨by rfl,?_⟩) ?_ ?_;rotate_left
         ·intro w';go_simp;with_reducible rfl
         rotate_left
         ·simp only [wf_preprocess];rfl
         refine pure_ (i := 5) (N := some 17) (v := ?_) (a' := ?_) #[true,true,true,true,false,true,false,false] rfl rfl (any_of HT_.out (by kernel_rfl)) (fun _ _ _ h => h) (Or.inl ⟨by rfl,?_⟩) ?_ ?_;rotate_left
         ·intro w';go_simp;with_reducible rfl
         rotate_left
         ·simp only [wf_preprocess];rfl
         refine take_ (i := 4) (N := some 16) (v := ?_) (a' := ?_) #[true,true,true,true,true,true,false,false] rfl rfl (take_ofW HT_.out HW_.out (by kernel_rfl)) (fun _ _ _ h => h) (Or.inl ⟨by rfl,?_⟩) hHeld ?_ ?_;rotate_left
         ·rintro w' ⟨s0,s1,s2,s3,s4⟩;go_simp;with_reducible rfl
         rotate_left
         ·simp only [wf_preprocess];rfl
         refine one_ (i := 6) (N := some 18) #[true,true,true,true,true,true,true,false] rfl rfl (one_of HT_.out (by kernel_rfl)) (by decide) (fun K hK => ?_);refine goes_ Try.func74 (by kernel_rfl) rfl #[.int .i64 x1_1] (by rfl) rfl rfl (by (try simp only [List.map_toArray,List.map_cons,List.map_nil]); rfl) ?_
         with_reducible refine (laws_markText.calls k1 x1_1 t163 _ A5.out).mono ?_
         rintro e w17 ⟨rfl,hb⟩;refine ⟨_,rfl,?_⟩;have n0_ := Aside0.mk (below_step HB.out hb);clear HB;have HB := n0_;clear n0_
         (try clear hb)
         skip
         skip
         skip
         refine hK.out _ _ ⟨(up_ HB.out hw162_0),(up_ HB.out hw162_1),(up_ HB.out hw162_2),(up_ HB.out hw162_3),(up_ HB.out hw162_4)⟩ (fun hHeld => ?_);clear hK K;refine norm_ (a' := ?_) ?_ ?_;rotate_left
         ·show Act.put _ (some 18) _ = _
          simp only [wf_preprocess];rfl
         refine pure_ (i := 7) (N := some 19) (v := ?_) (a' := ?_) #[true,true,true,true,true,true,true,true] rfl rfl (any_of HT_.out (by kernel_rfl)) (fun _ _ _ h => h) (Or.inl ⟨by rfl,?_⟩) ?_ ?_;rotate_left
         ·intro w';go_simp;with_reducible rfl
         rotate_left
         ·simp only [wf_preprocess];rfl
         refine done_ (done_of HT_.out (by kernel_rfl)) ?_;have p164 : 0 ≤ (x5_1 : Int) := of_decide_eq_true (by (with_reducible assumption));have q164 : x5_1 < (l0.length : Int) := of_decide_eq_true (by (with_reducible assumption));obtain ⟨ad164,A164_4,c164_4,e164,hx164_0,hx164_1,hx164_2,hx164_3,hx164_4,hl164_4,hi164_4⟩ := at_T63 HR0.out x5_1 p164 q164;obtain rfl : ad162 = ad164 := (by injection e164);replace hx164_0 := up_ HB.out hx164_0;replace hx164_1 := up_ HB.out hx164_1;replace hx164_2 := up_ HB.out hx164_2;replace hx164_3 := up_ HB.out hx164_3;replace hx164_4 := up_ HB.out hx164_4;have HR164_4 := Aside0.mk hi164_4;have HC164_4 := Aside0.mk hl164_4;clear hi164_4 hl164_4;replace p164 := eq_true p164;replace q164 := eq_true q164
         (try clear hHeld)
         have p165 : 0 ≤ (x5_1 : Int) := of_decide_eq_true (by (with_reducible assumption));have q165 : x5_1 < (l0.length : Int) := of_decide_eq_true (by (with_reducible assumption));obtain ⟨ad165,A165_4,c165_4,e165,hx165_0,hx165_1,hx165_2,hx165_3,hx165_4,hl165_4,hi165_4⟩ := at_T63 HR0.out x5_1 p165 q165;obtain rfl : ad162 = ad165 := (by injection e165);replace hx165_0 := up_ HB.out hx165_0;replace hx165_1 := up_ HB.out hx165_1;replace hx165_2 := up_ HB.out hx165_2;replace hx165_3 := up_ HB.out hx165_3;replace hx165_4 := up_ HB.out hx165_4;have HR165_4 := Aside0.mk hi165_4;have HC165_4 := Aside0.mk hl165_4;clear hi165_4 hl165_4;replace p165 := eq_true p165;replace q165 := eq_true q165;have ea_ := Option.some.inj (hx164_4.symm.trans hx165_4)
         injection ea_ with ea_ en_ ec_
         subst ea_;subst ec_;clear en_;have p166 : 0 ≤ (x5_1 : Int) := of_decide_eq_true (by (with_reducible assumption));have q166 : x5_1 < (l0.length : Int) := of_decide_eq_true (by (with_reducible assumption));obtain ⟨ad166,A166_4,c166_4,e166,hx166_0,hx166_1,hx166_2,hx166_3,hx166_4,hl166_4,hi166_4⟩ := at_T63 HR0.out x5_1 p166 q166;obtain rfl : ad162 = ad166 := (by injection e166);replace hx166_0 := up_ HB.out hx166_0;replace hx166_1 := up_ HB.out hx166_1;replace hx166_2 := up_ HB.out hx166_2;replace hx166_3 := up_ HB.out hx166_3;replace hx166_4 := up_ HB.out hx166_4;have HR166_4 := Aside0.mk hi166_4;have HC166_4 := Aside0.mk hl166_4;clear hi166_4 hl166_4;replace p166 := eq_true p166;replace q166 := eq_true q166;have ea_ := Option.some.inj (hx164_4.symm.trans hx166_4)
         injection ea_ with ea_ en_ ec_
         subst ea_;subst ec_;clear en_
         try go_wp2
         go_ret;exact ⟨by rfl,HB.out⟩
       ·rw [if_neg c8] at H;have c8b0 : (((rd_T63 l0 x5_1).f2) == (wrap64 ((wrap64 (x1_1 + 1)) + 1))) = false := beq_eq_false_iff_ne.mpr c8;have c8b1 : (((rd_T63 l0 x5_1).f2) != (wrap64 ((wrap64 (x1_1 + 1)) + 1))) = true := bne_iff_ne.mpr c8;obtain rfl := Option.some.inj H
        try go_wp2
        have n0_ := Aside0.mk (below_drew1 HB.out);clear HB;have HB := n0_;clear n0_;have p162 : 0 ≤ (x5_1 : Int) := of_decide_eq_true (by (with_reducible assumption));have q162 : x5_1 < (l0.length : Int) := of_decide_eq_true (by (with_reducible assumption));obtain ⟨ad162,A162_4,c162_4,e162,hx162_0,hx162_1,hx162_2,hx162_3,hx162_4,hl162_4,hi162_4⟩ := at_T63 HR0.out x5_1 p162 q162;have hw162_4 := hx162_4;have hw162_3 := hx162_3;have hw162_2 := hx162_2;have hw162_1 := hx162_1;have hw162_0 := hx162_0
        cases e162
        replace hx162_0 := up_ HB.out hx162_0;replace hx162_1 := up_ HB.out hx162_1;replace hx162_2 := up_ HB.out hx162_2;replace hx162_3 := up_ HB.out hx162_3;replace hx162_4 := up_ HB.out hx162_4;have HR162_4 := Aside0.mk hi162_4;have HC162_4 := Aside0.mk hl162_4;clear hi162_4 hl162_4;replace p162 := eq_true p162;replace q162 := eq_true q162;refine start_ (n := 8) (S := fun w' => w'.cell? (ad162.add ((x5_1).toNat * 5)) = some (.string ((rd_T63 l0 x5_1).f0)) ∧ w'.cell? ⟨(ad162.add ((x5_1).toNat * 5)).block,(ad162.add ((x5_1).toNat * 5)).off + 1,none⟩ = some (.int .i64 ((rd_T63 l0 x5_1).f1)) ∧ w'.cell? ⟨(ad162.add ((x5_1).toNat * 5)).block,(ad162.add ((x5_1).toNat * 5)).off + 2,none⟩ = some (.int .i64 ((rd_T63 l0 x5_1).f2)) ∧ w'.cell? ⟨(ad162.add ((x5_1).toNat * 5)).block,(ad162.add ((x5_1).toNat * 5)).off + 3,none⟩ = some (.int .i64 ((rd_T63 l0 x5_1).f3)) ∧ w'.cell? ⟨(ad162.add ((x5_1).toNat * 5)).block,(ad162.add ((x5_1).toNat * 5)).off + 4,none⟩ = some (.slice A162_4 ((rd_T63 l0 x5_1).f4).length c162_4)) (ds := []) #[false,false,false,false,false,false,false,false] (by kernel_rfl) rfl rfl ⟨(up_ HB.out hw162_0),(up_ HB.out hw162_1),(up_ HB.out hw162_2),(up_ HB.out hw162_3),(up_ HB.out hw162_4)⟩ (fun hHeld => ?_); refine with_tabW laws_heldAcctS.tab4 laws_heldAcctS.bits4 (fun HT_ HW_ => ?_)
        generalize wr.drew = w18 at HB HR162_4 hx162_0 hx162_1 hx162_2 hx162_3 hx162_4 hHeld ⊢
        refine pure_ (i := 0) (N := some 12) (v := ?_) (a' := ?_) #[true,false,false,false,false,false,false,false] rfl rfl (any_of HT_.out (by kernel_rfl)) (fun _ _ _ h => h) (Or.inl ⟨by rfl,?_⟩) ?_ ?_;rotate_left
        ·intro w';go_simp;with_reducible rfl
        rotate_left
        ·simp only [wf_preprocess];rfl
        refine pure_ (i := 1) (N := some 13) (v := ?_) (a' := ?_) #[true,true,false,false,false,false,false,false] rfl rfl (any_of HT_.out (by kernel_rfl)) (fun _ _ _ h => h) (Or.inl ⟨by rfl,?_⟩) ?_ ?_;rotate_left
        ·intro w';go_simp;with_reducible rfl
        rotate_left
        ·simp only [wf_preprocess];rfl
        refine pure_ (i := 2) (N := some 14) (v := ?_) (a' := ?_) #[true,true,true,false,false,false,false,false] rfl rfl (any_of HT_.out (by kernel_rfl)) (fun _ _ _ h => h) (Or.inl ⟨by rfl,?_⟩) ?_ ?_;rotate_left
        ·intro w';go_simp;with_reducible rfl
        rotate_left
        ·simp only [wf_preprocess];rfl
        refine pure_ (i := 3) (N := some 15) (v := ?_) (a' := ?_) #[true,true,true,true,false,false,false,false] rfl rfl (any_of HT_.out (by kernel_rfl)) (fun _ _ _ h => h) (Or.inl ⟨by rfl,?_⟩) ?_ ?_;rotate_left
        ·intro w';go_simp;with_reducible rfl
        rotate_left
        ·simp only [wf_preprocess];rfl
        refine pure_ (i := 5) (N := some 17) (v := ?_) (a' := ?_) #[true,true,true,true,false,true,false,false] rfl rfl (any_of HT_.out (by kernel_rfl)) (fun _ _ _ h => h) (Or.inl ⟨by rfl,?_⟩) ?_ ?_;rotate_left
        ·intro w';go_simp;with_reducible rfl
        rotate_left
        ·simp only [wf_preprocess];rfl
        refine take_ (i := 4) (N := some 16) (v := ?_) (a' := ?_) #[true,true,true,true,true,true,false,false] rfl rfl (take_ofW HT_.out HW_.out (by kernel_rfl)) (fun _ _ _ h => h) (Or.inl ⟨by rfl,?_⟩) hHeld ?_ ?_;rotate_left
        ·rintro w' ⟨s0,s1,s2,s3,s4⟩;go_simp;with_reducible rfl
        rotate_left
        ·simp only [wf_preprocess];rfl
        refine one_ (i := 6) (N := some 18) #[true,true,true,true,true,true,true,false] rfl rfl (one_of HT_.out (by kernel_rfl)) (by decide) (fun K hK => ?_);refine goes_ Try.func74 (by kernel_rfl) rfl #[.int .i64 x1_1] (by rfl) rfl rfl (by (try simp only [List.map_toArray,List.map_cons,List.map_nil]); rfl) ?_
        with_reducible refine (laws_markText.calls k1 x1_1 t163 _ A5.out).mono ?_
        rintro e w19 ⟨rfl,hb⟩;refine ⟨_,rfl,?_⟩;have n0_ := Aside0.mk (below_step HB.out hb);clear HB;have HB := n0_;clear n0_
        (try clear hb)
        skip
        skip
        skip
        refine hK.out _ _ ⟨(up_ HB.out hw162_0),(up_ HB.out hw162_1),(up_ HB.out hw162_2),(up_ HB.out hw162_3),(up_ HB.out hw162_4)⟩ (fun hHeld => ?_);clear hK K;refine norm_ (a' := ?_) ?_ ?_;rotate_left
        ·show Act.put _ (some 18) _ = _
         simp only [wf_preprocess];rfl
        refine pure_ (i := 7) (N := some 19) (v := ?_) (a' := ?_) #[true,true,true,true,true,true,true,true] rfl rfl (any_of HT_.out (by kernel_rfl)) (fun _ _ _ h => h) (Or.inl ⟨by rfl,?_⟩) ?_ ?_;rotate_left
        ·intro w';go_simp;with_reducible rfl
        rotate_left
        ·simp only [wf_preprocess];rfl
        refine done_ (done_of HT_.out (by kernel_rfl)) ?_;have p164 : 0 ≤ (x5_1 : Int) := of_decide_eq_true (by (with_reducible assumption));have q164 : x5_1 < (l0.length : Int) := of_decide_eq_true (by (with_reducible assumption));obtain ⟨ad164,A164_4,c164_4,e164,hx164_0,hx164_1,hx164_2,hx164_3,hx164_4,hl164_4,hi164_4⟩ := at_T63 HR0.out x5_1 p164 q164;obtain rfl : ad162 = ad164 := (by injection e164);replace hx164_0 := up_ HB.out hx164_0;replace hx164_1 := up_ HB.out hx164_1;replace hx164_2 := up_ HB.out hx164_2;replace hx164_3 := up_ HB.out hx164_3;replace hx164_4 := up_ HB.out hx164_4;have HR164_4 := Aside0.mk hi164_4;have HC164_4 := Aside0.mk hl164_4;clear hi164_4 hl164_4;replace p164 := eq_true p164;replace q164 := eq_true q164
        (try clear hHeld)
        have p165 : 0 ≤ (x5_1 : Int) := of_decide_eq_true (by (with_reducible assumption));have q165 : x5_1 < (l0.length : Int) := of_decide_eq_true (by (with_reducible assumption));obtain ⟨ad165,A165_4,c165_4,e165,hx165_0,hx165_1,hx165_2,hx165_3,hx165_4,hl165_4,hi165_4⟩ := at_T63 HR0.out x5_1 p165 q165;obtain rfl : ad162 = ad165 := (by injection e165);replace hx165_0 := up_ HB.out hx165_0;replace hx165_1 := up_ HB.out hx165_1;replace hx165_2 := up_ HB.out hx165_2;replace hx165_3 := up_ HB.out hx165_3;replace hx165_4 := up_ HB.out hx165_4;have HR165_4 := Aside0.mk hi165_4;have HC165_4 := Aside0.mk hl165_4;clear hi165_4 hl165_4;replace p165 := eq_true p165;replace q165 := eq_true q165;have ea_ := Option.some.inj (hx164_4.symm.trans hx165_4)
        injection ea_ with ea_ en_ ec_
        subst ea_;subst ec_;clear en_
        try go_wp2
        go_ret;exact ⟨by rfl,HB.out⟩
      ·rw [if_neg c7] at H;have c7b0 : (((rd_T63 l0 x5_1).f1) == (wrap64 (x1_1 + 1))) = false := beq_eq_false_iff_ne.mpr c7;have c7b1 : (((rd_T63 l0 x5_1).f1) != (wrap64 (x1_1 + 1))) = true := bne_iff_ne.mpr c7;obtain rfl := Option.some.inj H
       try go_wp2
       have n0_ := Aside0.mk (below_drew1 HB.out);clear HB;have HB := n0_;clear n0_;have p162 : 0 ≤ (x5_1 : Int) := of_decide_eq_true (by (with_reducible assumption));have q162 : x5_1 < (l0.length : Int) := of_decide_eq_true (by (with_reducible assumption));obtain ⟨ad162,A162_4,c162_4,e162,hx162_0,hx162_1,hx162_2,hx162_3,hx162_4,hl162_4,hi162_4⟩ := at_T63 HR0.out x5_1 p162 q162;have hw162_4 := hx162_4;have hw162_3 := hx162_3;have hw162_2 := hx162_2;have hw162_1 := hx162_1;have hw162_0 := hx162_0
       cases e162
       replace hx162_0 := up_ HB.out hx162_0;replace hx162_1 := up_ HB.out hx162_1;replace hx162_2 := up_ HB.out hx162_2;replace hx162_3 := up_ HB.out hx162_3;replace hx162_4 := up_ HB.out hx162_4;have HR162_4 := Aside0.mk hi162_4;have HC162_4 := Aside0.mk hl162_4;clear hi162_4 hl162_4;replace p162 := eq_true p162;replace q162 := eq_true q162;refine start_ (n := 8) (S := fun w' => w'.cell? (ad162.add ((x5_1).toNat * 5)) = some (.string ((rd_T63 l0 x5_1).f0)) ∧ w'.cell? ⟨(ad162.add ((x5_1).toNat * 5)).block,(ad162.add ((x5_1).toNat * 5)).off + 1,none⟩ = some (.int .i64 ((rd_T63 l0 x5_1).f1)) ∧ w'.cell? ⟨(ad162.add ((x5_1).toNat * 5)).block,(ad162.add ((x5_1).toNat * 5)).off + 2,none⟩ = some (.int .i64 ((rd_T63 l0 x5_1).f2)) ∧ w'.cell? ⟨(ad162.add ((x5_1).toNat * 5)).block,(ad162.add ((x5_1).toNat * 5)).off + 3,none⟩ = some (.int .i64 ((rd_T63 l0 x5_1).f3)) ∧ w'.cell? ⟨(ad162.add ((x5_1).toNat * 5)).block,(ad162.add ((x5_1).toNat * 5)).off + 4,none⟩ = some (.slice A162_4 ((rd_T63 l0 x5_1).f4).length c162_4)) (ds := []) #[false,false,false,false,false,false,false,false] (by kernel_rfl) rfl rfl ⟨(up_ HB.out hw162_0),(up_ HB.out hw162_1),(up_ HB.out hw162_2),(up_ HB.out hw162_3),(up_ HB.out hw162_4)⟩ (fun hHeld => ?_); refine with_tabW laws_heldAcctS.tab4 laws_heldAcctS.bits4 (fun HT_ HW_ => ?_)
       generalize wr.drew = w20 at HB HR162_4 hx162_0 hx162_1 hx162_2 hx162_3 hx162_4 hHeld ⊢
       refine pure_ (i := 0) (N := some 12) (v := ?_) (a' := ?_) #[true,false,false,false,false,false,false,false] rfl rfl (any_of HT_.out (by kernel_rfl)) (fun _ _ _ h => h) (Or.inl ⟨by rfl,?_⟩) ?_ ?_;rotate_left
       ·intro w';go_simp;with_reducible rfl
       rotate_left
       ·simp only [wf_preprocess];rfl
       refine pure_ (i := 1) (N := some 13) (v := ?_) (a' := ?_) #[true,true,false,false,false,false,false,false] rfl rfl (any_of HT_.out (by kernel_rfl)) (fun _ _ _ h => h) (Or.inl ⟨by rfl,?_⟩) ?_ ?_;rotate_left
       ·intro w';go_simp;with_reducible rfl
       rotate_left
       ·simp only [wf_preprocess];rfl
       refine pure_ (i := 2) (N := some 14) (v := ?_) (a' := ?_) #[true,true,true,false,false,false,false,false] rfl rfl (any_of HT_.out (by kernel_rfl)) (fun _ _ _ h => h) (Or.inl ⟨by rfl,?_⟩) ?_ ?_;rotate_left
       ·intro w';go_simp;with_reducible rfl
       rotate_left
       ·simp only [wf_preprocess];rfl
       refine pure_ (i := 3) (N := some 15) (v := ?_) (a' := ?_) #[true,true,true,true,false,false,false,false] rfl rfl (any_of HT_.out (by kernel_rfl)) (fun _ _ _ h => h) (Or.inl ⟨by rfl,?_⟩) ?_ ?_;rotate_left
       ·intro w';go_simp;with_reducible rfl
       rotate_left
       ·simp only [wf_preprocess];rfl
       refine pure_ (i := 5) (N := some 17) (v := ?_) (a' := ?_) #[true,true,true,true,false,true,false,false] rfl rfl (any_of HT_.out (by kernel_rfl)) (fun _ _ _ h => h) (Or.inl ⟨by rfl,?_⟩) ?_ ?_;rotate_left
       ·intro w';go_simp;with_reducible rfl
       rotate_left
       ·simp only [wf_preprocess];rfl
       refine take_ (i := 4) (N := some 16) (v := ?_) (a' := ?_) #[true,true,true,true,true,true,false,false] rfl rfl (take_ofW HT_.out HW_.out (by kernel_rfl)) (fun _ _ _ h => h) (Or.inl ⟨by rfl,?_⟩) hHeld ?_ ?_;rotate_left
       ·rintro w' ⟨s0,s1,s2,s3,s4⟩;go_simp;with_reducible rfl
       rotate_left
       ·simp only [wf_preprocess];rfl
       refine one_ (i := 6) (N := some 18) #[true,true,true,true,true,true,true,false] rfl rfl (one_of HT_.out (by kernel_rfl)) (by decide) (fun K hK => ?_);refine goes_ Try.func74 (by kernel_rfl) rfl #[.int .i64 x1_1] (by rfl) rfl rfl (by (try simp only [List.map_toArray,List.map_cons,List.map_nil]); rfl) ?_
       with_reducible refine (laws_markText.calls k1 x1_1 t163 _ A5.out).mono ?_
       rintro e w21 ⟨rfl,hb⟩;refine ⟨_,rfl,?_⟩;have n0_ := Aside0.mk (below_step HB.out hb);clear HB;have HB := n0_;clear n0_
       (try clear hb)
       skip
       skip
       skip
       refine hK.out _ _ ⟨(up_ HB.out hw162_0),(up_ HB.out hw162_1),(up_ HB.out hw162_2),(up_ HB.out hw162_3),(up_ HB.out hw162_4)⟩ (fun hHeld => ?_);clear hK K;refine norm_ (a' := ?_) ?_ ?_;rotate_left
       ·show Act.put _ (some 18) _ = _
        simp only [wf_preprocess];rfl
       refine pure_ (i := 7) (N := some 19) (v := ?_) (a' := ?_) #[true,true,true,true,true,true,true,true] rfl rfl (any_of HT_.out (by kernel_rfl)) (fun _ _ _ h => h) (Or.inl ⟨by rfl,?_⟩) ?_ ?_;rotate_left
       ·intro w';go_simp;with_reducible rfl
       rotate_left
       ·simp only [wf_preprocess];rfl
       refine done_ (done_of HT_.out (by kernel_rfl)) ?_;have p164 : 0 ≤ (x5_1 : Int) := of_decide_eq_true (by (with_reducible assumption));have q164 : x5_1 < (l0.length : Int) := of_decide_eq_true (by (with_reducible assumption));obtain ⟨ad164,A164_4,c164_4,e164,hx164_0,hx164_1,hx164_2,hx164_3,hx164_4,hl164_4,hi164_4⟩ := at_T63 HR0.out x5_1 p164 q164;obtain rfl : ad162 = ad164 := (by injection e164);replace hx164_0 := up_ HB.out hx164_0;replace hx164_1 := up_ HB.out hx164_1;replace hx164_2 := up_ HB.out hx164_2;replace hx164_3 := up_ HB.out hx164_3;replace hx164_4 := up_ HB.out hx164_4;have HR164_4 := Aside0.mk hi164_4;have HC164_4 := Aside0.mk hl164_4;clear hi164_4 hl164_4;replace p164 := eq_true p164;replace q164 := eq_true q164
       (try clear hHeld)
       try go_wp2
       go_ret;exact ⟨by rfl,HB.out⟩
     ·rw [if_neg c6] at H;have c6b0 : (((rd_T63 l0 x5_1).f0).toList == t163.toList) = false := beq_eq_false_iff_ne.mpr c6;have c6b1 : (((rd_T63 l0 x5_1).f0).toList != t163.toList) = true := bne_iff_ne.mpr c6;obtain rfl := Option.some.inj H
      try go_wp2
      have n0_ := Aside0.mk (below_drew1 HB.out);clear HB;have HB := n0_;clear n0_;have p162 : 0 ≤ (x5_1 : Int) := of_decide_eq_true (by (with_reducible assumption));have q162 : x5_1 < (l0.length : Int) := of_decide_eq_true (by (with_reducible assumption));obtain ⟨ad162,A162_4,c162_4,e162,hx162_0,hx162_1,hx162_2,hx162_3,hx162_4,hl162_4,hi162_4⟩ := at_T63 HR0.out x5_1 p162 q162;have hw162_4 := hx162_4;have hw162_3 := hx162_3;have hw162_2 := hx162_2;have hw162_1 := hx162_1;have hw162_0 := hx162_0
      cases e162
      replace hx162_0 := up_ HB.out hx162_0;replace hx162_1 := up_ HB.out hx162_1;replace hx162_2 := up_ HB.out hx162_2;replace hx162_3 := up_ HB.out hx162_3;replace hx162_4 := up_ HB.out hx162_4;have HR162_4 := Aside0.mk hi162_4;have HC162_4 := Aside0.mk hl162_4;clear hi162_4 hl162_4;replace p162 := eq_true p162;replace q162 := eq_true q162;refine start_ (n := 8) (S := fun w' => w'.cell? (ad162.add ((x5_1).toNat * 5)) = some (.string ((rd_T63 l0 x5_1).f0)) ∧ w'.cell? ⟨(ad162.add ((x5_1).toNat * 5)).block,(ad162.add ((x5_1).toNat * 5)).off + 1,none⟩ = some (.int .i64 ((rd_T63 l0 x5_1).f1)) ∧ w'.cell? ⟨(ad162.add ((x5_1).toNat * 5)).block,(ad162.add ((x5_1).toNat * 5)).off + 2,none⟩ = some (.int .i64 ((rd_T63 l0 x5_1).f2)) ∧ w'.cell? ⟨(ad162.add ((x5_1).toNat * 5)).block,(ad162.add ((x5_1).toNat * 5)).off + 3,none⟩ = some (.int .i64 ((rd_T63 l0 x5_1).f3)) ∧ w'.cell? ⟨(ad162.add ((x5_1).toNat * 5)).block,(ad162.add ((x5_1).toNat * 5)).off + 4,none⟩ = some (.slice A162_4 ((rd_T63 l0 x5_1).f4).length c162_4)) (ds := []) #[false,false,false,false,false,false,false,false] (by kernel_rfl) rfl rfl ⟨(up_ HB.out hw162_0),(up_ HB.out hw162_1),(up_ HB.out hw162_2),(up_ HB.out hw162_3),(up_ HB.out hw162_4)⟩ (fun hHeld => ?_); refine with_tabW laws_heldAcctS.tab4 laws_heldAcctS.bits4 (fun HT_ HW_ => ?_)
      generalize wr.drew = w22 at HB HR162_4 hx162_0 hx162_1 hx162_2 hx162_3 hx162_4 hHeld ⊢
      refine pure_ (i := 0) (N := some 12) (v := ?_) (a' := ?_) #[true,false,false,false,false,false,false,false] rfl rfl (any_of HT_.out (by kernel_rfl)) (fun _ _ _ h => h) (Or.inl ⟨by rfl,?_⟩) ?_ ?_;rotate_left
      ·intro w';go_simp;with_reducible rfl
      rotate_left
      ·simp only [wf_preprocess];rfl
      refine pure_ (i := 1) (N := some 13) (v := ?_) (a' := ?_) #[true,true,false,false,false,false,false,false] rfl rfl (any_of HT_.out (by kernel_rfl)) (fun _ _ _ h => h) (Or.inl ⟨by rfl,?_⟩) ?_ ?_;rotate_left
      ·intro w';go_simp;with_reducible rfl
      rotate_left
      ·simp only [wf_preprocess];rfl
      refine pure_ (i := 2) (N := some 14) (v := ?_) (a' := ?_) #[true,true,true,false,false,false,false,false] rfl rfl (any_of HT_.out (by kernel_rfl)) (fun _ _ _ h => h) (Or.inl ⟨by rfl,?_⟩) ?_ ?_;rotate_left
      ·intro w';go_simp;with_reducible rfl
      rotate_left
      ·simp only [wf_preprocess];rfl
      refine pure_ (i := 3) (N := some 15) (v := ?_) (a' := ?_) #[true,true,true,true,false,false,false,false] rfl rfl (any_of HT_.out (by kernel_rfl)) (fun _ _ _ h => h) (Or.inl ⟨by rfl,?_⟩) ?_ ?_;rotate_left
      ·intro w';go_simp;with_reducible rfl
      rotate_left
      ·simp only [wf_preprocess];rfl
      refine pure_ (i := 5) (N := some 17) (v := ?_) (a' := ?_) #[true,true,true,true,false,true,false,false] rfl rfl (any_of HT_.out (by kernel_rfl)) (fun _ _ _ h => h) (Or.inl ⟨by rfl,?_⟩) ?_ ?_;rotate_left
      ·intro w';go_simp;with_reducible rfl
      rotate_left
      ·simp only [wf_preprocess];rfl
      refine take_ (i := 4) (N := some 16) (v := ?_) (a' := ?_) #[true,true,true,true,true,true,false,false] rfl rfl (take_ofW HT_.out HW_.out (by kernel_rfl)) (fun _ _ _ h => h) (Or.inl ⟨by rfl,?_⟩) hHeld ?_ ?_;rotate_left
      ·rintro w' ⟨s0,s1,s2,s3,s4⟩;go_simp;with_reducible rfl
      rotate_left
      ·simp only [wf_preprocess];rfl
      refine one_ (i := 6) (N := some 18) #[true,true,true,true,true,true,true,false] rfl rfl (one_of HT_.out (by kernel_rfl)) (by decide) (fun K hK => ?_);refine goes_ Try.func74 (by kernel_rfl) rfl #[.int .i64 x1_1] (by rfl) rfl rfl (by (try simp only [List.map_toArray,List.map_cons,List.map_nil]); rfl) ?_
      with_reducible refine (laws_markText.calls k1 x1_1 t163 _ A5.out).mono ?_
      rintro e w23 ⟨rfl,hb⟩;refine ⟨_,rfl,?_⟩;have n0_ := Aside0.mk (below_step HB.out hb);clear HB;have HB := n0_;clear n0_
      (try clear hb)
      skip
      skip
      skip
      refine hK.out _ _ ⟨(up_ HB.out hw162_0),(up_ HB.out hw162_1),(up_ HB.out hw162_2),(up_ HB.out hw162_3),(up_ HB.out hw162_4)⟩ (fun hHeld => ?_);clear hK K;refine norm_ (a' := ?_) ?_ ?_;rotate_left
      ·show Act.put _ (some 18) _ = _
       simp only [wf_preprocess];rfl
      refine pure_ (i := 7) (N := some 19) (v := ?_) (a' := ?_) #[true,true,true,true,true,true,true,true] rfl rfl (any_of HT_.out (by kernel_rfl)) (fun _ _ _ h => h) (Or.inl ⟨by rfl,?_⟩) ?_ ?_;rotate_left
      ·intro w';go_simp;with_reducible rfl
      rotate_left
      ·simp only [wf_preprocess];rfl
      refine done_ (done_of HT_.out (by kernel_rfl)) ?_
      try go_wp2
      go_ret;exact ⟨by rfl,HB.out⟩
    ·rw [if_neg c4] at H;exact absurd H (by simp)
   ·rw [if_neg c3] at H;have c3b0 : decide (x5_1 < (l0.length : Int)) = false := decide_eq_false c3;clear c3;obtain rfl := Option.some.inj H;go_wp2;go_ret;exact ⟨by rfl,HB.out⟩

end Go.Proofs.Ytcbpfofkdipjhaa.PJ
