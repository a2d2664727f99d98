/- The machine's side of Go functions: each as a plain function,and that the call does what it says. Written by a program (wip/mprint). -/
import Derived.Test.YtcbpfofkdipjhaaAQPMx0
import Derived.Test.YtcbpfofkdipjhaaAQPMx8
namespace Go.Proofs.Ytcbpfofkdipjhaa.PM
open Go.RowKit Go.Proofs.YtcbpfofkdipjhaaW.PrintWords Go.Proofs.YtcbpfofkdipjhaaW.PrintLast Go.Proofs.YtcbpfofkdipjhaaW.PrintMore
attribute [local wf_preprocess] Act.put List.setIfInBounds_toArray List.set_cons_zero List.set_cons_succ i64_w i32_w
attribute [local go_sem] max2_int min2_int max_two min_two max_three min_three max_four min_four   -- for this text's walks alone
set_option linter.unusedVariables false
set_option linter.unusedSimpArgs false

/-! ### impl_AcctsOk: function 44 -/
def impl_AcctsOk.l0 : Nat → List (S63) → List (S63) → Int → Int → Option (Bool)
 | 0,_,_,_,_ => none
 | k + 1,x0,x5,x6,x7 => if x7 < x6 then (if 0 ≤ x7 then (if x7 < (x5.length : Int) then ((impl_AcctOk.f k ((rd_T63 x5 x7).f0) ((rd_T63 x5 x7).f1) ((rd_T63 x5 x7).f2) ((rd_T63 x5 x7).f3) ((rd_T63 x5 x7).f4)).bind fun t224 => (if t224 = true then (if x7 > 0 then (if 0 ≤ (wrap64 (x7 - 1)) then (if (wrap64 (x7 - 1)) < (x0.length : Int) then (if ((Op.bytesLess (((rd_T63 x0 (wrap64 (x7 - 1))).f0).toList) (((rd_T63 x5 x7).f0).toList)) = true) then (impl_AcctsOk.l0 k x0 x5 x6 (wrap64 (x7 + 1))) else (some false)) else (none)) else (none)) else (impl_AcctsOk.l0 k x0 x5 x6 (wrap64 (x7 + 1)))) else (some false))) else (none)) else (none)) else (if (x0.length : Int) ≤ 12 then ((impl_Wealth.f k x0).bind fun t226 => (some (decide (t226 ≤ 1000000)))) else (some false))
def impl_AcctsOk.f (k : Nat) (l0 : List (S63)) : Option (Bool) := impl_AcctsOk.l0 k l0 l0 (l0.length : Int) 0
def impl_AcctsOk.T4 : Bool × List (List Nat × List Nat) := (true,[([],[]),([0],[0]),([1],[1]),([2,1],[2]),([3],[3]),([4,3],[3,4]),([5,3,3],[3,5]),([6],[6]),([7,6],[6,7]),([6],[6]),([6],[6]),([10,6],[6,10]),([9,11,6],[6,9,11]),([12,6],[6,12]),([13,6],[6,13]),([8,14,6],[6,8,14]),([6,15,3],[3,6,15]),([3,16],[3,16])])
def impl_AcctsOk.B4 : List Nat := [0,1,3,7,15,31,63,127,255,127,127,1151,3711,7807,15999,32767,65535,131071]
theorem impl_AcctsOk.tab4 : rtab .any (opsOf Try.f44 4) = impl_AcctsOk.T4 := by kernel_rfl
theorem impl_AcctsOk.bits4 : waitsOk impl_AcctsOk.T4.2 impl_AcctsOk.B4 = true := by kernel_rfl
set_option maxHeartbeats 8000000 in
set_option maxRecDepth 100000 in
theorem impl_AcctsOk.calls (k : Nat) (A0 : Option Addr) (c0 : Nat) (l0 : List (S63)) (r : Bool) (w : World) (hr0 : Kd.C k63 w A0 l0.length l0) (hc0 : l0.length ≤ c0) (h : impl_AcctsOk.f k l0 = some r) :
  Calls Try.prog 44 #[.slice A0 l0.length c0] w fun e w' => e = .returned (.bool r) ∧ Below w.heap.size w w' := by
 have hu63 := Try.underlying63;have HR0 := Aside0.mk hr0;have HC0 := Aside0.mk hc0;clear hr0 hc0;have HB := Aside0.mk (Below.refl w.heap.size w);have H : (impl_AcctsOk.l0 k l0 l0 (l0.length : Int) 0) = some r := h;clear h;have H' := Aside0.mk H;clear H;go_enter Try.func44,Try.ntmps44;go_wp2
 go_loopg [7] k (fun kq v7 w' => ∃ (x7_1 : Int),v7 = .int .i64 x7_1 ∧ Aside0 (impl_AcctsOk.l0 kq l0 l0 (l0.length : Int) x7_1 = some r) ∧ Aside0 (kq ≤ k) ∧ Aside0 (Below w.heap.size w w'))
 case atStart => exact ⟨(0),(by rfl),H',⟨Nat.le_refl _⟩,⟨HB.out⟩⟩
 case round =>
  clear H';obtain ⟨x7_1,rfl,HA,HK1,HB⟩ := hrel
  cases gk with
  | zero => exact absurd HA.out (by simp [impl_AcctsOk.l0])
  | succ k1 =>
   have H := HA.out;clear HA;simp only [impl_AcctsOk.l0] at H
   by_cases c2 : x7_1 < (l0.length : Int)
   ·rw [if_pos c2] at H;have c2b0 : decide (x7_1 < (l0.length : Int)) = true := decide_eq_true c2;clear c2
    by_cases c3 : 0 ≤ x7_1
    ·rw [if_pos c3] at H;have c3b0 : decide (0 ≤ x7_1) = true := decide_eq_true c3;clear c3
     by_cases c4 : x7_1 < (l0.length : Int)
     ·rw [if_pos c4] at H;have c4b0 : decide (x7_1 < (l0.length : Int)) = true := decide_eq_true c4;clear c4;replace H := Option.bind_eq_some_iff.mp H;obtain ⟨t224,A50,H⟩ := H;replace H : (if t224 = true then (if x7_1 > 0 then (if 0 ≤ (wrap64 (x7_1 - 1)) then (if (wrap64 (x7_1 - 1)) < (l0.length : Int) then (if ((Op.bytesLess (((rd_T63 l0 (wrap64 (x7_1 - 1))).f0).toList) (((rd_T63 l0 x7_1).f0).toList)) = true) then (impl_AcctsOk.l0 k1 l0 l0 (l0.length : Int) (wrap64 (x7_1 + 1))) else (some false)) else (none)) else (none)) else (impl_AcctsOk.l0 k1 l0 l0 (l0.length : Int) (wrap64 (x7_1 + 1)))) else (some false)) = some r := H;have A5 := Aside0.mk A50;clear A50
      by_cases c6 : t224 = true
      ·subst c6
       rw [if_pos rfl] at H
       by_cases c7 : x7_1 > 0
       ·rw [if_pos c7] at H;have c7b0 : decide (0 < x7_1) = true := decide_eq_true c7;clear c7;obtain ⟨ji8,hji8⟩ : ∃ j_ : Int,(wrap64 (x7_1 - 1)) = j_ := ⟨_,rfl⟩
        replace H : (if 0 ≤ (ji8) then (if (ji8) < (l0.length : Int) then (if ((Op.bytesLess (((rd_T63 l0 (ji8)).f0).toList) (((rd_T63 l0 x7_1).f0).toList)) = true) then (impl_AcctsOk.l0 k1 l0 l0 (l0.length : Int) (wrap64 (x7_1 + 1))) else (some false)) else (none)) else (none)) = some r := by (rw [hji8] at H; exact H)
        skip
        have hji8w : (IntKind.i64.wrap (x7_1 - 1)) = ji8 := (i64_w _).trans hji8
        by_cases c9 : 0 ≤ (ji8)
        ·rw [if_pos c9] at H;have c9b0 : decide (0 ≤ (ji8)) = true := decide_eq_true c9;clear c9
         by_cases c10 : (ji8) < (l0.length : Int)
         ·rw [if_pos c10] at H;have c10b0 : decide ((ji8) < (l0.length : Int)) = true := decide_eq_true c10;clear c10
          by_cases c11 : ((Op.bytesLess (((rd_T63 l0 (ji8)).f0).toList) (((rd_T63 l0 x7_1).f0).toList)) = true)
          ·rw [if_pos c11] at H;have c11b0 : (Op.bytesLess (((rd_T63 l0 (ji8)).f0).toList) (((rd_T63 l0 x7_1).f0).toList)) = true := c11;clear c11;have H' := Aside0.mk H;clear H;have p222 : 0 ≤ (x7_1 : Int) := of_decide_eq_true (by (with_reducible assumption));have q222 : x7_1 < (l0.length : Int) := of_decide_eq_true (by (with_reducible assumption));obtain ⟨ad222,A222_4,c222_4,e222,hx222_0,hx222_1,hx222_2,hx222_3,hx222_4,hl222_4,hi222_4⟩ := at_T63 HR0.out x7_1 p222 q222
           cases e222
           replace hx222_0 := up_ HB.out hx222_0;replace hx222_1 := up_ HB.out hx222_1;replace hx222_2 := up_ HB.out hx222_2;replace hx222_3 := up_ HB.out hx222_3;replace hx222_4 := up_ HB.out hx222_4;have HR222_4 := Aside0.mk hi222_4;have HC222_4 := Aside0.mk hl222_4;clear hi222_4 hl222_4;replace p222 := eq_true p222;replace q222 := eq_true q222
           try go_wp2_with (((with_reducible refine gate_dst (N := 4) rfl ?_); refine box_event ?hg (N := 4) ?hd (cs := #[.string (⟨#[]⟩ : ByteArray),.int .i64 0,.int .i64 0,.int .i64 0,.slice none 0 0]) (t := 63) ?hr ?_; (case hd => rfl); (case hg => rfl); (case hr => (go_simp; done)); intro gb223 hg w12 hbox hb; have n0_ := Aside0.mk (below_step HB.out hb); have n1_ := Aside0.mk (hbox); have n2_ := Aside0.mk (by rw [hg]; exact (below_size HB.out) : w.heap.size ≤ gb223); have n3_ := Aside0.mk (by rw [hg]; exact (below_size HB.out) : w.heap.size ≤ gb223); clear HB; have HB := n0_; have BK223 := n1_; have GW223 := n2_; have GE223 := n3_; clear n0_ n1_ n2_ n3_; clear hb hbox hg; have hcz13_0 : w12.cell? ⟨gb223,0,none⟩ = some (.string (⟨#[]⟩ : ByteArray)) := (blk_cell BK223.out 0).trans rfl; have hcz13_1 : w12.cell? ⟨gb223,1,none⟩ = some (.int .i64 0) := (blk_cell BK223.out 1).trans rfl; have hcz13_2 : w12.cell? ⟨gb223,2,none⟩ = some (.int .i64 0) := (blk_cell BK223.out 2).trans rfl; have hcz13_3 : w12.cell? ⟨gb223,3,none⟩ = some (.int .i64 0) := (blk_cell BK223.out 3).trans rfl; have hcz13_4 : w12.cell? ⟨gb223,4,none⟩ = some (.slice none 0 0) := (blk_cell BK223.out 4).trans rfl; have hfz13_0 := blk_frozen BK223.out 0; have hfz13_1 := blk_frozen BK223.out 1; have hfz13_2 := blk_frozen BK223.out 2; have hfz13_3 := blk_frozen BK223.out 3; have hfz13_4 := blk_frozen BK223.out 4))
           have n0_ : Aside0 ((((((w12.setCell ⟨gb223,0,none⟩ (.string ((rd_T63 l0 x7_1).f0))).setCell ⟨gb223,1,none⟩ (.int .i64 ((rd_T63 l0 x7_1).f1))).setCell ⟨gb223,2,none⟩ (.int .i64 ((rd_T63 l0 x7_1).f2))).setCell ⟨gb223,3,none⟩ (.int .i64 ((rd_T63 l0 x7_1).f3))).setCell ⟨gb223,4,none⟩ (.slice A222_4 ((rd_T63 l0 x7_1).f4).length c222_4)).heap[gb223]? = some (.cells #[.string ((rd_T63 l0 x7_1).f0),.int .i64 ((rd_T63 l0 x7_1).f1),.int .i64 ((rd_T63 l0 x7_1).f2),.int .i64 ((rd_T63 l0 x7_1).f3),.slice A222_4 ((rd_T63 l0 x7_1).f4).length c222_4] 63 (0,0))) := ⟨by refine blk_put (cs := #[.string ((rd_T63 l0 x7_1).f0),.int .i64 ((rd_T63 l0 x7_1).f1),.int .i64 ((rd_T63 l0 x7_1).f2),.int .i64 ((rd_T63 l0 x7_1).f3),.slice none 0 0]) ?_ 4 _ rfl; refine blk_put (cs := #[.string ((rd_T63 l0 x7_1).f0),.int .i64 ((rd_T63 l0 x7_1).f1),.int .i64 ((rd_T63 l0 x7_1).f2),.int .i64 0,.slice none 0 0]) ?_ 3 _ rfl; refine blk_put (cs := #[.string ((rd_T63 l0 x7_1).f0),.int .i64 ((rd_T63 l0 x7_1).f1),.int .i64 0,.int .i64 0,.slice none 0 0]) ?_ 2 _ rfl; refine blk_put (cs := #[.string ((rd_T63 l0 x7_1).f0),.int .i64 0,.int .i64 0,.int .i64 0,.slice none 0 0]) ?_ 1 _ rfl; refine blk_put (cs := #[.string (⟨#[]⟩ : ByteArray),.int .i64 0,.int .i64 0,.int .i64 0,.slice none 0 0]) ?_ 0 _ rfl; exact BK223.out⟩;have n1_ : Aside0 (Below w.heap.size w (((((w12.setCell ⟨gb223,0,none⟩ (.string ((rd_T63 l0 x7_1).f0))).setCell ⟨gb223,1,none⟩ (.int .i64 ((rd_T63 l0 x7_1).f1))).setCell ⟨gb223,2,none⟩ (.int .i64 ((rd_T63 l0 x7_1).f2))).setCell ⟨gb223,3,none⟩ (.int .i64 ((rd_T63 l0 x7_1).f3))).setCell ⟨gb223,4,none⟩ (.slice A222_4 ((rd_T63 l0 x7_1).f4).length c222_4))) := ⟨by repeat (with_reducible first | exact HB.out | refine below_set ?_ GE223.out)⟩
           (try clear BK223)
           (try clear HB)
           generalize (((((w12.setCell ⟨gb223,0,none⟩ (.string ((rd_T63 l0 x7_1).f0))).setCell ⟨gb223,1,none⟩ (.int .i64 ((rd_T63 l0 x7_1).f1))).setCell ⟨gb223,2,none⟩ (.int .i64 ((rd_T63 l0 x7_1).f2))).setCell ⟨gb223,3,none⟩ (.int .i64 ((rd_T63 l0 x7_1).f3))).setCell ⟨gb223,4,none⟩ (.slice A222_4 ((rd_T63 l0 x7_1).f4).length c222_4)) = w14 at n0_ n1_ ⊢
           have BK223 := n0_;have HB := n1_;clear n0_ n1_;have n0_ := Aside0.mk (blk_drew BK223.out);have n1_ := Aside0.mk (below_drew1 HB.out);clear BK223;clear HB;have BK223 := n0_;have HB := n1_;clear n0_ n1_;have p225 : 0 ≤ ((ji8) : Int) := of_decide_eq_true (by (with_reducible assumption));have q225 : (ji8) < (l0.length : Int) := of_decide_eq_true (by (with_reducible assumption));obtain ⟨ad225,A225_4,c225_4,e225,hx225_0,hx225_1,hx225_2,hx225_3,hx225_4,hl225_4,hi225_4⟩ := at_T63 HR0.out (ji8) p225 q225;have hw225_4 := hx225_4;have hw225_3 := hx225_3;have hw225_2 := hx225_2;have hw225_1 := hx225_1;have hw225_0 := hx225_0;obtain rfl : ad222 = ad225 := (by injection e225);replace hx225_0 := up_ HB.out hx225_0;replace hx225_1 := up_ HB.out hx225_1;replace hx225_2 := up_ HB.out hx225_2;replace hx225_3 := up_ HB.out hx225_3;replace hx225_4 := up_ HB.out hx225_4;have HR225_4 := Aside0.mk hi225_4;have HC225_4 := Aside0.mk hl225_4;clear hi225_4 hl225_4;replace p225 := eq_true p225;replace q225 := eq_true q225;refine start_ (n := 18) (S := fun w' => w'.cell? ⟨gb223,0,none⟩ = some (.string ((rd_T63 l0 x7_1).f0)) ∧ w'.cell? ⟨gb223,1,none⟩ = some (.int .i64 ((rd_T63 l0 x7_1).f1)) ∧ w'.cell? ⟨gb223,2,none⟩ = some (.int .i64 ((rd_T63 l0 x7_1).f2)) ∧ w'.cell? ⟨gb223,3,none⟩ = some (.int .i64 ((rd_T63 l0 x7_1).f3)) ∧ w'.cell? ⟨gb223,4,none⟩ = some (.slice A222_4 ((rd_T63 l0 x7_1).f4).length c222_4) ∧ w'.cell? (ad222.add ((ji8).toNat * 5)) = some (.string ((rd_T63 l0 (ji8)).f0)) ∧ w'.cell? ⟨(ad222.add ((ji8).toNat * 5)).block,(ad222.add ((ji8).toNat * 5)).off + 1,none⟩ = some (.int .i64 ((rd_T63 l0 (ji8)).f1)) ∧ w'.cell? ⟨(ad222.add ((ji8).toNat * 5)).block,(ad222.add ((ji8).toNat * 5)).off + 2,none⟩ = some (.int .i64 ((rd_T63 l0 (ji8)).f2)) ∧ w'.cell? ⟨(ad222.add ((ji8).toNat * 5)).block,(ad222.add ((ji8).toNat * 5)).off + 3,none⟩ = some (.int .i64 ((rd_T63 l0 (ji8)).f3)) ∧ w'.cell? ⟨(ad222.add ((ji8).toNat * 5)).block,(ad222.add ((ji8).toNat * 5)).off + 4,none⟩ = some (.slice A225_4 ((rd_T63 l0 (ji8)).f4).length c225_4)) (ds := []) #[false,false,false,false,false,false,false,false,false,false,false,false,false,false,false,false,false,false] (by kernel_rfl) rfl rfl ⟨(blk_cell BK223.out 0).trans rfl,(blk_cell BK223.out 1).trans rfl,(blk_cell BK223.out 2).trans rfl,(blk_cell BK223.out 3).trans rfl,(blk_cell BK223.out 4).trans rfl,(up_ HB.out hw225_0),(up_ HB.out hw225_1),(up_ HB.out hw225_2),(up_ HB.out hw225_3),(up_ HB.out hw225_4)⟩ (fun hHeld => ?_); refine with_tabW impl_AcctsOk.tab4 impl_AcctsOk.bits4 (fun HT_ HW_ => ?_)
           generalize w14.drew = w15 at BK223 HB HR225_4 hx225_0 hx225_1 hx225_2 hx225_3 hx225_4 hHeld ⊢
           refine take_ (i := 0) (N := some 12) (v := ?_) (a' := ?_) #[true,false,false,false,false,false,false,false,false,false,false,false,false,false,false,false,false,false] rfl rfl (take_ofW HT_.out HW_.out (by kernel_rfl)) (fun _ _ _ h => h) (Or.inl ⟨by rfl,?_⟩) hHeld ?_ ?_;rotate_left
           ·rintro w' ⟨s0,s1,s2,s3,s4,s5,s6,s7,s8,s9⟩;go_simp;with_reducible rfl
           rotate_left
           ·simp only [wf_preprocess];rfl
           refine one_ (i := 1) (N := some 13) #[true,true,false,false,false,false,false,false,false,false,false,false,false,false,false,false,false,false] rfl rfl (one_of HT_.out (by kernel_rfl)) (by decide) (fun K hK => ?_);refine goes_ Try.func45 (by kernel_rfl) rfl #[.agg #[.string ((rd_T63 l0 x7_1).f0),.int .i64 ((rd_T63 l0 x7_1).f1),.int .i64 ((rd_T63 l0 x7_1).f2),.int .i64 ((rd_T63 l0 x7_1).f3),.slice A222_4 ((rd_T63 l0 x7_1).f4).length c222_4]] (by rfl) rfl rfl (by (try simp only [List.map_toArray,List.map_cons,List.map_nil]); rfl) ?_
           with_reducible refine (impl_AcctOk.calls k1 ((rd_T63 l0 x7_1).f0) ((rd_T63 l0 x7_1).f1) ((rd_T63 l0 x7_1).f2) ((rd_T63 l0 x7_1).f3) _ _ ((rd_T63 l0 x7_1).f4) true _ ?side1 ?side2 A5.out).mono ?_
           (case side1 => repeat (exact (Kd.C_below HR222_4.out HB.out)))
           (case side2 => exact HC222_4.out)
           rintro e w16 ⟨rfl,hb⟩;refine ⟨_,rfl,?_⟩;have n0_ := Aside0.mk (blk_below (g := gb223) (o := .cells #[.string ((rd_T63 l0 x7_1).f0),.int .i64 ((rd_T63 l0 x7_1).f1),.int .i64 ((rd_T63 l0 x7_1).f2),.int .i64 ((rd_T63 l0 x7_1).f3),.slice A222_4 ((rd_T63 l0 x7_1).f4).length c222_4] 63 (0,0)) (by exact BK223.out) hb);have n1_ := Aside0.mk (below_step HB.out hb);clear BK223;clear HB;have BK223 := n0_;have HB := n1_;clear n0_ n1_
           (try clear hb)
           skip
           skip
           skip
           refine hK.out _ _ ⟨(blk_cell BK223.out 0).trans rfl,(blk_cell BK223.out 1).trans rfl,(blk_cell BK223.out 2).trans rfl,(blk_cell BK223.out 3).trans rfl,(blk_cell BK223.out 4).trans rfl,(up_ HB.out hw225_0),(up_ HB.out hw225_1),(up_ HB.out hw225_2),(up_ HB.out hw225_3),(up_ HB.out hw225_4)⟩ (fun hHeld => ?_);clear hK K;refine norm_ (a' := ?_) ?_ ?_;rotate_left
           ·show Act.put _ (some 13) _ = _
            simp only [wf_preprocess];rfl
           refine pure_ (i := 2) (N := some 14) (v := ?_) (a' := ?_) #[true,true,true,false,false,false,false,false,false,false,false,false,false,false,false,false,false,false] rfl rfl (any_of HT_.out (by kernel_rfl)) (fun _ _ _ h => h) (Or.inl ⟨by rfl,?_⟩) ?_ ?_;rotate_left
           ·intro w';go_simp;with_reducible rfl
           rotate_left
           ·simp only [wf_preprocess];rfl
           refine pure_ (i := 3) (N := some 15) (v := ?_) (a' := ?_) #[true,true,true,true,false,false,false,false,false,false,false,false,false,false,false,false,false,false] rfl rfl (any_of HT_.out (by kernel_rfl)) (fun _ _ _ h => h) (Or.inl ⟨by rfl,?_⟩) ?_ ?_;rotate_left
           ·intro w';go_simp;with_reducible rfl
           rotate_left
           ·simp only [wf_preprocess];rfl
           refine pure_ (i := 4) (N := some 16) (v := ?_) (a' := ?_) #[true,true,true,true,true,false,false,false,false,false,false,false,false,false,false,false,false,false] rfl rfl (any_of HT_.out (by kernel_rfl)) (fun _ _ _ h => h) (Or.inl ⟨by rfl,?_⟩) ?_ ?_;rotate_left
           ·intro w';go_simp;with_reducible rfl
           rotate_left
           ·simp only [wf_preprocess];rfl
           refine pure_ (i := 5) (N := some 17) (v := ?_) (a' := ?_) #[true,true,true,true,true,true,false,false,false,false,false,false,false,false,false,false,false,false] rfl rfl (any_of HT_.out (by kernel_rfl)) (fun _ _ _ h => h) (Or.inl ⟨by rfl,?_⟩) ?_ ?_;rotate_left
           ·intro w';go_simp;with_reducible rfl
           rotate_left
           ·simp only [wf_preprocess];rfl
           refine pure_ (i := 6) (N := some 18) (v := ?_) (a' := ?_) #[true,true,true,true,true,true,true,false,false,false,false,false,false,false,false,false,false,false] rfl rfl (any_of HT_.out (by kernel_rfl)) (fun _ _ _ h => h) (Or.inl ⟨by rfl,?_⟩) ?_ ?_;rotate_left
           ·intro w';go_simp;with_reducible rfl
           rotate_left
           ·simp only [wf_preprocess];rfl
           refine pure_ (i := 7) (N := some 19) (v := ?_) (a' := ?_) #[true,true,true,true,true,true,true,true,false,false,false,false,false,false,false,false,false,false] rfl rfl (any_of HT_.out (by kernel_rfl)) (fun _ _ _ h => h) (Or.inl ⟨by rfl,?_⟩) ?_ ?_;rotate_left
           ·intro w';go_simp;with_reducible rfl
           rotate_left
           ·simp only [wf_preprocess];rfl
           refine pure_ (i := 9) (N := some 21) (v := ?_) (a' := ?_) #[true,true,true,true,true,true,true,true,false,true,false,false,false,false,false,false,false,false] rfl rfl (any_of HT_.out (by kernel_rfl)) (fun _ _ _ h => h) (Or.inl ⟨by rfl,?_⟩) ?_ ?_;rotate_left
           ·intro w';go_simp;with_reducible rfl
           rotate_left
           ·simp only [wf_preprocess];rfl
           refine pure_ (i := 10) (N := some 22) (v := ?_) (a' := ?_) #[true,true,true,true,true,true,true,true,false,true,true,false,false,false,false,false,false,false] rfl rfl (any_of HT_.out (by kernel_rfl)) (fun _ _ _ h => h) (Or.inl ⟨by rfl,?_⟩) ?_ ?_;rotate_left
           ·intro w';go_simp;with_reducible rfl
           rotate_left
           ·simp only [wf_preprocess];rfl
           refine pure_ (i := 11) (N := some 23) (v := ?_) (a' := ?_) #[true,true,true,true,true,true,true,true,false,true,true,true,false,false,false,false,false,false] rfl rfl (any_of HT_.out (by kernel_rfl)) (fun _ _ _ h => h) (Or.inl ⟨by rfl,?_⟩) ?_ ?_;rotate_left
           ·intro w';go_simp;with_reducible rfl
           rotate_left
           ·simp only [wf_preprocess];rfl
           refine pure_ (i := 12) (N := some 24) (v := ?_) (a' := ?_) #[true,true,true,true,true,true,true,true,false,true,true,true,true,false,false,false,false,false] rfl rfl (any_of HT_.out (by kernel_rfl)) (fun _ _ _ h => h) (Or.inl ⟨by rfl,?_⟩) ?_ ?_;rotate_left
           ·intro w';go_simp;with_reducible rfl
           rotate_left
           ·simp only [wf_preprocess];rfl
           refine pure_ (i := 13) (N := some 25) (v := ?_) (a' := ?_) #[true,true,true,true,true,true,true,true,false,true,true,true,true,true,false,false,false,false] rfl rfl (any_of HT_.out (by kernel_rfl)) (fun _ _ _ h => h) (Or.inl ⟨by rfl,?_⟩) ?_ ?_;rotate_left
           ·intro w';go_simp;with_reducible rfl
           rotate_left
           ·simp only [wf_preprocess];rfl
           refine take_ (i := 8) (N := some 20) (v := ?_) (a' := ?_) #[true,true,true,true,true,true,true,true,true,true,true,true,true,true,false,false,false,false] rfl rfl (take_ofW HT_.out HW_.out (by kernel_rfl)) (fun _ _ _ h => h) (Or.inl ⟨by rfl,?_⟩) hHeld ?_ ?_;rotate_left
           ·rintro w' ⟨s0,s1,s2,s3,s4,s5,s6,s7,s8,s9⟩;go_simp;with_reducible rfl
           rotate_left
           ·simp only [wf_preprocess];rfl
           refine take_ (i := 14) (N := some 26) (v := ?_) (a' := ?_) #[true,true,true,true,true,true,true,true,true,true,true,true,true,true,true,false,false,false] rfl rfl (take_ofW HT_.out HW_.out (by kernel_rfl)) (fun _ _ _ h => h) (Or.inl ⟨by rfl,?_⟩) hHeld ?_ ?_;rotate_left
           ·rintro w' ⟨s0,s1,s2,s3,s4,s5,s6,s7,s8,s9⟩;go_simp;with_reducible rfl
           rotate_left
           ·simp only [wf_preprocess];rfl
           refine pure_ (i := 15) (N := some 27) (v := ?_) (a' := ?_) #[true,true,true,true,true,true,true,true,true,true,true,true,true,true,true,true,false,false] rfl rfl (any_of HT_.out (by kernel_rfl)) (fun _ _ _ h => h) (Or.inl ⟨by rfl,?_⟩) ?_ ?_;rotate_left
           ·intro w';go_simp;with_reducible rfl
           rotate_left
           ·simp only [wf_preprocess];rfl
           refine pure_ (i := 16) (N := some 28) (v := ?_) (a' := ?_) #[true,true,true,true,true,true,true,true,true,true,true,true,true,true,true,true,true,false] rfl rfl (any_of HT_.out (by kernel_rfl)) (fun _ _ _ h => h) (Or.inl ⟨by rfl,?_⟩) ?_ ?_;rotate_left
           ·intro w';go_simp;with_reducible rfl
           rotate_left
           ·simp only [wf_preprocess];rfl
           refine pure_ (i := 17) (N := some 29) (v := ?_) (a' := ?_) #[true,true,true,true,true,true,true,true,true,true,true,true,true,true,true,true,true,true] rfl rfl (any_of HT_.out (by kernel_rfl)) (fun _ _ _ h => h) (Or.inl ⟨by rfl,?_⟩) ?_ ?_;rotate_left
           ·intro w';go_simp;with_reducible rfl
           rotate_left
           ·simp only [wf_preprocess];rfl
           refine done_ (done_of HT_.out (by kernel_rfl)) ?_
           try go_wp2
           go_roundg k1
           case measure => have := HK1.out; omega
           case rel => exact ⟨(wrap64 (x7_1 + 1)),(by rfl),H',⟨by have := HK1.out; omega⟩,⟨HB.out⟩⟩
          ·rw [if_neg c11] at H
           have c11b0 : (Op.bytesLess (((rd_T63 l0 (ji8)).f0).toList) (((rd_T63 l0 x7_1).f0).toList)) = false := by simpa using c11
           clear c11;obtain rfl := Option.some.inj H;have p222 : 0 ≤ (x7_1 : Int) := of_decide_eq_true (by (with_reducible assumption));have q222 : x7_1 < (l0.length : Int) := of_decide_eq_true (by (with_reducible assumption));obtain ⟨ad222,A222_4,c222_4,e222,hx222_0,hx222_1,hx222_2,hx222_3,hx222_4,hl222_4,hi222_4⟩ := at_T63 HR0.out x7_1 p222 q222
           cases e222
           replace hx222_0 := up_ HB.out hx222_0;replace hx222_1 := up_ HB.out hx222_1;replace hx222_2 := up_ HB.out hx222_2;replace hx222_3 := up_ HB.out hx222_3;replace hx222_4 := up_ HB.out hx222_4;have HR222_4 := Aside0.mk hi222_4;have HC222_4 := Aside0.mk hl222_4;clear hi222_4 hl222_4;replace p222 := eq_true p222;replace q222 := eq_true q222
           try go_wp2_with (((with_reducible refine gate_dst (N := 4) rfl ?_); refine box_event ?hg (N := 4) ?hd (cs := #[.string (⟨#[]⟩ : ByteArray),.int .i64 0,.int .i64 0,.int .i64 0,.slice none 0 0]) (t := 63) ?hr ?_; (case hd => rfl); (case hg => rfl); (case hr => (go_simp; done)); intro gb223 hg w17 hbox hb; have n0_ := Aside0.mk (below_step HB.out hb); have n1_ := Aside0.mk (hbox); have n2_ := Aside0.mk (by rw [hg]; exact (below_size HB.out) : w.heap.size ≤ gb223); have n3_ := Aside0.mk (by rw [hg]; exact (below_size HB.out) : w.heap.size ≤ gb223); clear HB; have HB := n0_; have BK223 := n1_; have GW223 := n2_; have GE223 := n3_; clear n0_ n1_ n2_ n3_; clear hb hbox hg; have hcz18_0 : w17.cell? ⟨gb223,0,none⟩ = some (.string (⟨#[]⟩ : ByteArray)) := (blk_cell BK223.out 0).trans rfl; have hcz18_1 : w17.cell? ⟨gb223,1,none⟩ = some (.int .i64 0) := (blk_cell BK223.out 1).trans rfl; have hcz18_2 : w17.cell? ⟨gb223,2,none⟩ = some (.int .i64 0) := (blk_cell BK223.out 2).trans rfl; have hcz18_3 : w17.cell? ⟨gb223,3,none⟩ = some (.int .i64 0) := (blk_cell BK223.out 3).trans rfl; have hcz18_4 : w17.cell? ⟨gb223,4,none⟩ = some (.slice none 0 0) := (blk_cell BK223.out 4).trans rfl; have hfz18_0 := blk_frozen BK223.out 0; have hfz18_1 := blk_frozen BK223.out 1; have hfz18_2 := blk_frozen BK223.out 2; have hfz18_3 := blk_frozen BK223.out 3; have hfz18_4 := blk_frozen BK223.out 4))
           have n0_ : Aside0 ((((((w17.setCell ⟨gb223,0,none⟩ (.string ((rd_T63 l0 x7_1).f0))).setCell ⟨gb223,1,none⟩ (.int .i64 ((rd_T63 l0 x7_1).f1))).setCell ⟨gb223,2,none⟩ (.int .i64 ((rd_T63 l0 x7_1).f2))).setCell ⟨gb223,3,none⟩ (.int .i64 ((rd_T63 l0 x7_1).f3))).setCell ⟨gb223,4,none⟩ (.slice A222_4 ((rd_T63 l0 x7_1).f4).length c222_4)).heap[gb223]? = some (.cells #[.string ((rd_T63 l0 x7_1).f0),.int .i64 ((rd_T63 l0 x7_1).f1),.int .i64 ((rd_T63 l0 x7_1).f2),.int .i64 ((rd_T63 l0 x7_1).f3),.slice A222_4 ((rd_T63 l0 x7_1).f4).length c222_4] 63 (0,0))) := ⟨by refine blk_put (cs := #[.string ((rd_T63 l0 x7_1).f0),.int .i64 ((rd_T63 l0 x7_1).f1),.int .i64 ((rd_T63 l0 x7_1).f2),.int .i64 ((rd_T63 l0 x7_1).f3),.slice none 0 0]) ?_ 4 _ rfl; refine blk_put (cs := #[.string ((rd_T63 l0 x7_1).f0),.int .i64 ((rd_T63 l0 x7_1).f1),.int .i64 ((rd_T63 l0 x7_1).f2),.int .i64 0,.slice none 0 0]) ?_ 3 _ rfl; refine blk_put (cs := #[.string ((rd_T63 l0 x7_1).f0),.int .i64 ((rd_T63 l0 x7_1).f1),.int .i64 0,.int .i64 0,.slice none 0 0]) ?_ 2 _ rfl; refine blk_put (cs := #[.string ((rd_T63 l0 x7_1).f0),.int .i64 0,.int .i64 0,.int .i64 0,.slice none 0 0]) ?_ 1 _ rfl; refine blk_put (cs := #[.string (⟨#[]⟩ : ByteArray),.int .i64 0,.int .i64 0,.int .i64 0,.slice none 0 0]) ?_ 0 _ rfl; exact BK223.out⟩;have n1_ : Aside0 (Below w.heap.size w (((((w17.setCell ⟨gb223,0,none⟩ (.string ((rd_T63 l0 x7_1).f0))).setCell ⟨gb223,1,none⟩ (.int .i64 ((rd_T63 l0 x7_1).f1))).setCell ⟨gb223,2,none⟩ (.int .i64 ((rd_T63 l0 x7_1).f2))).setCell ⟨gb223,3,none⟩ (.int .i64 ((rd_T63 l0 x7_1).f3))).setCell ⟨gb223,4,none⟩ (.slice A222_4 ((rd_T63 l0 x7_1).f4).length c222_4))) := ⟨by repeat (with_reducible first | exact HB.out | refine below_set ?_ GE223.out)⟩
           (try clear BK223)
           (try clear HB)
           generalize (((((w17.setCell ⟨gb223,0,none⟩ (.string ((rd_T63 l0 x7_1).f0))).setCell ⟨gb223,1,none⟩ (.int .i64 ((rd_T63 l0 x7_1).f1))).setCell ⟨gb223,2,none⟩ (.int .i64 ((rd_T63 l0 x7_1).f2))).setCell ⟨gb223,3,none⟩ (.int .i64 ((rd_T63 l0 x7_1).f3))).setCell ⟨gb223,4,none⟩ (.slice A222_4 ((rd_T63 l0 x7_1).f4).length c222_4)) = w19 at n0_ n1_ ⊢
           have BK223 := n0_;have HB := n1_;clear n0_ n1_;have n0_ := Aside0.mk (blk_drew BK223.out);have n1_ := Aside0.mk (below_drew1 HB.out);clear BK223;clear HB;have BK223 := n0_;have HB := n1_;clear n0_ n1_;have p225 : 0 ≤ ((ji8) : Int) := of_decide_eq_true (by (with_reducible assumption));have q225 : (ji8) < (l0.length : Int) := of_decide_eq_true (by (with_reducible assumption));obtain ⟨ad225,A225_4,c225_4,e225,hx225_0,hx225_1,hx225_2,hx225_3,hx225_4,hl225_4,hi225_4⟩ := at_T63 HR0.out (ji8) p225 q225;have hw225_4 := hx225_4;have hw225_3 := hx225_3;have hw225_2 := hx225_2;have hw225_1 := hx225_1;have hw225_0 := hx225_0;obtain rfl : ad222 = ad225 := (by injection e225);replace hx225_0 := up_ HB.out hx225_0;replace hx225_1 := up_ HB.out hx225_1;replace hx225_2 := up_ HB.out hx225_2;replace hx225_3 := up_ HB.out hx225_3;replace hx225_4 := up_ HB.out hx225_4;have HR225_4 := Aside0.mk hi225_4;have HC225_4 := Aside0.mk hl225_4;clear hi225_4 hl225_4;replace p225 := eq_true p225;replace q225 := eq_true q225;refine start_ (n := 18) (S := fun w' => w'.cell? ⟨gb223,0,none⟩ = some (.string ((rd_T63 l0 x7_1).f0)) ∧ w'.cell? ⟨gb223,1,none⟩ = some (.int .i64 ((rd_T63 l0 x7_1).f1)) ∧ w'.cell? ⟨gb223,2,none⟩ = some (.int .i64 ((rd_T63 l0 x7_1).f2)) ∧ w'.cell? ⟨gb223,3,none⟩ = some (.int .i64 ((rd_T63 l0 x7_1).f3)) ∧ w'.cell? ⟨gb223,4,none⟩ = some (.slice A222_4 ((rd_T63 l0 x7_1).f4).length c222_4) ∧ w'.cell? (ad222.add ((ji8).toNat * 5)) = some (.string ((rd_T63 l0 (ji8)).f0)) ∧ w'.cell? ⟨(ad222.add ((ji8).toNat * 5)).block,(ad222.add ((ji8).toNat * 5)).off + 1,none⟩ = some (.int .i64 ((rd_T63 l0 (ji8)).f1)) ∧ w'.cell? ⟨(ad222.add ((ji8).toNat * 5)).block,(ad222.add ((ji8).toNat * 5)).off + 2,none⟩ = some (.int .i64 ((rd_T63 l0 (ji8)).f2)) ∧ w'.cell? ⟨(ad222.add ((ji8).toNat * 5)).block,(ad222.add ((ji8).toNat * 5)).off + 3,none⟩ = some (.int .i64 ((rd_T63 l0 (ji8)).f3)) ∧ w'.cell? ⟨(ad222.add ((ji8).toNat * 5)).block,(ad222.add ((ji8).toNat * 5)).off + 4,none⟩ = some (.slice A225_4 ((rd_T63 l0 (ji8)).f4).length c225_4)) (ds := []) #[false,false,false,false,false,false,false,false,false,false,false,false,false,false,false,false,false,false] (by kernel_rfl) rfl rfl ⟨(blk_cell BK223.out 0).trans rfl,(blk_cell BK223.out 1).trans rfl,(blk_cell BK223.out 2).trans rfl,(blk_cell BK223.out 3).trans rfl,(blk_cell BK223.out 4).trans rfl,(up_ HB.out hw225_0),(up_ HB.out hw225_1),(up_ HB.out hw225_2),(up_ HB.out hw225_3),(up_ HB.out hw225_4)⟩ (fun hHeld => ?_); refine with_tabW impl_AcctsOk.tab4 impl_AcctsOk.bits4 (fun HT_ HW_ => ?_)
           generalize w19.drew = w20 at BK223 HB HR225_4 hx225_0 hx225_1 hx225_2 hx225_3 hx225_4 hHeld ⊢
           refine take_ (i := 0) (N := some 12) (v := ?_) (a' := ?_) #[true,false,false,false,false,false,false,false,false,false,false,false,false,false,false,false,false,false] rfl rfl (take_ofW HT_.out HW_.out (by kernel_rfl)) (fun _ _ _ h => h) (Or.inl ⟨by rfl,?_⟩) hHeld ?_ ?_;rotate_left
           ·rintro w' ⟨s0,s1,s2,s3,s4,s5,s6,s7,s8,s9⟩;go_simp;with_reducible rfl
           rotate_left
           ·simp only [wf_preprocess];rfl
           refine one_ (i := 1) (N := some 13) #[true,true,false,false,false,false,false,false,false,false,false,false,false,false,false,false,false,false] rfl rfl (one_of HT_.out (by kernel_rfl)) (by decide) (fun K hK => ?_);refine goes_ Try.func45 (by kernel_rfl) rfl #[.agg #[.string ((rd_T63 l0 x7_1).f0),.int .i64 ((rd_T63 l0 x7_1).f1),.int .i64 ((rd_T63 l0 x7_1).f2),.int .i64 ((rd_T63 l0 x7_1).f3),.slice A222_4 ((rd_T63 l0 x7_1).f4).length c222_4]] (by rfl) rfl rfl (by (try simp only [List.map_toArray,List.map_cons,List.map_nil]); rfl) ?_
           with_reducible refine (impl_AcctOk.calls k1 ((rd_T63 l0 x7_1).f0) ((rd_T63 l0 x7_1).f1) ((rd_T63 l0 x7_1).f2) ((rd_T63 l0 x7_1).f3) _ _ ((rd_T63 l0 x7_1).f4) true _ ?side1 ?side2 A5.out).mono ?_
           (case side1 => repeat (exact (Kd.C_below HR222_4.out HB.out)))
           (case side2 => exact HC222_4.out)
           rintro e w21 ⟨rfl,hb⟩;refine ⟨_,rfl,?_⟩;have n0_ := Aside0.mk (blk_below (g := gb223) (o := .cells #[.string ((rd_T63 l0 x7_1).f0),.int .i64 ((rd_T63 l0 x7_1).f1),.int .i64 ((rd_T63 l0 x7_1).f2),.int .i64 ((rd_T63 l0 x7_1).f3),.slice A222_4 ((rd_T63 l0 x7_1).f4).length c222_4] 63 (0,0)) (by exact BK223.out) hb);have n1_ := Aside0.mk (below_step HB.out hb);clear BK223;clear HB;have BK223 := n0_;have HB := n1_;clear n0_ n1_
           (try clear hb)
           skip
           skip
           skip
           refine hK.out _ _ ⟨(blk_cell BK223.out 0).trans rfl,(blk_cell BK223.out 1).trans rfl,(blk_cell BK223.out 2).trans rfl,(blk_cell BK223.out 3).trans rfl,(blk_cell BK223.out 4).trans rfl,(up_ HB.out hw225_0),(up_ HB.out hw225_1),(up_ HB.out hw225_2),(up_ HB.out hw225_3),(up_ HB.out hw225_4)⟩ (fun hHeld => ?_);clear hK K;refine norm_ (a' := ?_) ?_ ?_;rotate_left
           ·show Act.put _ (some 13) _ = _
            simp only [wf_preprocess];rfl
           refine pure_ (i := 2) (N := some 14) (v := ?_) (a' := ?_) #[true,true,true,false,false,false,false,false,false,false,false,false,false,false,false,false,false,false] rfl rfl (any_of HT_.out (by kernel_rfl)) (fun _ _ _ h => h) (Or.inl ⟨by rfl,?_⟩) ?_ ?_;rotate_left
           ·intro w';go_simp;with_reducible rfl
           rotate_left
           ·simp only [wf_preprocess];rfl
           refine pure_ (i := 3) (N := some 15) (v := ?_) (a' := ?_) #[true,true,true,true,false,false,false,false,false,false,false,false,false,false,false,false,false,false] rfl rfl (any_of HT_.out (by kernel_rfl)) (fun _ _ _ h => h) (Or.inl ⟨by rfl,?_⟩) ?_ ?_;rotate_left
           ·intro w';go_simp;with_reducible rfl
           rotate_left
           ·simp only [wf_preprocess];rfl
           refine pure_ (i := 4) (N := some 16) (v := ?_) (a' := ?_) #[true,true,true,true,true,false,false,false,false,false,false,false,false,false,false,false,false,false] rfl rfl (any_of HT_.out (by kernel_rfl)) (fun _ _ _ h => h) (Or.inl ⟨by rfl,?_⟩) ?_ ?_;rotate_left
           ·intro w';go_simp;with_reducible rfl
           rotate_left
           ·simp only [wf_preprocess];rfl
           refine pure_ (i := 5) (N := some 17) (v := ?_) (a' := ?_) #[true,true,true,true,true,true,false,false,false,false,false,false,false,false,false,false,false,false] rfl rfl (any_of HT_.out (by kernel_rfl)) (fun _ _ _ h => h) (Or.inl ⟨by rfl,?_⟩) ?_ ?_;rotate_left
           ·intro w';go_simp;with_reducible rfl
           rotate_left
           ·simp only [wf_preprocess];rfl
           refine pure_ (i := 6) (N := some 18) (v := ?_) (a' := ?_) #[true,true,true,true,true,true,true,false,false,false,false,false,false,false,false,false,false,false] rfl rfl (any_of HT_.out (by kernel_rfl)) (fun _ _ _ h => h) (Or.inl ⟨by rfl,?_⟩) ?_ ?_;rotate_left
           ·intro w';go_simp;with_reducible rfl
           rotate_left
           ·simp only [wf_preprocess];rfl
           refine pure_ (i := 7) (N := some 19) (v := ?_) (a' := ?_) #[true,true,true,true,true,true,true,true,false,false,false,false,false,false,false,false,false,false] rfl rfl (any_of HT_.out (by kernel_rfl)) (fun _ _ _ h => h) (Or.inl ⟨by rfl,?_⟩) ?_ ?_;rotate_left
           ·intro w';go_simp;with_reducible rfl
           rotate_left
           ·simp only [wf_preprocess];rfl
           refine pure_ (i := 9) (N := some 21) (v := ?_) (a' := ?_) #[true,true,true,true,true,true,true,true,false,true,false,false,false,false,false,false,false,false] rfl rfl (any_of HT_.out (by kernel_rfl)) (fun _ _ _ h => h) (Or.inl ⟨by rfl,?_⟩) ?_ ?_;rotate_left
           ·intro w';go_simp;with_reducible rfl
           rotate_left
           ·simp only [wf_preprocess];rfl
           refine pure_ (i := 10) (N := some 22) (v := ?_) (a' := ?_) #[true,true,true,true,true,true,true,true,false,true,true,false,false,false,false,false,false,false] rfl rfl (any_of HT_.out (by kernel_rfl)) (fun _ _ _ h => h) (Or.inl ⟨by rfl,?_⟩) ?_ ?_;rotate_left
           ·intro w';go_simp;with_reducible rfl
           rotate_left
           ·simp only [wf_preprocess];rfl
           refine pure_ (i := 11) (N := some 23) (v := ?_) (a' := ?_) #[true,true,true,true,true,true,true,true,false,true,true,true,false,false,false,false,false,false] rfl rfl (any_of HT_.out (by kernel_rfl)) (fun _ _ _ h => h) (Or.inl ⟨by rfl,?_⟩) ?_ ?_;rotate_left
           ·intro w';go_simp;with_reducible rfl
           rotate_left
           ·simp only [wf_preprocess];rfl
           refine pure_ (i := 12) (N := some 24) (v := ?_) (a' := ?_) #[true,true,true,true,true,true,true,true,false,true,true,true,true,false,false,false,false,false] rfl rfl (any_of HT_.out (by kernel_rfl)) (fun _ _ _ h => h) (Or.inl ⟨by rfl,?_⟩) ?_ ?_;rotate_left
           ·intro w';go_simp;with_reducible rfl
           rotate_left
           ·simp only [wf_preprocess];rfl
           refine pure_ (i := 13) (N := some 25) (v := ?_) (a' := ?_) #[true,true,true,true,true,true,true,true,false,true,true,true,true,true,false,false,false,false] rfl rfl (any_of HT_.out (by kernel_rfl)) (fun _ _ _ h => h) (Or.inl ⟨by rfl,?_⟩) ?_ ?_;rotate_left
           ·intro w';go_simp;with_reducible rfl
           rotate_left
           ·simp only [wf_preprocess];rfl
           refine take_ (i := 8) (N := some 20) (v := ?_) (a' := ?_) #[true,true,true,true,true,true,true,true,true,true,true,true,true,true,false,false,false,false] rfl rfl (take_ofW HT_.out HW_.out (by kernel_rfl)) (fun _ _ _ h => h) (Or.inl ⟨by rfl,?_⟩) hHeld ?_ ?_;rotate_left
           ·rintro w' ⟨s0,s1,s2,s3,s4,s5,s6,s7,s8,s9⟩;go_simp;with_reducible rfl
           rotate_left
           ·simp only [wf_preprocess];rfl
           refine take_ (i := 14) (N := some 26) (v := ?_) (a' := ?_) #[true,true,true,true,true,true,true,true,true,true,true,true,true,true,true,false,false,false] rfl rfl (take_ofW HT_.out HW_.out (by kernel_rfl)) (fun _ _ _ h => h) (Or.inl ⟨by rfl,?_⟩) hHeld ?_ ?_;rotate_left
           ·rintro w' ⟨s0,s1,s2,s3,s4,s5,s6,s7,s8,s9⟩;go_simp;with_reducible rfl
           rotate_left
           ·simp only [wf_preprocess];rfl
           refine pure_ (i := 15) (N := some 27) (v := ?_) (a' := ?_) #[true,true,true,true,true,true,true,true,true,true,true,true,true,true,true,true,false,false] rfl rfl (any_of HT_.out (by kernel_rfl)) (fun _ _ _ h => h) (Or.inl ⟨by rfl,?_⟩) ?_ ?_;rotate_left
           ·intro w';go_simp;with_reducible rfl
           rotate_left
           ·simp only [wf_preprocess];rfl
           refine pure_ (i := 16) (N := some 28) (v := ?_) (a' := ?_) #[true,true,true,true,true,true,true,true,true,true,true,true,true,true,true,true,true,false] rfl rfl (any_of HT_.out (by kernel_rfl)) (fun _ _ _ h => h) (Or.inl ⟨by rfl,?_⟩) ?_ ?_;rotate_left
           ·intro w';go_simp;with_reducible rfl
           rotate_left
           ·simp only [wf_preprocess];rfl
           refine pure_ (i := 17) (N := some 29) (v := ?_) (a' := ?_) #[true,true,true,true,true,true,true,true,true,true,true,true,true,true,true,true,true,true] rfl rfl (any_of HT_.out (by kernel_rfl)) (fun _ _ _ h => h) (Or.inl ⟨by rfl,?_⟩) ?_ ?_;rotate_left
           ·intro w';go_simp;with_reducible rfl
           rotate_left
           ·simp only [wf_preprocess];rfl
           refine done_ (done_of HT_.out (by kernel_rfl)) ?_
           try go_wp2
           go_ret;exact ⟨by rfl,HB.out⟩
         ·rw [if_neg c10] at H;exact absurd H (by simp)
        ·rw [if_neg c9] at H;exact absurd H (by simp)
       ·rw [if_neg c7] at H;have c7b0 : decide (0 < x7_1) = false := decide_eq_false c7;clear c7;have H' := Aside0.mk H;clear H;have p222 : 0 ≤ (x7_1 : Int) := of_decide_eq_true (by (with_reducible assumption));have q222 : x7_1 < (l0.length : Int) := of_decide_eq_true (by (with_reducible assumption));obtain ⟨ad222,A222_4,c222_4,e222,hx222_0,hx222_1,hx222_2,hx222_3,hx222_4,hl222_4,hi222_4⟩ := at_T63 HR0.out x7_1 p222 q222
        cases e222
        replace hx222_0 := up_ HB.out hx222_0;replace hx222_1 := up_ HB.out hx222_1;replace hx222_2 := up_ HB.out hx222_2;replace hx222_3 := up_ HB.out hx222_3;replace hx222_4 := up_ HB.out hx222_4;have HR222_4 := Aside0.mk hi222_4;have HC222_4 := Aside0.mk hl222_4;clear hi222_4 hl222_4;replace p222 := eq_true p222;replace q222 := eq_true q222
        try go_wp2_with (((with_reducible refine gate_dst (N := 4) rfl ?_); refine box_event ?hg (N := 4) ?hd (cs := #[.string (⟨#[]⟩ : ByteArray),.int .i64 0,.int .i64 0,.int .i64 0,.slice none 0 0]) (t := 63) ?hr ?_; (case hd => rfl); (case hg => rfl); (case hr => (go_simp; done)); intro gb223 hg w22 hbox hb; have n0_ := Aside0.mk (below_step HB.out hb); have n1_ := Aside0.mk (hbox); have n2_ := Aside0.mk (by rw [hg]; exact (below_size HB.out) : w.heap.size ≤ gb223); have n3_ := Aside0.mk (by rw [hg]; exact (below_size HB.out) : w.heap.size ≤ gb223); clear HB; have HB := n0_; have BK223 := n1_; have GW223 := n2_; have GE223 := n3_; clear n0_ n1_ n2_ n3_; clear hb hbox hg; have hcz23_0 : w22.cell? ⟨gb223,0,none⟩ = some (.string (⟨#[]⟩ : ByteArray)) := (blk_cell BK223.out 0).trans rfl; have hcz23_1 : w22.cell? ⟨gb223,1,none⟩ = some (.int .i64 0) := (blk_cell BK223.out 1).trans rfl; have hcz23_2 : w22.cell? ⟨gb223,2,none⟩ = some (.int .i64 0) := (blk_cell BK223.out 2).trans rfl; have hcz23_3 : w22.cell? ⟨gb223,3,none⟩ = some (.int .i64 0) := (blk_cell BK223.out 3).trans rfl; have hcz23_4 : w22.cell? ⟨gb223,4,none⟩ = some (.slice none 0 0) := (blk_cell BK223.out 4).trans rfl; have hfz23_0 := blk_frozen BK223.out 0; have hfz23_1 := blk_frozen BK223.out 1; have hfz23_2 := blk_frozen BK223.out 2; have hfz23_3 := blk_frozen BK223.out 3; have hfz23_4 := blk_frozen BK223.out 4))
        have n0_ : Aside0 ((((((w22.setCell ⟨gb223,0,none⟩ (.string ((rd_T63 l0 x7_1).f0))).setCell ⟨gb223,1,none⟩ (.int .i64 ((rd_T63 l0 x7_1).f1))).setCell ⟨gb223,2,none⟩ (.int .i64 ((rd_T63 l0 x7_1).f2))).setCell ⟨gb223,3,none⟩ (.int .i64 ((rd_T63 l0 x7_1).f3))).setCell ⟨gb223,4,none⟩ (.slice A222_4 ((rd_T63 l0 x7_1).f4).length c222_4)).heap[gb223]? = some (.cells #[.string ((rd_T63 l0 x7_1).f0),.int .i64 ((rd_T63 l0 x7_1).f1),.int .i64 ((rd_T63 l0 x7_1).f2),.int .i64 ((rd_T63 l0 x7_1).f3),.slice A222_4 ((rd_T63 l0 x7_1).f4).length c222_4] 63 (0,0))) := ⟨by refine blk_put (cs := #[.string ((rd_T63 l0 x7_1).f0),.int .i64 ((rd_T63 l0 x7_1).f1),.int .i64 ((rd_T63 l0 x7_1).f2),.int .i64 ((rd_T63 l0 x7_1).f3),.slice none 0 0]) ?_ 4 _ rfl; refine blk_put (cs := #[.string ((rd_T63 l0 x7_1).f0),.int .i64 ((rd_T63 l0 x7_1).f1),.int .i64 ((rd_T63 l0 x7_1).f2),.int .i64 0,.slice none 0 0]) ?_ 3 _ rfl; refine blk_put (cs := #[.string ((rd_T63 l0 x7_1).f0),.int .i64 ((rd_T63 l0 x7_1).f1),.int .i64 0,.int .i64 0,.slice none 0 0]) ?_ 2 _ rfl; refine blk_put (cs := #[.string ((rd_T63 l0 x7_1).f0),.int .i64 0,.int .i64 0,.int .i64 0,.slice none 0 0]) ?_ 1 _ rfl; refine blk_put (cs := #[.string (⟨#[]⟩ : ByteArray),.int .i64 0,.int .i64 0,.int .i64 0,.slice none 0 0]) ?_ 0 _ rfl; exact BK223.out⟩;have n1_ : Aside0 (Below w.heap.size w (((((w22.setCell ⟨gb223,0,none⟩ (.string ((rd_T63 l0 x7_1).f0))).setCell ⟨gb223,1,none⟩ (.int .i64 ((rd_T63 l0 x7_1).f1))).setCell ⟨gb223,2,none⟩ (.int .i64 ((rd_T63 l0 x7_1).f2))).setCell ⟨gb223,3,none⟩ (.int .i64 ((rd_T63 l0 x7_1).f3))).setCell ⟨gb223,4,none⟩ (.slice A222_4 ((rd_T63 l0 x7_1).f4).length c222_4))) := ⟨by repeat (with_reducible first | exact HB.out | refine below_set ?_ GE223.out)⟩
        (try clear BK223)
        (try clear HB)
        generalize (((((w22.setCell ⟨gb223,0,none⟩ (.string ((rd_T63 l0 x7_1).f0))).setCell ⟨gb223,1,none⟩ (.int .i64 ((rd_T63 l0 x7_1).f1))).setCell ⟨gb223,2,none⟩ (.int .i64 ((rd_T63 l0 x7_1).f2))).setCell ⟨gb223,3,none⟩ (.int .i64 ((rd_T63 l0 x7_1).f3))).setCell ⟨gb223,4,none⟩ (.slice A222_4 ((rd_T63 l0 x7_1).f4).length c222_4)) = w24 at n0_ n1_ ⊢
        have BK223 := n0_;have HB := n1_;clear n0_ n1_;have n0_ := Aside0.mk (blk_drew BK223.out);have n1_ := Aside0.mk (below_drew1 HB.out);clear BK223;clear HB;have BK223 := n0_;have HB := n1_;clear n0_ n1_;refine start_ (n := 18) (S := fun w' => w'.cell? ⟨gb223,0,none⟩ = some (.string ((rd_T63 l0 x7_1).f0)) ∧ w'.cell? ⟨gb223,1,none⟩ = some (.int .i64 ((rd_T63 l0 x7_1).f1)) ∧ w'.cell? ⟨gb223,2,none⟩ = some (.int .i64 ((rd_T63 l0 x7_1).f2)) ∧ w'.cell? ⟨gb223,3,none⟩ = some (.int .i64 ((rd_T63 l0 x7_1).f3)) ∧ w'.cell? ⟨gb223,4,none⟩ = some (.slice A222_4 ((rd_T63 l0 x7_1).f4).length c222_4)) (ds := []) #[false,false,false,false,false,false,false,false,false,false,false,false,false,false,false,false,false,false] (by kernel_rfl) rfl rfl ⟨(blk_cell BK223.out 0).trans rfl,(blk_cell BK223.out 1).trans rfl,(blk_cell BK223.out 2).trans rfl,(blk_cell BK223.out 3).trans rfl,(blk_cell BK223.out 4).trans rfl⟩ (fun hHeld => ?_); refine with_tabW impl_AcctsOk.tab4 impl_AcctsOk.bits4 (fun HT_ HW_ => ?_)
        generalize w24.drew = w25 at BK223 HB hHeld ⊢
        refine take_ (i := 0) (N := some 12) (v := ?_) (a' := ?_) #[true,false,false,false,false,false,false,false,false,false,false,false,false,false,false,false,false,false] rfl rfl (take_ofW HT_.out HW_.out (by kernel_rfl)) (fun _ _ _ h => h) (Or.inl ⟨by rfl,?_⟩) hHeld ?_ ?_;rotate_left
        ·rintro w' ⟨s0,s1,s2,s3,s4⟩;go_simp;with_reducible rfl
        rotate_left
        ·simp only [wf_preprocess];rfl
        refine one_ (i := 1) (N := some 13) #[true,true,false,false,false,false,false,false,false,false,false,false,false,false,false,false,false,false] rfl rfl (one_of HT_.out (by kernel_rfl)) (by decide) (fun K hK => ?_);refine goes_ Try.func45 (by kernel_rfl) rfl #[.agg #[.string ((rd_T63 l0 x7_1).f0),.int .i64 ((rd_T63 l0 x7_1).f1),.int .i64 ((rd_T63 l0 x7_1).f2),.int .i64 ((rd_T63 l0 x7_1).f3),.slice A222_4 ((rd_T63 l0 x7_1).f4).length c222_4]] (by rfl) rfl rfl (by (try simp only [List.map_toArray,List.map_cons,List.map_nil]); rfl) ?_
        with_reducible refine (impl_AcctOk.calls k1 ((rd_T63 l0 x7_1).f0) ((rd_T63 l0 x7_1).f1) ((rd_T63 l0 x7_1).f2) ((rd_T63 l0 x7_1).f3) _ _ ((rd_T63 l0 x7_1).f4) true _ ?side1 ?side2 A5.out).mono ?_
        (case side1 => repeat (exact (Kd.C_below HR222_4.out HB.out)))
        (case side2 => exact HC222_4.out)
        rintro e w26 ⟨rfl,hb⟩;refine ⟨_,rfl,?_⟩;have n0_ := Aside0.mk (blk_below (g := gb223) (o := .cells #[.string ((rd_T63 l0 x7_1).f0),.int .i64 ((rd_T63 l0 x7_1).f1),.int .i64 ((rd_T63 l0 x7_1).f2),.int .i64 ((rd_T63 l0 x7_1).f3),.slice A222_4 ((rd_T63 l0 x7_1).f4).length c222_4] 63 (0,0)) (by exact BK223.out) hb);have n1_ := Aside0.mk (below_step HB.out hb);clear BK223;clear HB;have BK223 := n0_;have HB := n1_;clear n0_ n1_
        (try clear hb)
        skip
        skip
        skip
        refine hK.out _ _ ⟨(blk_cell BK223.out 0).trans rfl,(blk_cell BK223.out 1).trans rfl,(blk_cell BK223.out 2).trans rfl,(blk_cell BK223.out 3).trans rfl,(blk_cell BK223.out 4).trans rfl⟩ (fun hHeld => ?_);clear hK K;refine norm_ (a' := ?_) ?_ ?_;rotate_left
        ·show Act.put _ (some 13) _ = _
         simp only [wf_preprocess];rfl
        refine pure_ (i := 2) (N := some 14) (v := ?_) (a' := ?_) #[true,true,true,false,false,false,false,false,false,false,false,false,false,false,false,false,false,false] rfl rfl (any_of HT_.out (by kernel_rfl)) (fun _ _ _ h => h) (Or.inl ⟨by rfl,?_⟩) ?_ ?_;rotate_left
        ·intro w';go_simp;with_reducible rfl
        rotate_left
        ·simp only [wf_preprocess];rfl
        refine pure_ (i := 3) (N := some 15) (v := ?_) (a' := ?_) #[true,true,true,true,false,false,false,false,false,false,false,false,false,false,false,false,false,false] rfl rfl (any_of HT_.out (by kernel_rfl)) (fun _ _ _ h => h) (Or.inl ⟨by rfl,?_⟩) ?_ ?_;rotate_left
        ·intro w';go_simp;with_reducible rfl
        rotate_left
        ·simp only [wf_preprocess];rfl
        refine pure_ (i := 4) (N := some 16) (v := ?_) (a' := ?_) #[true,true,true,true,true,false,false,false,false,false,false,false,false,false,false,false,false,false] rfl rfl (any_of HT_.out (by kernel_rfl)) (fun _ _ _ h => h) (Or.inl ⟨by rfl,?_⟩) ?_ ?_;rotate_left
        ·intro w';go_simp;with_reducible rfl
        rotate_left
        ·simp only [wf_preprocess];rfl
        refine pure_ (i := 5) (N := some 17) (v := ?_) (a' := ?_) #[true,true,true,true,true,true,false,false,false,false,false,false,false,false,false,false,false,false] rfl rfl (any_of HT_.out (by kernel_rfl)) (fun _ _ _ h => h) (Or.inl ⟨by rfl,?_⟩) ?_ ?_;rotate_left
        ·intro w';go_simp;with_reducible rfl
        rotate_left
        ·simp only [wf_preprocess];rfl
        refine pure_ (i := 6) (N := some 18) (v := ?_) (a' := ?_) #[true,true,true,true,true,true,true,false,false,false,false,false,false,false,false,false,false,false] rfl rfl (any_of HT_.out (by kernel_rfl)) (fun _ _ _ h => h) (Or.inl ⟨by rfl,?_⟩) ?_ ?_;rotate_left
        ·intro w';go_simp;with_reducible rfl
        rotate_left
        ·simp only [wf_preprocess];rfl
        refine pure_ (i := 7) (N := some 19) (v := undef) (a' := ?_) #[true,true,true,true,true,true,true,true,false,false,false,false,false,false,false,false,false,false] rfl rfl (any_of HT_.out (by kernel_rfl)) (fun _ _ _ h => h) (Or.inr ⟨by rfl,rfl⟩) ?_ ?_;rotate_left
        ·simp only [wf_preprocess];rfl
        refine pure_ (i := 8) (N := some 20) (v := undef) (a' := ?_) #[true,true,true,true,true,true,true,true,true,false,false,false,false,false,false,false,false,false] rfl rfl (any_of HT_.out (by kernel_rfl)) (fun _ _ _ h => h) (Or.inr ⟨by rfl,rfl⟩) ?_ ?_;rotate_left
        ·simp only [wf_preprocess];rfl
        refine pure_ (i := 9) (N := some 21) (v := undef) (a' := ?_) #[true,true,true,true,true,true,true,true,true,true,false,false,false,false,false,false,false,false] rfl rfl (any_of HT_.out (by kernel_rfl)) (fun _ _ _ h => h) (Or.inr ⟨by rfl,rfl⟩) ?_ ?_;rotate_left
        ·simp only [wf_preprocess];rfl
        refine pure_ (i := 10) (N := some 22) (v := undef) (a' := ?_) #[true,true,true,true,true,true,true,true,true,true,true,false,false,false,false,false,false,false] rfl rfl (any_of HT_.out (by kernel_rfl)) (fun _ _ _ h => h) (Or.inr ⟨by rfl,rfl⟩) ?_ ?_;rotate_left
        ·simp only [wf_preprocess];rfl
        refine pure_ (i := 11) (N := some 23) (v := undef) (a' := ?_) #[true,true,true,true,true,true,true,true,true,true,true,true,false,false,false,false,false,false] rfl rfl (any_of HT_.out (by kernel_rfl)) (fun _ _ _ h => h) (Or.inr ⟨by rfl,rfl⟩) ?_ ?_;rotate_left
        ·simp only [wf_preprocess];rfl
        refine pure_ (i := 12) (N := some 24) (v := undef) (a' := ?_) #[true,true,true,true,true,true,true,true,true,true,true,true,true,false,false,false,false,false] rfl rfl (any_of HT_.out (by kernel_rfl)) (fun _ _ _ h => h) (Or.inr ⟨by rfl,rfl⟩) ?_ ?_;rotate_left
        ·simp only [wf_preprocess];rfl
        refine pure_ (i := 13) (N := some 25) (v := undef) (a' := ?_) #[true,true,true,true,true,true,true,true,true,true,true,true,true,true,false,false,false,false] rfl rfl (any_of HT_.out (by kernel_rfl)) (fun _ _ _ h => h) (Or.inr ⟨by rfl,rfl⟩) ?_ ?_;rotate_left
        ·simp only [wf_preprocess];rfl
        refine pure_ (i := 14) (N := some 26) (v := undef) (a' := ?_) #[true,true,true,true,true,true,true,true,true,true,true,true,true,true,true,false,false,false] rfl rfl (any_of HT_.out (by kernel_rfl)) (fun _ _ _ h => h) (Or.inr ⟨by rfl,rfl⟩) ?_ ?_;rotate_left
        ·simp only [wf_preprocess];rfl
        refine pure_ (i := 15) (N := some 27) (v := undef) (a' := ?_) #[true,true,true,true,true,true,true,true,true,true,true,true,true,true,true,true,false,false] rfl rfl (any_of HT_.out (by kernel_rfl)) (fun _ _ _ h => h) (Or.inr ⟨by rfl,rfl⟩) ?_ ?_;rotate_left
        ·simp only [wf_preprocess];rfl
        refine pure_ (i := 16) (N := some 28) (v := ?_) (a' := ?_) #[true,true,true,true,true,true,true,true,true,true,true,true,true,true,true,true,true,false] rfl rfl (any_of HT_.out (by kernel_rfl)) (fun _ _ _ h => h) (Or.inl ⟨by rfl,?_⟩) ?_ ?_;rotate_left
        ·intro w';go_simp;with_reducible rfl
        rotate_left
        ·simp only [wf_preprocess];rfl
        refine pure_ (i := 17) (N := some 29) (v := ?_) (a' := ?_) #[true,true,true,true,true,true,true,true,true,true,true,true,true,true,true,true,true,true] rfl rfl (any_of HT_.out (by kernel_rfl)) (fun _ _ _ h => h) (Or.inl ⟨by rfl,?_⟩) ?_ ?_;rotate_left
        ·intro w';go_simp;with_reducible rfl
        rotate_left
        ·simp only [wf_preprocess];rfl
        refine done_ (done_of HT_.out (by kernel_rfl)) ?_
        try go_wp2
        go_roundg k1
        case measure => have := HK1.out; omega
        case rel => exact ⟨(wrap64 (x7_1 + 1)),(by rfl),H',⟨by have := HK1.out; omega⟩,⟨HB.out⟩⟩
      ·replace c6 := Bool.eq_false_iff.mpr c6;subst c6
       rw [if_neg (show ¬ (false = true) by decide)] at H
       obtain rfl := Option.some.inj H;have p222 : 0 ≤ (x7_1 : Int) := of_decide_eq_true (by (with_reducible assumption));have q222 : x7_1 < (l0.length : Int) := of_decide_eq_true (by (with_reducible assumption));obtain ⟨ad222,A222_4,c222_4,e222,hx222_0,hx222_1,hx222_2,hx222_3,hx222_4,hl222_4,hi222_4⟩ := at_T63 HR0.out x7_1 p222 q222
       cases e222
       replace hx222_0 := up_ HB.out hx222_0;replace hx222_1 := up_ HB.out hx222_1;replace hx222_2 := up_ HB.out hx222_2;replace hx222_3 := up_ HB.out hx222_3;replace hx222_4 := up_ HB.out hx222_4;have HR222_4 := Aside0.mk hi222_4;have HC222_4 := Aside0.mk hl222_4;clear hi222_4 hl222_4;replace p222 := eq_true p222;replace q222 := eq_true q222
       try go_wp2_with (((with_reducible refine gate_dst (N := 4) rfl ?_); refine box_event ?hg (N := 4) ?hd (cs := #[.string (⟨#[]⟩ : ByteArray),.int .i64 0,.int .i64 0,.int .i64 0,.slice none 0 0]) (t := 63) ?hr ?_; (case hd => rfl); (case hg => rfl); (case hr => (go_simp; done)); intro gb223 hg w27 hbox hb; have n0_ := Aside0.mk (below_step HB.out hb); have n1_ := Aside0.mk (hbox); have n2_ := Aside0.mk (by rw [hg]; exact (below_size HB.out) : w.heap.size ≤ gb223); have n3_ := Aside0.mk (by rw [hg]; exact (below_size HB.out) : w.heap.size ≤ gb223); clear HB; have HB := n0_; have BK223 := n1_; have GW223 := n2_; have GE223 := n3_; clear n0_ n1_ n2_ n3_; clear hb hbox hg; have hcz28_0 : w27.cell? ⟨gb223,0,none⟩ = some (.string (⟨#[]⟩ : ByteArray)) := (blk_cell BK223.out 0).trans rfl; have hcz28_1 : w27.cell? ⟨gb223,1,none⟩ = some (.int .i64 0) := (blk_cell BK223.out 1).trans rfl; have hcz28_2 : w27.cell? ⟨gb223,2,none⟩ = some (.int .i64 0) := (blk_cell BK223.out 2).trans rfl; have hcz28_3 : w27.cell? ⟨gb223,3,none⟩ = some (.int .i64 0) := (blk_cell BK223.out 3).trans rfl; have hcz28_4 : w27.cell? ⟨gb223,4,none⟩ = some (.slice none 0 0) := (blk_cell BK223.out 4).trans rfl; have hfz28_0 := blk_frozen BK223.out 0; have hfz28_1 := blk_frozen BK223.out 1; have hfz28_2 := blk_frozen BK223.out 2; have hfz28_3 := blk_frozen BK223.out 3; have hfz28_4 := blk_frozen BK223.out 4))
       have n0_ : Aside0 ((((((w27.setCell ⟨gb223,0,none⟩ (.string ((rd_T63 l0 x7_1).f0))).setCell ⟨gb223,1,none⟩ (.int .i64 ((rd_T63 l0 x7_1).f1))).setCell ⟨gb223,2,none⟩ (.int .i64 ((rd_T63 l0 x7_1).f2))).setCell ⟨gb223,3,none⟩ (.int .i64 ((rd_T63 l0 x7_1).f3))).setCell ⟨gb223,4,none⟩ (.slice A222_4 ((rd_T63 l0 x7_1).f4).length c222_4)).heap[gb223]? = some (.cells #[.string ((rd_T63 l0 x7_1).f0),.int .i64 ((rd_T63 l0 x7_1).f1),.int .i64 ((rd_T63 l0 x7_1).f2),.int .i64 ((rd_T63 l0 x7_1).f3),.slice A222_4 ((rd_T63 l0 x7_1).f4).length c222_4] 63 (0,0))) := ⟨by refine blk_put (cs := #[.string ((rd_T63 l0 x7_1).f0),.int .i64 ((rd_T63 l0 x7_1).f1),.int .i64 ((rd_T63 l0 x7_1).f2),.int .i64 ((rd_T63 l0 x7_1).f3),.slice none 0 0]) ?_ 4 _ rfl; refine blk_put (cs := #[.string ((rd_T63 l0 x7_1).f0),.int .i64 ((rd_T63 l0 x7_1).f1),.int .i64 ((rd_T63 l0 x7_1).f2),.int .i64 0,.slice none 0 0]) ?_ 3 _ rfl; refine blk_put (cs := #[.string ((rd_T63 l0 x7_1).f0),.int .i64 ((rd_T63 l0 x7_1).f1),.int .i64 0,.int .i64 0,.slice none 0 0]) ?_ 2 _ rfl; refine blk_put (cs := #[.string ((rd_T63 l0 x7_1).f0),.int .i64 0,.int .i64 0,.int .i64 0,.slice none 0 0]) ?_ 1 _ rfl; refine blk_put (cs := #[.string (⟨#[]⟩ : ByteArray),.int .i64 0,.int .i64 0,.int .i64 0,.slice none 0 0]) ?_ 0 _ rfl; exact BK223.out⟩;have n1_ : Aside0 (Below w.heap.size w (((((w27.setCell ⟨gb223,0,none⟩ (.string ((rd_T63 l0 x7_1).f0))).setCell ⟨gb223,1,none⟩ (.int .i64 ((rd_T63 l0 x7_1).f1))).setCell ⟨gb223,2,none⟩ (.int .i64 ((rd_T63 l0 x7_1).f2))).setCell ⟨gb223,3,none⟩ (.int .i64 ((rd_T63 l0 x7_1).f3))).setCell ⟨gb223,4,none⟩ (.slice A222_4 ((rd_T63 l0 x7_1).f4).length c222_4))) := ⟨by repeat (with_reducible first | exact HB.out | refine below_set ?_ GE223.out)⟩
       (try clear BK223)
       (try clear HB)
       generalize (((((w27.setCell ⟨gb223,0,none⟩ (.string ((rd_T63 l0 x7_1).f0))).setCell ⟨gb223,1,none⟩ (.int .i64 ((rd_T63 l0 x7_1).f1))).setCell ⟨gb223,2,none⟩ (.int .i64 ((rd_T63 l0 x7_1).f2))).setCell ⟨gb223,3,none⟩ (.int .i64 ((rd_T63 l0 x7_1).f3))).setCell ⟨gb223,4,none⟩ (.slice A222_4 ((rd_T63 l0 x7_1).f4).length c222_4)) = w29 at n0_ n1_ ⊢
       have BK223 := n0_;have HB := n1_;clear n0_ n1_;have n0_ := Aside0.mk (blk_drew BK223.out);have n1_ := Aside0.mk (below_drew1 HB.out);clear BK223;clear HB;have BK223 := n0_;have HB := n1_;clear n0_ n1_;refine start_ (n := 18) (S := fun w' => w'.cell? ⟨gb223,0,none⟩ = some (.string ((rd_T63 l0 x7_1).f0)) ∧ w'.cell? ⟨gb223,1,none⟩ = some (.int .i64 ((rd_T63 l0 x7_1).f1)) ∧ w'.cell? ⟨gb223,2,none⟩ = some (.int .i64 ((rd_T63 l0 x7_1).f2)) ∧ w'.cell? ⟨gb223,3,none⟩ = some (.int .i64 ((rd_T63 l0 x7_1).f3)) ∧ w'.cell? ⟨gb223,4,none⟩ = some (.slice A222_4 ((rd_T63 l0 x7_1).f4).length c222_4)) (ds := []) #[false,false,false,false,false,false,false,false,false,false,false,false,false,false,false,false,false,false] (by kernel_rfl) rfl rfl ⟨(blk_cell BK223.out 0).trans rfl,(blk_cell BK223.out 1).trans rfl,(blk_cell BK223.out 2).trans rfl,(blk_cell BK223.out 3).trans rfl,(blk_cell BK223.out 4).trans rfl⟩ (fun hHeld => ?_); refine with_tabW impl_AcctsOk.tab4 impl_AcctsOk.bits4 (fun HT_ HW_ => ?_)
       generalize w29.drew = w30 at BK223 HB hHeld ⊢
       refine take_ (i := 0) (N := some 12) (v := ?_) (a' := ?_) #[true,false,false,false,false,false,false,false,false,false,false,false,false,false,false,false,false,false] rfl rfl (take_ofW HT_.out HW_.out (by kernel_rfl)) (fun _ _ _ h => h) (Or.inl ⟨by rfl,?_⟩) hHeld ?_ ?_;rotate_left
       ·rintro w' ⟨s0,s1,s2,s3,s4⟩;go_simp;with_reducible rfl
       rotate_left
       ·simp only [wf_preprocess];rfl
       refine one_ (i := 1) (N := some 13) #[true,true,false,false,false,false,false,false,false,false,false,false,false,false,false,false,false,false] rfl rfl (one_of HT_.out (by kernel_rfl)) (by decide) (fun K hK => ?_);refine goes_ Try.func45 (by kernel_rfl) rfl #[.agg #[.string ((rd_T63 l0 x7_1).f0),.int .i64 ((rd_T63 l0 x7_1).f1),.int .i64 ((rd_T63 l0 x7_1).f2),.int .i64 ((rd_T63 l0 x7_1).f3),.slice A222_4 ((rd_T63 l0 x7_1).f4).length c222_4]] (by rfl) rfl rfl (by (try simp only [List.map_toArray,List.map_cons,List.map_nil]); rfl) ?_
       with_reducible refine (impl_AcctOk.calls k1 ((rd_T63 l0 x7_1).f0) ((rd_T63 l0 x7_1).f1) ((rd_T63 l0 x7_1).f2) ((rd_T63 l0 x7_1).f3) _ _ ((rd_T63 l0 x7_1).f4) false _ ?side1 ?side2 A5.out).mono ?_
       (case side1 => repeat (exact (Kd.C_below HR222_4.out HB.out)))
       (case side2 => exact HC222_4.out)
       rintro e w31 ⟨rfl,hb⟩;refine ⟨_,rfl,?_⟩;have n0_ := Aside0.mk (blk_below (g := gb223) (o := .cells #[.string ((rd_T63 l0 x7_1).f0),.int .i64 ((rd_T63 l0 x7_1).f1),.int .i64 ((rd_T63 l0 x7_1).f2),.int .i64 ((rd_T63 l0 x7_1).f3),.slice A222_4 ((rd_T63 l0 x7_1).f4).length c222_4] 63 (0,0)) (by exact BK223.out) hb);have n1_ := Aside0.mk (below_step HB.out hb);clear BK223;clear HB;have BK223 := n0_;have HB := n1_;clear n0_ n1_
       (try clear hb)
       skip
       skip
       skip
       refine hK.out _ _ ⟨(blk_cell BK223.out 0).trans rfl,(blk_cell BK223.out 1).trans rfl,(blk_cell BK223.out 2).trans rfl,(blk_cell BK223.out 3).trans rfl,(blk_cell BK223.out 4).trans rfl⟩ (fun hHeld => ?_);clear hK K;refine norm_ (a' := ?_) ?_ ?_;rotate_left
       ·show Act.put _ (some 13) _ = _
        simp only [wf_preprocess];rfl
       refine pure_ (i := 2) (N := some 14) (v := ?_) (a' := ?_) #[true,true,true,false,false,false,false,false,false,false,false,false,false,false,false,false,false,false] rfl rfl (any_of HT_.out (by kernel_rfl)) (fun _ _ _ h => h) (Or.inl ⟨by rfl,?_⟩) ?_ ?_;rotate_left
       ·intro w';go_simp;with_reducible rfl
       rotate_left
       ·simp only [wf_preprocess];rfl
       refine pure_ (i := 3) (N := some 15) (v := ?_) (a' := ?_) #[true,true,true,true,false,false,false,false,false,false,false,false,false,false,false,false,false,false] rfl rfl (any_of HT_.out (by kernel_rfl)) (fun _ _ _ h => h) (Or.inl ⟨by rfl,?_⟩) ?_ ?_;rotate_left
       ·intro w';go_simp;with_reducible rfl
       rotate_left
       ·simp only [wf_preprocess];rfl
       refine pure_ (i := 4) (N := some 16) (v := undef) (a' := ?_) #[true,true,true,true,true,false,false,false,false,false,false,false,false,false,false,false,false,false] rfl rfl (any_of HT_.out (by kernel_rfl)) (fun _ _ _ h => h) (Or.inr ⟨by rfl,rfl⟩) ?_ ?_;rotate_left
       ·simp only [wf_preprocess];rfl
       refine pure_ (i := 5) (N := some 17) (v := undef) (a' := ?_) #[true,true,true,true,true,true,false,false,false,false,false,false,false,false,false,false,false,false] rfl rfl (any_of HT_.out (by kernel_rfl)) (fun _ _ _ h => h) (Or.inr ⟨by rfl,rfl⟩) ?_ ?_;rotate_left
       ·simp only [wf_preprocess];rfl
       refine pure_ (i := 6) (N := some 18) (v := undef) (a' := ?_) #[true,true,true,true,true,true,true,false,false,false,false,false,false,false,false,false,false,false] rfl rfl (any_of HT_.out (by kernel_rfl)) (fun _ _ _ h => h) (Or.inr ⟨by rfl,rfl⟩) ?_ ?_;rotate_left
       ·simp only [wf_preprocess];rfl
       refine pure_ (i := 7) (N := some 19) (v := undef) (a' := ?_) #[true,true,true,true,true,true,true,true,false,false,false,false,false,false,false,false,false,false] rfl rfl (any_of HT_.out (by kernel_rfl)) (fun _ _ _ h => h) (Or.inr ⟨by rfl,rfl⟩) ?_ ?_;rotate_left
       ·simp only [wf_preprocess];rfl
       refine pure_ (i := 8) (N := some 20) (v := undef) (a' := ?_) #[true,true,true,true,true,true,true,true,true,false,false,false,false,false,false,false,false,false] rfl rfl (any_of HT_.out (by kernel_rfl)) (fun _ _ _ h => h) (Or.inr ⟨by rfl,rfl⟩) ?_ ?_;rotate_left
       ·simp only [wf_preprocess];rfl
       refine pure_ (i := 9) (N := some 21) (v := undef) (a' := ?_) #[true,true,true,true,true,true,true,true,true,true,false,false,false,false,false,false,false,false] rfl rfl (any_of HT_.out (by kernel_rfl)) (fun _ _ _ h => h) (Or.inr ⟨by rfl,rfl⟩) ?_ ?_;rotate_left
       ·simp only [wf_preprocess];rfl
       refine pure_ (i := 10) (N := some 22) (v := undef) (a' := ?_) #[true,true,true,true,true,true,true,true,true,true,true,false,false,false,false,false,false,false] rfl rfl (any_of HT_.out (by kernel_rfl)) (fun _ _ _ h => h) (Or.inr ⟨by rfl,rfl⟩) ?_ ?_;rotate_left
       ·simp only [wf_preprocess];rfl
       refine pure_ (i := 11) (N := some 23) (v := undef) (a' := ?_) #[true,true,true,true,true,true,true,true,true,true,true,true,false,false,false,false,false,false] rfl rfl (any_of HT_.out (by kernel_rfl)) (fun _ _ _ h => h) (Or.inr ⟨by rfl,rfl⟩) ?_ ?_;rotate_left
       ·simp only [wf_preprocess];rfl
       refine pure_ (i := 12) (N := some 24) (v := undef) (a' := ?_) #[true,true,true,true,true,true,true,true,true,true,true,true,true,false,false,false,false,false] rfl rfl (any_of HT_.out (by kernel_rfl)) (fun _ _ _ h => h) (Or.inr ⟨by rfl,rfl⟩) ?_ ?_;rotate_left
       ·simp only [wf_preprocess];rfl
       refine pure_ (i := 13) (N := some 25) (v := undef) (a' := ?_) #[true,true,true,true,true,true,true,true,true,true,true,true,true,true,false,false,false,false] rfl rfl (any_of HT_.out (by kernel_rfl)) (fun _ _ _ h => h) (Or.inr ⟨by rfl,rfl⟩) ?_ ?_;rotate_left
       ·simp only [wf_preprocess];rfl
       refine pure_ (i := 14) (N := some 26) (v := undef) (a' := ?_) #[true,true,true,true,true,true,true,true,true,true,true,true,true,true,true,false,false,false] rfl rfl (any_of HT_.out (by kernel_rfl)) (fun _ _ _ h => h) (Or.inr ⟨by rfl,rfl⟩) ?_ ?_;rotate_left
       ·simp only [wf_preprocess];rfl
       refine pure_ (i := 15) (N := some 27) (v := undef) (a' := ?_) #[true,true,true,true,true,true,true,true,true,true,true,true,true,true,true,true,false,false] rfl rfl (any_of HT_.out (by kernel_rfl)) (fun _ _ _ h => h) (Or.inr ⟨by rfl,rfl⟩) ?_ ?_;rotate_left
       ·simp only [wf_preprocess];rfl
       refine pure_ (i := 16) (N := some 28) (v := undef) (a' := ?_) #[true,true,true,true,true,true,true,true,true,true,true,true,true,true,true,true,true,false] rfl rfl (any_of HT_.out (by kernel_rfl)) (fun _ _ _ h => h) (Or.inr ⟨by rfl,rfl⟩) ?_ ?_;rotate_left
       ·simp only [wf_preprocess];rfl
       refine pure_ (i := 17) (N := some 29) (v := ?_) (a' := ?_) #[true,true,true,true,true,true,true,true,true,true,true,true,true,true,true,true,true,true] rfl rfl (any_of HT_.out (by kernel_rfl)) (fun _ _ _ h => h) (Or.inl ⟨by rfl,?_⟩) ?_ ?_;rotate_left
       ·intro w';go_simp;with_reducible rfl
       rotate_left
       ·simp only [wf_preprocess];rfl
       refine done_ (done_of HT_.out (by kernel_rfl)) ?_
       try go_wp2
       go_ret;exact ⟨by rfl,HB.out⟩
     ·rw [if_neg c4] at H;exact absurd H (by simp)
    ·rw [if_neg c3] at H;exact absurd H (by simp)
   ·rw [if_neg c2] at H;have c2b0 : decide (x7_1 < (l0.length : Int)) = false := decide_eq_false c2;clear c2
    by_cases c32 : (l0.length : Int) ≤ 12
    ·rw [if_pos c32] at H;have c32b0 : decide ((l0.length : Int) ≤ 12) = true := decide_eq_true c32;have c32b1 : decide (l0.length ≤ 12) = true := decide_eq_true (by omega);clear c32;replace H := Option.bind_eq_some_iff.mp H;obtain ⟨t226,A330,H⟩ := H;replace H : (some (decide (t226 ≤ 1000000))) = some r := H;have A33 := Aside0.mk A330;clear A330;obtain rfl := Option.some.inj H
     go_wp2_with ((go_at_call 26; (with_reducible refine (impl_Wealth.calls k1 _ _ l0 t226 _ ?side1 ?side2 A33.out).mono ?_); (case side1 => repeat (exact (Kd.C_below HR0.out HB.out))); (case side2 => exact HC0.out); rintro e w34 ⟨rfl,hb⟩; have n0_ := Aside0.mk (below_step HB.out hb); clear HB; have HB := n0_; clear n0_; (try clear hb); skip))
     go_ret;exact ⟨by rfl,HB.out⟩
    ·rw [if_neg c32] at H;have c32b0 : decide ((l0.length : Int) ≤ 12) = false := decide_eq_false c32;have c32b1 : decide (l0.length ≤ 12) = false := decide_eq_false (by omega);clear c32;obtain rfl := Option.some.inj H;go_wp2;go_ret;exact ⟨by rfl,HB.out⟩

end Go.Proofs.Ytcbpfofkdipjhaa.PM
