/- The machine's side of Go functions: each as a plain function,and that the call does what it says. Written by a program (wip/mprint). -/
import Derived.Test.YtcbpfofkdipjhaaCVPVx0
import Derived.Test.YtcbpfofkdipjhaaCVPVx1
namespace Go.Proofs.Ytcbpfofkdipjhaa.PV
open Go.RowKit Go.Proofs.YtcbpfofkdipjhaaW.PrintWords Go.Proofs.YtcbpfofkdipjhaaW.PrintLast Go.Proofs.YtcbpfofkdipjhaaW.PrintMore
attribute [local wf_preprocess] Act.put List.setIfInBounds_toArray List.set_cons_zero List.set_cons_succ i64_w i32_w
attribute [local go_sem] max2_int min2_int max_two min_two max_three min_three max_four min_four   -- for this text's walks alone
set_option linter.unusedVariables false
set_option linter.unusedSimpArgs false

/-! ### impl_AcctsOk: function 44 -/
def impl_AcctsOk.l0 : Nat → List (S63) → List (S63) → Int → Int → Option (Bool)
 | 0,_,_,_,_ => none
 | k + 1,x0,x5,x6,x7 => if x7 < x6 then (if 0 ≤ x7 then (if x7 < (x5.length : Int) then ((impl_AcctOk.f k ((rd_T63 x5 x7).f0) ((rd_T63 x5 x7).f1) ((rd_T63 x5 x7).f2) ((rd_T63 x5 x7).f3) ((rd_T63 x5 x7).f4)).bind fun t119 => (if t119 = true then (if x7 > 0 then (if 0 ≤ (wrap64 (x7 - 1)) then (if (wrap64 (x7 - 1)) < (x0.length : Int) then (if ((Op.bytesLess (((rd_T63 x0 (wrap64 (x7 - 1))).f0).toList) (((rd_T63 x5 x7).f0).toList)) = true) then (impl_AcctsOk.l0 k x0 x5 x6 (wrap64 (x7 + 1))) else (some false)) else (none)) else (none)) else (impl_AcctsOk.l0 k x0 x5 x6 (wrap64 (x7 + 1)))) else (some false))) else (none)) else (none)) else (if (x0.length : Int) ≤ 12 then ((impl_Wealth.f k x0).bind fun t121 => (some (decide (t121 ≤ 1000000)))) else (some false))
def impl_AcctsOk.f (k : Nat) (l0 : List (S63)) : Option (Bool) := impl_AcctsOk.l0 k l0 l0 (l0.length : Int) 0
def impl_AcctsOk.T4 : Bool × List (List Nat × List Nat) := (true,[([],[]),([0],[0]),([1],[1]),([2,1],[2]),([3],[3]),([4,3],[3,4]),([5,3,3],[3,5]),([6],[6]),([7,6],[6,7]),([6],[6]),([6],[6]),([10,6],[6,10]),([9,11,6],[6,9,11]),([12,6],[6,12]),([13,6],[6,13]),([8,14,6],[6,8,14]),([6,15,3],[3,6,15]),([3,16],[3,16])])
def impl_AcctsOk.B4 : List Nat := [0,1,3,7,15,31,63,127,255,127,127,1151,3711,7807,15999,32767,65535,131071]
theorem impl_AcctsOk.tab4 : rtab .any (opsOf Try.f44 4) = impl_AcctsOk.T4 := by kernel_rfl
theorem impl_AcctsOk.bits4 : waitsOk impl_AcctsOk.T4.2 impl_AcctsOk.B4 = true := by kernel_rfl
set_option maxHeartbeats 8000000 in
set_option maxRecDepth 100000 in
theorem impl_AcctsOk.calls (k : Nat) (A0 : Option Addr) (c0 : Nat) (l0 : List (S63)) (r : Bool) (w : World) (hr0 : Kd.C k63 w A0 l0.length l0) (hc0 : l0.length ≤ c0) (h : impl_AcctsOk.f k l0 = some r) :
  Calls Try.prog 44 #[.slice A0 l0.length c0] w fun e w' => e = .returned (.bool r) ∧ Below w.heap.size w w' := by
 have hu63 := Try.underlying63;have HR0 := Aside0.mk hr0;have HC0 := Aside0.mk hc0;clear hr0 hc0;have HB := Aside0.mk (Below.refl w.heap.size w);have H : (impl_AcctsOk.l0 k l0 l0 (l0.length : Int) 0) = some r := h;clear h;have H' := Aside0.mk H;clear H;go_enter Try.func44,Try.ntmps44;go_wp2
 go_loopg [7] k (fun kq v7 w' => ∃ (x7_1 : Int),v7 = .int .i64 x7_1 ∧ Aside0 (impl_AcctsOk.l0 kq l0 l0 (l0.length : Int) x7_1 = some r) ∧ Aside0 (kq ≤ k) ∧ Aside0 (Below w.heap.size w w'))
 case atStart => exact ⟨(0),(by rfl),H',⟨Nat.le_refl _⟩,⟨HB.out⟩⟩
 case round =>
  clear H';obtain ⟨x7_1,rfl,HA,HK1,HB⟩ := hrel
  cases gk with
  | zero => exact absurd HA.out (by simp [impl_AcctsOk.l0])
  | succ k1 =>
   have H := HA.out;clear HA;simp only [impl_AcctsOk.l0] at H
   by_cases c2 : x7_1 < (l0.length : Int)
   ·rw [if_pos c2] at H;have c2b0 := decide_eq_true c2;clear c2
    by_cases c3 : 0 ≤ x7_1
    ·rw [if_pos c3] at H;have c3b0 := decide_eq_true c3;clear c3
     by_cases c4 : x7_1 < (l0.length : Int)
     ·rw [if_pos c4] at H;have c4b0 := decide_eq_true c4;clear c4;replace H := Option.bind_eq_some_iff.mp H;obtain ⟨t119,A50,H⟩ := H;replace H : (if t119 = true then (if x7_1 > 0 then (if 0 ≤ (wrap64 (x7_1 - 1)) then (if (wrap64 (x7_1 - 1)) < (l0.length : Int) then (if ((Op.bytesLess (((rd_T63 l0 (wrap64 (x7_1 - 1))).f0).toList) (((rd_T63 l0 x7_1).f0).toList)) = true) then (impl_AcctsOk.l0 k1 l0 l0 (l0.length : Int) (wrap64 (x7_1 + 1))) else (some false)) else (none)) else (none)) else (impl_AcctsOk.l0 k1 l0 l0 (l0.length : Int) (wrap64 (x7_1 + 1)))) else (some false)) = some r := H;have A5 := Aside0.mk A50;clear A50
      by_cases c6 : t119 = true
      ·subst c6
       rw [if_pos rfl] at H
       by_cases c7 : x7_1 > 0
       ·rw [if_pos c7] at H;have c7b0 := decide_eq_true c7;clear c7;obtain ⟨ji8,hji8⟩ : ∃ j_ : Int,(wrap64 (x7_1 - 1)) = j_ := ⟨_,rfl⟩
        replace H : (if 0 ≤ (ji8) then (if (ji8) < (l0.length : Int) then (if ((Op.bytesLess (((rd_T63 l0 (ji8)).f0).toList) (((rd_T63 l0 x7_1).f0).toList)) = true) then (impl_AcctsOk.l0 k1 l0 l0 (l0.length : Int) (wrap64 (x7_1 + 1))) else (some false)) else (none)) else (none)) = some r := by (rw [hji8] at H; exact H)
        skip
        have hji8w : (IntKind.i64.wrap (x7_1 - 1)) = ji8 := (i64_w _).trans hji8
        by_cases c9 : 0 ≤ (ji8)
        ·rw [if_pos c9] at H;have c9b0 := decide_eq_true c9;clear c9
         by_cases c10 : (ji8) < (l0.length : Int)
         ·rw [if_pos c10] at H;have c10b0 := decide_eq_true c10;clear c10
          by_cases c11 : ((Op.bytesLess (((rd_T63 l0 (ji8)).f0).toList) (((rd_T63 l0 x7_1).f0).toList)) = true)
          ·rw [if_pos c11] at H;have c11b0 : (Op.bytesLess (((rd_T63 l0 (ji8)).f0).toList) (((rd_T63 l0 x7_1).f0).toList)) = true := c11;clear c11;have H' := Aside0.mk H;clear H;have p117 : 0 ≤ (x7_1 : Int) := odt (by with_reducible assumption);have q117 : x7_1 < (l0.length : Int) := odt (by with_reducible assumption);obtain ⟨ad117,A117_4,c117_4,e117,hx117_0,hx117_1,hx117_2,hx117_3,hx117_4,hl117_4,hi117_4⟩ := at_T63 HR0.out x7_1 p117 q117
           cases e117
           replace ⟨hx117_0,hx117_1,hx117_2,hx117_3,hx117_4⟩ := up5 HB.out hx117_0 hx117_1 hx117_2 hx117_3 hx117_4;have HR117_4 := Aside0.mk hi117_4;have HC117_4 := Aside0.mk hl117_4;clear hi117_4 hl117_4;replace p117 := eq_true p117;replace q117 := eq_true q117
           try go_wp2_with (((with_reducible refine gate_dst (N := 4) rfl ?_); refine box_event (by rfl) (N := 4) (by rfl) (cs := #[.string (⟨#[]⟩ : ByteArray),.int .i64 0,.int .i64 0,.int .i64 0,.slice none 0 0]) (t := 63) (by go_simp; done) ?_; intro gb118 hg w12 hbox hb; have BK118 := Aside0.mk hbox; have GW118 := gsz HB hg; have GE118 := GW118; replace HB := bst HB hb; clear hb hbox hg; obtain ⟨⟨hcz13_0,hcz13_1,hcz13_2,hcz13_3,hcz13_4⟩,hfz13_0,hfz13_1,hfz13_2,hfz13_3,hfz13_4⟩ := bc5 BK118.out))
           have n0_ : Aside0 ((((((w12.setCell ⟨gb118,0,none⟩ (.string ((rd_T63 l0 x7_1).f0))).setCell ⟨gb118,1,none⟩ (.int .i64 ((rd_T63 l0 x7_1).f1))).setCell ⟨gb118,2,none⟩ (.int .i64 ((rd_T63 l0 x7_1).f2))).setCell ⟨gb118,3,none⟩ (.int .i64 ((rd_T63 l0 x7_1).f3))).setCell ⟨gb118,4,none⟩ (.slice A117_4 ((rd_T63 l0 x7_1).f4).length c117_4)).heap[gb118]? = some (.cells #[.string ((rd_T63 l0 x7_1).f0),.int .i64 ((rd_T63 l0 x7_1).f1),.int .i64 ((rd_T63 l0 x7_1).f2),.int .i64 ((rd_T63 l0 x7_1).f3),.slice A117_4 ((rd_T63 l0 x7_1).f4).length c117_4] 63 (0,0))) := ⟨by refine blk_put (cs := #[.string ((rd_T63 l0 x7_1).f0),.int .i64 ((rd_T63 l0 x7_1).f1),.int .i64 ((rd_T63 l0 x7_1).f2),.int .i64 ((rd_T63 l0 x7_1).f3),.slice none 0 0]) ?_ 4 _ rfl; refine blk_put (cs := #[.string ((rd_T63 l0 x7_1).f0),.int .i64 ((rd_T63 l0 x7_1).f1),.int .i64 ((rd_T63 l0 x7_1).f2),.int .i64 0,.slice none 0 0]) ?_ 3 _ rfl; refine blk_put (cs := #[.string ((rd_T63 l0 x7_1).f0),.int .i64 ((rd_T63 l0 x7_1).f1),.int .i64 0,.int .i64 0,.slice none 0 0]) ?_ 2 _ rfl; refine blk_put (cs := #[.string ((rd_T63 l0 x7_1).f0),.int .i64 0,.int .i64 0,.int .i64 0,.slice none 0 0]) ?_ 1 _ rfl; refine blk_put (cs := #[.string (⟨#[]⟩ : ByteArray),.int .i64 0,.int .i64 0,.int .i64 0,.slice none 0 0]) ?_ 0 _ rfl; exact BK118.out⟩;have n1_ : Aside0 (Below w.heap.size w (((((w12.setCell ⟨gb118,0,none⟩ (.string ((rd_T63 l0 x7_1).f0))).setCell ⟨gb118,1,none⟩ (.int .i64 ((rd_T63 l0 x7_1).f1))).setCell ⟨gb118,2,none⟩ (.int .i64 ((rd_T63 l0 x7_1).f2))).setCell ⟨gb118,3,none⟩ (.int .i64 ((rd_T63 l0 x7_1).f3))).setCell ⟨gb118,4,none⟩ (.slice A117_4 ((rd_T63 l0 x7_1).f4).length c117_4))) := ⟨by repeat (with_reducible first | exact HB.out | refine below_set ?_ GE118.out)⟩
           (try clear BK118)
           (try clear HB)
           generalize (((((w12.setCell ⟨gb118,0,none⟩ (.string ((rd_T63 l0 x7_1).f0))).setCell ⟨gb118,1,none⟩ (.int .i64 ((rd_T63 l0 x7_1).f1))).setCell ⟨gb118,2,none⟩ (.int .i64 ((rd_T63 l0 x7_1).f2))).setCell ⟨gb118,3,none⟩ (.int .i64 ((rd_T63 l0 x7_1).f3))).setCell ⟨gb118,4,none⟩ (.slice A117_4 ((rd_T63 l0 x7_1).f4).length c117_4)) = w14 at n0_ n1_ ⊢
           have BK118 := n0_;have HB := n1_;clear n0_ n1_;replace BK118 := Aside0.mk (blk_drew BK118.out);replace HB := Aside0.mk (below_drew1 HB.out);have p120 : 0 ≤ ((ji8) : Int) := odt (by with_reducible assumption);have q120 : (ji8) < (l0.length : Int) := odt (by with_reducible assumption);obtain ⟨ad120,A120_4,c120_4,e120,hx120_0,hx120_1,hx120_2,hx120_3,hx120_4,hl120_4,hi120_4⟩ := at_T63 HR0.out (ji8) p120 q120;have hw120_4 := hx120_4;have hw120_3 := hx120_3;have hw120_2 := hx120_2;have hw120_1 := hx120_1;have hw120_0 := hx120_0;obtain rfl : ad117 = ad120 := (by injection e120);replace ⟨hx120_0,hx120_1,hx120_2,hx120_3,hx120_4⟩ := up5 HB.out hx120_0 hx120_1 hx120_2 hx120_3 hx120_4;have HR120_4 := Aside0.mk hi120_4;have HC120_4 := Aside0.mk hl120_4;clear hi120_4 hl120_4;replace p120 := eq_true p120;replace q120 := eq_true q120;refine start_ (n := 18) (S := fun w' => w'.cell? ⟨gb118,0,none⟩ = some (.string ((rd_T63 l0 x7_1).f0)) ∧ w'.cell? ⟨gb118,1,none⟩ = some (.int .i64 ((rd_T63 l0 x7_1).f1)) ∧ w'.cell? ⟨gb118,2,none⟩ = some (.int .i64 ((rd_T63 l0 x7_1).f2)) ∧ w'.cell? ⟨gb118,3,none⟩ = some (.int .i64 ((rd_T63 l0 x7_1).f3)) ∧ w'.cell? ⟨gb118,4,none⟩ = some (.slice A117_4 ((rd_T63 l0 x7_1).f4).length c117_4) ∧ w'.cell? (ad117.add ((ji8).toNat * 5)) = some (.string ((rd_T63 l0 (ji8)).f0)) ∧ w'.cell? ⟨(ad117.add ((ji8).toNat * 5)).block,(ad117.add ((ji8).toNat * 5)).off + 1,none⟩ = some (.int .i64 ((rd_T63 l0 (ji8)).f1)) ∧ w'.cell? ⟨(ad117.add ((ji8).toNat * 5)).block,(ad117.add ((ji8).toNat * 5)).off + 2,none⟩ = some (.int .i64 ((rd_T63 l0 (ji8)).f2)) ∧ w'.cell? ⟨(ad117.add ((ji8).toNat * 5)).block,(ad117.add ((ji8).toNat * 5)).off + 3,none⟩ = some (.int .i64 ((rd_T63 l0 (ji8)).f3)) ∧ w'.cell? ⟨(ad117.add ((ji8).toNat * 5)).block,(ad117.add ((ji8).toNat * 5)).off + 4,none⟩ = some (.slice A120_4 ((rd_T63 l0 (ji8)).f4).length c120_4)) (ds := []) (Array.replicate 18 false) (by kernel_rfl) rfl rfl ⟨(blk_cell BK118.out 0).trans rfl,(blk_cell BK118.out 1).trans rfl,(blk_cell BK118.out 2).trans rfl,(blk_cell BK118.out 3).trans rfl,(blk_cell BK118.out 4).trans rfl,(up_ HB.out hw120_0),(up_ HB.out hw120_1),(up_ HB.out hw120_2),(up_ HB.out hw120_3),(up_ HB.out hw120_4)⟩ (fun hHeld => ?_); refine with_tabW impl_AcctsOk.tab4 impl_AcctsOk.bits4 (fun HT_ HW_ => ?_)
           generalize w14.drew = w15 at BK118 HB HR120_4 hx120_0 hx120_1 hx120_2 hx120_3 hx120_4 hHeld ⊢
           refine tk 0 (some 12) (fl 18 1) HT_ HW_ rfl rfl (by kernel_rfl) (fun _ _ _ h => h) (by rfl) (by rintro w' ⟨s0,s1,s2,s3,s4,s5,s6,s7,s8,s9⟩;go_simp;with_reducible rfl) hHeld (by simp only [wf_preprocess];rfl) ?_
           refine one_ (i := 1) (N := some 13) (fl 18 3) rfl rfl (one_of HT_.out (by kernel_rfl)) (by decide) (fun K hK => ?_);refine goes_ Try.func45 (by kernel_rfl) rfl #[.agg #[.string ((rd_T63 l0 x7_1).f0),.int .i64 ((rd_T63 l0 x7_1).f1),.int .i64 ((rd_T63 l0 x7_1).f2),.int .i64 ((rd_T63 l0 x7_1).f3),.slice A117_4 ((rd_T63 l0 x7_1).f4).length c117_4]] (by rfl) rfl rfl (by (try simp only [List.map_toArray,List.map_cons,List.map_nil]); rfl) ?_
           with_reducible refine (impl_AcctOk.calls k1 ((rd_T63 l0 x7_1).f0) ((rd_T63 l0 x7_1).f1) ((rd_T63 l0 x7_1).f2) ((rd_T63 l0 x7_1).f3) _ _ ((rd_T63 l0 x7_1).f4) true _ ?side1 ?side2 A5.out).mono ?_
           (case side1 => repeat (exact (Kd.C_below HR117_4.out HB.out)))
           (case side2 => exact HC117_4.out)
           rintro e w16 ⟨rfl,hb⟩;refine ⟨_,rfl,?_⟩;replace BK118 := bkb BK118 hb;replace HB := bst HB hb
           (try clear hb)
           skip
           skip
           skip
           refine hK.out _ _ ⟨(blk_cell BK118.out 0).trans rfl,(blk_cell BK118.out 1).trans rfl,(blk_cell BK118.out 2).trans rfl,(blk_cell BK118.out 3).trans rfl,(blk_cell BK118.out 4).trans rfl,(up_ HB.out hw120_0),(up_ HB.out hw120_1),(up_ HB.out hw120_2),(up_ HB.out hw120_3),(up_ HB.out hw120_4)⟩ (fun hHeld => ?_);clear hK K;refine norm_ (a' := ?_) ?_ ?_;rotate_left
           ·show Act.put _ (some 13) _ = _
            simp only [wf_preprocess];rfl
           refine pu 2 (some 14) (fl 18 7) HT_ rfl rfl (by kernel_rfl) (fun _ _ _ h => h) (by rfl) (fun w' => by go_simp;with_reducible rfl) (by simp only [wf_preprocess];rfl) ?_
           refine pu 3 (some 15) (fl 18 15) HT_ rfl rfl (by kernel_rfl) (fun _ _ _ h => h) (by rfl) (fun w' => by go_simp;with_reducible rfl) (by simp only [wf_preprocess];rfl) ?_
           refine pu 4 (some 16) (fl 18 31) HT_ rfl rfl (by kernel_rfl) (fun _ _ _ h => h) (by rfl) (fun w' => by go_simp;with_reducible rfl) (by simp only [wf_preprocess];rfl) ?_
           refine pu 5 (some 17) (fl 18 63) HT_ rfl rfl (by kernel_rfl) (fun _ _ _ h => h) (by rfl) (fun w' => by go_simp;with_reducible rfl) (by simp only [wf_preprocess];rfl) ?_
           refine pu 6 (some 18) (fl 18 127) HT_ rfl rfl (by kernel_rfl) (fun _ _ _ h => h) (by rfl) (fun w' => by go_simp;with_reducible rfl) (by simp only [wf_preprocess];rfl) ?_
           refine pu 7 (some 19) (fl 18 255) HT_ rfl rfl (by kernel_rfl) (fun _ _ _ h => h) (by rfl) (fun w' => by go_simp;with_reducible rfl) (by simp only [wf_preprocess];rfl) ?_
           refine pu 9 (some 21) (fl 18 767) HT_ rfl rfl (by kernel_rfl) (fun _ _ _ h => h) (by rfl) (fun w' => by go_simp;with_reducible rfl) (by simp only [wf_preprocess];rfl) ?_
           refine pu 10 (some 22) (fl 18 1791) HT_ rfl rfl (by kernel_rfl) (fun _ _ _ h => h) (by rfl) (fun w' => by go_simp;with_reducible rfl) (by simp only [wf_preprocess];rfl) ?_
           refine pu 11 (some 23) (fl 18 3839) HT_ rfl rfl (by kernel_rfl) (fun _ _ _ h => h) (by rfl) (fun w' => by go_simp;with_reducible rfl) (by simp only [wf_preprocess];rfl) ?_
           refine pu 12 (some 24) (fl 18 7935) HT_ rfl rfl (by kernel_rfl) (fun _ _ _ h => h) (by rfl) (fun w' => by go_simp;with_reducible rfl) (by simp only [wf_preprocess];rfl) ?_
           refine pu 13 (some 25) (fl 18 16127) HT_ rfl rfl (by kernel_rfl) (fun _ _ _ h => h) (by rfl) (fun w' => by go_simp;with_reducible rfl) (by simp only [wf_preprocess];rfl) ?_
           refine tk 8 (some 20) (fl 18 16383) HT_ HW_ rfl rfl (by kernel_rfl) (fun _ _ _ h => h) (by rfl) (by rintro w' ⟨s0,s1,s2,s3,s4,s5,s6,s7,s8,s9⟩;go_simp;with_reducible rfl) hHeld (by simp only [wf_preprocess];rfl) ?_
           refine tk 14 (some 26) (fl 18 32767) HT_ HW_ rfl rfl (by kernel_rfl) (fun _ _ _ h => h) (by rfl) (by rintro w' ⟨s0,s1,s2,s3,s4,s5,s6,s7,s8,s9⟩;go_simp;with_reducible rfl) hHeld (by simp only [wf_preprocess];rfl) ?_
           refine pu 15 (some 27) (fl 18 65535) HT_ rfl rfl (by kernel_rfl) (fun _ _ _ h => h) (by rfl) (fun w' => by go_simp;with_reducible rfl) (by simp only [wf_preprocess];rfl) ?_
           refine pu 16 (some 28) (fl 18 131071) HT_ rfl rfl (by kernel_rfl) (fun _ _ _ h => h) (by rfl) (fun w' => by go_simp;with_reducible rfl) (by simp only [wf_preprocess];rfl) ?_
           refine pu 17 (some 29) (fl 18 262143) HT_ rfl rfl (by kernel_rfl) (fun _ _ _ h => h) (by rfl) (fun w' => by go_simp;with_reducible rfl) (by simp only [wf_preprocess];rfl) ?_
           refine done_ (done_of HT_.out (by kernel_rfl)) ?_
           try go_wp2
           go_roundg k1
           case measure => have := HK1.out; omega
           case rel => exact ⟨(wrap64 (x7_1 + 1)),(by rfl),H',⟨by have := HK1.out; omega⟩,⟨HB.out⟩⟩
          ·rw [if_neg c11] at H
           have c11b0 : (Op.bytesLess (((rd_T63 l0 (ji8)).f0).toList) (((rd_T63 l0 x7_1).f0).toList)) = false := by simpa using c11
           clear c11;obtain rfl := Option.some.inj H;have p117 : 0 ≤ (x7_1 : Int) := odt (by with_reducible assumption);have q117 : x7_1 < (l0.length : Int) := odt (by with_reducible assumption);obtain ⟨ad117,A117_4,c117_4,e117,hx117_0,hx117_1,hx117_2,hx117_3,hx117_4,hl117_4,hi117_4⟩ := at_T63 HR0.out x7_1 p117 q117
           cases e117
           replace ⟨hx117_0,hx117_1,hx117_2,hx117_3,hx117_4⟩ := up5 HB.out hx117_0 hx117_1 hx117_2 hx117_3 hx117_4;have HR117_4 := Aside0.mk hi117_4;have HC117_4 := Aside0.mk hl117_4;clear hi117_4 hl117_4;replace p117 := eq_true p117;replace q117 := eq_true q117
           try go_wp2_with (((with_reducible refine gate_dst (N := 4) rfl ?_); refine box_event (by rfl) (N := 4) (by rfl) (cs := #[.string (⟨#[]⟩ : ByteArray),.int .i64 0,.int .i64 0,.int .i64 0,.slice none 0 0]) (t := 63) (by go_simp; done) ?_; intro gb118 hg w17 hbox hb; have BK118 := Aside0.mk hbox; have GW118 := gsz HB hg; have GE118 := GW118; replace HB := bst HB hb; clear hb hbox hg; obtain ⟨⟨hcz18_0,hcz18_1,hcz18_2,hcz18_3,hcz18_4⟩,hfz18_0,hfz18_1,hfz18_2,hfz18_3,hfz18_4⟩ := bc5 BK118.out))
           have n0_ : Aside0 ((((((w17.setCell ⟨gb118,0,none⟩ (.string ((rd_T63 l0 x7_1).f0))).setCell ⟨gb118,1,none⟩ (.int .i64 ((rd_T63 l0 x7_1).f1))).setCell ⟨gb118,2,none⟩ (.int .i64 ((rd_T63 l0 x7_1).f2))).setCell ⟨gb118,3,none⟩ (.int .i64 ((rd_T63 l0 x7_1).f3))).setCell ⟨gb118,4,none⟩ (.slice A117_4 ((rd_T63 l0 x7_1).f4).length c117_4)).heap[gb118]? = some (.cells #[.string ((rd_T63 l0 x7_1).f0),.int .i64 ((rd_T63 l0 x7_1).f1),.int .i64 ((rd_T63 l0 x7_1).f2),.int .i64 ((rd_T63 l0 x7_1).f3),.slice A117_4 ((rd_T63 l0 x7_1).f4).length c117_4] 63 (0,0))) := ⟨by refine blk_put (cs := #[.string ((rd_T63 l0 x7_1).f0),.int .i64 ((rd_T63 l0 x7_1).f1),.int .i64 ((rd_T63 l0 x7_1).f2),.int .i64 ((rd_T63 l0 x7_1).f3),.slice none 0 0]) ?_ 4 _ rfl; refine blk_put (cs := #[.string ((rd_T63 l0 x7_1).f0),.int .i64 ((rd_T63 l0 x7_1).f1),.int .i64 ((rd_T63 l0 x7_1).f2),.int .i64 0,.slice none 0 0]) ?_ 3 _ rfl; refine blk_put (cs := #[.string ((rd_T63 l0 x7_1).f0),.int .i64 ((rd_T63 l0 x7_1).f1),.int .i64 0,.int .i64 0,.slice none 0 0]) ?_ 2 _ rfl; refine blk_put (cs := #[.string ((rd_T63 l0 x7_1).f0),.int .i64 0,.int .i64 0,.int .i64 0,.slice none 0 0]) ?_ 1 _ rfl; refine blk_put (cs := #[.string (⟨#[]⟩ : ByteArray),.int .i64 0,.int .i64 0,.int .i64 0,.slice none 0 0]) ?_ 0 _ rfl; exact BK118.out⟩;have n1_ : Aside0 (Below w.heap.size w (((((w17.setCell ⟨gb118,0,none⟩ (.string ((rd_T63 l0 x7_1).f0))).setCell ⟨gb118,1,none⟩ (.int .i64 ((rd_T63 l0 x7_1).f1))).setCell ⟨gb118,2,none⟩ (.int .i64 ((rd_T63 l0 x7_1).f2))).setCell ⟨gb118,3,none⟩ (.int .i64 ((rd_T63 l0 x7_1).f3))).setCell ⟨gb118,4,none⟩ (.slice A117_4 ((rd_T63 l0 x7_1).f4).length c117_4))) := ⟨by repeat (with_reducible first | exact HB.out | refine below_set ?_ GE118.out)⟩
           (try clear BK118)
           (try clear HB)
           generalize (((((w17.setCell ⟨gb118,0,none⟩ (.string ((rd_T63 l0 x7_1).f0))).setCell ⟨gb118,1,none⟩ (.int .i64 ((rd_T63 l0 x7_1).f1))).setCell ⟨gb118,2,none⟩ (.int .i64 ((rd_T63 l0 x7_1).f2))).setCell ⟨gb118,3,none⟩ (.int .i64 ((rd_T63 l0 x7_1).f3))).setCell ⟨gb118,4,none⟩ (.slice A117_4 ((rd_T63 l0 x7_1).f4).length c117_4)) = w19 at n0_ n1_ ⊢
           have BK118 := n0_;have HB := n1_;clear n0_ n1_;replace BK118 := Aside0.mk (blk_drew BK118.out);replace HB := Aside0.mk (below_drew1 HB.out);have p120 : 0 ≤ ((ji8) : Int) := odt (by with_reducible assumption);have q120 : (ji8) < (l0.length : Int) := odt (by with_reducible assumption);obtain ⟨ad120,A120_4,c120_4,e120,hx120_0,hx120_1,hx120_2,hx120_3,hx120_4,hl120_4,hi120_4⟩ := at_T63 HR0.out (ji8) p120 q120;have hw120_4 := hx120_4;have hw120_3 := hx120_3;have hw120_2 := hx120_2;have hw120_1 := hx120_1;have hw120_0 := hx120_0;obtain rfl : ad117 = ad120 := (by injection e120);replace ⟨hx120_0,hx120_1,hx120_2,hx120_3,hx120_4⟩ := up5 HB.out hx120_0 hx120_1 hx120_2 hx120_3 hx120_4;have HR120_4 := Aside0.mk hi120_4;have HC120_4 := Aside0.mk hl120_4;clear hi120_4 hl120_4;replace p120 := eq_true p120;replace q120 := eq_true q120;refine start_ (n := 18) (S := fun w' => w'.cell? ⟨gb118,0,none⟩ = some (.string ((rd_T63 l0 x7_1).f0)) ∧ w'.cell? ⟨gb118,1,none⟩ = some (.int .i64 ((rd_T63 l0 x7_1).f1)) ∧ w'.cell? ⟨gb118,2,none⟩ = some (.int .i64 ((rd_T63 l0 x7_1).f2)) ∧ w'.cell? ⟨gb118,3,none⟩ = some (.int .i64 ((rd_T63 l0 x7_1).f3)) ∧ w'.cell? ⟨gb118,4,none⟩ = some (.slice A117_4 ((rd_T63 l0 x7_1).f4).length c117_4) ∧ w'.cell? (ad117.add ((ji8).toNat * 5)) = some (.string ((rd_T63 l0 (ji8)).f0)) ∧ w'.cell? ⟨(ad117.add ((ji8).toNat * 5)).block,(ad117.add ((ji8).toNat * 5)).off + 1,none⟩ = some (.int .i64 ((rd_T63 l0 (ji8)).f1)) ∧ w'.cell? ⟨(ad117.add ((ji8).toNat * 5)).block,(ad117.add ((ji8).toNat * 5)).off + 2,none⟩ = some (.int .i64 ((rd_T63 l0 (ji8)).f2)) ∧ w'.cell? ⟨(ad117.add ((ji8).toNat * 5)).block,(ad117.add ((ji8).toNat * 5)).off + 3,none⟩ = some (.int .i64 ((rd_T63 l0 (ji8)).f3)) ∧ w'.cell? ⟨(ad117.add ((ji8).toNat * 5)).block,(ad117.add ((ji8).toNat * 5)).off + 4,none⟩ = some (.slice A120_4 ((rd_T63 l0 (ji8)).f4).length c120_4)) (ds := []) (Array.replicate 18 false) (by kernel_rfl) rfl rfl ⟨(blk_cell BK118.out 0).trans rfl,(blk_cell BK118.out 1).trans rfl,(blk_cell BK118.out 2).trans rfl,(blk_cell BK118.out 3).trans rfl,(blk_cell BK118.out 4).trans rfl,(up_ HB.out hw120_0),(up_ HB.out hw120_1),(up_ HB.out hw120_2),(up_ HB.out hw120_3),(up_ HB.out hw120_4)⟩ (fun hHeld => ?_); refine with_tabW impl_AcctsOk.tab4 impl_AcctsOk.bits4 (fun HT_ HW_ => ?_)
           generalize w19.drew = w20 at BK118 HB HR120_4 hx120_0 hx120_1 hx120_2 hx120_3 hx120_4 hHeld ⊢
           refine tk 0 (some 12) (fl 18 1) HT_ HW_ rfl rfl (by kernel_rfl) (fun _ _ _ h => h) (by rfl) (by rintro w' ⟨s0,s1,s2,s3,s4,s5,s6,s7,s8,s9⟩;go_simp;with_reducible rfl) hHeld (by simp only [wf_preprocess];rfl) ?_
           refine one_ (i := 1) (N := some 13) (fl 18 3) rfl rfl (one_of HT_.out (by kernel_rfl)) (by decide) (fun K hK => ?_);refine goes_ Try.func45 (by kernel_rfl) rfl #[.agg #[.string ((rd_T63 l0 x7_1).f0),.int .i64 ((rd_T63 l0 x7_1).f1),.int .i64 ((rd_T63 l0 x7_1).f2),.int .i64 ((rd_T63 l0 x7_1).f3),.slice A117_4 ((rd_T63 l0 x7_1).f4).length c117_4]] (by rfl) rfl rfl (by (try simp only [List.map_toArray,List.map_cons,List.map_nil]); rfl) ?_
           with_reducible refine (impl_AcctOk.calls k1 ((rd_T63 l0 x7_1).f0) ((rd_T63 l0 x7_1).f1) ((rd_T63 l0 x7_1).f2) ((rd_T63 l0 x7_1).f3) _ _ ((rd_T63 l0 x7_1).f4) true _ ?side1 ?side2 A5.out).mono ?_
           (case side1 => repeat (exact (Kd.C_below HR117_4.out HB.out)))
           (case side2 => exact HC117_4.out)
           rintro e w21 ⟨rfl,hb⟩;refine ⟨_,rfl,?_⟩;replace BK118 := bkb BK118 hb;replace HB := bst HB hb
           (try clear hb)
           skip
           skip
           skip
           refine hK.out _ _ ⟨(blk_cell BK118.out 0).trans rfl,(blk_cell BK118.out 1).trans rfl,(blk_cell BK118.out 2).trans rfl,(blk_cell BK118.out 3).trans rfl,(blk_cell BK118.out 4).trans rfl,(up_ HB.out hw120_0),(up_ HB.out hw120_1),(up_ HB.out hw120_2),(up_ HB.out hw120_3),(up_ HB.out hw120_4)⟩ (fun hHeld => ?_);clear hK K;refine norm_ (a' := ?_) ?_ ?_;rotate_left
           ·show Act.put _ (some 13) _ = _
            simp only [wf_preprocess];rfl
           refine pu 2 (some 14) (fl 18 7) HT_ rfl rfl (by kernel_rfl) (fun _ _ _ h => h) (by rfl) (fun w' => by go_simp;with_reducible rfl) (by simp only [wf_preprocess];rfl) ?_
           refine pu 3 (some 15) (fl 18 15) HT_ rfl rfl (by kernel_rfl) (fun _ _ _ h => h) (by rfl) (fun w' => by go_simp;with_reducible rfl) (by simp only [wf_preprocess];rfl) ?_
           refine pu 4 (some 16) (fl 18 31) HT_ rfl rfl (by kernel_rfl) (fun _ _ _ h => h) (by rfl) (fun w' => by go_simp;with_reducible rfl) (by simp only [wf_preprocess];rfl) ?_
           refine pu 5 (some 17) (fl 18 63) HT_ rfl rfl (by kernel_rfl) (fun _ _ _ h => h) (by rfl) (fun w' => by go_simp;with_reducible rfl) (by simp only [wf_preprocess];rfl) ?_
           refine pu 6 (some 18) (fl 18 127) HT_ rfl rfl (by kernel_rfl) (fun _ _ _ h => h) (by rfl) (fun w' => by go_simp;with_reducible rfl) (by simp only [wf_preprocess];rfl) ?_
           refine pu 7 (some 19) (fl 18 255) HT_ rfl rfl (by kernel_rfl) (fun _ _ _ h => h) (by rfl) (fun w' => by go_simp;with_reducible rfl) (by simp only [wf_preprocess];rfl) ?_
           refine pu 9 (some 21) (fl 18 767) HT_ rfl rfl (by kernel_rfl) (fun _ _ _ h => h) (by rfl) (fun w' => by go_simp;with_reducible rfl) (by simp only [wf_preprocess];rfl) ?_
           refine pu 10 (some 22) (fl 18 1791) HT_ rfl rfl (by kernel_rfl) (fun _ _ _ h => h) (by rfl) (fun w' => by go_simp;with_reducible rfl) (by simp only [wf_preprocess];rfl) ?_
           refine pu 11 (some 23) (fl 18 3839) HT_ rfl rfl (by kernel_rfl) (fun _ _ _ h => h) (by rfl) (fun w' => by go_simp;with_reducible rfl) (by simp only [wf_preprocess];rfl) ?_
           refine pu 12 (some 24) (fl 18 7935) HT_ rfl rfl (by kernel_rfl) (fun _ _ _ h => h) (by rfl) (fun w' => by go_simp;with_reducible rfl) (by simp only [wf_preprocess];rfl) ?_
           refine pu 13 (some 25) (fl 18 16127) HT_ rfl rfl (by kernel_rfl) (fun _ _ _ h => h) (by rfl) (fun w' => by go_simp;with_reducible rfl) (by simp only [wf_preprocess];rfl) ?_
           refine tk 8 (some 20) (fl 18 16383) HT_ HW_ rfl rfl (by kernel_rfl) (fun _ _ _ h => h) (by rfl) (by rintro w' ⟨s0,s1,s2,s3,s4,s5,s6,s7,s8,s9⟩;go_simp;with_reducible rfl) hHeld (by simp only [wf_preprocess];rfl) ?_
           refine tk 14 (some 26) (fl 18 32767) HT_ HW_ rfl rfl (by kernel_rfl) (fun _ _ _ h => h) (by rfl) (by rintro w' ⟨s0,s1,s2,s3,s4,s5,s6,s7,s8,s9⟩;go_simp;with_reducible rfl) hHeld (by simp only [wf_preprocess];rfl) ?_
           refine pu 15 (some 27) (fl 18 65535) HT_ rfl rfl (by kernel_rfl) (fun _ _ _ h => h) (by rfl) (fun w' => by go_simp;with_reducible rfl) (by simp only [wf_preprocess];rfl) ?_
           refine pu 16 (some 28) (fl 18 131071) HT_ rfl rfl (by kernel_rfl) (fun _ _ _ h => h) (by rfl) (fun w' => by go_simp;with_reducible rfl) (by simp only [wf_preprocess];rfl) ?_
           refine pu 17 (some 29) (fl 18 262143) HT_ rfl rfl (by kernel_rfl) (fun _ _ _ h => h) (by rfl) (fun w' => by go_simp;with_reducible rfl) (by simp only [wf_preprocess];rfl) ?_
           refine done_ (done_of HT_.out (by kernel_rfl)) ?_
           try go_wp2
           go_ret;exact ⟨by rfl,HB.out⟩
         ·rw [if_neg c10] at H;exact absurd H (by simp)
        ·rw [if_neg c9] at H;exact absurd H (by simp)
       ·rw [if_neg c7] at H;have c7b0 := decide_eq_false c7;clear c7;have H' := Aside0.mk H;clear H;have p117 : 0 ≤ (x7_1 : Int) := odt (by with_reducible assumption);have q117 : x7_1 < (l0.length : Int) := odt (by with_reducible assumption);obtain ⟨ad117,A117_4,c117_4,e117,hx117_0,hx117_1,hx117_2,hx117_3,hx117_4,hl117_4,hi117_4⟩ := at_T63 HR0.out x7_1 p117 q117
        cases e117
        replace ⟨hx117_0,hx117_1,hx117_2,hx117_3,hx117_4⟩ := up5 HB.out hx117_0 hx117_1 hx117_2 hx117_3 hx117_4;have HR117_4 := Aside0.mk hi117_4;have HC117_4 := Aside0.mk hl117_4;clear hi117_4 hl117_4;replace p117 := eq_true p117;replace q117 := eq_true q117
        try go_wp2_with (((with_reducible refine gate_dst (N := 4) rfl ?_); refine box_event (by rfl) (N := 4) (by rfl) (cs := #[.string (⟨#[]⟩ : ByteArray),.int .i64 0,.int .i64 0,.int .i64 0,.slice none 0 0]) (t := 63) (by go_simp; done) ?_; intro gb118 hg w22 hbox hb; have BK118 := Aside0.mk hbox; have GW118 := gsz HB hg; have GE118 := GW118; replace HB := bst HB hb; clear hb hbox hg; obtain ⟨⟨hcz23_0,hcz23_1,hcz23_2,hcz23_3,hcz23_4⟩,hfz23_0,hfz23_1,hfz23_2,hfz23_3,hfz23_4⟩ := bc5 BK118.out))
        have n0_ : Aside0 ((((((w22.setCell ⟨gb118,0,none⟩ (.string ((rd_T63 l0 x7_1).f0))).setCell ⟨gb118,1,none⟩ (.int .i64 ((rd_T63 l0 x7_1).f1))).setCell ⟨gb118,2,none⟩ (.int .i64 ((rd_T63 l0 x7_1).f2))).setCell ⟨gb118,3,none⟩ (.int .i64 ((rd_T63 l0 x7_1).f3))).setCell ⟨gb118,4,none⟩ (.slice A117_4 ((rd_T63 l0 x7_1).f4).length c117_4)).heap[gb118]? = some (.cells #[.string ((rd_T63 l0 x7_1).f0),.int .i64 ((rd_T63 l0 x7_1).f1),.int .i64 ((rd_T63 l0 x7_1).f2),.int .i64 ((rd_T63 l0 x7_1).f3),.slice A117_4 ((rd_T63 l0 x7_1).f4).length c117_4] 63 (0,0))) := ⟨by refine blk_put (cs := #[.string ((rd_T63 l0 x7_1).f0),.int .i64 ((rd_T63 l0 x7_1).f1),.int .i64 ((rd_T63 l0 x7_1).f2),.int .i64 ((rd_T63 l0 x7_1).f3),.slice none 0 0]) ?_ 4 _ rfl; refine blk_put (cs := #[.string ((rd_T63 l0 x7_1).f0),.int .i64 ((rd_T63 l0 x7_1).f1),.int .i64 ((rd_T63 l0 x7_1).f2),.int .i64 0,.slice none 0 0]) ?_ 3 _ rfl; refine blk_put (cs := #[.string ((rd_T63 l0 x7_1).f0),.int .i64 ((rd_T63 l0 x7_1).f1),.int .i64 0,.int .i64 0,.slice none 0 0]) ?_ 2 _ rfl; refine blk_put (cs := #[.string ((rd_T63 l0 x7_1).f0),.int .i64 0,.int .i64 0,.int .i64 0,.slice none 0 0]) ?_ 1 _ rfl; refine blk_put (cs := #[.string (⟨#[]⟩ : ByteArray),.int .i64 0,.int .i64 0,.int .i64 0,.slice none 0 0]) ?_ 0 _ rfl; exact BK118.out⟩;have n1_ : Aside0 (Below w.heap.size w (((((w22.setCell ⟨gb118,0,none⟩ (.string ((rd_T63 l0 x7_1).f0))).setCell ⟨gb118,1,none⟩ (.int .i64 ((rd_T63 l0 x7_1).f1))).setCell ⟨gb118,2,none⟩ (.int .i64 ((rd_T63 l0 x7_1).f2))).setCell ⟨gb118,3,none⟩ (.int .i64 ((rd_T63 l0 x7_1).f3))).setCell ⟨gb118,4,none⟩ (.slice A117_4 ((rd_T63 l0 x7_1).f4).length c117_4))) := ⟨by repeat (with_reducible first | exact HB.out | refine below_set ?_ GE118.out)⟩
        (try clear BK118)
        (try clear HB)
        generalize (((((w22.setCell ⟨gb118,0,none⟩ (.string ((rd_T63 l0 x7_1).f0))).setCell ⟨gb118,1,none⟩ (.int .i64 ((rd_T63 l0 x7_1).f1))).setCell ⟨gb118,2,none⟩ (.int .i64 ((rd_T63 l0 x7_1).f2))).setCell ⟨gb118,3,none⟩ (.int .i64 ((rd_T63 l0 x7_1).f3))).setCell ⟨gb118,4,none⟩ (.slice A117_4 ((rd_T63 l0 x7_1).f4).length c117_4)) = w24 at n0_ n1_ ⊢
        have BK118 := n0_;have HB := n1_;clear n0_ n1_;replace BK118 := Aside0.mk (blk_drew BK118.out);replace HB := Aside0.mk (below_drew1 HB.out);refine start_ (n := 18) (S := fun w' => w'.cell? ⟨gb118,0,none⟩ = some (.string ((rd_T63 l0 x7_1).f0)) ∧ w'.cell? ⟨gb118,1,none⟩ = some (.int .i64 ((rd_T63 l0 x7_1).f1)) ∧ w'.cell? ⟨gb118,2,none⟩ = some (.int .i64 ((rd_T63 l0 x7_1).f2)) ∧ w'.cell? ⟨gb118,3,none⟩ = some (.int .i64 ((rd_T63 l0 x7_1).f3)) ∧ w'.cell? ⟨gb118,4,none⟩ = some (.slice A117_4 ((rd_T63 l0 x7_1).f4).length c117_4)) (ds := []) (Array.replicate 18 false) (by kernel_rfl) rfl rfl ⟨(blk_cell BK118.out 0).trans rfl,(blk_cell BK118.out 1).trans rfl,(blk_cell BK118.out 2).trans rfl,(blk_cell BK118.out 3).trans rfl,(blk_cell BK118.out 4).trans rfl⟩ (fun hHeld => ?_); refine with_tabW impl_AcctsOk.tab4 impl_AcctsOk.bits4 (fun HT_ HW_ => ?_)
        generalize w24.drew = w25 at BK118 HB hHeld ⊢
        refine tk 0 (some 12) (fl 18 1) HT_ HW_ rfl rfl (by kernel_rfl) (fun _ _ _ h => h) (by rfl) (by rintro w' ⟨s0,s1,s2,s3,s4⟩;go_simp;with_reducible rfl) hHeld (by simp only [wf_preprocess];rfl) ?_
        refine one_ (i := 1) (N := some 13) (fl 18 3) rfl rfl (one_of HT_.out (by kernel_rfl)) (by decide) (fun K hK => ?_);refine goes_ Try.func45 (by kernel_rfl) rfl #[.agg #[.string ((rd_T63 l0 x7_1).f0),.int .i64 ((rd_T63 l0 x7_1).f1),.int .i64 ((rd_T63 l0 x7_1).f2),.int .i64 ((rd_T63 l0 x7_1).f3),.slice A117_4 ((rd_T63 l0 x7_1).f4).length c117_4]] (by rfl) rfl rfl (by (try simp only [List.map_toArray,List.map_cons,List.map_nil]); rfl) ?_
        with_reducible refine (impl_AcctOk.calls k1 ((rd_T63 l0 x7_1).f0) ((rd_T63 l0 x7_1).f1) ((rd_T63 l0 x7_1).f2) ((rd_T63 l0 x7_1).f3) _ _ ((rd_T63 l0 x7_1).f4) true _ ?side1 ?side2 A5.out).mono ?_
        (case side1 => repeat (exact (Kd.C_below HR117_4.out HB.out)))
        (case side2 => exact HC117_4.out)
        rintro e w26 ⟨rfl,hb⟩;refine ⟨_,rfl,?_⟩;replace BK118 := bkb BK118 hb;replace HB := bst HB hb
        (try clear hb)
        skip
        skip
        skip
        refine hK.out _ _ ⟨(blk_cell BK118.out 0).trans rfl,(blk_cell BK118.out 1).trans rfl,(blk_cell BK118.out 2).trans rfl,(blk_cell BK118.out 3).trans rfl,(blk_cell BK118.out 4).trans rfl⟩ (fun hHeld => ?_);clear hK K;refine norm_ (a' := ?_) ?_ ?_;rotate_left
        ·show Act.put _ (some 13) _ = _
         simp only [wf_preprocess];rfl
        refine pu 2 (some 14) (fl 18 7) HT_ rfl rfl (by kernel_rfl) (fun _ _ _ h => h) (by rfl) (fun w' => by go_simp;with_reducible rfl) (by simp only [wf_preprocess];rfl) ?_
        refine pu 3 (some 15) (fl 18 15) HT_ rfl rfl (by kernel_rfl) (fun _ _ _ h => h) (by rfl) (fun w' => by go_simp;with_reducible rfl) (by simp only [wf_preprocess];rfl) ?_
        refine pu 4 (some 16) (fl 18 31) HT_ rfl rfl (by kernel_rfl) (fun _ _ _ h => h) (by rfl) (fun w' => by go_simp;with_reducible rfl) (by simp only [wf_preprocess];rfl) ?_
        refine pu 5 (some 17) (fl 18 63) HT_ rfl rfl (by kernel_rfl) (fun _ _ _ h => h) (by rfl) (fun w' => by go_simp;with_reducible rfl) (by simp only [wf_preprocess];rfl) ?_
        refine pu 6 (some 18) (fl 18 127) HT_ rfl rfl (by kernel_rfl) (fun _ _ _ h => h) (by rfl) (fun w' => by go_simp;with_reducible rfl) (by simp only [wf_preprocess];rfl) ?_
        refine pn 7 (some 19) (fl 18 255) HT_ rfl rfl (by kernel_rfl) (fun _ _ _ h => h) (by rfl) (by simp only [wf_preprocess];rfl) ?_
        refine pn 8 (some 20) (fl 18 511) HT_ rfl rfl (by kernel_rfl) (fun _ _ _ h => h) (by rfl) (by simp only [wf_preprocess];rfl) ?_
        refine pn 9 (some 21) (fl 18 1023) HT_ rfl rfl (by kernel_rfl) (fun _ _ _ h => h) (by rfl) (by simp only [wf_preprocess];rfl) ?_
        refine pn 10 (some 22) (fl 18 2047) HT_ rfl rfl (by kernel_rfl) (fun _ _ _ h => h) (by rfl) (by simp only [wf_preprocess];rfl) ?_
        refine pn 11 (some 23) (fl 18 4095) HT_ rfl rfl (by kernel_rfl) (fun _ _ _ h => h) (by rfl) (by simp only [wf_preprocess];rfl) ?_
        refine pn 12 (some 24) (fl 18 8191) HT_ rfl rfl (by kernel_rfl) (fun _ _ _ h => h) (by rfl) (by simp only [wf_preprocess];rfl) ?_
        refine pn 13 (some 25) (fl 18 16383) HT_ rfl rfl (by kernel_rfl) (fun _ _ _ h => h) (by rfl) (by simp only [wf_preprocess];rfl) ?_
        refine pn 14 (some 26) (fl 18 32767) HT_ rfl rfl (by kernel_rfl) (fun _ _ _ h => h) (by rfl) (by simp only [wf_preprocess];rfl) ?_
        refine pn 15 (some 27) (fl 18 65535) HT_ rfl rfl (by kernel_rfl) (fun _ _ _ h => h) (by rfl) (by simp only [wf_preprocess];rfl) ?_
        refine pu 16 (some 28) (fl 18 131071) HT_ rfl rfl (by kernel_rfl) (fun _ _ _ h => h) (by rfl) (fun w' => by go_simp;with_reducible rfl) (by simp only [wf_preprocess];rfl) ?_
        refine pu 17 (some 29) (fl 18 262143) HT_ rfl rfl (by kernel_rfl) (fun _ _ _ h => h) (by rfl) (fun w' => by go_simp;with_reducible rfl) (by simp only [wf_preprocess];rfl) ?_
        refine done_ (done_of HT_.out (by kernel_rfl)) ?_
        try go_wp2
        go_roundg k1
        case measure => have := HK1.out; omega
        case rel => exact ⟨(wrap64 (x7_1 + 1)),(by rfl),H',⟨by have := HK1.out; omega⟩,⟨HB.out⟩⟩
      ·replace c6 := Bool.eq_false_iff.mpr c6;subst c6
       rw [if_neg (show ¬ (false = true) by decide)] at H
       obtain rfl := Option.some.inj H;have p117 : 0 ≤ (x7_1 : Int) := odt (by with_reducible assumption);have q117 : x7_1 < (l0.length : Int) := odt (by with_reducible assumption);obtain ⟨ad117,A117_4,c117_4,e117,hx117_0,hx117_1,hx117_2,hx117_3,hx117_4,hl117_4,hi117_4⟩ := at_T63 HR0.out x7_1 p117 q117
       cases e117
       replace ⟨hx117_0,hx117_1,hx117_2,hx117_3,hx117_4⟩ := up5 HB.out hx117_0 hx117_1 hx117_2 hx117_3 hx117_4;have HR117_4 := Aside0.mk hi117_4;have HC117_4 := Aside0.mk hl117_4;clear hi117_4 hl117_4;replace p117 := eq_true p117;replace q117 := eq_true q117
       try go_wp2_with (((with_reducible refine gate_dst (N := 4) rfl ?_); refine box_event (by rfl) (N := 4) (by rfl) (cs := #[.string (⟨#[]⟩ : ByteArray),.int .i64 0,.int .i64 0,.int .i64 0,.slice none 0 0]) (t := 63) (by go_simp; done) ?_; intro gb118 hg w27 hbox hb; have BK118 := Aside0.mk hbox; have GW118 := gsz HB hg; have GE118 := GW118; replace HB := bst HB hb; clear hb hbox hg; obtain ⟨⟨hcz28_0,hcz28_1,hcz28_2,hcz28_3,hcz28_4⟩,hfz28_0,hfz28_1,hfz28_2,hfz28_3,hfz28_4⟩ := bc5 BK118.out))
       have n0_ : Aside0 ((((((w27.setCell ⟨gb118,0,none⟩ (.string ((rd_T63 l0 x7_1).f0))).setCell ⟨gb118,1,none⟩ (.int .i64 ((rd_T63 l0 x7_1).f1))).setCell ⟨gb118,2,none⟩ (.int .i64 ((rd_T63 l0 x7_1).f2))).setCell ⟨gb118,3,none⟩ (.int .i64 ((rd_T63 l0 x7_1).f3))).setCell ⟨gb118,4,none⟩ (.slice A117_4 ((rd_T63 l0 x7_1).f4).length c117_4)).heap[gb118]? = some (.cells #[.string ((rd_T63 l0 x7_1).f0),.int .i64 ((rd_T63 l0 x7_1).f1),.int .i64 ((rd_T63 l0 x7_1).f2),.int .i64 ((rd_T63 l0 x7_1).f3),.slice A117_4 ((rd_T63 l0 x7_1).f4).length c117_4] 63 (0,0))) := ⟨by refine blk_put (cs := #[.string ((rd_T63 l0 x7_1).f0),.int .i64 ((rd_T63 l0 x7_1).f1),.int .i64 ((rd_T63 l0 x7_1).f2),.int .i64 ((rd_T63 l0 x7_1).f3),.slice none 0 0]) ?_ 4 _ rfl; refine blk_put (cs := #[.string ((rd_T63 l0 x7_1).f0),.int .i64 ((rd_T63 l0 x7_1).f1),.int .i64 ((rd_T63 l0 x7_1).f2),.int .i64 0,.slice none 0 0]) ?_ 3 _ rfl; refine blk_put (cs := #[.string ((rd_T63 l0 x7_1).f0),.int .i64 ((rd_T63 l0 x7_1).f1),.int .i64 0,.int .i64 0,.slice none 0 0]) ?_ 2 _ rfl; refine blk_put (cs := #[.string ((rd_T63 l0 x7_1).f0),.int .i64 0,.int .i64 0,.int .i64 0,.slice none 0 0]) ?_ 1 _ rfl; refine blk_put (cs := #[.string (⟨#[]⟩ : ByteArray),.int .i64 0,.int .i64 0,.int .i64 0,.slice none 0 0]) ?_ 0 _ rfl; exact BK118.out⟩;have n1_ : Aside0 (Below w.heap.size w (((((w27.setCell ⟨gb118,0,none⟩ (.string ((rd_T63 l0 x7_1).f0))).setCell ⟨gb118,1,none⟩ (.int .i64 ((rd_T63 l0 x7_1).f1))).setCell ⟨gb118,2,none⟩ (.int .i64 ((rd_T63 l0 x7_1).f2))).setCell ⟨gb118,3,none⟩ (.int .i64 ((rd_T63 l0 x7_1).f3))).setCell ⟨gb118,4,none⟩ (.slice A117_4 ((rd_T63 l0 x7_1).f4).length c117_4))) := ⟨by repeat (with_reducible first | exact HB.out | refine below_set ?_ GE118.out)⟩
       (try clear BK118)
       (try clear HB)
       generalize (((((w27.setCell ⟨gb118,0,none⟩ (.string ((rd_T63 l0 x7_1).f0))).setCell ⟨gb118,1,none⟩ (.int .i64 ((rd_T63 l0 x7_1).f1))).setCell ⟨gb118,2,none⟩ (.int .i64 ((rd_T63 l0 x7_1).f2))).setCell ⟨gb118,3,none⟩ (.int .i64 ((rd_T63 l0 x7_1).f3))).setCell ⟨gb118,4,none⟩ (.slice A117_4 ((rd_T63 l0 x7_1).f4).length c117_4)) = w29 at n0_ n1_ ⊢
       have BK118 := n0_;have HB := n1_;clear n0_ n1_;replace BK118 := Aside0.mk (blk_drew BK118.out);replace HB := Aside0.mk (below_drew1 HB.out);refine start_ (n := 18) (S := fun w' => w'.cell? ⟨gb118,0,none⟩ = some (.string ((rd_T63 l0 x7_1).f0)) ∧ w'.cell? ⟨gb118,1,none⟩ = some (.int .i64 ((rd_T63 l0 x7_1).f1)) ∧ w'.cell? ⟨gb118,2,none⟩ = some (.int .i64 ((rd_T63 l0 x7_1).f2)) ∧ w'.cell? ⟨gb118,3,none⟩ = some (.int .i64 ((rd_T63 l0 x7_1).f3)) ∧ w'.cell? ⟨gb118,4,none⟩ = some (.slice A117_4 ((rd_T63 l0 x7_1).f4).length c117_4)) (ds := []) (Array.replicate 18 false) (by kernel_rfl) rfl rfl ⟨(blk_cell BK118.out 0).trans rfl,(blk_cell BK118.out 1).trans rfl,(blk_cell BK118.out 2).trans rfl,(blk_cell BK118.out 3).trans rfl,(blk_cell BK118.out 4).trans rfl⟩ (fun hHeld => ?_); refine with_tabW impl_AcctsOk.tab4 impl_AcctsOk.bits4 (fun HT_ HW_ => ?_)
       generalize w29.drew = w30 at BK118 HB hHeld ⊢
       refine tk 0 (some 12) (fl 18 1) HT_ HW_ rfl rfl (by kernel_rfl) (fun _ _ _ h => h) (by rfl) (by rintro w' ⟨s0,s1,s2,s3,s4⟩;go_simp;with_reducible rfl) hHeld (by simp only [wf_preprocess];rfl) ?_
       refine one_ (i := 1) (N := some 13) (fl 18 3) rfl rfl (one_of HT_.out (by kernel_rfl)) (by decide) (fun K hK => ?_);refine goes_ Try.func45 (by kernel_rfl) rfl #[.agg #[.string ((rd_T63 l0 x7_1).f0),.int .i64 ((rd_T63 l0 x7_1).f1),.int .i64 ((rd_T63 l0 x7_1).f2),.int .i64 ((rd_T63 l0 x7_1).f3),.slice A117_4 ((rd_T63 l0 x7_1).f4).length c117_4]] (by rfl) rfl rfl (by (try simp only [List.map_toArray,List.map_cons,List.map_nil]); rfl) ?_
       with_reducible refine (impl_AcctOk.calls k1 ((rd_T63 l0 x7_1).f0) ((rd_T63 l0 x7_1).f1) ((rd_T63 l0 x7_1).f2) ((rd_T63 l0 x7_1).f3) _ _ ((rd_T63 l0 x7_1).f4) false _ ?side1 ?side2 A5.out).mono ?_
       (case side1 => repeat (exact (Kd.C_below HR117_4.out HB.out)))
       (case side2 => exact HC117_4.out)
       rintro e w31 ⟨rfl,hb⟩;refine ⟨_,rfl,?_⟩;replace BK118 := bkb BK118 hb;replace HB := bst HB hb
       (try clear hb)
       skip
       skip
       skip
       refine hK.out _ _ ⟨(blk_cell BK118.out 0).trans rfl,(blk_cell BK118.out 1).trans rfl,(blk_cell BK118.out 2).trans rfl,(blk_cell BK118.out 3).trans rfl,(blk_cell BK118.out 4).trans rfl⟩ (fun hHeld => ?_);clear hK K;refine norm_ (a' := ?_) ?_ ?_;rotate_left
       ·show Act.put _ (some 13) _ = _
        simp only [wf_preprocess];rfl
       refine pu 2 (some 14) (fl 18 7) HT_ rfl rfl (by kernel_rfl) (fun _ _ _ h => h) (by rfl) (fun w' => by go_simp;with_reducible rfl) (by simp only [wf_preprocess];rfl) ?_
       refine pu 3 (some 15) (fl 18 15) HT_ rfl rfl (by kernel_rfl) (fun _ _ _ h => h) (by rfl) (fun w' => by go_simp;with_reducible rfl) (by simp only [wf_preprocess];rfl) ?_
       refine pn 4 (some 16) (fl 18 31) HT_ rfl rfl (by kernel_rfl) (fun _ _ _ h => h) (by rfl) (by simp only [wf_preprocess];rfl) ?_
       refine pn 5 (some 17) (fl 18 63) HT_ rfl rfl (by kernel_rfl) (fun _ _ _ h => h) (by rfl) (by simp only [wf_preprocess];rfl) ?_
       refine pn 6 (some 18) (fl 18 127) HT_ rfl rfl (by kernel_rfl) (fun _ _ _ h => h) (by rfl) (by simp only [wf_preprocess];rfl) ?_
       refine pn 7 (some 19) (fl 18 255) HT_ rfl rfl (by kernel_rfl) (fun _ _ _ h => h) (by rfl) (by simp only [wf_preprocess];rfl) ?_
       refine pn 8 (some 20) (fl 18 511) HT_ rfl rfl (by kernel_rfl) (fun _ _ _ h => h) (by rfl) (by simp only [wf_preprocess];rfl) ?_
       refine pn 9 (some 21) (fl 18 1023) HT_ rfl rfl (by kernel_rfl) (fun _ _ _ h => h) (by rfl) (by simp only [wf_preprocess];rfl) ?_
       refine pn 10 (some 22) (fl 18 2047) HT_ rfl rfl (by kernel_rfl) (fun _ _ _ h => h) (by rfl) (by simp only [wf_preprocess];rfl) ?_
       refine pn 11 (some 23) (fl 18 4095) HT_ rfl rfl (by kernel_rfl) (fun _ _ _ h => h) (by rfl) (by simp only [wf_preprocess];rfl) ?_
       refine pn 12 (some 24) (fl 18 8191) HT_ rfl rfl (by kernel_rfl) (fun _ _ _ h => h) (by rfl) (by simp only [wf_preprocess];rfl) ?_
       refine pn 13 (some 25) (fl 18 16383) HT_ rfl rfl (by kernel_rfl) (fun _ _ _ h => h) (by rfl) (by simp only [wf_preprocess];rfl) ?_
       refine pn 14 (some 26) (fl 18 32767) HT_ rfl rfl (by kernel_rfl) (fun _ _ _ h => h) (by rfl) (by simp only [wf_preprocess];rfl) ?_
       refine pn 15 (some 27) (fl 18 65535) HT_ rfl rfl (by kernel_rfl) (fun _ _ _ h => h) (by rfl) (by simp only [wf_preprocess];rfl) ?_
       refine pn 16 (some 28) (fl 18 131071) HT_ rfl rfl (by kernel_rfl) (fun _ _ _ h => h) (by rfl) (by simp only [wf_preprocess];rfl) ?_
       refine pu 17 (some 29) (fl 18 262143) HT_ rfl rfl (by kernel_rfl) (fun _ _ _ h => h) (by rfl) (fun w' => by go_simp;with_reducible rfl) (by simp only [wf_preprocess];rfl) ?_
       refine done_ (done_of HT_.out (by kernel_rfl)) ?_
       try go_wp2
       go_ret;exact ⟨by rfl,HB.out⟩
     ·rw [if_neg c4] at H;exact absurd H (by simp)
    ·rw [if_neg c3] at H;exact absurd H (by simp)
   ·rw [if_neg c2] at H;have c2b0 := decide_eq_false c2;clear c2
    by_cases c32 : (l0.length : Int) ≤ 12
    ·rw [if_pos c32] at H;have c32b0 := decide_eq_true c32;have c32b1 : decide (l0.length ≤ 12) = true := decide_eq_true (by omega);clear c32;replace H := Option.bind_eq_some_iff.mp H;obtain ⟨t121,A330,H⟩ := H;replace H : (some (decide (t121 ≤ 1000000))) = some r := H;have A33 := Aside0.mk A330;clear A330;obtain rfl := Option.some.inj H
     go_wp2_with ((go_at_call 26; (with_reducible refine (impl_Wealth.calls k1 _ _ l0 t121 _ ?side1 ?side2 A33.out).mono ?_); (case side1 => repeat (exact (Kd.C_below HR0.out HB.out))); (case side2 => exact HC0.out); rintro e w34 ⟨rfl,hb⟩; replace HB := bst HB hb; (try clear hb); skip))
     go_ret;exact ⟨by rfl,HB.out⟩
    ·rw [if_neg c32] at H;have c32b0 := decide_eq_false c32;have c32b1 : decide (l0.length ≤ 12) = false := decide_eq_false (by omega);clear c32;obtain rfl := Option.some.inj H;go_wp2;go_ret;exact ⟨by rfl,HB.out⟩

end Go.Proofs.Ytcbpfofkdipjhaa.PV
