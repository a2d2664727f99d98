/- The machine's side of Go functions: each as a plain function,and that the call does what it says. Written by a program (wip/mprint). -/
import Derived.Test.YtgbbgdlenadhlaaPJx0
import Derived.Test.YtgbbgdlenadhlaaPJx10
import Derived.Test.YtgbbgdlenadhlaaPJx13
namespace Go.Proofs.Ytgbbgdlenadhlaa.PJ
open Go.RowKit Go.Proofs.YtgbbgdlenadhlaaW.PrintWords Go.Proofs.YtgbbgdlenadhlaaW.PrintLast Go.Proofs.YtgbbgdlenadhlaaW.PrintMore
attribute [local wf_preprocess] Act.put List.setIfInBounds_toArray List.set_cons_zero List.set_cons_succ i64_w i32_w
attribute [local go_sem] max2_int min2_int max_two min_two max_three min_three max_four min_four   -- for this text's walks alone
set_option linter.unusedVariables false
set_option linter.unusedSimpArgs false

/-! ### spec_l6Text: function 73 -/
def spec_l6Text.l0 : Nat → List Int → Int → ByteArray → Int → Int → Int → List (S54) → Option (ByteArray)
 | 0,_,_,_,_,_,_,_ => none
 | k + 1,x3,x4,x391000,x391001,x391002,x391003,x391004 => if x4 < (x391004.length : Int) then (if 0 ≤ x4 then ((spec_PutNum.f k x3 ((rd_T54 x391004 x4).f0)).bind fun t410 => ((spec_PutNum.f k t410 ((rd_T54 x391004 x4).f1)).bind fun t414 => (spec_l6Text.l0 k t414 (wrap64 (x4 + 1)) x391000 x391001 x391002 x391003 x391004))) else (none)) else (some (strOfNums x3))
def spec_l6Text.f (k : Nat) (a0_0 : ByteArray) (a0_1 : Int) (a0_2 : Int) (a0_3 : Int) (l0_4 : List (S54)) : Option (ByteArray) := (spec_PutText.f k ([] : List Int) a0_0).bind fun t394 => ((spec_PutNum.f k t394 a0_1).bind fun t397 => ((spec_PutNum.f k t397 a0_2).bind fun t400 => ((spec_PutNum.f k t400 a0_3).bind fun t403 => ((spec_PutNum.f k t403 (l0_4.length : Int)).bind fun t406 => (spec_l6Text.l0 k t406 0 a0_0 a0_1 a0_2 a0_3 l0_4)))))
theorem spec_l6Text.mono_l : ∀ k,(∀ y0 y1 y2 y3 y4 y5 y6,LeO (spec_l6Text.l0 k y0 y1 y2 y3 y4 y5 y6) (spec_l6Text.l0 (k + 1) y0 y1 y2 y3 y4 y5 y6))
 | 0 => fun _ _ _ _ _ _ _ r h => by simp [spec_l6Text.l0] at h
 | k + 1 => by
  have ih0 := spec_l6Text.mono_l k
  ·intro y0 y1 y2 y3 y4 y5 y6;unfold spec_l6Text.l0
   repeat' first
   | (with_reducible exact ih0 _ _ _ _ _ _ _)
   | (with_reducible exact spec_PutNum.mono _ _ _)
   | (with_reducible exact spec_PutText.mono _ _ _)
   | (with_reducible exact LeO.refl _)
   | (with_reducible exact LeO.none _)
   | (with_reducible refine LeO.ite ?_ ?_)
   | (with_reducible refine LeO.bind ?_ (fun _ => ?_))
   | exact ih0 _ _ _ _ _ _ _
   | exact spec_PutNum.mono _ _ _
   | exact spec_PutText.mono _ _ _
   | exact LeO.none _
theorem spec_l6Text.mono : ∀ a0 a1 a2 a3 a4 k,LeO (spec_l6Text.f k a0 a1 a2 a3 a4) (spec_l6Text.f (k + 1) a0 a1 a2 a3 a4) := by
 intro a0 a1 a2 a3 a4 k;have ih0 := spec_l6Text.mono_l k;unfold spec_l6Text.f
 repeat' first
   | (with_reducible exact ih0 _ _ _ _ _ _ _)
   | (with_reducible exact spec_PutNum.mono _ _ _)
   | (with_reducible exact spec_PutText.mono _ _ _)
   | (with_reducible exact LeO.refl _)
   | (with_reducible exact LeO.none _)
   | (with_reducible refine LeO.ite ?_ ?_)
   | (with_reducible refine LeO.bind ?_ (fun _ => ?_))
   | exact ih0 _ _ _ _ _ _ _
   | exact spec_PutNum.mono _ _ _
   | exact spec_PutText.mono _ _ _
   | exact LeO.none _
def spec_l6Text.T1 : Bool × List (List Nat × List Nat) := (true,[([],[]),([],[]),([1],[1]),([0,2],[0,2]),([],[]),([4],[4]),([3,5,3],[3,5]),([],[]),([7],[7]),([6,8,6],[6,8]),([],[]),([10],[10]),([9,11,9],[9,11]),([],[]),([13],[13]),([14],[14]),([12,15,12],[12,15]),([16,16,0,1,2,3,4,5,6,7,8,9,10,11,12,13,14,15,16],[16])])
def spec_l6Text.B1 : List Nat := [0,0,2,7,0,16,63,0,128,511,0,1024,4095,0,8192,24576,65535,131071]
theorem spec_l6Text.tab1 : rtab .any (opsOf Try.f73 1) = spec_l6Text.T1 := by kernel_rfl
theorem spec_l6Text.bits1 : waitsOk spec_l6Text.T1.2 spec_l6Text.B1 = true := by kernel_rfl
def spec_l6Text.T5 : Bool × List (List Nat × List Nat) := (true,[([],[]),([],[]),([1],[1]),([],[]),([2,3],[2,3]),([4],[4]),([5],[5]),([0,6],[0,6]),([],[]),([8],[8]),([],[]),([9,10],[9,10]),([11],[11]),([12],[12]),([7,13,7],[7,13]),([14,14,0,1,2,3,4,5,6,7,8,9,10,11,12,13,14],[0,14])])
def spec_l6Text.B5 : List Nat := [0,0,2,0,14,30,62,127,0,256,0,1792,3840,7936,16383,32767]
theorem spec_l6Text.tab5 : rtab .any (opsOf Try.f73 5) = spec_l6Text.T5 := by kernel_rfl
theorem spec_l6Text.bits5 : waitsOk spec_l6Text.T5.2 spec_l6Text.B5 = true := by kernel_rfl
set_option maxHeartbeats 8000000 in
set_option maxRecDepth 100000 in
theorem spec_l6Text.calls (k : Nat) (a0_0 : ByteArray) (a0_1 : Int) (a0_2 : Int) (a0_3 : Int) (A0_4 : Option Addr) (c0_4 : Nat) (l0_4 : List (S54)) (r : ByteArray) (w : World) (hr0_4 : Kd.C k54 w A0_4 l0_4.length l0_4) (hc0_4 : l0_4.length ≤ c0_4) (h : spec_l6Text.f k a0_0 a0_1 a0_2 a0_3 l0_4 = some r) :
  Calls Try.prog 73 #[.agg #[.string a0_0,.int .i64 a0_1,.int .i64 a0_2,.int .i64 a0_3,.slice A0_4 l0_4.length c0_4]] w fun e w' => e = .returned (.string r) ∧ Below w.heap.size w w' := by
 have hu50 := Try.underlying50;have HR0_4 := Aside0.mk hr0_4;have HC0_4 := Aside0.mk hc0_4;clear hr0_4 hc0_4;have HB := Aside0.mk (Below.refl w.heap.size w);have H : ((spec_PutText.f k ([] : List Int) a0_0).bind fun t394 => ((spec_PutNum.f k t394 a0_1).bind fun t397 => ((spec_PutNum.f k t397 a0_2).bind fun t400 => ((spec_PutNum.f k t400 a0_3).bind fun t403 => ((spec_PutNum.f k t403 (l0_4.length : Int)).bind fun t406 => (spec_l6Text.l0 k t406 0 a0_0 a0_1 a0_2 a0_3 l0_4)))))) = some r := h;clear h;obtain ⟨y391,hy391⟩ : ∃ y_ : List Int,y_ = ([] : List Int) := ⟨_,rfl⟩
 replace H : ((spec_PutText.f k y391 a0_0).bind fun t394 => ((spec_PutNum.f k t394 a0_1).bind fun t397 => ((spec_PutNum.f k t397 a0_2).bind fun t400 => ((spec_PutNum.f k t400 a0_3).bind fun t403 => ((spec_PutNum.f k t403 (l0_4.length : Int)).bind fun t406 => (spec_l6Text.l0 k t406 0 a0_0 a0_1 a0_2 a0_3 l0_4)))))) = some r := by (rw [hy391]; with_reducible exact H)
 have Ny391 := Aside0.mk hy391;clear hy391;replace H := Option.bind_eq_some_iff.mp H;obtain ⟨t394,A20,H⟩ := H;replace H : ((spec_PutNum.f k t394 a0_1).bind fun t397 => ((spec_PutNum.f k t397 a0_2).bind fun t400 => ((spec_PutNum.f k t400 a0_3).bind fun t403 => ((spec_PutNum.f k t403 (l0_4.length : Int)).bind fun t406 => (spec_l6Text.l0 k t406 0 a0_0 a0_1 a0_2 a0_3 l0_4))))) = some r := H;have A2 := Aside0.mk A20;clear A20;replace H := Option.bind_eq_some_iff.mp H;obtain ⟨t397,A30,H⟩ := H;replace H : ((spec_PutNum.f k t397 a0_2).bind fun t400 => ((spec_PutNum.f k t400 a0_3).bind fun t403 => ((spec_PutNum.f k t403 (l0_4.length : Int)).bind fun t406 => (spec_l6Text.l0 k t406 0 a0_0 a0_1 a0_2 a0_3 l0_4)))) = some r := H;have A3 := Aside0.mk A30;clear A30;replace H := Option.bind_eq_some_iff.mp H;obtain ⟨t400,A40,H⟩ := H;replace H : ((spec_PutNum.f k t400 a0_3).bind fun t403 => ((spec_PutNum.f k t403 (l0_4.length : Int)).bind fun t406 => (spec_l6Text.l0 k t406 0 a0_0 a0_1 a0_2 a0_3 l0_4))) = some r := H;have A4 := Aside0.mk A40;clear A40;replace H := Option.bind_eq_some_iff.mp H;obtain ⟨t403,A50,H⟩ := H;replace H : ((spec_PutNum.f k t403 (l0_4.length : Int)).bind fun t406 => (spec_l6Text.l0 k t406 0 a0_0 a0_1 a0_2 a0_3 l0_4)) = some r := H;have A5 := Aside0.mk A50;clear A50;replace H := Option.bind_eq_some_iff.mp H;obtain ⟨t406,A60,H⟩ := H;replace H : (spec_l6Text.l0 k t406 0 a0_0 a0_1 a0_2 a0_3 l0_4) = some r := H;have A6 := Aside0.mk A60;clear A60;have H' := Aside0.mk H;clear H;go_enter Try.func73,Try.ntmps73
 try go_wp2_with ((with_reducible refine gate_dst (N := 1) rfl ?_); refine box_event ?hg (N := 1) ?hd (cs := #[.string a0_0,.int .i64 a0_1,.int .i64 a0_2,.int .i64 a0_3,.slice A0_4 l0_4.length c0_4]) (t := 50) ?hr ?_; (case hd => rfl); (case hg => rfl); (case hr => (go_simp; done)); intro gb390 hg w7 hbox hb; have n0_ := Aside0.mk (below_step HB.out hb); have n1_ := Aside0.mk (hbox); have n2_ := Aside0.mk (by rw [hg]; exact (below_size HB.out) : w.heap.size ≤ gb390); have n3_ := Aside0.mk (by rw [hg]; exact (below_size HB.out) : w.heap.size ≤ gb390); clear HB; have HB := n0_; have BK390 := n1_; have GW390 := n2_; have GE390 := n3_; clear n0_ n1_ n2_ n3_; clear hb hbox hg)
 have n0_ := Aside0.mk (blk_drew BK390.out);have n1_ := Aside0.mk (below_drew1 HB.out);clear BK390;clear HB;have BK390 := n0_;have HB := n1_;clear n0_ n1_;refine start_ (n := 18) (S := fun w' => w'.cell? ⟨gb390,0,none⟩ = some (.string a0_0) ∧ w'.cell? ⟨gb390,1,none⟩ = some (.int .i64 a0_1) ∧ w'.cell? ⟨gb390,2,none⟩ = some (.int .i64 a0_2) ∧ w'.cell? ⟨gb390,3,none⟩ = some (.int .i64 a0_3) ∧ w'.cell? ⟨gb390,4,none⟩ = some (.slice A0_4 l0_4.length c0_4)) (ds := []) #[false,false,false,false,false,false,false,false,false,false,false,false,false,false,false,false,false,false] (by kernel_rfl) rfl rfl ⟨(blk_cell BK390.out 0).trans rfl,(blk_cell BK390.out 1).trans rfl,(blk_cell BK390.out 2).trans rfl,(blk_cell BK390.out 3).trans rfl,(blk_cell BK390.out 4).trans rfl⟩ (fun hHeld => ?_); refine with_tabW spec_l6Text.tab1 spec_l6Text.bits1 (fun HT_ HW_ => ?_)
 generalize w7.drew = w8 at BK390 HB hHeld ⊢
 refine pure_ (i := 1) (N := some 6) (v := ?_) (a' := ?_) #[false,true,false,false,false,false,false,false,false,false,false,false,false,false,false,false,false,false] rfl rfl (any_of HT_.out (by kernel_rfl)) (fun _ _ _ h => h) (Or.inl ⟨by rfl,?_⟩) ?_ ?_;rotate_left
 ·intro w';go_simp;with_reducible rfl
 rotate_left
 ·simp only [wf_preprocess];rfl
 refine pure_ (i := 4) (N := some 9) (v := ?_) (a' := ?_) #[false,true,false,false,true,false,false,false,false,false,false,false,false,false,false,false,false,false] rfl rfl (any_of HT_.out (by kernel_rfl)) (fun _ _ _ h => h) (Or.inl ⟨by rfl,?_⟩) ?_ ?_;rotate_left
 ·intro w';go_simp;with_reducible rfl
 rotate_left
 ·simp only [wf_preprocess];rfl
 refine pure_ (i := 7) (N := some 12) (v := ?_) (a' := ?_) #[false,true,false,false,true,false,false,true,false,false,false,false,false,false,false,false,false,false] rfl rfl (any_of HT_.out (by kernel_rfl)) (fun _ _ _ h => h) (Or.inl ⟨by rfl,?_⟩) ?_ ?_;rotate_left
 ·intro w';go_simp;with_reducible rfl
 rotate_left
 ·simp only [wf_preprocess];rfl
 refine pure_ (i := 10) (N := some 15) (v := ?_) (a' := ?_) #[false,true,false,false,true,false,false,true,false,false,true,false,false,false,false,false,false,false] rfl rfl (any_of HT_.out (by kernel_rfl)) (fun _ _ _ h => h) (Or.inl ⟨by rfl,?_⟩) ?_ ?_;rotate_left
 ·intro w';go_simp;with_reducible rfl
 rotate_left
 ·simp only [wf_preprocess];rfl
 refine pure_ (i := 13) (N := some 18) (v := ?_) (a' := ?_) #[false,true,false,false,true,false,false,true,false,false,true,false,false,true,false,false,false,false] rfl rfl (any_of HT_.out (by kernel_rfl)) (fun _ _ _ h => h) (Or.inl ⟨by rfl,?_⟩) ?_ ?_;rotate_left
 ·intro w';go_simp;with_reducible rfl
 rotate_left
 ·simp only [wf_preprocess];rfl
 refine take_ (i := 2) (N := some 7) (v := ?_) (a' := ?_) #[false,true,true,false,true,false,false,true,false,false,true,false,false,true,false,false,false,false] rfl rfl (take_ofW HT_.out HW_.out (by kernel_rfl)) (fun _ _ _ h => h) (Or.inl ⟨by rfl,?_⟩) hHeld ?_ ?_;rotate_left
 ·rintro w' ⟨s0,s1,s2,s3,s4⟩;go_simp;with_reducible rfl
 rotate_left
 ·simp only [wf_preprocess];rfl
 refine take_ (i := 5) (N := some 10) (v := ?_) (a' := ?_) #[false,true,true,false,true,true,false,true,false,false,true,false,false,true,false,false,false,false] rfl rfl (take_ofW HT_.out HW_.out (by kernel_rfl)) (fun _ _ _ h => h) (Or.inl ⟨by rfl,?_⟩) hHeld ?_ ?_;rotate_left
 ·rintro w' ⟨s0,s1,s2,s3,s4⟩;go_simp;with_reducible rfl
 rotate_left
 ·simp only [wf_preprocess];rfl
 refine take_ (i := 8) (N := some 13) (v := ?_) (a' := ?_) #[false,true,true,false,true,true,false,true,true,false,true,false,false,true,false,false,false,false] rfl rfl (take_ofW HT_.out HW_.out (by kernel_rfl)) (fun _ _ _ h => h) (Or.inl ⟨by rfl,?_⟩) hHeld ?_ ?_;rotate_left
 ·rintro w' ⟨s0,s1,s2,s3,s4⟩;go_simp;with_reducible rfl
 rotate_left
 ·simp only [wf_preprocess];rfl
 refine take_ (i := 11) (N := some 16) (v := ?_) (a' := ?_) #[false,true,true,false,true,true,false,true,true,false,true,true,false,true,false,false,false,false] rfl rfl (take_ofW HT_.out HW_.out (by kernel_rfl)) (fun _ _ _ h => h) (Or.inl ⟨by rfl,?_⟩) hHeld ?_ ?_;rotate_left
 ·rintro w' ⟨s0,s1,s2,s3,s4⟩;go_simp;with_reducible rfl
 rotate_left
 ·simp only [wf_preprocess];rfl
 refine take_ (i := 14) (N := some 19) (v := ?_) (a' := ?_) #[false,true,true,false,true,true,false,true,true,false,true,true,false,true,true,false,false,false] rfl rfl (take_ofW HT_.out HW_.out (by kernel_rfl)) (fun _ _ _ h => h) (Or.inl ⟨by rfl,?_⟩) hHeld ?_ ?_;rotate_left
 ·rintro w' ⟨s0,s1,s2,s3,s4⟩;go_simp;with_reducible rfl
 rotate_left
 ·simp only [wf_preprocess];rfl
 refine pure_ (i := 15) (N := some 20) (v := ?_) (a' := ?_) #[false,true,true,false,true,true,false,true,true,false,true,true,false,true,true,true,false,false] rfl rfl (any_of HT_.out (by kernel_rfl)) (fun _ _ _ h => h) (Or.inl ⟨by rfl,?_⟩) ?_ ?_;rotate_left
 ·intro w';go_simp;with_reducible rfl
 rotate_left
 ·simp only [wf_preprocess];rfl
 refine one_ (i := 0) (N := some 5) #[true,true,true,false,true,true,false,true,true,false,true,true,false,true,true,true,false,false] rfl rfl (one_of HT_.out (by kernel_rfl)) (by decide) (fun K hK => ?_);refine Kd.R_lit_step (Kd.int .u8) _ 5 ?hg (N := 5) ?hd (xs := ([] : List Int)) (inner := []) (ok := fun _ => True) (okp := fun _ => True) ?hr ?hp (fun _ hk => hk) trivial (Below.refl _ _) (Nat.le_refl _) (by simp) ?_; (case hd => rfl); (case hg => rfl); (case hr => (go_simp; done)); (case hp => exact (Reps.none _ _));intro v392 w9 ho10 hb hg_ hnew_;clear hg_ hnew_
 (rw [← Ny391.out] at ho10)
 have n0_ := Aside0.mk (Kd.R_lower ho10 (below_size HB.out));have n1_ := Aside0.mk (blk_below (g := gb390) (o := .cells #[.string a0_0,.int .i64 a0_1,.int .i64 a0_2,.int .i64 a0_3,.slice A0_4 l0_4.length c0_4] 50 (0,0)) (by exact BK390.out) hb);have n2_ := Aside0.mk (below_step HB.out hb);clear BK390;clear HB;have HO393 := n0_;have BK390 := n1_;have HB := n2_;clear n0_ n1_ n2_;clear hb ho10;obtain ⟨Ao11,co11,eo11⟩ := Kd.R_slice HO393.out
 (subst eo11)
 refine hK.out _ _ ⟨(blk_cell BK390.out 0).trans rfl,(blk_cell BK390.out 1).trans rfl,(blk_cell BK390.out 2).trans rfl,(blk_cell BK390.out 3).trans rfl,(blk_cell BK390.out 4).trans rfl⟩ (fun hHeld => ?_);clear hK K;refine norm_ (a' := ?_) ?_ ?_;rotate_left
 ·show Act.put _ (some 5) _ = _
  simp only [wf_preprocess];rfl
 refine one_ (i := 3) (N := some 8) #[true,true,true,true,true,true,false,true,true,false,true,true,false,true,true,true,false,false] rfl rfl (one_of HT_.out (by kernel_rfl)) (by decide) (fun K hK => ?_);refine goes_ Try.func95 (by kernel_rfl) rfl #[.slice Ao11 y391.length co11,.string a0_0] (by rfl) rfl rfl (by (try simp only [List.map_toArray,List.map_cons,List.map_nil]); rfl) ?_
 with_reducible refine (spec_PutText.calls k _ _ y391 a0_0 t394 _ ?side1 ?side2 A2.out).mono ?_
 (case side1 => repeat (exact (Kd.R_reads' HO393.out).2.2))
 (case side2 => exact (Kd.R_reads' HO393.out).2.1)
 rintro e w12 ⟨v395,rfl,ho0,hb⟩;refine ⟨_,rfl,?_⟩;have n0_ := Aside0.mk (Kd.R_elder' (by exact HO393.out) (Kd.R_base ho0) hb);have n1_ := Aside0.mk (Kd.R_lower (Kd.R_new' ho0 (Kd.R_lt (by exact HO393.out))) (below_size HB.out));have n2_ := Aside0.mk (blk_below (g := gb390) (o := .cells #[.string a0_0,.int .i64 a0_1,.int .i64 a0_2,.int .i64 a0_3,.slice A0_4 l0_4.length c0_4] 50 (0,0)) (by exact BK390.out) hb);have n3_ := Aside0.mk (below_step HB.out hb);clear HO393;clear BK390;clear HB;have HO393 := n0_;have HO396 := n1_;have BK390 := n2_;have HB := n3_;clear n0_ n1_ n2_ n3_
 (try clear hb)
 skip
 skip
 skip
 (try clear ho0)
 obtain ⟨Ao13,co13,eo13⟩ := Kd.R_slice HO396.out
 (subst eo13)
 refine hK.out _ _ ⟨(blk_cell BK390.out 0).trans rfl,(blk_cell BK390.out 1).trans rfl,(blk_cell BK390.out 2).trans rfl,(blk_cell BK390.out 3).trans rfl,(blk_cell BK390.out 4).trans rfl⟩ (fun hHeld => ?_);clear hK K;refine norm_ (a' := ?_) ?_ ?_;rotate_left
 ·show Act.put _ (some 8) _ = _
  simp only [wf_preprocess];rfl
 refine one_ (i := 6) (N := some 11) #[true,true,true,true,true,true,true,true,true,false,true,true,false,true,true,true,false,false] rfl rfl (one_of HT_.out (by kernel_rfl)) (by decide) (fun K hK => ?_);refine goes_ Try.func94 (by kernel_rfl) rfl #[.slice Ao13 t394.length co13,.int .i64 a0_1] (by rfl) rfl rfl (by (try simp only [List.map_toArray,List.map_cons,List.map_nil]); rfl) ?_
 with_reducible refine (spec_PutNum.calls k _ _ t394 a0_1 t397 _ ?side1 ?side2 A3.out).mono ?_
 (case side1 => repeat (exact (Kd.R_reads' HO396.out).2.2))
 (case side2 => exact (Kd.R_reads' HO396.out).2.1)
 rintro e w14 ⟨v398,rfl,ho0,hb⟩;refine ⟨_,rfl,?_⟩;have n0_ := Aside0.mk (Kd.R_elder' (by exact HO393.out) (Kd.R_base ho0) hb);have n1_ := Aside0.mk (Kd.R_elder' (by exact HO396.out) (Kd.R_base ho0) hb);have n2_ := Aside0.mk (Kd.R_lower (Kd.R_new' (Kd.R_new' ho0 (Kd.R_lt (by exact HO393.out))) (Kd.R_lt (by exact HO396.out))) (below_size HB.out));have n3_ := Aside0.mk (blk_below (g := gb390) (o := .cells #[.string a0_0,.int .i64 a0_1,.int .i64 a0_2,.int .i64 a0_3,.slice A0_4 l0_4.length c0_4] 50 (0,0)) (by exact BK390.out) hb);have n4_ := Aside0.mk (below_step HB.out hb);clear HO393;clear HO396;clear BK390;clear HB;have HO393 := n0_;have HO396 := n1_;have HO399 := n2_;have BK390 := n3_;have HB := n4_;clear n0_ n1_ n2_ n3_ n4_
 (try clear hb)
 skip
 skip
 skip
 (try clear ho0)
 obtain ⟨Ao15,co15,eo15⟩ := Kd.R_slice HO399.out
 (subst eo15)
 refine hK.out _ _ ⟨(blk_cell BK390.out 0).trans rfl,(blk_cell BK390.out 1).trans rfl,(blk_cell BK390.out 2).trans rfl,(blk_cell BK390.out 3).trans rfl,(blk_cell BK390.out 4).trans rfl⟩ (fun hHeld => ?_);clear hK K;refine norm_ (a' := ?_) ?_ ?_;rotate_left
 ·show Act.put _ (some 11) _ = _
  simp only [wf_preprocess];rfl
 refine one_ (i := 9) (N := some 14) #[true,true,true,true,true,true,true,true,true,true,true,true,false,true,true,true,false,false] rfl rfl (one_of HT_.out (by kernel_rfl)) (by decide) (fun K hK => ?_);refine goes_ Try.func94 (by kernel_rfl) rfl #[.slice Ao15 t397.length co15,.int .i64 a0_2] (by rfl) rfl rfl (by (try simp only [List.map_toArray,List.map_cons,List.map_nil]); rfl) ?_
 with_reducible refine (spec_PutNum.calls k _ _ t397 a0_2 t400 _ ?side1 ?side2 A4.out).mono ?_
 (case side1 => repeat (exact (Kd.R_reads' HO399.out).2.2))
 (case side2 => exact (Kd.R_reads' HO399.out).2.1)
 rintro e w16 ⟨v401,rfl,ho0,hb⟩;refine ⟨_,rfl,?_⟩;have n0_ := Aside0.mk (Kd.R_elder' (by exact HO393.out) (Kd.R_base ho0) hb);have n1_ := Aside0.mk (Kd.R_elder' (by exact HO396.out) (Kd.R_base ho0) hb);have n2_ := Aside0.mk (Kd.R_elder' (by exact HO399.out) (Kd.R_base ho0) hb);have n3_ := Aside0.mk (Kd.R_lower (Kd.R_new' (Kd.R_new' (Kd.R_new' ho0 (Kd.R_lt (by exact HO393.out))) (Kd.R_lt (by exact HO396.out))) (Kd.R_lt (by exact HO399.out))) (below_size HB.out));have n4_ := Aside0.mk (blk_below (g := gb390) (o := .cells #[.string a0_0,.int .i64 a0_1,.int .i64 a0_2,.int .i64 a0_3,.slice A0_4 l0_4.length c0_4] 50 (0,0)) (by exact BK390.out) hb);have n5_ := Aside0.mk (below_step HB.out hb);clear HO393;clear HO396;clear HO399;clear BK390;clear HB;have HO393 := n0_;have HO396 := n1_;have HO399 := n2_;have HO402 := n3_;have BK390 := n4_;have HB := n5_;clear n0_ n1_ n2_ n3_ n4_ n5_
 (try clear hb)
 skip
 skip
 skip
 (try clear ho0)
 obtain ⟨Ao17,co17,eo17⟩ := Kd.R_slice HO402.out
 (subst eo17)
 refine hK.out _ _ ⟨(blk_cell BK390.out 0).trans rfl,(blk_cell BK390.out 1).trans rfl,(blk_cell BK390.out 2).trans rfl,(blk_cell BK390.out 3).trans rfl,(blk_cell BK390.out 4).trans rfl⟩ (fun hHeld => ?_);clear hK K;refine norm_ (a' := ?_) ?_ ?_;rotate_left
 ·show Act.put _ (some 14) _ = _
  simp only [wf_preprocess];rfl
 refine one_ (i := 12) (N := some 17) #[true,true,true,true,true,true,true,true,true,true,true,true,true,true,true,true,false,false] rfl rfl (one_of HT_.out (by kernel_rfl)) (by decide) (fun K hK => ?_);refine goes_ Try.func94 (by kernel_rfl) rfl #[.slice Ao17 t400.length co17,.int .i64 a0_3] (by rfl) rfl rfl (by (try simp only [List.map_toArray,List.map_cons,List.map_nil]); rfl) ?_
 with_reducible refine (spec_PutNum.calls k _ _ t400 a0_3 t403 _ ?side1 ?side2 A5.out).mono ?_
 (case side1 => repeat (exact (Kd.R_reads' HO402.out).2.2))
 (case side2 => exact (Kd.R_reads' HO402.out).2.1)
 rintro e w18 ⟨v404,rfl,ho0,hb⟩;refine ⟨_,rfl,?_⟩;have n0_ := Aside0.mk (Kd.R_elder' (by exact HO393.out) (Kd.R_base ho0) hb);have n1_ := Aside0.mk (Kd.R_elder' (by exact HO396.out) (Kd.R_base ho0) hb);have n2_ := Aside0.mk (Kd.R_elder' (by exact HO399.out) (Kd.R_base ho0) hb);have n3_ := Aside0.mk (Kd.R_elder' (by exact HO402.out) (Kd.R_base ho0) hb);have n4_ := Aside0.mk (Kd.R_lower (Kd.R_new' (Kd.R_new' (Kd.R_new' (Kd.R_new' ho0 (Kd.R_lt (by exact HO393.out))) (Kd.R_lt (by exact HO396.out))) (Kd.R_lt (by exact HO399.out))) (Kd.R_lt (by exact HO402.out))) (below_size HB.out));have n5_ := Aside0.mk (blk_below (g := gb390) (o := .cells #[.string a0_0,.int .i64 a0_1,.int .i64 a0_2,.int .i64 a0_3,.slice A0_4 l0_4.length c0_4] 50 (0,0)) (by exact BK390.out) hb);have n6_ := Aside0.mk (below_step HB.out hb);clear HO393;clear HO396;clear HO399;clear HO402;clear BK390;clear HB;have HO393 := n0_;have HO396 := n1_;have HO399 := n2_;have HO402 := n3_;have HO405 := n4_;have BK390 := n5_;have HB := n6_;clear n0_ n1_ n2_ n3_ n4_ n5_ n6_
 (try clear hb)
 skip
 skip
 skip
 (try clear ho0)
 obtain ⟨Ao19,co19,eo19⟩ := Kd.R_slice HO405.out
 (subst eo19)
 refine hK.out _ _ ⟨(blk_cell BK390.out 0).trans rfl,(blk_cell BK390.out 1).trans rfl,(blk_cell BK390.out 2).trans rfl,(blk_cell BK390.out 3).trans rfl,(blk_cell BK390.out 4).trans rfl⟩ (fun hHeld => ?_);clear hK K;refine norm_ (a' := ?_) ?_ ?_;rotate_left
 ·show Act.put _ (some 17) _ = _
  simp only [wf_preprocess];rfl
 refine one_ (i := 16) (N := some 21) #[true,true,true,true,true,true,true,true,true,true,true,true,true,true,true,true,true,false] rfl rfl (one_of HT_.out (by kernel_rfl)) (by decide) (fun K hK => ?_);refine goes_ Try.func94 (by kernel_rfl) rfl #[.slice Ao19 t403.length co19,.int .i64 (l0_4.length : Int)] (by rfl) rfl rfl (by (try simp only [List.map_toArray,List.map_cons,List.map_nil]); rfl) ?_
 with_reducible refine (spec_PutNum.calls k _ _ t403 (l0_4.length : Int) t406 _ ?side1 ?side2 A6.out).mono ?_
 (case side1 => repeat (exact (Kd.R_reads' HO405.out).2.2))
 (case side2 => exact (Kd.R_reads' HO405.out).2.1)
 rintro e w20 ⟨v407,rfl,ho0,hb⟩;refine ⟨_,rfl,?_⟩;have n0_ := Aside0.mk (Kd.R_elder' (by exact HO393.out) (Kd.R_base ho0) hb);have n1_ := Aside0.mk (Kd.R_elder' (by exact HO396.out) (Kd.R_base ho0) hb);have n2_ := Aside0.mk (Kd.R_elder' (by exact HO399.out) (Kd.R_base ho0) hb);have n3_ := Aside0.mk (Kd.R_elder' (by exact HO402.out) (Kd.R_base ho0) hb);have n4_ := Aside0.mk (Kd.R_elder' (by exact HO405.out) (Kd.R_base ho0) hb);have n5_ := Aside0.mk (Kd.R_lower (Kd.R_new' (Kd.R_new' (Kd.R_new' (Kd.R_new' (Kd.R_new' ho0 (Kd.R_lt (by exact HO393.out))) (Kd.R_lt (by exact HO396.out))) (Kd.R_lt (by exact HO399.out))) (Kd.R_lt (by exact HO402.out))) (Kd.R_lt (by exact HO405.out))) (below_size HB.out));have n6_ := Aside0.mk (blk_below (g := gb390) (o := .cells #[.string a0_0,.int .i64 a0_1,.int .i64 a0_2,.int .i64 a0_3,.slice A0_4 l0_4.length c0_4] 50 (0,0)) (by exact BK390.out) hb);have n7_ := Aside0.mk (below_step HB.out hb);clear HO393;clear HO396;clear HO399;clear HO402;clear HO405;clear BK390;clear HB;have HO393 := n0_;have HO396 := n1_;have HO399 := n2_;have HO402 := n3_;have HO405 := n4_;have HO408 := n5_;have BK390 := n6_;have HB := n7_;clear n0_ n1_ n2_ n3_ n4_ n5_ n6_ n7_
 (try clear hb)
 skip
 skip
 skip
 (try clear ho0)
 refine hK.out _ _ ⟨(blk_cell BK390.out 0).trans rfl,(blk_cell BK390.out 1).trans rfl,(blk_cell BK390.out 2).trans rfl,(blk_cell BK390.out 3).trans rfl,(blk_cell BK390.out 4).trans rfl⟩ (fun hHeld => ?_);clear hK K;refine norm_ (a' := ?_) ?_ ?_;rotate_left
 ·show Act.put _ (some 21) _ = _
  simp only [wf_preprocess];rfl
 refine pure_ (i := 17) (N := some 3) (v := ?_) (a' := ?_) #[true,true,true,true,true,true,true,true,true,true,true,true,true,true,true,true,true,true] rfl rfl (any_of HT_.out (by kernel_rfl)) (fun _ _ _ h => h) (Or.inl ⟨by rfl,?_⟩) ?_ ?_;rotate_left
 ·intro w';go_simp;with_reducible rfl
 rotate_left
 ·simp only [wf_preprocess];rfl
 refine done_ (done_of HT_.out (by kernel_rfl)) ?_
 try go_wp2
 go_loopg [3,4] k (fun kq v3 v4 w' => ∃ (x3_1 : List Int) (x4_1 : Int),v4 = .int .i64 x4_1 ∧ Aside0 (spec_l6Text.l0 kq x3_1 x4_1 a0_0 a0_1 a0_2 a0_3 l0_4 = some r) ∧ Aside0 (kq ≤ k) ∧ Aside0 (Kd.R (Kd.int .u8) 5 w' w.heap.size (fun _ => True) v3 x3_1) ∧ Aside0 (w'.heap[gb390]? = some (.cells #[.string a0_0,.int .i64 a0_1,.int .i64 a0_2,.int .i64 a0_3,(.slice A0_4 l0_4.length c0_4)] 50 (0,0))) ∧ Aside0 (Below w.heap.size w w'))
 case atStart => exact ⟨(t406),(0),(by rfl),H',⟨Nat.le_refl _⟩,⟨by exact Kd.R_mono HO408.out (fun _ hk => trivial)⟩,⟨by exact BK390.out⟩,⟨HB.out⟩⟩
 case round =>
  clear H'
  try clear p2
  try clear c7
  try clear c9
  obtain ⟨x3_1,x4_1,rfl,HA,HK1,HO_3,BK390,HB⟩ := hrel
  cases gk with
  | zero => exact absurd HA.out (by simp [spec_l6Text.l0])
  | succ k1 =>
   have H := HA.out;clear HA;simp only [spec_l6Text.l0] at H
   by_cases c21 : x4_1 < (l0_4.length : Int)
   ·rw [if_pos c21] at H;have c21b0 : decide (x4_1 < (l0_4.length : Int)) = true := decide_eq_true c21;clear c21
    by_cases c22 : 0 ≤ x4_1
    ·rw [if_pos c22] at H;have c22b0 : decide (0 ≤ x4_1) = true := decide_eq_true c22;clear c22;replace H := Option.bind_eq_some_iff.mp H;obtain ⟨t410,A230,H⟩ := H;replace H : ((spec_PutNum.f k1 t410 ((rd_T54 l0_4 x4_1).f1)).bind fun t414 => (spec_l6Text.l0 k1 t414 (wrap64 (x4_1 + 1)) a0_0 a0_1 a0_2 a0_3 l0_4)) = some r := H;have A23 := Aside0.mk A230;clear A230;replace H := Option.bind_eq_some_iff.mp H;obtain ⟨t414,A240,H⟩ := H;replace H : (spec_l6Text.l0 k1 t414 (wrap64 (x4_1 + 1)) a0_0 a0_1 a0_2 a0_3 l0_4) = some r := H;have A24 := Aside0.mk A240;clear A240;have H' := Aside0.mk H;clear H;have hcz25_0 : wr.cell? ⟨gb390,0,none⟩ = some (.string a0_0) := (blk_cell BK390.out 0).trans rfl;have hcz25_1 : wr.cell? ⟨gb390,1,none⟩ = some (.int .i64 a0_1) := (blk_cell BK390.out 1).trans rfl;have hcz25_2 : wr.cell? ⟨gb390,2,none⟩ = some (.int .i64 a0_2) := (blk_cell BK390.out 2).trans rfl;have hcz25_3 : wr.cell? ⟨gb390,3,none⟩ = some (.int .i64 a0_3) := (blk_cell BK390.out 3).trans rfl;have hcz25_4 : wr.cell? ⟨gb390,4,none⟩ = some (.slice A0_4 l0_4.length c0_4) := (blk_cell BK390.out 4).trans rfl;have hfz25_0 := blk_frozen BK390.out 0;have hfz25_1 := blk_frozen BK390.out 1;have hfz25_2 := blk_frozen BK390.out 2;have hfz25_3 := blk_frozen BK390.out 3;have hfz25_4 := blk_frozen BK390.out 4
     try go_wp2
     have n0_ := Aside0.mk (Kd.R_drew HO_3.out);have n1_ := Aside0.mk (blk_drew BK390.out);have n2_ := Aside0.mk (below_drew1 HB.out);clear HO_3;clear BK390;clear HB;have HO_3 := n0_;have BK390 := n1_;have HB := n2_;clear n0_ n1_ n2_;have p409 : 0 ≤ (x4_1 : Int) := of_decide_eq_true (by (with_reducible assumption));have q409 : x4_1 < (l0_4.length : Int) := of_decide_eq_true (by (with_reducible assumption));obtain ⟨ad409,e409,hx409_0,hx409_1⟩ := at_T54 HR0_4.out x4_1 p409 q409;have hw409_1 := hx409_1;have hw409_0 := hx409_0
     cases e409
     replace hx409_0 := (HB.out.cell (World.block_lt_of_cell? w _ hx409_0)).trans hx409_0;replace hx409_1 := (HB.out.cell (World.block_lt_of_cell? w _ hx409_1)).trans hx409_1;replace p409 := eq_true p409;replace q409 := eq_true q409;have p413 : 0 ≤ (x4_1 : Int) := of_decide_eq_true (by (with_reducible assumption));have q413 : x4_1 < (l0_4.length : Int) := of_decide_eq_true (by (with_reducible assumption));obtain ⟨ad413,e413,hx413_0,hx413_1⟩ := at_T54 HR0_4.out x4_1 p413 q413;have hw413_1 := hx413_1;have hw413_0 := hx413_0;obtain rfl : ad409 = ad413 := (by injection e413);replace hx413_0 := (HB.out.cell (World.block_lt_of_cell? w _ hx413_0)).trans hx413_0;replace hx413_1 := (HB.out.cell (World.block_lt_of_cell? w _ hx413_1)).trans hx413_1;replace p413 := eq_true p413;replace q413 := eq_true q413;obtain ⟨Ao27,co27,eo27⟩ := Kd.R_slice HO_3.out
     (subst eo27)
     refine start_ (n := 16) (S := fun w' => w'.cell? ⟨gb390,0,none⟩ = some (.string a0_0) ∧ w'.cell? ⟨gb390,1,none⟩ = some (.int .i64 a0_1) ∧ w'.cell? ⟨gb390,2,none⟩ = some (.int .i64 a0_2) ∧ w'.cell? ⟨gb390,3,none⟩ = some (.int .i64 a0_3) ∧ w'.cell? ⟨gb390,4,none⟩ = some (.slice (some ad409) l0_4.length c0_4) ∧ w'.cell? (ad409.add ((x4_1).toNat * 2)) = some (.int .i64 ((rd_T54 l0_4 x4_1).f0)) ∧ w'.cell? ⟨(ad409.add ((x4_1).toNat * 2)).block,(ad409.add ((x4_1).toNat * 2)).off + 1,none⟩ = some (.int .i64 ((rd_T54 l0_4 x4_1).f1)) ∧ w'.cell? (ad409.add ((x4_1).toNat * 2)) = some (.int .i64 ((rd_T54 l0_4 x4_1).f0)) ∧ w'.cell? ⟨(ad409.add ((x4_1).toNat * 2)).block,(ad409.add ((x4_1).toNat * 2)).off + 1,none⟩ = some (.int .i64 ((rd_T54 l0_4 x4_1).f1))) (ds := []) #[false,false,false,false,false,false,false,false,false,false,false,false,false,false,false,false] (by kernel_rfl) rfl rfl ⟨(blk_cell BK390.out 0).trans rfl,(blk_cell BK390.out 1).trans rfl,(blk_cell BK390.out 2).trans rfl,(blk_cell BK390.out 3).trans rfl,(blk_cell BK390.out 4).trans rfl,((HB.out.cell (World.block_lt_of_cell? w _ hw409_0)).trans hw409_0),((HB.out.cell (World.block_lt_of_cell? w _ hw409_1)).trans hw409_1),((HB.out.cell (World.block_lt_of_cell? w _ hw413_0)).trans hw413_0),((HB.out.cell (World.block_lt_of_cell? w _ hw413_1)).trans hw413_1)⟩ (fun hHeld => ?_); refine with_tabW spec_l6Text.tab5 spec_l6Text.bits5 (fun HT_ HW_ => ?_)
     generalize wr.drew = w26 at HO_3 BK390 HB hx409_0 hx409_1 hx413_0 hx413_1 hHeld ⊢
     refine pure_ (i := 0) (N := some 29) (v := ?_) (a' := ?_) #[true,false,false,false,false,false,false,false,false,false,false,false,false,false,false,false] rfl rfl (any_of HT_.out (by kernel_rfl)) (fun _ _ _ h => h) (Or.inl ⟨by rfl,?_⟩) ?_ ?_;rotate_left
     ·intro w';go_simp;with_reducible rfl
     rotate_left
     ·simp only [wf_preprocess];rfl
     refine pure_ (i := 1) (N := some 30) (v := ?_) (a' := ?_) #[true,true,false,false,false,false,false,false,false,false,false,false,false,false,false,false] rfl rfl (any_of HT_.out (by kernel_rfl)) (fun _ _ _ h => h) (Or.inl ⟨by rfl,?_⟩) ?_ ?_;rotate_left
     ·intro w';go_simp;with_reducible rfl
     rotate_left
     ·simp only [wf_preprocess];rfl
     refine pure_ (i := 3) (N := some 32) (v := ?_) (a' := ?_) #[true,true,false,true,false,false,false,false,false,false,false,false,false,false,false,false] rfl rfl (any_of HT_.out (by kernel_rfl)) (fun _ _ _ h => h) (Or.inl ⟨by rfl,?_⟩) ?_ ?_;rotate_left
     ·intro w';go_simp;with_reducible rfl
     rotate_left
     ·simp only [wf_preprocess];rfl
     refine pure_ (i := 8) (N := some 37) (v := ?_) (a' := ?_) #[true,true,false,true,false,false,false,false,true,false,false,false,false,false,false,false] rfl rfl (any_of HT_.out (by kernel_rfl)) (fun _ _ _ h => h) (Or.inl ⟨by rfl,?_⟩) ?_ ?_;rotate_left
     ·intro w';go_simp;with_reducible rfl
     rotate_left
     ·simp only [wf_preprocess];rfl
     refine pure_ (i := 10) (N := some 39) (v := ?_) (a' := ?_) #[true,true,false,true,false,false,false,false,true,false,true,false,false,false,false,false] rfl rfl (any_of HT_.out (by kernel_rfl)) (fun _ _ _ h => h) (Or.inl ⟨by rfl,?_⟩) ?_ ?_;rotate_left
     ·intro w';go_simp;with_reducible rfl
     rotate_left
     ·simp only [wf_preprocess];rfl
     refine take_ (i := 2) (N := some 31) (v := ?_) (a' := ?_) #[true,true,true,true,false,false,false,false,true,false,true,false,false,false,false,false] rfl rfl (take_ofW HT_.out HW_.out (by kernel_rfl)) (fun _ _ _ h => h) (Or.inl ⟨by rfl,?_⟩) hHeld ?_ ?_;rotate_left
     ·rintro w' ⟨s0,s1,s2,s3,s4,s5,s6,s7,s8⟩;go_simp;with_reducible rfl
     rotate_left
     ·simp only [wf_preprocess];rfl
     refine pure_ (i := 4) (N := some 33) (v := ?_) (a' := ?_) #[true,true,true,true,true,false,false,false,true,false,true,false,false,false,false,false] rfl rfl (any_of HT_.out (by kernel_rfl)) (fun _ _ _ h => h) (Or.inl ⟨by rfl,?_⟩) ?_ ?_;rotate_left
     ·intro w';go_simp;with_reducible rfl
     rotate_left
     ·simp only [wf_preprocess];rfl
     refine pure_ (i := 5) (N := some 34) (v := ?_) (a' := ?_) #[true,true,true,true,true,true,false,false,true,false,true,false,false,false,false,false] rfl rfl (any_of HT_.out (by kernel_rfl)) (fun _ _ _ h => h) (Or.inl ⟨by rfl,?_⟩) ?_ ?_;rotate_left
     ·intro w';go_simp;with_reducible rfl
     rotate_left
     ·simp only [wf_preprocess];rfl
     refine take_ (i := 6) (N := some 35) (v := ?_) (a' := ?_) #[true,true,true,true,true,true,true,false,true,false,true,false,false,false,false,false] rfl rfl (take_ofW HT_.out HW_.out (by kernel_rfl)) (fun _ _ _ h => h) (Or.inl ⟨by rfl,?_⟩) hHeld ?_ ?_;rotate_left
     ·rintro w' ⟨s0,s1,s2,s3,s4,s5,s6,s7,s8⟩;go_simp;with_reducible rfl
     rotate_left
     ·simp only [wf_preprocess];rfl
     refine take_ (i := 9) (N := some 38) (v := ?_) (a' := ?_) #[true,true,true,true,true,true,true,false,true,true,true,false,false,false,false,false] rfl rfl (take_ofW HT_.out HW_.out (by kernel_rfl)) (fun _ _ _ h => h) (Or.inl ⟨by rfl,?_⟩) hHeld ?_ ?_;rotate_left
     ·rintro w' ⟨s0,s1,s2,s3,s4,s5,s6,s7,s8⟩;go_simp;with_reducible rfl
     rotate_left
     ·simp only [wf_preprocess];rfl
     refine pure_ (i := 11) (N := some 40) (v := ?_) (a' := ?_) #[true,true,true,true,true,true,true,false,true,true,true,true,false,false,false,false] rfl rfl (any_of HT_.out (by kernel_rfl)) (fun _ _ _ h => h) (Or.inl ⟨by rfl,?_⟩) ?_ ?_;rotate_left
     ·intro w';go_simp;with_reducible rfl
     rotate_left
     ·simp only [wf_preprocess];rfl
     refine pure_ (i := 12) (N := some 41) (v := ?_) (a' := ?_) #[true,true,true,true,true,true,true,false,true,true,true,true,true,false,false,false] rfl rfl (any_of HT_.out (by kernel_rfl)) (fun _ _ _ h => h) (Or.inl ⟨by rfl,?_⟩) ?_ ?_;rotate_left
     ·intro w';go_simp;with_reducible rfl
     rotate_left
     ·simp only [wf_preprocess];rfl
     refine take_ (i := 13) (N := some 42) (v := ?_) (a' := ?_) #[true,true,true,true,true,true,true,false,true,true,true,true,true,true,false,false] rfl rfl (take_ofW HT_.out HW_.out (by kernel_rfl)) (fun _ _ _ h => h) (Or.inl ⟨by rfl,?_⟩) hHeld ?_ ?_;rotate_left
     ·rintro w' ⟨s0,s1,s2,s3,s4,s5,s6,s7,s8⟩;go_simp;with_reducible rfl
     rotate_left
     ·simp only [wf_preprocess];rfl
     refine one_ (i := 7) (N := some 36) #[true,true,true,true,true,true,true,true,true,true,true,true,true,true,false,false] rfl rfl (one_of HT_.out (by kernel_rfl)) (by decide) (fun K hK => ?_);refine goes_ Try.func94 (by kernel_rfl) rfl #[.slice Ao27 x3_1.length co27,.int .i64 ((rd_T54 l0_4 x4_1).f0)] (by rfl) rfl rfl (by (try simp only [List.map_toArray,List.map_cons,List.map_nil]); rfl) ?_
     with_reducible refine (spec_PutNum.calls k1 _ _ x3_1 ((rd_T54 l0_4 x4_1).f0) t410 _ ?side1 ?side2 A23.out).mono ?_
     (case side1 => repeat (exact (Kd.R_reads' HO_3.out).2.2))
     (case side2 => exact (Kd.R_reads' HO_3.out).2.1)
     rintro e w28 ⟨v411,rfl,ho0,hb⟩;refine ⟨_,rfl,?_⟩;have n0_ := Aside0.mk (Kd.R_elder' (by exact HO_3.out) (Kd.R_base ho0) hb);have n1_ := Aside0.mk (Kd.R_lower (Kd.R_new' ho0 (Kd.R_lt (by exact HO_3.out))) (below_size HB.out));have n2_ := Aside0.mk (blk_below (g := gb390) (o := .cells #[.string a0_0,.int .i64 a0_1,.int .i64 a0_2,.int .i64 a0_3,.slice (some ad409) l0_4.length c0_4] 50 (0,0)) (by exact BK390.out) hb);have n3_ := Aside0.mk (below_step HB.out hb);clear HO_3;clear BK390;clear HB;have HO_3 := n0_;have HO412 := n1_;have BK390 := n2_;have HB := n3_;clear n0_ n1_ n2_ n3_
     (try clear hb)
     skip
     skip
     skip
     (try clear ho0)
     obtain ⟨Ao29,co29,eo29⟩ := Kd.R_slice HO412.out
     (subst eo29)
     refine hK.out _ _ ⟨(blk_cell BK390.out 0).trans rfl,(blk_cell BK390.out 1).trans rfl,(blk_cell BK390.out 2).trans rfl,(blk_cell BK390.out 3).trans rfl,(blk_cell BK390.out 4).trans rfl,((HB.out.cell (World.block_lt_of_cell? w _ hw409_0)).trans hw409_0),((HB.out.cell (World.block_lt_of_cell? w _ hw409_1)).trans hw409_1),((HB.out.cell (World.block_lt_of_cell? w _ hw413_0)).trans hw413_0),((HB.out.cell (World.block_lt_of_cell? w _ hw413_1)).trans hw413_1)⟩ (fun hHeld => ?_);clear hK K;refine norm_ (a' := ?_) ?_ ?_;rotate_left
     ·show Act.put _ (some 36) _ = _
      simp only [wf_preprocess];rfl
     refine one_ (i := 14) (N := some 43) #[true,true,true,true,true,true,true,true,true,true,true,true,true,true,true,false] rfl rfl (one_of HT_.out (by kernel_rfl)) (by decide) (fun K hK => ?_);refine goes_ Try.func94 (by kernel_rfl) rfl #[.slice Ao29 t410.length co29,.int .i64 ((rd_T54 l0_4 x4_1).f1)] (by rfl) rfl rfl (by (try simp only [List.map_toArray,List.map_cons,List.map_nil]); rfl) ?_
     with_reducible refine (spec_PutNum.calls k1 _ _ t410 ((rd_T54 l0_4 x4_1).f1) t414 _ ?side1 ?side2 A24.out).mono ?_
     (case side1 => repeat (exact (Kd.R_reads' HO412.out).2.2))
     (case side2 => exact (Kd.R_reads' HO412.out).2.1)
     rintro e w30 ⟨v415,rfl,ho0,hb⟩;refine ⟨_,rfl,?_⟩;have n0_ := Aside0.mk (Kd.R_elder' (by exact HO_3.out) (Kd.R_base ho0) hb);have n1_ := Aside0.mk (Kd.R_elder' (by exact HO412.out) (Kd.R_base ho0) hb);have n2_ := Aside0.mk (Kd.R_lower (Kd.R_new' (Kd.R_new' ho0 (Kd.R_lt (by exact HO_3.out))) (Kd.R_lt (by exact HO412.out))) (below_size HB.out));have n3_ := Aside0.mk (blk_below (g := gb390) (o := .cells #[.string a0_0,.int .i64 a0_1,.int .i64 a0_2,.int .i64 a0_3,.slice (some ad409) l0_4.length c0_4] 50 (0,0)) (by exact BK390.out) hb);have n4_ := Aside0.mk (below_step HB.out hb);clear HO_3;clear HO412;clear BK390;clear HB;have HO_3 := n0_;have HO412 := n1_;have HO416 := n2_;have BK390 := n3_;have HB := n4_;clear n0_ n1_ n2_ n3_ n4_
     (try clear hb)
     skip
     skip
     skip
     (try clear ho0)
     refine hK.out _ _ ⟨(blk_cell BK390.out 0).trans rfl,(blk_cell BK390.out 1).trans rfl,(blk_cell BK390.out 2).trans rfl,(blk_cell BK390.out 3).trans rfl,(blk_cell BK390.out 4).trans rfl,((HB.out.cell (World.block_lt_of_cell? w _ hw409_0)).trans hw409_0),((HB.out.cell (World.block_lt_of_cell? w _ hw409_1)).trans hw409_1),((HB.out.cell (World.block_lt_of_cell? w _ hw413_0)).trans hw413_0),((HB.out.cell (World.block_lt_of_cell? w _ hw413_1)).trans hw413_1)⟩ (fun hHeld => ?_);clear hK K;refine norm_ (a' := ?_) ?_ ?_;rotate_left
     ·show Act.put _ (some 43) _ = _
      simp only [wf_preprocess];rfl
     refine pure_ (i := 15) (N := some 3) (v := ?_) (a' := ?_) #[true,true,true,true,true,true,true,true,true,true,true,true,true,true,true,true] rfl rfl (any_of HT_.out (by kernel_rfl)) (fun _ _ _ h => h) (Or.inl ⟨by rfl,?_⟩) ?_ ?_;rotate_left
     ·intro w';go_simp;with_reducible rfl
     rotate_left
     ·simp only [wf_preprocess];rfl
     refine done_ (done_of HT_.out (by kernel_rfl)) ?_
     try go_wp2
     go_roundg k1
     case measure => have := HK1.out; omega
     case rel => exact ⟨(t414),(wrap64 (x4_1 + 1)),(by rfl),H',⟨by have := HK1.out; omega⟩,⟨by exact Kd.R_mono HO416.out (fun _ hk => trivial)⟩,⟨by exact BK390.out⟩,⟨HB.out⟩⟩
    ·rw [if_neg c22] at H;exact absurd H (by simp)
   ·rw [if_neg c21] at H;have c21b0 : decide (x4_1 < (l0_4.length : Int)) = false := decide_eq_false c21;clear c21;obtain rfl := Option.some.inj H;have hcz31_0 : wr.cell? ⟨gb390,0,none⟩ = some (.string a0_0) := (blk_cell BK390.out 0).trans rfl;have hcz31_1 : wr.cell? ⟨gb390,1,none⟩ = some (.int .i64 a0_1) := (blk_cell BK390.out 1).trans rfl;have hcz31_2 : wr.cell? ⟨gb390,2,none⟩ = some (.int .i64 a0_2) := (blk_cell BK390.out 2).trans rfl;have hcz31_3 : wr.cell? ⟨gb390,3,none⟩ = some (.int .i64 a0_3) := (blk_cell BK390.out 3).trans rfl;have hcz31_4 : wr.cell? ⟨gb390,4,none⟩ = some (.slice A0_4 l0_4.length c0_4) := (blk_cell BK390.out 4).trans rfl;have hfz31_0 := blk_frozen BK390.out 0;have hfz31_1 := blk_frozen BK390.out 1;have hfz31_2 := blk_frozen BK390.out 2;have hfz31_3 := blk_frozen BK390.out 3;have hfz31_4 := blk_frozen BK390.out 4;have hcv32 := own_string (P := Try.prog) Try.underlying22 Try.underlying5 Try.underlying9 (Kd.own_of_R HO_3.out);go_wp2;go_ret;exact ⟨by rfl,HB.out⟩

/-! ### spec_StateRoot: function 44 -/
def spec_StateRoot.l0 : Nat → List ByteArray → Int → Int → List (S50) → Option (ByteArray)
 | 0,_,_,_,_ => none
 | k + 1,x3,x4,x418000,x418001 => if x4 < (x418001.length : Int) then (if 0 ≤ x4 then ((spec_l6Text.f k ((rd_T50 x418001 x4).f0) ((rd_T50 x418001 x4).f1) ((rd_T50 x418001 x4).f2) ((rd_T50 x418001 x4).f3) ((rd_T50 x418001 x4).f4)).bind fun t423 => (if x3.length < 8796093022208 then (spec_StateRoot.l0 k (x3 ++ [t423]) (wrap64 (x4 + 1)) x418000 x418001) else (none))) else (none)) else ((spec_RootOf.f k x3).bind fun t427 => (some t427))
def spec_StateRoot.f (k : Nat) (a0_0 : Int) (l0_1 : List (S50)) : Option (ByteArray) := (spec_LedgerOk.f k a0_0 l0_1).bind fun t418 => (if t418 = true then (spec_StateRoot.l0 k ([] : List ByteArray) 0 a0_0 l0_1) else (some (⟨#[]⟩ : ByteArray)))
theorem spec_StateRoot.mono_l : ∀ k,(∀ y0 y1 y2 y3,LeO (spec_StateRoot.l0 k y0 y1 y2 y3) (spec_StateRoot.l0 (k + 1) y0 y1 y2 y3))
 | 0 => fun _ _ _ _ r h => by simp [spec_StateRoot.l0] at h
 | k + 1 => by
  have ih0 := spec_StateRoot.mono_l k
  ·intro y0 y1 y2 y3;unfold spec_StateRoot.l0
   repeat' first
   | (with_reducible exact ih0 _ _ _ _)
   | (with_reducible exact spec_LedgerOk.mono _ _ _)
   | (with_reducible exact spec_RootOf.mono _ _)
   | (with_reducible exact spec_l6Text.mono _ _ _ _ _ _)
   | (with_reducible exact LeO.refl _)
   | (with_reducible exact LeO.none _)
   | (with_reducible refine LeO.ite ?_ ?_)
   | (with_reducible refine LeO.bind ?_ (fun _ => ?_))
   | exact ih0 _ _ _ _
   | exact spec_LedgerOk.mono _ _ _
   | exact spec_RootOf.mono _ _
   | exact spec_l6Text.mono _ _ _ _ _ _
   | exact LeO.none _
theorem spec_StateRoot.mono : ∀ a0 a1 k,LeO (spec_StateRoot.f k a0 a1) (spec_StateRoot.f (k + 1) a0 a1) := by
 intro a0 a1 k;have ih0 := spec_StateRoot.mono_l k;unfold spec_StateRoot.f
 repeat' first
   | (with_reducible exact ih0 _ _ _ _)
   | (with_reducible exact spec_LedgerOk.mono _ _ _)
   | (with_reducible exact spec_RootOf.mono _ _)
   | (with_reducible exact spec_l6Text.mono _ _ _ _ _ _)
   | (with_reducible exact LeO.refl _)
   | (with_reducible exact LeO.none _)
   | (with_reducible refine LeO.ite ?_ ?_)
   | (with_reducible refine LeO.bind ?_ (fun _ => ?_))
   | exact ih0 _ _ _ _
   | exact spec_LedgerOk.mono _ _ _
   | exact spec_RootOf.mono _ _
   | exact spec_l6Text.mono _ _ _ _ _ _
   | exact LeO.none _
set_option maxHeartbeats 8000000 in
set_option maxRecDepth 100000 in
theorem spec_StateRoot.calls (k : Nat) (a0_0 : Int) (A0_1 : Option Addr) (c0_1 : Nat) (l0_1 : List (S50)) (r : ByteArray) (w : World) (hr0_1 : Kd.C k50 w A0_1 l0_1.length l0_1) (hc0_1 : l0_1.length ≤ c0_1) (h : spec_StateRoot.f k a0_0 l0_1 = some r) :
  Calls Try.prog 44 #[.agg #[.int .i64 a0_0,.slice A0_1 l0_1.length c0_1]] w fun e w' => e = .returned (.string r) ∧ Below w.heap.size w w' := by
 have hu44 := Try.underlying44;have hu50 := Try.underlying50;have HR0_1 := Aside0.mk hr0_1;have HC0_1 := Aside0.mk hc0_1;clear hr0_1 hc0_1;have HB := Aside0.mk (Below.refl w.heap.size w);have H : ((spec_LedgerOk.f k a0_0 l0_1).bind fun t418 => (if t418 = true then (spec_StateRoot.l0 k ([] : List ByteArray) 0 a0_0 l0_1) else (some (⟨#[]⟩ : ByteArray)))) = some r := h;clear h;replace H := Option.bind_eq_some_iff.mp H;obtain ⟨t418,A20,H⟩ := H;replace H : (if t418 = true then (spec_StateRoot.l0 k ([] : List ByteArray) 0 a0_0 l0_1) else (some (⟨#[]⟩ : ByteArray))) = some r := H;have A2 := Aside0.mk A20;clear A20
 by_cases c3 : t418 = true
 ·subst c3
  have H1 : (spec_StateRoot.l0 k ([] : List ByteArray) 0 a0_0 l0_1) = some r := by rw [if_pos rfl] at H; exact H
  clear H;have H := H1;clear H1;obtain ⟨y419,hy419⟩ : ∃ y_ : List ByteArray,y_ = ([] : List ByteArray) := ⟨_,rfl⟩
  replace H : (spec_StateRoot.l0 k y419 0 a0_0 l0_1) = some r := by (rw [hy419]; with_reducible exact H)
  have Ny419 := Aside0.mk hy419;clear hy419;have H' := Aside0.mk H;clear H;go_enter Try.func44,Try.ntmps44
  go_wp2_with (first | ((with_reducible refine gate_dst (N := 1) rfl ?_); refine box_event ?hg (N := 1) ?hd (cs := #[.int .i64 a0_0,.slice A0_1 l0_1.length c0_1]) (t := 44) ?hr ?_; (case hd => rfl); (case hg => rfl); (case hr => (go_simp; done)); intro gb417 hg w4 hbox hb; have n0_ := Aside0.mk (below_step HB.out hb); have n1_ := Aside0.mk (hbox); have n2_ := Aside0.mk (by rw [hg]; exact (below_size HB.out) : w.heap.size ≤ gb417); have n3_ := Aside0.mk (by rw [hg]; exact (below_size HB.out) : w.heap.size ≤ gb417); clear HB; have HB := n0_; have BK417 := n1_; have GW417 := n2_; have GE417 := n3_; clear n0_ n1_ n2_ n3_; clear hb hbox hg; have hcz5_0 : w4.cell? ⟨gb417,0,none⟩ = some (.int .i64 a0_0) := (blk_cell BK417.out 0).trans rfl; have hcz5_1 : w4.cell? ⟨gb417,1,none⟩ = some (.slice A0_1 l0_1.length c0_1) := (blk_cell BK417.out 1).trans rfl; have hfz5_0 := blk_frozen BK417.out 0; have hfz5_1 := blk_frozen BK417.out 1) | ((with_reducible refine gate_callee (f := 39) rfl ?_); refine goesL_ (some 6) rfl rfl Try.func39 (by kernel_rfl) rfl #[.agg #[.int .i64 a0_0,.slice A0_1 l0_1.length c0_1]] rfl (by (try simp only [List.map_toArray,List.map_cons,List.map_nil]); rfl) ?_; (with_reducible refine (spec_LedgerOk.calls k a0_0 _ _ l0_1 true _ ?side1 ?side2 A2.out).mono ?_); (case side1 => repeat (exact (Kd.C_below HR0_1.out HB.out))); (case side2 => exact HC0_1.out); rintro e w6 ⟨rfl,hb⟩; refine ⟨_,rfl,?_⟩; have n0_ := Aside0.mk (blk_below (g := gb417) (o := .cells #[.int .i64 a0_0,.slice A0_1 l0_1.length c0_1] 44 (0,0)) (by exact BK417.out) hb); have n1_ := Aside0.mk (below_step HB.out hb); clear BK417; clear HB; have BK417 := n0_; have HB := n1_; clear n0_ n1_; (try clear hb); skip) | ((with_reducible refine gate_dst (N := 8) rfl ?_); refine Kd.R_lit Kd.string _ 9 ?hg (N := 8) ?hd (xs := ([] : List ByteArray)) (inner := []) (ok := fun _ => True) (okp := fun _ => True) ?hr ?hp (fun _ hk => hk) trivial (Below.refl _ _) (Nat.le_refl _) (by simp) ?_; (case hd => rfl); (case hg => rfl); (case hr => (go_simp; done)); (case hp => exact (Reps.none _ _)); intro v420 w7 ho8 hb hg_ hnew_; clear hg_ hnew_; (rw [← Ny419.out] at ho8); have n0_ := Aside0.mk (Kd.R_lower ho8 (below_size HB.out)); have n1_ := Aside0.mk (blk_below (g := gb417) (o := .cells #[.int .i64 a0_0,.slice A0_1 l0_1.length c0_1] 44 (0,0)) (by exact BK417.out) hb); have n2_ := Aside0.mk (below_step HB.out hb); clear BK417; clear HB; have HO421 := n0_; have BK417 := n1_; have HB := n2_; clear n0_ n1_ n2_; clear hb ho8))
  go_loopg [3,4] k (fun kq v3 v4 w' => ∃ (x3_1 : List ByteArray) (x4_1 : Int),v4 = .int .i64 x4_1 ∧ Aside0 (spec_StateRoot.l0 kq x3_1 x4_1 a0_0 l0_1 = some r) ∧ Aside0 (kq ≤ k) ∧ Aside0 (Kd.R Kd.string 9 w' w.heap.size (fun _ => True) v3 x3_1) ∧ Aside0 (w'.heap[gb417]? = some (.cells #[.int .i64 a0_0,(.slice A0_1 l0_1.length c0_1)] 44 (0,0))) ∧ Aside0 (Below w.heap.size w w'))
  case atStart => exact ⟨(y419),(0),(by rfl),H',⟨Nat.le_refl _⟩,⟨by exact HO421.out⟩,⟨by exact BK417.out⟩,⟨HB.out⟩⟩
  case round =>
   clear H'
   try clear p2
   try clear c3
   try clear c4
   try clear hcz5_0
   try clear hcz5_1
   try clear hfz5_0
   try clear hfz5_1
   obtain ⟨x3_1,x4_1,rfl,HA,HK1,HO_3,BK417,HB⟩ := hrel
   cases gk with
   | zero => exact absurd HA.out (by simp [spec_StateRoot.l0])
   | succ k1 =>
    have H := HA.out;clear HA;simp only [spec_StateRoot.l0] at H
    by_cases c9 : x4_1 < (l0_1.length : Int)
    ·rw [if_pos c9] at H;have c9b0 : decide (x4_1 < (l0_1.length : Int)) = true := decide_eq_true c9;clear c9
     by_cases c10 : 0 ≤ x4_1
     ·rw [if_pos c10] at H;have c10b0 : decide (0 ≤ x4_1) = true := decide_eq_true c10;clear c10;replace H := Option.bind_eq_some_iff.mp H;obtain ⟨t423,A110,H⟩ := H;replace H : (if x3_1.length < 8796093022208 then (spec_StateRoot.l0 k1 (x3_1 ++ [t423]) (wrap64 (x4_1 + 1)) a0_0 l0_1) else (none)) = some r := H;have A11 := Aside0.mk A110;clear A110
      by_cases c12 : x3_1.length < 8796093022208
      ·rw [if_pos c12] at H;have LMc12 := Aside0.mk c12;clear c12;obtain ⟨y424,hy424⟩ : ∃ y_ : List ByteArray,y_ = (x3_1 ++ [t423]) := ⟨_,rfl⟩
       replace H : (spec_StateRoot.l0 k1 y424 (wrap64 (x4_1 + 1)) a0_0 l0_1) = some r := by (rw [hy424]; with_reducible exact H)
       have Ny424 := Aside0.mk hy424;clear hy424;have H' := Aside0.mk H;clear H;have hcz13_0 : wr.cell? ⟨gb417,0,none⟩ = some (.int .i64 a0_0) := (blk_cell BK417.out 0).trans rfl;have hcz13_1 : wr.cell? ⟨gb417,1,none⟩ = some (.slice A0_1 l0_1.length c0_1) := (blk_cell BK417.out 1).trans rfl;have hfz13_0 := blk_frozen BK417.out 0;have hfz13_1 := blk_frozen BK417.out 1;have p422 : 0 ≤ (x4_1 : Int) := of_decide_eq_true (by (with_reducible assumption));have q422 : x4_1 < (l0_1.length : Int) := of_decide_eq_true (by (with_reducible assumption));obtain ⟨ad422,A422_4,c422_4,e422,hx422_0,hx422_1,hx422_2,hx422_3,hx422_4,hl422_4,hi422_4⟩ := at_T50 HR0_1.out x4_1 p422 q422
       cases e422
       replace hx422_0 := (HB.out.cell (World.block_lt_of_cell? w _ hx422_0)).trans hx422_0;replace hx422_1 := (HB.out.cell (World.block_lt_of_cell? w _ hx422_1)).trans hx422_1;replace hx422_2 := (HB.out.cell (World.block_lt_of_cell? w _ hx422_2)).trans hx422_2;replace hx422_3 := (HB.out.cell (World.block_lt_of_cell? w _ hx422_3)).trans hx422_3;replace hx422_4 := (HB.out.cell (World.block_lt_of_cell? w _ hx422_4)).trans hx422_4;have HR422_4 := Aside0.mk hi422_4;have HC422_4 := Aside0.mk hl422_4;clear hi422_4 hl422_4;replace p422 := eq_true p422;replace q422 := eq_true q422
       go_wp2_with (first | ((with_reducible refine gate_callee (f := 73) rfl ?_); refine goesL_ (some 22) rfl rfl Try.func73 (by kernel_rfl) rfl #[.agg #[.string ((rd_T50 l0_1 x4_1).f0),.int .i64 ((rd_T50 l0_1 x4_1).f1),.int .i64 ((rd_T50 l0_1 x4_1).f2),.int .i64 ((rd_T50 l0_1 x4_1).f3),.slice A422_4 ((rd_T50 l0_1 x4_1).f4).length c422_4]] rfl (by (try simp only [List.map_toArray,List.map_cons,List.map_nil]); rfl) ?_; (with_reducible refine (spec_l6Text.calls k1 ((rd_T50 l0_1 x4_1).f0) ((rd_T50 l0_1 x4_1).f1) ((rd_T50 l0_1 x4_1).f2) ((rd_T50 l0_1 x4_1).f3) _ _ ((rd_T50 l0_1 x4_1).f4) t423 _ ?side1 ?side2 A11.out).mono ?_); (case side1 => repeat (exact (Kd.C_below HR422_4.out HB.out))); (case side2 => exact HC422_4.out); rintro e w14 ⟨rfl,hb⟩; refine ⟨_,rfl,?_⟩; have n0_ := Aside0.mk (Kd.R_below (by exact HO_3.out) hb); have n1_ := Aside0.mk (blk_below (g := gb417) (o := .cells #[.int .i64 a0_0,.slice (some ad422) l0_1.length c0_1] 44 (0,0)) (by exact BK417.out) hb); have n2_ := Aside0.mk (below_step HB.out hb); clear HO_3; clear BK417; clear HB; have HO_3 := n0_; have BK417 := n1_; have HB := n2_; clear n0_ n1_ n2_; (try clear hb); skip) | ((with_reducible refine gate_builtin (b := .append) (xs := #[.tmp 16,.tmp 23]) rfl ?_); at_builtin; refine Kd.R_append Kd.string (w0 := w) w.heap.size rfl (.tmp 16) (.tmp 23) 24 9 (.string ⟨#[]⟩) 16 rfl Try.underlying24 info9 rfl (by decide) (by omega) u3 x3_1 t423 [.string t423] (fun _ => True) (fun _ => False) rfl rfl ?aP (fun _ hk => hk.elim) ?aF ?aO ?aB ?aS ?aL ?_; (case aP => exact rfl); (case aB => exact HB.out); (case aF => exact (fun _ _ => trivial)); (case aO => exact (by exact HO_3.out)); (case aS => exact (below_size HB.out)); (case aL => have := LMc12.out; omega); intro v425 w15 ho hb hg hat; rw [← Ny424.out] at ho; have n0_ := Aside0.mk (blk_grown (g := gb417) (o := .cells #[.int .i64 a0_0,.slice (some ad422) l0_1.length c0_1] 44 (0,0)) (by exact BK417.out) hg (Kd.R_ne HO_3.out BK417.out (by decide))); have n1_ := Aside0.mk (hb); have n2_ := Aside0.mk (ho); clear BK417; clear HB; clear HO_3; have BK417 := n0_; have HB := n1_; have HO426 := n2_; clear n0_ n1_ n2_; clear ho hb hg hat))
       go_roundg k1
       case measure => have := HK1.out; omega
       case rel => exact ⟨(y424),(wrap64 (x4_1 + 1)),(by rfl),H',⟨by have := HK1.out; omega⟩,⟨by exact HO426.out⟩,⟨by exact BK417.out⟩,⟨HB.out⟩⟩
      ·rw [if_neg c12] at H;exact absurd H (by simp)
     ·rw [if_neg c10] at H;exact absurd H (by simp)
    ·rw [if_neg c9] at H;have c9b0 : decide (x4_1 < (l0_1.length : Int)) = false := decide_eq_false c9;clear c9;replace H := Option.bind_eq_some_iff.mp H;obtain ⟨t427,A160,H⟩ := H;replace H : (some t427) = some r := H;have A16 := Aside0.mk A160;clear A160;obtain rfl := Option.some.inj H;have hcz17_0 : wr.cell? ⟨gb417,0,none⟩ = some (.int .i64 a0_0) := (blk_cell BK417.out 0).trans rfl;have hcz17_1 : wr.cell? ⟨gb417,1,none⟩ = some (.slice A0_1 l0_1.length c0_1) := (blk_cell BK417.out 1).trans rfl;have hfz17_0 := blk_frozen BK417.out 0;have hfz17_1 := blk_frozen BK417.out 1;obtain ⟨Ao18,co18,eo18⟩ := Kd.R_slice HO_3.out;subst eo18
     go_wp2_with ((with_reducible refine gate_callee (f := 30) rfl ?_); refine goesL_ (some 26) rfl rfl Try.func30 (by kernel_rfl) rfl #[.slice Ao18 x3_1.length co18] rfl (by (try simp only [List.map_toArray,List.map_cons,List.map_nil]); rfl) ?_; (with_reducible refine (spec_RootOf.calls k1 _ _ x3_1 t427 _ ?side1 ?side2 A16.out).mono ?_); (case side1 => repeat (exact (Kd.R_reads' HO_3.out).2.2)); (case side2 => exact (Kd.R_reads' HO_3.out).2.1); rintro e w19 ⟨rfl,hb⟩; refine ⟨_,rfl,?_⟩; have n0_ := Aside0.mk (Kd.R_below (by exact HO_3.out) hb); have n1_ := Aside0.mk (blk_below (g := gb417) (o := .cells #[.int .i64 a0_0,.slice A0_1 l0_1.length c0_1] 44 (0,0)) (by exact BK417.out) hb); have n2_ := Aside0.mk (below_step HB.out hb); clear HO_3; clear BK417; clear HB; have HO_3 := n0_; have BK417 := n1_; have HB := n2_; clear n0_ n1_ n2_; (try clear hb); skip)
     go_ret;exact ⟨by rfl,HB.out⟩
 ·replace c3 := Bool.eq_false_iff.mpr c3;subst c3
  have H1 : (some (⟨#[]⟩ : ByteArray)) = some r := by rw [if_neg (show ¬ (false = true) by decide)] at H; exact H
  clear H;have H := H1;clear H1;obtain rfl := Option.some.inj H;go_enter Try.func44,Try.ntmps44
  go_wp2_with (first | ((with_reducible refine gate_dst (N := 1) rfl ?_); refine box_event ?hg (N := 1) ?hd (cs := #[.int .i64 a0_0,.slice A0_1 l0_1.length c0_1]) (t := 44) ?hr ?_; (case hd => rfl); (case hg => rfl); (case hr => (go_simp; done)); intro gb417 hg w20 hbox hb; have n0_ := Aside0.mk (below_step HB.out hb); have n1_ := Aside0.mk (hbox); have n2_ := Aside0.mk (by rw [hg]; exact (below_size HB.out) : w.heap.size ≤ gb417); have n3_ := Aside0.mk (by rw [hg]; exact (below_size HB.out) : w.heap.size ≤ gb417); clear HB; have HB := n0_; have BK417 := n1_; have GW417 := n2_; have GE417 := n3_; clear n0_ n1_ n2_ n3_; clear hb hbox hg; have hcz21_0 : w20.cell? ⟨gb417,0,none⟩ = some (.int .i64 a0_0) := (blk_cell BK417.out 0).trans rfl; have hcz21_1 : w20.cell? ⟨gb417,1,none⟩ = some (.slice A0_1 l0_1.length c0_1) := (blk_cell BK417.out 1).trans rfl; have hfz21_0 := blk_frozen BK417.out 0; have hfz21_1 := blk_frozen BK417.out 1) | ((with_reducible refine gate_callee (f := 39) rfl ?_); refine goesL_ (some 6) rfl rfl Try.func39 (by kernel_rfl) rfl #[.agg #[.int .i64 a0_0,.slice A0_1 l0_1.length c0_1]] rfl (by (try simp only [List.map_toArray,List.map_cons,List.map_nil]); rfl) ?_; (with_reducible refine (spec_LedgerOk.calls k a0_0 _ _ l0_1 false _ ?side1 ?side2 A2.out).mono ?_); (case side1 => repeat (exact (Kd.C_below HR0_1.out HB.out))); (case side2 => exact HC0_1.out); rintro e w22 ⟨rfl,hb⟩; refine ⟨_,rfl,?_⟩; have n0_ := Aside0.mk (blk_below (g := gb417) (o := .cells #[.int .i64 a0_0,.slice A0_1 l0_1.length c0_1] 44 (0,0)) (by exact BK417.out) hb); have n1_ := Aside0.mk (below_step HB.out hb); clear BK417; clear HB; have BK417 := n0_; have HB := n1_; clear n0_ n1_; (try clear hb); skip))
  go_ret;exact ⟨by rfl,HB.out⟩

/-! ### laws_toLeave: function 111 -/
def laws_toLeave.f (a0_0 : Int) (a0_1 : Int) : Option (Int × Int) := some (a0_0,a0_1)
set_option maxHeartbeats 8000000 in
set_option maxRecDepth 100000 in
theorem laws_toLeave.calls (a0_0 : Int) (a0_1 : Int) (r1 : Int) (r2 : Int) (w : World) (h : laws_toLeave.f a0_0 a0_1 = some (r1,r2)) :
  Calls Try.prog 111 #[.agg #[.int .i64 a0_0,.int .i64 a0_1]] w fun e w' => e = .returned (.agg #[.int .i64 r1,.int .i64 r2]) ∧ Below w.heap.size w w' := by
 have hu120 := Try.underlying120;have hu54 := Try.underlying54;have HB := Aside0.mk (Below.refl w.heap.size w);have H : (some (a0_0,a0_1)) = some (r1,r2) := h;clear h;simp only [Option.some.injEq,Prod.mk.injEq] at H;obtain ⟨rfl,rfl⟩ := H;go_enter Try.func111,Try.ntmps111
 go_wp2_with (first | ((with_reducible refine gate_dst (N := 1) rfl ?_); refine box_event ?hg (N := 1) ?hd (cs := #[.int .i64 a0_0,.int .i64 a0_1]) (t := 120) ?hr ?_; (case hd => rfl); (case hg => rfl); (case hr => (go_simp; done)); intro gb428 hg w2 hbox hb; have n0_ := Aside0.mk (below_step HB.out hb); have n1_ := Aside0.mk (hbox); have n2_ := Aside0.mk (by rw [hg]; exact (below_size HB.out) : w.heap.size ≤ gb428); have n3_ := Aside0.mk (by rw [hg]; exact (below_size HB.out) : w.heap.size ≤ gb428); clear HB; have HB := n0_; have BK428 := n1_; have GW428 := n2_; have GE428 := n3_; clear n0_ n1_ n2_ n3_; clear hb hbox hg) | ((with_reducible refine gate_dst (N := 2) rfl ?_); refine box_event ?hg (N := 2) ?hd (cs := #[.int .i64 0,.int .i64 0]) (t := 54) ?hr ?_; (case hd => rfl); (case hg => rfl); (case hr => (go_simp; done)); intro gb429 hg w3 hbox hb; have n0_ := Aside0.mk (blk_below (g := gb428) (o := .cells #[.int .i64 a0_0,.int .i64 a0_1] 120 (0,0)) (by exact BK428.out) hb); have n1_ := Aside0.mk (below_step HB.out hb); have n2_ := Aside0.mk (hbox); have n3_ := Aside0.mk (by rw [hg]; exact (below_size HB.out) : w.heap.size ≤ gb429); have n4_ := Aside0.mk (by rw [hg]; exact (below_size HB.out) : w.heap.size ≤ gb429); have n5_ := Aside0.mk (by rw [hg]; exact Nat.ne_of_lt (blk_lt (g := gb428) (o := .cells #[.int .i64 a0_0,.int .i64 a0_1] 120 (0,0)) (by exact BK428.out)) : gb428 ≠ gb429); have n6_ := Aside0.mk (by rw [hg]; exact Nat.ne_of_gt (blk_lt (g := gb428) (o := .cells #[.int .i64 a0_0,.int .i64 a0_1] 120 (0,0)) (by exact BK428.out)) : gb429 ≠ gb428); clear BK428; clear HB; have BK428 := n0_; have HB := n1_; have BK429 := n2_; have GW429 := n3_; have GE429 := n4_; have NB428_429 := n5_; have NB429_428 := n6_; clear n0_ n1_ n2_ n3_ n4_ n5_ n6_; clear hb hbox hg) | ((with_reducible refine gate_dst (N := 3) rfl ?_); refine box_event ?hg (N := 3) ?hd (cs := #[.int .i64 0,.int .i64 0]) (t := 54) ?hr ?_; (case hd => rfl); (case hg => rfl); (case hr => (go_simp; done)); intro gb430 hg w4 hbox hb; have n0_ := Aside0.mk (blk_below (g := gb428) (o := .cells #[.int .i64 a0_0,.int .i64 a0_1] 120 (0,0)) (by exact BK428.out) hb); have n1_ := Aside0.mk (blk_below (g := gb429) (o := .cells #[.int .i64 0,.int .i64 0] 54 (0,0)) (by exact BK429.out) hb); have n2_ := Aside0.mk (below_step HB.out hb); have n3_ := Aside0.mk (hbox); have n4_ := Aside0.mk (by rw [hg]; exact (below_size HB.out) : w.heap.size ≤ gb430); have n5_ := Aside0.mk (by rw [hg]; exact (below_size HB.out) : w.heap.size ≤ gb430); have n6_ := Aside0.mk (by rw [hg]; exact Nat.ne_of_lt (blk_lt (g := gb428) (o := .cells #[.int .i64 a0_0,.int .i64 a0_1] 120 (0,0)) (by exact BK428.out)) : gb428 ≠ gb430); have n7_ := Aside0.mk (by rw [hg]; exact Nat.ne_of_gt (blk_lt (g := gb428) (o := .cells #[.int .i64 a0_0,.int .i64 a0_1] 120 (0,0)) (by exact BK428.out)) : gb430 ≠ gb428); have n8_ := Aside0.mk (by rw [hg]; exact Nat.ne_of_lt (blk_lt (g := gb429) (o := .cells #[.int .i64 0,.int .i64 0] 54 (0,0)) (by exact BK429.out)) : gb429 ≠ gb430); have n9_ := Aside0.mk (by rw [hg]; exact Nat.ne_of_gt (blk_lt (g := gb429) (o := .cells #[.int .i64 0,.int .i64 0] 54 (0,0)) (by exact BK429.out)) : gb430 ≠ gb429); clear BK428; clear BK429; clear HB; have BK428 := n0_; have BK429 := n1_; have HB := n2_; have BK430 := n3_; have GW430 := n4_; have GE430 := n5_; have NB428_430 := n6_; have NB430_428 := n7_; have NB429_430 := n8_; have NB430_429 := n9_; clear n0_ n1_ n2_ n3_ n4_ n5_ n6_ n7_ n8_ n9_; clear hb hbox hg; have hnb5 := NB428_429.out; have hnc5 := NB429_428.out; have hnb6 := NB428_430.out; have hnc6 := NB430_428.out; have hcz7_0 : w4.cell? ⟨gb428,0,none⟩ = some (.int .i64 a0_0) := (blk_cell BK428.out 0).trans rfl; have hcz7_1 : w4.cell? ⟨gb428,1,none⟩ = some (.int .i64 a0_1) := (blk_cell BK428.out 1).trans rfl; have hfz7_0 := blk_frozen BK428.out 0; have hfz7_1 := blk_frozen BK428.out 1; have hnb8 := NB430_429.out; have hnc8 := NB429_430.out; have hcz9_0 : w4.cell? ⟨gb430,0,none⟩ = some (.int .i64 0) := (blk_cell BK430.out 0).trans rfl; have hcz9_1 : w4.cell? ⟨gb430,1,none⟩ = some (.int .i64 0) := (blk_cell BK430.out 1).trans rfl; have hfz9_0 := blk_frozen BK430.out 0; have hfz9_1 := blk_frozen BK430.out 1; have hcz10_0 : w4.cell? ⟨gb429,0,none⟩ = some (.int .i64 0) := (blk_cell BK429.out 0).trans rfl; have hcz10_1 : w4.cell? ⟨gb429,1,none⟩ = some (.int .i64 0) := (blk_cell BK429.out 1).trans rfl; have hfz10_0 := blk_frozen BK429.out 0; have hfz10_1 := blk_frozen BK429.out 1))
 refine bodyPost_ret (results_cell_row rfl _ _ gb429 54 #[.int .i64 a0_0,.int .i64 a0_1] (0,0) _ rfl (by refine blk_put (cs := #[.int .i64 a0_0,.int .i64 0]) ?_ 1 _ rfl; refine blk_put (cs := #[.int .i64 0,.int .i64 0]) ?_ 0 _ rfl; refine blk_far ?_ NB429_430.out _; refine blk_far ?_ NB429_430.out _; exact BK429.out) Try.underlying54 rfl (by kernel_rfl)) rfl ?_;exact ⟨by rfl,by repeat (with_reducible first | exact HB.out | refine below_set ?_ GE429.out | refine below_set ?_ GE430.out)⟩

end Go.Proofs.Ytgbbgdlenadhlaa.PJ
