/- The machine's side of Go functions: each as a plain function,and that the call does what it says. Written by a program (wip/mprint). -/
import Derived.Test.YtcbpfofkdipjhaaAPPLx0
import Derived.Test.YtcbpfofkdipjhaaAPPLx15
import Derived.Test.YtcbpfofkdipjhaaAPPLx16
namespace Go.Proofs.Ytcbpfofkdipjhaa.PL
open Go.RowKit Go.Proofs.YtcbpfofkdipjhaaW.PrintWords Go.Proofs.YtcbpfofkdipjhaaW.PrintLast Go.Proofs.YtcbpfofkdipjhaaW.PrintMore
attribute [local wf_preprocess] Act.put List.setIfInBounds_toArray List.set_cons_zero List.set_cons_succ i64_w i32_w
attribute [local go_sem] max2_int min2_int max_two min_two max_three min_three max_four min_four   -- for this text's walks alone
set_option linter.unusedVariables false
set_option linter.unusedSimpArgs false

/-! ### laws_heldAcctS: function 56 -/
def laws_heldAcctS.l0 : Nat → List (S63) → Int → Int → Option (Int)
 | 0,_,_,_ => none
 | k + 1,x0,x1,x5 => if x5 < (x0.length : Int) then (if 0 ≤ x5 then ((laws_markText.f k x1).bind fun t315 => (if ((rd_T63 x0 x5).f0).toList = t315.toList then (if ((rd_T63 x0 x5).f1) = (wrap64 (x1 + 1)) then (if ((rd_T63 x0 x5).f2) = (wrap64 ((wrap64 (x1 + 1)) + 1)) then (if ((rd_T63 x0 x5).f3) = (wrap64 ((wrap64 ((wrap64 (x1 + 1)) + 1)) + 1)) then ((laws_heldLeaveS.f k ((rd_T63 x0 x5).f4) (wrap64 ((wrap64 ((wrap64 ((wrap64 (x1 + 1)) + 1)) + 1)) + 1))).bind fun t320 => (if t320 < 0 then (some (-1)) else (laws_heldAcctS.l0 k x0 t320 (wrap64 (x5 + 1))))) else (some (-1))) else (some (-1))) else (some (-1))) else (some (-1)))) else (none)) else (some x1)
def laws_heldAcctS.f (k : Nat) (l0 : List (S63)) (a1 : Int) : Option (Int) := laws_heldAcctS.l0 k l0 a1 0
theorem laws_heldAcctS.mono_l : ∀ k,(∀ y0 y1 y2,LeO (laws_heldAcctS.l0 k y0 y1 y2) (laws_heldAcctS.l0 (k + 1) y0 y1 y2))
 | 0 => fun _ _ _ r h => by simp [laws_heldAcctS.l0] at h
 | k + 1 => by
  have ih0 := laws_heldAcctS.mono_l k
  ·intro y0 y1 y2;unfold laws_heldAcctS.l0
   repeat' first
   | (with_reducible exact ih0 _ _ _)
   | (with_reducible exact laws_heldLeaveS.mono _ _ _)
   | (with_reducible exact laws_markText.mono _ _)
   | (with_reducible exact LeO.refl _)
   | (with_reducible exact LeO.none _)
   | (with_reducible refine LeO.ite ?_ ?_)
   | (with_reducible refine LeO.bind ?_ (fun _ => ?_))
   | exact ih0 _ _ _
   | exact laws_heldLeaveS.mono _ _ _
   | exact laws_markText.mono _ _
   | exact LeO.none _
theorem laws_heldAcctS.mono : ∀ a0 a1 k,LeO (laws_heldAcctS.f k a0 a1) (laws_heldAcctS.f (k + 1) a0 a1) := by
 intro a0 a1 k;have ih0 := laws_heldAcctS.mono_l k;unfold laws_heldAcctS.f
 repeat' first
   | (with_reducible exact ih0 _ _ _)
   | (with_reducible exact laws_heldLeaveS.mono _ _ _)
   | (with_reducible exact laws_markText.mono _ _)
   | (with_reducible exact LeO.refl _)
   | (with_reducible exact LeO.none _)
   | (with_reducible refine LeO.ite ?_ ?_)
   | (with_reducible refine LeO.bind ?_ (fun _ => ?_))
   | exact ih0 _ _ _
   | exact laws_heldLeaveS.mono _ _ _
   | exact laws_markText.mono _ _
   | exact LeO.none _
def laws_heldAcctS.T4 : Bool × List (List Nat × List Nat) := (true,[([],[]),([],[]),([0,1],[0,1]),([2],[2]),([3],[3]),([],[]),([5],[5]),([4,6],[4,6])])
def laws_heldAcctS.B4 : List Nat := [0,0,3,7,15,0,32,127]
theorem laws_heldAcctS.tab4 : rtab .any (opsOf Try.f56 4) = laws_heldAcctS.T4 := by kernel_rfl
theorem laws_heldAcctS.bits4 : waitsOk laws_heldAcctS.T4.2 laws_heldAcctS.B4 = true := by kernel_rfl
set_option maxHeartbeats 8000000 in
set_option maxRecDepth 100000 in
theorem laws_heldAcctS.calls (k : Nat) (A0 : Option Addr) (c0 : Nat) (l0 : List (S63)) (a1 : Int) (r : Int) (w : World) (hr0 : Kd.C k63 w A0 l0.length l0) (hc0 : l0.length ≤ c0) (h : laws_heldAcctS.f k l0 a1 = some r) :
  Calls Try.prog 56 #[.slice A0 l0.length c0,.int .i64 a1] w fun e w' => e = .returned (.int .i64 r) ∧ Below w.heap.size w w' := by
 have HR0 := Aside0.mk hr0;have HC0 := Aside0.mk hc0;clear hr0 hc0;have HB := Aside0.mk (Below.refl w.heap.size w);have H : (laws_heldAcctS.l0 k l0 a1 0) = some r := h;clear h;have H' := Aside0.mk H;clear H;go_enter Try.func56,Try.ntmps56;go_wp2
 go_loopg [1,5] k (fun kq v1 v5 w' => ∃ (x1_1 : Int) (x5_1 : Int),v1 = .int .i64 x1_1 ∧ v5 = .int .i64 x5_1 ∧ Aside0 (laws_heldAcctS.l0 kq l0 x1_1 x5_1 = some r) ∧ Aside0 (kq ≤ k) ∧ Aside0 (Below w.heap.size w w'))
 case atStart => exact ⟨(a1),(0),(by rfl),(by rfl),H',⟨Nat.le_refl _⟩,⟨HB.out⟩⟩
 case round =>
  clear H'
  try clear p2
  obtain ⟨x1_1,x5_1,rfl,rfl,HA,HK1,HB⟩ := hrel
  cases gk with
  | zero => exact absurd HA.out (by simp [laws_heldAcctS.l0])
  | succ k1 =>
   have H := HA.out;clear HA;simp only [laws_heldAcctS.l0] at H
   by_cases c3 : x5_1 < (l0.length : Int)
   ·rw [if_pos c3] at H;have c3b0 : decide (x5_1 < (l0.length : Int)) = true := decide_eq_true c3;clear c3
    by_cases c4 : 0 ≤ x5_1
    ·rw [if_pos c4] at H;have c4b0 : decide (0 ≤ x5_1) = true := decide_eq_true c4;clear c4;replace H := Option.bind_eq_some_iff.mp H;obtain ⟨t315,A50,H⟩ := H;replace H : (if ((rd_T63 l0 x5_1).f0).toList = t315.toList then (if ((rd_T63 l0 x5_1).f1) = (wrap64 (x1_1 + 1)) then (if ((rd_T63 l0 x5_1).f2) = (wrap64 ((wrap64 (x1_1 + 1)) + 1)) then (if ((rd_T63 l0 x5_1).f3) = (wrap64 ((wrap64 ((wrap64 (x1_1 + 1)) + 1)) + 1)) then ((laws_heldLeaveS.f k1 ((rd_T63 l0 x5_1).f4) (wrap64 ((wrap64 ((wrap64 ((wrap64 (x1_1 + 1)) + 1)) + 1)) + 1))).bind fun t320 => (if t320 < 0 then (some (-1)) else (laws_heldAcctS.l0 k1 l0 t320 (wrap64 (x5_1 + 1))))) else (some (-1))) else (some (-1))) else (some (-1))) else (some (-1))) = some r := H;have A5 := Aside0.mk A50;clear A50
     by_cases c6 : ((rd_T63 l0 x5_1).f0).toList = t315.toList
     ·rw [if_pos c6] at H;have c6b0 : (((rd_T63 l0 x5_1).f0).toList == t315.toList) = true := beq_iff_eq.mpr c6;have c6b1 : (((rd_T63 l0 x5_1).f0).toList != t315.toList) = false := bne_eq_false_iff_eq.mpr c6;clear c6
      by_cases c7 : ((rd_T63 l0 x5_1).f1) = (wrap64 (x1_1 + 1))
      ·rw [if_pos c7] at H;have c7b0 : (((rd_T63 l0 x5_1).f1) == (wrap64 (x1_1 + 1))) = true := beq_iff_eq.mpr c7;have c7b1 : (((rd_T63 l0 x5_1).f1) != (wrap64 (x1_1 + 1))) = false := bne_eq_false_iff_eq.mpr c7;clear c7
       by_cases c8 : ((rd_T63 l0 x5_1).f2) = (wrap64 ((wrap64 (x1_1 + 1)) + 1))
       ·rw [if_pos c8] at H;have c8b0 : (((rd_T63 l0 x5_1).f2) == (wrap64 ((wrap64 (x1_1 + 1)) + 1))) = true := beq_iff_eq.mpr c8;have c8b1 : (((rd_T63 l0 x5_1).f2) != (wrap64 ((wrap64 (x1_1 + 1)) + 1))) = false := bne_eq_false_iff_eq.mpr c8;clear c8
        by_cases c9 : ((rd_T63 l0 x5_1).f3) = (wrap64 ((wrap64 ((wrap64 (x1_1 + 1)) + 1)) + 1))
        ·rw [if_pos c9] at H;have c9b0 : (((rd_T63 l0 x5_1).f3) == (wrap64 ((wrap64 ((wrap64 (x1_1 + 1)) + 1)) + 1))) = true := beq_iff_eq.mpr c9;have c9b1 : (((rd_T63 l0 x5_1).f3) != (wrap64 ((wrap64 ((wrap64 (x1_1 + 1)) + 1)) + 1))) = false := bne_eq_false_iff_eq.mpr c9;clear c9;replace H := Option.bind_eq_some_iff.mp H;obtain ⟨t320,A100,H⟩ := H;replace H : (if t320 < 0 then (some (-1)) else (laws_heldAcctS.l0 k1 l0 t320 (wrap64 (x5_1 + 1)))) = some r := H;have A10 := Aside0.mk A100;clear A100
         by_cases c11 : t320 < 0
         ·rw [if_pos c11] at H;have c11b0 : decide (t320 < 0) = true := decide_eq_true c11;clear c11;obtain rfl := Option.some.inj H
          try go_wp2
          have n0_ := Aside0.mk (below_drew1 HB.out);clear HB;have HB := n0_;clear n0_;have p314 : 0 ≤ (x5_1 : Int) := of_decide_eq_true (by (with_reducible assumption));have q314 : x5_1 < (l0.length : Int) := of_decide_eq_true (by (with_reducible assumption));obtain ⟨ad314,A314_4,c314_4,e314,hx314_0,hx314_1,hx314_2,hx314_3,hx314_4,hl314_4,hi314_4⟩ := at_T63 HR0.out x5_1 p314 q314;have hw314_4 := hx314_4;have hw314_3 := hx314_3;have hw314_2 := hx314_2;have hw314_1 := hx314_1;have hw314_0 := hx314_0
          cases e314
          replace hx314_0 := (HB.out.cell (World.block_lt_of_cell? w _ hx314_0)).trans hx314_0;replace hx314_1 := (HB.out.cell (World.block_lt_of_cell? w _ hx314_1)).trans hx314_1;replace hx314_2 := (HB.out.cell (World.block_lt_of_cell? w _ hx314_2)).trans hx314_2;replace hx314_3 := (HB.out.cell (World.block_lt_of_cell? w _ hx314_3)).trans hx314_3;replace hx314_4 := (HB.out.cell (World.block_lt_of_cell? w _ hx314_4)).trans hx314_4;have HR314_4 := Aside0.mk hi314_4;have HC314_4 := Aside0.mk hl314_4;clear hi314_4 hl314_4;replace p314 := eq_true p314;replace q314 := eq_true q314;refine start_ (n := 8) (S := fun w' => w'.cell? (ad314.add ((x5_1).toNat * 5)) = some (.string ((rd_T63 l0 x5_1).f0)) ∧ w'.cell? ⟨(ad314.add ((x5_1).toNat * 5)).block,(ad314.add ((x5_1).toNat * 5)).off + 1,none⟩ = some (.int .i64 ((rd_T63 l0 x5_1).f1)) ∧ w'.cell? ⟨(ad314.add ((x5_1).toNat * 5)).block,(ad314.add ((x5_1).toNat * 5)).off + 2,none⟩ = some (.int .i64 ((rd_T63 l0 x5_1).f2)) ∧ w'.cell? ⟨(ad314.add ((x5_1).toNat * 5)).block,(ad314.add ((x5_1).toNat * 5)).off + 3,none⟩ = some (.int .i64 ((rd_T63 l0 x5_1).f3)) ∧ w'.cell? ⟨(ad314.add ((x5_1).toNat * 5)).block,(ad314.add ((x5_1).toNat * 5)).off + 4,none⟩ = some (.slice A314_4 ((rd_T63 l0 x5_1).f4).length c314_4)) (ds := []) #[false,false,false,false,false,false,false,false] (by kernel_rfl) rfl rfl ⟨((HB.out.cell (World.block_lt_of_cell? w _ hw314_0)).trans hw314_0),((HB.out.cell (World.block_lt_of_cell? w _ hw314_1)).trans hw314_1),((HB.out.cell (World.block_lt_of_cell? w _ hw314_2)).trans hw314_2),((HB.out.cell (World.block_lt_of_cell? w _ hw314_3)).trans hw314_3),((HB.out.cell (World.block_lt_of_cell? w _ hw314_4)).trans hw314_4)⟩ (fun hHeld => ?_); refine with_tabW laws_heldAcctS.tab4 laws_heldAcctS.bits4 (fun HT_ HW_ => ?_)
          generalize wr.drew = w12 at HB HR314_4 hx314_0 hx314_1 hx314_2 hx314_3 hx314_4 hHeld ⊢
          refine pure_ (i := 0) (N := some 12) (v := ?_) (a' := ?_) #[true,false,false,false,false,false,false,false] rfl rfl (any_of HT_.out (by kernel_rfl)) (fun _ _ _ h => h) (Or.inl ⟨by rfl,?_⟩) ?_ ?_;rotate_left
          ·intro w';go_simp;with_reducible rfl
          rotate_left
          ·simp only [wf_preprocess];rfl
          refine pure_ (i := 1) (N := some 13) (v := ?_) (a' := ?_) #[true,true,false,false,false,false,false,false] rfl rfl (any_of HT_.out (by kernel_rfl)) (fun _ _ _ h => h) (Or.inl ⟨by rfl,?_⟩) ?_ ?_;rotate_left
          ·intro w';go_simp;with_reducible rfl
          rotate_left
          ·simp only [wf_preprocess];rfl
          refine pure_ (i := 2) (N := some 14) (v := ?_) (a' := ?_) #[true,true,true,false,false,false,false,false] rfl rfl (any_of HT_.out (by kernel_rfl)) (fun _ _ _ h => h) (Or.inl ⟨by rfl,?_⟩) ?_ ?_;rotate_left
          ·intro w';go_simp;with_reducible rfl
          rotate_left
          ·simp only [wf_preprocess];rfl
          refine pure_ (i := 3) (N := some 15) (v := ?_) (a' := ?_) #[true,true,true,true,false,false,false,false] rfl rfl (any_of HT_.out (by kernel_rfl)) (fun _ _ _ h => h) (Or.inl ⟨by rfl,?_⟩) ?_ ?_;rotate_left
          ·intro w';go_simp;with_reducible rfl
          rotate_left
          ·simp only [wf_preprocess];rfl
          refine pure_ (i := 5) (N := some 17) (v := ?_) (a' := ?_) #[true,true,true,true,false,true,false,false] rfl rfl (any_of HT_.out (by kernel_rfl)) (fun _ _ _ h => h) (Or.inl ⟨by rfl,?_⟩) ?_ ?_;rotate_left
          ·intro w';go_simp;with_reducible rfl
          rotate_left
          ·simp only [wf_preprocess];rfl
          refine take_ (i := 4) (N := some 16) (v := ?_) (a' := ?_) #[true,true,true,true,true,true,false,false] rfl rfl (take_ofW HT_.out HW_.out (by kernel_rfl)) (fun _ _ _ h => h) (Or.inl ⟨by rfl,?_⟩) hHeld ?_ ?_;rotate_left
          ·rintro w' ⟨s0,s1,s2,s3,s4⟩;go_simp;with_reducible rfl
          rotate_left
          ·simp only [wf_preprocess];rfl
          refine one_ (i := 6) (N := some 18) #[true,true,true,true,true,true,true,false] rfl rfl (one_of HT_.out (by kernel_rfl)) (by decide) (fun K hK => ?_);refine goes_ Try.func74 (by kernel_rfl) rfl #[.int .i64 x1_1] (by rfl) rfl rfl (by (try simp only [List.map_toArray,List.map_cons,List.map_nil]); rfl) ?_
          with_reducible refine (laws_markText.calls k1 x1_1 t315 _ A5.out).mono ?_
          rintro e w13 ⟨rfl,hb⟩;refine ⟨_,rfl,?_⟩;have n0_ := Aside0.mk (below_step HB.out hb);clear HB;have HB := n0_;clear n0_
          (try clear hb)
          skip
          skip
          skip
          refine hK.out _ _ ⟨((HB.out.cell (World.block_lt_of_cell? w _ hw314_0)).trans hw314_0),((HB.out.cell (World.block_lt_of_cell? w _ hw314_1)).trans hw314_1),((HB.out.cell (World.block_lt_of_cell? w _ hw314_2)).trans hw314_2),((HB.out.cell (World.block_lt_of_cell? w _ hw314_3)).trans hw314_3),((HB.out.cell (World.block_lt_of_cell? w _ hw314_4)).trans hw314_4)⟩ (fun hHeld => ?_);clear hK K;refine norm_ (a' := ?_) ?_ ?_;rotate_left
          ·show Act.put _ (some 18) _ = _
           simp only [wf_preprocess];rfl
          refine pure_ (i := 7) (N := some 19) (v := ?_) (a' := ?_) #[true,true,true,true,true,true,true,true] rfl rfl (any_of HT_.out (by kernel_rfl)) (fun _ _ _ h => h) (Or.inl ⟨by rfl,?_⟩) ?_ ?_;rotate_left
          ·intro w';go_simp;with_reducible rfl
          rotate_left
          ·simp only [wf_preprocess];rfl
          refine done_ (done_of HT_.out (by kernel_rfl)) ?_;have p316 : 0 ≤ (x5_1 : Int) := of_decide_eq_true (by (with_reducible assumption));have q316 : x5_1 < (l0.length : Int) := of_decide_eq_true (by (with_reducible assumption));obtain ⟨ad316,A316_4,c316_4,e316,hx316_0,hx316_1,hx316_2,hx316_3,hx316_4,hl316_4,hi316_4⟩ := at_T63 HR0.out x5_1 p316 q316;obtain rfl : ad314 = ad316 := (by injection e316);replace hx316_0 := (HB.out.cell (World.block_lt_of_cell? w _ hx316_0)).trans hx316_0;replace hx316_1 := (HB.out.cell (World.block_lt_of_cell? w _ hx316_1)).trans hx316_1;replace hx316_2 := (HB.out.cell (World.block_lt_of_cell? w _ hx316_2)).trans hx316_2;replace hx316_3 := (HB.out.cell (World.block_lt_of_cell? w _ hx316_3)).trans hx316_3;replace hx316_4 := (HB.out.cell (World.block_lt_of_cell? w _ hx316_4)).trans hx316_4;have HR316_4 := Aside0.mk hi316_4;have HC316_4 := Aside0.mk hl316_4;clear hi316_4 hl316_4;replace p316 := eq_true p316;replace q316 := eq_true q316
          (try clear hHeld)
          have p317 : 0 ≤ (x5_1 : Int) := of_decide_eq_true (by (with_reducible assumption));have q317 : x5_1 < (l0.length : Int) := of_decide_eq_true (by (with_reducible assumption));obtain ⟨ad317,A317_4,c317_4,e317,hx317_0,hx317_1,hx317_2,hx317_3,hx317_4,hl317_4,hi317_4⟩ := at_T63 HR0.out x5_1 p317 q317;obtain rfl : ad314 = ad317 := (by injection e317);replace hx317_0 := (HB.out.cell (World.block_lt_of_cell? w _ hx317_0)).trans hx317_0;replace hx317_1 := (HB.out.cell (World.block_lt_of_cell? w _ hx317_1)).trans hx317_1;replace hx317_2 := (HB.out.cell (World.block_lt_of_cell? w _ hx317_2)).trans hx317_2;replace hx317_3 := (HB.out.cell (World.block_lt_of_cell? w _ hx317_3)).trans hx317_3;replace hx317_4 := (HB.out.cell (World.block_lt_of_cell? w _ hx317_4)).trans hx317_4;have HR317_4 := Aside0.mk hi317_4;have HC317_4 := Aside0.mk hl317_4;clear hi317_4 hl317_4;replace p317 := eq_true p317;replace q317 := eq_true q317;have ea_ := Option.some.inj (hx316_4.symm.trans hx317_4)
          injection ea_ with ea_ en_ ec_
          subst ea_;subst ec_;clear en_;have p318 : 0 ≤ (x5_1 : Int) := of_decide_eq_true (by (with_reducible assumption));have q318 : x5_1 < (l0.length : Int) := of_decide_eq_true (by (with_reducible assumption));obtain ⟨ad318,A318_4,c318_4,e318,hx318_0,hx318_1,hx318_2,hx318_3,hx318_4,hl318_4,hi318_4⟩ := at_T63 HR0.out x5_1 p318 q318;obtain rfl : ad314 = ad318 := (by injection e318);replace hx318_0 := (HB.out.cell (World.block_lt_of_cell? w _ hx318_0)).trans hx318_0;replace hx318_1 := (HB.out.cell (World.block_lt_of_cell? w _ hx318_1)).trans hx318_1;replace hx318_2 := (HB.out.cell (World.block_lt_of_cell? w _ hx318_2)).trans hx318_2;replace hx318_3 := (HB.out.cell (World.block_lt_of_cell? w _ hx318_3)).trans hx318_3;replace hx318_4 := (HB.out.cell (World.block_lt_of_cell? w _ hx318_4)).trans hx318_4;have HR318_4 := Aside0.mk hi318_4;have HC318_4 := Aside0.mk hl318_4;clear hi318_4 hl318_4;replace p318 := eq_true p318;replace q318 := eq_true q318;have ea_ := Option.some.inj (hx316_4.symm.trans hx318_4)
          injection ea_ with ea_ en_ ec_
          subst ea_;subst ec_;clear en_;have p319 : 0 ≤ (x5_1 : Int) := of_decide_eq_true (by (with_reducible assumption));have q319 : x5_1 < (l0.length : Int) := of_decide_eq_true (by (with_reducible assumption));obtain ⟨ad319,A319_4,c319_4,e319,hx319_0,hx319_1,hx319_2,hx319_3,hx319_4,hl319_4,hi319_4⟩ := at_T63 HR0.out x5_1 p319 q319;obtain rfl : ad314 = ad319 := (by injection e319);replace hx319_0 := (HB.out.cell (World.block_lt_of_cell? w _ hx319_0)).trans hx319_0;replace hx319_1 := (HB.out.cell (World.block_lt_of_cell? w _ hx319_1)).trans hx319_1;replace hx319_2 := (HB.out.cell (World.block_lt_of_cell? w _ hx319_2)).trans hx319_2;replace hx319_3 := (HB.out.cell (World.block_lt_of_cell? w _ hx319_3)).trans hx319_3;replace hx319_4 := (HB.out.cell (World.block_lt_of_cell? w _ hx319_4)).trans hx319_4;have HR319_4 := Aside0.mk hi319_4;have HC319_4 := Aside0.mk hl319_4;clear hi319_4 hl319_4;replace p319 := eq_true p319;replace q319 := eq_true q319;have ea_ := Option.some.inj (hx316_4.symm.trans hx319_4)
          injection ea_ with ea_ en_ ec_
          subst ea_;subst ec_;clear en_
          try go_wp2_with (((with_reducible refine gate_callee (f := 103) rfl ?_); refine goesL_ (some 55) rfl rfl Try.func103 (by kernel_rfl) rfl #[.slice A316_4 ((rd_T63 l0 x5_1).f4).length c316_4,.int .i64 (wrap64 ((wrap64 ((wrap64 ((wrap64 (x1_1 + 1)) + 1)) + 1)) + 1))] rfl (by (try simp only [List.map_toArray,List.map_cons,List.map_nil]); rfl) ?_; (with_reducible refine (laws_heldLeaveS.calls k1 _ _ ((rd_T63 l0 x5_1).f4) (wrap64 ((wrap64 ((wrap64 ((wrap64 (x1_1 + 1)) + 1)) + 1)) + 1)) t320 _ ?side1 ?side2 A10.out).mono ?_); (case side1 => repeat (exact (Kd.C_below HR319_4.out HB.out))); (case side2 => exact HC319_4.out); rintro e w' ⟨rfl,⟨nd,rfl⟩⟩; refine ⟨_,rfl,?_⟩))
          go_ret;exact ⟨by rfl,by repeat (with_reducible first | exact HB.out | apply pw_below_drewN)⟩
         ·rw [if_neg c11] at H;have c11b0 : decide (t320 < 0) = false := decide_eq_false c11;clear c11;have H' := Aside0.mk H;clear H
          try go_wp2
          have n0_ := Aside0.mk (below_drew1 HB.out);clear HB;have HB := n0_;clear n0_;have p314 : 0 ≤ (x5_1 : Int) := of_decide_eq_true (by (with_reducible assumption));have q314 : x5_1 < (l0.length : Int) := of_decide_eq_true (by (with_reducible assumption));obtain ⟨ad314,A314_4,c314_4,e314,hx314_0,hx314_1,hx314_2,hx314_3,hx314_4,hl314_4,hi314_4⟩ := at_T63 HR0.out x5_1 p314 q314;have hw314_4 := hx314_4;have hw314_3 := hx314_3;have hw314_2 := hx314_2;have hw314_1 := hx314_1;have hw314_0 := hx314_0
          cases e314
          replace hx314_0 := (HB.out.cell (World.block_lt_of_cell? w _ hx314_0)).trans hx314_0;replace hx314_1 := (HB.out.cell (World.block_lt_of_cell? w _ hx314_1)).trans hx314_1;replace hx314_2 := (HB.out.cell (World.block_lt_of_cell? w _ hx314_2)).trans hx314_2;replace hx314_3 := (HB.out.cell (World.block_lt_of_cell? w _ hx314_3)).trans hx314_3;replace hx314_4 := (HB.out.cell (World.block_lt_of_cell? w _ hx314_4)).trans hx314_4;have HR314_4 := Aside0.mk hi314_4;have HC314_4 := Aside0.mk hl314_4;clear hi314_4 hl314_4;replace p314 := eq_true p314;replace q314 := eq_true q314;refine start_ (n := 8) (S := fun w' => w'.cell? (ad314.add ((x5_1).toNat * 5)) = some (.string ((rd_T63 l0 x5_1).f0)) ∧ w'.cell? ⟨(ad314.add ((x5_1).toNat * 5)).block,(ad314.add ((x5_1).toNat * 5)).off + 1,none⟩ = some (.int .i64 ((rd_T63 l0 x5_1).f1)) ∧ w'.cell? ⟨(ad314.add ((x5_1).toNat * 5)).block,(ad314.add ((x5_1).toNat * 5)).off + 2,none⟩ = some (.int .i64 ((rd_T63 l0 x5_1).f2)) ∧ w'.cell? ⟨(ad314.add ((x5_1).toNat * 5)).block,(ad314.add ((x5_1).toNat * 5)).off + 3,none⟩ = some (.int .i64 ((rd_T63 l0 x5_1).f3)) ∧ w'.cell? ⟨(ad314.add ((x5_1).toNat * 5)).block,(ad314.add ((x5_1).toNat * 5)).off + 4,none⟩ = some (.slice A314_4 ((rd_T63 l0 x5_1).f4).length c314_4)) (ds := []) #[false,false,false,false,false,false,false,false] (by kernel_rfl) rfl rfl ⟨((HB.out.cell (World.block_lt_of_cell? w _ hw314_0)).trans hw314_0),((HB.out.cell (World.block_lt_of_cell? w _ hw314_1)).trans hw314_1),((HB.out.cell (World.block_lt_of_cell? w _ hw314_2)).trans hw314_2),((HB.out.cell (World.block_lt_of_cell? w _ hw314_3)).trans hw314_3),((HB.out.cell (World.block_lt_of_cell? w _ hw314_4)).trans hw314_4)⟩ (fun hHeld => ?_); refine with_tabW laws_heldAcctS.tab4 laws_heldAcctS.bits4 (fun HT_ HW_ => ?_)
          generalize wr.drew = w14 at HB HR314_4 hx314_0 hx314_1 hx314_2 hx314_3 hx314_4 hHeld ⊢
          refine pure_ (i := 0) (N := some 12) (v := ?_) (a' := ?_) #[true,false,false,false,false,false,false,false] rfl rfl (any_of HT_.out (by kernel_rfl)) (fun _ _ _ h => h) (Or.inl ⟨by rfl,?_⟩) ?_ ?_;rotate_left
          ·intro w';go_simp;with_reducible rfl
          rotate_left
          ·simp only [wf_preprocess];rfl
          refine pure_ (i := 1) (N := some 13) (v := ?_) (a' := ?_) #[true,true,false,false,false,false,false,false] rfl rfl (any_of HT_.out (by kernel_rfl)) (fun _ _ _ h => h) (Or.inl ⟨by rfl,?_⟩) ?_ ?_;rotate_left
          ·intro w';go_simp;with_reducible rfl
          rotate_left
          ·simp only [wf_preprocess];rfl
          refine pure_ (i := 2) (N := some 14) (v := ?_) (a' := ?_) #[true,true,true,false,false,false,false,false] rfl rfl (any_of HT_.out (by kernel_rfl)) (fun _ _ _ h => h) (Or.inl ⟨by rfl,?_⟩) ?_ ?_;rotate_left
          ·intro w';go_simp;with_reducible rfl
          rotate_left
          ·simp only [wf_preprocess];rfl
          refine pure_ (i := 3) (N := some 15) (v := ?_) (a' := ?_) #[true,true,true,true,false,false,false,false] rfl rfl (any_of HT_.out (by kernel_rfl)) (fun _ _ _ h => h) (Or.inl ⟨by rfl,?_⟩) ?_ ?_;rotate_left
          ·intro w';go_simp;with_reducible rfl
          rotate_left
          ·simp only [wf_preprocess];rfl
          refine pure_ (i := 5) (N := some 17) (v := ?_) (a' := ?_) #[true,true,true,true,false,true,false,false] rfl rfl (any_of HT_.out (by kernel_rfl)) (fun _ _ _ h => h) (Or.inl ⟨by rfl,?_⟩) ?_ ?_;rotate_left
          ·intro w';go_simp;with_reducible rfl
          rotate_left
          ·simp only [wf_preprocess];rfl
          refine take_ (i := 4) (N := some 16) (v := ?_) (a' := ?_) #[true,true,true,true,true,true,false,false] rfl rfl (take_ofW HT_.out HW_.out (by kernel_rfl)) (fun _ _ _ h => h) (Or.inl ⟨by rfl,?_⟩) hHeld ?_ ?_;rotate_left
          ·rintro w' ⟨s0,s1,s2,s3,s4⟩;go_simp;with_reducible rfl
          rotate_left
          ·simp only [wf_preprocess];rfl
          refine one_ (i := 6) (N := some 18) #[true,true,true,true,true,true,true,false] rfl rfl (one_of HT_.out (by kernel_rfl)) (by decide) (fun K hK => ?_);refine goes_ Try.func74 (by kernel_rfl) rfl #[.int .i64 x1_1] (by rfl) rfl rfl (by (try simp only [List.map_toArray,List.map_cons,List.map_nil]); rfl) ?_
          with_reducible refine (laws_markText.calls k1 x1_1 t315 _ A5.out).mono ?_
          rintro e w15 ⟨rfl,hb⟩;refine ⟨_,rfl,?_⟩;have n0_ := Aside0.mk (below_step HB.out hb);clear HB;have HB := n0_;clear n0_
          (try clear hb)
          skip
          skip
          skip
          refine hK.out _ _ ⟨((HB.out.cell (World.block_lt_of_cell? w _ hw314_0)).trans hw314_0),((HB.out.cell (World.block_lt_of_cell? w _ hw314_1)).trans hw314_1),((HB.out.cell (World.block_lt_of_cell? w _ hw314_2)).trans hw314_2),((HB.out.cell (World.block_lt_of_cell? w _ hw314_3)).trans hw314_3),((HB.out.cell (World.block_lt_of_cell? w _ hw314_4)).trans hw314_4)⟩ (fun hHeld => ?_);clear hK K;refine norm_ (a' := ?_) ?_ ?_;rotate_left
          ·show Act.put _ (some 18) _ = _
           simp only [wf_preprocess];rfl
          refine pure_ (i := 7) (N := some 19) (v := ?_) (a' := ?_) #[true,true,true,true,true,true,true,true] rfl rfl (any_of HT_.out (by kernel_rfl)) (fun _ _ _ h => h) (Or.inl ⟨by rfl,?_⟩) ?_ ?_;rotate_left
          ·intro w';go_simp;with_reducible rfl
          rotate_left
          ·simp only [wf_preprocess];rfl
          refine done_ (done_of HT_.out (by kernel_rfl)) ?_;have p316 : 0 ≤ (x5_1 : Int) := of_decide_eq_true (by (with_reducible assumption));have q316 : x5_1 < (l0.length : Int) := of_decide_eq_true (by (with_reducible assumption));obtain ⟨ad316,A316_4,c316_4,e316,hx316_0,hx316_1,hx316_2,hx316_3,hx316_4,hl316_4,hi316_4⟩ := at_T63 HR0.out x5_1 p316 q316;obtain rfl : ad314 = ad316 := (by injection e316);replace hx316_0 := (HB.out.cell (World.block_lt_of_cell? w _ hx316_0)).trans hx316_0;replace hx316_1 := (HB.out.cell (World.block_lt_of_cell? w _ hx316_1)).trans hx316_1;replace hx316_2 := (HB.out.cell (World.block_lt_of_cell? w _ hx316_2)).trans hx316_2;replace hx316_3 := (HB.out.cell (World.block_lt_of_cell? w _ hx316_3)).trans hx316_3;replace hx316_4 := (HB.out.cell (World.block_lt_of_cell? w _ hx316_4)).trans hx316_4;have HR316_4 := Aside0.mk hi316_4;have HC316_4 := Aside0.mk hl316_4;clear hi316_4 hl316_4;replace p316 := eq_true p316;replace q316 := eq_true q316
          (try clear hHeld)
          have p317 : 0 ≤ (x5_1 : Int) := of_decide_eq_true (by (with_reducible assumption));have q317 : x5_1 < (l0.length : Int) := of_decide_eq_true (by (with_reducible assumption));obtain ⟨ad317,A317_4,c317_4,e317,hx317_0,hx317_1,hx317_2,hx317_3,hx317_4,hl317_4,hi317_4⟩ := at_T63 HR0.out x5_1 p317 q317;obtain rfl : ad314 = ad317 := (by injection e317);replace hx317_0 := (HB.out.cell (World.block_lt_of_cell? w _ hx317_0)).trans hx317_0;replace hx317_1 := (HB.out.cell (World.block_lt_of_cell? w _ hx317_1)).trans hx317_1;replace hx317_2 := (HB.out.cell (World.block_lt_of_cell? w _ hx317_2)).trans hx317_2;replace hx317_3 := (HB.out.cell (World.block_lt_of_cell? w _ hx317_3)).trans hx317_3;replace hx317_4 := (HB.out.cell (World.block_lt_of_cell? w _ hx317_4)).trans hx317_4;have HR317_4 := Aside0.mk hi317_4;have HC317_4 := Aside0.mk hl317_4;clear hi317_4 hl317_4;replace p317 := eq_true p317;replace q317 := eq_true q317;have ea_ := Option.some.inj (hx316_4.symm.trans hx317_4)
          injection ea_ with ea_ en_ ec_
          subst ea_;subst ec_;clear en_;have p318 : 0 ≤ (x5_1 : Int) := of_decide_eq_true (by (with_reducible assumption));have q318 : x5_1 < (l0.length : Int) := of_decide_eq_true (by (with_reducible assumption));obtain ⟨ad318,A318_4,c318_4,e318,hx318_0,hx318_1,hx318_2,hx318_3,hx318_4,hl318_4,hi318_4⟩ := at_T63 HR0.out x5_1 p318 q318;obtain rfl : ad314 = ad318 := (by injection e318);replace hx318_0 := (HB.out.cell (World.block_lt_of_cell? w _ hx318_0)).trans hx318_0;replace hx318_1 := (HB.out.cell (World.block_lt_of_cell? w _ hx318_1)).trans hx318_1;replace hx318_2 := (HB.out.cell (World.block_lt_of_cell? w _ hx318_2)).trans hx318_2;replace hx318_3 := (HB.out.cell (World.block_lt_of_cell? w _ hx318_3)).trans hx318_3;replace hx318_4 := (HB.out.cell (World.block_lt_of_cell? w _ hx318_4)).trans hx318_4;have HR318_4 := Aside0.mk hi318_4;have HC318_4 := Aside0.mk hl318_4;clear hi318_4 hl318_4;replace p318 := eq_true p318;replace q318 := eq_true q318;have ea_ := Option.some.inj (hx316_4.symm.trans hx318_4)
          injection ea_ with ea_ en_ ec_
          subst ea_;subst ec_;clear en_;have p319 : 0 ≤ (x5_1 : Int) := of_decide_eq_true (by (with_reducible assumption));have q319 : x5_1 < (l0.length : Int) := of_decide_eq_true (by (with_reducible assumption));obtain ⟨ad319,A319_4,c319_4,e319,hx319_0,hx319_1,hx319_2,hx319_3,hx319_4,hl319_4,hi319_4⟩ := at_T63 HR0.out x5_1 p319 q319;obtain rfl : ad314 = ad319 := (by injection e319);replace hx319_0 := (HB.out.cell (World.block_lt_of_cell? w _ hx319_0)).trans hx319_0;replace hx319_1 := (HB.out.cell (World.block_lt_of_cell? w _ hx319_1)).trans hx319_1;replace hx319_2 := (HB.out.cell (World.block_lt_of_cell? w _ hx319_2)).trans hx319_2;replace hx319_3 := (HB.out.cell (World.block_lt_of_cell? w _ hx319_3)).trans hx319_3;replace hx319_4 := (HB.out.cell (World.block_lt_of_cell? w _ hx319_4)).trans hx319_4;have HR319_4 := Aside0.mk hi319_4;have HC319_4 := Aside0.mk hl319_4;clear hi319_4 hl319_4;replace p319 := eq_true p319;replace q319 := eq_true q319;have ea_ := Option.some.inj (hx316_4.symm.trans hx319_4)
          injection ea_ with ea_ en_ ec_
          subst ea_;subst ec_;clear en_
          try go_wp2_with (((with_reducible refine gate_callee (f := 103) rfl ?_); refine goesL_ (some 55) rfl rfl Try.func103 (by kernel_rfl) rfl #[.slice A316_4 ((rd_T63 l0 x5_1).f4).length c316_4,.int .i64 (wrap64 ((wrap64 ((wrap64 ((wrap64 (x1_1 + 1)) + 1)) + 1)) + 1))] rfl (by (try simp only [List.map_toArray,List.map_cons,List.map_nil]); rfl) ?_; (with_reducible refine (laws_heldLeaveS.calls k1 _ _ ((rd_T63 l0 x5_1).f4) (wrap64 ((wrap64 ((wrap64 ((wrap64 (x1_1 + 1)) + 1)) + 1)) + 1)) t320 _ ?side1 ?side2 A10.out).mono ?_); (case side1 => repeat (exact (Kd.C_below HR319_4.out HB.out))); (case side2 => exact HC319_4.out); rintro e w' ⟨rfl,⟨nd,rfl⟩⟩; refine ⟨_,rfl,?_⟩))
          go_roundg k1
          case measure => have := HK1.out; omega
          case rel => exact ⟨(t320),(wrap64 (x5_1 + 1)),(by rfl),(by rfl),H',⟨by have := HK1.out; omega⟩,⟨by repeat (with_reducible first | exact HB.out | apply pw_below_drewN)⟩⟩
        ·rw [if_neg c9] at H;have c9b0 : (((rd_T63 l0 x5_1).f3) == (wrap64 ((wrap64 ((wrap64 (x1_1 + 1)) + 1)) + 1))) = false := beq_eq_false_iff_ne.mpr c9;have c9b1 : (((rd_T63 l0 x5_1).f3) != (wrap64 ((wrap64 ((wrap64 (x1_1 + 1)) + 1)) + 1))) = true := bne_iff_ne.mpr c9;obtain rfl := Option.some.inj H
         try go_wp2
         have n0_ := Aside0.mk (below_drew1 HB.out);clear HB;have HB := n0_;clear n0_;have p314 : 0 ≤ (x5_1 : Int) := of_decide_eq_true (by (with_reducible assumption));have q314 : x5_1 < (l0.length : Int) := of_decide_eq_true (by (with_reducible assumption));obtain ⟨ad314,A314_4,c314_4,e314,hx314_0,hx314_1,hx314_2,hx314_3,hx314_4,hl314_4,hi314_4⟩ := at_T63 HR0.out x5_1 p314 q314;have hw314_4 := hx314_4;have hw314_3 := hx314_3;have hw314_2 := hx314_2;have hw314_1 := hx314_1;have hw314_0 := hx314_0
         cases e314
         replace hx314_0 := (HB.out.cell (World.block_lt_of_cell? w _ hx314_0)).trans hx314_0;replace hx314_1 := (HB.out.cell (World.block_lt_of_cell? w _ hx314_1)).trans hx314_1;replace hx314_2 := (HB.out.cell (World.block_lt_of_cell? w _ hx314_2)).trans hx314_2;replace hx314_3 := (HB.out.cell (World.block_lt_of_cell? w _ hx314_3)).trans hx314_3;replace hx314_4 := (HB.out.cell (World.block_lt_of_cell? w _ hx314_4)).trans hx314_4;have HR314_4 := Aside0.mk hi314_4;have HC314_4 := Aside0.mk hl314_4;clear hi314_4 hl314_4;replace p314 := eq_true p314;replace q314 := eq_true q314;refine start_ (n := 8) (S := fun w' => w'.cell? (ad314.add ((x5_1).toNat * 5)) = some (.string ((rd_T63 l0 x5_1).f0)) ∧ w'.cell? ⟨(ad314.add ((x5_1).toNat * 5)).block,(ad314.add ((x5_1).toNat * 5)).off + 1,none⟩ = some (.int .i64 ((rd_T63 l0 x5_1).f1)) ∧ w'.cell? ⟨(ad314.add ((x5_1).toNat * 5)).block,(ad314.add ((x5_1).toNat * 5)).off + 2,none⟩ = some (.int .i64 ((rd_T63 l0 x5_1).f2)) ∧ w'.cell? ⟨(ad314.add ((x5_1).toNat * 5)).block,(ad314.add ((x5_1).toNat * 5)).off + 3,none⟩ = some (.int .i64 ((rd_T63 l0 x5_1).f3)) ∧ w'.cell? ⟨(ad314.add ((x5_1).toNat * 5)).block,(ad314.add ((x5_1).toNat * 5)).off + 4,none⟩ = some (.slice A314_4 ((rd_T63 l0 x5_1).f4).length c314_4)) (ds := []) #[false,false,false,false,false,false,false,false] (by kernel_rfl) rfl rfl ⟨((HB.out.cell (World.block_lt_of_cell? w _ hw314_0)).trans hw314_0),((HB.out.cell (World.block_lt_of_cell? w _ hw314_1)).trans hw314_1),((HB.out.cell (World.block_lt_of_cell? w _ hw314_2)).trans hw314_2),((HB.out.cell (World.block_lt_of_cell? w _ hw314_3)).trans hw314_3),((HB.out.cell (World.block_lt_of_cell? w _ hw314_4)).trans hw314_4)⟩ (fun hHeld => ?_); refine with_tabW laws_heldAcctS.tab4 laws_heldAcctS.bits4 (fun HT_ HW_ => ?_)
         generalize wr.drew = w16 at HB HR314_4 hx314_0 hx314_1 hx314_2 hx314_3 hx314_4 hHeld ⊢
         refine pure_ (i := 0) (N := some 12) (v := ?_) (a' := ?_) #[true,false,false,false,false,false,false,false] rfl rfl (any_of HT_.out (by kernel_rfl)) (fun _ _ _ h => h) (Or.inl ⟨by rfl,?_⟩) ?_ ?_;rotate_left
         ·intro w';go_simp;with_reducible rfl
         rotate_left
         ·simp only [wf_preprocess];rfl
         refine pure_ (i := 1) (N := some 13) (v := ?_) (a' := ?_) #[true,true,false,false,false,false,false,false] rfl rfl (any_of HT_.out (by kernel_rfl)) (fun _ _ _ h => h) (Or.inl ⟨by rfl,?_⟩) ?_ ?_;rotate_left
         ·intro w';go_simp;with_reducible rfl
         rotate_left
         ·simp only [wf_preprocess];rfl
         refine pure_ (i := 2) (N := some 14) (v := ?_) (a' := ?_) #[true,true,true,false,false,false,false,false] rfl rfl (any_of HT_.out (by kernel_rfl)) (fun _ _ _ h => h) (Or.inl ⟨by rfl,?_⟩) ?_ ?_;rotate_left
         ·intro w';go_simp;with_reducible rfl
         rotate_left
         ·simp only [wf_preprocess];rfl
         refine pure_ (i := 3) (N := some 15) (v := ?_) (a' := ?_) #[true,true,true,true,false,false,false,false] rfl rfl (any_of HT_.out (by kernel_rfl)) (fun _ _ _ h => h) (Or.inl ⟨by rfl,?_⟩) ?_ ?_;rotate_left
         ·intro w';go_simp;with_reducible rfl
         rotate_left
         ·simp only [wf_preprocess];rfl
         refine pure_ (i := 5) (N := some 17) (v := ?_) (a' := ?_) #[true,true,true,true,false,true,false,false] rfl rfl (any_of HT_.out (by kernel_rfl)) (fun _ _ _ h => h) (Or.inl ⟨by rfl,?_⟩) ?_ ?_;rotate_left
         ·intro w';go_simp;with_reducible rfl
         rotate_left
         ·simp only [wf_preprocess];rfl
         refine take_ (i := 4) (N := some 16) (v := ?_) (a' := ?_) #[true,true,true,true,true,true,false,false] rfl rfl (take_ofW HT_.out HW_.out (by kernel_rfl)) (fun _ _ _ h => h) (Or.inl ⟨by rfl,?_⟩) hHeld ?_ ?_;rotate_left
         ·rintro w' ⟨s0,s1,s2,s3,s4⟩;go_simp;with_reducible rfl
         rotate_left
         ·simp only [wf_preprocess];rfl
         refine one_ (i := 6) (N := some 18) #[true,true,true,true,true,true,true,false] rfl rfl (one_of HT_.out (by kernel_rfl)) (by decide) (fun K hK => ?_);refine goes_ Try.func74 (by kernel_rfl) rfl #[.int .i64 x1_1] (by rfl) rfl rfl (by (try simp only [List.map_toArray,List.map_cons,List.map_nil]); rfl) ?_
         with_reducible refine (laws_markText.calls k1 x1_1 t315 _ A5.out).mono ?_
         rintro e w17 ⟨rfl,hb⟩;refine ⟨_,rfl,?_⟩;have n0_ := Aside0.mk (below_step HB.out hb);clear HB;have HB := n0_;clear n0_
         (try clear hb)
         skip
         skip
         skip
         refine hK.out _ _ ⟨((HB.out.cell (World.block_lt_of_cell? w _ hw314_0)).trans hw314_0),((HB.out.cell (World.block_lt_of_cell? w _ hw314_1)).trans hw314_1),((HB.out.cell (World.block_lt_of_cell? w _ hw314_2)).trans hw314_2),((HB.out.cell (World.block_lt_of_cell? w _ hw314_3)).trans hw314_3),((HB.out.cell (World.block_lt_of_cell? w _ hw314_4)).trans hw314_4)⟩ (fun hHeld => ?_);clear hK K;refine norm_ (a' := ?_) ?_ ?_;rotate_left
         ·show Act.put _ (some 18) _ = _
          simp only [wf_preprocess];rfl
         refine pure_ (i := 7) (N := some 19) (v := ?_) (a' := ?_) #[true,true,true,true,true,true,true,true] rfl rfl (any_of HT_.out (by kernel_rfl)) (fun _ _ _ h => h) (Or.inl ⟨by rfl,?_⟩) ?_ ?_;rotate_left
         ·intro w';go_simp;with_reducible rfl
         rotate_left
         ·simp only [wf_preprocess];rfl
         refine done_ (done_of HT_.out (by kernel_rfl)) ?_;have p316 : 0 ≤ (x5_1 : Int) := of_decide_eq_true (by (with_reducible assumption));have q316 : x5_1 < (l0.length : Int) := of_decide_eq_true (by (with_reducible assumption));obtain ⟨ad316,A316_4,c316_4,e316,hx316_0,hx316_1,hx316_2,hx316_3,hx316_4,hl316_4,hi316_4⟩ := at_T63 HR0.out x5_1 p316 q316;obtain rfl : ad314 = ad316 := (by injection e316);replace hx316_0 := (HB.out.cell (World.block_lt_of_cell? w _ hx316_0)).trans hx316_0;replace hx316_1 := (HB.out.cell (World.block_lt_of_cell? w _ hx316_1)).trans hx316_1;replace hx316_2 := (HB.out.cell (World.block_lt_of_cell? w _ hx316_2)).trans hx316_2;replace hx316_3 := (HB.out.cell (World.block_lt_of_cell? w _ hx316_3)).trans hx316_3;replace hx316_4 := (HB.out.cell (World.block_lt_of_cell? w _ hx316_4)).trans hx316_4;have HR316_4 := Aside0.mk hi316_4;have HC316_4 := Aside0.mk hl316_4;clear hi316_4 hl316_4;replace p316 := eq_true p316;replace q316 := eq_true q316
         (try clear hHeld)
         have p317 : 0 ≤ (x5_1 : Int) := of_decide_eq_true (by (with_reducible assumption));have q317 : x5_1 < (l0.length : Int) := of_decide_eq_true (by (with_reducible assumption));obtain ⟨ad317,A317_4,c317_4,e317,hx317_0,hx317_1,hx317_2,hx317_3,hx317_4,hl317_4,hi317_4⟩ := at_T63 HR0.out x5_1 p317 q317;obtain rfl : ad314 = ad317 := (by injection e317);replace hx317_0 := (HB.out.cell (World.block_lt_of_cell? w _ hx317_0)).trans hx317_0;replace hx317_1 := (HB.out.cell (World.block_lt_of_cell? w _ hx317_1)).trans hx317_1;replace hx317_2 := (HB.out.cell (World.block_lt_of_cell? w _ hx317_2)).trans hx317_2;replace hx317_3 := (HB.out.cell (World.block_lt_of_cell? w _ hx317_3)).trans hx317_3;replace hx317_4 := (HB.out.cell (World.block_lt_of_cell? w _ hx317_4)).trans hx317_4;have HR317_4 := Aside0.mk hi317_4;have HC317_4 := Aside0.mk hl317_4;clear hi317_4 hl317_4;replace p317 := eq_true p317;replace q317 := eq_true q317;have ea_ := Option.some.inj (hx316_4.symm.trans hx317_4)
         injection ea_ with ea_ en_ ec_
         subst ea_;subst ec_;clear en_;have p318 : 0 ≤ (x5_1 : Int) := of_decide_eq_true (by (with_reducible assumption));have q318 : x5_1 < (l0.length : Int) := of_decide_eq_true (by (with_reducible assumption));obtain ⟨ad318,A318_4,c318_4,e318,hx318_0,hx318_1,hx318_2,hx318_3,hx318_4,hl318_4,hi318_4⟩ := at_T63 HR0.out x5_1 p318 q318;obtain rfl : ad314 = ad318 := (by injection e318);replace hx318_0 := (HB.out.cell (World.block_lt_of_cell? w _ hx318_0)).trans hx318_0;replace hx318_1 := (HB.out.cell (World.block_lt_of_cell? w _ hx318_1)).trans hx318_1;replace hx318_2 := (HB.out.cell (World.block_lt_of_cell? w _ hx318_2)).trans hx318_2;replace hx318_3 := (HB.out.cell (World.block_lt_of_cell? w _ hx318_3)).trans hx318_3;replace hx318_4 := (HB.out.cell (World.block_lt_of_cell? w _ hx318_4)).trans hx318_4;have HR318_4 := Aside0.mk hi318_4;have HC318_4 := Aside0.mk hl318_4;clear hi318_4 hl318_4;replace p318 := eq_true p318;replace q318 := eq_true q318;have ea_ := Option.some.inj (hx316_4.symm.trans hx318_4)
         injection ea_ with ea_ en_ ec_
         subst ea_;subst ec_;clear en_
         try go_wp2
         go_ret;exact ⟨by rfl,HB.out⟩
       ·rw [if_neg c8] at H;have c8b0 : (((rd_T63 l0 x5_1).f2) == (wrap64 ((wrap64 (x1_1 + 1)) + 1))) = false := beq_eq_false_iff_ne.mpr c8;have c8b1 : (((rd_T63 l0 x5_1).f2) != (wrap64 ((wrap64 (x1_1 + 1)) + 1))) = true := bne_iff_ne.mpr c8;obtain rfl := Option.some.inj H
        try go_wp2
        have n0_ := Aside0.mk (below_drew1 HB.out);clear HB;have HB := n0_;clear n0_;have p314 : 0 ≤ (x5_1 : Int) := of_decide_eq_true (by (with_reducible assumption));have q314 : x5_1 < (l0.length : Int) := of_decide_eq_true (by (with_reducible assumption));obtain ⟨ad314,A314_4,c314_4,e314,hx314_0,hx314_1,hx314_2,hx314_3,hx314_4,hl314_4,hi314_4⟩ := at_T63 HR0.out x5_1 p314 q314;have hw314_4 := hx314_4;have hw314_3 := hx314_3;have hw314_2 := hx314_2;have hw314_1 := hx314_1;have hw314_0 := hx314_0
        cases e314
        replace hx314_0 := (HB.out.cell (World.block_lt_of_cell? w _ hx314_0)).trans hx314_0;replace hx314_1 := (HB.out.cell (World.block_lt_of_cell? w _ hx314_1)).trans hx314_1;replace hx314_2 := (HB.out.cell (World.block_lt_of_cell? w _ hx314_2)).trans hx314_2;replace hx314_3 := (HB.out.cell (World.block_lt_of_cell? w _ hx314_3)).trans hx314_3;replace hx314_4 := (HB.out.cell (World.block_lt_of_cell? w _ hx314_4)).trans hx314_4;have HR314_4 := Aside0.mk hi314_4;have HC314_4 := Aside0.mk hl314_4;clear hi314_4 hl314_4;replace p314 := eq_true p314;replace q314 := eq_true q314;refine start_ (n := 8) (S := fun w' => w'.cell? (ad314.add ((x5_1).toNat * 5)) = some (.string ((rd_T63 l0 x5_1).f0)) ∧ w'.cell? ⟨(ad314.add ((x5_1).toNat * 5)).block,(ad314.add ((x5_1).toNat * 5)).off + 1,none⟩ = some (.int .i64 ((rd_T63 l0 x5_1).f1)) ∧ w'.cell? ⟨(ad314.add ((x5_1).toNat * 5)).block,(ad314.add ((x5_1).toNat * 5)).off + 2,none⟩ = some (.int .i64 ((rd_T63 l0 x5_1).f2)) ∧ w'.cell? ⟨(ad314.add ((x5_1).toNat * 5)).block,(ad314.add ((x5_1).toNat * 5)).off + 3,none⟩ = some (.int .i64 ((rd_T63 l0 x5_1).f3)) ∧ w'.cell? ⟨(ad314.add ((x5_1).toNat * 5)).block,(ad314.add ((x5_1).toNat * 5)).off + 4,none⟩ = some (.slice A314_4 ((rd_T63 l0 x5_1).f4).length c314_4)) (ds := []) #[false,false,false,false,false,false,false,false] (by kernel_rfl) rfl rfl ⟨((HB.out.cell (World.block_lt_of_cell? w _ hw314_0)).trans hw314_0),((HB.out.cell (World.block_lt_of_cell? w _ hw314_1)).trans hw314_1),((HB.out.cell (World.block_lt_of_cell? w _ hw314_2)).trans hw314_2),((HB.out.cell (World.block_lt_of_cell? w _ hw314_3)).trans hw314_3),((HB.out.cell (World.block_lt_of_cell? w _ hw314_4)).trans hw314_4)⟩ (fun hHeld => ?_); refine with_tabW laws_heldAcctS.tab4 laws_heldAcctS.bits4 (fun HT_ HW_ => ?_)
        generalize wr.drew = w18 at HB HR314_4 hx314_0 hx314_1 hx314_2 hx314_3 hx314_4 hHeld ⊢
        refine pure_ (i := 0) (N := some 12) (v := ?_) (a' := ?_) #[true,false,false,false,false,false,false,false] rfl rfl (any_of HT_.out (by kernel_rfl)) (fun _ _ _ h => h) (Or.inl ⟨by rfl,?_⟩) ?_ ?_;rotate_left
        ·intro w';go_simp;with_reducible rfl
        rotate_left
        ·simp only [wf_preprocess];rfl
        refine pure_ (i := 1) (N := some 13) (v := ?_) (a' := ?_) #[true,true,false,false,false,false,false,false] rfl rfl (any_of HT_.out (by kernel_rfl)) (fun _ _ _ h => h) (Or.inl ⟨by rfl,?_⟩) ?_ ?_;rotate_left
        ·intro w';go_simp;with_reducible rfl
        rotate_left
        ·simp only [wf_preprocess];rfl
        refine pure_ (i := 2) (N := some 14) (v := ?_) (a' := ?_) #[true,true,true,false,false,false,false,false] rfl rfl (any_of HT_.out (by kernel_rfl)) (fun _ _ _ h => h) (Or.inl ⟨by rfl,?_⟩) ?_ ?_;rotate_left
        ·intro w';go_simp;with_reducible rfl
        rotate_left
        ·simp only [wf_preprocess];rfl
        refine pure_ (i := 3) (N := some 15) (v := ?_) (a' := ?_) #[true,true,true,true,false,false,false,false] rfl rfl (any_of HT_.out (by kernel_rfl)) (fun _ _ _ h => h) (Or.inl ⟨by rfl,?_⟩) ?_ ?_;rotate_left
        ·intro w';go_simp;with_reducible rfl
        rotate_left
        ·simp only [wf_preprocess];rfl
        refine pure_ (i := 5) (N := some 17) (v := ?_) (a' := ?_) #[true,true,true,true,false,true,false,false] rfl rfl (any_of HT_.out (by kernel_rfl)) (fun _ _ _ h => h) (Or.inl ⟨by rfl,?_⟩) ?_ ?_;rotate_left
        ·intro w';go_simp;with_reducible rfl
        rotate_left
        ·simp only [wf_preprocess];rfl
        refine take_ (i := 4) (N := some 16) (v := ?_) (a' := ?_) #[true,true,true,true,true,true,false,false] rfl rfl (take_ofW HT_.out HW_.out (by kernel_rfl)) (fun _ _ _ h => h) (Or.inl ⟨by rfl,?_⟩) hHeld ?_ ?_;rotate_left
        ·rintro w' ⟨s0,s1,s2,s3,s4⟩;go_simp;with_reducible rfl
        rotate_left
        ·simp only [wf_preprocess];rfl
        refine one_ (i := 6) (N := some 18) #[true,true,true,true,true,true,true,false] rfl rfl (one_of HT_.out (by kernel_rfl)) (by decide) (fun K hK => ?_);refine goes_ Try.func74 (by kernel_rfl) rfl #[.int .i64 x1_1] (by rfl) rfl rfl (by (try simp only [List.map_toArray,List.map_cons,List.map_nil]); rfl) ?_
        with_reducible refine (laws_markText.calls k1 x1_1 t315 _ A5.out).mono ?_
        rintro e w19 ⟨rfl,hb⟩;refine ⟨_,rfl,?_⟩;have n0_ := Aside0.mk (below_step HB.out hb);clear HB;have HB := n0_;clear n0_
        (try clear hb)
        skip
        skip
        skip
        refine hK.out _ _ ⟨((HB.out.cell (World.block_lt_of_cell? w _ hw314_0)).trans hw314_0),((HB.out.cell (World.block_lt_of_cell? w _ hw314_1)).trans hw314_1),((HB.out.cell (World.block_lt_of_cell? w _ hw314_2)).trans hw314_2),((HB.out.cell (World.block_lt_of_cell? w _ hw314_3)).trans hw314_3),((HB.out.cell (World.block_lt_of_cell? w _ hw314_4)).trans hw314_4)⟩ (fun hHeld => ?_);clear hK K;refine norm_ (a' := ?_) ?_ ?_;rotate_left
        ·show Act.put _ (some 18) _ = _
         simp only [wf_preprocess];rfl
        refine pure_ (i := 7) (N := some 19) (v := ?_) (a' := ?_) #[true,true,true,true,true,true,true,true] rfl rfl (any_of HT_.out (by kernel_rfl)) (fun _ _ _ h => h) (Or.inl ⟨by rfl,?_⟩) ?_ ?_;rotate_left
        ·intro w';go_simp;with_reducible rfl
        rotate_left
        ·simp only [wf_preprocess];rfl
        refine done_ (done_of HT_.out (by kernel_rfl)) ?_;have p316 : 0 ≤ (x5_1 : Int) := of_decide_eq_true (by (with_reducible assumption));have q316 : x5_1 < (l0.length : Int) := of_decide_eq_true (by (with_reducible assumption));obtain ⟨ad316,A316_4,c316_4,e316,hx316_0,hx316_1,hx316_2,hx316_3,hx316_4,hl316_4,hi316_4⟩ := at_T63 HR0.out x5_1 p316 q316;obtain rfl : ad314 = ad316 := (by injection e316);replace hx316_0 := (HB.out.cell (World.block_lt_of_cell? w _ hx316_0)).trans hx316_0;replace hx316_1 := (HB.out.cell (World.block_lt_of_cell? w _ hx316_1)).trans hx316_1;replace hx316_2 := (HB.out.cell (World.block_lt_of_cell? w _ hx316_2)).trans hx316_2;replace hx316_3 := (HB.out.cell (World.block_lt_of_cell? w _ hx316_3)).trans hx316_3;replace hx316_4 := (HB.out.cell (World.block_lt_of_cell? w _ hx316_4)).trans hx316_4;have HR316_4 := Aside0.mk hi316_4;have HC316_4 := Aside0.mk hl316_4;clear hi316_4 hl316_4;replace p316 := eq_true p316;replace q316 := eq_true q316
        (try clear hHeld)
        have p317 : 0 ≤ (x5_1 : Int) := of_decide_eq_true (by (with_reducible assumption));have q317 : x5_1 < (l0.length : Int) := of_decide_eq_true (by (with_reducible assumption));obtain ⟨ad317,A317_4,c317_4,e317,hx317_0,hx317_1,hx317_2,hx317_3,hx317_4,hl317_4,hi317_4⟩ := at_T63 HR0.out x5_1 p317 q317;obtain rfl : ad314 = ad317 := (by injection e317);replace hx317_0 := (HB.out.cell (World.block_lt_of_cell? w _ hx317_0)).trans hx317_0;replace hx317_1 := (HB.out.cell (World.block_lt_of_cell? w _ hx317_1)).trans hx317_1;replace hx317_2 := (HB.out.cell (World.block_lt_of_cell? w _ hx317_2)).trans hx317_2;replace hx317_3 := (HB.out.cell (World.block_lt_of_cell? w _ hx317_3)).trans hx317_3;replace hx317_4 := (HB.out.cell (World.block_lt_of_cell? w _ hx317_4)).trans hx317_4;have HR317_4 := Aside0.mk hi317_4;have HC317_4 := Aside0.mk hl317_4;clear hi317_4 hl317_4;replace p317 := eq_true p317;replace q317 := eq_true q317;have ea_ := Option.some.inj (hx316_4.symm.trans hx317_4)
        injection ea_ with ea_ en_ ec_
        subst ea_;subst ec_;clear en_
        try go_wp2
        go_ret;exact ⟨by rfl,HB.out⟩
      ·rw [if_neg c7] at H;have c7b0 : (((rd_T63 l0 x5_1).f1) == (wrap64 (x1_1 + 1))) = false := beq_eq_false_iff_ne.mpr c7;have c7b1 : (((rd_T63 l0 x5_1).f1) != (wrap64 (x1_1 + 1))) = true := bne_iff_ne.mpr c7;obtain rfl := Option.some.inj H
       try go_wp2
       have n0_ := Aside0.mk (below_drew1 HB.out);clear HB;have HB := n0_;clear n0_;have p314 : 0 ≤ (x5_1 : Int) := of_decide_eq_true (by (with_reducible assumption));have q314 : x5_1 < (l0.length : Int) := of_decide_eq_true (by (with_reducible assumption));obtain ⟨ad314,A314_4,c314_4,e314,hx314_0,hx314_1,hx314_2,hx314_3,hx314_4,hl314_4,hi314_4⟩ := at_T63 HR0.out x5_1 p314 q314;have hw314_4 := hx314_4;have hw314_3 := hx314_3;have hw314_2 := hx314_2;have hw314_1 := hx314_1;have hw314_0 := hx314_0
       cases e314
       replace hx314_0 := (HB.out.cell (World.block_lt_of_cell? w _ hx314_0)).trans hx314_0;replace hx314_1 := (HB.out.cell (World.block_lt_of_cell? w _ hx314_1)).trans hx314_1;replace hx314_2 := (HB.out.cell (World.block_lt_of_cell? w _ hx314_2)).trans hx314_2;replace hx314_3 := (HB.out.cell (World.block_lt_of_cell? w _ hx314_3)).trans hx314_3;replace hx314_4 := (HB.out.cell (World.block_lt_of_cell? w _ hx314_4)).trans hx314_4;have HR314_4 := Aside0.mk hi314_4;have HC314_4 := Aside0.mk hl314_4;clear hi314_4 hl314_4;replace p314 := eq_true p314;replace q314 := eq_true q314;refine start_ (n := 8) (S := fun w' => w'.cell? (ad314.add ((x5_1).toNat * 5)) = some (.string ((rd_T63 l0 x5_1).f0)) ∧ w'.cell? ⟨(ad314.add ((x5_1).toNat * 5)).block,(ad314.add ((x5_1).toNat * 5)).off + 1,none⟩ = some (.int .i64 ((rd_T63 l0 x5_1).f1)) ∧ w'.cell? ⟨(ad314.add ((x5_1).toNat * 5)).block,(ad314.add ((x5_1).toNat * 5)).off + 2,none⟩ = some (.int .i64 ((rd_T63 l0 x5_1).f2)) ∧ w'.cell? ⟨(ad314.add ((x5_1).toNat * 5)).block,(ad314.add ((x5_1).toNat * 5)).off + 3,none⟩ = some (.int .i64 ((rd_T63 l0 x5_1).f3)) ∧ w'.cell? ⟨(ad314.add ((x5_1).toNat * 5)).block,(ad314.add ((x5_1).toNat * 5)).off + 4,none⟩ = some (.slice A314_4 ((rd_T63 l0 x5_1).f4).length c314_4)) (ds := []) #[false,false,false,false,false,false,false,false] (by kernel_rfl) rfl rfl ⟨((HB.out.cell (World.block_lt_of_cell? w _ hw314_0)).trans hw314_0),((HB.out.cell (World.block_lt_of_cell? w _ hw314_1)).trans hw314_1),((HB.out.cell (World.block_lt_of_cell? w _ hw314_2)).trans hw314_2),((HB.out.cell (World.block_lt_of_cell? w _ hw314_3)).trans hw314_3),((HB.out.cell (World.block_lt_of_cell? w _ hw314_4)).trans hw314_4)⟩ (fun hHeld => ?_); refine with_tabW laws_heldAcctS.tab4 laws_heldAcctS.bits4 (fun HT_ HW_ => ?_)
       generalize wr.drew = w20 at HB HR314_4 hx314_0 hx314_1 hx314_2 hx314_3 hx314_4 hHeld ⊢
       refine pure_ (i := 0) (N := some 12) (v := ?_) (a' := ?_) #[true,false,false,false,false,false,false,false] rfl rfl (any_of HT_.out (by kernel_rfl)) (fun _ _ _ h => h) (Or.inl ⟨by rfl,?_⟩) ?_ ?_;rotate_left
       ·intro w';go_simp;with_reducible rfl
       rotate_left
       ·simp only [wf_preprocess];rfl
       refine pure_ (i := 1) (N := some 13) (v := ?_) (a' := ?_) #[true,true,false,false,false,false,false,false] rfl rfl (any_of HT_.out (by kernel_rfl)) (fun _ _ _ h => h) (Or.inl ⟨by rfl,?_⟩) ?_ ?_;rotate_left
       ·intro w';go_simp;with_reducible rfl
       rotate_left
       ·simp only [wf_preprocess];rfl
       refine pure_ (i := 2) (N := some 14) (v := ?_) (a' := ?_) #[true,true,true,false,false,false,false,false] rfl rfl (any_of HT_.out (by kernel_rfl)) (fun _ _ _ h => h) (Or.inl ⟨by rfl,?_⟩) ?_ ?_;rotate_left
       ·intro w';go_simp;with_reducible rfl
       rotate_left
       ·simp only [wf_preprocess];rfl
       refine pure_ (i := 3) (N := some 15) (v := ?_) (a' := ?_) #[true,true,true,true,false,false,false,false] rfl rfl (any_of HT_.out (by kernel_rfl)) (fun _ _ _ h => h) (Or.inl ⟨by rfl,?_⟩) ?_ ?_;rotate_left
       ·intro w';go_simp;with_reducible rfl
       rotate_left
       ·simp only [wf_preprocess];rfl
       refine pure_ (i := 5) (N := some 17) (v := ?_) (a' := ?_) #[true,true,true,true,false,true,false,false] rfl rfl (any_of HT_.out (by kernel_rfl)) (fun _ _ _ h => h) (Or.inl ⟨by rfl,?_⟩) ?_ ?_;rotate_left
       ·intro w';go_simp;with_reducible rfl
       rotate_left
       ·simp only [wf_preprocess];rfl
       refine take_ (i := 4) (N := some 16) (v := ?_) (a' := ?_) #[true,true,true,true,true,true,false,false] rfl rfl (take_ofW HT_.out HW_.out (by kernel_rfl)) (fun _ _ _ h => h) (Or.inl ⟨by rfl,?_⟩) hHeld ?_ ?_;rotate_left
       ·rintro w' ⟨s0,s1,s2,s3,s4⟩;go_simp;with_reducible rfl
       rotate_left
       ·simp only [wf_preprocess];rfl
       refine one_ (i := 6) (N := some 18) #[true,true,true,true,true,true,true,false] rfl rfl (one_of HT_.out (by kernel_rfl)) (by decide) (fun K hK => ?_);refine goes_ Try.func74 (by kernel_rfl) rfl #[.int .i64 x1_1] (by rfl) rfl rfl (by (try simp only [List.map_toArray,List.map_cons,List.map_nil]); rfl) ?_
       with_reducible refine (laws_markText.calls k1 x1_1 t315 _ A5.out).mono ?_
       rintro e w21 ⟨rfl,hb⟩;refine ⟨_,rfl,?_⟩;have n0_ := Aside0.mk (below_step HB.out hb);clear HB;have HB := n0_;clear n0_
       (try clear hb)
       skip
       skip
       skip
       refine hK.out _ _ ⟨((HB.out.cell (World.block_lt_of_cell? w _ hw314_0)).trans hw314_0),((HB.out.cell (World.block_lt_of_cell? w _ hw314_1)).trans hw314_1),((HB.out.cell (World.block_lt_of_cell? w _ hw314_2)).trans hw314_2),((HB.out.cell (World.block_lt_of_cell? w _ hw314_3)).trans hw314_3),((HB.out.cell (World.block_lt_of_cell? w _ hw314_4)).trans hw314_4)⟩ (fun hHeld => ?_);clear hK K;refine norm_ (a' := ?_) ?_ ?_;rotate_left
       ·show Act.put _ (some 18) _ = _
        simp only [wf_preprocess];rfl
       refine pure_ (i := 7) (N := some 19) (v := ?_) (a' := ?_) #[true,true,true,true,true,true,true,true] rfl rfl (any_of HT_.out (by kernel_rfl)) (fun _ _ _ h => h) (Or.inl ⟨by rfl,?_⟩) ?_ ?_;rotate_left
       ·intro w';go_simp;with_reducible rfl
       rotate_left
       ·simp only [wf_preprocess];rfl
       refine done_ (done_of HT_.out (by kernel_rfl)) ?_;have p316 : 0 ≤ (x5_1 : Int) := of_decide_eq_true (by (with_reducible assumption));have q316 : x5_1 < (l0.length : Int) := of_decide_eq_true (by (with_reducible assumption));obtain ⟨ad316,A316_4,c316_4,e316,hx316_0,hx316_1,hx316_2,hx316_3,hx316_4,hl316_4,hi316_4⟩ := at_T63 HR0.out x5_1 p316 q316;obtain rfl : ad314 = ad316 := (by injection e316);replace hx316_0 := (HB.out.cell (World.block_lt_of_cell? w _ hx316_0)).trans hx316_0;replace hx316_1 := (HB.out.cell (World.block_lt_of_cell? w _ hx316_1)).trans hx316_1;replace hx316_2 := (HB.out.cell (World.block_lt_of_cell? w _ hx316_2)).trans hx316_2;replace hx316_3 := (HB.out.cell (World.block_lt_of_cell? w _ hx316_3)).trans hx316_3;replace hx316_4 := (HB.out.cell (World.block_lt_of_cell? w _ hx316_4)).trans hx316_4;have HR316_4 := Aside0.mk hi316_4;have HC316_4 := Aside0.mk hl316_4;clear hi316_4 hl316_4;replace p316 := eq_true p316;replace q316 := eq_true q316
       (try clear hHeld)
       try go_wp2
       go_ret;exact ⟨by rfl,HB.out⟩
     ·rw [if_neg c6] at H;have c6b0 : (((rd_T63 l0 x5_1).f0).toList == t315.toList) = false := beq_eq_false_iff_ne.mpr c6;have c6b1 : (((rd_T63 l0 x5_1).f0).toList != t315.toList) = true := bne_iff_ne.mpr c6;obtain rfl := Option.some.inj H
      try go_wp2
      have n0_ := Aside0.mk (below_drew1 HB.out);clear HB;have HB := n0_;clear n0_;have p314 : 0 ≤ (x5_1 : Int) := of_decide_eq_true (by (with_reducible assumption));have q314 : x5_1 < (l0.length : Int) := of_decide_eq_true (by (with_reducible assumption));obtain ⟨ad314,A314_4,c314_4,e314,hx314_0,hx314_1,hx314_2,hx314_3,hx314_4,hl314_4,hi314_4⟩ := at_T63 HR0.out x5_1 p314 q314;have hw314_4 := hx314_4;have hw314_3 := hx314_3;have hw314_2 := hx314_2;have hw314_1 := hx314_1;have hw314_0 := hx314_0
      cases e314
      replace hx314_0 := (HB.out.cell (World.block_lt_of_cell? w _ hx314_0)).trans hx314_0;replace hx314_1 := (HB.out.cell (World.block_lt_of_cell? w _ hx314_1)).trans hx314_1;replace hx314_2 := (HB.out.cell (World.block_lt_of_cell? w _ hx314_2)).trans hx314_2;replace hx314_3 := (HB.out.cell (World.block_lt_of_cell? w _ hx314_3)).trans hx314_3;replace hx314_4 := (HB.out.cell (World.block_lt_of_cell? w _ hx314_4)).trans hx314_4;have HR314_4 := Aside0.mk hi314_4;have HC314_4 := Aside0.mk hl314_4;clear hi314_4 hl314_4;replace p314 := eq_true p314;replace q314 := eq_true q314;refine start_ (n := 8) (S := fun w' => w'.cell? (ad314.add ((x5_1).toNat * 5)) = some (.string ((rd_T63 l0 x5_1).f0)) ∧ w'.cell? ⟨(ad314.add ((x5_1).toNat * 5)).block,(ad314.add ((x5_1).toNat * 5)).off + 1,none⟩ = some (.int .i64 ((rd_T63 l0 x5_1).f1)) ∧ w'.cell? ⟨(ad314.add ((x5_1).toNat * 5)).block,(ad314.add ((x5_1).toNat * 5)).off + 2,none⟩ = some (.int .i64 ((rd_T63 l0 x5_1).f2)) ∧ w'.cell? ⟨(ad314.add ((x5_1).toNat * 5)).block,(ad314.add ((x5_1).toNat * 5)).off + 3,none⟩ = some (.int .i64 ((rd_T63 l0 x5_1).f3)) ∧ w'.cell? ⟨(ad314.add ((x5_1).toNat * 5)).block,(ad314.add ((x5_1).toNat * 5)).off + 4,none⟩ = some (.slice A314_4 ((rd_T63 l0 x5_1).f4).length c314_4)) (ds := []) #[false,false,false,false,false,false,false,false] (by kernel_rfl) rfl rfl ⟨((HB.out.cell (World.block_lt_of_cell? w _ hw314_0)).trans hw314_0),((HB.out.cell (World.block_lt_of_cell? w _ hw314_1)).trans hw314_1),((HB.out.cell (World.block_lt_of_cell? w _ hw314_2)).trans hw314_2),((HB.out.cell (World.block_lt_of_cell? w _ hw314_3)).trans hw314_3),((HB.out.cell (World.block_lt_of_cell? w _ hw314_4)).trans hw314_4)⟩ (fun hHeld => ?_); refine with_tabW laws_heldAcctS.tab4 laws_heldAcctS.bits4 (fun HT_ HW_ => ?_)
      generalize wr.drew = w22 at HB HR314_4 hx314_0 hx314_1 hx314_2 hx314_3 hx314_4 hHeld ⊢
      refine pure_ (i := 0) (N := some 12) (v := ?_) (a' := ?_) #[true,false,false,false,false,false,false,false] rfl rfl (any_of HT_.out (by kernel_rfl)) (fun _ _ _ h => h) (Or.inl ⟨by rfl,?_⟩) ?_ ?_;rotate_left
      ·intro w';go_simp;with_reducible rfl
      rotate_left
      ·simp only [wf_preprocess];rfl
      refine pure_ (i := 1) (N := some 13) (v := ?_) (a' := ?_) #[true,true,false,false,false,false,false,false] rfl rfl (any_of HT_.out (by kernel_rfl)) (fun _ _ _ h => h) (Or.inl ⟨by rfl,?_⟩) ?_ ?_;rotate_left
      ·intro w';go_simp;with_reducible rfl
      rotate_left
      ·simp only [wf_preprocess];rfl
      refine pure_ (i := 2) (N := some 14) (v := ?_) (a' := ?_) #[true,true,true,false,false,false,false,false] rfl rfl (any_of HT_.out (by kernel_rfl)) (fun _ _ _ h => h) (Or.inl ⟨by rfl,?_⟩) ?_ ?_;rotate_left
      ·intro w';go_simp;with_reducible rfl
      rotate_left
      ·simp only [wf_preprocess];rfl
      refine pure_ (i := 3) (N := some 15) (v := ?_) (a' := ?_) #[true,true,true,true,false,false,false,false] rfl rfl (any_of HT_.out (by kernel_rfl)) (fun _ _ _ h => h) (Or.inl ⟨by rfl,?_⟩) ?_ ?_;rotate_left
      ·intro w';go_simp;with_reducible rfl
      rotate_left
      ·simp only [wf_preprocess];rfl
      refine pure_ (i := 5) (N := some 17) (v := ?_) (a' := ?_) #[true,true,true,true,false,true,false,false] rfl rfl (any_of HT_.out (by kernel_rfl)) (fun _ _ _ h => h) (Or.inl ⟨by rfl,?_⟩) ?_ ?_;rotate_left
      ·intro w';go_simp;with_reducible rfl
      rotate_left
      ·simp only [wf_preprocess];rfl
      refine take_ (i := 4) (N := some 16) (v := ?_) (a' := ?_) #[true,true,true,true,true,true,false,false] rfl rfl (take_ofW HT_.out HW_.out (by kernel_rfl)) (fun _ _ _ h => h) (Or.inl ⟨by rfl,?_⟩) hHeld ?_ ?_;rotate_left
      ·rintro w' ⟨s0,s1,s2,s3,s4⟩;go_simp;with_reducible rfl
      rotate_left
      ·simp only [wf_preprocess];rfl
      refine one_ (i := 6) (N := some 18) #[true,true,true,true,true,true,true,false] rfl rfl (one_of HT_.out (by kernel_rfl)) (by decide) (fun K hK => ?_);refine goes_ Try.func74 (by kernel_rfl) rfl #[.int .i64 x1_1] (by rfl) rfl rfl (by (try simp only [List.map_toArray,List.map_cons,List.map_nil]); rfl) ?_
      with_reducible refine (laws_markText.calls k1 x1_1 t315 _ A5.out).mono ?_
      rintro e w23 ⟨rfl,hb⟩;refine ⟨_,rfl,?_⟩;have n0_ := Aside0.mk (below_step HB.out hb);clear HB;have HB := n0_;clear n0_
      (try clear hb)
      skip
      skip
      skip
      refine hK.out _ _ ⟨((HB.out.cell (World.block_lt_of_cell? w _ hw314_0)).trans hw314_0),((HB.out.cell (World.block_lt_of_cell? w _ hw314_1)).trans hw314_1),((HB.out.cell (World.block_lt_of_cell? w _ hw314_2)).trans hw314_2),((HB.out.cell (World.block_lt_of_cell? w _ hw314_3)).trans hw314_3),((HB.out.cell (World.block_lt_of_cell? w _ hw314_4)).trans hw314_4)⟩ (fun hHeld => ?_);clear hK K;refine norm_ (a' := ?_) ?_ ?_;rotate_left
      ·show Act.put _ (some 18) _ = _
       simp only [wf_preprocess];rfl
      refine pure_ (i := 7) (N := some 19) (v := ?_) (a' := ?_) #[true,true,true,true,true,true,true,true] rfl rfl (any_of HT_.out (by kernel_rfl)) (fun _ _ _ h => h) (Or.inl ⟨by rfl,?_⟩) ?_ ?_;rotate_left
      ·intro w';go_simp;with_reducible rfl
      rotate_left
      ·simp only [wf_preprocess];rfl
      refine done_ (done_of HT_.out (by kernel_rfl)) ?_
      try go_wp2
      go_ret;exact ⟨by rfl,HB.out⟩
    ·rw [if_neg c4] at H;exact absurd H (by simp)
   ·rw [if_neg c3] at H;have c3b0 : decide (x5_1 < (l0.length : Int)) = false := decide_eq_false c3;clear c3;obtain rfl := Option.some.inj H;go_wp2;go_ret;exact ⟨by rfl,HB.out⟩

end Go.Proofs.Ytcbpfofkdipjhaa.PL
