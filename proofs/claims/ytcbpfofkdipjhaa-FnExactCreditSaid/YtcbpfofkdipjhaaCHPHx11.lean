/- The machine's side of Go functions: each as a plain function,and that the call does what it says. Written by a program (wip/mprint). -/
import Derived.Test.YtcbpfofkdipjhaaCHPHx0
import Derived.Test.YtcbpfofkdipjhaaCHPHx9
import Derived.Test.YtcbpfofkdipjhaaCHPHx10
namespace Go.Proofs.Ytcbpfofkdipjhaa.PH
open Go.RowKit Go.Proofs.YtcbpfofkdipjhaaW.PrintWords Go.Proofs.YtcbpfofkdipjhaaW.PrintLast Go.Proofs.YtcbpfofkdipjhaaW.PrintMore
attribute [local wf_preprocess] Act.put List.setIfInBounds_toArray List.set_cons_zero List.set_cons_succ i64_w i32_w
attribute [local go_sem] max2_int min2_int max_two min_two max_three min_three max_four min_four   -- for this text's walks alone
set_option linter.unusedVariables false
set_option linter.unusedSimpArgs false

/-! ### laws_heldAcctS: function 56 -/
def laws_heldAcctS.l0 : Nat → List (S63) → Int → Int → Option (Int)
 | 0,_,_,_ => none
 | k + 1,x0,x1,x5 => if x5 < (x0.length : Int) then (if 0 ≤ x5 then ((laws_markText.f k x1).bind fun t230 => (if ((rd_T63 x0 x5).f0).toList = t230.toList then (if ((rd_T63 x0 x5).f1) = (wrap64 (x1 + 1)) then (if ((rd_T63 x0 x5).f2) = (wrap64 ((wrap64 (x1 + 1)) + 1)) then (if ((rd_T63 x0 x5).f3) = (wrap64 ((wrap64 ((wrap64 (x1 + 1)) + 1)) + 1)) then ((laws_heldLeaveS.f k ((rd_T63 x0 x5).f4) (wrap64 ((wrap64 ((wrap64 ((wrap64 (x1 + 1)) + 1)) + 1)) + 1))).bind fun t235 => (if t235 < 0 then (some (-1)) else (laws_heldAcctS.l0 k x0 t235 (wrap64 (x5 + 1))))) else (some (-1))) else (some (-1))) else (some (-1))) else (some (-1)))) else (none)) else (some x1)
def laws_heldAcctS.f (k : Nat) (l0 : List (S63)) (a1 : Int) : Option (Int) := laws_heldAcctS.l0 k l0 a1 0
theorem laws_heldAcctS.mono_l : ∀ k,(∀ y0 y1 y2,LeO (laws_heldAcctS.l0 k y0 y1 y2) (laws_heldAcctS.l0 (k + 1) y0 y1 y2))
 | 0 => fun _ _ _ r h => by simp [laws_heldAcctS.l0] at h
 | k + 1 => by
  have ih0 := laws_heldAcctS.mono_l k
  ·intro y0 y1 y2;unfold laws_heldAcctS.l0
   repeat' first
   | (with_reducible exact ih0 _ _ _)
   | (with_reducible exact laws_heldLeaveS.mono _ _ _)
   | (with_reducible exact laws_markText.mono _ _)
   | (with_reducible exact LeO.refl _)
   | (with_reducible exact LeO.none _)
   | (with_reducible refine LeO.ite ?_ ?_)
   | (with_reducible refine LeO.bind ?_ (fun _ => ?_))
   | exact ih0 _ _ _
   | exact laws_heldLeaveS.mono _ _ _
   | exact laws_markText.mono _ _
   | exact LeO.none _
theorem laws_heldAcctS.mono : ∀ a0 a1 k,LeO (laws_heldAcctS.f k a0 a1) (laws_heldAcctS.f (k + 1) a0 a1) := by
 intro a0 a1 k;have ih0 := laws_heldAcctS.mono_l k;unfold laws_heldAcctS.f
 repeat' first
   | (with_reducible exact ih0 _ _ _)
   | (with_reducible exact laws_heldLeaveS.mono _ _ _)
   | (with_reducible exact laws_markText.mono _ _)
   | (with_reducible exact LeO.refl _)
   | (with_reducible exact LeO.none _)
   | (with_reducible refine LeO.ite ?_ ?_)
   | (with_reducible refine LeO.bind ?_ (fun _ => ?_))
   | exact ih0 _ _ _
   | exact laws_heldLeaveS.mono _ _ _
   | exact laws_markText.mono _ _
   | exact LeO.none _
def laws_heldAcctS.T4 : Bool × List (List Nat × List Nat) := (true,[([],[]),([],[]),([0,1],[0,1]),([2],[2]),([3],[3]),([],[]),([5],[5]),([4,6],[4,6])])
def laws_heldAcctS.B4 : List Nat := [0,0,3,7,15,0,32,127]
theorem laws_heldAcctS.tab4 : rtab .any (opsOf Try.f56 4) = laws_heldAcctS.T4 := by kernel_rfl
theorem laws_heldAcctS.bits4 : waitsOk laws_heldAcctS.T4.2 laws_heldAcctS.B4 = true := by kernel_rfl
set_option maxHeartbeats 8000000 in
set_option maxRecDepth 100000 in
theorem laws_heldAcctS.calls (k : Nat) (A0 : Option Addr) (c0 : Nat) (l0 : List (S63)) (a1 : Int) (r : Int) (w : World) (hr0 : Kd.C k63 w A0 l0.length l0) (hc0 : l0.length ≤ c0) (h : laws_heldAcctS.f k l0 a1 = some r) :
  Calls Try.prog 56 #[.slice A0 l0.length c0,.int .i64 a1] w fun e w' => e = .returned (.int .i64 r) ∧ Below w.heap.size w w' := by
 have HR0 := Aside0.mk hr0;have HC0 := Aside0.mk hc0;clear hr0 hc0;have HB := Aside0.mk (Below.refl w.heap.size w);have H : (laws_heldAcctS.l0 k l0 a1 0) = some r := h;clear h;have H' := Aside0.mk H;clear H;go_enter Try.func56,Try.ntmps56;go_wp2
 go_loopg [1,5] k (fun kq v1 v5 w' => ∃ (x1_1 : Int) (x5_1 : Int),v1 = .int .i64 x1_1 ∧ v5 = .int .i64 x5_1 ∧ Aside0 (laws_heldAcctS.l0 kq l0 x1_1 x5_1 = some r) ∧ Aside0 (kq ≤ k) ∧ Aside0 (Below w.heap.size w w'))
 case atStart => exact ⟨(a1),(0),(by rfl),(by rfl),H',⟨Nat.le_refl _⟩,⟨HB.out⟩⟩
 case round =>
  clear H'
  try clear p2
  obtain ⟨x1_1,x5_1,rfl,rfl,HA,HK1,HB⟩ := hrel
  cases gk with
  | zero => exact absurd HA.out (by simp [laws_heldAcctS.l0])
  | succ k1 =>
   have H := HA.out;clear HA;simp only [laws_heldAcctS.l0] at H
   by_cases c3 : x5_1 < (l0.length : Int)
   ·rw [if_pos c3] at H;have c3b0 : decide (x5_1 < (l0.length : Int)) = true := decide_eq_true c3;clear c3
    by_cases c4 : 0 ≤ x5_1
    ·rw [if_pos c4] at H;have c4b0 : decide (0 ≤ x5_1) = true := decide_eq_true c4;clear c4;replace H := Option.bind_eq_some_iff.mp H;obtain ⟨t230,A50,H⟩ := H;replace H : (if ((rd_T63 l0 x5_1).f0).toList = t230.toList then (if ((rd_T63 l0 x5_1).f1) = (wrap64 (x1_1 + 1)) then (if ((rd_T63 l0 x5_1).f2) = (wrap64 ((wrap64 (x1_1 + 1)) + 1)) then (if ((rd_T63 l0 x5_1).f3) = (wrap64 ((wrap64 ((wrap64 (x1_1 + 1)) + 1)) + 1)) then ((laws_heldLeaveS.f k1 ((rd_T63 l0 x5_1).f4) (wrap64 ((wrap64 ((wrap64 ((wrap64 (x1_1 + 1)) + 1)) + 1)) + 1))).bind fun t235 => (if t235 < 0 then (some (-1)) else (laws_heldAcctS.l0 k1 l0 t235 (wrap64 (x5_1 + 1))))) else (some (-1))) else (some (-1))) else (some (-1))) else (some (-1))) = some r := H;have A5 := Aside0.mk A50;clear A50
     by_cases c6 : ((rd_T63 l0 x5_1).f0).toList = t230.toList
     ·rw [if_pos c6] at H;have c6b0 : (((rd_T63 l0 x5_1).f0).toList == t230.toList) = true := beq_iff_eq.mpr c6;have c6b1 : (((rd_T63 l0 x5_1).f0).toList != t230.toList) = false := bne_eq_false_iff_eq.mpr c6;clear c6
      by_cases c7 : ((rd_T63 l0 x5_1).f1) = (wrap64 (x1_1 + 1))
      ·rw [if_pos c7] at H;have c7b0 : (((rd_T63 l0 x5_1).f1) == (wrap64 (x1_1 + 1))) = true := beq_iff_eq.mpr c7;have c7b1 : (((rd_T63 l0 x5_1).f1) != (wrap64 (x1_1 + 1))) = false := bne_eq_false_iff_eq.mpr c7;clear c7
       by_cases c8 : ((rd_T63 l0 x5_1).f2) = (wrap64 ((wrap64 (x1_1 + 1)) + 1))
       ·rw [if_pos c8] at H;have c8b0 : (((rd_T63 l0 x5_1).f2) == (wrap64 ((wrap64 (x1_1 + 1)) + 1))) = true := beq_iff_eq.mpr c8;have c8b1 : (((rd_T63 l0 x5_1).f2) != (wrap64 ((wrap64 (x1_1 + 1)) + 1))) = false := bne_eq_false_iff_eq.mpr c8;clear c8
        by_cases c9 : ((rd_T63 l0 x5_1).f3) = (wrap64 ((wrap64 ((wrap64 (x1_1 + 1)) + 1)) + 1))
        ·rw [if_pos c9] at H;have c9b0 : (((rd_T63 l0 x5_1).f3) == (wrap64 ((wrap64 ((wrap64 (x1_1 + 1)) + 1)) + 1))) = true := beq_iff_eq.mpr c9;have c9b1 : (((rd_T63 l0 x5_1).f3) != (wrap64 ((wrap64 ((wrap64 (x1_1 + 1)) + 1)) + 1))) = false := bne_eq_false_iff_eq.mpr c9;clear c9;replace H := Option.bind_eq_some_iff.mp H;obtain ⟨t235,A100,H⟩ := H;replace H : (if t235 < 0 then (some (-1)) else (laws_heldAcctS.l0 k1 l0 t235 (wrap64 (x5_1 + 1)))) = some r := H;have A10 := Aside0.mk A100;clear A100
         by_cases c11 : t235 < 0
         ·rw [if_pos c11] at H;have c11b0 : decide (t235 < 0) = true := decide_eq_true c11;clear c11;obtain rfl := Option.some.inj H
          try go_wp2
          have n0_ := Aside0.mk (below_drew1 HB.out);clear HB;have HB := n0_;clear n0_;have p229 : 0 ≤ (x5_1 : Int) := of_decide_eq_true (by (with_reducible assumption));have q229 : x5_1 < (l0.length : Int) := of_decide_eq_true (by (with_reducible assumption));obtain ⟨ad229,A229_4,c229_4,e229,hx229_0,hx229_1,hx229_2,hx229_3,hx229_4,hl229_4,hi229_4⟩ := at_T63 HR0.out x5_1 p229 q229;have hw229_4 := hx229_4;have hw229_3 := hx229_3;have hw229_2 := hx229_2;have hw229_1 := hx229_1;have hw229_0 := hx229_0
          cases e229
          replace hx229_0 := (HB.out.cell (World.block_lt_of_cell? w _ hx229_0)).trans hx229_0;replace hx229_1 := (HB.out.cell (World.block_lt_of_cell? w _ hx229_1)).trans hx229_1;replace hx229_2 := (HB.out.cell (World.block_lt_of_cell? w _ hx229_2)).trans hx229_2;replace hx229_3 := (HB.out.cell (World.block_lt_of_cell? w _ hx229_3)).trans hx229_3;replace hx229_4 := (HB.out.cell (World.block_lt_of_cell? w _ hx229_4)).trans hx229_4;have HR229_4 := Aside0.mk hi229_4;have HC229_4 := Aside0.mk hl229_4;clear hi229_4 hl229_4;replace p229 := eq_true p229;replace q229 := eq_true q229;refine start_ (n := 8) (S := fun w' => w'.cell? (ad229.add ((x5_1).toNat * 5)) = some (.string ((rd_T63 l0 x5_1).f0)) ∧ w'.cell? ⟨(ad229.add ((x5_1).toNat * 5)).block,(ad229.add ((x5_1).toNat * 5)).off + 1,none⟩ = some (.int .i64 ((rd_T63 l0 x5_1).f1)) ∧ w'.cell? ⟨(ad229.add ((x5_1).toNat * 5)).block,(ad229.add ((x5_1).toNat * 5)).off + 2,none⟩ = some (.int .i64 ((rd_T63 l0 x5_1).f2)) ∧ w'.cell? ⟨(ad229.add ((x5_1).toNat * 5)).block,(ad229.add ((x5_1).toNat * 5)).off + 3,none⟩ = some (.int .i64 ((rd_T63 l0 x5_1).f3)) ∧ w'.cell? ⟨(ad229.add ((x5_1).toNat * 5)).block,(ad229.add ((x5_1).toNat * 5)).off + 4,none⟩ = some (.slice A229_4 ((rd_T63 l0 x5_1).f4).length c229_4)) (ds := []) #[false,false,false,false,false,false,false,false] (by kernel_rfl) rfl rfl ⟨((HB.out.cell (World.block_lt_of_cell? w _ hw229_0)).trans hw229_0),((HB.out.cell (World.block_lt_of_cell? w _ hw229_1)).trans hw229_1),((HB.out.cell (World.block_lt_of_cell? w _ hw229_2)).trans hw229_2),((HB.out.cell (World.block_lt_of_cell? w _ hw229_3)).trans hw229_3),((HB.out.cell (World.block_lt_of_cell? w _ hw229_4)).trans hw229_4)⟩ (fun hHeld => ?_); refine with_tabW laws_heldAcctS.tab4 laws_heldAcctS.bits4 (fun HT_ HW_ => ?_)
          generalize wr.drew = w12 at HB HR229_4 hx229_0 hx229_1 hx229_2 hx229_3 hx229_4 hHeld ⊢
          refine pure_ (i := 0) (N := some 12) (v := ?_) (a' := ?_) #[true,false,false,false,false,false,false,false] rfl rfl (any_of HT_.out (by kernel_rfl)) (fun _ _ _ h => h) (Or.inl ⟨by rfl,?_⟩) ?_ ?_;rotate_left
          ·intro w';go_simp;with_reducible rfl
          rotate_left
          ·simp only [wf_preprocess];rfl
          refine pure_ (i := 1) (N := some 13) (v := ?_) (a' := ?_) #[true,true,false,false,false,false,false,false] rfl rfl (any_of HT_.out (by kernel_rfl)) (fun _ _ _ h => h) (Or.inl ⟨by rfl,?_⟩) ?_ ?_;rotate_left
          ·intro w';go_simp;with_reducible rfl
          rotate_left
          ·simp only [wf_preprocess];rfl
          refine pure_ (i := 2) (N := some 14) (v := ?_) (a' := ?_) #[true,true,true,false,false,false,false,false] rfl rfl (any_of HT_.out (by kernel_rfl)) (fun _ _ _ h => h) (Or.inl ⟨by rfl,?_⟩) ?_ ?_;rotate_left
          ·intro w';go_simp;with_reducible rfl
          rotate_left
          ·simp only [wf_preprocess];rfl
          refine pure_ (i := 3) (N := some 15) (v := ?_) (a' := ?_) #[true,true,true,true,false,false,false,false] rfl rfl (any_of HT_.out (by kernel_rfl)) (fun _ _ _ h => h) (Or.inl ⟨by rfl,?_⟩) ?_ ?_;rotate_left
          ·intro w';go_simp;with_reducible rfl
          rotate_left
          ·simp only [wf_preprocess];rfl
          refine pure_ (i := 5) (N := some 17) (v := ?_) (a' := ?_) #[true,true,true,true,false,true,false,false] rfl rfl (any_of HT_.out (by kernel_rfl)) (fun _ _ _ h => h) (Or.inl ⟨by rfl,?_⟩) ?_ ?_;rotate_left
          ·intro w';go_simp;with_reducible rfl
          rotate_left
          ·simp only [wf_preprocess];rfl
          refine take_ (i := 4) (N := some 16) (v := ?_) (a' := ?_) #[true,true,true,true,true,true,false,false] rfl rfl (take_ofW HT_.out HW_.out (by kernel_rfl)) (fun _ _ _ h => h) (Or.inl ⟨by rfl,?_⟩) hHeld ?_ ?_;rotate_left
          ·rintro w' ⟨s0,s1,s2,s3,s4⟩;go_simp;with_reducible rfl
          rotate_left
          ·simp only [wf_preprocess];rfl
          refine one_ (i := 6) (N := some 18) #[true,true,true,true,true,true,true,false] rfl rfl (one_of HT_.out (by kernel_rfl)) (by decide) (fun K hK => ?_);refine goes_ Try.func74 (by kernel_rfl) rfl #[.int .i64 x1_1] (by rfl) rfl rfl (by (try simp only [List.map_toArray,List.map_cons,List.map_nil]); rfl) ?_
          with_reducible refine (laws_markText.calls k1 x1_1 t230 _ A5.out).mono ?_
          rintro e w13 ⟨rfl,hb⟩;refine ⟨_,rfl,?_⟩;have n0_ := Aside0.mk (below_step HB.out hb);clear HB;have HB := n0_;clear n0_
          (try clear hb)
          skip
          skip
          skip
          refine hK.out _ _ ⟨((HB.out.cell (World.block_lt_of_cell? w _ hw229_0)).trans hw229_0),((HB.out.cell (World.block_lt_of_cell? w _ hw229_1)).trans hw229_1),((HB.out.cell (World.block_lt_of_cell? w _ hw229_2)).trans hw229_2),((HB.out.cell (World.block_lt_of_cell? w _ hw229_3)).trans hw229_3),((HB.out.cell (World.block_lt_of_cell? w _ hw229_4)).trans hw229_4)⟩ (fun hHeld => ?_);clear hK K;refine norm_ (a' := ?_) ?_ ?_;rotate_left
          ·show Act.put _ (some 18) _ = _
           simp only [wf_preprocess];rfl
          refine pure_ (i := 7) (N := some 19) (v := ?_) (a' := ?_) #[true,true,true,true,true,true,true,true] rfl rfl (any_of HT_.out (by kernel_rfl)) (fun _ _ _ h => h) (Or.inl ⟨by rfl,?_⟩) ?_ ?_;rotate_left
          ·intro w';go_simp;with_reducible rfl
          rotate_left
          ·simp only [wf_preprocess];rfl
          refine done_ (done_of HT_.out (by kernel_rfl)) ?_;have p231 : 0 ≤ (x5_1 : Int) := of_decide_eq_true (by (with_reducible assumption));have q231 : x5_1 < (l0.length : Int) := of_decide_eq_true (by (with_reducible assumption));obtain ⟨ad231,A231_4,c231_4,e231,hx231_0,hx231_1,hx231_2,hx231_3,hx231_4,hl231_4,hi231_4⟩ := at_T63 HR0.out x5_1 p231 q231;obtain rfl : ad229 = ad231 := (by injection e231);replace hx231_0 := (HB.out.cell (World.block_lt_of_cell? w _ hx231_0)).trans hx231_0;replace hx231_1 := (HB.out.cell (World.block_lt_of_cell? w _ hx231_1)).trans hx231_1;replace hx231_2 := (HB.out.cell (World.block_lt_of_cell? w _ hx231_2)).trans hx231_2;replace hx231_3 := (HB.out.cell (World.block_lt_of_cell? w _ hx231_3)).trans hx231_3;replace hx231_4 := (HB.out.cell (World.block_lt_of_cell? w _ hx231_4)).trans hx231_4;have HR231_4 := Aside0.mk hi231_4;have HC231_4 := Aside0.mk hl231_4;clear hi231_4 hl231_4;replace p231 := eq_true p231;replace q231 := eq_true q231
          (try clear hHeld)
          have p232 : 0 ≤ (x5_1 : Int) := of_decide_eq_true (by (with_reducible assumption));have q232 : x5_1 < (l0.length : Int) := of_decide_eq_true (by (with_reducible assumption));obtain ⟨ad232,A232_4,c232_4,e232,hx232_0,hx232_1,hx232_2,hx232_3,hx232_4,hl232_4,hi232_4⟩ := at_T63 HR0.out x5_1 p232 q232;obtain rfl : ad229 = ad232 := (by injection e232);replace hx232_0 := (HB.out.cell (World.block_lt_of_cell? w _ hx232_0)).trans hx232_0;replace hx232_1 := (HB.out.cell (World.block_lt_of_cell? w _ hx232_1)).trans hx232_1;replace hx232_2 := (HB.out.cell (World.block_lt_of_cell? w _ hx232_2)).trans hx232_2;replace hx232_3 := (HB.out.cell (World.block_lt_of_cell? w _ hx232_3)).trans hx232_3;replace hx232_4 := (HB.out.cell (World.block_lt_of_cell? w _ hx232_4)).trans hx232_4;have HR232_4 := Aside0.mk hi232_4;have HC232_4 := Aside0.mk hl232_4;clear hi232_4 hl232_4;replace p232 := eq_true p232;replace q232 := eq_true q232;have ea_ := Option.some.inj (hx231_4.symm.trans hx232_4)
          injection ea_ with ea_ en_ ec_
          subst ea_;subst ec_;clear en_;have p233 : 0 ≤ (x5_1 : Int) := of_decide_eq_true (by (with_reducible assumption));have q233 : x5_1 < (l0.length : Int) := of_decide_eq_true (by (with_reducible assumption));obtain ⟨ad233,A233_4,c233_4,e233,hx233_0,hx233_1,hx233_2,hx233_3,hx233_4,hl233_4,hi233_4⟩ := at_T63 HR0.out x5_1 p233 q233;obtain rfl : ad229 = ad233 := (by injection e233);replace hx233_0 := (HB.out.cell (World.block_lt_of_cell? w _ hx233_0)).trans hx233_0;replace hx233_1 := (HB.out.cell (World.block_lt_of_cell? w _ hx233_1)).trans hx233_1;replace hx233_2 := (HB.out.cell (World.block_lt_of_cell? w _ hx233_2)).trans hx233_2;replace hx233_3 := (HB.out.cell (World.block_lt_of_cell? w _ hx233_3)).trans hx233_3;replace hx233_4 := (HB.out.cell (World.block_lt_of_cell? w _ hx233_4)).trans hx233_4;have HR233_4 := Aside0.mk hi233_4;have HC233_4 := Aside0.mk hl233_4;clear hi233_4 hl233_4;replace p233 := eq_true p233;replace q233 := eq_true q233;have ea_ := Option.some.inj (hx231_4.symm.trans hx233_4)
          injection ea_ with ea_ en_ ec_
          subst ea_;subst ec_;clear en_;have p234 : 0 ≤ (x5_1 : Int) := of_decide_eq_true (by (with_reducible assumption));have q234 : x5_1 < (l0.length : Int) := of_decide_eq_true (by (with_reducible assumption));obtain ⟨ad234,A234_4,c234_4,e234,hx234_0,hx234_1,hx234_2,hx234_3,hx234_4,hl234_4,hi234_4⟩ := at_T63 HR0.out x5_1 p234 q234;obtain rfl : ad229 = ad234 := (by injection e234);replace hx234_0 := (HB.out.cell (World.block_lt_of_cell? w _ hx234_0)).trans hx234_0;replace hx234_1 := (HB.out.cell (World.block_lt_of_cell? w _ hx234_1)).trans hx234_1;replace hx234_2 := (HB.out.cell (World.block_lt_of_cell? w _ hx234_2)).trans hx234_2;replace hx234_3 := (HB.out.cell (World.block_lt_of_cell? w _ hx234_3)).trans hx234_3;replace hx234_4 := (HB.out.cell (World.block_lt_of_cell? w _ hx234_4)).trans hx234_4;have HR234_4 := Aside0.mk hi234_4;have HC234_4 := Aside0.mk hl234_4;clear hi234_4 hl234_4;replace p234 := eq_true p234;replace q234 := eq_true q234;have ea_ := Option.some.inj (hx231_4.symm.trans hx234_4)
          injection ea_ with ea_ en_ ec_
          subst ea_;subst ec_;clear en_
          try go_wp2_with (((with_reducible refine gate_callee (f := 103) rfl ?_); refine goesL_ (some 55) rfl rfl Try.func103 (by kernel_rfl) rfl #[.slice A231_4 ((rd_T63 l0 x5_1).f4).length c231_4,.int .i64 (wrap64 ((wrap64 ((wrap64 ((wrap64 (x1_1 + 1)) + 1)) + 1)) + 1))] rfl (by (try simp only [List.map_toArray,List.map_cons,List.map_nil]); rfl) ?_; (with_reducible refine (laws_heldLeaveS.calls k1 _ _ ((rd_T63 l0 x5_1).f4) (wrap64 ((wrap64 ((wrap64 ((wrap64 (x1_1 + 1)) + 1)) + 1)) + 1)) t235 _ ?side1 ?side2 A10.out).mono ?_); (case side1 => repeat (exact (Kd.C_below HR234_4.out HB.out))); (case side2 => exact HC234_4.out); rintro e w' ⟨rfl,⟨nd,rfl⟩⟩; refine ⟨_,rfl,?_⟩))
          go_ret;exact ⟨by rfl,by repeat (with_reducible first | exact HB.out | apply pw_below_drewN)⟩
         ·rw [if_neg c11] at H;have c11b0 : decide (t235 < 0) = false := decide_eq_false c11;clear c11;have H' := Aside0.mk H;clear H
          try go_wp2
          have n0_ := Aside0.mk (below_drew1 HB.out);clear HB;have HB := n0_;clear n0_;have p229 : 0 ≤ (x5_1 : Int) := of_decide_eq_true (by (with_reducible assumption));have q229 : x5_1 < (l0.length : Int) := of_decide_eq_true (by (with_reducible assumption));obtain ⟨ad229,A229_4,c229_4,e229,hx229_0,hx229_1,hx229_2,hx229_3,hx229_4,hl229_4,hi229_4⟩ := at_T63 HR0.out x5_1 p229 q229;have hw229_4 := hx229_4;have hw229_3 := hx229_3;have hw229_2 := hx229_2;have hw229_1 := hx229_1;have hw229_0 := hx229_0
          cases e229
          replace hx229_0 := (HB.out.cell (World.block_lt_of_cell? w _ hx229_0)).trans hx229_0;replace hx229_1 := (HB.out.cell (World.block_lt_of_cell? w _ hx229_1)).trans hx229_1;replace hx229_2 := (HB.out.cell (World.block_lt_of_cell? w _ hx229_2)).trans hx229_2;replace hx229_3 := (HB.out.cell (World.block_lt_of_cell? w _ hx229_3)).trans hx229_3;replace hx229_4 := (HB.out.cell (World.block_lt_of_cell? w _ hx229_4)).trans hx229_4;have HR229_4 := Aside0.mk hi229_4;have HC229_4 := Aside0.mk hl229_4;clear hi229_4 hl229_4;replace p229 := eq_true p229;replace q229 := eq_true q229;refine start_ (n := 8) (S := fun w' => w'.cell? (ad229.add ((x5_1).toNat * 5)) = some (.string ((rd_T63 l0 x5_1).f0)) ∧ w'.cell? ⟨(ad229.add ((x5_1).toNat * 5)).block,(ad229.add ((x5_1).toNat * 5)).off + 1,none⟩ = some (.int .i64 ((rd_T63 l0 x5_1).f1)) ∧ w'.cell? ⟨(ad229.add ((x5_1).toNat * 5)).block,(ad229.add ((x5_1).toNat * 5)).off + 2,none⟩ = some (.int .i64 ((rd_T63 l0 x5_1).f2)) ∧ w'.cell? ⟨(ad229.add ((x5_1).toNat * 5)).block,(ad229.add ((x5_1).toNat * 5)).off + 3,none⟩ = some (.int .i64 ((rd_T63 l0 x5_1).f3)) ∧ w'.cell? ⟨(ad229.add ((x5_1).toNat * 5)).block,(ad229.add ((x5_1).toNat * 5)).off + 4,none⟩ = some (.slice A229_4 ((rd_T63 l0 x5_1).f4).length c229_4)) (ds := []) #[false,false,false,false,false,false,false,false] (by kernel_rfl) rfl rfl ⟨((HB.out.cell (World.block_lt_of_cell? w _ hw229_0)).trans hw229_0),((HB.out.cell (World.block_lt_of_cell? w _ hw229_1)).trans hw229_1),((HB.out.cell (World.block_lt_of_cell? w _ hw229_2)).trans hw229_2),((HB.out.cell (World.block_lt_of_cell? w _ hw229_3)).trans hw229_3),((HB.out.cell (World.block_lt_of_cell? w _ hw229_4)).trans hw229_4)⟩ (fun hHeld => ?_); refine with_tabW laws_heldAcctS.tab4 laws_heldAcctS.bits4 (fun HT_ HW_ => ?_)
          generalize wr.drew = w14 at HB HR229_4 hx229_0 hx229_1 hx229_2 hx229_3 hx229_4 hHeld ⊢
          refine pure_ (i := 0) (N := some 12) (v := ?_) (a' := ?_) #[true,false,false,false,false,false,false,false] rfl rfl (any_of HT_.out (by kernel_rfl)) (fun _ _ _ h => h) (Or.inl ⟨by rfl,?_⟩) ?_ ?_;rotate_left
          ·intro w';go_simp;with_reducible rfl
          rotate_left
          ·simp only [wf_preprocess];rfl
          refine pure_ (i := 1) (N := some 13) (v := ?_) (a' := ?_) #[true,true,false,false,false,false,false,false] rfl rfl (any_of HT_.out (by kernel_rfl)) (fun _ _ _ h => h) (Or.inl ⟨by rfl,?_⟩) ?_ ?_;rotate_left
          ·intro w';go_simp;with_reducible rfl
          rotate_left
          ·simp only [wf_preprocess];rfl
          refine pure_ (i := 2) (N := some 14) (v := ?_) (a' := ?_) #[true,true,true,false,false,false,false,false] rfl rfl (any_of HT_.out (by kernel_rfl)) (fun _ _ _ h => h) (Or.inl ⟨by rfl,?_⟩) ?_ ?_;rotate_left
          ·intro w';go_simp;with_reducible rfl
          rotate_left
          ·simp only [wf_preprocess];rfl
          refine pure_ (i := 3) (N := some 15) (v := ?_) (a' := ?_) #[true,true,true,true,false,false,false,false] rfl rfl (any_of HT_.out (by kernel_rfl)) (fun _ _ _ h => h) (Or.inl ⟨by rfl,?_⟩) ?_ ?_;rotate_left
          ·intro w';go_simp;with_reducible rfl
          rotate_left
          ·simp only [wf_preprocess];rfl
          refine pure_ (i := 5) (N := some 17) (v := ?_) (a' := ?_) #[true,true,true,true,false,true,false,false] rfl rfl (any_of HT_.out (by kernel_rfl)) (fun _ _ _ h => h) (Or.inl ⟨by rfl,?_⟩) ?_ ?_;rotate_left
          ·intro w';go_simp;with_reducible rfl
          rotate_left
          ·simp only [wf_preprocess];rfl
          refine take_ (i := 4) (N := some 16) (v := ?_) (a' := ?_) #[true,true,true,true,true,true,false,false] rfl rfl (take_ofW HT_.out HW_.out (by kernel_rfl)) (fun _ _ _ h => h) (Or.inl ⟨by rfl,?_⟩) hHeld ?_ ?_;rotate_left
          ·rintro w' ⟨s0,s1,s2,s3,s4⟩;go_simp;with_reducible rfl
          rotate_left
          ·simp only [wf_preprocess];rfl
          refine one_ (i := 6) (N := some 18) #[true,true,true,true,true,true,true,false] rfl rfl (one_of HT_.out (by kernel_rfl)) (by decide) (fun K hK => ?_);refine goes_ Try.func74 (by kernel_rfl) rfl #[.int .i64 x1_1] (by rfl) rfl rfl (by (try simp only [List.map_toArray,List.map_cons,List.map_nil]); rfl) ?_
          with_reducible refine (laws_markText.calls k1 x1_1 t230 _ A5.out).mono ?_
          rintro e w15 ⟨rfl,hb⟩;refine ⟨_,rfl,?_⟩;have n0_ := Aside0.mk (below_step HB.out hb);clear HB;have HB := n0_;clear n0_
          (try clear hb)
          skip
          skip
          skip
          refine hK.out _ _ ⟨((HB.out.cell (World.block_lt_of_cell? w _ hw229_0)).trans hw229_0),((HB.out.cell (World.block_lt_of_cell? w _ hw229_1)).trans hw229_1),((HB.out.cell (World.block_lt_of_cell? w _ hw229_2)).trans hw229_2),((HB.out.cell (World.block_lt_of_cell? w _ hw229_3)).trans hw229_3),((HB.out.cell (World.block_lt_of_cell? w _ hw229_4)).trans hw229_4)⟩ (fun hHeld => ?_);clear hK K;refine norm_ (a' := ?_) ?_ ?_;rotate_left
          ·show Act.put _ (some 18) _ = _
           simp only [wf_preprocess];rfl
          refine pure_ (i := 7) (N := some 19) (v := ?_) (a' := ?_) #[true,true,true,true,true,true,true,true] rfl rfl (any_of HT_.out (by kernel_rfl)) (fun _ _ _ h => h) (Or.inl ⟨by rfl,?_⟩) ?_ ?_;rotate_left
          ·intro w';go_simp;with_reducible rfl
          rotate_left
          ·simp only [wf_preprocess];rfl
          refine done_ (done_of HT_.out (by kernel_rfl)) ?_;have p231 : 0 ≤ (x5_1 : Int) := of_decide_eq_true (by (with_reducible assumption));have q231 : x5_1 < (l0.length : Int) := of_decide_eq_true (by (with_reducible assumption));obtain ⟨ad231,A231_4,c231_4,e231,hx231_0,hx231_1,hx231_2,hx231_3,hx231_4,hl231_4,hi231_4⟩ := at_T63 HR0.out x5_1 p231 q231;obtain rfl : ad229 = ad231 := (by injection e231);replace hx231_0 := (HB.out.cell (World.block_lt_of_cell? w _ hx231_0)).trans hx231_0;replace hx231_1 := (HB.out.cell (World.block_lt_of_cell? w _ hx231_1)).trans hx231_1;replace hx231_2 := (HB.out.cell (World.block_lt_of_cell? w _ hx231_2)).trans hx231_2;replace hx231_3 := (HB.out.cell (World.block_lt_of_cell? w _ hx231_3)).trans hx231_3;replace hx231_4 := (HB.out.cell (World.block_lt_of_cell? w _ hx231_4)).trans hx231_4;have HR231_4 := Aside0.mk hi231_4;have HC231_4 := Aside0.mk hl231_4;clear hi231_4 hl231_4;replace p231 := eq_true p231;replace q231 := eq_true q231
          (try clear hHeld)
          have p232 : 0 ≤ (x5_1 : Int) := of_decide_eq_true (by (with_reducible assumption));have q232 : x5_1 < (l0.length : Int) := of_decide_eq_true (by (with_reducible assumption));obtain ⟨ad232,A232_4,c232_4,e232,hx232_0,hx232_1,hx232_2,hx232_3,hx232_4,hl232_4,hi232_4⟩ := at_T63 HR0.out x5_1 p232 q232;obtain rfl : ad229 = ad232 := (by injection e232);replace hx232_0 := (HB.out.cell (World.block_lt_of_cell? w _ hx232_0)).trans hx232_0;replace hx232_1 := (HB.out.cell (World.block_lt_of_cell? w _ hx232_1)).trans hx232_1;replace hx232_2 := (HB.out.cell (World.block_lt_of_cell? w _ hx232_2)).trans hx232_2;replace hx232_3 := (HB.out.cell (World.block_lt_of_cell? w _ hx232_3)).trans hx232_3;replace hx232_4 := (HB.out.cell (World.block_lt_of_cell? w _ hx232_4)).trans hx232_4;have HR232_4 := Aside0.mk hi232_4;have HC232_4 := Aside0.mk hl232_4;clear hi232_4 hl232_4;replace p232 := eq_true p232;replace q232 := eq_true q232;have ea_ := Option.some.inj (hx231_4.symm.trans hx232_4)
          injection ea_ with ea_ en_ ec_
          subst ea_;subst ec_;clear en_;have p233 : 0 ≤ (x5_1 : Int) := of_decide_eq_true (by (with_reducible assumption));have q233 : x5_1 < (l0.length : Int) := of_decide_eq_true (by (with_reducible assumption));obtain ⟨ad233,A233_4,c233_4,e233,hx233_0,hx233_1,hx233_2,hx233_3,hx233_4,hl233_4,hi233_4⟩ := at_T63 HR0.out x5_1 p233 q233;obtain rfl : ad229 = ad233 := (by injection e233);replace hx233_0 := (HB.out.cell (World.block_lt_of_cell? w _ hx233_0)).trans hx233_0;replace hx233_1 := (HB.out.cell (World.block_lt_of_cell? w _ hx233_1)).trans hx233_1;replace hx233_2 := (HB.out.cell (World.block_lt_of_cell? w _ hx233_2)).trans hx233_2;replace hx233_3 := (HB.out.cell (World.block_lt_of_cell? w _ hx233_3)).trans hx233_3;replace hx233_4 := (HB.out.cell (World.block_lt_of_cell? w _ hx233_4)).trans hx233_4;have HR233_4 := Aside0.mk hi233_4;have HC233_4 := Aside0.mk hl233_4;clear hi233_4 hl233_4;replace p233 := eq_true p233;replace q233 := eq_true q233;have ea_ := Option.some.inj (hx231_4.symm.trans hx233_4)
          injection ea_ with ea_ en_ ec_
          subst ea_;subst ec_;clear en_;have p234 : 0 ≤ (x5_1 : Int) := of_decide_eq_true (by (with_reducible assumption));have q234 : x5_1 < (l0.length : Int) := of_decide_eq_true (by (with_reducible assumption));obtain ⟨ad234,A234_4,c234_4,e234,hx234_0,hx234_1,hx234_2,hx234_3,hx234_4,hl234_4,hi234_4⟩ := at_T63 HR0.out x5_1 p234 q234;obtain rfl : ad229 = ad234 := (by injection e234);replace hx234_0 := (HB.out.cell (World.block_lt_of_cell? w _ hx234_0)).trans hx234_0;replace hx234_1 := (HB.out.cell (World.block_lt_of_cell? w _ hx234_1)).trans hx234_1;replace hx234_2 := (HB.out.cell (World.block_lt_of_cell? w _ hx234_2)).trans hx234_2;replace hx234_3 := (HB.out.cell (World.block_lt_of_cell? w _ hx234_3)).trans hx234_3;replace hx234_4 := (HB.out.cell (World.block_lt_of_cell? w _ hx234_4)).trans hx234_4;have HR234_4 := Aside0.mk hi234_4;have HC234_4 := Aside0.mk hl234_4;clear hi234_4 hl234_4;replace p234 := eq_true p234;replace q234 := eq_true q234;have ea_ := Option.some.inj (hx231_4.symm.trans hx234_4)
          injection ea_ with ea_ en_ ec_
          subst ea_;subst ec_;clear en_
          try go_wp2_with (((with_reducible refine gate_callee (f := 103) rfl ?_); refine goesL_ (some 55) rfl rfl Try.func103 (by kernel_rfl) rfl #[.slice A231_4 ((rd_T63 l0 x5_1).f4).length c231_4,.int .i64 (wrap64 ((wrap64 ((wrap64 ((wrap64 (x1_1 + 1)) + 1)) + 1)) + 1))] rfl (by (try simp only [List.map_toArray,List.map_cons,List.map_nil]); rfl) ?_; (with_reducible refine (laws_heldLeaveS.calls k1 _ _ ((rd_T63 l0 x5_1).f4) (wrap64 ((wrap64 ((wrap64 ((wrap64 (x1_1 + 1)) + 1)) + 1)) + 1)) t235 _ ?side1 ?side2 A10.out).mono ?_); (case side1 => repeat (exact (Kd.C_below HR234_4.out HB.out))); (case side2 => exact HC234_4.out); rintro e w' ⟨rfl,⟨nd,rfl⟩⟩; refine ⟨_,rfl,?_⟩))
          go_roundg k1
          case measure => have := HK1.out; omega
          case rel => exact ⟨(t235),(wrap64 (x5_1 + 1)),(by rfl),(by rfl),H',⟨by have := HK1.out; omega⟩,⟨by repeat (with_reducible first | exact HB.out | apply pw_below_drewN)⟩⟩
        ·rw [if_neg c9] at H;have c9b0 : (((rd_T63 l0 x5_1).f3) == (wrap64 ((wrap64 ((wrap64 (x1_1 + 1)) + 1)) + 1))) = false := beq_eq_false_iff_ne.mpr c9;have c9b1 : (((rd_T63 l0 x5_1).f3) != (wrap64 ((wrap64 ((wrap64 (x1_1 + 1)) + 1)) + 1))) = true := bne_iff_ne.mpr c9;obtain rfl := Option.some.inj H
         try go_wp2
         have n0_ := Aside0.mk (below_drew1 HB.out);clear HB;have HB := n0_;clear n0_;have p229 : 0 ≤ (x5_1 : Int) := of_decide_eq_true (by (with_reducible assumption));have q229 : x5_1 < (l0.length : Int) := of_decide_eq_true (by (with_reducible assumption));obtain ⟨ad229,A229_4,c229_4,e229,hx229_0,hx229_1,hx229_2,hx229_3,hx229_4,hl229_4,hi229_4⟩ := at_T63 HR0.out x5_1 p229 q229;have hw229_4 := hx229_4;have hw229_3 := hx229_3;have hw229_2 := hx229_2;have hw229_1 := hx229_1;have hw229_0 := hx229_0
         cases e229
         replace hx229_0 := (HB.out.cell (World.block_lt_of_cell? w _ hx229_0)).trans hx229_0;replace hx229_1 := (HB.out.cell (World.block_lt_of_cell? w _ hx229_1)).trans hx229_1;replace hx229_2 := (HB.out.cell (World.block_lt_of_cell? w _ hx229_2)).trans hx229_2;replace hx229_3 := (HB.out.cell (World.block_lt_of_cell? w _ hx229_3)).trans hx229_3;replace hx229_4 := (HB.out.cell (World.block_lt_of_cell? w _ hx229_4)).trans hx229_4;have HR229_4 := Aside0.mk hi229_4;have HC229_4 := Aside0.mk hl229_4;clear hi229_4 hl229_4;replace p229 := eq_true p229;replace q229 := eq_true q229;refine start_ (n := 8) (S := fun w' => w'.cell? (ad229.add ((x5_1).toNat * 5)) = some (.string ((rd_T63 l0 x5_1).f0)) ∧ w'.cell? ⟨(ad229.add ((x5_1).toNat * 5)).block,(ad229.add ((x5_1).toNat * 5)).off + 1,none⟩ = some (.int .i64 ((rd_T63 l0 x5_1).f1)) ∧ w'.cell? ⟨(ad229.add ((x5_1).toNat * 5)).block,(ad229.add ((x5_1).toNat * 5)).off + 2,none⟩ = some (.int .i64 ((rd_T63 l0 x5_1).f2)) ∧ w'.cell? ⟨(ad229.add ((x5_1).toNat * 5)).block,(ad229.add ((x5_1).toNat * 5)).off + 3,none⟩ = some (.int .i64 ((rd_T63 l0 x5_1).f3)) ∧ w'.cell? ⟨(ad229.add ((x5_1).toNat * 5)).block,(ad229.add ((x5_1).toNat * 5)).off + 4,none⟩ = some (.slice A229_4 ((rd_T63 l0 x5_1).f4).length c229_4)) (ds := []) #[false,false,false,false,false,false,false,false] (by kernel_rfl) rfl rfl ⟨((HB.out.cell (World.block_lt_of_cell? w _ hw229_0)).trans hw229_0),((HB.out.cell (World.block_lt_of_cell? w _ hw229_1)).trans hw229_1),((HB.out.cell (World.block_lt_of_cell? w _ hw229_2)).trans hw229_2),((HB.out.cell (World.block_lt_of_cell? w _ hw229_3)).trans hw229_3),((HB.out.cell (World.block_lt_of_cell? w _ hw229_4)).trans hw229_4)⟩ (fun hHeld => ?_); refine with_tabW laws_heldAcctS.tab4 laws_heldAcctS.bits4 (fun HT_ HW_ => ?_)
         generalize wr.drew = w16 at HB HR229_4 hx229_0 hx229_1 hx229_2 hx229_3 hx229_4 hHeld ⊢
         refine pure_ (i := 0) (N := some 12) (v := ?_) (a' := ?_) #[true,false,false,false,false,false,false,false] rfl rfl (any_of HT_.out (by kernel_rfl)) (fun _ _ _ h => h) (Or.inl ⟨by rfl,?_⟩) ?_ ?_;rotate_left
         ·intro w';go_simp;with_reducible rfl
         rotate_left
         ·simp only [wf_preprocess];rfl
         refine pure_ (i := 1) (N := some 13) (v := ?_) (a' := ?_) #[true,true,false,false,false,false,false,false] rfl rfl (any_of HT_.out (by kernel_rfl)) (fun _ _ _ h => h) (Or.inl ⟨by rfl,?_⟩) ?_ ?_;rotate_left
         ·intro w';go_simp;with_reducible rfl
         rotate_left
         ·simp only [wf_preprocess];rfl
         refine pure_ (i := 2) (N := some 14) (v := ?_) (a' := ?_) #[true,true,true,false,false,false,false,false] rfl rfl (any_of HT_.out (by kernel_rfl)) (fun _ _ _ h => h) (Or.inl ⟨by rfl,?_⟩) ?_ ?_;rotate_left
         ·intro w';go_simp;with_reducible rfl
         rotate_left
         ·simp only [wf_preprocess];rfl
         refine pure_ (i := 3) (N := some 15) (v := ?_) (a' := ?_) #[true,true,true,true,false,false,false,false] rfl rfl (any_of HT_.out (by kernel_rfl)) (fun _ _ _ h => h) (Or.inl ⟨by rfl,?_⟩) ?_ ?_;rotate_left
         ·intro w';go_simp;with_reducible rfl
         rotate_left
         ·simp only [wf_preprocess];rfl
         refine pure_ (i := 5) (N := some 17) (v := ?_) (a' := ?_) #[true,true,true,true,false,true,false,false] rfl rfl (any_of HT_.out (by kernel_rfl)) (fun _ _ _ h => h) (Or.inl ⟨by rfl,?_⟩) ?_ ?_;rotate_left
         ·intro w';go_simp;with_reducible rfl
         rotate_left
         ·simp only [wf_preprocess];rfl
         refine take_ (i := 4) (N := some 16) (v := ?_) (a' := ?_) #[true,true,true,true,true,true,false,false] rfl rfl (take_ofW HT_.out HW_.out (by kernel_rfl)) (fun _ _ _ h => h) (Or.inl ⟨by rfl,?_⟩) hHeld ?_ ?_;rotate_left
         ·rintro w' ⟨s0,s1,s2,s3,s4⟩;go_simp;with_reducible rfl
         rotate_left
         ·simp only [wf_preprocess];rfl
         refine one_ (i := 6) (N := some 18) #[true,true,true,true,true,true,true,false] rfl rfl (one_of HT_.out (by kernel_rfl)) (by decide) (fun K hK => ?_);refine goes_ Try.func74 (by kernel_rfl) rfl #[.int .i64 x1_1] (by rfl) rfl rfl (by (try simp only [List.map_toArray,List.map_cons,List.map_nil]); rfl) ?_
         with_reducible refine (laws_markText.calls k1 x1_1 t230 _ A5.out).mono ?_
         rintro e w17 ⟨rfl,hb⟩;refine ⟨_,rfl,?_⟩;have n0_ := Aside0.mk (below_step HB.out hb);clear HB;have HB := n0_;clear n0_
         (try clear hb)
         skip
         skip
         skip
         refine hK.out _ _ ⟨((HB.out.cell (World.block_lt_of_cell? w _ hw229_0)).trans hw229_0),((HB.out.cell (World.block_lt_of_cell? w _ hw229_1)).trans hw229_1),((HB.out.cell (World.block_lt_of_cell? w _ hw229_2)).trans hw229_2),((HB.out.cell (World.block_lt_of_cell? w _ hw229_3)).trans hw229_3),((HB.out.cell (World.block_lt_of_cell? w _ hw229_4)).trans hw229_4)⟩ (fun hHeld => ?_);clear hK K;refine norm_ (a' := ?_) ?_ ?_;rotate_left
         ·show Act.put _ (some 18) _ = _
          simp only [wf_preprocess];rfl
         refine pure_ (i := 7) (N := some 19) (v := ?_) (a' := ?_) #[true,true,true,true,true,true,true,true] rfl rfl (any_of HT_.out (by kernel_rfl)) (fun _ _ _ h => h) (Or.inl ⟨by rfl,?_⟩) ?_ ?_;rotate_left
         ·intro w';go_simp;with_reducible rfl
         rotate_left
         ·simp only [wf_preprocess];rfl
         refine done_ (done_of HT_.out (by kernel_rfl)) ?_;have p231 : 0 ≤ (x5_1 : Int) := of_decide_eq_true (by (with_reducible assumption));have q231 : x5_1 < (l0.length : Int) := of_decide_eq_true (by (with_reducible assumption));obtain ⟨ad231,A231_4,c231_4,e231,hx231_0,hx231_1,hx231_2,hx231_3,hx231_4,hl231_4,hi231_4⟩ := at_T63 HR0.out x5_1 p231 q231;obtain rfl : ad229 = ad231 := (by injection e231);replace hx231_0 := (HB.out.cell (World.block_lt_of_cell? w _ hx231_0)).trans hx231_0;replace hx231_1 := (HB.out.cell (World.block_lt_of_cell? w _ hx231_1)).trans hx231_1;replace hx231_2 := (HB.out.cell (World.block_lt_of_cell? w _ hx231_2)).trans hx231_2;replace hx231_3 := (HB.out.cell (World.block_lt_of_cell? w _ hx231_3)).trans hx231_3;replace hx231_4 := (HB.out.cell (World.block_lt_of_cell? w _ hx231_4)).trans hx231_4;have HR231_4 := Aside0.mk hi231_4;have HC231_4 := Aside0.mk hl231_4;clear hi231_4 hl231_4;replace p231 := eq_true p231;replace q231 := eq_true q231
         (try clear hHeld)
         have p232 : 0 ≤ (x5_1 : Int) := of_decide_eq_true (by (with_reducible assumption));have q232 : x5_1 < (l0.length : Int) := of_decide_eq_true (by (with_reducible assumption));obtain ⟨ad232,A232_4,c232_4,e232,hx232_0,hx232_1,hx232_2,hx232_3,hx232_4,hl232_4,hi232_4⟩ := at_T63 HR0.out x5_1 p232 q232;obtain rfl : ad229 = ad232 := (by injection e232);replace hx232_0 := (HB.out.cell (World.block_lt_of_cell? w _ hx232_0)).trans hx232_0;replace hx232_1 := (HB.out.cell (World.block_lt_of_cell? w _ hx232_1)).trans hx232_1;replace hx232_2 := (HB.out.cell (World.block_lt_of_cell? w _ hx232_2)).trans hx232_2;replace hx232_3 := (HB.out.cell (World.block_lt_of_cell? w _ hx232_3)).trans hx232_3;replace hx232_4 := (HB.out.cell (World.block_lt_of_cell? w _ hx232_4)).trans hx232_4;have HR232_4 := Aside0.mk hi232_4;have HC232_4 := Aside0.mk hl232_4;clear hi232_4 hl232_4;replace p232 := eq_true p232;replace q232 := eq_true q232;have ea_ := Option.some.inj (hx231_4.symm.trans hx232_4)
         injection ea_ with ea_ en_ ec_
         subst ea_;subst ec_;clear en_;have p233 : 0 ≤ (x5_1 : Int) := of_decide_eq_true (by (with_reducible assumption));have q233 : x5_1 < (l0.length : Int) := of_decide_eq_true (by (with_reducible assumption));obtain ⟨ad233,A233_4,c233_4,e233,hx233_0,hx233_1,hx233_2,hx233_3,hx233_4,hl233_4,hi233_4⟩ := at_T63 HR0.out x5_1 p233 q233;obtain rfl : ad229 = ad233 := (by injection e233);replace hx233_0 := (HB.out.cell (World.block_lt_of_cell? w _ hx233_0)).trans hx233_0;replace hx233_1 := (HB.out.cell (World.block_lt_of_cell? w _ hx233_1)).trans hx233_1;replace hx233_2 := (HB.out.cell (World.block_lt_of_cell? w _ hx233_2)).trans hx233_2;replace hx233_3 := (HB.out.cell (World.block_lt_of_cell? w _ hx233_3)).trans hx233_3;replace hx233_4 := (HB.out.cell (World.block_lt_of_cell? w _ hx233_4)).trans hx233_4;have HR233_4 := Aside0.mk hi233_4;have HC233_4 := Aside0.mk hl233_4;clear hi233_4 hl233_4;replace p233 := eq_true p233;replace q233 := eq_true q233;have ea_ := Option.some.inj (hx231_4.symm.trans hx233_4)
         injection ea_ with ea_ en_ ec_
         subst ea_;subst ec_;clear en_
         try go_wp2
         go_ret;exact ⟨by rfl,HB.out⟩
       ·rw [if_neg c8] at H;have c8b0 : (((rd_T63 l0 x5_1).f2) == (wrap64 ((wrap64 (x1_1 + 1)) + 1))) = false := beq_eq_false_iff_ne.mpr c8;have c8b1 : (((rd_T63 l0 x5_1).f2) != (wrap64 ((wrap64 (x1_1 + 1)) + 1))) = true := bne_iff_ne.mpr c8;obtain rfl := Option.some.inj H
        try go_wp2
        have n0_ := Aside0.mk (below_drew1 HB.out);clear HB;have HB := n0_;clear n0_;have p229 : 0 ≤ (x5_1 : Int) := of_decide_eq_true (by (with_reducible assumption));have q229 : x5_1 < (l0.length : Int) := of_decide_eq_true (by (with_reducible assumption));obtain ⟨ad229,A229_4,c229_4,e229,hx229_0,hx229_1,hx229_2,hx229_3,hx229_4,hl229_4,hi229_4⟩ := at_T63 HR0.out x5_1 p229 q229;have hw229_4 := hx229_4;have hw229_3 := hx229_3;have hw229_2 := hx229_2;have hw229_1 := hx229_1;have hw229_0 := hx229_0
        cases e229
        replace hx229_0 := (HB.out.cell (World.block_lt_of_cell? w _ hx229_0)).trans hx229_0;replace hx229_1 := (HB.out.cell (World.block_lt_of_cell? w _ hx229_1)).trans hx229_1;replace hx229_2 := (HB.out.cell (World.block_lt_of_cell? w _ hx229_2)).trans hx229_2;replace hx229_3 := (HB.out.cell (World.block_lt_of_cell? w _ hx229_3)).trans hx229_3;replace hx229_4 := (HB.out.cell (World.block_lt_of_cell? w _ hx229_4)).trans hx229_4;have HR229_4 := Aside0.mk hi229_4;have HC229_4 := Aside0.mk hl229_4;clear hi229_4 hl229_4;replace p229 := eq_true p229;replace q229 := eq_true q229;refine start_ (n := 8) (S := fun w' => w'.cell? (ad229.add ((x5_1).toNat * 5)) = some (.string ((rd_T63 l0 x5_1).f0)) ∧ w'.cell? ⟨(ad229.add ((x5_1).toNat * 5)).block,(ad229.add ((x5_1).toNat * 5)).off + 1,none⟩ = some (.int .i64 ((rd_T63 l0 x5_1).f1)) ∧ w'.cell? ⟨(ad229.add ((x5_1).toNat * 5)).block,(ad229.add ((x5_1).toNat * 5)).off + 2,none⟩ = some (.int .i64 ((rd_T63 l0 x5_1).f2)) ∧ w'.cell? ⟨(ad229.add ((x5_1).toNat * 5)).block,(ad229.add ((x5_1).toNat * 5)).off + 3,none⟩ = some (.int .i64 ((rd_T63 l0 x5_1).f3)) ∧ w'.cell? ⟨(ad229.add ((x5_1).toNat * 5)).block,(ad229.add ((x5_1).toNat * 5)).off + 4,none⟩ = some (.slice A229_4 ((rd_T63 l0 x5_1).f4).length c229_4)) (ds := []) #[false,false,false,false,false,false,false,false] (by kernel_rfl) rfl rfl ⟨((HB.out.cell (World.block_lt_of_cell? w _ hw229_0)).trans hw229_0),((HB.out.cell (World.block_lt_of_cell? w _ hw229_1)).trans hw229_1),((HB.out.cell (World.block_lt_of_cell? w _ hw229_2)).trans hw229_2),((HB.out.cell (World.block_lt_of_cell? w _ hw229_3)).trans hw229_3),((HB.out.cell (World.block_lt_of_cell? w _ hw229_4)).trans hw229_4)⟩ (fun hHeld => ?_); refine with_tabW laws_heldAcctS.tab4 laws_heldAcctS.bits4 (fun HT_ HW_ => ?_)
        generalize wr.drew = w18 at HB HR229_4 hx229_0 hx229_1 hx229_2 hx229_3 hx229_4 hHeld ⊢
        refine pure_ (i := 0) (N := some 12) (v := ?_) (a' := ?_) #[true,false,false,false,false,false,false,false] rfl rfl (any_of HT_.out (by kernel_rfl)) (fun _ _ _ h => h) (Or.inl ⟨by rfl,?_⟩) ?_ ?_;rotate_left
        ·intro w';go_simp;with_reducible rfl
        rotate_left
        ·simp only [wf_preprocess];rfl
        refine pure_ (i := 1) (N := some 13) (v := ?_) (a' := ?_) #[true,true,false,false,false,false,false,false] rfl rfl (any_of HT_.out (by kernel_rfl)) (fun _ _ _ h => h) (Or.inl ⟨by rfl,?_⟩) ?_ ?_;rotate_left
        ·intro w';go_simp;with_reducible rfl
        rotate_left
        ·simp only [wf_preprocess];rfl
        refine pure_ (i := 2) (N := some 14) (v := ?_) (a' := ?_) #[true,true,true,false,false,false,false,false] rfl rfl (any_of HT_.out (by kernel_rfl)) (fun _ _ _ h => h) (Or.inl ⟨by rfl,?_⟩) ?_ ?_;rotate_left
        ·intro w';go_simp;with_reducible rfl
        rotate_left
        ·simp only [wf_preprocess];rfl
        refine pure_ (i := 3) (N := some 15) (v := ?_) (a' := ?_) #[true,true,true,true,false,false,false,false] rfl rfl (any_of HT_.out (by kernel_rfl)) (fun _ _ _ h => h) (Or.inl ⟨by rfl,?_⟩) ?_ ?_;rotate_left
        ·intro w';go_simp;with_reducible rfl
        rotate_left
        ·simp only [wf_preprocess];rfl
        refine pure_ (i := 5) (N := some 17) (v := ?_) (a' := ?_) #[true,true,true,true,false,true,false,false] rfl rfl (any_of HT_.out (by kernel_rfl)) (fun _ _ _ h => h) (Or.inl ⟨by rfl,?_⟩) ?_ ?_;rotate_left
        ·intro w';go_simp;with_reducible rfl
        rotate_left
        ·simp only [wf_preprocess];rfl
        refine take_ (i := 4) (N := some 16) (v := ?_) (a' := ?_) #[true,true,true,true,true,true,false,false] rfl rfl (take_ofW HT_.out HW_.out (by kernel_rfl)) (fun _ _ _ h => h) (Or.inl ⟨by rfl,?_⟩) hHeld ?_ ?_;rotate_left
        ·rintro w' ⟨s0,s1,s2,s3,s4⟩;go_simp;with_reducible rfl
        rotate_left
        ·simp only [wf_preprocess];rfl
        refine one_ (i := 6) (N := some 18) #[true,true,true,true,true,true,true,false] rfl rfl (one_of HT_.out (by kernel_rfl)) (by decide) (fun K hK => ?_);refine goes_ Try.func74 (by kernel_rfl) rfl #[.int .i64 x1_1] (by rfl) rfl rfl (by (try simp only [List.map_toArray,List.map_cons,List.map_nil]); rfl) ?_
        with_reducible refine (laws_markText.calls k1 x1_1 t230 _ A5.out).mono ?_
        rintro e w19 ⟨rfl,hb⟩;refine ⟨_,rfl,?_⟩;have n0_ := Aside0.mk (below_step HB.out hb);clear HB;have HB := n0_;clear n0_
        (try clear hb)
        skip
        skip
        skip
        refine hK.out _ _ ⟨((HB.out.cell (World.block_lt_of_cell? w _ hw229_0)).trans hw229_0),((HB.out.cell (World.block_lt_of_cell? w _ hw229_1)).trans hw229_1),((HB.out.cell (World.block_lt_of_cell? w _ hw229_2)).trans hw229_2),((HB.out.cell (World.block_lt_of_cell? w _ hw229_3)).trans hw229_3),((HB.out.cell (World.block_lt_of_cell? w _ hw229_4)).trans hw229_4)⟩ (fun hHeld => ?_);clear hK K;refine norm_ (a' := ?_) ?_ ?_;rotate_left
        ·show Act.put _ (some 18) _ = _
         simp only [wf_preprocess];rfl
        refine pure_ (i := 7) (N := some 19) (v := ?_) (a' := ?_) #[true,true,true,true,true,true,true,true] rfl rfl (any_of HT_.out (by kernel_rfl)) (fun _ _ _ h => h) (Or.inl ⟨by rfl,?_⟩) ?_ ?_;rotate_left
        ·intro w';go_simp;with_reducible rfl
        rotate_left
        ·simp only [wf_preprocess];rfl
        refine done_ (done_of HT_.out (by kernel_rfl)) ?_;have p231 : 0 ≤ (x5_1 : Int) := of_decide_eq_true (by (with_reducible assumption));have q231 : x5_1 < (l0.length : Int) := of_decide_eq_true (by (with_reducible assumption));obtain ⟨ad231,A231_4,c231_4,e231,hx231_0,hx231_1,hx231_2,hx231_3,hx231_4,hl231_4,hi231_4⟩ := at_T63 HR0.out x5_1 p231 q231;obtain rfl : ad229 = ad231 := (by injection e231);replace hx231_0 := (HB.out.cell (World.block_lt_of_cell? w _ hx231_0)).trans hx231_0;replace hx231_1 := (HB.out.cell (World.block_lt_of_cell? w _ hx231_1)).trans hx231_1;replace hx231_2 := (HB.out.cell (World.block_lt_of_cell? w _ hx231_2)).trans hx231_2;replace hx231_3 := (HB.out.cell (World.block_lt_of_cell? w _ hx231_3)).trans hx231_3;replace hx231_4 := (HB.out.cell (World.block_lt_of_cell? w _ hx231_4)).trans hx231_4;have HR231_4 := Aside0.mk hi231_4;have HC231_4 := Aside0.mk hl231_4;clear hi231_4 hl231_4;replace p231 := eq_true p231;replace q231 := eq_true q231
        (try clear hHeld)
        have p232 : 0 ≤ (x5_1 : Int) := of_decide_eq_true (by (with_reducible assumption));have q232 : x5_1 < (l0.length : Int) := of_decide_eq_true (by (with_reducible assumption));obtain ⟨ad232,A232_4,c232_4,e232,hx232_0,hx232_1,hx232_2,hx232_3,hx232_4,hl232_4,hi232_4⟩ := at_T63 HR0.out x5_1 p232 q232;obtain rfl : ad229 = ad232 := (by injection e232);replace hx232_0 := (HB.out.cell (World.block_lt_of_cell? w _ hx232_0)).trans hx232_0;replace hx232_1 := (HB.out.cell (World.block_lt_of_cell? w _ hx232_1)).trans hx232_1;replace hx232_2 := (HB.out.cell (World.block_lt_of_cell? w _ hx232_2)).trans hx232_2;replace hx232_3 := (HB.out.cell (World.block_lt_of_cell? w _ hx232_3)).trans hx232_3;replace hx232_4 := (HB.out.cell (World.block_lt_of_cell? w _ hx232_4)).trans hx232_4;have HR232_4 := Aside0.mk hi232_4;have HC232_4 := Aside0.mk hl232_4;clear hi232_4 hl232_4;replace p232 := eq_true p232;replace q232 := eq_true q232;have ea_ := Option.some.inj (hx231_4.symm.trans hx232_4)
        injection ea_ with ea_ en_ ec_
        subst ea_;subst ec_;clear en_
        try go_wp2
        go_ret;exact ⟨by rfl,HB.out⟩
      ·rw [if_neg c7] at H;have c7b0 : (((rd_T63 l0 x5_1).f1) == (wrap64 (x1_1 + 1))) = false := beq_eq_false_iff_ne.mpr c7;have c7b1 : (((rd_T63 l0 x5_1).f1) != (wrap64 (x1_1 + 1))) = true := bne_iff_ne.mpr c7;obtain rfl := Option.some.inj H
       try go_wp2
       have n0_ := Aside0.mk (below_drew1 HB.out);clear HB;have HB := n0_;clear n0_;have p229 : 0 ≤ (x5_1 : Int) := of_decide_eq_true (by (with_reducible assumption));have q229 : x5_1 < (l0.length : Int) := of_decide_eq_true (by (with_reducible assumption));obtain ⟨ad229,A229_4,c229_4,e229,hx229_0,hx229_1,hx229_2,hx229_3,hx229_4,hl229_4,hi229_4⟩ := at_T63 HR0.out x5_1 p229 q229;have hw229_4 := hx229_4;have hw229_3 := hx229_3;have hw229_2 := hx229_2;have hw229_1 := hx229_1;have hw229_0 := hx229_0
       cases e229
       replace hx229_0 := (HB.out.cell (World.block_lt_of_cell? w _ hx229_0)).trans hx229_0;replace hx229_1 := (HB.out.cell (World.block_lt_of_cell? w _ hx229_1)).trans hx229_1;replace hx229_2 := (HB.out.cell (World.block_lt_of_cell? w _ hx229_2)).trans hx229_2;replace hx229_3 := (HB.out.cell (World.block_lt_of_cell? w _ hx229_3)).trans hx229_3;replace hx229_4 := (HB.out.cell (World.block_lt_of_cell? w _ hx229_4)).trans hx229_4;have HR229_4 := Aside0.mk hi229_4;have HC229_4 := Aside0.mk hl229_4;clear hi229_4 hl229_4;replace p229 := eq_true p229;replace q229 := eq_true q229;refine start_ (n := 8) (S := fun w' => w'.cell? (ad229.add ((x5_1).toNat * 5)) = some (.string ((rd_T63 l0 x5_1).f0)) ∧ w'.cell? ⟨(ad229.add ((x5_1).toNat * 5)).block,(ad229.add ((x5_1).toNat * 5)).off + 1,none⟩ = some (.int .i64 ((rd_T63 l0 x5_1).f1)) ∧ w'.cell? ⟨(ad229.add ((x5_1).toNat * 5)).block,(ad229.add ((x5_1).toNat * 5)).off + 2,none⟩ = some (.int .i64 ((rd_T63 l0 x5_1).f2)) ∧ w'.cell? ⟨(ad229.add ((x5_1).toNat * 5)).block,(ad229.add ((x5_1).toNat * 5)).off + 3,none⟩ = some (.int .i64 ((rd_T63 l0 x5_1).f3)) ∧ w'.cell? ⟨(ad229.add ((x5_1).toNat * 5)).block,(ad229.add ((x5_1).toNat * 5)).off + 4,none⟩ = some (.slice A229_4 ((rd_T63 l0 x5_1).f4).length c229_4)) (ds := []) #[false,false,false,false,false,false,false,false] (by kernel_rfl) rfl rfl ⟨((HB.out.cell (World.block_lt_of_cell? w _ hw229_0)).trans hw229_0),((HB.out.cell (World.block_lt_of_cell? w _ hw229_1)).trans hw229_1),((HB.out.cell (World.block_lt_of_cell? w _ hw229_2)).trans hw229_2),((HB.out.cell (World.block_lt_of_cell? w _ hw229_3)).trans hw229_3),((HB.out.cell (World.block_lt_of_cell? w _ hw229_4)).trans hw229_4)⟩ (fun hHeld => ?_); refine with_tabW laws_heldAcctS.tab4 laws_heldAcctS.bits4 (fun HT_ HW_ => ?_)
       generalize wr.drew = w20 at HB HR229_4 hx229_0 hx229_1 hx229_2 hx229_3 hx229_4 hHeld ⊢
       refine pure_ (i := 0) (N := some 12) (v := ?_) (a' := ?_) #[true,false,false,false,false,false,false,false] rfl rfl (any_of HT_.out (by kernel_rfl)) (fun _ _ _ h => h) (Or.inl ⟨by rfl,?_⟩) ?_ ?_;rotate_left
       ·intro w';go_simp;with_reducible rfl
       rotate_left
       ·simp only [wf_preprocess];rfl
       refine pure_ (i := 1) (N := some 13) (v := ?_) (a' := ?_) #[true,true,false,false,false,false,false,false] rfl rfl (any_of HT_.out (by kernel_rfl)) (fun _ _ _ h => h) (Or.inl ⟨by rfl,?_⟩) ?_ ?_;rotate_left
       ·intro w';go_simp;with_reducible rfl
       rotate_left
       ·simp only [wf_preprocess];rfl
       refine pure_ (i := 2) (N := some 14) (v := ?_) (a' := ?_) #[true,true,true,false,false,false,false,false] rfl rfl (any_of HT_.out (by kernel_rfl)) (fun _ _ _ h => h) (Or.inl ⟨by rfl,?_⟩) ?_ ?_;rotate_left
       ·intro w';go_simp;with_reducible rfl
       rotate_left
       ·simp only [wf_preprocess];rfl
       refine pure_ (i := 3) (N := some 15) (v := ?_) (a' := ?_) #[true,true,true,true,false,false,false,false] rfl rfl (any_of HT_.out (by kernel_rfl)) (fun _ _ _ h => h) (Or.inl ⟨by rfl,?_⟩) ?_ ?_;rotate_left
       ·intro w';go_simp;with_reducible rfl
       rotate_left
       ·simp only [wf_preprocess];rfl
       refine pure_ (i := 5) (N := some 17) (v := ?_) (a' := ?_) #[true,true,true,true,false,true,false,false] rfl rfl (any_of HT_.out (by kernel_rfl)) (fun _ _ _ h => h) (Or.inl ⟨by rfl,?_⟩) ?_ ?_;rotate_left
       ·intro w';go_simp;with_reducible rfl
       rotate_left
       ·simp only [wf_preprocess];rfl
       refine take_ (i := 4) (N := some 16) (v := ?_) (a' := ?_) #[true,true,true,true,true,true,false,false] rfl rfl (take_ofW HT_.out HW_.out (by kernel_rfl)) (fun _ _ _ h => h) (Or.inl ⟨by rfl,?_⟩) hHeld ?_ ?_;rotate_left
       ·rintro w' ⟨s0,s1,s2,s3,s4⟩;go_simp;with_reducible rfl
       rotate_left
       ·simp only [wf_preprocess];rfl
       refine one_ (i := 6) (N := some 18) #[true,true,true,true,true,true,true,false] rfl rfl (one_of HT_.out (by kernel_rfl)) (by decide) (fun K hK => ?_);refine goes_ Try.func74 (by kernel_rfl) rfl #[.int .i64 x1_1] (by rfl) rfl rfl (by (try simp only [List.map_toArray,List.map_cons,List.map_nil]); rfl) ?_
       with_reducible refine (laws_markText.calls k1 x1_1 t230 _ A5.out).mono ?_
       rintro e w21 ⟨rfl,hb⟩;refine ⟨_,rfl,?_⟩;have n0_ := Aside0.mk (below_step HB.out hb);clear HB;have HB := n0_;clear n0_
       (try clear hb)
       skip
       skip
       skip
       refine hK.out _ _ ⟨((HB.out.cell (World.block_lt_of_cell? w _ hw229_0)).trans hw229_0),((HB.out.cell (World.block_lt_of_cell? w _ hw229_1)).trans hw229_1),((HB.out.cell (World.block_lt_of_cell? w _ hw229_2)).trans hw229_2),((HB.out.cell (World.block_lt_of_cell? w _ hw229_3)).trans hw229_3),((HB.out.cell (World.block_lt_of_cell? w _ hw229_4)).trans hw229_4)⟩ (fun hHeld => ?_);clear hK K;refine norm_ (a' := ?_) ?_ ?_;rotate_left
       ·show Act.put _ (some 18) _ = _
        simp only [wf_preprocess];rfl
       refine pure_ (i := 7) (N := some 19) (v := ?_) (a' := ?_) #[true,true,true,true,true,true,true,true] rfl rfl (any_of HT_.out (by kernel_rfl)) (fun _ _ _ h => h) (Or.inl ⟨by rfl,?_⟩) ?_ ?_;rotate_left
       ·intro w';go_simp;with_reducible rfl
       rotate_left
       ·simp only [wf_preprocess];rfl
       refine done_ (done_of HT_.out (by kernel_rfl)) ?_;have p231 : 0 ≤ (x5_1 : Int) := of_decide_eq_true (by (with_reducible assumption));have q231 : x5_1 < (l0.length : Int) := of_decide_eq_true (by (with_reducible assumption));obtain ⟨ad231,A231_4,c231_4,e231,hx231_0,hx231_1,hx231_2,hx231_3,hx231_4,hl231_4,hi231_4⟩ := at_T63 HR0.out x5_1 p231 q231;obtain rfl : ad229 = ad231 := (by injection e231);replace hx231_0 := (HB.out.cell (World.block_lt_of_cell? w _ hx231_0)).trans hx231_0;replace hx231_1 := (HB.out.cell (World.block_lt_of_cell? w _ hx231_1)).trans hx231_1;replace hx231_2 := (HB.out.cell (World.block_lt_of_cell? w _ hx231_2)).trans hx231_2;replace hx231_3 := (HB.out.cell (World.block_lt_of_cell? w _ hx231_3)).trans hx231_3;replace hx231_4 := (HB.out.cell (World.block_lt_of_cell? w _ hx231_4)).trans hx231_4;have HR231_4 := Aside0.mk hi231_4;have HC231_4 := Aside0.mk hl231_4;clear hi231_4 hl231_4;replace p231 := eq_true p231;replace q231 := eq_true q231
       (try clear hHeld)
       try go_wp2
       go_ret;exact ⟨by rfl,HB.out⟩
     ·rw [if_neg c6] at H;have c6b0 : (((rd_T63 l0 x5_1).f0).toList == t230.toList) = false := beq_eq_false_iff_ne.mpr c6;have c6b1 : (((rd_T63 l0 x5_1).f0).toList != t230.toList) = true := bne_iff_ne.mpr c6;obtain rfl := Option.some.inj H
      try go_wp2
      have n0_ := Aside0.mk (below_drew1 HB.out);clear HB;have HB := n0_;clear n0_;have p229 : 0 ≤ (x5_1 : Int) := of_decide_eq_true (by (with_reducible assumption));have q229 : x5_1 < (l0.length : Int) := of_decide_eq_true (by (with_reducible assumption));obtain ⟨ad229,A229_4,c229_4,e229,hx229_0,hx229_1,hx229_2,hx229_3,hx229_4,hl229_4,hi229_4⟩ := at_T63 HR0.out x5_1 p229 q229;have hw229_4 := hx229_4;have hw229_3 := hx229_3;have hw229_2 := hx229_2;have hw229_1 := hx229_1;have hw229_0 := hx229_0
      cases e229
      replace hx229_0 := (HB.out.cell (World.block_lt_of_cell? w _ hx229_0)).trans hx229_0;replace hx229_1 := (HB.out.cell (World.block_lt_of_cell? w _ hx229_1)).trans hx229_1;replace hx229_2 := (HB.out.cell (World.block_lt_of_cell? w _ hx229_2)).trans hx229_2;replace hx229_3 := (HB.out.cell (World.block_lt_of_cell? w _ hx229_3)).trans hx229_3;replace hx229_4 := (HB.out.cell (World.block_lt_of_cell? w _ hx229_4)).trans hx229_4;have HR229_4 := Aside0.mk hi229_4;have HC229_4 := Aside0.mk hl229_4;clear hi229_4 hl229_4;replace p229 := eq_true p229;replace q229 := eq_true q229;refine start_ (n := 8) (S := fun w' => w'.cell? (ad229.add ((x5_1).toNat * 5)) = some (.string ((rd_T63 l0 x5_1).f0)) ∧ w'.cell? ⟨(ad229.add ((x5_1).toNat * 5)).block,(ad229.add ((x5_1).toNat * 5)).off + 1,none⟩ = some (.int .i64 ((rd_T63 l0 x5_1).f1)) ∧ w'.cell? ⟨(ad229.add ((x5_1).toNat * 5)).block,(ad229.add ((x5_1).toNat * 5)).off + 2,none⟩ = some (.int .i64 ((rd_T63 l0 x5_1).f2)) ∧ w'.cell? ⟨(ad229.add ((x5_1).toNat * 5)).block,(ad229.add ((x5_1).toNat * 5)).off + 3,none⟩ = some (.int .i64 ((rd_T63 l0 x5_1).f3)) ∧ w'.cell? ⟨(ad229.add ((x5_1).toNat * 5)).block,(ad229.add ((x5_1).toNat * 5)).off + 4,none⟩ = some (.slice A229_4 ((rd_T63 l0 x5_1).f4).length c229_4)) (ds := []) #[false,false,false,false,false,false,false,false] (by kernel_rfl) rfl rfl ⟨((HB.out.cell (World.block_lt_of_cell? w _ hw229_0)).trans hw229_0),((HB.out.cell (World.block_lt_of_cell? w _ hw229_1)).trans hw229_1),((HB.out.cell (World.block_lt_of_cell? w _ hw229_2)).trans hw229_2),((HB.out.cell (World.block_lt_of_cell? w _ hw229_3)).trans hw229_3),((HB.out.cell (World.block_lt_of_cell? w _ hw229_4)).trans hw229_4)⟩ (fun hHeld => ?_); refine with_tabW laws_heldAcctS.tab4 laws_heldAcctS.bits4 (fun HT_ HW_ => ?_)
      generalize wr.drew = w22 at HB HR229_4 hx229_0 hx229_1 hx229_2 hx229_3 hx229_4 hHeld ⊢
      refine pure_ (i := 0) (N := some 12) (v := ?_) (a' := ?_) #[true,false,false,false,false,false,false,false] rfl rfl (any_of HT_.out (by kernel_rfl)) (fun _ _ _ h => h) (Or.inl ⟨by rfl,?_⟩) ?_ ?_;rotate_left
      ·intro w';go_simp;with_reducible rfl
      rotate_left
      ·simp only [wf_preprocess];rfl
      refine pure_ (i := 1) (N := some 13) (v := ?_) (a' := ?_) #[true,true,false,false,false,false,false,false] rfl rfl (any_of HT_.out (by kernel_rfl)) (fun _ _ _ h => h) (Or.inl ⟨by rfl,?_⟩) ?_ ?_;rotate_left
      ·intro w';go_simp;with_reducible rfl
      rotate_left
      ·simp only [wf_preprocess];rfl
      refine pure_ (i := 2) (N := some 14) (v := ?_) (a' := ?_) #[true,true,true,false,false,false,false,false] rfl rfl (any_of HT_.out (by kernel_rfl)) (fun _ _ _ h => h) (Or.inl ⟨by rfl,?_⟩) ?_ ?_;rotate_left
      ·intro w';go_simp;with_reducible rfl
      rotate_left
      ·simp only [wf_preprocess];rfl
      refine pure_ (i := 3) (N := some 15) (v := ?_) (a' := ?_) #[true,true,true,true,false,false,false,false] rfl rfl (any_of HT_.out (by kernel_rfl)) (fun _ _ _ h => h) (Or.inl ⟨by rfl,?_⟩) ?_ ?_;rotate_left
      ·intro w';go_simp;with_reducible rfl
      rotate_left
      ·simp only [wf_preprocess];rfl
      refine pure_ (i := 5) (N := some 17) (v := ?_) (a' := ?_) #[true,true,true,true,false,true,false,false] rfl rfl (any_of HT_.out (by kernel_rfl)) (fun _ _ _ h => h) (Or.inl ⟨by rfl,?_⟩) ?_ ?_;rotate_left
      ·intro w';go_simp;with_reducible rfl
      rotate_left
      ·simp only [wf_preprocess];rfl
      refine take_ (i := 4) (N := some 16) (v := ?_) (a' := ?_) #[true,true,true,true,true,true,false,false] rfl rfl (take_ofW HT_.out HW_.out (by kernel_rfl)) (fun _ _ _ h => h) (Or.inl ⟨by rfl,?_⟩) hHeld ?_ ?_;rotate_left
      ·rintro w' ⟨s0,s1,s2,s3,s4⟩;go_simp;with_reducible rfl
      rotate_left
      ·simp only [wf_preprocess];rfl
      refine one_ (i := 6) (N := some 18) #[true,true,true,true,true,true,true,false] rfl rfl (one_of HT_.out (by kernel_rfl)) (by decide) (fun K hK => ?_);refine goes_ Try.func74 (by kernel_rfl) rfl #[.int .i64 x1_1] (by rfl) rfl rfl (by (try simp only [List.map_toArray,List.map_cons,List.map_nil]); rfl) ?_
      with_reducible refine (laws_markText.calls k1 x1_1 t230 _ A5.out).mono ?_
      rintro e w23 ⟨rfl,hb⟩;refine ⟨_,rfl,?_⟩;have n0_ := Aside0.mk (below_step HB.out hb);clear HB;have HB := n0_;clear n0_
      (try clear hb)
      skip
      skip
      skip
      refine hK.out _ _ ⟨((HB.out.cell (World.block_lt_of_cell? w _ hw229_0)).trans hw229_0),((HB.out.cell (World.block_lt_of_cell? w _ hw229_1)).trans hw229_1),((HB.out.cell (World.block_lt_of_cell? w _ hw229_2)).trans hw229_2),((HB.out.cell (World.block_lt_of_cell? w _ hw229_3)).trans hw229_3),((HB.out.cell (World.block_lt_of_cell? w _ hw229_4)).trans hw229_4)⟩ (fun hHeld => ?_);clear hK K;refine norm_ (a' := ?_) ?_ ?_;rotate_left
      ·show Act.put _ (some 18) _ = _
       simp only [wf_preprocess];rfl
      refine pure_ (i := 7) (N := some 19) (v := ?_) (a' := ?_) #[true,true,true,true,true,true,true,true] rfl rfl (any_of HT_.out (by kernel_rfl)) (fun _ _ _ h => h) (Or.inl ⟨by rfl,?_⟩) ?_ ?_;rotate_left
      ·intro w';go_simp;with_reducible rfl
      rotate_left
      ·simp only [wf_preprocess];rfl
      refine done_ (done_of HT_.out (by kernel_rfl)) ?_
      try go_wp2
      go_ret;exact ⟨by rfl,HB.out⟩
    ·rw [if_neg c4] at H;exact absurd H (by simp)
   ·rw [if_neg c3] at H;have c3b0 : decide (x5_1 < (l0.length : Int)) = false := decide_eq_false c3;clear c3;obtain rfl := Option.some.inj H;go_wp2;go_ret;exact ⟨by rfl,HB.out⟩

end Go.Proofs.Ytcbpfofkdipjhaa.PH
