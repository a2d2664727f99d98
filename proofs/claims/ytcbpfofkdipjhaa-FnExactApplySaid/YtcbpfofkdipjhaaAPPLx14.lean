/- The machine's side of Go functions: each as a plain function,and that the call does what it says. Written by a program (wip/mprint). -/
import Derived.Test.YtcbpfofkdipjhaaAPPLx0
import Derived.Test.YtcbpfofkdipjhaaAPPLx13
namespace Go.Proofs.Ytcbpfofkdipjhaa.PL
open Go.RowKit Go.Proofs.YtcbpfofkdipjhaaW.PrintWords Go.Proofs.YtcbpfofkdipjhaaW.PrintLast Go.Proofs.YtcbpfofkdipjhaaW.PrintMore
attribute [local wf_preprocess] Act.put List.setIfInBounds_toArray List.set_cons_zero List.set_cons_succ i64_w i32_w
attribute [local go_sem] max2_int min2_int max_two min_two max_three min_three max_four min_four   -- for this text's walks alone
set_option linter.unusedVariables false
set_option linter.unusedSimpArgs false

/-! ### laws_eqLeaveS: function 127 -/
def laws_eqLeaveS.l0 : Nat → List (S65) → List (S65) → Int → Option (Bool)
 | 0,_,_,_ => none
 | k + 1,x0,x1,x5 => if x5 < (x0.length : Int) then (if 0 ≤ x5 then (if x5 < (x1.length : Int) then ((laws_eqLeave.f ((rd_T65 x0 x5).f0) ((rd_T65 x0 x5).f1) ((rd_T65 x1 x5).f0) ((rd_T65 x1 x5).f1)).bind fun t297 => (if t297 = true then (laws_eqLeaveS.l0 k x0 x1 (wrap64 (x5 + 1))) else (some false))) else (none)) else (none)) else (some true)
def laws_eqLeaveS.f (k : Nat) (l0 : List (S65)) (l1 : List (S65)) : Option (Bool) := if (l0.length : Int) = (l1.length : Int) then (laws_eqLeaveS.l0 k l0 l1 0) else (some false)
theorem laws_eqLeaveS.mono_l : ∀ k,(∀ y0 y1 y2,LeO (laws_eqLeaveS.l0 k y0 y1 y2) (laws_eqLeaveS.l0 (k + 1) y0 y1 y2))
 | 0 => fun _ _ _ r h => by simp [laws_eqLeaveS.l0] at h
 | k + 1 => by
  have ih0 := laws_eqLeaveS.mono_l k
  ·intro y0 y1 y2;unfold laws_eqLeaveS.l0
   repeat' first
   | (with_reducible exact ih0 _ _ _)
   | (with_reducible exact LeO.refl _)
   | (with_reducible exact LeO.none _)
   | (with_reducible refine LeO.ite ?_ ?_)
   | (with_reducible refine LeO.bind ?_ (fun _ => ?_))
   | exact ih0 _ _ _
   | exact LeO.none _
theorem laws_eqLeaveS.mono : ∀ a0 a1 k,LeO (laws_eqLeaveS.f k a0 a1) (laws_eqLeaveS.f (k + 1) a0 a1) := by
 intro a0 a1 k;have ih0 := laws_eqLeaveS.mono_l k;unfold laws_eqLeaveS.f
 repeat' first
   | (with_reducible exact ih0 _ _ _)
   | (with_reducible exact LeO.refl _)
   | (with_reducible exact LeO.none _)
   | (with_reducible refine LeO.ite ?_ ?_)
   | (with_reducible refine LeO.bind ?_ (fun _ => ?_))
   | exact ih0 _ _ _
   | exact LeO.none _
def laws_eqLeaveS.T6 : Bool × List (List Nat × List Nat) := (true,[([],[]),([],[]),([0,1],[0,1]),([2],[2]),([],[]),([],[]),([4,5],[4,5]),([6],[6]),([3,7],[3,7]),([8],[8])])
def laws_eqLeaveS.B6 : List Nat := [0,0,3,7,0,0,48,112,255,511]
theorem laws_eqLeaveS.tab6 : rtab .any (opsOf Try.f127 6) = laws_eqLeaveS.T6 := by kernel_rfl
theorem laws_eqLeaveS.bits6 : waitsOk laws_eqLeaveS.T6.2 laws_eqLeaveS.B6 = true := by kernel_rfl
set_option maxHeartbeats 8000000 in
set_option maxRecDepth 100000 in
theorem laws_eqLeaveS.calls (k : Nat) (A0 : Option Addr) (c0 : Nat) (l0 : List (S65)) (A1 : Option Addr) (c1 : Nat) (l1 : List (S65)) (r : Bool) (w : World) (hr0 : Kd.C k65 w A0 l0.length l0) (hc0 : l0.length ≤ c0) (hr1 : Kd.C k65 w A1 l1.length l1) (hc1 : l1.length ≤ c1) (h : laws_eqLeaveS.f k l0 l1 = some r) :
  Calls Try.prog 127 #[.slice A0 l0.length c0,.slice A1 l1.length c1] w fun e w' => e = .returned (.bool r) ∧ Below w.heap.size w w' := by
 have hu65 := Try.underlying65;have HR0 := Aside0.mk hr0;have HC0 := Aside0.mk hc0;clear hr0 hc0;have HR1 := Aside0.mk hr1;have HC1 := Aside0.mk hc1;clear hr1 hc1;have HB := Aside0.mk (Below.refl w.heap.size w);have H : (if (l0.length : Int) = (l1.length : Int) then (laws_eqLeaveS.l0 k l0 l1 0) else (some false)) = some r := h;clear h
 by_cases c3 : (l0.length : Int) = (l1.length : Int)
 ·rw [if_pos c3] at H;have c3b0 : ((l0.length : Int) == (l1.length : Int)) = true := beq_iff_eq.mpr c3;have c3b1 : ((l0.length : Int) != (l1.length : Int)) = false := bne_eq_false_iff_eq.mpr c3
  have c3b2 : (l0.length == l1.length) = true := by (simp at c3 ⊢; omega)
  clear c3;have H' := Aside0.mk H;clear H;go_enter Try.func127,Try.ntmps127;go_wp2
  go_loopg [5] k (fun kq v5 w' => ∃ (x5_1 : Int),v5 = .int .i64 x5_1 ∧ Aside0 (laws_eqLeaveS.l0 kq l0 l1 x5_1 = some r) ∧ Aside0 (kq ≤ k) ∧ Aside0 (Below w.heap.size w w'))
  case atStart => exact ⟨(0),(by rfl),H',⟨Nat.le_refl _⟩,⟨HB.out⟩⟩
  case round =>
   clear H'
   try clear c1
   try clear p2
   try clear c3
   try clear c3b0
   try clear c3b1
   try clear c3b2
   obtain ⟨x5_1,rfl,HA,HK1,HB⟩ := hrel
   cases gk with
   | zero => exact absurd HA.out (by simp [laws_eqLeaveS.l0])
   | succ k1 =>
    have H := HA.out;clear HA;simp only [laws_eqLeaveS.l0] at H
    by_cases c4 : x5_1 < (l0.length : Int)
    ·rw [if_pos c4] at H;have c4b0 : decide (x5_1 < (l0.length : Int)) = true := decide_eq_true c4;clear c4
     by_cases c5 : 0 ≤ x5_1
     ·rw [if_pos c5] at H;have c5b0 : decide (0 ≤ x5_1) = true := decide_eq_true c5;clear c5
      by_cases c6 : x5_1 < (l1.length : Int)
      ·rw [if_pos c6] at H;have c6b0 : decide (x5_1 < (l1.length : Int)) = true := decide_eq_true c6;clear c6;replace H := Option.bind_eq_some_iff.mp H;obtain ⟨t297,A70,H⟩ := H;replace H : (if t297 = true then (laws_eqLeaveS.l0 k1 l0 l1 (wrap64 (x5_1 + 1))) else (some false)) = some r := H;have A7 := Aside0.mk A70;clear A70
       by_cases c8 : t297 = true
       ·subst c8
        have H1 : (laws_eqLeaveS.l0 k1 l0 l1 (wrap64 (x5_1 + 1))) = some r := by rw [if_pos rfl] at H; exact H
        clear H;have H := H1;clear H1;have H' := Aside0.mk H;clear H
        try go_wp2
        have n0_ := Aside0.mk (below_drew1 HB.out);clear HB;have HB := n0_;clear n0_;have p295 : 0 ≤ (x5_1 : Int) := of_decide_eq_true (by (with_reducible assumption));have q295 : x5_1 < (l0.length : Int) := of_decide_eq_true (by (with_reducible assumption));obtain ⟨ad295,e295,hx295_0,hx295_1⟩ := at_T65 HR0.out x5_1 p295 q295;have hw295_1 := hx295_1;have hw295_0 := hx295_0
        cases e295
        replace hx295_0 := (HB.out.cell (World.block_lt_of_cell? w _ hx295_0)).trans hx295_0;replace hx295_1 := (HB.out.cell (World.block_lt_of_cell? w _ hx295_1)).trans hx295_1;replace p295 := eq_true p295;replace q295 := eq_true q295;have p296 : 0 ≤ (x5_1 : Int) := of_decide_eq_true (by (with_reducible assumption));have q296 : x5_1 < (l1.length : Int) := of_decide_eq_true (by (with_reducible assumption));obtain ⟨ad296,e296,hx296_0,hx296_1⟩ := at_T65 HR1.out x5_1 p296 q296;have hw296_1 := hx296_1;have hw296_0 := hx296_0
        cases e296
        replace hx296_0 := (HB.out.cell (World.block_lt_of_cell? w _ hx296_0)).trans hx296_0;replace hx296_1 := (HB.out.cell (World.block_lt_of_cell? w _ hx296_1)).trans hx296_1;replace p296 := eq_true p296;replace q296 := eq_true q296;refine start_ (n := 10) (S := fun w' => w'.cell? (ad295.add ((x5_1).toNat * 2)) = some (.int .i64 ((rd_T65 l0 x5_1).f0)) ∧ w'.cell? ⟨(ad295.add ((x5_1).toNat * 2)).block,(ad295.add ((x5_1).toNat * 2)).off + 1,none⟩ = some (.int .i64 ((rd_T65 l0 x5_1).f1)) ∧ w'.cell? (ad296.add ((x5_1).toNat * 2)) = some (.int .i64 ((rd_T65 l1 x5_1).f0)) ∧ w'.cell? ⟨(ad296.add ((x5_1).toNat * 2)).block,(ad296.add ((x5_1).toNat * 2)).off + 1,none⟩ = some (.int .i64 ((rd_T65 l1 x5_1).f1))) (ds := []) #[false,false,false,false,false,false,false,false,false,false] (by kernel_rfl) rfl rfl ⟨((HB.out.cell (World.block_lt_of_cell? w _ hw295_0)).trans hw295_0),((HB.out.cell (World.block_lt_of_cell? w _ hw295_1)).trans hw295_1),((HB.out.cell (World.block_lt_of_cell? w _ hw296_0)).trans hw296_0),((HB.out.cell (World.block_lt_of_cell? w _ hw296_1)).trans hw296_1)⟩ (fun hHeld => ?_); refine with_tabW laws_eqLeaveS.tab6 laws_eqLeaveS.bits6 (fun HT_ HW_ => ?_)
        generalize wr.drew = w9 at HB hx295_0 hx295_1 hx296_0 hx296_1 hHeld ⊢
        refine pure_ (i := 0) (N := some 17) (v := ?_) (a' := ?_) #[true,false,false,false,false,false,false,false,false,false] rfl rfl (any_of HT_.out (by kernel_rfl)) (fun _ _ _ h => h) (Or.inl ⟨by rfl,?_⟩) ?_ ?_;rotate_left
        ·intro w';go_simp;with_reducible rfl
        rotate_left
        ·simp only [wf_preprocess];rfl
        refine pure_ (i := 1) (N := some 18) (v := ?_) (a' := ?_) #[true,true,false,false,false,false,false,false,false,false] rfl rfl (any_of HT_.out (by kernel_rfl)) (fun _ _ _ h => h) (Or.inl ⟨by rfl,?_⟩) ?_ ?_;rotate_left
        ·intro w';go_simp;with_reducible rfl
        rotate_left
        ·simp only [wf_preprocess];rfl
        refine pure_ (i := 2) (N := some 19) (v := ?_) (a' := ?_) #[true,true,true,false,false,false,false,false,false,false] rfl rfl (any_of HT_.out (by kernel_rfl)) (fun _ _ _ h => h) (Or.inl ⟨by rfl,?_⟩) ?_ ?_;rotate_left
        ·intro w';go_simp;with_reducible rfl
        rotate_left
        ·simp only [wf_preprocess];rfl
        refine pure_ (i := 4) (N := some 21) (v := ?_) (a' := ?_) #[true,true,true,false,true,false,false,false,false,false] rfl rfl (any_of HT_.out (by kernel_rfl)) (fun _ _ _ h => h) (Or.inl ⟨by rfl,?_⟩) ?_ ?_;rotate_left
        ·intro w';go_simp;with_reducible rfl
        rotate_left
        ·simp only [wf_preprocess];rfl
        refine pure_ (i := 5) (N := some 22) (v := ?_) (a' := ?_) #[true,true,true,false,true,true,false,false,false,false] rfl rfl (any_of HT_.out (by kernel_rfl)) (fun _ _ _ h => h) (Or.inl ⟨by rfl,?_⟩) ?_ ?_;rotate_left
        ·intro w';go_simp;with_reducible rfl
        rotate_left
        ·simp only [wf_preprocess];rfl
        refine pure_ (i := 6) (N := some 23) (v := ?_) (a' := ?_) #[true,true,true,false,true,true,true,false,false,false] rfl rfl (any_of HT_.out (by kernel_rfl)) (fun _ _ _ h => h) (Or.inl ⟨by rfl,?_⟩) ?_ ?_;rotate_left
        ·intro w';go_simp;with_reducible rfl
        rotate_left
        ·simp only [wf_preprocess];rfl
        refine take_ (i := 3) (N := some 20) (v := ?_) (a' := ?_) #[true,true,true,true,true,true,true,false,false,false] rfl rfl (take_ofW HT_.out HW_.out (by kernel_rfl)) (fun _ _ _ h => h) (Or.inl ⟨by rfl,?_⟩) hHeld ?_ ?_;rotate_left
        ·rintro w' ⟨s0,s1,s2,s3⟩;go_simp;with_reducible rfl
        rotate_left
        ·simp only [wf_preprocess];rfl
        refine take_ (i := 7) (N := some 24) (v := ?_) (a' := ?_) #[true,true,true,true,true,true,true,true,false,false] rfl rfl (take_ofW HT_.out HW_.out (by kernel_rfl)) (fun _ _ _ h => h) (Or.inl ⟨by rfl,?_⟩) hHeld ?_ ?_;rotate_left
        ·rintro w' ⟨s0,s1,s2,s3⟩;go_simp;with_reducible rfl
        rotate_left
        ·simp only [wf_preprocess];rfl
        refine one_ (i := 8) (N := some 25) #[true,true,true,true,true,true,true,true,true,false] rfl rfl (one_of HT_.out (by kernel_rfl)) (by decide) (fun K hK => ?_);refine goes_ Try.func141 (by kernel_rfl) rfl #[.agg #[.int .i64 ((rd_T65 l0 x5_1).f0),.int .i64 ((rd_T65 l0 x5_1).f1)],.agg #[.int .i64 ((rd_T65 l1 x5_1).f0),.int .i64 ((rd_T65 l1 x5_1).f1)]] (by rfl) rfl rfl (by (try simp only [List.map_toArray,List.map_cons,List.map_nil]); rfl) ?_
        with_reducible refine (laws_eqLeave.calls ((rd_T65 l0 x5_1).f0) ((rd_T65 l0 x5_1).f1) ((rd_T65 l1 x5_1).f0) ((rd_T65 l1 x5_1).f1) true _ A7.out).mono ?_
        rintro e w10 ⟨rfl,hb⟩;refine ⟨_,rfl,?_⟩;have n0_ := Aside0.mk (below_step HB.out hb);clear HB;have HB := n0_;clear n0_
        (try clear hb)
        skip
        skip
        skip
        refine hK.out _ _ ⟨((HB.out.cell (World.block_lt_of_cell? w _ hw295_0)).trans hw295_0),((HB.out.cell (World.block_lt_of_cell? w _ hw295_1)).trans hw295_1),((HB.out.cell (World.block_lt_of_cell? w _ hw296_0)).trans hw296_0),((HB.out.cell (World.block_lt_of_cell? w _ hw296_1)).trans hw296_1)⟩ (fun hHeld => ?_);clear hK K;refine norm_ (a' := ?_) ?_ ?_;rotate_left
        ·show Act.put _ (some 25) _ = _
         simp only [wf_preprocess];rfl
        refine pure_ (i := 9) (N := some 26) (v := ?_) (a' := ?_) #[true,true,true,true,true,true,true,true,true,true] rfl rfl (any_of HT_.out (by kernel_rfl)) (fun _ _ _ h => h) (Or.inl ⟨by rfl,?_⟩) ?_ ?_;rotate_left
        ·intro w';go_simp;with_reducible rfl
        rotate_left
        ·simp only [wf_preprocess];rfl
        refine done_ (done_of HT_.out (by kernel_rfl)) ?_
        try go_wp2
        go_roundg k1
        case measure => have := HK1.out; omega
        case rel => exact ⟨(wrap64 (x5_1 + 1)),(by rfl),H',⟨by have := HK1.out; omega⟩,⟨HB.out⟩⟩
       ·replace c8 := Bool.eq_false_iff.mpr c8;subst c8
        have H1 : (some false) = some r := by rw [if_neg (show ¬ (false = true) by decide)] at H; exact H
        clear H;have H := H1;clear H1;obtain rfl := Option.some.inj H
        try go_wp2
        have n0_ := Aside0.mk (below_drew1 HB.out);clear HB;have HB := n0_;clear n0_;have p295 : 0 ≤ (x5_1 : Int) := of_decide_eq_true (by (with_reducible assumption));have q295 : x5_1 < (l0.length : Int) := of_decide_eq_true (by (with_reducible assumption));obtain ⟨ad295,e295,hx295_0,hx295_1⟩ := at_T65 HR0.out x5_1 p295 q295;have hw295_1 := hx295_1;have hw295_0 := hx295_0
        cases e295
        replace hx295_0 := (HB.out.cell (World.block_lt_of_cell? w _ hx295_0)).trans hx295_0;replace hx295_1 := (HB.out.cell (World.block_lt_of_cell? w _ hx295_1)).trans hx295_1;replace p295 := eq_true p295;replace q295 := eq_true q295;have p296 : 0 ≤ (x5_1 : Int) := of_decide_eq_true (by (with_reducible assumption));have q296 : x5_1 < (l1.length : Int) := of_decide_eq_true (by (with_reducible assumption));obtain ⟨ad296,e296,hx296_0,hx296_1⟩ := at_T65 HR1.out x5_1 p296 q296;have hw296_1 := hx296_1;have hw296_0 := hx296_0
        cases e296
        replace hx296_0 := (HB.out.cell (World.block_lt_of_cell? w _ hx296_0)).trans hx296_0;replace hx296_1 := (HB.out.cell (World.block_lt_of_cell? w _ hx296_1)).trans hx296_1;replace p296 := eq_true p296;replace q296 := eq_true q296;refine start_ (n := 10) (S := fun w' => w'.cell? (ad295.add ((x5_1).toNat * 2)) = some (.int .i64 ((rd_T65 l0 x5_1).f0)) ∧ w'.cell? ⟨(ad295.add ((x5_1).toNat * 2)).block,(ad295.add ((x5_1).toNat * 2)).off + 1,none⟩ = some (.int .i64 ((rd_T65 l0 x5_1).f1)) ∧ w'.cell? (ad296.add ((x5_1).toNat * 2)) = some (.int .i64 ((rd_T65 l1 x5_1).f0)) ∧ w'.cell? ⟨(ad296.add ((x5_1).toNat * 2)).block,(ad296.add ((x5_1).toNat * 2)).off + 1,none⟩ = some (.int .i64 ((rd_T65 l1 x5_1).f1))) (ds := []) #[false,false,false,false,false,false,false,false,false,false] (by kernel_rfl) rfl rfl ⟨((HB.out.cell (World.block_lt_of_cell? w _ hw295_0)).trans hw295_0),((HB.out.cell (World.block_lt_of_cell? w _ hw295_1)).trans hw295_1),((HB.out.cell (World.block_lt_of_cell? w _ hw296_0)).trans hw296_0),((HB.out.cell (World.block_lt_of_cell? w _ hw296_1)).trans hw296_1)⟩ (fun hHeld => ?_); refine with_tabW laws_eqLeaveS.tab6 laws_eqLeaveS.bits6 (fun HT_ HW_ => ?_)
        generalize wr.drew = w11 at HB hx295_0 hx295_1 hx296_0 hx296_1 hHeld ⊢
        refine pure_ (i := 0) (N := some 17) (v := ?_) (a' := ?_) #[true,false,false,false,false,false,false,false,false,false] rfl rfl (any_of HT_.out (by kernel_rfl)) (fun _ _ _ h => h) (Or.inl ⟨by rfl,?_⟩) ?_ ?_;rotate_left
        ·intro w';go_simp;with_reducible rfl
        rotate_left
        ·simp only [wf_preprocess];rfl
        refine pure_ (i := 1) (N := some 18) (v := ?_) (a' := ?_) #[true,true,false,false,false,false,false,false,false,false] rfl rfl (any_of HT_.out (by kernel_rfl)) (fun _ _ _ h => h) (Or.inl ⟨by rfl,?_⟩) ?_ ?_;rotate_left
        ·intro w';go_simp;with_reducible rfl
        rotate_left
        ·simp only [wf_preprocess];rfl
        refine pure_ (i := 2) (N := some 19) (v := ?_) (a' := ?_) #[true,true,true,false,false,false,false,false,false,false] rfl rfl (any_of HT_.out (by kernel_rfl)) (fun _ _ _ h => h) (Or.inl ⟨by rfl,?_⟩) ?_ ?_;rotate_left
        ·intro w';go_simp;with_reducible rfl
        rotate_left
        ·simp only [wf_preprocess];rfl
        refine pure_ (i := 4) (N := some 21) (v := ?_) (a' := ?_) #[true,true,true,false,true,false,false,false,false,false] rfl rfl (any_of HT_.out (by kernel_rfl)) (fun _ _ _ h => h) (Or.inl ⟨by rfl,?_⟩) ?_ ?_;rotate_left
        ·intro w';go_simp;with_reducible rfl
        rotate_left
        ·simp only [wf_preprocess];rfl
        refine pure_ (i := 5) (N := some 22) (v := ?_) (a' := ?_) #[true,true,true,false,true,true,false,false,false,false] rfl rfl (any_of HT_.out (by kernel_rfl)) (fun _ _ _ h => h) (Or.inl ⟨by rfl,?_⟩) ?_ ?_;rotate_left
        ·intro w';go_simp;with_reducible rfl
        rotate_left
        ·simp only [wf_preprocess];rfl
        refine pure_ (i := 6) (N := some 23) (v := ?_) (a' := ?_) #[true,true,true,false,true,true,true,false,false,false] rfl rfl (any_of HT_.out (by kernel_rfl)) (fun _ _ _ h => h) (Or.inl ⟨by rfl,?_⟩) ?_ ?_;rotate_left
        ·intro w';go_simp;with_reducible rfl
        rotate_left
        ·simp only [wf_preprocess];rfl
        refine take_ (i := 3) (N := some 20) (v := ?_) (a' := ?_) #[true,true,true,true,true,true,true,false,false,false] rfl rfl (take_ofW HT_.out HW_.out (by kernel_rfl)) (fun _ _ _ h => h) (Or.inl ⟨by rfl,?_⟩) hHeld ?_ ?_;rotate_left
        ·rintro w' ⟨s0,s1,s2,s3⟩;go_simp;with_reducible rfl
        rotate_left
        ·simp only [wf_preprocess];rfl
        refine take_ (i := 7) (N := some 24) (v := ?_) (a' := ?_) #[true,true,true,true,true,true,true,true,false,false] rfl rfl (take_ofW HT_.out HW_.out (by kernel_rfl)) (fun _ _ _ h => h) (Or.inl ⟨by rfl,?_⟩) hHeld ?_ ?_;rotate_left
        ·rintro w' ⟨s0,s1,s2,s3⟩;go_simp;with_reducible rfl
        rotate_left
        ·simp only [wf_preprocess];rfl
        refine one_ (i := 8) (N := some 25) #[true,true,true,true,true,true,true,true,true,false] rfl rfl (one_of HT_.out (by kernel_rfl)) (by decide) (fun K hK => ?_);refine goes_ Try.func141 (by kernel_rfl) rfl #[.agg #[.int .i64 ((rd_T65 l0 x5_1).f0),.int .i64 ((rd_T65 l0 x5_1).f1)],.agg #[.int .i64 ((rd_T65 l1 x5_1).f0),.int .i64 ((rd_T65 l1 x5_1).f1)]] (by rfl) rfl rfl (by (try simp only [List.map_toArray,List.map_cons,List.map_nil]); rfl) ?_
        with_reducible refine (laws_eqLeave.calls ((rd_T65 l0 x5_1).f0) ((rd_T65 l0 x5_1).f1) ((rd_T65 l1 x5_1).f0) ((rd_T65 l1 x5_1).f1) false _ A7.out).mono ?_
        rintro e w12 ⟨rfl,hb⟩;refine ⟨_,rfl,?_⟩;have n0_ := Aside0.mk (below_step HB.out hb);clear HB;have HB := n0_;clear n0_
        (try clear hb)
        skip
        skip
        skip
        refine hK.out _ _ ⟨((HB.out.cell (World.block_lt_of_cell? w _ hw295_0)).trans hw295_0),((HB.out.cell (World.block_lt_of_cell? w _ hw295_1)).trans hw295_1),((HB.out.cell (World.block_lt_of_cell? w _ hw296_0)).trans hw296_0),((HB.out.cell (World.block_lt_of_cell? w _ hw296_1)).trans hw296_1)⟩ (fun hHeld => ?_);clear hK K;refine norm_ (a' := ?_) ?_ ?_;rotate_left
        ·show Act.put _ (some 25) _ = _
         simp only [wf_preprocess];rfl
        refine pure_ (i := 9) (N := some 26) (v := ?_) (a' := ?_) #[true,true,true,true,true,true,true,true,true,true] rfl rfl (any_of HT_.out (by kernel_rfl)) (fun _ _ _ h => h) (Or.inl ⟨by rfl,?_⟩) ?_ ?_;rotate_left
        ·intro w';go_simp;with_reducible rfl
        rotate_left
        ·simp only [wf_preprocess];rfl
        refine done_ (done_of HT_.out (by kernel_rfl)) ?_
        try go_wp2
        go_ret;exact ⟨by rfl,HB.out⟩
      ·rw [if_neg c6] at H;exact absurd H (by simp)
     ·rw [if_neg c5] at H;exact absurd H (by simp)
    ·rw [if_neg c4] at H;have c4b0 : decide (x5_1 < (l0.length : Int)) = false := decide_eq_false c4;clear c4;obtain rfl := Option.some.inj H;go_wp2;go_ret;exact ⟨by rfl,HB.out⟩
 ·rw [if_neg c3] at H;have c3b0 : ((l0.length : Int) == (l1.length : Int)) = false := beq_eq_false_iff_ne.mpr c3;have c3b1 : ((l0.length : Int) != (l1.length : Int)) = true := bne_iff_ne.mpr c3
  have c3b2 : (l0.length == l1.length) = false := by (simp at c3 ⊢; omega)
  obtain rfl := Option.some.inj H;go_enter Try.func127,Try.ntmps127;go_wp2;go_ret;exact ⟨by rfl,HB.out⟩

/-! ### laws_eqAcct: function 101 -/
def laws_eqAcct.f (k : Nat) (a0_0 : ByteArray) (a0_1 : Int) (a0_2 : Int) (a0_3 : Int) (l0_4 : List (S65)) (a1_0 : ByteArray) (a1_1 : Int) (a1_2 : Int) (a1_3 : Int) (l1_4 : List (S65)) : Option (Bool) := if a0_0.toList = a1_0.toList then (if a0_1 = a1_1 then (if a0_2 = a1_2 then (if a0_3 = a1_3 then ((laws_eqLeaveS.f k l0_4 l1_4).bind fun t300 => (if t300 = true then (some true) else (some false))) else (some false)) else (some false)) else (some false)) else (some false)
theorem laws_eqAcct.mono : ∀ a0 a1 a2 a3 a4 a5 a6 a7 a8 a9 k,LeO (laws_eqAcct.f k a0 a1 a2 a3 a4 a5 a6 a7 a8 a9) (laws_eqAcct.f (k + 1) a0 a1 a2 a3 a4 a5 a6 a7 a8 a9) := by
 intro a0 a1 a2 a3 a4 a5 a6 a7 a8 a9 k;unfold laws_eqAcct.f
 repeat' first
   | (with_reducible exact laws_eqLeaveS.mono _ _ _)
   | (with_reducible exact LeO.refl _)
   | (with_reducible exact LeO.none _)
   | (with_reducible refine LeO.ite ?_ ?_)
   | (with_reducible refine LeO.bind ?_ (fun _ => ?_))
   | exact laws_eqLeaveS.mono _ _ _
   | exact LeO.none _
set_option maxHeartbeats 8000000 in
set_option maxRecDepth 100000 in
theorem laws_eqAcct.calls (k : Nat) (a0_0 : ByteArray) (a0_1 : Int) (a0_2 : Int) (a0_3 : Int) (A0_4 : Option Addr) (c0_4 : Nat) (l0_4 : List (S65)) (a1_0 : ByteArray) (a1_1 : Int) (a1_2 : Int) (a1_3 : Int) (A1_4 : Option Addr) (c1_4 : Nat) (l1_4 : List (S65)) (r : Bool) (w : World) (hr0_4 : Kd.C k65 w A0_4 l0_4.length l0_4) (hc0_4 : l0_4.length ≤ c0_4) (hr1_4 : Kd.C k65 w A1_4 l1_4.length l1_4) (hc1_4 : l1_4.length ≤ c1_4) (h : laws_eqAcct.f k a0_0 a0_1 a0_2 a0_3 l0_4 a1_0 a1_1 a1_2 a1_3 l1_4 = some r) :
  Calls Try.prog 101 #[.agg #[.string a0_0,.int .i64 a0_1,.int .i64 a0_2,.int .i64 a0_3,.slice A0_4 l0_4.length c0_4],.agg #[.string a1_0,.int .i64 a1_1,.int .i64 a1_2,.int .i64 a1_3,.slice A1_4 l1_4.length c1_4]] w fun e w' => e = .returned (.bool r) ∧ Below w.heap.size w w' := by
 have hu63 := Try.underlying63;have HR0_4 := Aside0.mk hr0_4;have HC0_4 := Aside0.mk hc0_4;clear hr0_4 hc0_4;have HR1_4 := Aside0.mk hr1_4;have HC1_4 := Aside0.mk hc1_4;clear hr1_4 hc1_4;have HB := Aside0.mk (Below.refl w.heap.size w);have H : (if a0_0.toList = a1_0.toList then (if a0_1 = a1_1 then (if a0_2 = a1_2 then (if a0_3 = a1_3 then ((laws_eqLeaveS.f k l0_4 l1_4).bind fun t300 => (if t300 = true then (some true) else (some false))) else (some false)) else (some false)) else (some false)) else (some false)) = some r := h;clear h
 by_cases c3 : a0_0.toList = a1_0.toList
 ·rw [if_pos c3] at H;have c3b0 : (a0_0.toList == a1_0.toList) = true := beq_iff_eq.mpr c3;have c3b1 : (a0_0.toList != a1_0.toList) = false := bne_eq_false_iff_eq.mpr c3;clear c3
  by_cases c4 : a0_1 = a1_1
  ·rw [if_pos c4] at H;have c4b0 : (a0_1 == a1_1) = true := beq_iff_eq.mpr c4;have c4b1 : (a0_1 != a1_1) = false := bne_eq_false_iff_eq.mpr c4;clear c4
   by_cases c5 : a0_2 = a1_2
   ·rw [if_pos c5] at H;have c5b0 : (a0_2 == a1_2) = true := beq_iff_eq.mpr c5;have c5b1 : (a0_2 != a1_2) = false := bne_eq_false_iff_eq.mpr c5;clear c5
    by_cases c6 : a0_3 = a1_3
    ·rw [if_pos c6] at H;have c6b0 : (a0_3 == a1_3) = true := beq_iff_eq.mpr c6;have c6b1 : (a0_3 != a1_3) = false := bne_eq_false_iff_eq.mpr c6;clear c6;replace H := Option.bind_eq_some_iff.mp H;obtain ⟨t300,A70,H⟩ := H;replace H : (if t300 = true then (some true) else (some false)) = some r := H;have A7 := Aside0.mk A70;clear A70
     by_cases c8 : t300 = true
     ·subst c8
      have H1 : (some true) = some r := by rw [if_pos rfl] at H; exact H
      clear H;have H := H1;clear H1;obtain rfl := Option.some.inj H;go_enter Try.func101,Try.ntmps101
      go_wp2_with (first | ((with_reducible refine gate_dst (N := 2) rfl ?_); refine box_event ?hg (N := 2) ?hd (cs := #[.string a0_0,.int .i64 a0_1,.int .i64 a0_2,.int .i64 a0_3,.slice A0_4 l0_4.length c0_4]) (t := 63) ?hr ?_; (case hd => rfl); (case hg => rfl); (case hr => (go_simp; done)); intro gb298 hg w9 hbox hb; have n0_ := Aside0.mk (below_step HB.out hb); have n1_ := Aside0.mk (hbox); have n2_ := Aside0.mk (by rw [hg]; exact (below_size HB.out) : w.heap.size ≤ gb298); have n3_ := Aside0.mk (by rw [hg]; exact (below_size HB.out) : w.heap.size ≤ gb298); clear HB; have HB := n0_; have BK298 := n1_; have GW298 := n2_; have GE298 := n3_; clear n0_ n1_ n2_ n3_; clear hb hbox hg) | ((with_reducible refine gate_dst (N := 3) rfl ?_); refine box_event ?hg (N := 3) ?hd (cs := #[.string a1_0,.int .i64 a1_1,.int .i64 a1_2,.int .i64 a1_3,.slice A1_4 l1_4.length c1_4]) (t := 63) ?hr ?_; (case hd => rfl); (case hg => rfl); (case hr => (go_simp; done)); intro gb299 hg w10 hbox hb; have n0_ := Aside0.mk (blk_below (g := gb298) (o := .cells #[.string a0_0,.int .i64 a0_1,.int .i64 a0_2,.int .i64 a0_3,.slice A0_4 l0_4.length c0_4] 63 (0,0)) (by exact BK298.out) hb); have n1_ := Aside0.mk (below_step HB.out hb); have n2_ := Aside0.mk (hbox); have n3_ := Aside0.mk (by rw [hg]; exact (below_size HB.out) : w.heap.size ≤ gb299); have n4_ := Aside0.mk (by rw [hg]; exact (below_size HB.out) : w.heap.size ≤ gb299); have n5_ := Aside0.mk (by rw [hg]; exact Nat.ne_of_lt (blk_lt (g := gb298) (o := .cells #[.string a0_0,.int .i64 a0_1,.int .i64 a0_2,.int .i64 a0_3,.slice A0_4 l0_4.length c0_4] 63 (0,0)) (by exact BK298.out)) : gb298 ≠ gb299); have n6_ := Aside0.mk (by rw [hg]; exact Nat.ne_of_gt (blk_lt (g := gb298) (o := .cells #[.string a0_0,.int .i64 a0_1,.int .i64 a0_2,.int .i64 a0_3,.slice A0_4 l0_4.length c0_4] 63 (0,0)) (by exact BK298.out)) : gb299 ≠ gb298); clear BK298; clear HB; have BK298 := n0_; have HB := n1_; have BK299 := n2_; have GW299 := n3_; have GE299 := n4_; have NB298_299 := n5_; have NB299_298 := n6_; clear n0_ n1_ n2_ n3_ n4_ n5_ n6_; clear hb hbox hg; have hnb11 := NB298_299.out; have hnc11 := NB299_298.out; have hcz12_0 : w10.cell? ⟨gb298,0,none⟩ = some (.string a0_0) := (blk_cell BK298.out 0).trans rfl; have hcz12_1 : w10.cell? ⟨gb298,1,none⟩ = some (.int .i64 a0_1) := (blk_cell BK298.out 1).trans rfl; have hcz12_2 : w10.cell? ⟨gb298,2,none⟩ = some (.int .i64 a0_2) := (blk_cell BK298.out 2).trans rfl; have hcz12_3 : w10.cell? ⟨gb298,3,none⟩ = some (.int .i64 a0_3) := (blk_cell BK298.out 3).trans rfl; have hcz12_4 : w10.cell? ⟨gb298,4,none⟩ = some (.slice A0_4 l0_4.length c0_4) := (blk_cell BK298.out 4).trans rfl; have hfz12_0 := blk_frozen BK298.out 0; have hfz12_1 := blk_frozen BK298.out 1; have hfz12_2 := blk_frozen BK298.out 2; have hfz12_3 := blk_frozen BK298.out 3; have hfz12_4 := blk_frozen BK298.out 4; have hcz13_0 : w10.cell? ⟨gb299,0,none⟩ = some (.string a1_0) := (blk_cell BK299.out 0).trans rfl; have hcz13_1 : w10.cell? ⟨gb299,1,none⟩ = some (.int .i64 a1_1) := (blk_cell BK299.out 1).trans rfl; have hcz13_2 : w10.cell? ⟨gb299,2,none⟩ = some (.int .i64 a1_2) := (blk_cell BK299.out 2).trans rfl; have hcz13_3 : w10.cell? ⟨gb299,3,none⟩ = some (.int .i64 a1_3) := (blk_cell BK299.out 3).trans rfl; have hcz13_4 : w10.cell? ⟨gb299,4,none⟩ = some (.slice A1_4 l1_4.length c1_4) := (blk_cell BK299.out 4).trans rfl; have hfz13_0 := blk_frozen BK299.out 0; have hfz13_1 := blk_frozen BK299.out 1; have hfz13_2 := blk_frozen BK299.out 2; have hfz13_3 := blk_frozen BK299.out 3; have hfz13_4 := blk_frozen BK299.out 4) | ((with_reducible refine gate_callee (f := 127) rfl ?_); refine goesL_ (some 29) rfl rfl Try.func127 (by kernel_rfl) rfl #[.slice A0_4 l0_4.length c0_4,.slice A1_4 l1_4.length c1_4] rfl (by (try simp only [List.map_toArray,List.map_cons,List.map_nil]); rfl) ?_; (with_reducible refine (laws_eqLeaveS.calls k _ _ l0_4 _ _ l1_4 true _ ?side1 ?side2 ?side3 ?side4 A7.out).mono ?_); (case side1 => repeat (exact (Kd.C_below HR0_4.out HB.out))); (case side2 => exact HC0_4.out); (case side3 => repeat (exact (Kd.C_below HR1_4.out HB.out))); (case side4 => exact HC1_4.out); rintro e w14 ⟨rfl,hb⟩; refine ⟨_,rfl,?_⟩; have n0_ := Aside0.mk (blk_below (g := gb298) (o := .cells #[.string a0_0,.int .i64 a0_1,.int .i64 a0_2,.int .i64 a0_3,.slice A0_4 l0_4.length c0_4] 63 (0,0)) (by exact BK298.out) hb); have n1_ := Aside0.mk (blk_below (g := gb299) (o := .cells #[.string a1_0,.int .i64 a1_1,.int .i64 a1_2,.int .i64 a1_3,.slice A1_4 l1_4.length c1_4] 63 (0,0)) (by exact BK299.out) hb); have n2_ := Aside0.mk (below_step HB.out hb); clear BK298; clear BK299; clear HB; have BK298 := n0_; have BK299 := n1_; have HB := n2_; clear n0_ n1_ n2_; (try clear hb); skip))
      go_ret;exact ⟨by rfl,HB.out⟩
     ·replace c8 := Bool.eq_false_iff.mpr c8;subst c8
      have H1 : (some false) = some r := by rw [if_neg (show ¬ (false = true) by decide)] at H; exact H
      clear H;have H := H1;clear H1;obtain rfl := Option.some.inj H;go_enter Try.func101,Try.ntmps101
      go_wp2_with (first | ((with_reducible refine gate_dst (N := 2) rfl ?_); refine box_event ?hg (N := 2) ?hd (cs := #[.string a0_0,.int .i64 a0_1,.int .i64 a0_2,.int .i64 a0_3,.slice A0_4 l0_4.length c0_4]) (t := 63) ?hr ?_; (case hd => rfl); (case hg => rfl); (case hr => (go_simp; done)); intro gb298 hg w15 hbox hb; have n0_ := Aside0.mk (below_step HB.out hb); have n1_ := Aside0.mk (hbox); have n2_ := Aside0.mk (by rw [hg]; exact (below_size HB.out) : w.heap.size ≤ gb298); have n3_ := Aside0.mk (by rw [hg]; exact (below_size HB.out) : w.heap.size ≤ gb298); clear HB; have HB := n0_; have BK298 := n1_; have GW298 := n2_; have GE298 := n3_; clear n0_ n1_ n2_ n3_; clear hb hbox hg) | ((with_reducible refine gate_dst (N := 3) rfl ?_); refine box_event ?hg (N := 3) ?hd (cs := #[.string a1_0,.int .i64 a1_1,.int .i64 a1_2,.int .i64 a1_3,.slice A1_4 l1_4.length c1_4]) (t := 63) ?hr ?_; (case hd => rfl); (case hg => rfl); (case hr => (go_simp; done)); intro gb299 hg w16 hbox hb; have n0_ := Aside0.mk (blk_below (g := gb298) (o := .cells #[.string a0_0,.int .i64 a0_1,.int .i64 a0_2,.int .i64 a0_3,.slice A0_4 l0_4.length c0_4] 63 (0,0)) (by exact BK298.out) hb); have n1_ := Aside0.mk (below_step HB.out hb); have n2_ := Aside0.mk (hbox); have n3_ := Aside0.mk (by rw [hg]; exact (below_size HB.out) : w.heap.size ≤ gb299); have n4_ := Aside0.mk (by rw [hg]; exact (below_size HB.out) : w.heap.size ≤ gb299); have n5_ := Aside0.mk (by rw [hg]; exact Nat.ne_of_lt (blk_lt (g := gb298) (o := .cells #[.string a0_0,.int .i64 a0_1,.int .i64 a0_2,.int .i64 a0_3,.slice A0_4 l0_4.length c0_4] 63 (0,0)) (by exact BK298.out)) : gb298 ≠ gb299); have n6_ := Aside0.mk (by rw [hg]; exact Nat.ne_of_gt (blk_lt (g := gb298) (o := .cells #[.string a0_0,.int .i64 a0_1,.int .i64 a0_2,.int .i64 a0_3,.slice A0_4 l0_4.length c0_4] 63 (0,0)) (by exact BK298.out)) : gb299 ≠ gb298); clear BK298; clear HB; have BK298 := n0_; have HB := n1_; have BK299 := n2_; have GW299 := n3_; have GE299 := n4_; have NB298_299 := n5_; have NB299_298 := n6_; clear n0_ n1_ n2_ n3_ n4_ n5_ n6_; clear hb hbox hg; have hnb17 := NB298_299.out; have hnc17 := NB299_298.out; have hcz18_0 : w16.cell? ⟨gb298,0,none⟩ = some (.string a0_0) := (blk_cell BK298.out 0).trans rfl; have hcz18_1 : w16.cell? ⟨gb298,1,none⟩ = some (.int .i64 a0_1) := (blk_cell BK298.out 1).trans rfl; have hcz18_2 : w16.cell? ⟨gb298,2,none⟩ = some (.int .i64 a0_2) := (blk_cell BK298.out 2).trans rfl; have hcz18_3 : w16.cell? ⟨gb298,3,none⟩ = some (.int .i64 a0_3) := (blk_cell BK298.out 3).trans rfl; have hcz18_4 : w16.cell? ⟨gb298,4,none⟩ = some (.slice A0_4 l0_4.length c0_4) := (blk_cell BK298.out 4).trans rfl; have hfz18_0 := blk_frozen BK298.out 0; have hfz18_1 := blk_frozen BK298.out 1; have hfz18_2 := blk_frozen BK298.out 2; have hfz18_3 := blk_frozen BK298.out 3; have hfz18_4 := blk_frozen BK298.out 4; have hcz19_0 : w16.cell? ⟨gb299,0,none⟩ = some (.string a1_0) := (blk_cell BK299.out 0).trans rfl; have hcz19_1 : w16.cell? ⟨gb299,1,none⟩ = some (.int .i64 a1_1) := (blk_cell BK299.out 1).trans rfl; have hcz19_2 : w16.cell? ⟨gb299,2,none⟩ = some (.int .i64 a1_2) := (blk_cell BK299.out 2).trans rfl; have hcz19_3 : w16.cell? ⟨gb299,3,none⟩ = some (.int .i64 a1_3) := (blk_cell BK299.out 3).trans rfl; have hcz19_4 : w16.cell? ⟨gb299,4,none⟩ = some (.slice A1_4 l1_4.length c1_4) := (blk_cell BK299.out 4).trans rfl; have hfz19_0 := blk_frozen BK299.out 0; have hfz19_1 := blk_frozen BK299.out 1; have hfz19_2 := blk_frozen BK299.out 2; have hfz19_3 := blk_frozen BK299.out 3; have hfz19_4 := blk_frozen BK299.out 4) | ((with_reducible refine gate_callee (f := 127) rfl ?_); refine goesL_ (some 29) rfl rfl Try.func127 (by kernel_rfl) rfl #[.slice A0_4 l0_4.length c0_4,.slice A1_4 l1_4.length c1_4] rfl (by (try simp only [List.map_toArray,List.map_cons,List.map_nil]); rfl) ?_; (with_reducible refine (laws_eqLeaveS.calls k _ _ l0_4 _ _ l1_4 false _ ?side1 ?side2 ?side3 ?side4 A7.out).mono ?_); (case side1 => repeat (exact (Kd.C_below HR0_4.out HB.out))); (case side2 => exact HC0_4.out); (case side3 => repeat (exact (Kd.C_below HR1_4.out HB.out))); (case side4 => exact HC1_4.out); rintro e w20 ⟨rfl,hb⟩; refine ⟨_,rfl,?_⟩; have n0_ := Aside0.mk (blk_below (g := gb298) (o := .cells #[.string a0_0,.int .i64 a0_1,.int .i64 a0_2,.int .i64 a0_3,.slice A0_4 l0_4.length c0_4] 63 (0,0)) (by exact BK298.out) hb); have n1_ := Aside0.mk (blk_below (g := gb299) (o := .cells #[.string a1_0,.int .i64 a1_1,.int .i64 a1_2,.int .i64 a1_3,.slice A1_4 l1_4.length c1_4] 63 (0,0)) (by exact BK299.out) hb); have n2_ := Aside0.mk (below_step HB.out hb); clear BK298; clear BK299; clear HB; have BK298 := n0_; have BK299 := n1_; have HB := n2_; clear n0_ n1_ n2_; (try clear hb); skip))
      go_ret;exact ⟨by rfl,HB.out⟩
    ·rw [if_neg c6] at H;have c6b0 : (a0_3 == a1_3) = false := beq_eq_false_iff_ne.mpr c6;have c6b1 : (a0_3 != a1_3) = true := bne_iff_ne.mpr c6;obtain rfl := Option.some.inj H;go_enter Try.func101,Try.ntmps101
     go_wp2_with (first | ((with_reducible refine gate_dst (N := 2) rfl ?_); refine box_event ?hg (N := 2) ?hd (cs := #[.string a0_0,.int .i64 a0_1,.int .i64 a0_2,.int .i64 a0_3,.slice A0_4 l0_4.length c0_4]) (t := 63) ?hr ?_; (case hd => rfl); (case hg => rfl); (case hr => (go_simp; done)); intro gb298 hg w21 hbox hb; have n0_ := Aside0.mk (below_step HB.out hb); have n1_ := Aside0.mk (hbox); have n2_ := Aside0.mk (by rw [hg]; exact (below_size HB.out) : w.heap.size ≤ gb298); have n3_ := Aside0.mk (by rw [hg]; exact (below_size HB.out) : w.heap.size ≤ gb298); clear HB; have HB := n0_; have BK298 := n1_; have GW298 := n2_; have GE298 := n3_; clear n0_ n1_ n2_ n3_; clear hb hbox hg) | ((with_reducible refine gate_dst (N := 3) rfl ?_); refine box_event ?hg (N := 3) ?hd (cs := #[.string a1_0,.int .i64 a1_1,.int .i64 a1_2,.int .i64 a1_3,.slice A1_4 l1_4.length c1_4]) (t := 63) ?hr ?_; (case hd => rfl); (case hg => rfl); (case hr => (go_simp; done)); intro gb299 hg w22 hbox hb; have n0_ := Aside0.mk (blk_below (g := gb298) (o := .cells #[.string a0_0,.int .i64 a0_1,.int .i64 a0_2,.int .i64 a0_3,.slice A0_4 l0_4.length c0_4] 63 (0,0)) (by exact BK298.out) hb); have n1_ := Aside0.mk (below_step HB.out hb); have n2_ := Aside0.mk (hbox); have n3_ := Aside0.mk (by rw [hg]; exact (below_size HB.out) : w.heap.size ≤ gb299); have n4_ := Aside0.mk (by rw [hg]; exact (below_size HB.out) : w.heap.size ≤ gb299); have n5_ := Aside0.mk (by rw [hg]; exact Nat.ne_of_lt (blk_lt (g := gb298) (o := .cells #[.string a0_0,.int .i64 a0_1,.int .i64 a0_2,.int .i64 a0_3,.slice A0_4 l0_4.length c0_4] 63 (0,0)) (by exact BK298.out)) : gb298 ≠ gb299); have n6_ := Aside0.mk (by rw [hg]; exact Nat.ne_of_gt (blk_lt (g := gb298) (o := .cells #[.string a0_0,.int .i64 a0_1,.int .i64 a0_2,.int .i64 a0_3,.slice A0_4 l0_4.length c0_4] 63 (0,0)) (by exact BK298.out)) : gb299 ≠ gb298); clear BK298; clear HB; have BK298 := n0_; have HB := n1_; have BK299 := n2_; have GW299 := n3_; have GE299 := n4_; have NB298_299 := n5_; have NB299_298 := n6_; clear n0_ n1_ n2_ n3_ n4_ n5_ n6_; clear hb hbox hg; have hnb23 := NB298_299.out; have hnc23 := NB299_298.out; have hcz24_0 : w22.cell? ⟨gb298,0,none⟩ = some (.string a0_0) := (blk_cell BK298.out 0).trans rfl; have hcz24_1 : w22.cell? ⟨gb298,1,none⟩ = some (.int .i64 a0_1) := (blk_cell BK298.out 1).trans rfl; have hcz24_2 : w22.cell? ⟨gb298,2,none⟩ = some (.int .i64 a0_2) := (blk_cell BK298.out 2).trans rfl; have hcz24_3 : w22.cell? ⟨gb298,3,none⟩ = some (.int .i64 a0_3) := (blk_cell BK298.out 3).trans rfl; have hcz24_4 : w22.cell? ⟨gb298,4,none⟩ = some (.slice A0_4 l0_4.length c0_4) := (blk_cell BK298.out 4).trans rfl; have hfz24_0 := blk_frozen BK298.out 0; have hfz24_1 := blk_frozen BK298.out 1; have hfz24_2 := blk_frozen BK298.out 2; have hfz24_3 := blk_frozen BK298.out 3; have hfz24_4 := blk_frozen BK298.out 4; have hcz25_0 : w22.cell? ⟨gb299,0,none⟩ = some (.string a1_0) := (blk_cell BK299.out 0).trans rfl; have hcz25_1 : w22.cell? ⟨gb299,1,none⟩ = some (.int .i64 a1_1) := (blk_cell BK299.out 1).trans rfl; have hcz25_2 : w22.cell? ⟨gb299,2,none⟩ = some (.int .i64 a1_2) := (blk_cell BK299.out 2).trans rfl; have hcz25_3 : w22.cell? ⟨gb299,3,none⟩ = some (.int .i64 a1_3) := (blk_cell BK299.out 3).trans rfl; have hcz25_4 : w22.cell? ⟨gb299,4,none⟩ = some (.slice A1_4 l1_4.length c1_4) := (blk_cell BK299.out 4).trans rfl; have hfz25_0 := blk_frozen BK299.out 0; have hfz25_1 := blk_frozen BK299.out 1; have hfz25_2 := blk_frozen BK299.out 2; have hfz25_3 := blk_frozen BK299.out 3; have hfz25_4 := blk_frozen BK299.out 4))
     go_ret;exact ⟨by rfl,HB.out⟩
   ·rw [if_neg c5] at H;have c5b0 : (a0_2 == a1_2) = false := beq_eq_false_iff_ne.mpr c5;have c5b1 : (a0_2 != a1_2) = true := bne_iff_ne.mpr c5;obtain rfl := Option.some.inj H;go_enter Try.func101,Try.ntmps101
    go_wp2_with (first | ((with_reducible refine gate_dst (N := 2) rfl ?_); refine box_event ?hg (N := 2) ?hd (cs := #[.string a0_0,.int .i64 a0_1,.int .i64 a0_2,.int .i64 a0_3,.slice A0_4 l0_4.length c0_4]) (t := 63) ?hr ?_; (case hd => rfl); (case hg => rfl); (case hr => (go_simp; done)); intro gb298 hg w26 hbox hb; have n0_ := Aside0.mk (below_step HB.out hb); have n1_ := Aside0.mk (hbox); have n2_ := Aside0.mk (by rw [hg]; exact (below_size HB.out) : w.heap.size ≤ gb298); have n3_ := Aside0.mk (by rw [hg]; exact (below_size HB.out) : w.heap.size ≤ gb298); clear HB; have HB := n0_; have BK298 := n1_; have GW298 := n2_; have GE298 := n3_; clear n0_ n1_ n2_ n3_; clear hb hbox hg) | ((with_reducible refine gate_dst (N := 3) rfl ?_); refine box_event ?hg (N := 3) ?hd (cs := #[.string a1_0,.int .i64 a1_1,.int .i64 a1_2,.int .i64 a1_3,.slice A1_4 l1_4.length c1_4]) (t := 63) ?hr ?_; (case hd => rfl); (case hg => rfl); (case hr => (go_simp; done)); intro gb299 hg w27 hbox hb; have n0_ := Aside0.mk (blk_below (g := gb298) (o := .cells #[.string a0_0,.int .i64 a0_1,.int .i64 a0_2,.int .i64 a0_3,.slice A0_4 l0_4.length c0_4] 63 (0,0)) (by exact BK298.out) hb); have n1_ := Aside0.mk (below_step HB.out hb); have n2_ := Aside0.mk (hbox); have n3_ := Aside0.mk (by rw [hg]; exact (below_size HB.out) : w.heap.size ≤ gb299); have n4_ := Aside0.mk (by rw [hg]; exact (below_size HB.out) : w.heap.size ≤ gb299); have n5_ := Aside0.mk (by rw [hg]; exact Nat.ne_of_lt (blk_lt (g := gb298) (o := .cells #[.string a0_0,.int .i64 a0_1,.int .i64 a0_2,.int .i64 a0_3,.slice A0_4 l0_4.length c0_4] 63 (0,0)) (by exact BK298.out)) : gb298 ≠ gb299); have n6_ := Aside0.mk (by rw [hg]; exact Nat.ne_of_gt (blk_lt (g := gb298) (o := .cells #[.string a0_0,.int .i64 a0_1,.int .i64 a0_2,.int .i64 a0_3,.slice A0_4 l0_4.length c0_4] 63 (0,0)) (by exact BK298.out)) : gb299 ≠ gb298); clear BK298; clear HB; have BK298 := n0_; have HB := n1_; have BK299 := n2_; have GW299 := n3_; have GE299 := n4_; have NB298_299 := n5_; have NB299_298 := n6_; clear n0_ n1_ n2_ n3_ n4_ n5_ n6_; clear hb hbox hg; have hnb28 := NB298_299.out; have hnc28 := NB299_298.out; have hcz29_0 : w27.cell? ⟨gb298,0,none⟩ = some (.string a0_0) := (blk_cell BK298.out 0).trans rfl; have hcz29_1 : w27.cell? ⟨gb298,1,none⟩ = some (.int .i64 a0_1) := (blk_cell BK298.out 1).trans rfl; have hcz29_2 : w27.cell? ⟨gb298,2,none⟩ = some (.int .i64 a0_2) := (blk_cell BK298.out 2).trans rfl; have hcz29_3 : w27.cell? ⟨gb298,3,none⟩ = some (.int .i64 a0_3) := (blk_cell BK298.out 3).trans rfl; have hcz29_4 : w27.cell? ⟨gb298,4,none⟩ = some (.slice A0_4 l0_4.length c0_4) := (blk_cell BK298.out 4).trans rfl; have hfz29_0 := blk_frozen BK298.out 0; have hfz29_1 := blk_frozen BK298.out 1; have hfz29_2 := blk_frozen BK298.out 2; have hfz29_3 := blk_frozen BK298.out 3; have hfz29_4 := blk_frozen BK298.out 4; have hcz30_0 : w27.cell? ⟨gb299,0,none⟩ = some (.string a1_0) := (blk_cell BK299.out 0).trans rfl; have hcz30_1 : w27.cell? ⟨gb299,1,none⟩ = some (.int .i64 a1_1) := (blk_cell BK299.out 1).trans rfl; have hcz30_2 : w27.cell? ⟨gb299,2,none⟩ = some (.int .i64 a1_2) := (blk_cell BK299.out 2).trans rfl; have hcz30_3 : w27.cell? ⟨gb299,3,none⟩ = some (.int .i64 a1_3) := (blk_cell BK299.out 3).trans rfl; have hcz30_4 : w27.cell? ⟨gb299,4,none⟩ = some (.slice A1_4 l1_4.length c1_4) := (blk_cell BK299.out 4).trans rfl; have hfz30_0 := blk_frozen BK299.out 0; have hfz30_1 := blk_frozen BK299.out 1; have hfz30_2 := blk_frozen BK299.out 2; have hfz30_3 := blk_frozen BK299.out 3; have hfz30_4 := blk_frozen BK299.out 4))
    go_ret;exact ⟨by rfl,HB.out⟩
  ·rw [if_neg c4] at H;have c4b0 : (a0_1 == a1_1) = false := beq_eq_false_iff_ne.mpr c4;have c4b1 : (a0_1 != a1_1) = true := bne_iff_ne.mpr c4;obtain rfl := Option.some.inj H;go_enter Try.func101,Try.ntmps101
   go_wp2_with (first | ((with_reducible refine gate_dst (N := 2) rfl ?_); refine box_event ?hg (N := 2) ?hd (cs := #[.string a0_0,.int .i64 a0_1,.int .i64 a0_2,.int .i64 a0_3,.slice A0_4 l0_4.length c0_4]) (t := 63) ?hr ?_; (case hd => rfl); (case hg => rfl); (case hr => (go_simp; done)); intro gb298 hg w31 hbox hb; have n0_ := Aside0.mk (below_step HB.out hb); have n1_ := Aside0.mk (hbox); have n2_ := Aside0.mk (by rw [hg]; exact (below_size HB.out) : w.heap.size ≤ gb298); have n3_ := Aside0.mk (by rw [hg]; exact (below_size HB.out) : w.heap.size ≤ gb298); clear HB; have HB := n0_; have BK298 := n1_; have GW298 := n2_; have GE298 := n3_; clear n0_ n1_ n2_ n3_; clear hb hbox hg) | ((with_reducible refine gate_dst (N := 3) rfl ?_); refine box_event ?hg (N := 3) ?hd (cs := #[.string a1_0,.int .i64 a1_1,.int .i64 a1_2,.int .i64 a1_3,.slice A1_4 l1_4.length c1_4]) (t := 63) ?hr ?_; (case hd => rfl); (case hg => rfl); (case hr => (go_simp; done)); intro gb299 hg w32 hbox hb; have n0_ := Aside0.mk (blk_below (g := gb298) (o := .cells #[.string a0_0,.int .i64 a0_1,.int .i64 a0_2,.int .i64 a0_3,.slice A0_4 l0_4.length c0_4] 63 (0,0)) (by exact BK298.out) hb); have n1_ := Aside0.mk (below_step HB.out hb); have n2_ := Aside0.mk (hbox); have n3_ := Aside0.mk (by rw [hg]; exact (below_size HB.out) : w.heap.size ≤ gb299); have n4_ := Aside0.mk (by rw [hg]; exact (below_size HB.out) : w.heap.size ≤ gb299); have n5_ := Aside0.mk (by rw [hg]; exact Nat.ne_of_lt (blk_lt (g := gb298) (o := .cells #[.string a0_0,.int .i64 a0_1,.int .i64 a0_2,.int .i64 a0_3,.slice A0_4 l0_4.length c0_4] 63 (0,0)) (by exact BK298.out)) : gb298 ≠ gb299); have n6_ := Aside0.mk (by rw [hg]; exact Nat.ne_of_gt (blk_lt (g := gb298) (o := .cells #[.string a0_0,.int .i64 a0_1,.int .i64 a0_2,.int .i64 a0_3,.slice A0_4 l0_4.length c0_4] 63 (0,0)) (by exact BK298.out)) : gb299 ≠ gb298); clear BK298; clear HB; have BK298 := n0_; have HB := n1_; have BK299 := n2_; have GW299 := n3_; have GE299 := n4_; have NB298_299 := n5_; have NB299_298 := n6_; clear n0_ n1_ n2_ n3_ n4_ n5_ n6_; clear hb hbox hg; have hnb33 := NB298_299.out; have hnc33 := NB299_298.out; have hcz34_0 : w32.cell? ⟨gb298,0,none⟩ = some (.string a0_0) := (blk_cell BK298.out 0).trans rfl; have hcz34_1 : w32.cell? ⟨gb298,1,none⟩ = some (.int .i64 a0_1) := (blk_cell BK298.out 1).trans rfl; have hcz34_2 : w32.cell? ⟨gb298,2,none⟩ = some (.int .i64 a0_2) := (blk_cell BK298.out 2).trans rfl; have hcz34_3 : w32.cell? ⟨gb298,3,none⟩ = some (.int .i64 a0_3) := (blk_cell BK298.out 3).trans rfl; have hcz34_4 : w32.cell? ⟨gb298,4,none⟩ = some (.slice A0_4 l0_4.length c0_4) := (blk_cell BK298.out 4).trans rfl; have hfz34_0 := blk_frozen BK298.out 0; have hfz34_1 := blk_frozen BK298.out 1; have hfz34_2 := blk_frozen BK298.out 2; have hfz34_3 := blk_frozen BK298.out 3; have hfz34_4 := blk_frozen BK298.out 4; have hcz35_0 : w32.cell? ⟨gb299,0,none⟩ = some (.string a1_0) := (blk_cell BK299.out 0).trans rfl; have hcz35_1 : w32.cell? ⟨gb299,1,none⟩ = some (.int .i64 a1_1) := (blk_cell BK299.out 1).trans rfl; have hcz35_2 : w32.cell? ⟨gb299,2,none⟩ = some (.int .i64 a1_2) := (blk_cell BK299.out 2).trans rfl; have hcz35_3 : w32.cell? ⟨gb299,3,none⟩ = some (.int .i64 a1_3) := (blk_cell BK299.out 3).trans rfl; have hcz35_4 : w32.cell? ⟨gb299,4,none⟩ = some (.slice A1_4 l1_4.length c1_4) := (blk_cell BK299.out 4).trans rfl; have hfz35_0 := blk_frozen BK299.out 0; have hfz35_1 := blk_frozen BK299.out 1; have hfz35_2 := blk_frozen BK299.out 2; have hfz35_3 := blk_frozen BK299.out 3; have hfz35_4 := blk_frozen BK299.out 4))
   go_ret;exact ⟨by rfl,HB.out⟩
 ·rw [if_neg c3] at H;have c3b0 : (a0_0.toList == a1_0.toList) = false := beq_eq_false_iff_ne.mpr c3;have c3b1 : (a0_0.toList != a1_0.toList) = true := bne_iff_ne.mpr c3;obtain rfl := Option.some.inj H;go_enter Try.func101,Try.ntmps101
  go_wp2_with (first | ((with_reducible refine gate_dst (N := 2) rfl ?_); refine box_event ?hg (N := 2) ?hd (cs := #[.string a0_0,.int .i64 a0_1,.int .i64 a0_2,.int .i64 a0_3,.slice A0_4 l0_4.length c0_4]) (t := 63) ?hr ?_; (case hd => rfl); (case hg => rfl); (case hr => (go_simp; done)); intro gb298 hg w36 hbox hb; have n0_ := Aside0.mk (below_step HB.out hb); have n1_ := Aside0.mk (hbox); have n2_ := Aside0.mk (by rw [hg]; exact (below_size HB.out) : w.heap.size ≤ gb298); have n3_ := Aside0.mk (by rw [hg]; exact (below_size HB.out) : w.heap.size ≤ gb298); clear HB; have HB := n0_; have BK298 := n1_; have GW298 := n2_; have GE298 := n3_; clear n0_ n1_ n2_ n3_; clear hb hbox hg) | ((with_reducible refine gate_dst (N := 3) rfl ?_); refine box_event ?hg (N := 3) ?hd (cs := #[.string a1_0,.int .i64 a1_1,.int .i64 a1_2,.int .i64 a1_3,.slice A1_4 l1_4.length c1_4]) (t := 63) ?hr ?_; (case hd => rfl); (case hg => rfl); (case hr => (go_simp; done)); intro gb299 hg w37 hbox hb; have n0_ := Aside0.mk (blk_below (g := gb298) (o := .cells #[.string a0_0,.int .i64 a0_1,.int .i64 a0_2,.int .i64 a0_3,.slice A0_4 l0_4.length c0_4] 63 (0,0)) (by exact BK298.out) hb); have n1_ := Aside0.mk (below_step HB.out hb); have n2_ := Aside0.mk (hbox); have n3_ := Aside0.mk (by rw [hg]; exact (below_size HB.out) : w.heap.size ≤ gb299); have n4_ := Aside0.mk (by rw [hg]; exact (below_size HB.out) : w.heap.size ≤ gb299); have n5_ := Aside0.mk (by rw [hg]; exact Nat.ne_of_lt (blk_lt (g := gb298) (o := .cells #[.string a0_0,.int .i64 a0_1,.int .i64 a0_2,.int .i64 a0_3,.slice A0_4 l0_4.length c0_4] 63 (0,0)) (by exact BK298.out)) : gb298 ≠ gb299); have n6_ := Aside0.mk (by rw [hg]; exact Nat.ne_of_gt (blk_lt (g := gb298) (o := .cells #[.string a0_0,.int .i64 a0_1,.int .i64 a0_2,.int .i64 a0_3,.slice A0_4 l0_4.length c0_4] 63 (0,0)) (by exact BK298.out)) : gb299 ≠ gb298); clear BK298; clear HB; have BK298 := n0_; have HB := n1_; have BK299 := n2_; have GW299 := n3_; have GE299 := n4_; have NB298_299 := n5_; have NB299_298 := n6_; clear n0_ n1_ n2_ n3_ n4_ n5_ n6_; clear hb hbox hg; have hnb38 := NB298_299.out; have hnc38 := NB299_298.out; have hcz39_0 : w37.cell? ⟨gb298,0,none⟩ = some (.string a0_0) := (blk_cell BK298.out 0).trans rfl; have hcz39_1 : w37.cell? ⟨gb298,1,none⟩ = some (.int .i64 a0_1) := (blk_cell BK298.out 1).trans rfl; have hcz39_2 : w37.cell? ⟨gb298,2,none⟩ = some (.int .i64 a0_2) := (blk_cell BK298.out 2).trans rfl; have hcz39_3 : w37.cell? ⟨gb298,3,none⟩ = some (.int .i64 a0_3) := (blk_cell BK298.out 3).trans rfl; have hcz39_4 : w37.cell? ⟨gb298,4,none⟩ = some (.slice A0_4 l0_4.length c0_4) := (blk_cell BK298.out 4).trans rfl; have hfz39_0 := blk_frozen BK298.out 0; have hfz39_1 := blk_frozen BK298.out 1; have hfz39_2 := blk_frozen BK298.out 2; have hfz39_3 := blk_frozen BK298.out 3; have hfz39_4 := blk_frozen BK298.out 4; have hcz40_0 : w37.cell? ⟨gb299,0,none⟩ = some (.string a1_0) := (blk_cell BK299.out 0).trans rfl; have hcz40_1 : w37.cell? ⟨gb299,1,none⟩ = some (.int .i64 a1_1) := (blk_cell BK299.out 1).trans rfl; have hcz40_2 : w37.cell? ⟨gb299,2,none⟩ = some (.int .i64 a1_2) := (blk_cell BK299.out 2).trans rfl; have hcz40_3 : w37.cell? ⟨gb299,3,none⟩ = some (.int .i64 a1_3) := (blk_cell BK299.out 3).trans rfl; have hcz40_4 : w37.cell? ⟨gb299,4,none⟩ = some (.slice A1_4 l1_4.length c1_4) := (blk_cell BK299.out 4).trans rfl; have hfz40_0 := blk_frozen BK299.out 0; have hfz40_1 := blk_frozen BK299.out 1; have hfz40_2 := blk_frozen BK299.out 2; have hfz40_3 := blk_frozen BK299.out 3; have hfz40_4 := blk_frozen BK299.out 4))
  go_ret;exact ⟨by rfl,HB.out⟩

end Go.Proofs.Ytcbpfofkdipjhaa.PL
