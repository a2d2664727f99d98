/- The machine's side of Go functions: each as a plain function,and that the call does what it says. Written by a program (wip/mprint). -/
import Derived.Test.YtcbpfofkdipjhaaAAPJx0
import Derived.Test.YtcbpfofkdipjhaaAAPJx2
import Derived.Lib.Hide
import Derived.Lib.Hide
namespace Go.Proofs.Ytcbpfofkdipjhaa.PJ
open Go.RowKit Go.Proofs.YtcbpfofkdipjhaaW.PrintWords Go.Proofs.YtcbpfofkdipjhaaW.PrintLast Go.Proofs.YtcbpfofkdipjhaaW.PrintMore
attribute [local wf_preprocess] Act.put List.setIfInBounds_toArray List.set_cons_zero List.set_cons_succ i64_w i32_w
attribute [local go_sem] max2_int min2_int max_two min_two max_three min_three max_four min_four   -- for this text's walks alone
set_option linter.unusedVariables false
set_option linter.unusedSimpArgs false

/-! ### laws_eqAcctS: function 54 -/
def laws_eqAcctS.l0 : Nat → List (S63) → List (S63) → Int → Option (Bool)
 | 0,_,_,_ => none
 | k + 1,x0,x1,x5 => if x5 < (x0.length : Int) then (if 0 ≤ x5 then (if x5 < (x1.length : Int) then ((laws_eqAcct.f k ((rd_T63 x0 x5).f0) ((rd_T63 x0 x5).f1) ((rd_T63 x0 x5).f2) ((rd_T63 x0 x5).f3) ((rd_T63 x0 x5).f4) ((rd_T63 x1 x5).f0) ((rd_T63 x1 x5).f1) ((rd_T63 x1 x5).f2) ((rd_T63 x1 x5).f3) ((rd_T63 x1 x5).f4)).bind fun t151 => (if t151 = true then (laws_eqAcctS.l0 k x0 x1 (wrap64 (x5 + 1))) else (some false))) else (none)) else (none)) else (some true)
def laws_eqAcctS.f (k : Nat) (l0 : List (S63)) (l1 : List (S63)) : Option (Bool) := if (l0.length : Int) = (l1.length : Int) then (laws_eqAcctS.l0 k l0 l1 0) else (some false)
def laws_eqAcctS.T6 : Bool × List (List Nat × List Nat) := (true,[([],[]),([],[]),([0,1],[0,1]),([2],[2]),([],[]),([],[]),([4,5],[4,5]),([6],[6]),([3,7],[3,7]),([8],[8])])
def laws_eqAcctS.B6 : List Nat := [0,0,3,7,0,0,48,112,255,511]
theorem laws_eqAcctS.tab6 : rtab .any (opsOf Try.f54 6) = laws_eqAcctS.T6 := by kernel_rfl
theorem laws_eqAcctS.bits6 : waitsOk laws_eqAcctS.T6.2 laws_eqAcctS.B6 = true := by kernel_rfl
set_option maxHeartbeats 8000000 in
set_option maxRecDepth 100000 in
theorem laws_eqAcctS.calls (k : Nat) (A0 : Option Addr) (c0 : Nat) (l0 : List (S63)) (A1 : Option Addr) (c1 : Nat) (l1 : List (S63)) (r : Bool) (w : World) (hr0 : Kd.C k63 w A0 l0.length l0) (hc0 : l0.length ≤ c0) (hr1 : Kd.C k63 w A1 l1.length l1) (hc1 : l1.length ≤ c1) (h : laws_eqAcctS.f k l0 l1 = some r) :
  Calls Try.prog 54 #[.slice A0 l0.length c0,.slice A1 l1.length c1] w fun e w' => e = .returned (.bool r) ∧ Below w.heap.size w w' := by
 have hu63 := Try.underlying63;have HR0 := Aside0.mk hr0;have HC0 := Aside0.mk hc0;clear hr0 hc0;have HR1 := Aside0.mk hr1;have HC1 := Aside0.mk hc1;clear hr1 hc1;have HB := Aside0.mk (Below.refl w.heap.size w);have H : (if (l0.length : Int) = (l1.length : Int) then (laws_eqAcctS.l0 k l0 l1 0) else (some false)) = some r := h;clear h
 by_cases c3 : (l0.length : Int) = (l1.length : Int)
 ·rw [if_pos c3] at H;have c3b0 : ((l0.length : Int) == (l1.length : Int)) = true := beq_iff_eq.mpr c3;have c3b1 : ((l0.length : Int) != (l1.length : Int)) = false := bne_eq_false_iff_eq.mpr c3
  have c3b2 : (l0.length == l1.length) = true := by (simp at c3 ⊢; omega)
  clear c3;have H' := Aside0.mk H;clear H;go_enter Try.func54,Try.ntmps54;go_wp2
  go_loopg [5] k (fun kq v5 w' => ∃ (x5_1 : Int),v5 = .int .i64 x5_1 ∧ Aside0 (laws_eqAcctS.l0 kq l0 l1 x5_1 = some r) ∧ Aside0 (kq ≤ k) ∧ Aside0 (Below w.heap.size w w'))
  case atStart => exact ⟨(0),(by rfl),H',⟨Nat.le_refl _⟩,⟨HB.out⟩⟩
  case round =>
   clear H'
   try clear c1
   try clear p2
   try clear c3
   try clear c3b0
   try clear c3b1
   try clear c3b2
   obtain ⟨x5_1,rfl,HA,HK1,HB⟩ := hrel
   cases gk with
   | zero => exact absurd HA.out (by simp [laws_eqAcctS.l0])
   | succ k1 =>
    have H := HA.out;clear HA;simp only [laws_eqAcctS.l0] at H
    by_cases c4 : x5_1 < (l0.length : Int)
    ·rw [if_pos c4] at H;have c4b0 : decide (x5_1 < (l0.length : Int)) = true := decide_eq_true c4;clear c4
     by_cases c5 : 0 ≤ x5_1
     ·rw [if_pos c5] at H;have c5b0 : decide (0 ≤ x5_1) = true := decide_eq_true c5;clear c5
      by_cases c6 : x5_1 < (l1.length : Int)
      ·rw [if_pos c6] at H;have c6b0 : decide (x5_1 < (l1.length : Int)) = true := decide_eq_true c6;clear c6;replace H := Option.bind_eq_some_iff.mp H;obtain ⟨t151,A70,H⟩ := H;replace H : (if t151 = true then (laws_eqAcctS.l0 k1 l0 l1 (wrap64 (x5_1 + 1))) else (some false)) = some r := H;have A7 := Aside0.mk A70;clear A70
       by_cases c8 : t151 = true
       ·subst c8;rw [if_pos rfl] at H;have H' := Aside0.mk H;clear H
        try go_wp2
        have n0_ := Aside0.mk (below_drew1 HB.out);clear HB;have HB := n0_;clear n0_;have p149 : 0 ≤ (x5_1 : Int) := of_decide_eq_true (by (with_reducible assumption));have q149 : x5_1 < (l0.length : Int) := of_decide_eq_true (by (with_reducible assumption));obtain ⟨ad149,A149_4,c149_4,e149,hx149_0,hx149_1,hx149_2,hx149_3,hx149_4,hl149_4,hi149_4⟩ := at_T63 HR0.out x5_1 p149 q149;have hw149_4 := hx149_4;have hw149_3 := hx149_3;have hw149_2 := hx149_2;have hw149_1 := hx149_1;have hw149_0 := hx149_0
        cases e149
        replace hx149_0 := up_ HB.out hx149_0;replace hx149_1 := up_ HB.out hx149_1;replace hx149_2 := up_ HB.out hx149_2;replace hx149_3 := up_ HB.out hx149_3;replace hx149_4 := up_ HB.out hx149_4;have HR149_4 := Aside0.mk hi149_4;have HC149_4 := Aside0.mk hl149_4;clear hi149_4 hl149_4;replace p149 := eq_true p149;replace q149 := eq_true q149;have p150 : 0 ≤ (x5_1 : Int) := of_decide_eq_true (by (with_reducible assumption));have q150 : x5_1 < (l1.length : Int) := of_decide_eq_true (by (with_reducible assumption));obtain ⟨ad150,A150_4,c150_4,e150,hx150_0,hx150_1,hx150_2,hx150_3,hx150_4,hl150_4,hi150_4⟩ := at_T63 HR1.out x5_1 p150 q150;have hw150_4 := hx150_4;have hw150_3 := hx150_3;have hw150_2 := hx150_2;have hw150_1 := hx150_1;have hw150_0 := hx150_0
        cases e150
        replace hx150_0 := up_ HB.out hx150_0;replace hx150_1 := up_ HB.out hx150_1;replace hx150_2 := up_ HB.out hx150_2;replace hx150_3 := up_ HB.out hx150_3;replace hx150_4 := up_ HB.out hx150_4;have HR150_4 := Aside0.mk hi150_4;have HC150_4 := Aside0.mk hl150_4;clear hi150_4 hl150_4;replace p150 := eq_true p150;replace q150 := eq_true q150;refine start_ (n := 10) (S := fun w' => w'.cell? (ad149.add ((x5_1).toNat * 5)) = some (.string ((rd_T63 l0 x5_1).f0)) ∧ w'.cell? ⟨(ad149.add ((x5_1).toNat * 5)).block,(ad149.add ((x5_1).toNat * 5)).off + 1,none⟩ = some (.int .i64 ((rd_T63 l0 x5_1).f1)) ∧ w'.cell? ⟨(ad149.add ((x5_1).toNat * 5)).block,(ad149.add ((x5_1).toNat * 5)).off + 2,none⟩ = some (.int .i64 ((rd_T63 l0 x5_1).f2)) ∧ w'.cell? ⟨(ad149.add ((x5_1).toNat * 5)).block,(ad149.add ((x5_1).toNat * 5)).off + 3,none⟩ = some (.int .i64 ((rd_T63 l0 x5_1).f3)) ∧ w'.cell? ⟨(ad149.add ((x5_1).toNat * 5)).block,(ad149.add ((x5_1).toNat * 5)).off + 4,none⟩ = some (.slice A149_4 ((rd_T63 l0 x5_1).f4).length c149_4) ∧ w'.cell? (ad150.add ((x5_1).toNat * 5)) = some (.string ((rd_T63 l1 x5_1).f0)) ∧ w'.cell? ⟨(ad150.add ((x5_1).toNat * 5)).block,(ad150.add ((x5_1).toNat * 5)).off + 1,none⟩ = some (.int .i64 ((rd_T63 l1 x5_1).f1)) ∧ w'.cell? ⟨(ad150.add ((x5_1).toNat * 5)).block,(ad150.add ((x5_1).toNat * 5)).off + 2,none⟩ = some (.int .i64 ((rd_T63 l1 x5_1).f2)) ∧ w'.cell? ⟨(ad150.add ((x5_1).toNat * 5)).block,(ad150.add ((x5_1).toNat * 5)).off + 3,none⟩ = some (.int .i64 ((rd_T63 l1 x5_1).f3)) ∧ w'.cell? ⟨(ad150.add ((x5_1).toNat * 5)).block,(ad150.add ((x5_1).toNat * 5)).off + 4,none⟩ = some (.slice A150_4 ((rd_T63 l1 x5_1).f4).length c150_4)) (ds := []) #[false,false,false,false,false,false,false,false,false,false] (by kernel_rfl) rfl rfl ⟨(up_ HB.out hw149_0),(up_ HB.out hw149_1),(up_ HB.out hw149_2),(up_ HB.out hw149_3),(up_ HB.out hw149_4),(up_ HB.out hw150_0),(up_ HB.out hw150_1),(up_ HB.out hw150_2),(up_ HB.out hw150_3),(up_ HB.out hw150_4)⟩ (fun hHeld => ?_); refine with_tabW laws_eqAcctS.tab6 laws_eqAcctS.bits6 (fun HT_ HW_ => ?_)
        generalize wr.drew = w9 at HB HR149_4 HR150_4 hx149_0 hx149_1 hx149_2 hx149_3 hx149_4 hx150_0 hx150_1 hx150_2 hx150_3 hx150_4 hHeld ⊢
        refine pure_ (i := 0) (N := some 17) (v := ?_) (a' := ?_) #[true,false,false,false,false,false,false,false,false,false] rfl rfl (any_of HT_.out (by kernel_rfl)) (fun _ _ _ h => h) (Or.inl ⟨by rfl,?_⟩) ?_ ?_;rotate_left
        ·intro w';go_simp;with_reducible rfl
        rotate_left
        ·simp only [wf_preprocess];rfl
        refine pure_ (i := 1) (N := some 18) (v := ?_) (a' := ?_) #[true,true,false,false,false,false,false,false,false,false] rfl rfl (any_of HT_.out (by kernel_rfl)) (fun _ _ _ h => h) (Or.inl ⟨by rfl,?_⟩) ?_ ?_;rotate_left
        ·intro w';go_simp;with_reducible rfl
        rotate_left
        ·simp only [wf_preprocess];rfl
        refine pure_ (i := 2) (N := some 19) (v := ?_) (a' := ?_) #[true,true,true,false,false,false,false,false,false,false] rfl rfl (any_of HT_.out (by kernel_rfl)) (fun _ _ _ h => h) (Or.inl ⟨by rfl,?_⟩) ?_ ?_;rotate_left
        ·intro w';go_simp;with_reducible rfl
        rotate_left
        ·simp only [wf_preprocess];rfl
        refine pure_ (i := 4) (N := some 21) (v := ?_) (a' := ?_) #[true,true,true,false,true,false,false,false,false,false] rfl rfl (any_of HT_.out (by kernel_rfl)) (fun _ _ _ h => h) (Or.inl ⟨by rfl,?_⟩) ?_ ?_;rotate_left
        ·intro w';go_simp;with_reducible rfl
        rotate_left
        ·simp only [wf_preprocess];rfl
        refine pure_ (i := 5) (N := some 22) (v := ?_) (a' := ?_) #[true,true,true,false,true,true,false,false,false,false] rfl rfl (any_of HT_.out (by kernel_rfl)) (fun _ _ _ h => h) (Or.inl ⟨by rfl,?_⟩) ?_ ?_;rotate_left
        ·intro w';go_simp;with_reducible rfl
        rotate_left
        ·simp only [wf_preprocess];rfl
        refine pure_ (i := 6) (N := some 23) (v := ?_) (a' := ?_) #[true,true,true,false,true,true,true,false,false,false] rfl rfl (any_of HT_.out (by kernel_rfl)) (fun _ _ _ h => h) (Or.inl ⟨by rfl,?_⟩) ?_ ?_;rotate_left
        ·intro w';go_simp;with_reducible rfl
        rotate_left
        ·simp only [wf_preprocess];rfl
        refine take_ (i := 3) (N := some 20) (v := ?_) (a' := ?_) #[true,true,true,true,true,true,true,false,false,false] rfl rfl (take_ofW HT_.out HW_.out (by kernel_rfl)) (fun _ _ _ h => h) (Or.inl ⟨by rfl,?_⟩) hHeld ?_ ?_;rotate_left
        ·rintro w' ⟨s0,s1,s2,s3,s4,s5,s6,s7,s8,s9⟩;go_simp;with_reducible rfl
        rotate_left
        ·simp only [wf_preprocess];rfl
        refine take_ (i := 7) (N := some 24) (v := ?_) (a' := ?_) #[true,true,true,true,true,true,true,true,false,false] rfl rfl (take_ofW HT_.out HW_.out (by kernel_rfl)) (fun _ _ _ h => h) (Or.inl ⟨by rfl,?_⟩) hHeld ?_ ?_;rotate_left
        ·rintro w' ⟨s0,s1,s2,s3,s4,s5,s6,s7,s8,s9⟩;go_simp;with_reducible rfl
        rotate_left
        ·simp only [wf_preprocess];rfl
        refine one_ (i := 8) (N := some 25) #[true,true,true,true,true,true,true,true,true,false] rfl rfl (one_of HT_.out (by kernel_rfl)) (by decide) (fun K hK => ?_);refine goes_ Try.func101 (by kernel_rfl) rfl #[.agg #[.string ((rd_T63 l0 x5_1).f0),.int .i64 ((rd_T63 l0 x5_1).f1),.int .i64 ((rd_T63 l0 x5_1).f2),.int .i64 ((rd_T63 l0 x5_1).f3),.slice A149_4 ((rd_T63 l0 x5_1).f4).length c149_4],.agg #[.string ((rd_T63 l1 x5_1).f0),.int .i64 ((rd_T63 l1 x5_1).f1),.int .i64 ((rd_T63 l1 x5_1).f2),.int .i64 ((rd_T63 l1 x5_1).f3),.slice A150_4 ((rd_T63 l1 x5_1).f4).length c150_4]] (by rfl) rfl rfl (by (try simp only [List.map_toArray,List.map_cons,List.map_nil]); rfl) ?_
        with_reducible refine (laws_eqAcct.calls k1 ((rd_T63 l0 x5_1).f0) ((rd_T63 l0 x5_1).f1) ((rd_T63 l0 x5_1).f2) ((rd_T63 l0 x5_1).f3) _ _ ((rd_T63 l0 x5_1).f4) ((rd_T63 l1 x5_1).f0) ((rd_T63 l1 x5_1).f1) ((rd_T63 l1 x5_1).f2) ((rd_T63 l1 x5_1).f3) _ _ ((rd_T63 l1 x5_1).f4) true _ ?side1 ?side2 ?side3 ?side4 A7.out).mono ?_
        (case side1 => repeat (exact (Kd.C_below HR149_4.out HB.out)))
        (case side2 => exact HC149_4.out)
        (case side3 => repeat (exact (Kd.C_below HR150_4.out HB.out)))
        (case side4 => exact HC150_4.out)
        rintro e w10 ⟨rfl,hb⟩;refine ⟨_,rfl,?_⟩;have n0_ := Aside0.mk (below_step HB.out hb);clear HB;have HB := n0_;clear n0_
        (try clear hb)
        skip
        skip
        skip
        refine hK.out _ _ ⟨(up_ HB.out hw149_0),(up_ HB.out hw149_1),(up_ HB.out hw149_2),(up_ HB.out hw149_3),(up_ HB.out hw149_4),(up_ HB.out hw150_0),(up_ HB.out hw150_1),(up_ HB.out hw150_2),(up_ HB.out hw150_3),(up_ HB.out hw150_4)⟩ (fun hHeld => ?_);clear hK K;refine norm_ (a' := ?_) ?_ ?_;rotate_left
        ·show Act.put _ (some 25) _ = _
         simp only [wf_preprocess];rfl
        refine pure_ (i := 9) (N := some 26) (v := ?_) (a' := ?_) #[true,true,true,true,true,true,true,true,true,true] rfl rfl (any_of HT_.out (by kernel_rfl)) (fun _ _ _ h => h) (Or.inl ⟨by rfl,?_⟩) ?_ ?_;rotate_left
        ·intro w';go_simp;with_reducible rfl
        rotate_left
        ·simp only [wf_preprocess];rfl
        refine done_ (done_of HT_.out (by kernel_rfl)) ?_
        try go_wp2
        go_roundg k1
        case measure => have := HK1.out; omega
        case rel => exact ⟨(wrap64 (x5_1 + 1)),(by rfl),H',⟨by have := HK1.out; omega⟩,⟨HB.out⟩⟩
       ·replace c8 := Bool.eq_false_iff.mpr c8;subst c8;rw [if_neg (show ¬ (false = true) by decide)] at H;obtain rfl := Option.some.inj H
        try go_wp2
        have n0_ := Aside0.mk (below_drew1 HB.out);clear HB;have HB := n0_;clear n0_;have p149 : 0 ≤ (x5_1 : Int) := of_decide_eq_true (by (with_reducible assumption));have q149 : x5_1 < (l0.length : Int) := of_decide_eq_true (by (with_reducible assumption));obtain ⟨ad149,A149_4,c149_4,e149,hx149_0,hx149_1,hx149_2,hx149_3,hx149_4,hl149_4,hi149_4⟩ := at_T63 HR0.out x5_1 p149 q149;have hw149_4 := hx149_4;have hw149_3 := hx149_3;have hw149_2 := hx149_2;have hw149_1 := hx149_1;have hw149_0 := hx149_0
        cases e149
        replace hx149_0 := up_ HB.out hx149_0;replace hx149_1 := up_ HB.out hx149_1;replace hx149_2 := up_ HB.out hx149_2;replace hx149_3 := up_ HB.out hx149_3;replace hx149_4 := up_ HB.out hx149_4;have HR149_4 := Aside0.mk hi149_4;have HC149_4 := Aside0.mk hl149_4;clear hi149_4 hl149_4;replace p149 := eq_true p149;replace q149 := eq_true q149;have p150 : 0 ≤ (x5_1 : Int) := of_decide_eq_true (by (with_reducible assumption));have q150 : x5_1 < (l1.length : Int) := of_decide_eq_true (by (with_reducible assumption));obtain ⟨ad150,A150_4,c150_4,e150,hx150_0,hx150_1,hx150_2,hx150_3,hx150_4,hl150_4,hi150_4⟩ := at_T63 HR1.out x5_1 p150 q150;have hw150_4 := hx150_4;have hw150_3 := hx150_3;have hw150_2 := hx150_2;have hw150_1 := hx150_1;have hw150_0 := hx150_0
        cases e150
        replace hx150_0 := up_ HB.out hx150_0;replace hx150_1 := up_ HB.out hx150_1;replace hx150_2 := up_ HB.out hx150_2;replace hx150_3 := up_ HB.out hx150_3;replace hx150_4 := up_ HB.out hx150_4;have HR150_4 := Aside0.mk hi150_4;have HC150_4 := Aside0.mk hl150_4;clear hi150_4 hl150_4;replace p150 := eq_true p150;replace q150 := eq_true q150;refine start_ (n := 10) (S := fun w' => w'.cell? (ad149.add ((x5_1).toNat * 5)) = some (.string ((rd_T63 l0 x5_1).f0)) ∧ w'.cell? ⟨(ad149.add ((x5_1).toNat * 5)).block,(ad149.add ((x5_1).toNat * 5)).off + 1,none⟩ = some (.int .i64 ((rd_T63 l0 x5_1).f1)) ∧ w'.cell? ⟨(ad149.add ((x5_1).toNat * 5)).block,(ad149.add ((x5_1).toNat * 5)).off + 2,none⟩ = some (.int .i64 ((rd_T63 l0 x5_1).f2)) ∧ w'.cell? ⟨(ad149.add ((x5_1).toNat * 5)).block,(ad149.add ((x5_1).toNat * 5)).off + 3,none⟩ = some (.int .i64 ((rd_T63 l0 x5_1).f3)) ∧ w'.cell? ⟨(ad149.add ((x5_1).toNat * 5)).block,(ad149.add ((x5_1).toNat * 5)).off + 4,none⟩ = some (.slice A149_4 ((rd_T63 l0 x5_1).f4).length c149_4) ∧ w'.cell? (ad150.add ((x5_1).toNat * 5)) = some (.string ((rd_T63 l1 x5_1).f0)) ∧ w'.cell? ⟨(ad150.add ((x5_1).toNat * 5)).block,(ad150.add ((x5_1).toNat * 5)).off + 1,none⟩ = some (.int .i64 ((rd_T63 l1 x5_1).f1)) ∧ w'.cell? ⟨(ad150.add ((x5_1).toNat * 5)).block,(ad150.add ((x5_1).toNat * 5)).off + 2,none⟩ = some (.int .i64 ((rd_T63 l1 x5_1).f2)) ∧ w'.cell? ⟨(ad150.add ((x5_1).toNat * 5)).block,(ad150.add ((x5_1).toNat * 5)).off + 3,none⟩ = some (.int .i64 ((rd_T63 l1 x5_1).f3)) ∧ w'.cell? ⟨(ad150.add ((x5_1).toNat * 5)).block,(ad150.add ((x5_1).toNat * 5)).off + 4,none⟩ = some (.slice A150_4 ((rd_T63 l1 x5_1).f4).length c150_4)) (ds := []) #[false,false,false,false,false,false,false,false,false,false] (by kernel_rfl) rfl rfl ⟨(up_ HB.out hw149_0),(up_ HB.out hw149_1),(up_ HB.out hw149_2),(up_ HB.out hw149_3),(up_ HB.out hw149_4),(up_ HB.out hw150_0),(up_ HB.out hw150_1),(up_ HB.out hw150_2),(up_ HB.out hw150_3),(up_ HB.out hw150_4)⟩ (fun hHeld => ?_); refine with_tabW laws_eqAcctS.tab6 laws_eqAcctS.bits6 (fun HT_ HW_ => ?_)
        generalize wr.drew = w11 at HB HR149_4 HR150_4 hx149_0 hx149_1 hx149_2 hx149_3 hx149_4 hx150_0 hx150_1 hx150_2 hx150_3 hx150_4 hHeld ⊢
        refine pure_ (i := 0) (N := some 17) (v := ?_) (a' := ?_) #[true,false,false,false,false,false,false,false,false,false] rfl rfl (any_of HT_.out (by kernel_rfl)) (fun _ _ _ h => h) (Or.inl ⟨by rfl,?_⟩) ?_ ?_;rotate_left
        ·intro w';go_simp;with_reducible rfl
        rotate_left
        ·simp only [wf_preprocess];rfl
        refine pure_ (i := 1) (N := some 18) (v := ?_) (a' := ?_) #[true,true,false,false,false,false,false,false,false,false] rfl rfl (any_of HT_.out (by kernel_rfl)) (fun _ _ _ h => h) (Or.inl ⟨by rfl,?_⟩) ?_ ?_;rotate_left
        ·intro w';go_simp;with_reducible rfl
        rotate_left
        ·simp only [wf_preprocess];rfl
        refine pure_ (i := 2) (N := some 19) (v := ?_) (a' := ?_) #[true,true,true,false,false,false,false,false,false,false] rfl rfl (any_of HT_.out (by kernel_rfl)) (fun _ _ _ h => h) (Or.inl ⟨by rfl,?_⟩) ?_ ?_;rotate_left
        ·intro w';go_simp;with_reducible rfl
        rotate_left
        ·simp only [wf_preprocess];rfl
        refine pure_ (i := 4) (N := some 21) (v := ?_) (a' := ?_) #[true,true,true,false,true,false,false,false,false,false] rfl rfl (any_of HT_.out (by kernel_rfl)) (fun _ _ _ h => h) (Or.inl ⟨by rfl,?_⟩) ?_ ?_;rotate_left
        ·intro w';go_simp;with_reducible rfl
        rotate_left
        ·simp only [wf_preprocess];rfl
        refine pure_ (i := 5) (N := some 22) (v := ?_) (a' := ?_) #[true,true,true,false,true,true,false,false,false,false] rfl rfl (any_of HT_.out (by kernel_rfl)) (fun _ _ _ h => h) (Or.inl ⟨by rfl,?_⟩) ?_ ?_;rotate_left
        ·intro w';go_simp;with_reducible rfl
        rotate_left
        ·simp only [wf_preprocess];rfl
        refine pure_ (i := 6) (N := some 23) (v := ?_) (a' := ?_) #[true,true,true,false,true,true,true,false,false,false] rfl rfl (any_of HT_.out (by kernel_rfl)) (fun _ _ _ h => h) (Or.inl ⟨by rfl,?_⟩) ?_ ?_;rotate_left
        ·intro w';go_simp;with_reducible rfl
        rotate_left
        ·simp only [wf_preprocess];rfl
        refine take_ (i := 3) (N := some 20) (v := ?_) (a' := ?_) #[true,true,true,true,true,true,true,false,false,false] rfl rfl (take_ofW HT_.out HW_.out (by kernel_rfl)) (fun _ _ _ h => h) (Or.inl ⟨by rfl,?_⟩) hHeld ?_ ?_;rotate_left
        ·rintro w' ⟨s0,s1,s2,s3,s4,s5,s6,s7,s8,s9⟩;go_simp;with_reducible rfl
        rotate_left
        ·simp only [wf_preprocess];rfl
        refine take_ (i := 7) (N := some 24) (v := ?_) (a' := ?_) #[true,true,true,true,true,true,true,true,false,false] rfl rfl (take_ofW HT_.out HW_.out (by kernel_rfl)) (fun _ _ _ h => h) (Or.inl ⟨by rfl,?_⟩) hHeld ?_ ?_;rotate_left
        ·rintro w' ⟨s0,s1,s2,s3,s4,s5,s6,s7,s8,s9⟩;go_simp;with_reducible rfl
        rotate_left
        ·simp only [wf_preprocess];rfl
        refine one_ (i := 8) (N := some 25) #[true,true,true,true,true,true,true,true,true,false] rfl rfl (one_of HT_.out (by kernel_rfl)) (by decide) (fun K hK => ?_);refine goes_ Try.func101 (by kernel_rfl) rfl #[.agg #[.string ((rd_T63 l0 x5_1).f0),.int .i64 ((rd_T63 l0 x5_1).f1),.int .i64 ((rd_T63 l0 x5_1).f2),.int .i64 ((rd_T63 l0 x5_1).f3),.slice A149_4 ((rd_T63 l0 x5_1).f4).length c149_4],.agg #[.string ((rd_T63 l1 x5_1).f0),.int .i64 ((rd_T63 l1 x5_1).f1),.int .i64 ((rd_T63 l1 x5_1).f2),.int .i64 ((rd_T63 l1 x5_1).f3),.slice A150_4 ((rd_T63 l1 x5_1).f4).length c150_4]] (by rfl) rfl rfl (by (try simp only [List.map_toArray,List.map_cons,List.map_nil]); rfl) ?_
        with_reducible refine (laws_eqAcct.calls k1 ((rd_T63 l0 x5_1).f0) ((rd_T63 l0 x5_1).f1) ((rd_T63 l0 x5_1).f2) ((rd_T63 l0 x5_1).f3) _ _ ((rd_T63 l0 x5_1).f4) ((rd_T63 l1 x5_1).f0) ((rd_T63 l1 x5_1).f1) ((rd_T63 l1 x5_1).f2) ((rd_T63 l1 x5_1).f3) _ _ ((rd_T63 l1 x5_1).f4) false _ ?side1 ?side2 ?side3 ?side4 A7.out).mono ?_
        (case side1 => repeat (exact (Kd.C_below HR149_4.out HB.out)))
        (case side2 => exact HC149_4.out)
        (case side3 => repeat (exact (Kd.C_below HR150_4.out HB.out)))
        (case side4 => exact HC150_4.out)
        rintro e w12 ⟨rfl,hb⟩;refine ⟨_,rfl,?_⟩;have n0_ := Aside0.mk (below_step HB.out hb);clear HB;have HB := n0_;clear n0_
        (try clear hb)
        skip
        skip
        skip
        refine hK.out _ _ ⟨(up_ HB.out hw149_0),(up_ HB.out hw149_1),(up_ HB.out hw149_2),(up_ HB.out hw149_3),(up_ HB.out hw149_4),(up_ HB.out hw150_0),(up_ HB.out hw150_1),(up_ HB.out hw150_2),(up_ HB.out hw150_3),(up_ HB.out hw150_4)⟩ (fun hHeld => ?_);clear hK K;refine norm_ (a' := ?_) ?_ ?_;rotate_left
        ·show Act.put _ (some 25) _ = _
         simp only [wf_preprocess];rfl
        refine pure_ (i := 9) (N := some 26) (v := ?_) (a' := ?_) #[true,true,true,true,true,true,true,true,true,true] rfl rfl (any_of HT_.out (by kernel_rfl)) (fun _ _ _ h => h) (Or.inl ⟨by rfl,?_⟩) ?_ ?_;rotate_left
        ·intro w';go_simp;with_reducible rfl
        rotate_left
        ·simp only [wf_preprocess];rfl
        refine done_ (done_of HT_.out (by kernel_rfl)) ?_
        try go_wp2
        go_ret;exact ⟨by rfl,HB.out⟩
      ·rw [if_neg c6] at H;exact absurd H (by simp)
     ·rw [if_neg c5] at H;exact absurd H (by simp)
    ·rw [if_neg c4] at H;have c4b0 : decide (x5_1 < (l0.length : Int)) = false := decide_eq_false c4;clear c4;obtain rfl := Option.some.inj H;go_wp2;go_ret;exact ⟨by rfl,HB.out⟩
 ·rw [if_neg c3] at H;have c3b0 : ((l0.length : Int) == (l1.length : Int)) = false := beq_eq_false_iff_ne.mpr c3;have c3b1 : ((l0.length : Int) != (l1.length : Int)) = true := bne_iff_ne.mpr c3
  have c3b2 : (l0.length == l1.length) = false := by (simp at c3 ⊢; omega)
  obtain rfl := Option.some.inj H;go_enter Try.func54,Try.ntmps54;go_wp2;go_ret;exact ⟨by rfl,HB.out⟩

/-! ### laws_eqLedger: function 19 -/
def laws_eqLedger.f (k : Nat) (a0_0 : Int) (l0_1 : List (S63)) (a1_0 : Int) (l1_1 : List (S63)) : Option (Bool) := if a0_0 = a1_0 then ((laws_eqAcctS.f k l0_1 l1_1).bind fun t154 => (if t154 = true then (some true) else (some false))) else (some false)
set_option maxHeartbeats 8000000 in
set_option maxRecDepth 100000 in
theorem laws_eqLedger.calls (k : Nat) (a0_0 : Int) (A0_1 : Option Addr) (c0_1 : Nat) (l0_1 : List (S63)) (a1_0 : Int) (A1_1 : Option Addr) (c1_1 : Nat) (l1_1 : List (S63)) (r : Bool) (w : World) (hr0_1 : Kd.C k63 w A0_1 l0_1.length l0_1) (hc0_1 : l0_1.length ≤ c0_1) (hr1_1 : Kd.C k63 w A1_1 l1_1.length l1_1) (hc1_1 : l1_1.length ≤ c1_1) (h : laws_eqLedger.f k a0_0 l0_1 a1_0 l1_1 = some r) :
  Calls Try.prog 19 #[.agg #[.int .i64 a0_0,.slice A0_1 l0_1.length c0_1],.agg #[.int .i64 a1_0,.slice A1_1 l1_1.length c1_1]] w fun e w' => e = .returned (.bool r) ∧ Below w.heap.size w w' := by
 have hu31 := Try.underlying31;have HR0_1 := Aside0.mk hr0_1;have HC0_1 := Aside0.mk hc0_1;clear hr0_1 hc0_1;have HR1_1 := Aside0.mk hr1_1;have HC1_1 := Aside0.mk hc1_1;clear hr1_1 hc1_1;have HB := Aside0.mk (Below.refl w.heap.size w);have H : (if a0_0 = a1_0 then ((laws_eqAcctS.f k l0_1 l1_1).bind fun t154 => (if t154 = true then (some true) else (some false))) else (some false)) = some r := h;clear h
 by_cases c3 : a0_0 = a1_0
 ·rw [if_pos c3] at H;have c3b0 : (a0_0 == a1_0) = true := beq_iff_eq.mpr c3;have c3b1 : (a0_0 != a1_0) = false := bne_eq_false_iff_eq.mpr c3;clear c3;replace H := Option.bind_eq_some_iff.mp H;obtain ⟨t154,A40,H⟩ := H;replace H : (if t154 = true then (some true) else (some false)) = some r := H;have A4 := Aside0.mk A40;clear A40
  by_cases c5 : t154 = true
  ·subst c5;rw [if_pos rfl] at H;obtain rfl := Option.some.inj H;go_enter Try.func19,Try.ntmps19
   go_wp2_with (first | ((with_reducible refine gate_dst (N := 2) rfl ?_); refine box_event ?hg (N := 2) ?hd (cs := #[.int .i64 a0_0,.slice A0_1 l0_1.length c0_1]) (t := 31) ?hr ?_; (case hd => rfl); (case hg => rfl); (case hr => (go_simp; done)); intro gb152 hg w6 hbox hb; have n0_ := Aside0.mk (below_step HB.out hb); have n1_ := Aside0.mk (hbox); have n2_ := Aside0.mk (by rw [hg]; exact (below_size HB.out) : w.heap.size ≤ gb152); have n3_ := Aside0.mk (by rw [hg]; exact (below_size HB.out) : w.heap.size ≤ gb152); clear HB; have HB := n0_; have BK152 := n1_; have GW152 := n2_; have GE152 := n3_; clear n0_ n1_ n2_ n3_; clear hb hbox hg) | ((with_reducible refine gate_dst (N := 3) rfl ?_); refine box_event ?hg (N := 3) ?hd (cs := #[.int .i64 a1_0,.slice A1_1 l1_1.length c1_1]) (t := 31) ?hr ?_; (case hd => rfl); (case hg => rfl); (case hr => (go_simp; done)); intro gb153 hg w7 hbox hb; have n0_ := Aside0.mk (blk_below (g := gb152) (o := .cells #[.int .i64 a0_0,.slice A0_1 l0_1.length c0_1] 31 (0,0)) (by exact BK152.out) hb); have n1_ := Aside0.mk (below_step HB.out hb); have n2_ := Aside0.mk (hbox); have n3_ := Aside0.mk (by rw [hg]; exact (below_size HB.out) : w.heap.size ≤ gb153); have n4_ := Aside0.mk (by rw [hg]; exact (below_size HB.out) : w.heap.size ≤ gb153); have n5_ := Aside0.mk (by rw [hg]; exact Nat.ne_of_lt (blk_lt (g := gb152) (o := .cells #[.int .i64 a0_0,.slice A0_1 l0_1.length c0_1] 31 (0,0)) (by exact BK152.out)) : gb152 ≠ gb153); have n6_ := Aside0.mk (by rw [hg]; exact Nat.ne_of_gt (blk_lt (g := gb152) (o := .cells #[.int .i64 a0_0,.slice A0_1 l0_1.length c0_1] 31 (0,0)) (by exact BK152.out)) : gb153 ≠ gb152); clear BK152; clear HB; have BK152 := n0_; have HB := n1_; have BK153 := n2_; have GW153 := n3_; have GE153 := n4_; have NB152_153 := n5_; have NB153_152 := n6_; clear n0_ n1_ n2_ n3_ n4_ n5_ n6_; clear hb hbox hg; have hnb8 := NB152_153.out; have hnc8 := NB153_152.out; have hcz9_0 : w7.cell? ⟨gb152,0,none⟩ = some (.int .i64 a0_0) := (blk_cell BK152.out 0).trans rfl; have hcz9_1 : w7.cell? ⟨gb152,1,none⟩ = some (.slice A0_1 l0_1.length c0_1) := (blk_cell BK152.out 1).trans rfl; have hfz9_0 := blk_frozen BK152.out 0; have hfz9_1 := blk_frozen BK152.out 1; have hcz10_0 : w7.cell? ⟨gb153,0,none⟩ = some (.int .i64 a1_0) := (blk_cell BK153.out 0).trans rfl; have hcz10_1 : w7.cell? ⟨gb153,1,none⟩ = some (.slice A1_1 l1_1.length c1_1) := (blk_cell BK153.out 1).trans rfl; have hfz10_0 := blk_frozen BK153.out 0; have hfz10_1 := blk_frozen BK153.out 1) | ((with_reducible refine gate_callee (f := 54) rfl ?_); refine goesL_ (some 14) rfl rfl Try.func54 (by kernel_rfl) rfl #[.slice A0_1 l0_1.length c0_1,.slice A1_1 l1_1.length c1_1] rfl (by (try simp only [List.map_toArray,List.map_cons,List.map_nil]); rfl) ?_; (with_reducible refine (laws_eqAcctS.calls k _ _ l0_1 _ _ l1_1 true _ ?side1 ?side2 ?side3 ?side4 A4.out).mono ?_); (case side1 => repeat (exact (Kd.C_below HR0_1.out HB.out))); (case side2 => exact HC0_1.out); (case side3 => repeat (exact (Kd.C_below HR1_1.out HB.out))); (case side4 => exact HC1_1.out); rintro e w11 ⟨rfl,hb⟩; refine ⟨_,rfl,?_⟩; have n0_ := Aside0.mk (blk_below (g := gb152) (o := .cells #[.int .i64 a0_0,.slice A0_1 l0_1.length c0_1] 31 (0,0)) (by exact BK152.out) hb); have n1_ := Aside0.mk (blk_below (g := gb153) (o := .cells #[.int .i64 a1_0,.slice A1_1 l1_1.length c1_1] 31 (0,0)) (by exact BK153.out) hb); have n2_ := Aside0.mk (below_step HB.out hb); clear BK152; clear BK153; clear HB; have BK152 := n0_; have BK153 := n1_; have HB := n2_; clear n0_ n1_ n2_; (try clear hb); skip))
   go_ret;exact ⟨by rfl,HB.out⟩
  ·replace c5 := Bool.eq_false_iff.mpr c5;subst c5;rw [if_neg (show ¬ (false = true) by decide)] at H;obtain rfl := Option.some.inj H;go_enter Try.func19,Try.ntmps19
   go_wp2_with (first | ((with_reducible refine gate_dst (N := 2) rfl ?_); refine box_event ?hg (N := 2) ?hd (cs := #[.int .i64 a0_0,.slice A0_1 l0_1.length c0_1]) (t := 31) ?hr ?_; (case hd => rfl); (case hg => rfl); (case hr => (go_simp; done)); intro gb152 hg w12 hbox hb; have n0_ := Aside0.mk (below_step HB.out hb); have n1_ := Aside0.mk (hbox); have n2_ := Aside0.mk (by rw [hg]; exact (below_size HB.out) : w.heap.size ≤ gb152); have n3_ := Aside0.mk (by rw [hg]; exact (below_size HB.out) : w.heap.size ≤ gb152); clear HB; have HB := n0_; have BK152 := n1_; have GW152 := n2_; have GE152 := n3_; clear n0_ n1_ n2_ n3_; clear hb hbox hg) | ((with_reducible refine gate_dst (N := 3) rfl ?_); refine box_event ?hg (N := 3) ?hd (cs := #[.int .i64 a1_0,.slice A1_1 l1_1.length c1_1]) (t := 31) ?hr ?_; (case hd => rfl); (case hg => rfl); (case hr => (go_simp; done)); intro gb153 hg w13 hbox hb; have n0_ := Aside0.mk (blk_below (g := gb152) (o := .cells #[.int .i64 a0_0,.slice A0_1 l0_1.length c0_1] 31 (0,0)) (by exact BK152.out) hb); have n1_ := Aside0.mk (below_step HB.out hb); have n2_ := Aside0.mk (hbox); have n3_ := Aside0.mk (by rw [hg]; exact (below_size HB.out) : w.heap.size ≤ gb153); have n4_ := Aside0.mk (by rw [hg]; exact (below_size HB.out) : w.heap.size ≤ gb153); have n5_ := Aside0.mk (by rw [hg]; exact Nat.ne_of_lt (blk_lt (g := gb152) (o := .cells #[.int .i64 a0_0,.slice A0_1 l0_1.length c0_1] 31 (0,0)) (by exact BK152.out)) : gb152 ≠ gb153); have n6_ := Aside0.mk (by rw [hg]; exact Nat.ne_of_gt (blk_lt (g := gb152) (o := .cells #[.int .i64 a0_0,.slice A0_1 l0_1.length c0_1] 31 (0,0)) (by exact BK152.out)) : gb153 ≠ gb152); clear BK152; clear HB; have BK152 := n0_; have HB := n1_; have BK153 := n2_; have GW153 := n3_; have GE153 := n4_; have NB152_153 := n5_; have NB153_152 := n6_; clear n0_ n1_ n2_ n3_ n4_ n5_ n6_; clear hb hbox hg; have hnb14 := NB152_153.out; have hnc14 := NB153_152.out; have hcz15_0 : w13.cell? ⟨gb152,0,none⟩ = some (.int .i64 a0_0) := (blk_cell BK152.out 0).trans rfl; have hcz15_1 : w13.cell? ⟨gb152,1,none⟩ = some (.slice A0_1 l0_1.length c0_1) := (blk_cell BK152.out 1).trans rfl; have hfz15_0 := blk_frozen BK152.out 0; have hfz15_1 := blk_frozen BK152.out 1; have hcz16_0 : w13.cell? ⟨gb153,0,none⟩ = some (.int .i64 a1_0) := (blk_cell BK153.out 0).trans rfl; have hcz16_1 : w13.cell? ⟨gb153,1,none⟩ = some (.slice A1_1 l1_1.length c1_1) := (blk_cell BK153.out 1).trans rfl; have hfz16_0 := blk_frozen BK153.out 0; have hfz16_1 := blk_frozen BK153.out 1) | ((with_reducible refine gate_callee (f := 54) rfl ?_); refine goesL_ (some 14) rfl rfl Try.func54 (by kernel_rfl) rfl #[.slice A0_1 l0_1.length c0_1,.slice A1_1 l1_1.length c1_1] rfl (by (try simp only [List.map_toArray,List.map_cons,List.map_nil]); rfl) ?_; (with_reducible refine (laws_eqAcctS.calls k _ _ l0_1 _ _ l1_1 false _ ?side1 ?side2 ?side3 ?side4 A4.out).mono ?_); (case side1 => repeat (exact (Kd.C_below HR0_1.out HB.out))); (case side2 => exact HC0_1.out); (case side3 => repeat (exact (Kd.C_below HR1_1.out HB.out))); (case side4 => exact HC1_1.out); rintro e w17 ⟨rfl,hb⟩; refine ⟨_,rfl,?_⟩; have n0_ := Aside0.mk (blk_below (g := gb152) (o := .cells #[.int .i64 a0_0,.slice A0_1 l0_1.length c0_1] 31 (0,0)) (by exact BK152.out) hb); have n1_ := Aside0.mk (blk_below (g := gb153) (o := .cells #[.int .i64 a1_0,.slice A1_1 l1_1.length c1_1] 31 (0,0)) (by exact BK153.out) hb); have n2_ := Aside0.mk (below_step HB.out hb); clear BK152; clear BK153; clear HB; have BK152 := n0_; have BK153 := n1_; have HB := n2_; clear n0_ n1_ n2_; (try clear hb); skip))
   go_ret;exact ⟨by rfl,HB.out⟩
 ·rw [if_neg c3] at H;have c3b0 : (a0_0 == a1_0) = false := beq_eq_false_iff_ne.mpr c3;have c3b1 : (a0_0 != a1_0) = true := bne_iff_ne.mpr c3;obtain rfl := Option.some.inj H;go_enter Try.func19,Try.ntmps19
  go_wp2_with (first | ((with_reducible refine gate_dst (N := 2) rfl ?_); refine box_event ?hg (N := 2) ?hd (cs := #[.int .i64 a0_0,.slice A0_1 l0_1.length c0_1]) (t := 31) ?hr ?_; (case hd => rfl); (case hg => rfl); (case hr => (go_simp; done)); intro gb152 hg w18 hbox hb; have n0_ := Aside0.mk (below_step HB.out hb); have n1_ := Aside0.mk (hbox); have n2_ := Aside0.mk (by rw [hg]; exact (below_size HB.out) : w.heap.size ≤ gb152); have n3_ := Aside0.mk (by rw [hg]; exact (below_size HB.out) : w.heap.size ≤ gb152); clear HB; have HB := n0_; have BK152 := n1_; have GW152 := n2_; have GE152 := n3_; clear n0_ n1_ n2_ n3_; clear hb hbox hg) | ((with_reducible refine gate_dst (N := 3) rfl ?_); refine box_event ?hg (N := 3) ?hd (cs := #[.int .i64 a1_0,.slice A1_1 l1_1.length c1_1]) (t := 31) ?hr ?_; (case hd => rfl); (case hg => rfl); (case hr => (go_simp; done)); intro gb153 hg w19 hbox hb; have n0_ := Aside0.mk (blk_below (g := gb152) (o := .cells #[.int .i64 a0_0,.slice A0_1 l0_1.length c0_1] 31 (0,0)) (by exact BK152.out) hb); have n1_ := Aside0.mk (below_step HB.out hb); have n2_ := Aside0.mk (hbox); have n3_ := Aside0.mk (by rw [hg]; exact (below_size HB.out) : w.heap.size ≤ gb153); have n4_ := Aside0.mk (by rw [hg]; exact (below_size HB.out) : w.heap.size ≤ gb153); have n5_ := Aside0.mk (by rw [hg]; exact Nat.ne_of_lt (blk_lt (g := gb152) (o := .cells #[.int .i64 a0_0,.slice A0_1 l0_1.length c0_1] 31 (0,0)) (by exact BK152.out)) : gb152 ≠ gb153); have n6_ := Aside0.mk (by rw [hg]; exact Nat.ne_of_gt (blk_lt (g := gb152) (o := .cells #[.int .i64 a0_0,.slice A0_1 l0_1.length c0_1] 31 (0,0)) (by exact BK152.out)) : gb153 ≠ gb152); clear BK152; clear HB; have BK152 := n0_; have HB := n1_; have BK153 := n2_; have GW153 := n3_; have GE153 := n4_; have NB152_153 := n5_; have NB153_152 := n6_; clear n0_ n1_ n2_ n3_ n4_ n5_ n6_; clear hb hbox hg; have hnb20 := NB152_153.out; have hnc20 := NB153_152.out; have hcz21_0 : w19.cell? ⟨gb152,0,none⟩ = some (.int .i64 a0_0) := (blk_cell BK152.out 0).trans rfl; have hcz21_1 : w19.cell? ⟨gb152,1,none⟩ = some (.slice A0_1 l0_1.length c0_1) := (blk_cell BK152.out 1).trans rfl; have hfz21_0 := blk_frozen BK152.out 0; have hfz21_1 := blk_frozen BK152.out 1; have hcz22_0 : w19.cell? ⟨gb153,0,none⟩ = some (.int .i64 a1_0) := (blk_cell BK153.out 0).trans rfl; have hcz22_1 : w19.cell? ⟨gb153,1,none⟩ = some (.slice A1_1 l1_1.length c1_1) := (blk_cell BK153.out 1).trans rfl; have hfz22_0 := blk_frozen BK153.out 0; have hfz22_1 := blk_frozen BK153.out 1))
  go_ret;exact ⟨by rfl,HB.out⟩

/-! ### laws_markText: function 74 -/
def laws_markText.l0 : Nat → Int → ByteArray → Option (ByteArray)
 | 0,_,_ => none
 | k + 1,x0,x3 => if x0 > 0 then ((some (([(wrap64 (48 + (Int.tmod x0 10))) % 256] : List Int) : List Int)).bind fun y155 => (if (strOfNums y155).size + x3.size ≤ 9223372036854775807 then (laws_markText.l0 k (wrap64 (Int.tdiv x0 10)) ((strOfNums y155) ++ x3)) else (none))) else (if 1 + x3.size ≤ 9223372036854775807 then (some ((⟨#[109]⟩ : ByteArray) ++ x3)) else (none))
def laws_markText.f (k : Nat) (a0 : Int) : Option (ByteArray) := if a0 ≤ 0 then (some (⟨#[109,48]⟩ : ByteArray)) else (laws_markText.l0 k a0 (⟨#[]⟩ : ByteArray))
set_option maxHeartbeats 8000000 in
set_option maxRecDepth 100000 in
theorem laws_markText.calls (k : Nat) (a0 : Int) (r : ByteArray) (w : World) (h : laws_markText.f k a0 = some r) :
  Calls Try.prog 74 #[.int .i64 a0] w fun e w' => e = .returned (.string r) ∧ Below w.heap.size w w' := by
 have HB := Aside0.mk (Below.refl w.heap.size w);have H : (if a0 ≤ 0 then (some (⟨#[109,48]⟩ : ByteArray)) else (laws_markText.l0 k a0 (⟨#[]⟩ : ByteArray))) = some r := h;clear h
 by_cases c2 : a0 ≤ 0
 ·rw [if_pos c2] at H;have c2b0 : decide (a0 ≤ 0) = true := decide_eq_true c2;clear c2;obtain rfl := Option.some.inj H;go_enter Try.func74,Try.ntmps74;go_wp2;go_ret;exact ⟨by rfl,HB.out⟩
 ·rw [if_neg c2] at H;have c2b0 : decide (a0 ≤ 0) = false := decide_eq_false c2;clear c2;have H' := Aside0.mk H;clear H;go_enter Try.func74,Try.ntmps74;go_wp2
  go_loopg [0,3] k (fun kq v0 v3 w' => ∃ (x0_1 : Int) (x3_1 : ByteArray),v0 = .int .i64 x0_1 ∧ v3 = .string x3_1 ∧ Aside0 (laws_markText.l0 kq x0_1 x3_1 = some r) ∧ Aside0 (kq ≤ k) ∧ Aside0 (Below w.heap.size w w'))
  case atStart => exact ⟨(a0),(⟨#[]⟩ : ByteArray),(by rfl),(by rfl),H',⟨Nat.le_refl _⟩,⟨HB.out⟩⟩
  case round =>
   clear H'
   try clear c2
   try clear c2b0
   try clear p2
   obtain ⟨x0_1,x3_1,rfl,rfl,HA,HK1,HB⟩ := hrel
   cases gk with
   | zero => exact absurd HA.out (by simp [laws_markText.l0])
   | succ k1 =>
    have H := HA.out;clear HA;simp only [laws_markText.l0] at H
    by_cases c3 : x0_1 > 0
    ·rw [if_pos c3] at H;have c3b0 : decide (0 < x0_1) = true := decide_eq_true c3;clear c3;obtain ⟨y155,hy155⟩ : ∃ y_ : List Int,y_ = ([(wrap64 (48 + (Int.tmod x0_1 10))) % 256] : List Int) := ⟨_,rfl⟩
     replace H : (if (strOfNums y155).size + x3_1.size ≤ 9223372036854775807 then (laws_markText.l0 k1 (wrap64 (Int.tdiv x0_1 10)) ((strOfNums y155) ++ x3_1)) else (none)) = some r := by (have H2_ := (Option.bind_some _ _).symm.trans H; rw [hy155]; with_reducible exact H2_)
     have Ny155 := Aside0.mk hy155;clear hy155
     by_cases c4 : (strOfNums y155).size + x3_1.size ≤ 9223372036854775807
     ·rw [if_pos c4] at H;have c4b0 := eq_true c4;have c4b1 : decide ((strOfNums y155).size + x3_1.size ≤ 9223372036854775807) = true := decide_eq_true c4
      try have c4b2 : (9223372036854775807 < (strOfNums y155).size + x3_1.size) = False := eq_false (Nat.not_lt.2 c4)
      have H' := Aside0.mk H;clear H
      go_wp2_with (((with_reducible refine gate_dst (N := 12) rfl ?_); refine Kd.R_lit (Kd.int .u8) _ 5 ?hg (N := 12) ?hd (xs := ([(wrap64 (48 + (Int.tmod x0_1 10))) % 256] : List Int)) (inner := [.int .u8 ((wrap64 (48 + (Int.tmod x0_1 10))) % 256)]) (ok := fun _ => True) (okp := fun _ => True) ?hr ?hp (fun _ hk => hk) trivial (Below.refl _ _) (Nat.le_refl _) (by simp) ?_; (case hd => rfl); (case hg => rfl); (case hr => (go_simp; done)); (case hp => exact (Reps.one (show Kd.M (Kd.int .u8) _ _ _ ((wrap64 (48 + (Int.tmod x0_1 10))) % 256) [.int .u8 ((wrap64 (48 + (Int.tmod x0_1 10))) % 256)] from rfl) (Reps.none _ _))); intro v156 w5 ho6 hb hg_ hnew_; clear hg_ hnew_; (rw [← Ny155.out] at ho6); have n0_ := Aside0.mk (Kd.R_lower ho6 (below_size HB.out)); have n1_ := Aside0.mk (below_step HB.out hb); clear HB; have HO157 := n0_; have HB := n1_; clear n0_ n1_; clear hb ho6; have hcv7 := own_string (P := Try.prog) Try.underlying40 Try.underlying5 Try.underlying9 (Kd.own_of_R HO157.out)))
      go_roundg k1
      case measure => have := HK1.out; omega
      case rel => exact ⟨(wrap64 (Int.tdiv x0_1 10)),((strOfNums y155) ++ x3_1),(by rfl),(by rfl),H',⟨by have := HK1.out; omega⟩,⟨HB.out⟩⟩
     ·rw [if_neg c4] at H;exact absurd H (by simp)
    ·rw [if_neg c3] at H;have c3b0 : decide (0 < x0_1) = false := decide_eq_false c3;clear c3
     by_cases c8 : 1 + x3_1.size ≤ 9223372036854775807
     ·rw [if_pos c8] at H;have c8b0 := eq_true c8;have c8b1 : decide (1 + x3_1.size ≤ 9223372036854775807) = true := decide_eq_true c8
      try have c8b2 : (9223372036854775807 < 1 + x3_1.size) = False := eq_false (Nat.not_lt.2 c8)
      obtain rfl := Option.some.inj H;go_wp2;go_ret;exact ⟨by rfl,HB.out⟩
     ·rw [if_neg c8] at H;exact absurd H (by simp)

/-! ### laws_markLeaveS: function 102 -/
def laws_markLeaveS.l0 : Nat → List (S65) → Int → Int → Option (Int × (List (S65)))
 | 0,_,_,_ => none
 | k + 1,x0,x1,x5 => if x5 < (x0.length : Int) then (if 0 ≤ x5 then ((some (x0.set (x5 : Int).toNat (⟨x1,(rd_T65 x0 x5).f1⟩ : S65) : List (S65))).bind fun y158 => (laws_markLeaveS.l0 k (y158.set (x5 : Int).toNat (⟨(rd_T65 y158 x5).f0,wrap64 (x1 + 1)⟩ : S65)) (wrap64 ((wrap64 (x1 + 1)) + 1)) (wrap64 (x5 + 1)))) else (none)) else (some (x1,x0))
def laws_markLeaveS.f (k : Nat) (l0 : List (S65)) (a1 : Int) : Option (Int × (List (S65))) := laws_markLeaveS.l0 k l0 a1 0
set_option maxHeartbeats 8000000 in
set_option maxRecDepth 100000 in
theorem laws_markLeaveS.calls (k : Nat) (P0_ : Nat → Prop) (u9000_ : Value) (l0 : List (S65)) (a1 : Int) (r1 : Int) (r2 : List (S65)) (w0 w : World) (hB : Below w0.heap.size w0 w) (ho0 : Kd.R k65 65 w w0.heap.size P0_ u9000_ l0) (h : laws_markLeaveS.f k l0 a1 = some (r1,r2)) :
  Calls Try.prog 102 #[u9000_,.int .i64 a1] w fun e w' => e = .returned (.int .i64 r1) ∧ Kd.R k65 65 w' w0.heap.size (fun k_ => (P0_ k_ ∨ w.heap.size ≤ k_)) u9000_ r2 ∧ Below w0.heap.size w0 w' ∧ Kept w w' (fun k_ => P0_ k_) := by
 have HO0 := Aside0.mk (show Kd.R k65 65 w w0.heap.size (fun k_ => (P0_ k_ ∨ w.heap.size ≤ k_)) u9000_ l0 from Kd.R_mono ho0 (fun k_ hk => (.inl hk)));have HK := Aside0.mk (Kept.refl w (fun k_ => P0_ k_));have HW0 := Aside0.mk hB.size;have HB := Aside0.mk hB;clear hB;have H : (laws_markLeaveS.l0 k l0 a1 0) = some (r1,r2) := h;clear h;have H' := Aside0.mk H;clear H;go_enter Try.func102,Try.ntmps102;go_wp2
 go_loopg [1,5] k (fun kq v1 v5 w' => ∃ (x0_1 : List (S65)) (x1_1 : Int) (x5_1 : Int),v1 = .int .i64 x1_1 ∧ v5 = .int .i64 x5_1 ∧ Aside0 (laws_markLeaveS.l0 kq x0_1 x1_1 x5_1 = some (r1,r2)) ∧ Aside0 (kq ≤ k) ∧ Aside0 (Kd.R k65 65 w' w0.heap.size (fun k_ => (P0_ k_ ∨ w.heap.size ≤ k_)) u9000_ x0_1) ∧ Aside0 (Kept w w' (fun k_ => P0_ k_)) ∧ Aside0 (Below w0.heap.size w0 w'))
 case atStart => exact ⟨(l0),(a1),(0),(by rfl),(by rfl),H',⟨Nat.le_refl _⟩,⟨by exact HO0.out⟩,⟨HK.out⟩,⟨HB.out⟩⟩
 case round =>
  clear H'
  try clear c1
  try clear p2
  obtain ⟨x0_1,x1_1,x5_1,rfl,rfl,HA,HK1,HO_0,HK,HB⟩ := hrel
  cases gk with
  | zero => exact absurd HA.out (by simp [laws_markLeaveS.l0])
  | succ k1 =>
   have H := HA.out;clear HA;simp only [laws_markLeaveS.l0] at H
   by_cases c3 : x5_1 < (x0_1.length : Int)
   ·rw [if_pos c3] at H;have c3b0 : decide (x5_1 < (x0_1.length : Int)) = true := decide_eq_true c3;clear c3
    by_cases c4 : 0 ≤ x5_1
    ·rw [if_pos c4] at H;have c4b0 : decide (0 ≤ x5_1) = true := decide_eq_true c4;clear c4;obtain ⟨y158,hy158⟩ : ∃ y_ : List (S65),y_ = (x0_1.set (x5_1 : Int).toNat (⟨x1_1,(rd_T65 x0_1 x5_1).f1⟩ : S65)) := ⟨_,rfl⟩
     replace H : (laws_markLeaveS.l0 k1 (y158.set (x5_1 : Int).toNat (⟨(rd_T65 y158 x5_1).f0,wrap64 (x1_1 + 1)⟩ : S65)) (wrap64 ((wrap64 (x1_1 + 1)) + 1)) (wrap64 (x5_1 + 1))) = some (r1,r2) := by (have H2_ := (Option.bind_some _ _).symm.trans H; rw [hy158]; with_reducible exact H2_)
     have Ny158 := Aside0.mk hy158;clear hy158;obtain ⟨y159,hy159⟩ : ∃ y_ : List (S65),y_ = (y158.set (x5_1 : Int).toNat (⟨(rd_T65 y158 x5_1).f0,wrap64 (x1_1 + 1)⟩ : S65)) := ⟨_,rfl⟩
     replace H : (laws_markLeaveS.l0 k1 y159 (wrap64 ((wrap64 (x1_1 + 1)) + 1)) (wrap64 (x5_1 + 1))) = some (r1,r2) := by (rw [hy159]; with_reducible exact H)
     have Ny159 := Aside0.mk hy159;clear hy159;have H' := Aside0.mk H;clear H;obtain ⟨Ao7,co7,eo7⟩ := Kd.R_slice HO_0.out;subst eo7;have p5 : 0 ≤ (x5_1 : Int) := of_decide_eq_true (by (with_reducible assumption));have q5 : (x5_1 : Int) < ((x0_1.length : Int) : Int) := of_decide_eq_true (by (with_reducible assumption));obtain ⟨go5,co5,eo5,gb5,gl5,cl5,HG5⟩ := Kd.R_form HO_0.out (by omega)
     (cases eo5)
     have GB5 := Aside0.mk gb5;have GG5 := Aside0.mk HG5;clear gb5 gl5 HG5;have HMgo5 := Aside0.mk (show (P0_ go5 ∨ w.heap.size ≤ go5) from (HO_0.out.1 _ rfl));obtain ⟨ce5,hcl5,hM5,hcc5,hfr5⟩ := Kd.R_elem HO_0.out z65 (x5_1 : Int) p5 q5;obtain rfl := k65_openM hM5;have hx5_0 : wr.cell? ⟨go5,(x5_1 : Int).toNat * 2,none⟩ = some (.int .i64 ((rd_T65 x0_1 x5_1).f0)) := hcc5 0 _ rfl;have hx5_1 : wr.cell? ⟨go5,(x5_1 : Int).toNat * 2 + 1,none⟩ = some (.int .i64 ((rd_T65 x0_1 x5_1).f1)) := hcc5 1 _ rfl;have hf5_0 : wr.frozen? ⟨go5,(x5_1 : Int).toNat * 2,none⟩ = false := hfr5 0;have hf5_1 : wr.frozen? ⟨go5,(x5_1 : Int).toNat * 2 + 1,none⟩ = false := hfr5 1;clear hcl5 hcc5 hfr5 hM5;replace p5 := eq_true p5;replace q5 := eq_true q5;have HX8 := Aside0.mk (show Kd.R k65 65 wr w0.heap.size (fun k_ => (P0_ k_ ∨ w.heap.size ≤ k_)) (.slice (some ⟨go5,0,none⟩) x0_1.length co7) x0_1 from (by exact HO_0.out));obtain ⟨ce8,hcl8,hM8,hcc8,hfr8⟩ := Kd.R_elem HX8.out z65 (x5_1 : Int) (of_decide_eq_true (by (with_reducible assumption))) (by have h_ : (x5_1 : Int) < ((x0_1.length : Int) : Int) := of_decide_eq_true (by (with_reducible assumption)); exact h_);obtain rfl := k65_openM hM8;have HP8 := Kd.R_seg HX8.out (x5_1 : Int) (of_decide_eq_true (by (with_reducible assumption))) (by have h_ : (x5_1 : Int) < ((x0_1.length : Int) : Int) := of_decide_eq_true (by (with_reducible assumption)); exact h_) (seg := [.int .i64 x1_1]) (j := 0) hcl8 hcc8 (show 1 ≤ 2 from by decide) (x' := (⟨x1_1,(rd_T65 x0_1 x5_1).f1⟩ : S65)) (k65_mkM _ _ _ (⟨x1_1,(rd_T65 x0_1 x5_1).f1⟩ : S65) ) (fun _ hk => hk);have hx8_0 := hcc8 0 _ rfl
     (try simp only [show (k65).sz = 2 from rfl,Nat.mul_one,Nat.add_zero] at hx8_0)
     have hf8_0 := hfr8 0
     (try simp only [show (k65).sz = 2 from rfl,Nat.mul_one,Nat.add_zero] at hf8_0)
     clear hcl8 hcc8 hfr8 hM8
     go_wp2_with (first | ((with_reducible refine gate_store (t := 3) (p := 16) rfl ?_); refine store_event (t := 3) (p := 16) (v := ?vo_w9) (w1 := (wr.setCell ⟨go5,(x5_1 : Int).toNat * 2,none⟩ (.int .i64 x1_1))) ?hg ?ho ?hn ?hr ?_; (case ho => rfl); (case hg => rfl); (case hn => rfl); (case hr => (go_simp; done)); intro w9 hw; have hg : wr.grownBy w9 (some go5) := (by rw [hw]; exact HP8.2); have hp_ : Kd.R k65 65 w9 w0.heap.size (fun k_ => (P0_ k_ ∨ w.heap.size ≤ k_)) (.slice (some ⟨go5,0,none⟩) x0_1.length co7) y158 := (by rw [hw,Ny158.out]; exact HP8.1); clear HP8; have n0_ := Aside0.mk (hp_); have n1_ := Aside0.mk (by rw [hw]; exact below_set (HB.out) GB5.out : Below w0.heap.size w0 w9); have n2_ := Aside0.mk (Kept.of_grown (S := (fun k_ => P0_ k_)) hg HK.out (fun k_ e_ => (HO_0.out.1 k_ e_))); clear HO_0; clear HB; clear HK; have HO_0 := n0_; have HB := n1_; have HK := n2_; clear n0_ n1_ n2_; clear hg hw hp_; have p6 : 0 ≤ (x5_1 : Int) := of_decide_eq_true (by (with_reducible assumption)); have q6 : (x5_1 : Int) < ((x0_1.length : Int) : Int) := of_decide_eq_true (by (with_reducible assumption)); obtain ⟨ce6,hcl6,hM6,hcc6,hfr6⟩ := Kd.R_elem HO_0.out z65 (x5_1 : Int) p6 q6; obtain rfl := k65_openM hM6; have hx6_0 : w9.cell? ⟨go5,(x5_1 : Int).toNat * 2,none⟩ = some (.int .i64 ((rd_T65 y158 x5_1).f0)) := hcc6 0 _ rfl; have hx6_1 : w9.cell? ⟨go5,(x5_1 : Int).toNat * 2 + 1,none⟩ = some (.int .i64 ((rd_T65 y158 x5_1).f1)) := hcc6 1 _ rfl; have hf6_0 : w9.frozen? ⟨go5,(x5_1 : Int).toNat * 2,none⟩ = false := hfr6 0; have hf6_1 : w9.frozen? ⟨go5,(x5_1 : Int).toNat * 2 + 1,none⟩ = false := hfr6 1; clear hcl6 hcc6 hfr6 hM6; replace p6 := eq_true p6; replace q6 := eq_true q6; have HX10 := Aside0.mk (show Kd.R k65 65 w9 w0.heap.size (fun k_ => (P0_ k_ ∨ w.heap.size ≤ k_)) (.slice (some ⟨go5,0,none⟩) x0_1.length co7) y158 from (by exact HO_0.out)); obtain ⟨ce10,hcl10,hM10,hcc10,hfr10⟩ := Kd.R_elem HX10.out z65 (x5_1 : Int) (of_decide_eq_true (by (with_reducible assumption))) (by have h_ : (x5_1 : Int) < ((x0_1.length : Int) : Int) := of_decide_eq_true (by (with_reducible assumption)); exact h_); obtain rfl := k65_openM hM10; have HP10 := Kd.R_seg HX10.out (x5_1 : Int) (of_decide_eq_true (by (with_reducible assumption))) (by have h_ : (x5_1 : Int) < ((x0_1.length : Int) : Int) := of_decide_eq_true (by (with_reducible assumption)); exact h_) (seg := [.int .i64 (wrap64 (x1_1 + 1))]) (j := 1) hcl10 hcc10 (show 2 ≤ 2 from by decide) (x' := (⟨(rd_T65 y158 x5_1).f0,wrap64 (x1_1 + 1)⟩ : S65)) (k65_mkM _ _ _ (⟨(rd_T65 y158 x5_1).f0,wrap64 (x1_1 + 1)⟩ : S65) ) (fun _ hk => hk); have hx10_1 := hcc10 1 _ rfl; (try simp only [show (k65).sz = 2 from rfl,Nat.mul_one,Nat.add_zero] at hx10_1); have hf10_1 := hfr10 1; (try simp only [show (k65).sz = 2 from rfl,Nat.mul_one,Nat.add_zero] at hf10_1); clear hcl10 hcc10 hfr10 hM10) | ((with_reducible refine gate_store (t := 3) (p := 23) rfl ?_); refine store_event (t := 3) (p := 23) (v := ?vo_w11) (w1 := (w9.setCell ⟨go5,(x5_1 : Int).toNat * 2 + 1,none⟩ (.int .i64 (wrap64 (x1_1 + 1))))) ?hg ?ho ?hn ?hr ?_; (case ho => rfl); (case hg => rfl); (case hn => rfl); (case hr => (go_simp; done)); intro w11 hw; have hg : w9.grownBy w11 (some go5) := (by rw [hw]; exact HP10.2); have hp_ : Kd.R k65 65 w11 w0.heap.size (fun k_ => (P0_ k_ ∨ w.heap.size ≤ k_)) (.slice (some ⟨go5,0,none⟩) x0_1.length co7) y159 := (by rw [hw,Ny159.out]; exact HP10.1); clear HP10; have n0_ := Aside0.mk (hp_); have n1_ := Aside0.mk (by rw [hw]; exact below_set (HB.out) GB5.out : Below w0.heap.size w0 w11); have n2_ := Aside0.mk (Kept.of_grown (S := (fun k_ => P0_ k_)) hg HK.out (fun k_ e_ => (HO_0.out.1 k_ e_))); clear HO_0; clear HB; clear HK; have HO_0 := n0_; have HB := n1_; have HK := n2_; clear n0_ n1_ n2_; clear hg hw hp_))
     go_roundg k1
     case measure => have := HK1.out; omega
     case rel => exact ⟨(y159),(wrap64 ((wrap64 (x1_1 + 1)) + 1)),(wrap64 (x5_1 + 1)),(by rfl),(by rfl),H',⟨by have := HK1.out; omega⟩,⟨by exact HO_0.out⟩,⟨HK.out⟩,⟨HB.out⟩⟩
    ·rw [if_neg c4] at H;exact absurd H (by simp)
   ·rw [if_neg c3] at H;have c3b0 : decide (x5_1 < (x0_1.length : Int)) = false := decide_eq_false c3;clear c3;simp only [Option.some.injEq,Prod.mk.injEq] at H;obtain ⟨rfl,rfl⟩ := H;obtain ⟨Ao12,co12,eo12⟩ := Kd.R_slice HO_0.out;subst eo12;go_wp2;go_ret;exact ⟨by rfl,by exact HO_0.out,HB.out,HK.out⟩

/-! ### laws_markAcctS: function 55 -/
def laws_markAcctS.l0 : Nat → List S63 → Int → Nat → Option (Int × List S63)
 | 0,_,_,_ => none
 | k + 1,xs,m,i => if i < xs.length then (laws_markText.f k m).bind fun tx => (laws_markLeaveS.f k (xs.getD i z63).f4 (wrap64 (wrap64 (wrap64 (wrap64 (m + 1) + 1) + 1) + 1))).bind fun p => laws_markAcctS.l0 k (xs.set i ⟨tx,wrap64 (m + 1),wrap64 (wrap64 (m + 1) + 1),wrap64 (wrap64 (wrap64 (m + 1) + 1) + 1),p.2⟩) p.1 (i + 1) else some (m,xs)
def laws_markAcctS.f (k : Nat) (l0 : List S63) (a1 : Int) : Option (Int × List S63) := laws_markAcctS.l0 k l0 a1 0
theorem laws_markAcctS.next (j N : Nat) (h : j < N) (hN : N ≤ 9223372036854775807) : wrap64 ((j : Int) + 1) = ((j + 1 : Nat) : Int) := by
 unfold wrap64
 omega
theorem laws_markAcctS.meas (N j : Nat) (h : j < N) : N - (intOf (Value.int IntKind.i64 ((j + 1 : Nat) : Int))).toNat < N - (intOf (Value.int IntKind.i64 (j : Int))).toNat := by
 simp only [intOf]
 omega
set_option maxHeartbeats 8000000 in
set_option maxRecDepth 100000 in
theorem laws_markAcctS.calls (k : Nat) (P0_ : Nat → Prop) (u0_ : Value) (l0 : List S63) (a1 : Int) (r1 : Int) (r2 : List S63) (w0 w : World) (hB : Below w0.heap.size w0 w) (ho0 : Kd.S k63 63 w w0.heap.size P0_ u0_ l0) (h : laws_markAcctS.f k l0 a1 = some (r1,r2)) :
  Calls Try.prog 55 #[u0_,.int .i64 a1] w fun e w' => e = .returned (.int .i64 r1) ∧ Kd.S k63 63 w' w0.heap.size P0_ u0_ r2 ∧ Below w0.heap.size w0 w' ∧ Kept w w' P0_ := by
 obtain ⟨A,c,rfl⟩ := Kd.S_slice ho0;have HS0 := Aside0.mk ho0;have HB0 := Aside0.mk hB;have H := Aside0.mk h;clear ho0 hB h;go_enter Try.func55,Try.ntmps55;go_wp2
 go_loopw [1,5] (fun kv iv wr => ∃ (kq : Nat) (xs : List S63) (m : Int) (i : Nat),kv = .int .i64 m ∧ iv = .int .i64 (i : Int) ∧ i ≤ l0.length ∧ xs.length = l0.length ∧ Aside0 (laws_markAcctS.l0 kq xs m i = some (r1,r2)) ∧ Kd.S k63 63 wr w0.heap.size P0_ (.slice A l0.length c) xs ∧ Below w0.heap.size w0 wr ∧ Kept w wr P0_) (fun kv iv _ => l0.length - (intOf iv).toNat)
 case atStart => exact ⟨k,l0,a1,0,rfl,rfl,Nat.zero_le _,rfl,H,HS0.out,HB0.out,Kept.refl _ _⟩
 case round =>
  obtain ⟨kq,xs,m,i,rfl,rfl,hi,hlen,H2,hS,hB,hK⟩ := hrel;have HS := Aside0.mk hS;have HB := Aside0.mk hB;have HK := Aside0.mk hK;have HL := Aside0.mk hlen;clear hS hB hK hlen
  by_cases hlt : i < l0.length
  ·cases kq with
   | zero => exact absurd H2.out (by simp [laws_markAcctS.l0])
   | succ kq =>
    have h2 := H2.out;simp only [laws_markAcctS.l0] at h2;rw [if_pos (show i < xs.length by rw [HL.out]; exact hlt)] at h2;obtain ⟨tx,ht,h2⟩ := Option.bind_eq_some_iff.mp h2;obtain ⟨⟨m4,ls⟩,hp,h2⟩ := Option.bind_eq_some_iff.mp h2;have HT := Aside0.mk ht;have HP := Aside0.mk hp;have H3 := Aside0.mk h2;clear ht hp h2 H2;obtain ⟨g,cc,eS,hge,hgl,_⟩ := Kd.S_form HS.out (by rw [HL.out]; omega)
    injection eS with eA en ec
    subst eA;subst ec;clear en;have n0 : (0 ≤ (i : Int)) = True := eq_true (by omega);have n1 : ((i : Int) < (l0.length : Int)) = True := eq_true (by omega);have HLT := Aside0.mk hlt;have HI0 := Aside0.mk (show 0 ≤ (i : Int) by omega);have HI1 := Aside0.mk (show (i : Int) < (l0.length : Int) by omega);have HGE := Aside0.mk hge;have HY := Aside0.mk (Kd.S_reads' HS.out).2.2.2.1;have HPG := Aside0.mk (show P0_ g from (Kd.S_R HS.out).1 g rfl);clear hge hgl
    go_upto_region 12 with (go_at_call 74; refine (laws_markText.calls kq m tx _ HT.out).mono ?_; rintro e w1 ⟨rfl,hb⟩; have HS1 := Aside0.mk (Kd.S_below HS.out hb); have HB1 := Aside0.mk (below_step HB.out hb); have HK1 := Aside0.mk (HK.out.below hb); clear hb; obtain ⟨oki,cs,_,hM,hcc,hfr,hoki,hH⟩ := Kd.S_elem HS1.out z63 (i : Int) HI0.out HI1.out; rw [Int.toNat_natCast] at hM; obtain ⟨v4,rfl,hR4⟩ := k63_openM hM; obtain ⟨A4,c4,rfl⟩ := Kd.R_slice hR4; have HH := Aside0.mk hH; have HR4 := Aside0.mk hR4; have HOK := Aside0.mk hoki; have c0 : w1.cell? ⟨g,i * 5,none⟩ = some (.string (xs.getD i z63).f0) := hcc 0 _ rfl; have c1 : w1.cell? ⟨g,i * 5 + 1,none⟩ = some (.int .i64 (xs.getD i z63).f1) := hcc 1 _ rfl; have c2 : w1.cell? ⟨g,i * 5 + 2,none⟩ = some (.int .i64 (xs.getD i z63).f2) := hcc 2 _ rfl; have c3 : w1.cell? ⟨g,i * 5 + 3,none⟩ = some (.int .i64 (xs.getD i z63).f3) := hcc 3 _ rfl; have f0 : w1.frozen? ⟨g,i * 5,none⟩ = false := hfr 0; have f1 : w1.frozen? ⟨g,i * 5 + 1,none⟩ = false := hfr 1; have f2 : w1.frozen? ⟨g,i * 5 + 2,none⟩ = false := hfr 2; have f3 : w1.frozen? ⟨g,i * 5 + 3,none⟩ = false := hfr 3; clear hM hcc hfr hH hR4 hoki)
    have hg := Kd.H_seg HH.out HI0.out HI1.out (seg := [.string tx,.int .i64 (wrap64 (m + 1)),.int .i64 (wrap64 (wrap64 (m + 1) + 1)),.int .i64 (wrap64 (wrap64 (wrap64 (m + 1) + 1) + 1))]) (j := 0) (show 4 ≤ 5 from by decide) (by intro q hq; simp only [List.mem_cons,List.not_mem_nil,or_false] at hq; rcases hq with rfl | rfl | rfl | rfl <;> rfl);have hX : Kd.H k63 63 ((((w1.setCell ⟨g,i * 5,none⟩ (.string tx)).setCell ⟨g,i * 5 + 1,none⟩ (.int .i64 (wrap64 (m + 1)))).setCell ⟨g,i * 5 + 2,none⟩ (.int .i64 (wrap64 (wrap64 (m + 1) + 1)))).setCell ⟨g,i * 5 + 3,none⟩ (.int .i64 (wrap64 (wrap64 (wrap64 (m + 1) + 1) + 1)))) w0.heap.size P0_ (.slice (some ⟨g,0,none⟩) l0.length c) xs (i : Int) oki [.string tx,.int .i64 (wrap64 (m + 1)),.int .i64 (wrap64 (wrap64 (m + 1) + 1)),.int .i64 (wrap64 (wrap64 (wrap64 (m + 1) + 1) + 1)),.slice A4 (xs.getD i z63).f4.length c4] := hg.1;have hG : w1.grownBy ((((w1.setCell ⟨g,i * 5,none⟩ (.string tx)).setCell ⟨g,i * 5 + 1,none⟩ (.int .i64 (wrap64 (m + 1)))).setCell ⟨g,i * 5 + 2,none⟩ (.int .i64 (wrap64 (wrap64 (m + 1) + 1)))).setCell ⟨g,i * 5 + 3,none⟩ (.int .i64 (wrap64 (wrap64 (wrap64 (m + 1) + 1) + 1)))) (some g) := hg.2;have hB4 : Below w0.heap.size w0 ((((w1.setCell ⟨g,i * 5,none⟩ (.string tx)).setCell ⟨g,i * 5 + 1,none⟩ (.int .i64 (wrap64 (m + 1)))).setCell ⟨g,i * 5 + 2,none⟩ (.int .i64 (wrap64 (wrap64 (m + 1) + 1)))).setCell ⟨g,i * 5 + 3,none⟩ (.int .i64 (wrap64 (wrap64 (wrap64 (m + 1) + 1) + 1)))) := below_set (below_set (below_set (below_set HB1.out HGE.out) HGE.out) HGE.out) HGE.out;clear hg c0 c1 c2 c3 f0 f1 f2 f3
    generalize ((((w1.setCell ⟨g,i * 5,none⟩ (.string tx)).setCell ⟨g,i * 5 + 1,none⟩ (.int .i64 (wrap64 (m + 1)))).setCell ⟨g,i * 5 + 2,none⟩ (.int .i64 (wrap64 (wrap64 (m + 1) + 1)))).setCell ⟨g,i * 5 + 3,none⟩ (.int .i64 (wrap64 (wrap64 (wrap64 (m + 1) + 1) + 1)))) = w4 at hX hG hB4 ⊢
    have HX := Aside0.mk hX;have HB4 := Aside0.mk hB4;have HK4 := Aside0.mk (Kept.of_grown hG HK1.out (fun k_ e_ => .inl (by injection e_ with e_; subst e_; exact HPG.out)));have HR44 := Aside0.mk (Kd.R_grown HR4.out hG (fun k_ hk_ e_ => (HOK.out k_ hk_).2 (by injection e_)));obtain ⟨_,_,_,_,_,hcc4,_⟩ := Kd.H_raw hX HI0.out HI1.out;have x4 : w4.cell? ⟨g,i * 5 + 4,none⟩ = some (.slice A4 (xs.getD i z63).f4.length c4) := hcc4 4 _ rfl;have HN := Aside0.mk (laws_markAcctS.next i _ HLT.out (HL.out ▸ HY.out));have HLS := Aside0.mk (show (xs.set i (⟨tx,wrap64 (m + 1),wrap64 (wrap64 (m + 1) + 1),wrap64 (wrap64 (wrap64 (m + 1) + 1) + 1),ls⟩ : S63)).length = l0.length by rw [List.length_set,HL.out]);clear hX hG hB4 hcc4
    go_wp2_with (go_at_call 102; refine (laws_markLeaveS.calls kq oki _ _ _ m4 ls w0 _ HB4.out HR44.out HP.out).mono ?_; rintro e w5 ⟨rfl,hr5,hb5,hk5⟩; have HS5 := Aside0.mk (Kd.H_back (Kd.H_kept HX.out hk5 (fun _ _ hn_ hs_ => hn_ hs_)) (x' := (⟨tx,wrap64 (m + 1),wrap64 (wrap64 (m + 1) + 1),wrap64 (wrap64 (wrap64 (m + 1) + 1) + 1),ls⟩ : S63)) (k63_mkM _ _ _ (⟨tx,wrap64 (m + 1),wrap64 (wrap64 (m + 1) + 1),wrap64 (wrap64 (wrap64 (m + 1) + 1) + 1),ls⟩ : S63) (Kd.R_mono (Kd.R_tight rfl hr5) (fun k_ hk_ => HR44.out.1 k_ hk_.symm))) (fun _ hk_ => hk_)); have HB5 := Aside0.mk hb5; have HK5 := Aside0.mk (HK4.out.then_ hk5 (fun k_ hk_ => .inl (HOK.out k_ hk_).1)); clear hr5 hb5 hk5)
    go_roundw
    case rel => exact ⟨kq,_,m4,i + 1,rfl,by rw [HN.out],HLT.out,HLS.out,H3,HS5.out,HB5.out,HK5.out⟩
    case measure =>
     rw [HN.out];exact laws_markAcctS.meas _ i HLT.out
  ·obtain rfl : i = l0.length := by omega
   have n1 : ((l0.length : Int) < (l0.length : Int)) = False := eq_false (by omega)
   cases kq with
   | zero => exact absurd H2.out (by simp [laws_markAcctS.l0])
   | succ kq =>
    have h2 := H2.out;simp only [laws_markAcctS.l0] at h2;rw [if_neg (by rw [HL.out]; exact Nat.lt_irrefl _)] at h2
    obtain ⟨rfl,rfl⟩ : m = r1 ∧ xs = r2 := by injection h2 with h2; injection h2 with h3 h4; exact ⟨h3,h4⟩
    clear h2;go_wp2;go_ret;exact ⟨rfl,HS.out,HB.out,HK.out⟩

/-! ### laws_markLedger: function 20 -/
set_option maxHeartbeats 8000000 in
set_option maxRecDepth 100000 in
theorem laws_markLedger.calls (k : Nat) (P0_ : Nat → Prop) (u0_ : Value) (a0 : Int) (l0 : List S63) (a1 : Int) (r1 : Int) (r2 : List S63) (w0 w : World) (hB : Below w0.heap.size w0 w) (ho0 : Kd.S k63 63 w w0.heap.size P0_ u0_ l0) (h : laws_markAcctS.f k l0 a1 = some (r1,r2)) :
  Calls Try.prog 20 #[.agg #[.int .i64 a0,u0_],.int .i64 a1] w fun e w' => e = .returned (.int .i64 r1) ∧ Kd.S k63 63 w' w0.heap.size P0_ u0_ r2 ∧ Below w0.heap.size w0 w' ∧ Kept w w' P0_ := by
 obtain ⟨A,c,rfl⟩ := Kd.S_slice ho0;have HS1 := Aside0.mk (Kd.S_alloc ho0 (.cells #[.int .i64 a0,.slice A l0.length c] 31 (0,0)));have HB1 := Aside0.mk (below_alloc hB (.cells #[.int .i64 a0,.slice A l0.length c] 31 (0,0)));have HK1 := Aside0.mk ((Kept.refl w P0_).alloc (.cells #[.int .i64 a0,.slice A l0.length c] 31 (0,0)));have H := Aside0.mk h;clear ho0 hB h;go_enter Try.func20,Try.ntmps20
 go_wp2_with (go_at_call 55; refine (laws_markAcctS.calls k P0_ _ _ _ r1 r2 w0 _ HB1.out HS1.out H.out).mono ?_; rintro e w2 ⟨rfl,hs,hb,hk⟩; have HS2 := Aside0.mk hs; have HB2 := Aside0.mk hb; have HK2 := Aside0.mk (HK1.out.then_ hk (fun _ hk_ => .inl hk_)); clear hs hb hk)
 go_ret;exact ⟨rfl,HS2.out,HB2.out,HK2.out⟩

end Go.Proofs.Ytcbpfofkdipjhaa.PJ
