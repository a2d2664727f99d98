/- The machine's side of Go functions: each as a plain function,and that the call does what it says. Written by a program (wip/mprint). -/
import Derived.Test.YtcbpfofkdipjhaaAQPMx0
import Derived.Test.YtcbpfofkdipjhaaAQPMx1
import Derived.Test.YtcbpfofkdipjhaaAQPMx3
namespace Go.Proofs.Ytcbpfofkdipjhaa.PM
open Go.RowKit Go.Proofs.YtcbpfofkdipjhaaW.PrintWords Go.Proofs.YtcbpfofkdipjhaaW.PrintLast Go.Proofs.YtcbpfofkdipjhaaW.PrintMore
attribute [local wf_preprocess] Act.put List.setIfInBounds_toArray List.set_cons_zero List.set_cons_succ i64_w i32_w
attribute [local go_sem] max2_int min2_int max_two min_two max_three min_three max_four min_four   -- for this text's walks alone
set_option linter.unusedVariables false
set_option linter.unusedSimpArgs false

/-! ### spec_LedgerOk: function 47 -/
def spec_LedgerOk.f (k : Nat) (a0_0 : Int) (l0_1 : List (S63)) : Option (Bool) := (spec_l1In.f a0_0 0 900).bind fun t124 => (if t124 = true then ((spec_AcctsOk.f k l0_1).bind fun t125 => (some t125)) else (some false))
set_option maxHeartbeats 8000000 in
set_option maxRecDepth 100000 in
theorem spec_LedgerOk.calls (k : Nat) (a0_0 : Int) (A0_1 : Option Addr) (c0_1 : Nat) (l0_1 : List (S63)) (r : Bool) (w : World) (hr0_1 : Kd.C k63 w A0_1 l0_1.length l0_1) (hc0_1 : l0_1.length ≤ c0_1) (h : spec_LedgerOk.f k a0_0 l0_1 = some r) :
  Calls Try.prog 47 #[.agg #[.int .i64 a0_0,.slice A0_1 l0_1.length c0_1]] w fun e w' => e = .returned (.bool r) ∧ Below w.heap.size w w' := by
 have hu31 := Try.underlying31;have HR0_1 := Aside0.mk hr0_1;have HC0_1 := Aside0.mk hc0_1;clear hr0_1 hc0_1;have HB := Aside0.mk (Below.refl w.heap.size w);have H : ((spec_l1In.f a0_0 0 900).bind fun t124 => (if t124 = true then ((spec_AcctsOk.f k l0_1).bind fun t125 => (some t125)) else (some false))) = some r := h;clear h;replace H := Option.bind_eq_some_iff.mp H;obtain ⟨t124,A20,H⟩ := H;replace H : (if t124 = true then ((spec_AcctsOk.f k l0_1).bind fun t125 => (some t125)) else (some false)) = some r := H;have A2 := Aside0.mk A20;clear A20
 by_cases c3 : t124 = true
 ·subst c3
  rw [if_pos rfl] at H
  replace H := Option.bind_eq_some_iff.mp H;obtain ⟨t125,A40,H⟩ := H;replace H : (some t125) = some r := H;have A4 := Aside0.mk A40;clear A40;obtain rfl := Option.some.inj H;go_enter Try.func47,Try.ntmps47
  go_wp2_with (first | ((with_reducible refine gate_dst (N := 1) rfl ?_); refine box_event ?hg (N := 1) ?hd (cs := #[.int .i64 a0_0,.slice A0_1 l0_1.length c0_1]) (t := 31) ?hr ?_; (case hd => rfl); (case hg => rfl); (case hr => (go_simp; done)); intro gb123 hg w5 hbox hb; have n0_ := Aside0.mk (below_step HB.out hb); have n1_ := Aside0.mk (hbox); have n2_ := Aside0.mk (by rw [hg]; exact (below_size HB.out) : w.heap.size ≤ gb123); have n3_ := Aside0.mk (by rw [hg]; exact (below_size HB.out) : w.heap.size ≤ gb123); clear HB; have HB := n0_; have BK123 := n1_; have GW123 := n2_; have GE123 := n3_; clear n0_ n1_ n2_ n3_; clear hb hbox hg; have hcz6_0 : w5.cell? ⟨gb123,0,none⟩ = some (.int .i64 a0_0) := (blk_cell BK123.out 0).trans rfl; have hcz6_1 : w5.cell? ⟨gb123,1,none⟩ = some (.slice A0_1 l0_1.length c0_1) := (blk_cell BK123.out 1).trans rfl; have hfz6_0 := blk_frozen BK123.out 0; have hfz6_1 := blk_frozen BK123.out 1) | ((with_reducible refine gate_callee (f := 91) rfl ?_); refine goesL_ (some 5) rfl rfl Try.func91 (by kernel_rfl) rfl #[.int .i64 a0_0,.int .i64 0,.int .i64 900] rfl (by (try simp only [List.map_toArray,List.map_cons,List.map_nil]); rfl) ?_; (with_reducible refine (spec_l1In.calls a0_0 0 900 true _ A2.out).mono ?_); rintro e w' ⟨rfl,⟨nd,rfl⟩⟩; refine ⟨_,rfl,?_⟩) | (go_at_call 89; (with_reducible refine (spec_AcctsOk.calls k _ _ l0_1 t125 _ ?side1 ?side2 A4.out).mono ?_); (case side1 => repeat (exact (Kd.C_below HR0_1.out (by repeat (with_reducible first | exact HB.out | apply pw_below_drewN))))); (case side2 => exact HC0_1.out); rintro e w7 ⟨rfl,hb⟩; have n0_ := Aside0.mk (blk_below (g := gb123) (o := .cells #[.int .i64 a0_0,.slice A0_1 l0_1.length c0_1] 31 (0,0)) (by (with_reducible repeat (refine blk_drewN ?_ _)); exact BK123.out) hb); have n1_ := Aside0.mk (below_step (by repeat (with_reducible first | exact HB.out | apply pw_below_drewN)) hb); clear BK123; clear HB; have BK123 := n0_; have HB := n1_; clear n0_ n1_; (try clear hb); skip))
  go_ret;exact ⟨by rfl,HB.out⟩
 ·replace c3 := Bool.eq_false_iff.mpr c3;subst c3
  rw [if_neg (show ¬ (false = true) by decide)] at H
  obtain rfl := Option.some.inj H;go_enter Try.func47,Try.ntmps47
  go_wp2_with (first | ((with_reducible refine gate_dst (N := 1) rfl ?_); refine box_event ?hg (N := 1) ?hd (cs := #[.int .i64 a0_0,.slice A0_1 l0_1.length c0_1]) (t := 31) ?hr ?_; (case hd => rfl); (case hg => rfl); (case hr => (go_simp; done)); intro gb123 hg w8 hbox hb; have n0_ := Aside0.mk (below_step HB.out hb); have n1_ := Aside0.mk (hbox); have n2_ := Aside0.mk (by rw [hg]; exact (below_size HB.out) : w.heap.size ≤ gb123); have n3_ := Aside0.mk (by rw [hg]; exact (below_size HB.out) : w.heap.size ≤ gb123); clear HB; have HB := n0_; have BK123 := n1_; have GW123 := n2_; have GE123 := n3_; clear n0_ n1_ n2_ n3_; clear hb hbox hg; have hcz9_0 : w8.cell? ⟨gb123,0,none⟩ = some (.int .i64 a0_0) := (blk_cell BK123.out 0).trans rfl; have hcz9_1 : w8.cell? ⟨gb123,1,none⟩ = some (.slice A0_1 l0_1.length c0_1) := (blk_cell BK123.out 1).trans rfl; have hfz9_0 := blk_frozen BK123.out 0; have hfz9_1 := blk_frozen BK123.out 1) | ((with_reducible refine gate_callee (f := 91) rfl ?_); refine goesL_ (some 5) rfl rfl Try.func91 (by kernel_rfl) rfl #[.int .i64 a0_0,.int .i64 0,.int .i64 900] rfl (by (try simp only [List.map_toArray,List.map_cons,List.map_nil]); rfl) ?_; (with_reducible refine (spec_l1In.calls a0_0 0 900 false _ A2.out).mono ?_); rintro e w' ⟨rfl,⟨nd,rfl⟩⟩; refine ⟨_,rfl,?_⟩))
  go_ret;exact ⟨by rfl,by repeat (with_reducible first | exact HB.out | apply pw_below_drewN)⟩

/-! ### spec_l4Copy: function 92 -/
def spec_l4Copy.l0 : Nat → List (S63) → List (S63) → Int → Option (List (S63))
 | 0,_,_,_ => none
 | k + 1,x0,x3,x4 => if x4 < (x0.length : Int) then (if 0 ≤ x4 then ((some (([] : List (S65)) : List (S65))).bind fun y131 => (if y131.length + ((rd_T63 x0 x4).f4).length < 8796093022208 then (if x3.length < 2199023255552 then (spec_l4Copy.l0 k x0 (x3 ++ [(⟨(rd_T63 x0 x4).f0,(rd_T63 x0 x4).f1,(rd_T63 x0 x4).f2,(rd_T63 x0 x4).f3,(y131 ++ ((rd_T63 x0 x4).f4))⟩ : S63)]) (wrap64 (x4 + 1))) else (none)) else (none))) else (none)) else (some x3)
def spec_l4Copy.f (k : Nat) (l0 : List (S63)) : Option (List (S63)) := spec_l4Copy.l0 k l0 ([] : List (S63)) 0
set_option maxHeartbeats 8000000 in
set_option maxRecDepth 100000 in
theorem spec_l4Copy.calls (k : Nat) (A0 : Option Addr) (c0 : Nat) (l0 : List (S63)) (r : List (S63)) (w : World) (hr0 : Kd.C k63 w A0 l0.length l0) (hc0 : l0.length ≤ c0) (h : spec_l4Copy.f k l0 = some r) :
  Calls Try.prog 92 #[.slice A0 l0.length c0] w fun e w' => ∃ v0_ : Value,e = .returned (v0_) ∧ Kd.S k63 63 w' w.heap.size (fun _ => True) v0_ r ∧ Below w.heap.size w w' := by
 have hu63 := Try.underlying63;have HR0 := Aside0.mk hr0;have HC0 := Aside0.mk hc0;clear hr0 hc0;have HB := Aside0.mk (Below.refl w.heap.size w);have H : (spec_l4Copy.l0 k l0 ([] : List (S63)) 0) = some r := h;clear h;obtain ⟨y126,hy126⟩ : ∃ y_ : List (S63),y_ = ([] : List (S63)) := ⟨_,rfl⟩
 replace H : (spec_l4Copy.l0 k l0 y126 0) = some r := by (rw [hy126]; with_reducible exact H)
 have Ny126 := Aside0.mk hy126;clear hy126;have H' := Aside0.mk H;clear H;go_enter Try.func92,Try.ntmps92
 go_wp2_with (((with_reducible refine gate_dst (N := 6) rfl ?_); refine Kd.S_lit k63 _ 63 ?hg (N := 6) ?hd (xs := ([] : List (S63))) (inner := []) (ok := fun _ => True) (okp := fun _ => True) ?hr ?hp (fun _ hk => hk) trivial (Below.refl _ _) (Nat.le_refl _) (by simp) ?_; (case hd => rfl); (case hg => rfl); (case hr => (go_simp; done)); (case hp => exact (Reps.none _ _)); intro v127 w2 ho3 hb hg_ hnew_; clear hg_ hnew_; (rw [← Ny126.out] at ho3); have n0_ := Aside0.mk (Kd.S_lower ho3 (below_size HB.out)); have n1_ := Aside0.mk (below_step HB.out hb); clear HB; have HO128 := n0_; have HB := n1_; clear n0_ n1_; clear hb ho3))
 go_loopg [3,4] k (fun kq v3 v4 w' => ∃ (x3_1 : List (S63)) (x4_1 : Int),v4 = .int .i64 x4_1 ∧ Aside0 (spec_l4Copy.l0 kq l0 x3_1 x4_1 = some r) ∧ Aside0 (kq ≤ k) ∧ Aside0 (Kd.S k63 63 w' w.heap.size (fun _ => True) v3 x3_1) ∧ Aside0 (Below w.heap.size w w'))
 case atStart => exact ⟨(y126),(0),(by rfl),H',⟨Nat.le_refl _⟩,⟨by exact HO128.out⟩,⟨HB.out⟩⟩
 case round =>
  clear H'
  try clear p2
  obtain ⟨x3_1,x4_1,rfl,HA,HK1,HO_3,HB⟩ := hrel
  cases gk with
  | zero => exact absurd HA.out (by simp [spec_l4Copy.l0])
  | succ k1 =>
   have H := HA.out;clear HA;simp only [spec_l4Copy.l0] at H
   by_cases c4 : x4_1 < (l0.length : Int)
   ·rw [if_pos c4] at H;have c4b0 : decide (x4_1 < (l0.length : Int)) = true := decide_eq_true c4;clear c4
    by_cases c5 : 0 ≤ x4_1
    ·rw [if_pos c5] at H;have c5b0 : decide (0 ≤ x4_1) = true := decide_eq_true c5;clear c5;obtain ⟨y131,hy131⟩ : ∃ y_ : List (S65),y_ = ([] : List (S65)) := ⟨_,rfl⟩
     replace H : (if y131.length + ((rd_T63 l0 x4_1).f4).length < 8796093022208 then (if x3_1.length < 2199023255552 then (spec_l4Copy.l0 k1 l0 (x3_1 ++ [(⟨(rd_T63 l0 x4_1).f0,(rd_T63 l0 x4_1).f1,(rd_T63 l0 x4_1).f2,(rd_T63 l0 x4_1).f3,(y131 ++ ((rd_T63 l0 x4_1).f4))⟩ : S63)]) (wrap64 (x4_1 + 1))) else (none)) else (none)) = some r := by (have H2_ := (Option.bind_some _ _).symm.trans H; rw [hy131]; with_reducible exact H2_)
     have Ny131 := Aside0.mk hy131;clear hy131
     by_cases c6 : y131.length + ((rd_T63 l0 x4_1).f4).length < 8796093022208
     ·rw [if_pos c6] at H;have LMc6 := Aside0.mk c6;clear c6;obtain ⟨y134,hy134⟩ : ∃ y_ : List (S65),y_ = (y131 ++ ((rd_T63 l0 x4_1).f4)) := ⟨_,rfl⟩
      replace H : (if x3_1.length < 2199023255552 then (spec_l4Copy.l0 k1 l0 (x3_1 ++ [(⟨(rd_T63 l0 x4_1).f0,(rd_T63 l0 x4_1).f1,(rd_T63 l0 x4_1).f2,(rd_T63 l0 x4_1).f3,y134⟩ : S63)]) (wrap64 (x4_1 + 1))) else (none)) = some r := by (rw [hy134]; with_reducible exact H)
      have Ny134 := Aside0.mk hy134;clear hy134
      by_cases c7 : x3_1.length < 2199023255552
      ·rw [if_pos c7] at H;have LMc7 := Aside0.mk c7;clear c7;obtain ⟨y137,hy137⟩ : ∃ y_ : List (S63),y_ = (x3_1 ++ [(⟨(rd_T63 l0 x4_1).f0,(rd_T63 l0 x4_1).f1,(rd_T63 l0 x4_1).f2,(rd_T63 l0 x4_1).f3,y134⟩ : S63)]) := ⟨_,rfl⟩
       replace H : (spec_l4Copy.l0 k1 l0 y137 (wrap64 (x4_1 + 1))) = some r := by (rw [hy137]; with_reducible exact H)
       have Ny137 := Aside0.mk hy137;clear hy137;have H' := Aside0.mk H;clear H;have p129 : 0 ≤ (x4_1 : Int) := of_decide_eq_true (by (with_reducible assumption));have q129 : x4_1 < (l0.length : Int) := of_decide_eq_true (by (with_reducible assumption));obtain ⟨ad129,A129_4,c129_4,e129,hx129_0,hx129_1,hx129_2,hx129_3,hx129_4,hl129_4,hi129_4⟩ := at_T63 HR0.out x4_1 p129 q129
       cases e129
       replace hx129_0 := up_ HB.out hx129_0;replace hx129_1 := up_ HB.out hx129_1;replace hx129_2 := up_ HB.out hx129_2;replace hx129_3 := up_ HB.out hx129_3;replace hx129_4 := up_ HB.out hx129_4;have HR129_4 := Aside0.mk hi129_4;have HC129_4 := Aside0.mk hl129_4;clear hi129_4 hl129_4;replace p129 := eq_true p129;replace q129 := eq_true q129
       go_wp2_with (first | ((with_reducible refine gate_dst (N := 5) rfl ?_); refine box_event ?hg (N := 5) ?hd (cs := #[.string (⟨#[]⟩ : ByteArray),.int .i64 0,.int .i64 0,.int .i64 0,.slice none 0 0]) (t := 63) ?hr ?_; (case hd => rfl); (case hg => rfl); (case hr => (go_simp; done)); intro gb130 hg w8 hbox hb; have n0_ := Aside0.mk (Kd.S_below (Kd.S_elderB (by exact HO_3.out) gb130 (Nat.le_of_eq hg.symm)) hb); have n1_ := Aside0.mk (below_step HB.out hb); have n2_ := Aside0.mk (hbox); have n3_ := Aside0.mk (by rw [hg]; exact (below_size HB.out) : w.heap.size ≤ gb130); have n4_ := Aside0.mk (by rw [hg]; exact (below_size HB.out) : w.heap.size ≤ gb130); clear HO_3; clear HB; have HO_3 := n0_; have HB := n1_; have BK130 := n2_; have GW130 := n3_; have GE130 := n4_; clear n0_ n1_ n2_ n3_ n4_; clear hb hbox hg; have hcz9_0 : w8.cell? ⟨gb130,0,none⟩ = some (.string (⟨#[]⟩ : ByteArray)) := (blk_cell BK130.out 0).trans rfl; have hcz9_1 : w8.cell? ⟨gb130,1,none⟩ = some (.int .i64 0) := (blk_cell BK130.out 1).trans rfl; have hcz9_2 : w8.cell? ⟨gb130,2,none⟩ = some (.int .i64 0) := (blk_cell BK130.out 2).trans rfl; have hcz9_3 : w8.cell? ⟨gb130,3,none⟩ = some (.int .i64 0) := (blk_cell BK130.out 3).trans rfl; have hcz9_4 : w8.cell? ⟨gb130,4,none⟩ = some (.slice none 0 0) := (blk_cell BK130.out 4).trans rfl; have hfz9_0 := blk_frozen BK130.out 0; have hfz9_1 := blk_frozen BK130.out 1; have hfz9_2 := blk_frozen BK130.out 2; have hfz9_3 := blk_frozen BK130.out 3; have hfz9_4 := blk_frozen BK130.out 4) | ((with_reducible refine gate_dst (N := 17) rfl ?_); refine Kd.R_lit k65 _ 65 ?hg (N := 17) ?hd (xs := ([] : List (S65))) (inner := []) (ok := fun _ => True) (okp := fun _ => True) ?hr ?hp (fun _ hk => hk) trivial (Below.refl _ _) (Nat.le_refl _) (by simp) ?_; (case hd => rfl); (case hg => rfl); (case hr => (go_simp; done)); (case hp => exact (Reps.none _ _)); intro v132 w10 ho11 hb hg_ hnew_; clear hg_ hnew_; (rw [← Ny131.out] at ho11); have n0_ := Aside0.mk (Kd.S_elder' (by exact (Kd.S_mono (Kd.S_far (p := ⟨gb130,4,none⟩) (Kd.S_far (p := ⟨gb130,3,none⟩) (Kd.S_far (p := ⟨gb130,2,none⟩) (Kd.S_far (p := ⟨gb130,1,none⟩) (Kd.S_far (p := ⟨gb130,0,none⟩) (Kd.S_mono HO_3.out (fun k_ hk => (⟨hk,hk.2⟩ : _ ∧ k_ ≠ gb130))) (fun _ hk => hk.2) (.string ((rd_T63 l0 x4_1).f0))) (fun _ hk => hk.2) (.int .i64 ((rd_T63 l0 x4_1).f1))) (fun _ hk => hk.2) (.int .i64 ((rd_T63 l0 x4_1).f2))) (fun _ hk => hk.2) (.int .i64 ((rd_T63 l0 x4_1).f3))) (fun _ hk => hk.2) (.slice A129_4 ((rd_T63 l0 x4_1).f4).length c129_4)) (fun _ h_ => h_.1))) (Kd.R_base ho11) hb); have n1_ := Aside0.mk (Kd.R_lower ho11 (below_size (by repeat (with_reducible first | exact HB.out | refine below_set ?_ GE130.out)))); have n2_ := Aside0.mk (blk_below (g := gb130) (o := .cells #[.string ((rd_T63 l0 x4_1).f0),.int .i64 ((rd_T63 l0 x4_1).f1),.int .i64 ((rd_T63 l0 x4_1).f2),.int .i64 ((rd_T63 l0 x4_1).f3),.slice A129_4 ((rd_T63 l0 x4_1).f4).length c129_4] 63 (0,0)) (by refine blk_put (cs := #[.string ((rd_T63 l0 x4_1).f0),.int .i64 ((rd_T63 l0 x4_1).f1),.int .i64 ((rd_T63 l0 x4_1).f2),.int .i64 ((rd_T63 l0 x4_1).f3),.slice none 0 0]) ?_ 4 _ rfl; refine blk_put (cs := #[.string ((rd_T63 l0 x4_1).f0),.int .i64 ((rd_T63 l0 x4_1).f1),.int .i64 ((rd_T63 l0 x4_1).f2),.int .i64 0,.slice none 0 0]) ?_ 3 _ rfl; refine blk_put (cs := #[.string ((rd_T63 l0 x4_1).f0),.int .i64 ((rd_T63 l0 x4_1).f1),.int .i64 0,.int .i64 0,.slice none 0 0]) ?_ 2 _ rfl; refine blk_put (cs := #[.string ((rd_T63 l0 x4_1).f0),.int .i64 0,.int .i64 0,.int .i64 0,.slice none 0 0]) ?_ 1 _ rfl; refine blk_put (cs := #[.string (⟨#[]⟩ : ByteArray),.int .i64 0,.int .i64 0,.int .i64 0,.slice none 0 0]) ?_ 0 _ rfl; exact BK130.out) hb); have n3_ := Aside0.mk (below_step (by repeat (with_reducible first | exact HB.out | refine below_set ?_ GE130.out)) hb); clear HO_3; clear BK130; clear HB; have HO_3 := n0_; have HO133 := n1_; have BK130 := n2_; have HB := n3_; clear n0_ n1_ n2_ n3_; clear hb ho11; have hcz12_0 : w10.cell? ⟨gb130,0,none⟩ = some (.string ((rd_T63 l0 x4_1).f0)) := (blk_cell BK130.out 0).trans rfl; have hcz12_1 : w10.cell? ⟨gb130,1,none⟩ = some (.int .i64 ((rd_T63 l0 x4_1).f1)) := (blk_cell BK130.out 1).trans rfl; have hcz12_2 : w10.cell? ⟨gb130,2,none⟩ = some (.int .i64 ((rd_T63 l0 x4_1).f2)) := (blk_cell BK130.out 2).trans rfl; have hcz12_3 : w10.cell? ⟨gb130,3,none⟩ = some (.int .i64 ((rd_T63 l0 x4_1).f3)) := (blk_cell BK130.out 3).trans rfl; have hcz12_4 : w10.cell? ⟨gb130,4,none⟩ = some (.slice A129_4 ((rd_T63 l0 x4_1).f4).length c129_4) := (blk_cell BK130.out 4).trans rfl; have hfz12_0 := blk_frozen BK130.out 0; have hfz12_1 := blk_frozen BK130.out 1; have hfz12_2 := blk_frozen BK130.out 2; have hfz12_3 := blk_frozen BK130.out 3; have hfz12_4 := blk_frozen BK130.out 4) | ((with_reducible refine gate_builtin (b := .append) (xs := #[.tmp 17,.tmp 19]) rfl ?_); at_builtin; refine Kd.R_append_rows k65 (w0 := w) w.heap.size rfl (.tmp 17) (.tmp 19) 61 65 (.agg #[(.int .i64 0),(.int .i64 0)]) 16 rfl Try.underlying61 info65 rfl (by decide) (by omega) v132 y131 ((rd_T63 l0 x4_1).f4) _ _ _ (fun _ => True) (fun _ => False) rfl rfl ?aO ?aR (fun _ _ h => h) (fun _ h => h.elim) ?aF ?aB ?aS ?aL ?_; (case aR => repeat (exact (Kd.C_below HR129_4.out HB.out))); (case aB => exact HB.out); (case aF => exact (fun _ _ => trivial)); (case aO => exact (by exact HO133.out)); (case aS => exact (below_size HB.out)); (case aL => have := LMc6.out; omega); intro v135 w13 ho hb hg hat; rw [← Ny134.out] at ho; have n0_ := Aside0.mk (Kd.S_after (ok := (fun k_ => k_ ≠ gb130)) (by exact Kd.S_mono HO_3.out (fun _ hk => ⟨hk.1.2,hk.2⟩)) hg hat); have n1_ := Aside0.mk (blk_grown (g := gb130) (o := .cells #[.string ((rd_T63 l0 x4_1).f0),.int .i64 ((rd_T63 l0 x4_1).f1),.int .i64 ((rd_T63 l0 x4_1).f2),.int .i64 ((rd_T63 l0 x4_1).f3),.slice A129_4 ((rd_T63 l0 x4_1).f4).length c129_4] 63 (0,0)) (by exact BK130.out) hg (Kd.R_ne HO133.out BK130.out (by decide))); have n2_ := Aside0.mk (hb); have n3_ := Aside0.mk (ho); clear HO_3; clear BK130; clear HB; clear HO133; have HO_3 := n0_; have BK130 := n1_; have HB := n2_; have HO136 := n3_; clear n0_ n1_ n2_ n3_; clear ho hb hg hat; obtain ⟨Ao14,co14,eo14⟩ := Kd.R_slice HO136.out; subst eo14; have hcz15_0 : w13.cell? ⟨gb130,0,none⟩ = some (.string ((rd_T63 l0 x4_1).f0)) := (blk_cell BK130.out 0).trans rfl; have hcz15_1 : w13.cell? ⟨gb130,1,none⟩ = some (.int .i64 ((rd_T63 l0 x4_1).f1)) := (blk_cell BK130.out 1).trans rfl; have hcz15_2 : w13.cell? ⟨gb130,2,none⟩ = some (.int .i64 ((rd_T63 l0 x4_1).f2)) := (blk_cell BK130.out 2).trans rfl; have hcz15_3 : w13.cell? ⟨gb130,3,none⟩ = some (.int .i64 ((rd_T63 l0 x4_1).f3)) := (blk_cell BK130.out 3).trans rfl; have hcz15_4 : w13.cell? ⟨gb130,4,none⟩ = some (.slice A129_4 ((rd_T63 l0 x4_1).f4).length c129_4) := (blk_cell BK130.out 4).trans rfl; have hfz15_0 := blk_frozen BK130.out 0; have hfz15_1 := blk_frozen BK130.out 1; have hfz15_2 := blk_frozen BK130.out 2; have hfz15_3 := blk_frozen BK130.out 3; have hfz15_4 := blk_frozen BK130.out 4) | ((with_reducible refine gate_store (t := 61) (p := 21) rfl ?_); refine store_event (t := 61) (p := 21) (v := ?vo_w16) (w1 := (w13.setCell ⟨gb130,4,none⟩ (.slice Ao14 y134.length co14))) ?hg ?ho ?hn ?hr ?_; (case ho => rfl); (case hg => rfl); (case hn => rfl); (case hr => (go_simp; done)); intro w16 hw; have n0_ : Aside0 (Kd.S k63 63 w16 w.heap.size (fun k_ => some k_ ≠ (.slice Ao14 y134.length co14 : Value).ownBlock ∧ k_ ≠ gb130) u3 x3_1) := ⟨(by rw [hw]; exact (by exact Kd.S_mono (Kd.S_far (p := ⟨gb130,4,none⟩) (Kd.S_mono HO_3.out (fun k_ hk => (⟨hk,hk.1⟩ : _ ∧ k_ ≠ gb130))) (fun _ hk => hk.2) (.slice Ao14 y134.length co14)) (fun _ hk => ⟨hk.1.2,hk.1.1⟩)))⟩; have n1_ : Aside0 (Kd.R k65 65 w16 w.heap.size (fun _ => True) (.slice Ao14 y134.length co14) y134) := ⟨(by rw [hw]; exact (by exact Kd.R_mono (Kd.R_far (p := ⟨gb130,4,none⟩) (Kd.R_types HO136.out BK130.out (by decide)) (fun _ hk => hk.2) (.slice Ao14 y134.length co14)) (fun _ hk => trivial)))⟩; have n2_ : Aside0 (w16.heap[gb130]? = some (.cells #[.string ((rd_T63 l0 x4_1).f0),.int .i64 ((rd_T63 l0 x4_1).f1),.int .i64 ((rd_T63 l0 x4_1).f2),.int .i64 ((rd_T63 l0 x4_1).f3),.slice Ao14 y134.length co14] 63 (0,0))) := ⟨(by rw [hw]; exact (by refine blk_put (cs := #[.string ((rd_T63 l0 x4_1).f0),.int .i64 ((rd_T63 l0 x4_1).f1),.int .i64 ((rd_T63 l0 x4_1).f2),.int .i64 ((rd_T63 l0 x4_1).f3),.slice A129_4 ((rd_T63 l0 x4_1).f4).length c129_4]) ?_ 4 _ rfl; exact BK130.out))⟩; have n3_ : Aside0 (Below w.heap.size w w16) := ⟨(by rw [hw]; exact (by repeat (with_reducible first | exact HB.out | refine below_set ?_ GE130.out)))⟩; clear hw; clear HO_3; clear HO136; clear BK130; clear HB; have HO_3 := n0_; have HO136 := n1_; have BK130 := n2_; have HB := n3_; clear n0_ n1_ n2_ n3_; have hcz17_0 : w16.cell? ⟨gb130,0,none⟩ = some (.string ((rd_T63 l0 x4_1).f0)) := (blk_cell BK130.out 0).trans rfl; have hcz17_1 : w16.cell? ⟨gb130,1,none⟩ = some (.int .i64 ((rd_T63 l0 x4_1).f1)) := (blk_cell BK130.out 1).trans rfl; have hcz17_2 : w16.cell? ⟨gb130,2,none⟩ = some (.int .i64 ((rd_T63 l0 x4_1).f2)) := (blk_cell BK130.out 2).trans rfl; have hcz17_3 : w16.cell? ⟨gb130,3,none⟩ = some (.int .i64 ((rd_T63 l0 x4_1).f3)) := (blk_cell BK130.out 3).trans rfl; have hcz17_4 : w16.cell? ⟨gb130,4,none⟩ = some (.slice Ao14 y134.length co14) := (blk_cell BK130.out 4).trans rfl; have hfz17_0 := blk_frozen BK130.out 0; have hfz17_1 := blk_frozen BK130.out 1; have hfz17_2 := blk_frozen BK130.out 2; have hfz17_3 := blk_frozen BK130.out 3; have hfz17_4 := blk_frozen BK130.out 4) | ((with_reducible refine gate_builtin (b := .append) (xs := #[.tmp 22,.tmp 24]) rfl ?_); at_builtin; refine Kd.S_append k63 (w0 := w) w.heap.size rfl (.tmp 22) (.tmp 24) 29 63 (.agg #[(.string ⟨#[]⟩),(.int .i64 0),(.int .i64 0),(.int .i64 0),(.slice none 0 0)]) 64 rfl Try.underlying29 info63 rfl (by decide) (by omega) u3 x3_1 (⟨(rd_T63 l0 x4_1).f0,(rd_T63 l0 x4_1).f1,(rd_T63 l0 x4_1).f2,(rd_T63 l0 x4_1).f3,y134⟩ : S63) [.string ((rd_T63 l0 x4_1).f0),.int .i64 ((rd_T63 l0 x4_1).f1),.int .i64 ((rd_T63 l0 x4_1).f2),.int .i64 ((rd_T63 l0 x4_1).f3),.slice Ao14 y134.length co14] (fun k_ => k_ ≠ gb130) (fun k_ => some k_ = (.slice Ao14 y134.length co14 : Value).ownBlock) rfl rfl ?aP (fun k_ hk_ => (Kd.R_mono (ok' := fun k_ => (fun k_ => k_ ≠ gb130) k_ ∧ some k_ ≠ (u3 : Value).ownBlock) (Kd.R_types (Kd.R_apart' (HO136.out) (Kd.S_typed HO_3.out) (by decide)) BK130.out (by decide)) (fun k_ hk => ⟨hk.2,hk.1.2⟩)).1 k_ hk_.symm) ?aF ?aO ?aB ?aS ?aL ?_; (case aP => exact k63_mkM _ _ _ (⟨(rd_T63 l0 x4_1).f0,(rd_T63 l0 x4_1).f1,(rd_T63 l0 x4_1).f2,(rd_T63 l0 x4_1).f3,y134⟩ : S63) (Kd.R_mono (Kd.R_tight rfl (Kd.R_mono (ok' := fun k_ => (fun k_ => k_ ≠ gb130) k_ ∧ some k_ ≠ (u3 : Value).ownBlock) (Kd.R_types (Kd.R_apart' (HO136.out) (Kd.S_typed HO_3.out) (by decide)) BK130.out (by decide)) (fun k_ hk => ⟨hk.2,hk.1.2⟩))) (fun _ h_ => h_))); (case aB => exact HB.out); (case aF => exact (fun k_ hk => Kd.freshB (g := gb130) (o := .cells #[.string ((rd_T63 l0 x4_1).f0),.int .i64 ((rd_T63 l0 x4_1).f1),.int .i64 ((rd_T63 l0 x4_1).f2),.int .i64 ((rd_T63 l0 x4_1).f3),.slice Ao14 y134.length co14] 63 (0,0)) (by exact BK130.out) k_ hk)); (case aO => exact (by exact Kd.S_mono HO_3.out (fun k_ hk => ⟨hk.2,fun e_ => hk.1 e_⟩))); (case aS => exact (below_size HB.out)); (case aL => have := LMc7.out; omega); intro v138 w18 ho hb hg hat; rw [← Ny137.out] at ho; have n0_ := Aside0.mk (blk_grown (g := gb130) (o := .cells #[.string ((rd_T63 l0 x4_1).f0),.int .i64 ((rd_T63 l0 x4_1).f1),.int .i64 ((rd_T63 l0 x4_1).f2),.int .i64 ((rd_T63 l0 x4_1).f3),.slice Ao14 y134.length co14] 63 (0,0)) (by exact BK130.out) hg (Kd.S_away HO_3.out (fun _ hk => hk.2))); have n1_ := Aside0.mk (hb); have n2_ := Aside0.mk (ho); clear BK130; clear HB; clear HO_3; clear HO136; have BK130 := n0_; have HB := n1_; have HO139 := n2_; clear n0_ n1_ n2_; clear ho hb hg hat))
       go_roundg k1
       case measure => have := HK1.out; omega
       case rel => exact ⟨(y137),(wrap64 (x4_1 + 1)),(by rfl),H',⟨by have := HK1.out; omega⟩,⟨by exact Kd.S_mono HO139.out (fun _ hk => trivial)⟩,⟨HB.out⟩⟩
      ·rw [if_neg c7] at H;exact absurd H (by simp)
     ·rw [if_neg c6] at H;exact absurd H (by simp)
    ·rw [if_neg c5] at H;exact absurd H (by simp)
   ·rw [if_neg c4] at H;have c4b0 : decide (x4_1 < (l0.length : Int)) = false := decide_eq_false c4;clear c4;obtain rfl := Option.some.inj H;go_wp2;go_ret;exact ⟨_,by rfl,by exact HO_3.out,HB.out⟩

/-! ### spec_l6Copy: function 58 -/
def spec_l6Copy.f (k : Nat) (a0_0 : Int) (l0_1 : List (S63)) : Option (Int × (List (S63))) := (spec_l4Copy.f k l0_1).bind fun t142 => (some (a0_0,t142))
set_option maxHeartbeats 8000000 in
set_option maxRecDepth 100000 in
theorem spec_l6Copy.calls (k : Nat) (a0_0 : Int) (A0_1 : Option Addr) (c0_1 : Nat) (l0_1 : List (S63)) (r1 : Int) (r2 : List (S63)) (w : World) (hr0_1 : Kd.C k63 w A0_1 l0_1.length l0_1) (hc0_1 : l0_1.length ≤ c0_1) (h : spec_l6Copy.f k a0_0 l0_1 = some (r1,r2)) :
  Calls Try.prog 58 #[.agg #[.int .i64 a0_0,.slice A0_1 l0_1.length c0_1]] w fun e w' => ∃ v1_ : Value,e = .returned (.agg #[.int .i64 r1,v1_]) ∧ Kd.S k63 63 w' w.heap.size (fun _ => True) v1_ r2 ∧ Below w.heap.size w w' := by
 have hu31 := Try.underlying31;have HR0_1 := Aside0.mk hr0_1;have HC0_1 := Aside0.mk hc0_1;clear hr0_1 hc0_1;have HB := Aside0.mk (Below.refl w.heap.size w);have H : ((spec_l4Copy.f k l0_1).bind fun t142 => (some (a0_0,t142))) = some (r1,r2) := h;clear h;replace H := Option.bind_eq_some_iff.mp H;obtain ⟨t142,A20,H⟩ := H;replace H : (some (a0_0,t142)) = some (r1,r2) := H;have A2 := Aside0.mk A20;clear A20;simp only [Option.some.injEq,Prod.mk.injEq] at H;obtain ⟨rfl,rfl⟩ := H;go_enter Try.func58,Try.ntmps58
 try go_wp2_with (first | ((with_reducible refine gate_dst (N := 1) rfl ?_); refine box_event ?hg (N := 1) ?hd (cs := #[.int .i64 a0_0,.slice A0_1 l0_1.length c0_1]) (t := 31) ?hr ?_; (case hd => rfl); (case hg => rfl); (case hr => (go_simp; done)); intro gb140 hg w3 hbox hb; have n0_ := Aside0.mk (below_step HB.out hb); have n1_ := Aside0.mk (hbox); have n2_ := Aside0.mk (by rw [hg]; exact (below_size HB.out) : w.heap.size ≤ gb140); have n3_ := Aside0.mk (by rw [hg]; exact (below_size HB.out) : w.heap.size ≤ gb140); clear HB; have HB := n0_; have BK140 := n1_; have GW140 := n2_; have GE140 := n3_; clear n0_ n1_ n2_ n3_; clear hb hbox hg) | ((with_reducible refine gate_dst (N := 2) rfl ?_); refine box_event ?hg (N := 2) ?hd (cs := #[.int .i64 0,.slice none 0 0]) (t := 31) ?hr ?_; (case hd => rfl); (case hg => rfl); (case hr => (go_simp; done)); intro gb141 hg w4 hbox hb; have n0_ := Aside0.mk (blk_below (g := gb140) (o := .cells #[.int .i64 a0_0,.slice A0_1 l0_1.length c0_1] 31 (0,0)) (by exact BK140.out) hb); have n1_ := Aside0.mk (below_step HB.out hb); have n2_ := Aside0.mk (hbox); have n3_ := Aside0.mk (by rw [hg]; exact (below_size HB.out) : w.heap.size ≤ gb141); have n4_ := Aside0.mk (by rw [hg]; exact (below_size HB.out) : w.heap.size ≤ gb141); have n5_ := Aside0.mk (by rw [hg]; exact Nat.ne_of_lt (blk_lt (g := gb140) (o := .cells #[.int .i64 a0_0,.slice A0_1 l0_1.length c0_1] 31 (0,0)) (by exact BK140.out)) : gb140 ≠ gb141); have n6_ := Aside0.mk (by rw [hg]; exact Nat.ne_of_gt (blk_lt (g := gb140) (o := .cells #[.int .i64 a0_0,.slice A0_1 l0_1.length c0_1] 31 (0,0)) (by exact BK140.out)) : gb141 ≠ gb140); clear BK140; clear HB; have BK140 := n0_; have HB := n1_; have BK141 := n2_; have GW141 := n3_; have GE141 := n4_; have NB140_141 := n5_; have NB141_140 := n6_; clear n0_ n1_ n2_ n3_ n4_ n5_ n6_; clear hb hbox hg))
 have n0_ := Aside0.mk (blk_drew BK140.out);have n1_ := Aside0.mk (blk_drew BK141.out);have n2_ := Aside0.mk (below_drew1 HB.out);clear BK140;clear BK141;clear HB;have BK140 := n0_;have BK141 := n1_;have HB := n2_;clear n0_ n1_ n2_;refine start_ (n := 7) (S := fun w' => w'.cell? ⟨gb140,0,none⟩ = some (.int .i64 a0_0) ∧ w'.cell? ⟨gb140,1,none⟩ = some (.slice A0_1 l0_1.length c0_1)) (ds := []) #[false,false,false,false,false,false,false] (by kernel_rfl) rfl rfl ⟨(blk_cell BK140.out 0).trans rfl,(blk_cell BK140.out 1).trans rfl⟩ (fun hHeld => ?_)
 generalize w4.drew = w5 at BK140 BK141 HB hHeld ⊢
 refine pure_ (i := 0) (N := some 3) (v := ?_) (a' := ?_) #[true,false,false,false,false,false,false] rfl rfl (by kernel_rfl) (fun _ _ _ h => h) (Or.inl ⟨by rfl,?_⟩) ?_ ?_;rotate_left
 ·intro w';go_simp;with_reducible rfl
 rotate_left
 ·simp only [wf_preprocess];rfl
 refine pure_ (i := 2) (N := some 5) (v := ?_) (a' := ?_) #[true,false,true,false,false,false,false] rfl rfl (by kernel_rfl) (fun _ _ _ h => h) (Or.inl ⟨by rfl,?_⟩) ?_ ?_;rotate_left
 ·intro w';go_simp;with_reducible rfl
 rotate_left
 ·simp only [wf_preprocess];rfl
 refine take_ (i := 1) (N := some 4) (v := ?_) (a' := ?_) #[true,true,true,false,false,false,false] rfl rfl (by kernel_rfl) (fun _ _ _ h => h) (Or.inl ⟨by rfl,?_⟩) hHeld ?_ ?_;rotate_left
 ·rintro w' ⟨s0,s1⟩;go_simp;with_reducible rfl
 rotate_left
 ·simp only [wf_preprocess];rfl
 refine take_ (i := 3) (N := some 6) (v := ?_) (a' := ?_) #[true,true,true,true,false,false,false] rfl rfl (by kernel_rfl) (fun _ _ _ h => h) (Or.inl ⟨by rfl,?_⟩) hHeld ?_ ?_;rotate_left
 ·rintro w' ⟨s0,s1⟩;go_simp;with_reducible rfl
 rotate_left
 ·simp only [wf_preprocess];rfl
 refine one_ (i := 4) (N := some 7) #[true,true,true,true,true,false,false] rfl rfl (by kernel_rfl) (by decide) (fun K hK => ?_);refine goes_ Try.func92 (by kernel_rfl) rfl #[.slice A0_1 l0_1.length c0_1] (by rfl) rfl rfl (by (try simp only [List.map_toArray,List.map_cons,List.map_nil]); rfl) ?_
 with_reducible refine (spec_l4Copy.calls k _ _ l0_1 t142 _ ?side1 ?side2 A2.out).mono ?_
 (case side1 => repeat (exact (Kd.C_below HR0_1.out HB.out)))
 (case side2 => exact HC0_1.out)
 rintro e w6 ⟨v143,rfl,ho0,hb⟩;refine ⟨_,rfl,?_⟩;have n0_ := Aside0.mk (Kd.S_lower ho0 (below_size HB.out));have n1_ := Aside0.mk (blk_below (g := gb140) (o := .cells #[.int .i64 a0_0,.slice A0_1 l0_1.length c0_1] 31 (0,0)) (by exact BK140.out) hb);have n2_ := Aside0.mk (blk_below (g := gb141) (o := .cells #[.int .i64 0,.slice none 0 0] 31 (0,0)) (by exact BK141.out) hb);have n3_ := Aside0.mk (below_step HB.out hb);clear BK140;clear BK141;clear HB;have HO144 := n0_;have BK140 := n1_;have BK141 := n2_;have HB := n3_;clear n0_ n1_ n2_ n3_
 (try clear hb)
 skip
 skip
 skip
 (try clear ho0)
 obtain ⟨Ao7,co7,eo7⟩ := Kd.S_slice HO144.out
 (subst eo7)
 refine hK.out _ _ ⟨(blk_cell BK140.out 0).trans rfl,(blk_cell BK140.out 1).trans rfl⟩ (fun hHeld => ?_);clear hK K;refine norm_ (a' := ?_) ?_ ?_;rotate_left
 ·show Act.put _ (some 7) _ = _
  simp only [wf_preprocess];rfl
 refine pure_ (i := 5) (N := some 8) (v := ?_) (a' := ?_) #[true,true,true,true,true,true,false] rfl rfl (by kernel_rfl) (fun _ _ _ h => h) (Or.inl ⟨by rfl,?_⟩) ?_ ?_;rotate_left
 ·intro w';go_simp;with_reducible rfl
 rotate_left
 ·simp only [wf_preprocess];rfl
 refine one_ (i := 6) (N := none) #[true,true,true,true,true,true,true] rfl rfl (by kernel_rfl) (by decide) (fun K hK => ?_);have hs8 : w6.cell? ⟨gb141,0,none⟩ = some (.int .i64 0) := (blk_cell BK141.out 0).trans rfl;have hfs8 := blk_frozen BK141.out 0;have hns8_0 := NB140_141.out;have hms8_0 := NB141_140.out;have hs9 : w6.cell? ⟨gb141,1,none⟩ = some (.slice none 0 0) := (blk_cell BK141.out 1).trans rfl;have hfs9 := blk_frozen BK141.out 1;have hns9_0 := NB140_141.out;have hms9_0 := NB141_140.out;refine skip_ (w1 := ?_) (by rfl) rfl ?_ ?_;rotate_left
 ·go_simp;rfl
 refine hK.out _ _ ⟨((cell_far (p := ⟨gb141,_,none⟩) NB140_141.out _).trans ((cell_far (p := ⟨gb141,_,none⟩) NB140_141.out _).trans (hHeld.1))),((cell_far (p := ⟨gb141,_,none⟩) NB140_141.out _).trans ((cell_far (p := ⟨gb141,_,none⟩) NB140_141.out _).trans (hHeld.2)))⟩ (fun hHeld => ?_);clear hK K;refine done_ (by kernel_rfl) ?_
 try go_wp2
 refine bodyPost_ret (results_cell_row rfl _ _ gb141 31 #[.int .i64 a0_0,.slice Ao7 t142.length co7] (0,0) _ rfl (by refine blk_put (cs := #[.int .i64 a0_0,.slice none 0 0]) ?_ 1 _ rfl; refine blk_put (cs := #[.int .i64 0,.slice none 0 0]) ?_ 0 _ rfl; exact BK141.out) Try.underlying31 rfl (by kernel_rfl)) rfl ?_;exact ⟨_,by rfl,by exact Kd.S_mono (Kd.S_far (p := ⟨gb141,1,none⟩) (Kd.S_far (p := ⟨gb141,0,none⟩) (Kd.S_types HO144.out BK141.out (by decide)) (fun _ hk => hk.2) (.int .i64 a0_0)) (fun _ hk => hk.2) (.slice Ao7 t142.length co7)) (fun _ hk => trivial),by repeat (with_reducible first | exact HB.out | refine below_set ?_ GE141.out)⟩

/-! ### spec_TxOk: function 59 -/
def spec_TxOk.j0 : Nat → Bool → Int → ByteArray → ByteArray → Int → Int → Option (Bool)
 | 0,_,_,_,_,_,_ => none
 | k + 1,x18,x146000,x146001,x146002,x146003,x146004 => if x18 = true then (some false) else (if x146000 = 1 then ((spec_NameOk.f k x146002).bind fun t149 => (some t149)) else ((spec_l1In.f x146000 2 3).bind fun t150 => (if t150 = true then (some (x146002.toList == ([] : List UInt8))) else (some false))))
def spec_TxOk.f (k : Nat) (a0_0 : Int) (a0_1 : ByteArray) (a0_2 : ByteArray) (a0_3 : Int) (a0_4 : Int) : Option (Bool) := (spec_NameOk.f k a0_1).bind fun t146 => (if t146 = true then ((spec_l1In.f a0_3 1 1000000).bind fun t147 => (if t147 = true then ((spec_l1In.f a0_4 0 10000).bind fun t148 => (spec_TxOk.j0 k (!t148) a0_0 a0_1 a0_2 a0_3 a0_4)) else (spec_TxOk.j0 k true a0_0 a0_1 a0_2 a0_3 a0_4))) else (spec_TxOk.j0 k true a0_0 a0_1 a0_2 a0_3 a0_4))
set_option maxHeartbeats 8000000 in
set_option maxRecDepth 100000 in
theorem spec_TxOk.calls (k : Nat) (a0_0 : Int) (a0_1 : ByteArray) (a0_2 : ByteArray) (a0_3 : Int) (a0_4 : Int) (r : Bool) (w : World) (h : spec_TxOk.f k a0_0 a0_1 a0_2 a0_3 a0_4 = some r) :
  Calls Try.prog 59 #[.agg #[.int .i64 a0_0,.string a0_1,.string a0_2,.int .i64 a0_3,.int .i64 a0_4]] w fun e w' => e = .returned (.bool r) ∧ Below w.heap.size w w' := by
 have hu35 := Try.underlying35;have HB := Aside0.mk (Below.refl w.heap.size w);have H : ((spec_NameOk.f k a0_1).bind fun t146 => (if t146 = true then ((spec_l1In.f a0_3 1 1000000).bind fun t147 => (if t147 = true then ((spec_l1In.f a0_4 0 10000).bind fun t148 => (spec_TxOk.j0 k (!t148) a0_0 a0_1 a0_2 a0_3 a0_4)) else (spec_TxOk.j0 k true a0_0 a0_1 a0_2 a0_3 a0_4))) else (spec_TxOk.j0 k true a0_0 a0_1 a0_2 a0_3 a0_4))) = some r := h;clear h;have HC2 := Aside0.mk H;clear H;go_enter Try.func59,Try.ntmps59
 go_upto_region 1 with (((with_reducible refine gate_dst (N := 1) rfl ?_); refine box_event ?hg (N := 1) ?hd (cs := #[.int .i64 a0_0,.string a0_1,.string a0_2,.int .i64 a0_3,.int .i64 a0_4]) (t := 35) ?hr ?_; (case hd => rfl); (case hg => rfl); (case hr => (go_simp; done)); intro gb145 hg w3 hbox hb; have n0_ := Aside0.mk (below_step HB.out hb); have n1_ := Aside0.mk (hbox); have n2_ := Aside0.mk (by rw [hg]; exact (below_size HB.out) : w.heap.size ≤ gb145); have n3_ := Aside0.mk (by rw [hg]; exact (below_size HB.out) : w.heap.size ≤ gb145); clear HB; have HB := n0_; have BK145 := n1_; have GW145 := n2_; have GE145 := n3_; clear n0_ n1_ n2_ n3_; clear hb hbox hg))
 skip
 go_cut [18] (fun v18 wc => ∃ (kq : Nat) (x18_1 : Bool),v18 = .bool x18_1 ∧ Aside0 (spec_TxOk.j0 kq x18_1 a0_0 a0_1 a0_2 a0_3 a0_4 = some r) ∧ Aside0 (kq ≤ k) ∧ Aside0 (wc.heap[gb145]? = some (.cells #[.int .i64 a0_0,.string a0_1,.string a0_2,.int .i64 a0_3,.int .i64 a0_4] 35 (0,0))) ∧ Aside0 (Below w.heap.size w wc))
 case first =>
  have H := HC2.out;clear HC2;replace H := Option.bind_eq_some_iff.mp H;obtain ⟨t146,A40,H⟩ := H;replace H : (if t146 = true then ((spec_l1In.f a0_3 1 1000000).bind fun t147 => (if t147 = true then ((spec_l1In.f a0_4 0 10000).bind fun t148 => (spec_TxOk.j0 k (!t148) a0_0 a0_1 a0_2 a0_3 a0_4)) else (spec_TxOk.j0 k true a0_0 a0_1 a0_2 a0_3 a0_4))) else (spec_TxOk.j0 k true a0_0 a0_1 a0_2 a0_3 a0_4)) = some r := H;have A4 := Aside0.mk A40;clear A40
  by_cases c5 : t146 = true
  ·subst c5
   rw [if_pos rfl] at H
   replace H := Option.bind_eq_some_iff.mp H;obtain ⟨t147,A60,H⟩ := H;replace H : (if t147 = true then ((spec_l1In.f a0_4 0 10000).bind fun t148 => (spec_TxOk.j0 k (!t148) a0_0 a0_1 a0_2 a0_3 a0_4)) else (spec_TxOk.j0 k true a0_0 a0_1 a0_2 a0_3 a0_4)) = some r := H;have A6 := Aside0.mk A60;clear A60
   by_cases c7 : t147 = true
   ·subst c7
    rw [if_pos rfl] at H
    replace H := Option.bind_eq_some_iff.mp H;obtain ⟨t148,A80,H⟩ := H;replace H : (spec_TxOk.j0 k (!t148) a0_0 a0_1 a0_2 a0_3 a0_4) = some r := H;have A8 := Aside0.mk A80;clear A80;have H' := Aside0.mk H;clear H;obtain ⟨⟨hcz9_0,hcz9_1,hcz9_2,hcz9_3,hcz9_4⟩,hfz9_0,hfz9_1,hfz9_2,hfz9_3,hfz9_4⟩ := bc5 BK145.out
    go_wp2_with (first | ((with_reducible refine gate_callee (f := 90) rfl ?_); refine goesL_ (some 5) rfl rfl Try.func90 (by kernel_rfl) rfl #[.string a0_1] rfl (by (try simp only [List.map_toArray,List.map_cons,List.map_nil]); rfl) ?_; (with_reducible refine (spec_NameOk.calls k a0_1 true _ A4.out).mono ?_); rintro e w' ⟨rfl,⟨nd,rfl⟩⟩; refine ⟨_,rfl,?_⟩) | (go_at_call 91; (with_reducible refine (spec_l1In.calls a0_3 1 1000000 true _ A6.out).mono ?_); rintro e w' ⟨rfl,⟨nd,rfl⟩⟩) | (go_at_call 91; (with_reducible refine (spec_l1In.calls a0_4 0 10000 t148 _ A8.out).mono ?_); rintro e w' ⟨rfl,⟨nd,rfl⟩⟩))
    go_meet
    case rel => exact ⟨_,(!t148),(by rfl),H',⟨by omega⟩,⟨by (with_reducible repeat (refine blk_drewN ?_ _)); exact BK145.out⟩,⟨by repeat (with_reducible first | exact HB.out | apply pw_below_drewN)⟩⟩
   ·replace c7 := Bool.eq_false_iff.mpr c7;subst c7
    rw [if_neg (show ¬ (false = true) by decide)] at H
    have H' := Aside0.mk H;clear H;obtain ⟨⟨hcz10_0,hcz10_1,hcz10_2,hcz10_3,hcz10_4⟩,hfz10_0,hfz10_1,hfz10_2,hfz10_3,hfz10_4⟩ := bc5 BK145.out
    go_wp2_with (first | ((with_reducible refine gate_callee (f := 90) rfl ?_); refine goesL_ (some 5) rfl rfl Try.func90 (by kernel_rfl) rfl #[.string a0_1] rfl (by (try simp only [List.map_toArray,List.map_cons,List.map_nil]); rfl) ?_; (with_reducible refine (spec_NameOk.calls k a0_1 true _ A4.out).mono ?_); rintro e w' ⟨rfl,⟨nd,rfl⟩⟩; refine ⟨_,rfl,?_⟩) | (go_at_call 91; (with_reducible refine (spec_l1In.calls a0_3 1 1000000 false _ A6.out).mono ?_); rintro e w' ⟨rfl,⟨nd,rfl⟩⟩))
    go_meet
    case rel => exact ⟨_,(true),(by rfl),H',⟨by omega⟩,⟨by (with_reducible repeat (refine blk_drewN ?_ _)); exact BK145.out⟩,⟨by repeat (with_reducible first | exact HB.out | apply pw_below_drewN)⟩⟩
  ·replace c5 := Bool.eq_false_iff.mpr c5;subst c5
   rw [if_neg (show ¬ (false = true) by decide)] at H
   have H' := Aside0.mk H;clear H;obtain ⟨⟨hcz11_0,hcz11_1,hcz11_2,hcz11_3,hcz11_4⟩,hfz11_0,hfz11_1,hfz11_2,hfz11_3,hfz11_4⟩ := bc5 BK145.out
   go_wp2_with (((with_reducible refine gate_callee (f := 90) rfl ?_); refine goesL_ (some 5) rfl rfl Try.func90 (by kernel_rfl) rfl #[.string a0_1] rfl (by (try simp only [List.map_toArray,List.map_cons,List.map_nil]); rfl) ?_; (with_reducible refine (spec_NameOk.calls k a0_1 false _ A4.out).mono ?_); rintro e w' ⟨rfl,⟨nd,rfl⟩⟩; refine ⟨_,rfl,?_⟩))
   go_meet
   case rel => exact ⟨_,(true),(by rfl),H',⟨by omega⟩,⟨by (with_reducible repeat (refine blk_drewN ?_ _)); exact BK145.out⟩,⟨by repeat (with_reducible first | exact HB.out | apply pw_below_drewN)⟩⟩
 case rest =>
  clear HC2
  try clear p2
  try clear c5
  try clear c7
  try clear c9
  try clear hcz10_0
  try clear hcz10_1
  try clear hcz10_2
  try clear hcz10_3
  try clear hcz10_4
  try clear hcz11_0
  try clear hcz11_1
  try clear hcz11_2
  try clear hcz11_3
  try clear hcz11_4
  try clear hcz9_0
  try clear hcz9_1
  try clear hcz9_2
  try clear hcz9_3
  try clear hcz9_4
  try clear hfz10_0
  try clear hfz10_1
  try clear hfz10_2
  try clear hfz10_3
  try clear hfz10_4
  try clear hfz11_0
  try clear hfz11_1
  try clear hfz11_2
  try clear hfz11_3
  try clear hfz11_4
  try clear hfz9_0
  try clear hfz9_1
  try clear hfz9_2
  try clear hfz9_3
  try clear hfz9_4
  obtain ⟨kq,x18_1,rfl,HA,HJ1,BK145,HB⟩ := hcut
  cases kq with
  | zero => exact absurd HA.out (by simp [spec_TxOk.j0])
  | succ kj1 =>
   have H := HA.out;clear HA;simp only [spec_TxOk.j0] at H
   by_cases c12 : x18_1 = true
   ·subst c12
    rw [if_pos rfl] at H
    obtain rfl := Option.some.inj H;go_wp2;go_ret;exact ⟨by rfl,HB.out⟩
   ·replace c12 := Bool.eq_false_iff.mpr c12;subst c12
    rw [if_neg (show ¬ (false = true) by decide)] at H
    by_cases c13 : a0_0 = 1
    ·rw [if_pos c13] at H;have c13b0 : (a0_0 == 1) = true := beq_iff_eq.mpr c13;have c13b1 : (a0_0 != 1) = false := bne_eq_false_iff_eq.mpr c13;clear c13;replace H := Option.bind_eq_some_iff.mp H;obtain ⟨t149,A140,H⟩ := H;replace H : (some t149) = some r := H;have A14 := Aside0.mk A140;clear A140;obtain rfl := Option.some.inj H;obtain ⟨⟨hcz15_0,hcz15_1,hcz15_2,hcz15_3,hcz15_4⟩,hfz15_0,hfz15_1,hfz15_2,hfz15_3,hfz15_4⟩ := bc5 BK145.out
     go_wp2_with (((with_reducible refine gate_callee (f := 90) rfl ?_); refine goesL_ (some 24) rfl rfl Try.func90 (by kernel_rfl) rfl #[.string a0_2] rfl (by (try simp only [List.map_toArray,List.map_cons,List.map_nil]); rfl) ?_; (with_reducible refine (spec_NameOk.calls kj1 a0_2 t149 _ A14.out).mono ?_); rintro e w' ⟨rfl,⟨nd,rfl⟩⟩; refine ⟨_,rfl,?_⟩))
     go_ret;exact ⟨by rfl,by repeat (with_reducible first | exact HB.out | apply pw_below_drewN)⟩
    ·rw [if_neg c13] at H;have c13b0 : (a0_0 == 1) = false := beq_eq_false_iff_ne.mpr c13;have c13b1 : (a0_0 != 1) = true := bne_iff_ne.mpr c13;replace H := Option.bind_eq_some_iff.mp H;obtain ⟨t150,A160,H⟩ := H;replace H : (if t150 = true then (some (a0_2.toList == ([] : List UInt8))) else (some false)) = some r := H;have A16 := Aside0.mk A160;clear A160
     by_cases c17 : t150 = true
     ·subst c17
      rw [if_pos rfl] at H
      obtain rfl := Option.some.inj H;obtain ⟨⟨hcz18_0,hcz18_1,hcz18_2,hcz18_3,hcz18_4⟩,hfz18_0,hfz18_1,hfz18_2,hfz18_3,hfz18_4⟩ := bc5 BK145.out
      go_wp2_with (((with_reducible refine gate_callee (f := 91) rfl ?_); refine goesL_ (some 27) rfl rfl Try.func91 (by kernel_rfl) rfl #[.int .i64 a0_0,.int .i64 2,.int .i64 3] rfl (by (try simp only [List.map_toArray,List.map_cons,List.map_nil]); rfl) ?_; (with_reducible refine (spec_l1In.calls a0_0 2 3 true _ A16.out).mono ?_); rintro e w' ⟨rfl,⟨nd,rfl⟩⟩; refine ⟨_,rfl,?_⟩))
      go_ret;exact ⟨by rfl,by repeat (with_reducible first | exact HB.out | apply pw_below_drewN)⟩
     ·replace c17 := Bool.eq_false_iff.mpr c17;subst c17
      rw [if_neg (show ¬ (false = true) by decide)] at H
      obtain rfl := Option.some.inj H;obtain ⟨⟨hcz19_0,hcz19_1,hcz19_2,hcz19_3,hcz19_4⟩,hfz19_0,hfz19_1,hfz19_2,hfz19_3,hfz19_4⟩ := bc5 BK145.out
      go_wp2_with (((with_reducible refine gate_callee (f := 91) rfl ?_); refine goesL_ (some 27) rfl rfl Try.func91 (by kernel_rfl) rfl #[.int .i64 a0_0,.int .i64 2,.int .i64 3] rfl (by (try simp only [List.map_toArray,List.map_cons,List.map_nil]); rfl) ?_; (with_reducible refine (spec_l1In.calls a0_0 2 3 false _ A16.out).mono ?_); rintro e w' ⟨rfl,⟨nd,rfl⟩⟩; refine ⟨_,rfl,?_⟩))
      go_ret;exact ⟨by rfl,by repeat (with_reducible first | exact HB.out | apply pw_below_drewN)⟩

/-! ### spec_AcctAt: function 60 -/
def spec_AcctAt.l0 : Nat → List (S63) → ByteArray → Int → Option (Int)
 | 0,_,_,_ => none
 | k + 1,x0,x1,x5 => if x5 < (x0.length : Int) then (if 0 ≤ x5 then (if ((rd_T63 x0 x5).f0).toList = x1.toList then (some x5) else (spec_AcctAt.l0 k x0 x1 (wrap64 (x5 + 1)))) else (none)) else (some (-1))
def spec_AcctAt.f (k : Nat) (l0 : List (S63)) (a1 : ByteArray) : Option (Int) := spec_AcctAt.l0 k l0 a1 0
set_option maxHeartbeats 8000000 in
set_option maxRecDepth 100000 in
theorem spec_AcctAt.calls (k : Nat) (A0 : Option Addr) (c0 : Nat) (l0 : List (S63)) (a1 : ByteArray) (r : Int) (w : World) (hr0 : Kd.C k63 w A0 l0.length l0) (hc0 : l0.length ≤ c0) (h : spec_AcctAt.f k l0 a1 = some r) :
  Calls Try.prog 60 #[.slice A0 l0.length c0,.string a1] w fun e w' => e = .returned (.int .i64 r) ∧ Drawn0 w w' := by
 have HR0 := Aside0.mk hr0;have HC0 := Aside0.mk hc0;clear hr0 hc0;have H : (spec_AcctAt.l0 k l0 a1 0) = some r := h;clear h;have H' := Aside0.mk H;clear H;go_enter Try.func60,Try.ntmps60;go_wp2
 go_loopg [5] k (fun kq v5 w' => ∃ (x5_1 : Int),v5 = .int .i64 x5_1 ∧ Aside0 (spec_AcctAt.l0 kq l0 a1 x5_1 = some r) ∧ Aside0 (kq ≤ k) ∧ Drawn0 w w')
 case atStart => exact ⟨(0),(by rfl),H',⟨Nat.le_refl _⟩,by repeat (exact Drawn0.refl _)⟩
 case round =>
  clear H'
  try clear p2
  obtain ⟨x5_1,rfl,HA,HK1,⟨m1,rfl⟩⟩ := hrel
  cases gk with
  | zero => exact absurd HA.out (by simp [spec_AcctAt.l0])
  | succ k1 =>
   have H := HA.out;clear HA;simp only [spec_AcctAt.l0] at H
   by_cases c3 : x5_1 < (l0.length : Int)
   ·rw [if_pos c3] at H;have c3b0 : decide (x5_1 < (l0.length : Int)) = true := decide_eq_true c3;clear c3
    by_cases c4 : 0 ≤ x5_1
    ·rw [if_pos c4] at H;have c4b0 : decide (0 ≤ x5_1) = true := decide_eq_true c4;clear c4
     by_cases c5 : ((rd_T63 l0 x5_1).f0).toList = a1.toList
     ·rw [if_pos c5] at H;have c5b0 : (((rd_T63 l0 x5_1).f0).toList == a1.toList) = true := beq_iff_eq.mpr c5;have c5b1 : (((rd_T63 l0 x5_1).f0).toList != a1.toList) = false := bne_eq_false_iff_eq.mpr c5;clear c5;obtain rfl := Option.some.inj H;have p151 : 0 ≤ (x5_1 : Int) := of_decide_eq_true (by (with_reducible assumption));have q151 : x5_1 < (l0.length : Int) := of_decide_eq_true (by (with_reducible assumption));obtain ⟨ad151,A151_4,c151_4,e151,hx151_0,hx151_1,hx151_2,hx151_3,hx151_4,hl151_4,hi151_4⟩ := at_T63 HR0.out x5_1 p151 q151
      cases e151
      have HR151_4 := Aside0.mk hi151_4;have HC151_4 := Aside0.mk hl151_4;clear hi151_4 hl151_4;replace p151 := eq_true p151;replace q151 := eq_true q151;go_wp2;go_ret;exact ⟨by rfl,by repeat (first | exact Drawn0.refl _ | apply Drawn0.step)⟩
     ·rw [if_neg c5] at H;have c5b0 : (((rd_T63 l0 x5_1).f0).toList == a1.toList) = false := beq_eq_false_iff_ne.mpr c5;have c5b1 : (((rd_T63 l0 x5_1).f0).toList != a1.toList) = true := bne_iff_ne.mpr c5;have H' := Aside0.mk H;clear H;have p151 : 0 ≤ (x5_1 : Int) := of_decide_eq_true (by (with_reducible assumption));have q151 : x5_1 < (l0.length : Int) := of_decide_eq_true (by (with_reducible assumption));obtain ⟨ad151,A151_4,c151_4,e151,hx151_0,hx151_1,hx151_2,hx151_3,hx151_4,hl151_4,hi151_4⟩ := at_T63 HR0.out x5_1 p151 q151
      cases e151
      have HR151_4 := Aside0.mk hi151_4;have HC151_4 := Aside0.mk hl151_4;clear hi151_4 hl151_4;replace p151 := eq_true p151;replace q151 := eq_true q151;go_wp2
      go_roundg k1
      case measure => have := HK1.out; omega
      case rel => exact ⟨(wrap64 (x5_1 + 1)),(by rfl),H',⟨by have := HK1.out; omega⟩,by repeat (first | exact Drawn0.refl _ | apply Drawn0.step)⟩
    ·rw [if_neg c4] at H;exact absurd H (by simp)
   ·rw [if_neg c3] at H;have c3b0 : decide (x5_1 < (l0.length : Int)) = false := decide_eq_false c3;clear c3;obtain rfl := Option.some.inj H;go_wp2;go_ret;exact ⟨by rfl,by repeat (first | exact Drawn0.refl _ | apply Drawn0.step)⟩

end Go.Proofs.Ytcbpfofkdipjhaa.PM
