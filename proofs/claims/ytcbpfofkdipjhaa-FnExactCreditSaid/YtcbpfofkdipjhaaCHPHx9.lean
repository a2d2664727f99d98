/- The machine's side of Go functions: each as a plain function,and that the call does what it says. Written by a program (wip/mprint). -/
import Derived.Test.YtcbpfofkdipjhaaCHPHx0
import Derived.Test.YtcbpfofkdipjhaaCHPHx8
import Derived.Lib.Hide
namespace Go.Proofs.Ytcbpfofkdipjhaa.PH
open Go.RowKit Go.Proofs.YtcbpfofkdipjhaaW.PrintWords Go.Proofs.YtcbpfofkdipjhaaW.PrintLast Go.Proofs.YtcbpfofkdipjhaaW.PrintMore
attribute [local wf_preprocess] Act.put List.setIfInBounds_toArray List.set_cons_zero List.set_cons_succ i64_w i32_w
attribute [local go_sem] max2_int min2_int max_two min_two max_three min_three max_four min_four   -- for this text's walks alone
set_option linter.unusedVariables false
set_option linter.unusedSimpArgs false

/-! ### laws_eqAcct: function 101 -/
def laws_eqAcct.f (k : Nat) (a0_0 : ByteArray) (a0_1 : Int) (a0_2 : Int) (a0_3 : Int) (l0_4 : List (S65)) (a1_0 : ByteArray) (a1_1 : Int) (a1_2 : Int) (a1_3 : Int) (l1_4 : List (S65)) : Option (Bool) := if a0_0.toList = a1_0.toList then (if a0_1 = a1_1 then (if a0_2 = a1_2 then (if a0_3 = a1_3 then ((laws_eqLeaveS.f k l0_4 l1_4).bind fun t218 => (if t218 = true then (some true) else (some false))) else (some false)) else (some false)) else (some false)) else (some false)
theorem laws_eqAcct.mono : ∀ a0 a1 a2 a3 a4 a5 a6 a7 a8 a9 k,LeO (laws_eqAcct.f k a0 a1 a2 a3 a4 a5 a6 a7 a8 a9) (laws_eqAcct.f (k + 1) a0 a1 a2 a3 a4 a5 a6 a7 a8 a9) := by
 intro a0 a1 a2 a3 a4 a5 a6 a7 a8 a9 k;unfold laws_eqAcct.f
 repeat' first
   | (with_reducible exact laws_eqLeaveS.mono _ _ _)
   | (with_reducible exact LeO.refl _)
   | (with_reducible exact LeO.none _)
   | (with_reducible refine LeO.ite ?_ ?_)
   | (with_reducible refine LeO.bind ?_ (fun _ => ?_))
   | exact laws_eqLeaveS.mono _ _ _
   | exact LeO.none _
set_option maxHeartbeats 8000000 in
set_option maxRecDepth 100000 in
theorem laws_eqAcct.calls (k : Nat) (a0_0 : ByteArray) (a0_1 : Int) (a0_2 : Int) (a0_3 : Int) (A0_4 : Option Addr) (c0_4 : Nat) (l0_4 : List (S65)) (a1_0 : ByteArray) (a1_1 : Int) (a1_2 : Int) (a1_3 : Int) (A1_4 : Option Addr) (c1_4 : Nat) (l1_4 : List (S65)) (r : Bool) (w : World) (hr0_4 : Kd.C k65 w A0_4 l0_4.length l0_4) (hc0_4 : l0_4.length ≤ c0_4) (hr1_4 : Kd.C k65 w A1_4 l1_4.length l1_4) (hc1_4 : l1_4.length ≤ c1_4) (h : laws_eqAcct.f k a0_0 a0_1 a0_2 a0_3 l0_4 a1_0 a1_1 a1_2 a1_3 l1_4 = some r) :
  Calls Try.prog 101 #[.agg #[.string a0_0,.int .i64 a0_1,.int .i64 a0_2,.int .i64 a0_3,.slice A0_4 l0_4.length c0_4],.agg #[.string a1_0,.int .i64 a1_1,.int .i64 a1_2,.int .i64 a1_3,.slice A1_4 l1_4.length c1_4]] w fun e w' => e = .returned (.bool r) ∧ Below w.heap.size w w' := by
 have hu63 := Try.underlying63;have HR0_4 := Aside0.mk hr0_4;have HC0_4 := Aside0.mk hc0_4;clear hr0_4 hc0_4;have HR1_4 := Aside0.mk hr1_4;have HC1_4 := Aside0.mk hc1_4;clear hr1_4 hc1_4;have HB := Aside0.mk (Below.refl w.heap.size w);have H : (if a0_0.toList = a1_0.toList then (if a0_1 = a1_1 then (if a0_2 = a1_2 then (if a0_3 = a1_3 then ((laws_eqLeaveS.f k l0_4 l1_4).bind fun t218 => (if t218 = true then (some true) else (some false))) else (some false)) else (some false)) else (some false)) else (some false)) = some r := h;clear h
 by_cases c3 : a0_0.toList = a1_0.toList
 ·rw [if_pos c3] at H;have c3b0 : (a0_0.toList == a1_0.toList) = true := beq_iff_eq.mpr c3;have c3b1 : (a0_0.toList != a1_0.toList) = false := bne_eq_false_iff_eq.mpr c3;clear c3
  by_cases c4 : a0_1 = a1_1
  ·rw [if_pos c4] at H;have c4b0 : (a0_1 == a1_1) = true := beq_iff_eq.mpr c4;have c4b1 : (a0_1 != a1_1) = false := bne_eq_false_iff_eq.mpr c4;clear c4
   by_cases c5 : a0_2 = a1_2
   ·rw [if_pos c5] at H;have c5b0 : (a0_2 == a1_2) = true := beq_iff_eq.mpr c5;have c5b1 : (a0_2 != a1_2) = false := bne_eq_false_iff_eq.mpr c5;clear c5
    by_cases c6 : a0_3 = a1_3
    ·rw [if_pos c6] at H;have c6b0 : (a0_3 == a1_3) = true := beq_iff_eq.mpr c6;have c6b1 : (a0_3 != a1_3) = false := bne_eq_false_iff_eq.mpr c6;clear c6;replace H := Option.bind_eq_some_iff.mp H;obtain ⟨t218,A70,H⟩ := H;replace H : (if t218 = true then (some true) else (some false)) = some r := H;have A7 := Aside0.mk A70;clear A70
     by_cases c8 : t218 = true
     ·subst c8
      have H1 : (some true) = some r := by rw [if_pos rfl] at H; exact H
      clear H;have H := H1;clear H1;obtain rfl := Option.some.inj H;go_enter Try.func101,Try.ntmps101
      go_wp2_with (first | ((with_reducible refine gate_dst (N := 2) rfl ?_); refine box_event ?hg (N := 2) ?hd (cs := #[.string a0_0,.int .i64 a0_1,.int .i64 a0_2,.int .i64 a0_3,.slice A0_4 l0_4.length c0_4]) (t := 63) ?hr ?_; (case hd => rfl); (case hg => rfl); (case hr => (go_simp; done)); intro gb216 hg w9 hbox hb; have n0_ := Aside0.mk (below_step HB.out hb); have n1_ := Aside0.mk (hbox); have n2_ := Aside0.mk (by rw [hg]; exact (below_size HB.out) : w.heap.size ≤ gb216); have n3_ := Aside0.mk (by rw [hg]; exact (below_size HB.out) : w.heap.size ≤ gb216); clear HB; have HB := n0_; have BK216 := n1_; have GW216 := n2_; have GE216 := n3_; clear n0_ n1_ n2_ n3_; clear hb hbox hg) | ((with_reducible refine gate_dst (N := 3) rfl ?_); refine box_event ?hg (N := 3) ?hd (cs := #[.string a1_0,.int .i64 a1_1,.int .i64 a1_2,.int .i64 a1_3,.slice A1_4 l1_4.length c1_4]) (t := 63) ?hr ?_; (case hd => rfl); (case hg => rfl); (case hr => (go_simp; done)); intro gb217 hg w10 hbox hb; have n0_ := Aside0.mk (blk_below (g := gb216) (o := .cells #[.string a0_0,.int .i64 a0_1,.int .i64 a0_2,.int .i64 a0_3,.slice A0_4 l0_4.length c0_4] 63 (0,0)) (by exact BK216.out) hb); have n1_ := Aside0.mk (below_step HB.out hb); have n2_ := Aside0.mk (hbox); have n3_ := Aside0.mk (by rw [hg]; exact (below_size HB.out) : w.heap.size ≤ gb217); have n4_ := Aside0.mk (by rw [hg]; exact (below_size HB.out) : w.heap.size ≤ gb217); have n5_ := Aside0.mk (by rw [hg]; exact Nat.ne_of_lt (blk_lt (g := gb216) (o := .cells #[.string a0_0,.int .i64 a0_1,.int .i64 a0_2,.int .i64 a0_3,.slice A0_4 l0_4.length c0_4] 63 (0,0)) (by exact BK216.out)) : gb216 ≠ gb217); have n6_ := Aside0.mk (by rw [hg]; exact Nat.ne_of_gt (blk_lt (g := gb216) (o := .cells #[.string a0_0,.int .i64 a0_1,.int .i64 a0_2,.int .i64 a0_3,.slice A0_4 l0_4.length c0_4] 63 (0,0)) (by exact BK216.out)) : gb217 ≠ gb216); clear BK216; clear HB; have BK216 := n0_; have HB := n1_; have BK217 := n2_; have GW217 := n3_; have GE217 := n4_; have NB216_217 := n5_; have NB217_216 := n6_; clear n0_ n1_ n2_ n3_ n4_ n5_ n6_; clear hb hbox hg; have hnb11 := NB216_217.out; have hnc11 := NB217_216.out; have hcz12_0 : w10.cell? ⟨gb216,0,none⟩ = some (.string a0_0) := (blk_cell BK216.out 0).trans rfl; have hcz12_1 : w10.cell? ⟨gb216,1,none⟩ = some (.int .i64 a0_1) := (blk_cell BK216.out 1).trans rfl; have hcz12_2 : w10.cell? ⟨gb216,2,none⟩ = some (.int .i64 a0_2) := (blk_cell BK216.out 2).trans rfl; have hcz12_3 : w10.cell? ⟨gb216,3,none⟩ = some (.int .i64 a0_3) := (blk_cell BK216.out 3).trans rfl; have hcz12_4 : w10.cell? ⟨gb216,4,none⟩ = some (.slice A0_4 l0_4.length c0_4) := (blk_cell BK216.out 4).trans rfl; have hfz12_0 := blk_frozen BK216.out 0; have hfz12_1 := blk_frozen BK216.out 1; have hfz12_2 := blk_frozen BK216.out 2; have hfz12_3 := blk_frozen BK216.out 3; have hfz12_4 := blk_frozen BK216.out 4; have hcz13_0 : w10.cell? ⟨gb217,0,none⟩ = some (.string a1_0) := (blk_cell BK217.out 0).trans rfl; have hcz13_1 : w10.cell? ⟨gb217,1,none⟩ = some (.int .i64 a1_1) := (blk_cell BK217.out 1).trans rfl; have hcz13_2 : w10.cell? ⟨gb217,2,none⟩ = some (.int .i64 a1_2) := (blk_cell BK217.out 2).trans rfl; have hcz13_3 : w10.cell? ⟨gb217,3,none⟩ = some (.int .i64 a1_3) := (blk_cell BK217.out 3).trans rfl; have hcz13_4 : w10.cell? ⟨gb217,4,none⟩ = some (.slice A1_4 l1_4.length c1_4) := (blk_cell BK217.out 4).trans rfl; have hfz13_0 := blk_frozen BK217.out 0; have hfz13_1 := blk_frozen BK217.out 1; have hfz13_2 := blk_frozen BK217.out 2; have hfz13_3 := blk_frozen BK217.out 3; have hfz13_4 := blk_frozen BK217.out 4) | ((with_reducible refine gate_callee (f := 127) rfl ?_); refine goesL_ (some 29) rfl rfl Try.func127 (by kernel_rfl) rfl #[.slice A0_4 l0_4.length c0_4,.slice A1_4 l1_4.length c1_4] rfl (by (try simp only [List.map_toArray,List.map_cons,List.map_nil]); rfl) ?_; (with_reducible refine (laws_eqLeaveS.calls k _ _ l0_4 _ _ l1_4 true _ ?side1 ?side2 ?side3 ?side4 A7.out).mono ?_); (case side1 => repeat (exact (Kd.C_below HR0_4.out HB.out))); (case side2 => exact HC0_4.out); (case side3 => repeat (exact (Kd.C_below HR1_4.out HB.out))); (case side4 => exact HC1_4.out); rintro e w14 ⟨rfl,hb⟩; refine ⟨_,rfl,?_⟩; have n0_ := Aside0.mk (blk_below (g := gb216) (o := .cells #[.string a0_0,.int .i64 a0_1,.int .i64 a0_2,.int .i64 a0_3,.slice A0_4 l0_4.length c0_4] 63 (0,0)) (by exact BK216.out) hb); have n1_ := Aside0.mk (blk_below (g := gb217) (o := .cells #[.string a1_0,.int .i64 a1_1,.int .i64 a1_2,.int .i64 a1_3,.slice A1_4 l1_4.length c1_4] 63 (0,0)) (by exact BK217.out) hb); have n2_ := Aside0.mk (below_step HB.out hb); clear BK216; clear BK217; clear HB; have BK216 := n0_; have BK217 := n1_; have HB := n2_; clear n0_ n1_ n2_; (try clear hb); skip))
      go_ret;exact ⟨by rfl,HB.out⟩
     ·replace c8 := Bool.eq_false_iff.mpr c8;subst c8
      have H1 : (some false) = some r := by rw [if_neg (show ¬ (false = true) by decide)] at H; exact H
      clear H;have H := H1;clear H1;obtain rfl := Option.some.inj H;go_enter Try.func101,Try.ntmps101
      go_wp2_with (first | ((with_reducible refine gate_dst (N := 2) rfl ?_); refine box_event ?hg (N := 2) ?hd (cs := #[.string a0_0,.int .i64 a0_1,.int .i64 a0_2,.int .i64 a0_3,.slice A0_4 l0_4.length c0_4]) (t := 63) ?hr ?_; (case hd => rfl); (case hg => rfl); (case hr => (go_simp; done)); intro gb216 hg w15 hbox hb; have n0_ := Aside0.mk (below_step HB.out hb); have n1_ := Aside0.mk (hbox); have n2_ := Aside0.mk (by rw [hg]; exact (below_size HB.out) : w.heap.size ≤ gb216); have n3_ := Aside0.mk (by rw [hg]; exact (below_size HB.out) : w.heap.size ≤ gb216); clear HB; have HB := n0_; have BK216 := n1_; have GW216 := n2_; have GE216 := n3_; clear n0_ n1_ n2_ n3_; clear hb hbox hg) | ((with_reducible refine gate_dst (N := 3) rfl ?_); refine box_event ?hg (N := 3) ?hd (cs := #[.string a1_0,.int .i64 a1_1,.int .i64 a1_2,.int .i64 a1_3,.slice A1_4 l1_4.length c1_4]) (t := 63) ?hr ?_; (case hd => rfl); (case hg => rfl); (case hr => (go_simp; done)); intro gb217 hg w16 hbox hb; have n0_ := Aside0.mk (blk_below (g := gb216) (o := .cells #[.string a0_0,.int .i64 a0_1,.int .i64 a0_2,.int .i64 a0_3,.slice A0_4 l0_4.length c0_4] 63 (0,0)) (by exact BK216.out) hb); have n1_ := Aside0.mk (below_step HB.out hb); have n2_ := Aside0.mk (hbox); have n3_ := Aside0.mk (by rw [hg]; exact (below_size HB.out) : w.heap.size ≤ gb217); have n4_ := Aside0.mk (by rw [hg]; exact (below_size HB.out) : w.heap.size ≤ gb217); have n5_ := Aside0.mk (by rw [hg]; exact Nat.ne_of_lt (blk_lt (g := gb216) (o := .cells #[.string a0_0,.int .i64 a0_1,.int .i64 a0_2,.int .i64 a0_3,.slice A0_4 l0_4.length c0_4] 63 (0,0)) (by exact BK216.out)) : gb216 ≠ gb217); have n6_ := Aside0.mk (by rw [hg]; exact Nat.ne_of_gt (blk_lt (g := gb216) (o := .cells #[.string a0_0,.int .i64 a0_1,.int .i64 a0_2,.int .i64 a0_3,.slice A0_4 l0_4.length c0_4] 63 (0,0)) (by exact BK216.out)) : gb217 ≠ gb216); clear BK216; clear HB; have BK216 := n0_; have HB := n1_; have BK217 := n2_; have GW217 := n3_; have GE217 := n4_; have NB216_217 := n5_; have NB217_216 := n6_; clear n0_ n1_ n2_ n3_ n4_ n5_ n6_; clear hb hbox hg; have hnb17 := NB216_217.out; have hnc17 := NB217_216.out; have hcz18_0 : w16.cell? ⟨gb216,0,none⟩ = some (.string a0_0) := (blk_cell BK216.out 0).trans rfl; have hcz18_1 : w16.cell? ⟨gb216,1,none⟩ = some (.int .i64 a0_1) := (blk_cell BK216.out 1).trans rfl; have hcz18_2 : w16.cell? ⟨gb216,2,none⟩ = some (.int .i64 a0_2) := (blk_cell BK216.out 2).trans rfl; have hcz18_3 : w16.cell? ⟨gb216,3,none⟩ = some (.int .i64 a0_3) := (blk_cell BK216.out 3).trans rfl; have hcz18_4 : w16.cell? ⟨gb216,4,none⟩ = some (.slice A0_4 l0_4.length c0_4) := (blk_cell BK216.out 4).trans rfl; have hfz18_0 := blk_frozen BK216.out 0; have hfz18_1 := blk_frozen BK216.out 1; have hfz18_2 := blk_frozen BK216.out 2; have hfz18_3 := blk_frozen BK216.out 3; have hfz18_4 := blk_frozen BK216.out 4; have hcz19_0 : w16.cell? ⟨gb217,0,none⟩ = some (.string a1_0) := (blk_cell BK217.out 0).trans rfl; have hcz19_1 : w16.cell? ⟨gb217,1,none⟩ = some (.int .i64 a1_1) := (blk_cell BK217.out 1).trans rfl; have hcz19_2 : w16.cell? ⟨gb217,2,none⟩ = some (.int .i64 a1_2) := (blk_cell BK217.out 2).trans rfl; have hcz19_3 : w16.cell? ⟨gb217,3,none⟩ = some (.int .i64 a1_3) := (blk_cell BK217.out 3).trans rfl; have hcz19_4 : w16.cell? ⟨gb217,4,none⟩ = some (.slice A1_4 l1_4.length c1_4) := (blk_cell BK217.out 4).trans rfl; have hfz19_0 := blk_frozen BK217.out 0; have hfz19_1 := blk_frozen BK217.out 1; have hfz19_2 := blk_frozen BK217.out 2; have hfz19_3 := blk_frozen BK217.out 3; have hfz19_4 := blk_frozen BK217.out 4) | ((with_reducible refine gate_callee (f := 127) rfl ?_); refine goesL_ (some 29) rfl rfl Try.func127 (by kernel_rfl) rfl #[.slice A0_4 l0_4.length c0_4,.slice A1_4 l1_4.length c1_4] rfl (by (try simp only [List.map_toArray,List.map_cons,List.map_nil]); rfl) ?_; (with_reducible refine (laws_eqLeaveS.calls k _ _ l0_4 _ _ l1_4 false _ ?side1 ?side2 ?side3 ?side4 A7.out).mono ?_); (case side1 => repeat (exact (Kd.C_below HR0_4.out HB.out))); (case side2 => exact HC0_4.out); (case side3 => repeat (exact (Kd.C_below HR1_4.out HB.out))); (case side4 => exact HC1_4.out); rintro e w20 ⟨rfl,hb⟩; refine ⟨_,rfl,?_⟩; have n0_ := Aside0.mk (blk_below (g := gb216) (o := .cells #[.string a0_0,.int .i64 a0_1,.int .i64 a0_2,.int .i64 a0_3,.slice A0_4 l0_4.length c0_4] 63 (0,0)) (by exact BK216.out) hb); have n1_ := Aside0.mk (blk_below (g := gb217) (o := .cells #[.string a1_0,.int .i64 a1_1,.int .i64 a1_2,.int .i64 a1_3,.slice A1_4 l1_4.length c1_4] 63 (0,0)) (by exact BK217.out) hb); have n2_ := Aside0.mk (below_step HB.out hb); clear BK216; clear BK217; clear HB; have BK216 := n0_; have BK217 := n1_; have HB := n2_; clear n0_ n1_ n2_; (try clear hb); skip))
      go_ret;exact ⟨by rfl,HB.out⟩
    ·rw [if_neg c6] at H;have c6b0 : (a0_3 == a1_3) = false := beq_eq_false_iff_ne.mpr c6;have c6b1 : (a0_3 != a1_3) = true := bne_iff_ne.mpr c6;obtain rfl := Option.some.inj H;go_enter Try.func101,Try.ntmps101
     go_wp2_with (first | ((with_reducible refine gate_dst (N := 2) rfl ?_); refine box_event ?hg (N := 2) ?hd (cs := #[.string a0_0,.int .i64 a0_1,.int .i64 a0_2,.int .i64 a0_3,.slice A0_4 l0_4.length c0_4]) (t := 63) ?hr ?_; (case hd => rfl); (case hg => rfl); (case hr => (go_simp; done)); intro gb216 hg w21 hbox hb; have n0_ := Aside0.mk (below_step HB.out hb); have n1_ := Aside0.mk (hbox); have n2_ := Aside0.mk (by rw [hg]; exact (below_size HB.out) : w.heap.size ≤ gb216); have n3_ := Aside0.mk (by rw [hg]; exact (below_size HB.out) : w.heap.size ≤ gb216); clear HB; have HB := n0_; have BK216 := n1_; have GW216 := n2_; have GE216 := n3_; clear n0_ n1_ n2_ n3_; clear hb hbox hg) | ((with_reducible refine gate_dst (N := 3) rfl ?_); refine box_event ?hg (N := 3) ?hd (cs := #[.string a1_0,.int .i64 a1_1,.int .i64 a1_2,.int .i64 a1_3,.slice A1_4 l1_4.length c1_4]) (t := 63) ?hr ?_; (case hd => rfl); (case hg => rfl); (case hr => (go_simp; done)); intro gb217 hg w22 hbox hb; have n0_ := Aside0.mk (blk_below (g := gb216) (o := .cells #[.string a0_0,.int .i64 a0_1,.int .i64 a0_2,.int .i64 a0_3,.slice A0_4 l0_4.length c0_4] 63 (0,0)) (by exact BK216.out) hb); have n1_ := Aside0.mk (below_step HB.out hb); have n2_ := Aside0.mk (hbox); have n3_ := Aside0.mk (by rw [hg]; exact (below_size HB.out) : w.heap.size ≤ gb217); have n4_ := Aside0.mk (by rw [hg]; exact (below_size HB.out) : w.heap.size ≤ gb217); have n5_ := Aside0.mk (by rw [hg]; exact Nat.ne_of_lt (blk_lt (g := gb216) (o := .cells #[.string a0_0,.int .i64 a0_1,.int .i64 a0_2,.int .i64 a0_3,.slice A0_4 l0_4.length c0_4] 63 (0,0)) (by exact BK216.out)) : gb216 ≠ gb217); have n6_ := Aside0.mk (by rw [hg]; exact Nat.ne_of_gt (blk_lt (g := gb216) (o := .cells #[.string a0_0,.int .i64 a0_1,.int .i64 a0_2,.int .i64 a0_3,.slice A0_4 l0_4.length c0_4] 63 (0,0)) (by exact BK216.out)) : gb217 ≠ gb216); clear BK216; clear HB; have BK216 := n0_; have HB := n1_; have BK217 := n2_; have GW217 := n3_; have GE217 := n4_; have NB216_217 := n5_; have NB217_216 := n6_; clear n0_ n1_ n2_ n3_ n4_ n5_ n6_; clear hb hbox hg; have hnb23 := NB216_217.out; have hnc23 := NB217_216.out; have hcz24_0 : w22.cell? ⟨gb216,0,none⟩ = some (.string a0_0) := (blk_cell BK216.out 0).trans rfl; have hcz24_1 : w22.cell? ⟨gb216,1,none⟩ = some (.int .i64 a0_1) := (blk_cell BK216.out 1).trans rfl; have hcz24_2 : w22.cell? ⟨gb216,2,none⟩ = some (.int .i64 a0_2) := (blk_cell BK216.out 2).trans rfl; have hcz24_3 : w22.cell? ⟨gb216,3,none⟩ = some (.int .i64 a0_3) := (blk_cell BK216.out 3).trans rfl; have hcz24_4 : w22.cell? ⟨gb216,4,none⟩ = some (.slice A0_4 l0_4.length c0_4) := (blk_cell BK216.out 4).trans rfl; have hfz24_0 := blk_frozen BK216.out 0; have hfz24_1 := blk_frozen BK216.out 1; have hfz24_2 := blk_frozen BK216.out 2; have hfz24_3 := blk_frozen BK216.out 3; have hfz24_4 := blk_frozen BK216.out 4; have hcz25_0 : w22.cell? ⟨gb217,0,none⟩ = some (.string a1_0) := (blk_cell BK217.out 0).trans rfl; have hcz25_1 : w22.cell? ⟨gb217,1,none⟩ = some (.int .i64 a1_1) := (blk_cell BK217.out 1).trans rfl; have hcz25_2 : w22.cell? ⟨gb217,2,none⟩ = some (.int .i64 a1_2) := (blk_cell BK217.out 2).trans rfl; have hcz25_3 : w22.cell? ⟨gb217,3,none⟩ = some (.int .i64 a1_3) := (blk_cell BK217.out 3).trans rfl; have hcz25_4 : w22.cell? ⟨gb217,4,none⟩ = some (.slice A1_4 l1_4.length c1_4) := (blk_cell BK217.out 4).trans rfl; have hfz25_0 := blk_frozen BK217.out 0; have hfz25_1 := blk_frozen BK217.out 1; have hfz25_2 := blk_frozen BK217.out 2; have hfz25_3 := blk_frozen BK217.out 3; have hfz25_4 := blk_frozen BK217.out 4))
     go_ret;exact ⟨by rfl,HB.out⟩
   ·rw [if_neg c5] at H;have c5b0 : (a0_2 == a1_2) = false := beq_eq_false_iff_ne.mpr c5;have c5b1 : (a0_2 != a1_2) = true := bne_iff_ne.mpr c5;obtain rfl := Option.some.inj H;go_enter Try.func101,Try.ntmps101
    go_wp2_with (first | ((with_reducible refine gate_dst (N := 2) rfl ?_); refine box_event ?hg (N := 2) ?hd (cs := #[.string a0_0,.int .i64 a0_1,.int .i64 a0_2,.int .i64 a0_3,.slice A0_4 l0_4.length c0_4]) (t := 63) ?hr ?_; (case hd => rfl); (case hg => rfl); (case hr => (go_simp; done)); intro gb216 hg w26 hbox hb; have n0_ := Aside0.mk (below_step HB.out hb); have n1_ := Aside0.mk (hbox); have n2_ := Aside0.mk (by rw [hg]; exact (below_size HB.out) : w.heap.size ≤ gb216); have n3_ := Aside0.mk (by rw [hg]; exact (below_size HB.out) : w.heap.size ≤ gb216); clear HB; have HB := n0_; have BK216 := n1_; have GW216 := n2_; have GE216 := n3_; clear n0_ n1_ n2_ n3_; clear hb hbox hg) | ((with_reducible refine gate_dst (N := 3) rfl ?_); refine box_event ?hg (N := 3) ?hd (cs := #[.string a1_0,.int .i64 a1_1,.int .i64 a1_2,.int .i64 a1_3,.slice A1_4 l1_4.length c1_4]) (t := 63) ?hr ?_; (case hd => rfl); (case hg => rfl); (case hr => (go_simp; done)); intro gb217 hg w27 hbox hb; have n0_ := Aside0.mk (blk_below (g := gb216) (o := .cells #[.string a0_0,.int .i64 a0_1,.int .i64 a0_2,.int .i64 a0_3,.slice A0_4 l0_4.length c0_4] 63 (0,0)) (by exact BK216.out) hb); have n1_ := Aside0.mk (below_step HB.out hb); have n2_ := Aside0.mk (hbox); have n3_ := Aside0.mk (by rw [hg]; exact (below_size HB.out) : w.heap.size ≤ gb217); have n4_ := Aside0.mk (by rw [hg]; exact (below_size HB.out) : w.heap.size ≤ gb217); have n5_ := Aside0.mk (by rw [hg]; exact Nat.ne_of_lt (blk_lt (g := gb216) (o := .cells #[.string a0_0,.int .i64 a0_1,.int .i64 a0_2,.int .i64 a0_3,.slice A0_4 l0_4.length c0_4] 63 (0,0)) (by exact BK216.out)) : gb216 ≠ gb217); have n6_ := Aside0.mk (by rw [hg]; exact Nat.ne_of_gt (blk_lt (g := gb216) (o := .cells #[.string a0_0,.int .i64 a0_1,.int .i64 a0_2,.int .i64 a0_3,.slice A0_4 l0_4.length c0_4] 63 (0,0)) (by exact BK216.out)) : gb217 ≠ gb216); clear BK216; clear HB; have BK216 := n0_; have HB := n1_; have BK217 := n2_; have GW217 := n3_; have GE217 := n4_; have NB216_217 := n5_; have NB217_216 := n6_; clear n0_ n1_ n2_ n3_ n4_ n5_ n6_; clear hb hbox hg; have hnb28 := NB216_217.out; have hnc28 := NB217_216.out; have hcz29_0 : w27.cell? ⟨gb216,0,none⟩ = some (.string a0_0) := (blk_cell BK216.out 0).trans rfl; have hcz29_1 : w27.cell? ⟨gb216,1,none⟩ = some (.int .i64 a0_1) := (blk_cell BK216.out 1).trans rfl; have hcz29_2 : w27.cell? ⟨gb216,2,none⟩ = some (.int .i64 a0_2) := (blk_cell BK216.out 2).trans rfl; have hcz29_3 : w27.cell? ⟨gb216,3,none⟩ = some (.int .i64 a0_3) := (blk_cell BK216.out 3).trans rfl; have hcz29_4 : w27.cell? ⟨gb216,4,none⟩ = some (.slice A0_4 l0_4.length c0_4) := (blk_cell BK216.out 4).trans rfl; have hfz29_0 := blk_frozen BK216.out 0; have hfz29_1 := blk_frozen BK216.out 1; have hfz29_2 := blk_frozen BK216.out 2; have hfz29_3 := blk_frozen BK216.out 3; have hfz29_4 := blk_frozen BK216.out 4; have hcz30_0 : w27.cell? ⟨gb217,0,none⟩ = some (.string a1_0) := (blk_cell BK217.out 0).trans rfl; have hcz30_1 : w27.cell? ⟨gb217,1,none⟩ = some (.int .i64 a1_1) := (blk_cell BK217.out 1).trans rfl; have hcz30_2 : w27.cell? ⟨gb217,2,none⟩ = some (.int .i64 a1_2) := (blk_cell BK217.out 2).trans rfl; have hcz30_3 : w27.cell? ⟨gb217,3,none⟩ = some (.int .i64 a1_3) := (blk_cell BK217.out 3).trans rfl; have hcz30_4 : w27.cell? ⟨gb217,4,none⟩ = some (.slice A1_4 l1_4.length c1_4) := (blk_cell BK217.out 4).trans rfl; have hfz30_0 := blk_frozen BK217.out 0; have hfz30_1 := blk_frozen BK217.out 1; have hfz30_2 := blk_frozen BK217.out 2; have hfz30_3 := blk_frozen BK217.out 3; have hfz30_4 := blk_frozen BK217.out 4))
    go_ret;exact ⟨by rfl,HB.out⟩
  ·rw [if_neg c4] at H;have c4b0 : (a0_1 == a1_1) = false := beq_eq_false_iff_ne.mpr c4;have c4b1 : (a0_1 != a1_1) = true := bne_iff_ne.mpr c4;obtain rfl := Option.some.inj H;go_enter Try.func101,Try.ntmps101
   go_wp2_with (first | ((with_reducible refine gate_dst (N := 2) rfl ?_); refine box_event ?hg (N := 2) ?hd (cs := #[.string a0_0,.int .i64 a0_1,.int .i64 a0_2,.int .i64 a0_3,.slice A0_4 l0_4.length c0_4]) (t := 63) ?hr ?_; (case hd => rfl); (case hg => rfl); (case hr => (go_simp; done)); intro gb216 hg w31 hbox hb; have n0_ := Aside0.mk (below_step HB.out hb); have n1_ := Aside0.mk (hbox); have n2_ := Aside0.mk (by rw [hg]; exact (below_size HB.out) : w.heap.size ≤ gb216); have n3_ := Aside0.mk (by rw [hg]; exact (below_size HB.out) : w.heap.size ≤ gb216); clear HB; have HB := n0_; have BK216 := n1_; have GW216 := n2_; have GE216 := n3_; clear n0_ n1_ n2_ n3_; clear hb hbox hg) | ((with_reducible refine gate_dst (N := 3) rfl ?_); refine box_event ?hg (N := 3) ?hd (cs := #[.string a1_0,.int .i64 a1_1,.int .i64 a1_2,.int .i64 a1_3,.slice A1_4 l1_4.length c1_4]) (t := 63) ?hr ?_; (case hd => rfl); (case hg => rfl); (case hr => (go_simp; done)); intro gb217 hg w32 hbox hb; have n0_ := Aside0.mk (blk_below (g := gb216) (o := .cells #[.string a0_0,.int .i64 a0_1,.int .i64 a0_2,.int .i64 a0_3,.slice A0_4 l0_4.length c0_4] 63 (0,0)) (by exact BK216.out) hb); have n1_ := Aside0.mk (below_step HB.out hb); have n2_ := Aside0.mk (hbox); have n3_ := Aside0.mk (by rw [hg]; exact (below_size HB.out) : w.heap.size ≤ gb217); have n4_ := Aside0.mk (by rw [hg]; exact (below_size HB.out) : w.heap.size ≤ gb217); have n5_ := Aside0.mk (by rw [hg]; exact Nat.ne_of_lt (blk_lt (g := gb216) (o := .cells #[.string a0_0,.int .i64 a0_1,.int .i64 a0_2,.int .i64 a0_3,.slice A0_4 l0_4.length c0_4] 63 (0,0)) (by exact BK216.out)) : gb216 ≠ gb217); have n6_ := Aside0.mk (by rw [hg]; exact Nat.ne_of_gt (blk_lt (g := gb216) (o := .cells #[.string a0_0,.int .i64 a0_1,.int .i64 a0_2,.int .i64 a0_3,.slice A0_4 l0_4.length c0_4] 63 (0,0)) (by exact BK216.out)) : gb217 ≠ gb216); clear BK216; clear HB; have BK216 := n0_; have HB := n1_; have BK217 := n2_; have GW217 := n3_; have GE217 := n4_; have NB216_217 := n5_; have NB217_216 := n6_; clear n0_ n1_ n2_ n3_ n4_ n5_ n6_; clear hb hbox hg; have hnb33 := NB216_217.out; have hnc33 := NB217_216.out; have hcz34_0 : w32.cell? ⟨gb216,0,none⟩ = some (.string a0_0) := (blk_cell BK216.out 0).trans rfl; have hcz34_1 : w32.cell? ⟨gb216,1,none⟩ = some (.int .i64 a0_1) := (blk_cell BK216.out 1).trans rfl; have hcz34_2 : w32.cell? ⟨gb216,2,none⟩ = some (.int .i64 a0_2) := (blk_cell BK216.out 2).trans rfl; have hcz34_3 : w32.cell? ⟨gb216,3,none⟩ = some (.int .i64 a0_3) := (blk_cell BK216.out 3).trans rfl; have hcz34_4 : w32.cell? ⟨gb216,4,none⟩ = some (.slice A0_4 l0_4.length c0_4) := (blk_cell BK216.out 4).trans rfl; have hfz34_0 := blk_frozen BK216.out 0; have hfz34_1 := blk_frozen BK216.out 1; have hfz34_2 := blk_frozen BK216.out 2; have hfz34_3 := blk_frozen BK216.out 3; have hfz34_4 := blk_frozen BK216.out 4; have hcz35_0 : w32.cell? ⟨gb217,0,none⟩ = some (.string a1_0) := (blk_cell BK217.out 0).trans rfl; have hcz35_1 : w32.cell? ⟨gb217,1,none⟩ = some (.int .i64 a1_1) := (blk_cell BK217.out 1).trans rfl; have hcz35_2 : w32.cell? ⟨gb217,2,none⟩ = some (.int .i64 a1_2) := (blk_cell BK217.out 2).trans rfl; have hcz35_3 : w32.cell? ⟨gb217,3,none⟩ = some (.int .i64 a1_3) := (blk_cell BK217.out 3).trans rfl; have hcz35_4 : w32.cell? ⟨gb217,4,none⟩ = some (.slice A1_4 l1_4.length c1_4) := (blk_cell BK217.out 4).trans rfl; have hfz35_0 := blk_frozen BK217.out 0; have hfz35_1 := blk_frozen BK217.out 1; have hfz35_2 := blk_frozen BK217.out 2; have hfz35_3 := blk_frozen BK217.out 3; have hfz35_4 := blk_frozen BK217.out 4))
   go_ret;exact ⟨by rfl,HB.out⟩
 ·rw [if_neg c3] at H;have c3b0 : (a0_0.toList == a1_0.toList) = false := beq_eq_false_iff_ne.mpr c3;have c3b1 : (a0_0.toList != a1_0.toList) = true := bne_iff_ne.mpr c3;obtain rfl := Option.some.inj H;go_enter Try.func101,Try.ntmps101
  go_wp2_with (first | ((with_reducible refine gate_dst (N := 2) rfl ?_); refine box_event ?hg (N := 2) ?hd (cs := #[.string a0_0,.int .i64 a0_1,.int .i64 a0_2,.int .i64 a0_3,.slice A0_4 l0_4.length c0_4]) (t := 63) ?hr ?_; (case hd => rfl); (case hg => rfl); (case hr => (go_simp; done)); intro gb216 hg w36 hbox hb; have n0_ := Aside0.mk (below_step HB.out hb); have n1_ := Aside0.mk (hbox); have n2_ := Aside0.mk (by rw [hg]; exact (below_size HB.out) : w.heap.size ≤ gb216); have n3_ := Aside0.mk (by rw [hg]; exact (below_size HB.out) : w.heap.size ≤ gb216); clear HB; have HB := n0_; have BK216 := n1_; have GW216 := n2_; have GE216 := n3_; clear n0_ n1_ n2_ n3_; clear hb hbox hg) | ((with_reducible refine gate_dst (N := 3) rfl ?_); refine box_event ?hg (N := 3) ?hd (cs := #[.string a1_0,.int .i64 a1_1,.int .i64 a1_2,.int .i64 a1_3,.slice A1_4 l1_4.length c1_4]) (t := 63) ?hr ?_; (case hd => rfl); (case hg => rfl); (case hr => (go_simp; done)); intro gb217 hg w37 hbox hb; have n0_ := Aside0.mk (blk_below (g := gb216) (o := .cells #[.string a0_0,.int .i64 a0_1,.int .i64 a0_2,.int .i64 a0_3,.slice A0_4 l0_4.length c0_4] 63 (0,0)) (by exact BK216.out) hb); have n1_ := Aside0.mk (below_step HB.out hb); have n2_ := Aside0.mk (hbox); have n3_ := Aside0.mk (by rw [hg]; exact (below_size HB.out) : w.heap.size ≤ gb217); have n4_ := Aside0.mk (by rw [hg]; exact (below_size HB.out) : w.heap.size ≤ gb217); have n5_ := Aside0.mk (by rw [hg]; exact Nat.ne_of_lt (blk_lt (g := gb216) (o := .cells #[.string a0_0,.int .i64 a0_1,.int .i64 a0_2,.int .i64 a0_3,.slice A0_4 l0_4.length c0_4] 63 (0,0)) (by exact BK216.out)) : gb216 ≠ gb217); have n6_ := Aside0.mk (by rw [hg]; exact Nat.ne_of_gt (blk_lt (g := gb216) (o := .cells #[.string a0_0,.int .i64 a0_1,.int .i64 a0_2,.int .i64 a0_3,.slice A0_4 l0_4.length c0_4] 63 (0,0)) (by exact BK216.out)) : gb217 ≠ gb216); clear BK216; clear HB; have BK216 := n0_; have HB := n1_; have BK217 := n2_; have GW217 := n3_; have GE217 := n4_; have NB216_217 := n5_; have NB217_216 := n6_; clear n0_ n1_ n2_ n3_ n4_ n5_ n6_; clear hb hbox hg; have hnb38 := NB216_217.out; have hnc38 := NB217_216.out; have hcz39_0 : w37.cell? ⟨gb216,0,none⟩ = some (.string a0_0) := (blk_cell BK216.out 0).trans rfl; have hcz39_1 : w37.cell? ⟨gb216,1,none⟩ = some (.int .i64 a0_1) := (blk_cell BK216.out 1).trans rfl; have hcz39_2 : w37.cell? ⟨gb216,2,none⟩ = some (.int .i64 a0_2) := (blk_cell BK216.out 2).trans rfl; have hcz39_3 : w37.cell? ⟨gb216,3,none⟩ = some (.int .i64 a0_3) := (blk_cell BK216.out 3).trans rfl; have hcz39_4 : w37.cell? ⟨gb216,4,none⟩ = some (.slice A0_4 l0_4.length c0_4) := (blk_cell BK216.out 4).trans rfl; have hfz39_0 := blk_frozen BK216.out 0; have hfz39_1 := blk_frozen BK216.out 1; have hfz39_2 := blk_frozen BK216.out 2; have hfz39_3 := blk_frozen BK216.out 3; have hfz39_4 := blk_frozen BK216.out 4; have hcz40_0 : w37.cell? ⟨gb217,0,none⟩ = some (.string a1_0) := (blk_cell BK217.out 0).trans rfl; have hcz40_1 : w37.cell? ⟨gb217,1,none⟩ = some (.int .i64 a1_1) := (blk_cell BK217.out 1).trans rfl; have hcz40_2 : w37.cell? ⟨gb217,2,none⟩ = some (.int .i64 a1_2) := (blk_cell BK217.out 2).trans rfl; have hcz40_3 : w37.cell? ⟨gb217,3,none⟩ = some (.int .i64 a1_3) := (blk_cell BK217.out 3).trans rfl; have hcz40_4 : w37.cell? ⟨gb217,4,none⟩ = some (.slice A1_4 l1_4.length c1_4) := (blk_cell BK217.out 4).trans rfl; have hfz40_0 := blk_frozen BK217.out 0; have hfz40_1 := blk_frozen BK217.out 1; have hfz40_2 := blk_frozen BK217.out 2; have hfz40_3 := blk_frozen BK217.out 3; have hfz40_4 := blk_frozen BK217.out 4))
  go_ret;exact ⟨by rfl,HB.out⟩

/-! ### laws_eqAcctS: function 54 -/
def laws_eqAcctS.l0 : Nat → List (S63) → List (S63) → Int → Option (Bool)
 | 0,_,_,_ => none
 | k + 1,x0,x1,x5 => if x5 < (x0.length : Int) then (if 0 ≤ x5 then (if x5 < (x1.length : Int) then ((laws_eqAcct.f k ((rd_T63 x0 x5).f0) ((rd_T63 x0 x5).f1) ((rd_T63 x0 x5).f2) ((rd_T63 x0 x5).f3) ((rd_T63 x0 x5).f4) ((rd_T63 x1 x5).f0) ((rd_T63 x1 x5).f1) ((rd_T63 x1 x5).f2) ((rd_T63 x1 x5).f3) ((rd_T63 x1 x5).f4)).bind fun t221 => (if t221 = true then (laws_eqAcctS.l0 k x0 x1 (wrap64 (x5 + 1))) else (some false))) else (none)) else (none)) else (some true)
def laws_eqAcctS.f (k : Nat) (l0 : List (S63)) (l1 : List (S63)) : Option (Bool) := if (l0.length : Int) = (l1.length : Int) then (laws_eqAcctS.l0 k l0 l1 0) else (some false)
theorem laws_eqAcctS.mono_l : ∀ k,(∀ y0 y1 y2,LeO (laws_eqAcctS.l0 k y0 y1 y2) (laws_eqAcctS.l0 (k + 1) y0 y1 y2))
 | 0 => fun _ _ _ r h => by simp [laws_eqAcctS.l0] at h
 | k + 1 => by
  have ih0 := laws_eqAcctS.mono_l k
  ·intro y0 y1 y2;unfold laws_eqAcctS.l0
   repeat' first
   | (with_reducible exact ih0 _ _ _)
   | (with_reducible exact laws_eqAcct.mono _ _ _ _ _ _ _ _ _ _ _)
   | (with_reducible exact LeO.refl _)
   | (with_reducible exact LeO.none _)
   | (with_reducible refine LeO.ite ?_ ?_)
   | (with_reducible refine LeO.bind ?_ (fun _ => ?_))
   | exact ih0 _ _ _
   | exact laws_eqAcct.mono _ _ _ _ _ _ _ _ _ _ _
   | exact LeO.none _
theorem laws_eqAcctS.mono : ∀ a0 a1 k,LeO (laws_eqAcctS.f k a0 a1) (laws_eqAcctS.f (k + 1) a0 a1) := by
 intro a0 a1 k;have ih0 := laws_eqAcctS.mono_l k;unfold laws_eqAcctS.f
 repeat' first
   | (with_reducible exact ih0 _ _ _)
   | (with_reducible exact laws_eqAcct.mono _ _ _ _ _ _ _ _ _ _ _)
   | (with_reducible exact LeO.refl _)
   | (with_reducible exact LeO.none _)
   | (with_reducible refine LeO.ite ?_ ?_)
   | (with_reducible refine LeO.bind ?_ (fun _ => ?_))
   | exact ih0 _ _ _
   | exact laws_eqAcct.mono _ _ _ _ _ _ _ _ _ _ _
   | exact LeO.none _
def laws_eqAcctS.T6 : Bool × List (List Nat × List Nat) := (true,[([],[]),([],[]),([0,1],[0,1]),([2],[2]),([],[]),([],[]),([4,5],[4,5]),([6],[6]),([3,7],[3,7]),([8],[8])])
def laws_eqAcctS.B6 : List Nat := [0,0,3,7,0,0,48,112,255,511]
theorem laws_eqAcctS.tab6 : rtab .any (opsOf Try.f54 6) = laws_eqAcctS.T6 := by kernel_rfl
theorem laws_eqAcctS.bits6 : waitsOk laws_eqAcctS.T6.2 laws_eqAcctS.B6 = true := by kernel_rfl
set_option maxHeartbeats 8000000 in
set_option maxRecDepth 100000 in
theorem laws_eqAcctS.calls (k : Nat) (A0 : Option Addr) (c0 : Nat) (l0 : List (S63)) (A1 : Option Addr) (c1 : Nat) (l1 : List (S63)) (r : Bool) (w : World) (hr0 : Kd.C k63 w A0 l0.length l0) (hc0 : l0.length ≤ c0) (hr1 : Kd.C k63 w A1 l1.length l1) (hc1 : l1.length ≤ c1) (h : laws_eqAcctS.f k l0 l1 = some r) :
  Calls Try.prog 54 #[.slice A0 l0.length c0,.slice A1 l1.length c1] w fun e w' => e = .returned (.bool r) ∧ Below w.heap.size w w' := by
 have hu63 := Try.underlying63;have HR0 := Aside0.mk hr0;have HC0 := Aside0.mk hc0;clear hr0 hc0;have HR1 := Aside0.mk hr1;have HC1 := Aside0.mk hc1;clear hr1 hc1;have HB := Aside0.mk (Below.refl w.heap.size w);have H : (if (l0.length : Int) = (l1.length : Int) then (laws_eqAcctS.l0 k l0 l1 0) else (some false)) = some r := h;clear h
 by_cases c3 : (l0.length : Int) = (l1.length : Int)
 ·rw [if_pos c3] at H;have c3b0 : ((l0.length : Int) == (l1.length : Int)) = true := beq_iff_eq.mpr c3;have c3b1 : ((l0.length : Int) != (l1.length : Int)) = false := bne_eq_false_iff_eq.mpr c3
  have c3b2 : (l0.length == l1.length) = true := by (simp at c3 ⊢; omega)
  clear c3;have H' := Aside0.mk H;clear H;go_enter Try.func54,Try.ntmps54;go_wp2
  go_loopg [5] k (fun kq v5 w' => ∃ (x5_1 : Int),v5 = .int .i64 x5_1 ∧ Aside0 (laws_eqAcctS.l0 kq l0 l1 x5_1 = some r) ∧ Aside0 (kq ≤ k) ∧ Aside0 (Below w.heap.size w w'))
  case atStart => exact ⟨(0),(by rfl),H',⟨Nat.le_refl _⟩,⟨HB.out⟩⟩
  case round =>
   clear H'
   try clear c1
   try clear p2
   try clear c3
   try clear c3b0
   try clear c3b1
   try clear c3b2
   obtain ⟨x5_1,rfl,HA,HK1,HB⟩ := hrel
   cases gk with
   | zero => exact absurd HA.out (by simp [laws_eqAcctS.l0])
   | succ k1 =>
    have H := HA.out;clear HA;simp only [laws_eqAcctS.l0] at H
    by_cases c4 : x5_1 < (l0.length : Int)
    ·rw [if_pos c4] at H;have c4b0 : decide (x5_1 < (l0.length : Int)) = true := decide_eq_true c4;clear c4
     by_cases c5 : 0 ≤ x5_1
     ·rw [if_pos c5] at H;have c5b0 : decide (0 ≤ x5_1) = true := decide_eq_true c5;clear c5
      by_cases c6 : x5_1 < (l1.length : Int)
      ·rw [if_pos c6] at H;have c6b0 : decide (x5_1 < (l1.length : Int)) = true := decide_eq_true c6;clear c6;replace H := Option.bind_eq_some_iff.mp H;obtain ⟨t221,A70,H⟩ := H;replace H : (if t221 = true then (laws_eqAcctS.l0 k1 l0 l1 (wrap64 (x5_1 + 1))) else (some false)) = some r := H;have A7 := Aside0.mk A70;clear A70
       by_cases c8 : t221 = true
       ·subst c8
        have H1 : (laws_eqAcctS.l0 k1 l0 l1 (wrap64 (x5_1 + 1))) = some r := by rw [if_pos rfl] at H; exact H
        clear H;have H := H1;clear H1;have H' := Aside0.mk H;clear H
        try go_wp2
        have n0_ := Aside0.mk (below_drew1 HB.out);clear HB;have HB := n0_;clear n0_;have p219 : 0 ≤ (x5_1 : Int) := of_decide_eq_true (by (with_reducible assumption));have q219 : x5_1 < (l0.length : Int) := of_decide_eq_true (by (with_reducible assumption));obtain ⟨ad219,A219_4,c219_4,e219,hx219_0,hx219_1,hx219_2,hx219_3,hx219_4,hl219_4,hi219_4⟩ := at_T63 HR0.out x5_1 p219 q219;have hw219_4 := hx219_4;have hw219_3 := hx219_3;have hw219_2 := hx219_2;have hw219_1 := hx219_1;have hw219_0 := hx219_0
        cases e219
        replace hx219_0 := (HB.out.cell (World.block_lt_of_cell? w _ hx219_0)).trans hx219_0;replace hx219_1 := (HB.out.cell (World.block_lt_of_cell? w _ hx219_1)).trans hx219_1;replace hx219_2 := (HB.out.cell (World.block_lt_of_cell? w _ hx219_2)).trans hx219_2;replace hx219_3 := (HB.out.cell (World.block_lt_of_cell? w _ hx219_3)).trans hx219_3;replace hx219_4 := (HB.out.cell (World.block_lt_of_cell? w _ hx219_4)).trans hx219_4;have HR219_4 := Aside0.mk hi219_4;have HC219_4 := Aside0.mk hl219_4;clear hi219_4 hl219_4;replace p219 := eq_true p219;replace q219 := eq_true q219;have p220 : 0 ≤ (x5_1 : Int) := of_decide_eq_true (by (with_reducible assumption));have q220 : x5_1 < (l1.length : Int) := of_decide_eq_true (by (with_reducible assumption));obtain ⟨ad220,A220_4,c220_4,e220,hx220_0,hx220_1,hx220_2,hx220_3,hx220_4,hl220_4,hi220_4⟩ := at_T63 HR1.out x5_1 p220 q220;have hw220_4 := hx220_4;have hw220_3 := hx220_3;have hw220_2 := hx220_2;have hw220_1 := hx220_1;have hw220_0 := hx220_0
        cases e220
        replace hx220_0 := (HB.out.cell (World.block_lt_of_cell? w _ hx220_0)).trans hx220_0;replace hx220_1 := (HB.out.cell (World.block_lt_of_cell? w _ hx220_1)).trans hx220_1;replace hx220_2 := (HB.out.cell (World.block_lt_of_cell? w _ hx220_2)).trans hx220_2;replace hx220_3 := (HB.out.cell (World.block_lt_of_cell? w _ hx220_3)).trans hx220_3;replace hx220_4 := (HB.out.cell (World.block_lt_of_cell? w _ hx220_4)).trans hx220_4;have HR220_4 := Aside0.mk hi220_4;have HC220_4 := Aside0.mk hl220_4;clear hi220_4 hl220_4;replace p220 := eq_true p220;replace q220 := eq_true q220;refine start_ (n := 10) (S := fun w' => w'.cell? (ad219.add ((x5_1).toNat * 5)) = some (.string ((rd_T63 l0 x5_1).f0)) ∧ w'.cell? ⟨(ad219.add ((x5_1).toNat * 5)).block,(ad219.add ((x5_1).toNat * 5)).off + 1,none⟩ = some (.int .i64 ((rd_T63 l0 x5_1).f1)) ∧ w'.cell? ⟨(ad219.add ((x5_1).toNat * 5)).block,(ad219.add ((x5_1).toNat * 5)).off + 2,none⟩ = some (.int .i64 ((rd_T63 l0 x5_1).f2)) ∧ w'.cell? ⟨(ad219.add ((x5_1).toNat * 5)).block,(ad219.add ((x5_1).toNat * 5)).off + 3,none⟩ = some (.int .i64 ((rd_T63 l0 x5_1).f3)) ∧ w'.cell? ⟨(ad219.add ((x5_1).toNat * 5)).block,(ad219.add ((x5_1).toNat * 5)).off + 4,none⟩ = some (.slice A219_4 ((rd_T63 l0 x5_1).f4).length c219_4) ∧ w'.cell? (ad220.add ((x5_1).toNat * 5)) = some (.string ((rd_T63 l1 x5_1).f0)) ∧ w'.cell? ⟨(ad220.add ((x5_1).toNat * 5)).block,(ad220.add ((x5_1).toNat * 5)).off + 1,none⟩ = some (.int .i64 ((rd_T63 l1 x5_1).f1)) ∧ w'.cell? ⟨(ad220.add ((x5_1).toNat * 5)).block,(ad220.add ((x5_1).toNat * 5)).off + 2,none⟩ = some (.int .i64 ((rd_T63 l1 x5_1).f2)) ∧ w'.cell? ⟨(ad220.add ((x5_1).toNat * 5)).block,(ad220.add ((x5_1).toNat * 5)).off + 3,none⟩ = some (.int .i64 ((rd_T63 l1 x5_1).f3)) ∧ w'.cell? ⟨(ad220.add ((x5_1).toNat * 5)).block,(ad220.add ((x5_1).toNat * 5)).off + 4,none⟩ = some (.slice A220_4 ((rd_T63 l1 x5_1).f4).length c220_4)) (ds := []) #[false,false,false,false,false,false,false,false,false,false] (by kernel_rfl) rfl rfl ⟨((HB.out.cell (World.block_lt_of_cell? w _ hw219_0)).trans hw219_0),((HB.out.cell (World.block_lt_of_cell? w _ hw219_1)).trans hw219_1),((HB.out.cell (World.block_lt_of_cell? w _ hw219_2)).trans hw219_2),((HB.out.cell (World.block_lt_of_cell? w _ hw219_3)).trans hw219_3),((HB.out.cell (World.block_lt_of_cell? w _ hw219_4)).trans hw219_4),((HB.out.cell (World.block_lt_of_cell? w _ hw220_0)).trans hw220_0),((HB.out.cell (World.block_lt_of_cell? w _ hw220_1)).trans hw220_1),((HB.out.cell (World.block_lt_of_cell? w _ hw220_2)).trans hw220_2),((HB.out.cell (World.block_lt_of_cell? w _ hw220_3)).trans hw220_3),((HB.out.cell (World.block_lt_of_cell? w _ hw220_4)).trans hw220_4)⟩ (fun hHeld => ?_); refine with_tabW laws_eqAcctS.tab6 laws_eqAcctS.bits6 (fun HT_ HW_ => ?_)
        generalize wr.drew = w9 at HB HR219_4 HR220_4 hx219_0 hx219_1 hx219_2 hx219_3 hx219_4 hx220_0 hx220_1 hx220_2 hx220_3 hx220_4 hHeld ⊢
        refine pure_ (i := 0) (N := some 17) (v := ?_) (a' := ?_) #[true,false,false,false,false,false,false,false,false,false] rfl rfl (any_of HT_.out (by kernel_rfl)) (fun _ _ _ h => h) (Or.inl ⟨by rfl,?_⟩) ?_ ?_;rotate_left
        ·intro w';go_simp;with_reducible rfl
        rotate_left
        ·simp only [wf_preprocess];rfl
        refine pure_ (i := 1) (N := some 18) (v := ?_) (a' := ?_) #[true,true,false,false,false,false,false,false,false,false] rfl rfl (any_of HT_.out (by kernel_rfl)) (fun _ _ _ h => h) (Or.inl ⟨by rfl,?_⟩) ?_ ?_;rotate_left
        ·intro w';go_simp;with_reducible rfl
        rotate_left
        ·simp only [wf_preprocess];rfl
        refine pure_ (i := 2) (N := some 19) (v := ?_) (a' := ?_) #[true,true,true,false,false,false,false,false,false,false] rfl rfl (any_of HT_.out (by kernel_rfl)) (fun _ _ _ h => h) (Or.inl ⟨by rfl,?_⟩) ?_ ?_;rotate_left
        ·intro w';go_simp;with_reducible rfl
        rotate_left
        ·simp only [wf_preprocess];rfl
        refine pure_ (i := 4) (N := some 21) (v := ?_) (a' := ?_) #[true,true,true,false,true,false,false,false,false,false] rfl rfl (any_of HT_.out (by kernel_rfl)) (fun _ _ _ h => h) (Or.inl ⟨by rfl,?_⟩) ?_ ?_;rotate_left
        ·intro w';go_simp;with_reducible rfl
        rotate_left
        ·simp only [wf_preprocess];rfl
        refine pure_ (i := 5) (N := some 22) (v := ?_) (a' := ?_) #[true,true,true,false,true,true,false,false,false,false] rfl rfl (any_of HT_.out (by kernel_rfl)) (fun _ _ _ h => h) (Or.inl ⟨by rfl,?_⟩) ?_ ?_;rotate_left
        ·intro w';go_simp;with_reducible rfl
        rotate_left
        ·simp only [wf_preprocess];rfl
        refine pure_ (i := 6) (N := some 23) (v := ?_) (a' := ?_) #[true,true,true,false,true,true,true,false,false,false] rfl rfl (any_of HT_.out (by kernel_rfl)) (fun _ _ _ h => h) (Or.inl ⟨by rfl,?_⟩) ?_ ?_;rotate_left
        ·intro w';go_simp;with_reducible rfl
        rotate_left
        ·simp only [wf_preprocess];rfl
        refine take_ (i := 3) (N := some 20) (v := ?_) (a' := ?_) #[true,true,true,true,true,true,true,false,false,false] rfl rfl (take_ofW HT_.out HW_.out (by kernel_rfl)) (fun _ _ _ h => h) (Or.inl ⟨by rfl,?_⟩) hHeld ?_ ?_;rotate_left
        ·rintro w' ⟨s0,s1,s2,s3,s4,s5,s6,s7,s8,s9⟩;go_simp;with_reducible rfl
        rotate_left
        ·simp only [wf_preprocess];rfl
        refine take_ (i := 7) (N := some 24) (v := ?_) (a' := ?_) #[true,true,true,true,true,true,true,true,false,false] rfl rfl (take_ofW HT_.out HW_.out (by kernel_rfl)) (fun _ _ _ h => h) (Or.inl ⟨by rfl,?_⟩) hHeld ?_ ?_;rotate_left
        ·rintro w' ⟨s0,s1,s2,s3,s4,s5,s6,s7,s8,s9⟩;go_simp;with_reducible rfl
        rotate_left
        ·simp only [wf_preprocess];rfl
        refine one_ (i := 8) (N := some 25) #[true,true,true,true,true,true,true,true,true,false] rfl rfl (one_of HT_.out (by kernel_rfl)) (by decide) (fun K hK => ?_);refine goes_ Try.func101 (by kernel_rfl) rfl #[.agg #[.string ((rd_T63 l0 x5_1).f0),.int .i64 ((rd_T63 l0 x5_1).f1),.int .i64 ((rd_T63 l0 x5_1).f2),.int .i64 ((rd_T63 l0 x5_1).f3),.slice A219_4 ((rd_T63 l0 x5_1).f4).length c219_4],.agg #[.string ((rd_T63 l1 x5_1).f0),.int .i64 ((rd_T63 l1 x5_1).f1),.int .i64 ((rd_T63 l1 x5_1).f2),.int .i64 ((rd_T63 l1 x5_1).f3),.slice A220_4 ((rd_T63 l1 x5_1).f4).length c220_4]] (by rfl) rfl rfl (by (try simp only [List.map_toArray,List.map_cons,List.map_nil]); rfl) ?_
        with_reducible refine (laws_eqAcct.calls k1 ((rd_T63 l0 x5_1).f0) ((rd_T63 l0 x5_1).f1) ((rd_T63 l0 x5_1).f2) ((rd_T63 l0 x5_1).f3) _ _ ((rd_T63 l0 x5_1).f4) ((rd_T63 l1 x5_1).f0) ((rd_T63 l1 x5_1).f1) ((rd_T63 l1 x5_1).f2) ((rd_T63 l1 x5_1).f3) _ _ ((rd_T63 l1 x5_1).f4) true _ ?side1 ?side2 ?side3 ?side4 A7.out).mono ?_
        (case side1 => repeat (exact (Kd.C_below HR219_4.out HB.out)))
        (case side2 => exact HC219_4.out)
        (case side3 => repeat (exact (Kd.C_below HR220_4.out HB.out)))
        (case side4 => exact HC220_4.out)
        rintro e w10 ⟨rfl,hb⟩;refine ⟨_,rfl,?_⟩;have n0_ := Aside0.mk (below_step HB.out hb);clear HB;have HB := n0_;clear n0_
        (try clear hb)
        skip
        skip
        skip
        refine hK.out _ _ ⟨((HB.out.cell (World.block_lt_of_cell? w _ hw219_0)).trans hw219_0),((HB.out.cell (World.block_lt_of_cell? w _ hw219_1)).trans hw219_1),((HB.out.cell (World.block_lt_of_cell? w _ hw219_2)).trans hw219_2),((HB.out.cell (World.block_lt_of_cell? w _ hw219_3)).trans hw219_3),((HB.out.cell (World.block_lt_of_cell? w _ hw219_4)).trans hw219_4),((HB.out.cell (World.block_lt_of_cell? w _ hw220_0)).trans hw220_0),((HB.out.cell (World.block_lt_of_cell? w _ hw220_1)).trans hw220_1),((HB.out.cell (World.block_lt_of_cell? w _ hw220_2)).trans hw220_2),((HB.out.cell (World.block_lt_of_cell? w _ hw220_3)).trans hw220_3),((HB.out.cell (World.block_lt_of_cell? w _ hw220_4)).trans hw220_4)⟩ (fun hHeld => ?_);clear hK K;refine norm_ (a' := ?_) ?_ ?_;rotate_left
        ·show Act.put _ (some 25) _ = _
         simp only [wf_preprocess];rfl
        refine pure_ (i := 9) (N := some 26) (v := ?_) (a' := ?_) #[true,true,true,true,true,true,true,true,true,true] rfl rfl (any_of HT_.out (by kernel_rfl)) (fun _ _ _ h => h) (Or.inl ⟨by rfl,?_⟩) ?_ ?_;rotate_left
        ·intro w';go_simp;with_reducible rfl
        rotate_left
        ·simp only [wf_preprocess];rfl
        refine done_ (done_of HT_.out (by kernel_rfl)) ?_
        try go_wp2
        go_roundg k1
        case measure => have := HK1.out; omega
        case rel => exact ⟨(wrap64 (x5_1 + 1)),(by rfl),H',⟨by have := HK1.out; omega⟩,⟨HB.out⟩⟩
       ·replace c8 := Bool.eq_false_iff.mpr c8;subst c8
        have H1 : (some false) = some r := by rw [if_neg (show ¬ (false = true) by decide)] at H; exact H
        clear H;have H := H1;clear H1;obtain rfl := Option.some.inj H
        try go_wp2
        have n0_ := Aside0.mk (below_drew1 HB.out);clear HB;have HB := n0_;clear n0_;have p219 : 0 ≤ (x5_1 : Int) := of_decide_eq_true (by (with_reducible assumption));have q219 : x5_1 < (l0.length : Int) := of_decide_eq_true (by (with_reducible assumption));obtain ⟨ad219,A219_4,c219_4,e219,hx219_0,hx219_1,hx219_2,hx219_3,hx219_4,hl219_4,hi219_4⟩ := at_T63 HR0.out x5_1 p219 q219;have hw219_4 := hx219_4;have hw219_3 := hx219_3;have hw219_2 := hx219_2;have hw219_1 := hx219_1;have hw219_0 := hx219_0
        cases e219
        replace hx219_0 := (HB.out.cell (World.block_lt_of_cell? w _ hx219_0)).trans hx219_0;replace hx219_1 := (HB.out.cell (World.block_lt_of_cell? w _ hx219_1)).trans hx219_1;replace hx219_2 := (HB.out.cell (World.block_lt_of_cell? w _ hx219_2)).trans hx219_2;replace hx219_3 := (HB.out.cell (World.block_lt_of_cell? w _ hx219_3)).trans hx219_3;replace hx219_4 := (HB.out.cell (World.block_lt_of_cell? w _ hx219_4)).trans hx219_4;have HR219_4 := Aside0.mk hi219_4;have HC219_4 := Aside0.mk hl219_4;clear hi219_4 hl219_4;replace p219 := eq_true p219;replace q219 := eq_true q219;have p220 : 0 ≤ (x5_1 : Int) := of_decide_eq_true (by (with_reducible assumption));have q220 : x5_1 < (l1.length : Int) := of_decide_eq_true (by (with_reducible assumption));obtain ⟨ad220,A220_4,c220_4,e220,hx220_0,hx220_1,hx220_2,hx220_3,hx220_4,hl220_4,hi220_4⟩ := at_T63 HR1.out x5_1 p220 q220;have hw220_4 := hx220_4;have hw220_3 := hx220_3;have hw220_2 := hx220_2;have hw220_1 := hx220_1;have hw220_0 := hx220_0
        cases e220
        replace hx220_0 := (HB.out.cell (World.block_lt_of_cell? w _ hx220_0)).trans hx220_0;replace hx220_1 := (HB.out.cell (World.block_lt_of_cell? w _ hx220_1)).trans hx220_1;replace hx220_2 := (HB.out.cell (World.block_lt_of_cell? w _ hx220_2)).trans hx220_2;replace hx220_3 := (HB.out.cell (World.block_lt_of_cell? w _ hx220_3)).trans hx220_3;replace hx220_4 := (HB.out.cell (World.block_lt_of_cell? w _ hx220_4)).trans hx220_4;have HR220_4 := Aside0.mk hi220_4;have HC220_4 := Aside0.mk hl220_4;clear hi220_4 hl220_4;replace p220 := eq_true p220;replace q220 := eq_true q220;refine start_ (n := 10) (S := fun w' => w'.cell? (ad219.add ((x5_1).toNat * 5)) = some (.string ((rd_T63 l0 x5_1).f0)) ∧ w'.cell? ⟨(ad219.add ((x5_1).toNat * 5)).block,(ad219.add ((x5_1).toNat * 5)).off + 1,none⟩ = some (.int .i64 ((rd_T63 l0 x5_1).f1)) ∧ w'.cell? ⟨(ad219.add ((x5_1).toNat * 5)).block,(ad219.add ((x5_1).toNat * 5)).off + 2,none⟩ = some (.int .i64 ((rd_T63 l0 x5_1).f2)) ∧ w'.cell? ⟨(ad219.add ((x5_1).toNat * 5)).block,(ad219.add ((x5_1).toNat * 5)).off + 3,none⟩ = some (.int .i64 ((rd_T63 l0 x5_1).f3)) ∧ w'.cell? ⟨(ad219.add ((x5_1).toNat * 5)).block,(ad219.add ((x5_1).toNat * 5)).off + 4,none⟩ = some (.slice A219_4 ((rd_T63 l0 x5_1).f4).length c219_4) ∧ w'.cell? (ad220.add ((x5_1).toNat * 5)) = some (.string ((rd_T63 l1 x5_1).f0)) ∧ w'.cell? ⟨(ad220.add ((x5_1).toNat * 5)).block,(ad220.add ((x5_1).toNat * 5)).off + 1,none⟩ = some (.int .i64 ((rd_T63 l1 x5_1).f1)) ∧ w'.cell? ⟨(ad220.add ((x5_1).toNat * 5)).block,(ad220.add ((x5_1).toNat * 5)).off + 2,none⟩ = some (.int .i64 ((rd_T63 l1 x5_1).f2)) ∧ w'.cell? ⟨(ad220.add ((x5_1).toNat * 5)).block,(ad220.add ((x5_1).toNat * 5)).off + 3,none⟩ = some (.int .i64 ((rd_T63 l1 x5_1).f3)) ∧ w'.cell? ⟨(ad220.add ((x5_1).toNat * 5)).block,(ad220.add ((x5_1).toNat * 5)).off + 4,none⟩ = some (.slice A220_4 ((rd_T63 l1 x5_1).f4).length c220_4)) (ds := []) #[false,false,false,false,false,false,false,false,false,false] (by kernel_rfl) rfl rfl ⟨((HB.out.cell (World.block_lt_of_cell? w _ hw219_0)).trans hw219_0),((HB.out.cell (World.block_lt_of_cell? w _ hw219_1)).trans hw219_1),((HB.out.cell (World.block_lt_of_cell? w _ hw219_2)).trans hw219_2),((HB.out.cell (World.block_lt_of_cell? w _ hw219_3)).trans hw219_3),((HB.out.cell (World.block_lt_of_cell? w _ hw219_4)).trans hw219_4),((HB.out.cell (World.block_lt_of_cell? w _ hw220_0)).trans hw220_0),((HB.out.cell (World.block_lt_of_cell? w _ hw220_1)).trans hw220_1),((HB.out.cell (World.block_lt_of_cell? w _ hw220_2)).trans hw220_2),((HB.out.cell (World.block_lt_of_cell? w _ hw220_3)).trans hw220_3),((HB.out.cell (World.block_lt_of_cell? w _ hw220_4)).trans hw220_4)⟩ (fun hHeld => ?_); refine with_tabW laws_eqAcctS.tab6 laws_eqAcctS.bits6 (fun HT_ HW_ => ?_)
        generalize wr.drew = w11 at HB HR219_4 HR220_4 hx219_0 hx219_1 hx219_2 hx219_3 hx219_4 hx220_0 hx220_1 hx220_2 hx220_3 hx220_4 hHeld ⊢
        refine pure_ (i := 0) (N := some 17) (v := ?_) (a' := ?_) #[true,false,false,false,false,false,false,false,false,false] rfl rfl (any_of HT_.out (by kernel_rfl)) (fun _ _ _ h => h) (Or.inl ⟨by rfl,?_⟩) ?_ ?_;rotate_left
        ·intro w';go_simp;with_reducible rfl
        rotate_left
        ·simp only [wf_preprocess];rfl
        refine pure_ (i := 1) (N := some 18) (v := ?_) (a' := ?_) #[true,true,false,false,false,false,false,false,false,false] rfl rfl (any_of HT_.out (by kernel_rfl)) (fun _ _ _ h => h) (Or.inl ⟨by rfl,?_⟩) ?_ ?_;rotate_left
        ·intro w';go_simp;with_reducible rfl
        rotate_left
        ·simp only [wf_preprocess];rfl
        refine pure_ (i := 2) (N := some 19) (v := ?_) (a' := ?_) #[true,true,true,false,false,false,false,false,false,false] rfl rfl (any_of HT_.out (by kernel_rfl)) (fun _ _ _ h => h) (Or.inl ⟨by rfl,?_⟩) ?_ ?_;rotate_left
        ·intro w';go_simp;with_reducible rfl
        rotate_left
        ·simp only [wf_preprocess];rfl
        refine pure_ (i := 4) (N := some 21) (v := ?_) (a' := ?_) #[true,true,true,false,true,false,false,false,false,false] rfl rfl (any_of HT_.out (by kernel_rfl)) (fun _ _ _ h => h) (Or.inl ⟨by rfl,?_⟩) ?_ ?_;rotate_left
        ·intro w';go_simp;with_reducible rfl
        rotate_left
        ·simp only [wf_preprocess];rfl
        refine pure_ (i := 5) (N := some 22) (v := ?_) (a' := ?_) #[true,true,true,false,true,true,false,false,false,false] rfl rfl (any_of HT_.out (by kernel_rfl)) (fun _ _ _ h => h) (Or.inl ⟨by rfl,?_⟩) ?_ ?_;rotate_left
        ·intro w';go_simp;with_reducible rfl
        rotate_left
        ·simp only [wf_preprocess];rfl
        refine pure_ (i := 6) (N := some 23) (v := ?_) (a' := ?_) #[true,true,true,false,true,true,true,false,false,false] rfl rfl (any_of HT_.out (by kernel_rfl)) (fun _ _ _ h => h) (Or.inl ⟨by rfl,?_⟩) ?_ ?_;rotate_left
        ·intro w';go_simp;with_reducible rfl
        rotate_left
        ·simp only [wf_preprocess];rfl
        refine take_ (i := 3) (N := some 20) (v := ?_) (a' := ?_) #[true,true,true,true,true,true,true,false,false,false] rfl rfl (take_ofW HT_.out HW_.out (by kernel_rfl)) (fun _ _ _ h => h) (Or.inl ⟨by rfl,?_⟩) hHeld ?_ ?_;rotate_left
        ·rintro w' ⟨s0,s1,s2,s3,s4,s5,s6,s7,s8,s9⟩;go_simp;with_reducible rfl
        rotate_left
        ·simp only [wf_preprocess];rfl
        refine take_ (i := 7) (N := some 24) (v := ?_) (a' := ?_) #[true,true,true,true,true,true,true,true,false,false] rfl rfl (take_ofW HT_.out HW_.out (by kernel_rfl)) (fun _ _ _ h => h) (Or.inl ⟨by rfl,?_⟩) hHeld ?_ ?_;rotate_left
        ·rintro w' ⟨s0,s1,s2,s3,s4,s5,s6,s7,s8,s9⟩;go_simp;with_reducible rfl
        rotate_left
        ·simp only [wf_preprocess];rfl
        refine one_ (i := 8) (N := some 25) #[true,true,true,true,true,true,true,true,true,false] rfl rfl (one_of HT_.out (by kernel_rfl)) (by decide) (fun K hK => ?_);refine goes_ Try.func101 (by kernel_rfl) rfl #[.agg #[.string ((rd_T63 l0 x5_1).f0),.int .i64 ((rd_T63 l0 x5_1).f1),.int .i64 ((rd_T63 l0 x5_1).f2),.int .i64 ((rd_T63 l0 x5_1).f3),.slice A219_4 ((rd_T63 l0 x5_1).f4).length c219_4],.agg #[.string ((rd_T63 l1 x5_1).f0),.int .i64 ((rd_T63 l1 x5_1).f1),.int .i64 ((rd_T63 l1 x5_1).f2),.int .i64 ((rd_T63 l1 x5_1).f3),.slice A220_4 ((rd_T63 l1 x5_1).f4).length c220_4]] (by rfl) rfl rfl (by (try simp only [List.map_toArray,List.map_cons,List.map_nil]); rfl) ?_
        with_reducible refine (laws_eqAcct.calls k1 ((rd_T63 l0 x5_1).f0) ((rd_T63 l0 x5_1).f1) ((rd_T63 l0 x5_1).f2) ((rd_T63 l0 x5_1).f3) _ _ ((rd_T63 l0 x5_1).f4) ((rd_T63 l1 x5_1).f0) ((rd_T63 l1 x5_1).f1) ((rd_T63 l1 x5_1).f2) ((rd_T63 l1 x5_1).f3) _ _ ((rd_T63 l1 x5_1).f4) false _ ?side1 ?side2 ?side3 ?side4 A7.out).mono ?_
        (case side1 => repeat (exact (Kd.C_below HR219_4.out HB.out)))
        (case side2 => exact HC219_4.out)
        (case side3 => repeat (exact (Kd.C_below HR220_4.out HB.out)))
        (case side4 => exact HC220_4.out)
        rintro e w12 ⟨rfl,hb⟩;refine ⟨_,rfl,?_⟩;have n0_ := Aside0.mk (below_step HB.out hb);clear HB;have HB := n0_;clear n0_
        (try clear hb)
        skip
        skip
        skip
        refine hK.out _ _ ⟨((HB.out.cell (World.block_lt_of_cell? w _ hw219_0)).trans hw219_0),((HB.out.cell (World.block_lt_of_cell? w _ hw219_1)).trans hw219_1),((HB.out.cell (World.block_lt_of_cell? w _ hw219_2)).trans hw219_2),((HB.out.cell (World.block_lt_of_cell? w _ hw219_3)).trans hw219_3),((HB.out.cell (World.block_lt_of_cell? w _ hw219_4)).trans hw219_4),((HB.out.cell (World.block_lt_of_cell? w _ hw220_0)).trans hw220_0),((HB.out.cell (World.block_lt_of_cell? w _ hw220_1)).trans hw220_1),((HB.out.cell (World.block_lt_of_cell? w _ hw220_2)).trans hw220_2),((HB.out.cell (World.block_lt_of_cell? w _ hw220_3)).trans hw220_3),((HB.out.cell (World.block_lt_of_cell? w _ hw220_4)).trans hw220_4)⟩ (fun hHeld => ?_);clear hK K;refine norm_ (a' := ?_) ?_ ?_;rotate_left
        ·show Act.put _ (some 25) _ = _
         simp only [wf_preprocess];rfl
        refine pure_ (i := 9) (N := some 26) (v := ?_) (a' := ?_) #[true,true,true,true,true,true,true,true,true,true] rfl rfl (any_of HT_.out (by kernel_rfl)) (fun _ _ _ h => h) (Or.inl ⟨by rfl,?_⟩) ?_ ?_;rotate_left
        ·intro w';go_simp;with_reducible rfl
        rotate_left
        ·simp only [wf_preprocess];rfl
        refine done_ (done_of HT_.out (by kernel_rfl)) ?_
        try go_wp2
        go_ret;exact ⟨by rfl,HB.out⟩
      ·rw [if_neg c6] at H;exact absurd H (by simp)
     ·rw [if_neg c5] at H;exact absurd H (by simp)
    ·rw [if_neg c4] at H;have c4b0 : decide (x5_1 < (l0.length : Int)) = false := decide_eq_false c4;clear c4;obtain rfl := Option.some.inj H;go_wp2;go_ret;exact ⟨by rfl,HB.out⟩
 ·rw [if_neg c3] at H;have c3b0 : ((l0.length : Int) == (l1.length : Int)) = false := beq_eq_false_iff_ne.mpr c3;have c3b1 : ((l0.length : Int) != (l1.length : Int)) = true := bne_iff_ne.mpr c3
  have c3b2 : (l0.length == l1.length) = false := by (simp at c3 ⊢; omega)
  obtain rfl := Option.some.inj H;go_enter Try.func54,Try.ntmps54;go_wp2;go_ret;exact ⟨by rfl,HB.out⟩

/-! ### laws_markText: function 74 -/
def laws_markText.l0 : Nat → Int → ByteArray → Option (ByteArray)
 | 0,_,_ => none
 | k + 1,x0,x3 => if x0 > 0 then ((some (([(wrap64 (48 + (Int.tmod x0 10))) % 256] : List Int) : List Int)).bind fun y222 => (if (strOfNums y222).size + x3.size ≤ 9223372036854775807 then (laws_markText.l0 k (wrap64 (Int.tdiv x0 10)) ((strOfNums y222) ++ x3)) else (none))) else (if 1 + x3.size ≤ 9223372036854775807 then (some ((⟨#[109]⟩ : ByteArray) ++ x3)) else (none))
def laws_markText.f (k : Nat) (a0 : Int) : Option (ByteArray) := if a0 ≤ 0 then (some (⟨#[109,48]⟩ : ByteArray)) else (laws_markText.l0 k a0 (⟨#[]⟩ : ByteArray))
theorem laws_markText.mono_l : ∀ k,(∀ y0 y1,LeO (laws_markText.l0 k y0 y1) (laws_markText.l0 (k + 1) y0 y1))
 | 0 => fun _ _ r h => by simp [laws_markText.l0] at h
 | k + 1 => by
  have ih0 := laws_markText.mono_l k
  ·intro y0 y1;unfold laws_markText.l0
   repeat' first
   | (with_reducible exact ih0 _ _)
   | (with_reducible exact LeO.refl _)
   | (with_reducible exact LeO.none _)
   | (with_reducible refine LeO.ite ?_ ?_)
   | (with_reducible refine LeO.bind ?_ (fun _ => ?_))
   | exact ih0 _ _
   | exact LeO.none _
theorem laws_markText.mono : ∀ a0 k,LeO (laws_markText.f k a0) (laws_markText.f (k + 1) a0) := by
 intro a0 k;have ih0 := laws_markText.mono_l k;unfold laws_markText.f
 repeat' first
   | (with_reducible exact ih0 _ _)
   | (with_reducible exact LeO.refl _)
   | (with_reducible exact LeO.none _)
   | (with_reducible refine LeO.ite ?_ ?_)
   | (with_reducible refine LeO.bind ?_ (fun _ => ?_))
   | exact ih0 _ _
   | exact LeO.none _
set_option maxHeartbeats 8000000 in
set_option maxRecDepth 100000 in
theorem laws_markText.calls (k : Nat) (a0 : Int) (r : ByteArray) (w : World) (h : laws_markText.f k a0 = some r) :
  Calls Try.prog 74 #[.int .i64 a0] w fun e w' => e = .returned (.string r) ∧ Below w.heap.size w w' := by
 have HB := Aside0.mk (Below.refl w.heap.size w);have H : (if a0 ≤ 0 then (some (⟨#[109,48]⟩ : ByteArray)) else (laws_markText.l0 k a0 (⟨#[]⟩ : ByteArray))) = some r := h;clear h
 by_cases c2 : a0 ≤ 0
 ·rw [if_pos c2] at H;have c2b0 : decide (a0 ≤ 0) = true := decide_eq_true c2;clear c2;obtain rfl := Option.some.inj H;go_enter Try.func74,Try.ntmps74;go_wp2;go_ret;exact ⟨by rfl,HB.out⟩
 ·rw [if_neg c2] at H;have c2b0 : decide (a0 ≤ 0) = false := decide_eq_false c2;clear c2;have H' := Aside0.mk H;clear H;go_enter Try.func74,Try.ntmps74;go_wp2
  go_loopg [0,3] k (fun kq v0 v3 w' => ∃ (x0_1 : Int) (x3_1 : ByteArray),v0 = .int .i64 x0_1 ∧ v3 = .string x3_1 ∧ Aside0 (laws_markText.l0 kq x0_1 x3_1 = some r) ∧ Aside0 (kq ≤ k) ∧ Aside0 (Below w.heap.size w w'))
  case atStart => exact ⟨(a0),(⟨#[]⟩ : ByteArray),(by rfl),(by rfl),H',⟨Nat.le_refl _⟩,⟨HB.out⟩⟩
  case round =>
   clear H'
   try clear c2
   try clear c2b0
   try clear p2
   obtain ⟨x0_1,x3_1,rfl,rfl,HA,HK1,HB⟩ := hrel
   cases gk with
   | zero => exact absurd HA.out (by simp [laws_markText.l0])
   | succ k1 =>
    have H := HA.out;clear HA;simp only [laws_markText.l0] at H
    by_cases c3 : x0_1 > 0
    ·rw [if_pos c3] at H;have c3b0 : decide (0 < x0_1) = true := decide_eq_true c3;clear c3;obtain ⟨y222,hy222⟩ : ∃ y_ : List Int,y_ = ([(wrap64 (48 + (Int.tmod x0_1 10))) % 256] : List Int) := ⟨_,rfl⟩
     replace H : (if (strOfNums y222).size + x3_1.size ≤ 9223372036854775807 then (laws_markText.l0 k1 (wrap64 (Int.tdiv x0_1 10)) ((strOfNums y222) ++ x3_1)) else (none)) = some r := by (have H2_ := (Option.bind_some _ _).symm.trans H; rw [hy222]; with_reducible exact H2_)
     have Ny222 := Aside0.mk hy222;clear hy222
     by_cases c4 : (strOfNums y222).size + x3_1.size ≤ 9223372036854775807
     ·rw [if_pos c4] at H;have c4b0 := eq_true c4;have c4b1 : decide ((strOfNums y222).size + x3_1.size ≤ 9223372036854775807) = true := decide_eq_true c4
      try have c4b2 : (9223372036854775807 < (strOfNums y222).size + x3_1.size) = False := eq_false (Nat.not_lt.2 c4)
      have H' := Aside0.mk H;clear H
      go_wp2_with (((with_reducible refine gate_dst (N := 12) rfl ?_); refine Kd.R_lit (Kd.int .u8) _ 5 ?hg (N := 12) ?hd (xs := ([(wrap64 (48 + (Int.tmod x0_1 10))) % 256] : List Int)) (inner := [.int .u8 ((wrap64 (48 + (Int.tmod x0_1 10))) % 256)]) (ok := fun _ => True) (okp := fun _ => True) ?hr ?hp (fun _ hk => hk) trivial (Below.refl _ _) (Nat.le_refl _) (by simp) ?_; (case hd => rfl); (case hg => rfl); (case hr => (go_simp; done)); (case hp => exact (Reps.one (show Kd.M (Kd.int .u8) _ _ _ ((wrap64 (48 + (Int.tmod x0_1 10))) % 256) [.int .u8 ((wrap64 (48 + (Int.tmod x0_1 10))) % 256)] from rfl) (Reps.none _ _))); intro v223 w5 ho6 hb hg_ hnew_; clear hg_ hnew_; (rw [← Ny222.out] at ho6); have n0_ := Aside0.mk (Kd.R_lower ho6 (below_size HB.out)); have n1_ := Aside0.mk (below_step HB.out hb); clear HB; have HO224 := n0_; have HB := n1_; clear n0_ n1_; clear hb ho6; have hcv7 := own_string (P := Try.prog) Try.underlying40 Try.underlying5 Try.underlying9 (Kd.own_of_R HO224.out)))
      go_roundg k1
      case measure => have := HK1.out; omega
      case rel => exact ⟨(wrap64 (Int.tdiv x0_1 10)),((strOfNums y222) ++ x3_1),(by rfl),(by rfl),H',⟨by have := HK1.out; omega⟩,⟨HB.out⟩⟩
     ·rw [if_neg c4] at H;exact absurd H (by simp)
    ·rw [if_neg c3] at H;have c3b0 : decide (0 < x0_1) = false := decide_eq_false c3;clear c3
     by_cases c8 : 1 + x3_1.size ≤ 9223372036854775807
     ·rw [if_pos c8] at H;have c8b0 := eq_true c8;have c8b1 : decide (1 + x3_1.size ≤ 9223372036854775807) = true := decide_eq_true c8
      try have c8b2 : (9223372036854775807 < 1 + x3_1.size) = False := eq_false (Nat.not_lt.2 c8)
      obtain rfl := Option.some.inj H;go_wp2;go_ret;exact ⟨by rfl,HB.out⟩
     ·rw [if_neg c8] at H;exact absurd H (by simp)

/-! ### laws_markLeaveS: function 102 -/
def laws_markLeaveS.l0 : Nat → List (S65) → Int → Int → Option (Int × (List (S65)))
 | 0,_,_,_ => none
 | k + 1,x0,x1,x5 => if x5 < (x0.length : Int) then (if 0 ≤ x5 then ((some (x0.set (x5 : Int).toNat (⟨x1,(rd_T65 x0 x5).f1⟩ : S65) : List (S65))).bind fun y225 => (laws_markLeaveS.l0 k (y225.set (x5 : Int).toNat (⟨(rd_T65 y225 x5).f0,wrap64 (x1 + 1)⟩ : S65)) (wrap64 ((wrap64 (x1 + 1)) + 1)) (wrap64 (x5 + 1)))) else (none)) else (some (x1,x0))
def laws_markLeaveS.f (k : Nat) (l0 : List (S65)) (a1 : Int) : Option (Int × (List (S65))) := laws_markLeaveS.l0 k l0 a1 0
theorem laws_markLeaveS.mono_l : ∀ k,(∀ y0 y1 y2,LeO (laws_markLeaveS.l0 k y0 y1 y2) (laws_markLeaveS.l0 (k + 1) y0 y1 y2))
 | 0 => fun _ _ _ r h => by simp [laws_markLeaveS.l0] at h
 | k + 1 => by
  have ih0 := laws_markLeaveS.mono_l k
  ·intro y0 y1 y2;unfold laws_markLeaveS.l0
   repeat' first
   | (with_reducible exact ih0 _ _ _)
   | (with_reducible exact LeO.refl _)
   | (with_reducible exact LeO.none _)
   | (with_reducible refine LeO.ite ?_ ?_)
   | (with_reducible refine LeO.bind ?_ (fun _ => ?_))
   | exact ih0 _ _ _
   | exact LeO.none _
theorem laws_markLeaveS.mono : ∀ a0 a1 k,LeO (laws_markLeaveS.f k a0 a1) (laws_markLeaveS.f (k + 1) a0 a1) := by
 intro a0 a1 k;have ih0 := laws_markLeaveS.mono_l k;unfold laws_markLeaveS.f
 repeat' first
   | (with_reducible exact ih0 _ _ _)
   | (with_reducible exact LeO.refl _)
   | (with_reducible exact LeO.none _)
   | (with_reducible refine LeO.ite ?_ ?_)
   | (with_reducible refine LeO.bind ?_ (fun _ => ?_))
   | exact ih0 _ _ _
   | exact LeO.none _
set_option maxHeartbeats 8000000 in
set_option maxRecDepth 100000 in
theorem laws_markLeaveS.calls (k : Nat) (P0_ : Nat → Prop) (u9000_ : Value) (l0 : List (S65)) (a1 : Int) (r1 : Int) (r2 : List (S65)) (w0 w : World) (hB : Below w0.heap.size w0 w) (ho0 : Kd.R k65 65 w w0.heap.size P0_ u9000_ l0) (h : laws_markLeaveS.f k l0 a1 = some (r1,r2)) :
  Calls Try.prog 102 #[u9000_,.int .i64 a1] w fun e w' => e = .returned (.int .i64 r1) ∧ Kd.R k65 65 w' w0.heap.size (fun k_ => (P0_ k_ ∨ w.heap.size ≤ k_)) u9000_ r2 ∧ Below w0.heap.size w0 w' ∧ Kept w w' (fun k_ => P0_ k_) := by
 have HO0 := Aside0.mk (show Kd.R k65 65 w w0.heap.size (fun k_ => (P0_ k_ ∨ w.heap.size ≤ k_)) u9000_ l0 from Kd.R_mono ho0 (fun k_ hk => (.inl hk)));have HK := Aside0.mk (Kept.refl w (fun k_ => P0_ k_));have HW0 := Aside0.mk hB.size;have HB := Aside0.mk hB;clear hB;have H : (laws_markLeaveS.l0 k l0 a1 0) = some (r1,r2) := h;clear h;have H' := Aside0.mk H;clear H;go_enter Try.func102,Try.ntmps102;go_wp2
 go_loopg [1,5] k (fun kq v1 v5 w' => ∃ (x0_1 : List (S65)) (x1_1 : Int) (x5_1 : Int),v1 = .int .i64 x1_1 ∧ v5 = .int .i64 x5_1 ∧ Aside0 (laws_markLeaveS.l0 kq x0_1 x1_1 x5_1 = some (r1,r2)) ∧ Aside0 (kq ≤ k) ∧ Aside0 (Kd.R k65 65 w' w0.heap.size (fun k_ => (P0_ k_ ∨ w.heap.size ≤ k_)) u9000_ x0_1) ∧ Aside0 (Kept w w' (fun k_ => P0_ k_)) ∧ Aside0 (Below w0.heap.size w0 w'))
 case atStart => exact ⟨(l0),(a1),(0),(by rfl),(by rfl),H',⟨Nat.le_refl _⟩,⟨by exact HO0.out⟩,⟨HK.out⟩,⟨HB.out⟩⟩
 case round =>
  clear H'
  try clear c1
  try clear p2
  obtain ⟨x0_1,x1_1,x5_1,rfl,rfl,HA,HK1,HO_0,HK,HB⟩ := hrel
  cases gk with
  | zero => exact absurd HA.out (by simp [laws_markLeaveS.l0])
  | succ k1 =>
   have H := HA.out;clear HA;simp only [laws_markLeaveS.l0] at H
   by_cases c3 : x5_1 < (x0_1.length : Int)
   ·rw [if_pos c3] at H;have c3b0 : decide (x5_1 < (x0_1.length : Int)) = true := decide_eq_true c3;clear c3
    by_cases c4 : 0 ≤ x5_1
    ·rw [if_pos c4] at H;have c4b0 : decide (0 ≤ x5_1) = true := decide_eq_true c4;clear c4;obtain ⟨y225,hy225⟩ : ∃ y_ : List (S65),y_ = (x0_1.set (x5_1 : Int).toNat (⟨x1_1,(rd_T65 x0_1 x5_1).f1⟩ : S65)) := ⟨_,rfl⟩
     replace H : (laws_markLeaveS.l0 k1 (y225.set (x5_1 : Int).toNat (⟨(rd_T65 y225 x5_1).f0,wrap64 (x1_1 + 1)⟩ : S65)) (wrap64 ((wrap64 (x1_1 + 1)) + 1)) (wrap64 (x5_1 + 1))) = some (r1,r2) := by (have H2_ := (Option.bind_some _ _).symm.trans H; rw [hy225]; with_reducible exact H2_)
     have Ny225 := Aside0.mk hy225;clear hy225;obtain ⟨y226,hy226⟩ : ∃ y_ : List (S65),y_ = (y225.set (x5_1 : Int).toNat (⟨(rd_T65 y225 x5_1).f0,wrap64 (x1_1 + 1)⟩ : S65)) := ⟨_,rfl⟩
     replace H : (laws_markLeaveS.l0 k1 y226 (wrap64 ((wrap64 (x1_1 + 1)) + 1)) (wrap64 (x5_1 + 1))) = some (r1,r2) := by (rw [hy226]; with_reducible exact H)
     have Ny226 := Aside0.mk hy226;clear hy226;have H' := Aside0.mk H;clear H;obtain ⟨Ao7,co7,eo7⟩ := Kd.R_slice HO_0.out;subst eo7;have p5 : 0 ≤ (x5_1 : Int) := of_decide_eq_true (by (with_reducible assumption));have q5 : (x5_1 : Int) < ((x0_1.length : Int) : Int) := of_decide_eq_true (by (with_reducible assumption));obtain ⟨go5,co5,eo5,gb5,gl5,cl5,HG5⟩ := Kd.R_form HO_0.out (by omega)
     (cases eo5)
     have GB5 := Aside0.mk gb5;have GG5 := Aside0.mk HG5;clear gb5 gl5 HG5;have HMgo5 := Aside0.mk (show (P0_ go5 ∨ w.heap.size ≤ go5) from (HO_0.out.1 _ rfl));obtain ⟨ce5,hcl5,hM5,hcc5,hfr5⟩ := Kd.R_elem HO_0.out z65 (x5_1 : Int) p5 q5;obtain rfl := k65_openM hM5;have hx5_0 : wr.cell? ⟨go5,(x5_1 : Int).toNat * 2,none⟩ = some (.int .i64 ((rd_T65 x0_1 x5_1).f0)) := hcc5 0 _ rfl;have hx5_1 : wr.cell? ⟨go5,(x5_1 : Int).toNat * 2 + 1,none⟩ = some (.int .i64 ((rd_T65 x0_1 x5_1).f1)) := hcc5 1 _ rfl;have hf5_0 : wr.frozen? ⟨go5,(x5_1 : Int).toNat * 2,none⟩ = false := hfr5 0;have hf5_1 : wr.frozen? ⟨go5,(x5_1 : Int).toNat * 2 + 1,none⟩ = false := hfr5 1;clear hcl5 hcc5 hfr5 hM5;replace p5 := eq_true p5;replace q5 := eq_true q5;have HX8 := Aside0.mk (show Kd.R k65 65 wr w0.heap.size (fun k_ => (P0_ k_ ∨ w.heap.size ≤ k_)) (.slice (some ⟨go5,0,none⟩) x0_1.length co7) x0_1 from (by exact HO_0.out));obtain ⟨ce8,hcl8,hM8,hcc8,hfr8⟩ := Kd.R_elem HX8.out z65 (x5_1 : Int) (of_decide_eq_true (by (with_reducible assumption))) (by have h_ : (x5_1 : Int) < ((x0_1.length : Int) : Int) := of_decide_eq_true (by (with_reducible assumption)); exact h_);obtain rfl := k65_openM hM8;have HP8 := Kd.R_seg HX8.out (x5_1 : Int) (of_decide_eq_true (by (with_reducible assumption))) (by have h_ : (x5_1 : Int) < ((x0_1.length : Int) : Int) := of_decide_eq_true (by (with_reducible assumption)); exact h_) (seg := [.int .i64 x1_1]) (j := 0) hcl8 hcc8 (show 1 ≤ 2 from by decide) (x' := (⟨x1_1,(rd_T65 x0_1 x5_1).f1⟩ : S65)) (k65_mkM _ _ _ (⟨x1_1,(rd_T65 x0_1 x5_1).f1⟩ : S65) ) (fun _ hk => hk);have hx8_0 := hcc8 0 _ rfl
     (try simp only [show (k65).sz = 2 from rfl,Nat.mul_one,Nat.add_zero] at hx8_0)
     have hf8_0 := hfr8 0
     (try simp only [show (k65).sz = 2 from rfl,Nat.mul_one,Nat.add_zero] at hf8_0)
     clear hcl8 hcc8 hfr8 hM8
     go_wp2_with (first | ((with_reducible refine gate_store (t := 3) (p := 16) rfl ?_); refine store_event (t := 3) (p := 16) (v := ?vo_w9) (w1 := (wr.setCell ⟨go5,(x5_1 : Int).toNat * 2,none⟩ (.int .i64 x1_1))) ?hg ?ho ?hn ?hr ?_; (case ho => rfl); (case hg => rfl); (case hn => rfl); (case hr => (go_simp; done)); intro w9 hw; have hg : wr.grownBy w9 (some go5) := (by rw [hw]; exact HP8.2); have hp_ : Kd.R k65 65 w9 w0.heap.size (fun k_ => (P0_ k_ ∨ w.heap.size ≤ k_)) (.slice (some ⟨go5,0,none⟩) x0_1.length co7) y225 := (by rw [hw,Ny225.out]; exact HP8.1); clear HP8; have n0_ := Aside0.mk (hp_); have n1_ := Aside0.mk (by rw [hw]; exact below_set (HB.out) GB5.out : Below w0.heap.size w0 w9); have n2_ := Aside0.mk (Kept.of_grown (S := (fun k_ => P0_ k_)) hg HK.out (fun k_ e_ => (HO_0.out.1 k_ e_))); clear HO_0; clear HB; clear HK; have HO_0 := n0_; have HB := n1_; have HK := n2_; clear n0_ n1_ n2_; clear hg hw hp_; have p6 : 0 ≤ (x5_1 : Int) := of_decide_eq_true (by (with_reducible assumption)); have q6 : (x5_1 : Int) < ((x0_1.length : Int) : Int) := of_decide_eq_true (by (with_reducible assumption)); obtain ⟨ce6,hcl6,hM6,hcc6,hfr6⟩ := Kd.R_elem HO_0.out z65 (x5_1 : Int) p6 q6; obtain rfl := k65_openM hM6; have hx6_0 : w9.cell? ⟨go5,(x5_1 : Int).toNat * 2,none⟩ = some (.int .i64 ((rd_T65 y225 x5_1).f0)) := hcc6 0 _ rfl; have hx6_1 : w9.cell? ⟨go5,(x5_1 : Int).toNat * 2 + 1,none⟩ = some (.int .i64 ((rd_T65 y225 x5_1).f1)) := hcc6 1 _ rfl; have hf6_0 : w9.frozen? ⟨go5,(x5_1 : Int).toNat * 2,none⟩ = false := hfr6 0; have hf6_1 : w9.frozen? ⟨go5,(x5_1 : Int).toNat * 2 + 1,none⟩ = false := hfr6 1; clear hcl6 hcc6 hfr6 hM6; replace p6 := eq_true p6; replace q6 := eq_true q6; have HX10 := Aside0.mk (show Kd.R k65 65 w9 w0.heap.size (fun k_ => (P0_ k_ ∨ w.heap.size ≤ k_)) (.slice (some ⟨go5,0,none⟩) x0_1.length co7) y225 from (by exact HO_0.out)); obtain ⟨ce10,hcl10,hM10,hcc10,hfr10⟩ := Kd.R_elem HX10.out z65 (x5_1 : Int) (of_decide_eq_true (by (with_reducible assumption))) (by have h_ : (x5_1 : Int) < ((x0_1.length : Int) : Int) := of_decide_eq_true (by (with_reducible assumption)); exact h_); obtain rfl := k65_openM hM10; have HP10 := Kd.R_seg HX10.out (x5_1 : Int) (of_decide_eq_true (by (with_reducible assumption))) (by have h_ : (x5_1 : Int) < ((x0_1.length : Int) : Int) := of_decide_eq_true (by (with_reducible assumption)); exact h_) (seg := [.int .i64 (wrap64 (x1_1 + 1))]) (j := 1) hcl10 hcc10 (show 2 ≤ 2 from by decide) (x' := (⟨(rd_T65 y225 x5_1).f0,wrap64 (x1_1 + 1)⟩ : S65)) (k65_mkM _ _ _ (⟨(rd_T65 y225 x5_1).f0,wrap64 (x1_1 + 1)⟩ : S65) ) (fun _ hk => hk); have hx10_1 := hcc10 1 _ rfl; (try simp only [show (k65).sz = 2 from rfl,Nat.mul_one,Nat.add_zero] at hx10_1); have hf10_1 := hfr10 1; (try simp only [show (k65).sz = 2 from rfl,Nat.mul_one,Nat.add_zero] at hf10_1); clear hcl10 hcc10 hfr10 hM10) | ((with_reducible refine gate_store (t := 3) (p := 23) rfl ?_); refine store_event (t := 3) (p := 23) (v := ?vo_w11) (w1 := (w9.setCell ⟨go5,(x5_1 : Int).toNat * 2 + 1,none⟩ (.int .i64 (wrap64 (x1_1 + 1))))) ?hg ?ho ?hn ?hr ?_; (case ho => rfl); (case hg => rfl); (case hn => rfl); (case hr => (go_simp; done)); intro w11 hw; have hg : w9.grownBy w11 (some go5) := (by rw [hw]; exact HP10.2); have hp_ : Kd.R k65 65 w11 w0.heap.size (fun k_ => (P0_ k_ ∨ w.heap.size ≤ k_)) (.slice (some ⟨go5,0,none⟩) x0_1.length co7) y226 := (by rw [hw,Ny226.out]; exact HP10.1); clear HP10; have n0_ := Aside0.mk (hp_); have n1_ := Aside0.mk (by rw [hw]; exact below_set (HB.out) GB5.out : Below w0.heap.size w0 w11); have n2_ := Aside0.mk (Kept.of_grown (S := (fun k_ => P0_ k_)) hg HK.out (fun k_ e_ => (HO_0.out.1 k_ e_))); clear HO_0; clear HB; clear HK; have HO_0 := n0_; have HB := n1_; have HK := n2_; clear n0_ n1_ n2_; clear hg hw hp_))
     go_roundg k1
     case measure => have := HK1.out; omega
     case rel => exact ⟨(y226),(wrap64 ((wrap64 (x1_1 + 1)) + 1)),(wrap64 (x5_1 + 1)),(by rfl),(by rfl),H',⟨by have := HK1.out; omega⟩,⟨by exact HO_0.out⟩,⟨HK.out⟩,⟨HB.out⟩⟩
    ·rw [if_neg c4] at H;exact absurd H (by simp)
   ·rw [if_neg c3] at H;have c3b0 : decide (x5_1 < (x0_1.length : Int)) = false := decide_eq_false c3;clear c3;simp only [Option.some.injEq,Prod.mk.injEq] at H;obtain ⟨rfl,rfl⟩ := H;obtain ⟨Ao12,co12,eo12⟩ := Kd.R_slice HO_0.out;subst eo12;go_wp2;go_ret;exact ⟨by rfl,by exact HO_0.out,HB.out,HK.out⟩

/-! ### laws_markAcctS: function 55 -/
def laws_markAcctS.l0 : Nat → List S63 → Int → Nat → Option (Int × List S63)
 | 0,_,_,_ => none
 | k + 1,xs,m,i => if i < xs.length then (laws_markText.f k m).bind fun tx => (laws_markLeaveS.f k (xs.getD i z63).f4 (wrap64 (wrap64 (wrap64 (wrap64 (m + 1) + 1) + 1) + 1))).bind fun p => laws_markAcctS.l0 k (xs.set i ⟨tx,wrap64 (m + 1),wrap64 (wrap64 (m + 1) + 1),wrap64 (wrap64 (wrap64 (m + 1) + 1) + 1),p.2⟩) p.1 (i + 1) else some (m,xs)
def laws_markAcctS.f (k : Nat) (l0 : List S63) (a1 : Int) : Option (Int × List S63) := laws_markAcctS.l0 k l0 a1 0
theorem laws_markAcctS.mono_l : ∀ k xs m i,LeO (laws_markAcctS.l0 k xs m i) (laws_markAcctS.l0 (k + 1) xs m i)
 | 0 => fun _ _ _ r h => by simp [laws_markAcctS.l0] at h
 | k + 1 => by
  have ih0 := laws_markAcctS.mono_l k;intro xs m i;unfold laws_markAcctS.l0;refine LeO.ite (LeO.bind (laws_markText.mono _ _) (fun _ => LeO.bind (laws_markLeaveS.mono _ _ _) (fun _ => ih0 _ _ _))) (LeO.refl _)
theorem laws_markAcctS.mono : ∀ a0 a1 k,LeO (laws_markAcctS.f k a0 a1) (laws_markAcctS.f (k + 1) a0 a1) := fun _ _ k => laws_markAcctS.mono_l k _ _ _
theorem laws_markAcctS.next (j N : Nat) (h : j < N) (hN : N ≤ 9223372036854775807) : wrap64 ((j : Int) + 1) = ((j + 1 : Nat) : Int) := by
 unfold wrap64
 omega
theorem laws_markAcctS.meas (N j : Nat) (h : j < N) : N - (intOf (Value.int IntKind.i64 ((j + 1 : Nat) : Int))).toNat < N - (intOf (Value.int IntKind.i64 (j : Int))).toNat := by
 simp only [intOf]
 omega
set_option maxHeartbeats 8000000 in
set_option maxRecDepth 100000 in
theorem laws_markAcctS.calls (k : Nat) (P0_ : Nat → Prop) (u0_ : Value) (l0 : List S63) (a1 : Int) (r1 : Int) (r2 : List S63) (w0 w : World) (hB : Below w0.heap.size w0 w) (ho0 : Kd.S k63 63 w w0.heap.size P0_ u0_ l0) (h : laws_markAcctS.f k l0 a1 = some (r1,r2)) :
  Calls Try.prog 55 #[u0_,.int .i64 a1] w fun e w' => e = .returned (.int .i64 r1) ∧ Kd.S k63 63 w' w0.heap.size P0_ u0_ r2 ∧ Below w0.heap.size w0 w' ∧ Kept w w' P0_ := by
 obtain ⟨A,c,rfl⟩ := Kd.S_slice ho0;have HS0 := Aside0.mk ho0;have HB0 := Aside0.mk hB;have H := Aside0.mk h;clear ho0 hB h;go_enter Try.func55,Try.ntmps55;go_wp2
 go_loopw [1,5] (fun kv iv wr => ∃ (kq : Nat) (xs : List S63) (m : Int) (i : Nat),kv = .int .i64 m ∧ iv = .int .i64 (i : Int) ∧ i ≤ l0.length ∧ xs.length = l0.length ∧ Aside0 (laws_markAcctS.l0 kq xs m i = some (r1,r2)) ∧ Kd.S k63 63 wr w0.heap.size P0_ (.slice A l0.length c) xs ∧ Below w0.heap.size w0 wr ∧ Kept w wr P0_) (fun kv iv _ => l0.length - (intOf iv).toNat)
 case atStart => exact ⟨k,l0,a1,0,rfl,rfl,Nat.zero_le _,rfl,H,HS0.out,HB0.out,Kept.refl _ _⟩
 case round =>
  obtain ⟨kq,xs,m,i,rfl,rfl,hi,hlen,H2,hS,hB,hK⟩ := hrel;have HS := Aside0.mk hS;have HB := Aside0.mk hB;have HK := Aside0.mk hK;have HL := Aside0.mk hlen;clear hS hB hK hlen
  by_cases hlt : i < l0.length
  ·cases kq with
   | zero => exact absurd H2.out (by simp [laws_markAcctS.l0])
   | succ kq =>
    have h2 := H2.out;simp only [laws_markAcctS.l0] at h2;rw [if_pos (show i < xs.length by rw [HL.out]; exact hlt)] at h2;obtain ⟨tx,ht,h2⟩ := Option.bind_eq_some_iff.mp h2;obtain ⟨⟨m4,ls⟩,hp,h2⟩ := Option.bind_eq_some_iff.mp h2;have HT := Aside0.mk ht;have HP := Aside0.mk hp;have H3 := Aside0.mk h2;clear ht hp h2 H2;obtain ⟨g,cc,eS,hge,hgl,_⟩ := Kd.S_form HS.out (by rw [HL.out]; omega)
    injection eS with eA en ec
    subst eA;subst ec;clear en;have n0 : (0 ≤ (i : Int)) = True := eq_true (by omega);have n1 : ((i : Int) < (l0.length : Int)) = True := eq_true (by omega);have HLT := Aside0.mk hlt;have HI0 := Aside0.mk (show 0 ≤ (i : Int) by omega);have HI1 := Aside0.mk (show (i : Int) < (l0.length : Int) by omega);have HGE := Aside0.mk hge;have HY := Aside0.mk (Kd.S_reads' HS.out).2.2.2.1;have HPG := Aside0.mk (show P0_ g from (Kd.S_R HS.out).1 g rfl);clear hge hgl
    go_upto_region 12 with (go_at_call 74; refine (laws_markText.calls kq m tx _ HT.out).mono ?_; rintro e w1 ⟨rfl,hb⟩; have HS1 := Aside0.mk (Kd.S_below HS.out hb); have HB1 := Aside0.mk (below_step HB.out hb); have HK1 := Aside0.mk (HK.out.below hb); clear hb; obtain ⟨oki,cs,_,hM,hcc,hfr,hoki,hH⟩ := Kd.S_elem HS1.out z63 (i : Int) HI0.out HI1.out; rw [Int.toNat_natCast] at hM; obtain ⟨v4,rfl,hR4⟩ := k63_openM hM; obtain ⟨A4,c4,rfl⟩ := Kd.R_slice hR4; have HH := Aside0.mk hH; have HR4 := Aside0.mk hR4; have HOK := Aside0.mk hoki; have c0 : w1.cell? ⟨g,i * 5,none⟩ = some (.string (xs.getD i z63).f0) := hcc 0 _ rfl; have c1 : w1.cell? ⟨g,i * 5 + 1,none⟩ = some (.int .i64 (xs.getD i z63).f1) := hcc 1 _ rfl; have c2 : w1.cell? ⟨g,i * 5 + 2,none⟩ = some (.int .i64 (xs.getD i z63).f2) := hcc 2 _ rfl; have c3 : w1.cell? ⟨g,i * 5 + 3,none⟩ = some (.int .i64 (xs.getD i z63).f3) := hcc 3 _ rfl; have f0 : w1.frozen? ⟨g,i * 5,none⟩ = false := hfr 0; have f1 : w1.frozen? ⟨g,i * 5 + 1,none⟩ = false := hfr 1; have f2 : w1.frozen? ⟨g,i * 5 + 2,none⟩ = false := hfr 2; have f3 : w1.frozen? ⟨g,i * 5 + 3,none⟩ = false := hfr 3; clear hM hcc hfr hH hR4 hoki)
    have hg := Kd.H_seg HH.out HI0.out HI1.out (seg := [.string tx,.int .i64 (wrap64 (m + 1)),.int .i64 (wrap64 (wrap64 (m + 1) + 1)),.int .i64 (wrap64 (wrap64 (wrap64 (m + 1) + 1) + 1))]) (j := 0) (show 4 ≤ 5 from by decide) (by intro q hq; simp only [List.mem_cons,List.not_mem_nil,or_false] at hq; rcases hq with rfl | rfl | rfl | rfl <;> rfl);have hX : Kd.H k63 63 ((((w1.setCell ⟨g,i * 5,none⟩ (.string tx)).setCell ⟨g,i * 5 + 1,none⟩ (.int .i64 (wrap64 (m + 1)))).setCell ⟨g,i * 5 + 2,none⟩ (.int .i64 (wrap64 (wrap64 (m + 1) + 1)))).setCell ⟨g,i * 5 + 3,none⟩ (.int .i64 (wrap64 (wrap64 (wrap64 (m + 1) + 1) + 1)))) w0.heap.size P0_ (.slice (some ⟨g,0,none⟩) l0.length c) xs (i : Int) oki [.string tx,.int .i64 (wrap64 (m + 1)),.int .i64 (wrap64 (wrap64 (m + 1) + 1)),.int .i64 (wrap64 (wrap64 (wrap64 (m + 1) + 1) + 1)),.slice A4 (xs.getD i z63).f4.length c4] := hg.1;have hG : w1.grownBy ((((w1.setCell ⟨g,i * 5,none⟩ (.string tx)).setCell ⟨g,i * 5 + 1,none⟩ (.int .i64 (wrap64 (m + 1)))).setCell ⟨g,i * 5 + 2,none⟩ (.int .i64 (wrap64 (wrap64 (m + 1) + 1)))).setCell ⟨g,i * 5 + 3,none⟩ (.int .i64 (wrap64 (wrap64 (wrap64 (m + 1) + 1) + 1)))) (some g) := hg.2;have hB4 : Below w0.heap.size w0 ((((w1.setCell ⟨g,i * 5,none⟩ (.string tx)).setCell ⟨g,i * 5 + 1,none⟩ (.int .i64 (wrap64 (m + 1)))).setCell ⟨g,i * 5 + 2,none⟩ (.int .i64 (wrap64 (wrap64 (m + 1) + 1)))).setCell ⟨g,i * 5 + 3,none⟩ (.int .i64 (wrap64 (wrap64 (wrap64 (m + 1) + 1) + 1)))) := below_set (below_set (below_set (below_set HB1.out HGE.out) HGE.out) HGE.out) HGE.out;clear hg c0 c1 c2 c3 f0 f1 f2 f3
    generalize ((((w1.setCell ⟨g,i * 5,none⟩ (.string tx)).setCell ⟨g,i * 5 + 1,none⟩ (.int .i64 (wrap64 (m + 1)))).setCell ⟨g,i * 5 + 2,none⟩ (.int .i64 (wrap64 (wrap64 (m + 1) + 1)))).setCell ⟨g,i * 5 + 3,none⟩ (.int .i64 (wrap64 (wrap64 (wrap64 (m + 1) + 1) + 1)))) = w4 at hX hG hB4 ⊢
    have HX := Aside0.mk hX;have HB4 := Aside0.mk hB4;have HK4 := Aside0.mk (Kept.of_grown hG HK1.out (fun k_ e_ => .inl (by injection e_ with e_; subst e_; exact HPG.out)));have HR44 := Aside0.mk (Kd.R_grown HR4.out hG (fun k_ hk_ e_ => (HOK.out k_ hk_).2 (by injection e_)));obtain ⟨_,_,_,_,_,hcc4,_⟩ := Kd.H_raw hX HI0.out HI1.out;have x4 : w4.cell? ⟨g,i * 5 + 4,none⟩ = some (.slice A4 (xs.getD i z63).f4.length c4) := hcc4 4 _ rfl;have HN := Aside0.mk (laws_markAcctS.next i _ HLT.out (HL.out ▸ HY.out));have HLS := Aside0.mk (show (xs.set i (⟨tx,wrap64 (m + 1),wrap64 (wrap64 (m + 1) + 1),wrap64 (wrap64 (wrap64 (m + 1) + 1) + 1),ls⟩ : S63)).length = l0.length by rw [List.length_set,HL.out]);clear hX hG hB4 hcc4
    go_wp2_with (go_at_call 102; refine (laws_markLeaveS.calls kq oki _ _ _ m4 ls w0 _ HB4.out HR44.out HP.out).mono ?_; rintro e w5 ⟨rfl,hr5,hb5,hk5⟩; have HS5 := Aside0.mk (Kd.H_back (Kd.H_kept HX.out hk5 (fun _ _ hn_ hs_ => hn_ hs_)) (x' := (⟨tx,wrap64 (m + 1),wrap64 (wrap64 (m + 1) + 1),wrap64 (wrap64 (wrap64 (m + 1) + 1) + 1),ls⟩ : S63)) (k63_mkM _ _ _ (⟨tx,wrap64 (m + 1),wrap64 (wrap64 (m + 1) + 1),wrap64 (wrap64 (wrap64 (m + 1) + 1) + 1),ls⟩ : S63) (Kd.R_mono (Kd.R_tight rfl hr5) (fun k_ hk_ => HR44.out.1 k_ hk_.symm))) (fun _ hk_ => hk_)); have HB5 := Aside0.mk hb5; have HK5 := Aside0.mk (HK4.out.then_ hk5 (fun k_ hk_ => .inl (HOK.out k_ hk_).1)); clear hr5 hb5 hk5)
    go_roundw
    case rel => exact ⟨kq,_,m4,i + 1,rfl,by rw [HN.out],HLT.out,HLS.out,H3,HS5.out,HB5.out,HK5.out⟩
    case measure =>
     rw [HN.out];exact laws_markAcctS.meas _ i HLT.out
  ·obtain rfl : i = l0.length := by omega
   have n1 : ((l0.length : Int) < (l0.length : Int)) = False := eq_false (by omega)
   cases kq with
   | zero => exact absurd H2.out (by simp [laws_markAcctS.l0])
   | succ kq =>
    have h2 := H2.out;simp only [laws_markAcctS.l0] at h2;rw [if_neg (by rw [HL.out]; exact Nat.lt_irrefl _)] at h2
    obtain ⟨rfl,rfl⟩ : m = r1 ∧ xs = r2 := by injection h2 with h2; injection h2 with h3 h4; exact ⟨h3,h4⟩
    clear h2;go_wp2;go_ret;exact ⟨rfl,HS.out,HB.out,HK.out⟩

end Go.Proofs.Ytcbpfofkdipjhaa.PH
