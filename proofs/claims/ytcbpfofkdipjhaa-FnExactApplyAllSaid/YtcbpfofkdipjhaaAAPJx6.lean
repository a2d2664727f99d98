/- The machine's side of Go functions: each as a plain function,and that the call does what it says. Written by a program (wip/mprint). -/
import Derived.Test.YtcbpfofkdipjhaaAAPJx0
import Derived.Test.YtcbpfofkdipjhaaAAPJx5
namespace Go.Proofs.Ytcbpfofkdipjhaa.PJ
open Go.RowKit Go.Proofs.YtcbpfofkdipjhaaW.PrintWords Go.Proofs.YtcbpfofkdipjhaaW.PrintLast Go.Proofs.YtcbpfofkdipjhaaW.PrintMore
attribute [local go_sem] max2_int min2_int max_two min_two max_three min_three max_four min_four   -- for this text's walks alone
set_option linter.unusedVariables false
set_option linter.unusedSimpArgs false

/-! ### laws_heldLedger: function 21 -/
def laws_heldLedger.f (k : Nat) (a0_0 : Int) (l0_1 : List (S63)) (a1 : Int) : Option (Int) := (laws_heldAcctS.f k l0_1 a1).bind fun t170 => (if t170 < 0 then (some (-1)) else (some t170))
set_option maxHeartbeats 8000000 in
set_option maxRecDepth 100000 in
theorem laws_heldLedger.calls (k : Nat) (a0_0 : Int) (A0_1 : Option Addr) (c0_1 : Nat) (l0_1 : List (S63)) (a1 : Int) (r : Int) (w : World) (hr0_1 : Kd.C k63 w A0_1 l0_1.length l0_1) (hc0_1 : l0_1.length ≤ c0_1) (h : laws_heldLedger.f k a0_0 l0_1 a1 = some r) :
  Calls Try.prog 21 #[.agg #[.int .i64 a0_0,.slice A0_1 l0_1.length c0_1],.int .i64 a1] w fun e w' => e = .returned (.int .i64 r) ∧ Below w.heap.size w w' := by
 have hu31 := Try.underlying31;have HR0_1 := Aside0.mk hr0_1;have HC0_1 := Aside0.mk hc0_1;clear hr0_1 hc0_1;have HB := Aside0.mk (Below.refl w.heap.size w);have H : ((laws_heldAcctS.f k l0_1 a1).bind fun t170 => (if t170 < 0 then (some (-1)) else (some t170))) = some r := h;clear h;replace H := Option.bind_eq_some_iff.mp H;obtain ⟨t170,A30,H⟩ := H;replace H : (if t170 < 0 then (some (-1)) else (some t170)) = some r := H;have A3 := Aside0.mk A30;clear A30
 by_cases c4 : t170 < 0
 ·rw [if_pos c4] at H;have c4b0 : decide (t170 < 0) = true := decide_eq_true c4;clear c4;obtain rfl := Option.some.inj H;go_enter Try.func21,Try.ntmps21
  go_wp2_with (first | ((with_reducible refine gate_dst (N := 2) rfl ?_); refine box_event ?hg (N := 2) ?hd (cs := #[.int .i64 a0_0,.slice A0_1 l0_1.length c0_1]) (t := 31) ?hr ?_; (case hd => rfl); (case hg => rfl); (case hr => (go_simp; done)); intro gb169 hg w5 hbox hb; have n0_ := Aside0.mk (below_step HB.out hb); have n1_ := Aside0.mk (hbox); have n2_ := Aside0.mk (by rw [hg]; exact (below_size HB.out) : w.heap.size ≤ gb169); have n3_ := Aside0.mk (by rw [hg]; exact (below_size HB.out) : w.heap.size ≤ gb169); clear HB; have HB := n0_; have BK169 := n1_; have GW169 := n2_; have GE169 := n3_; clear n0_ n1_ n2_ n3_; clear hb hbox hg; have hcz6_0 : w5.cell? ⟨gb169,0,none⟩ = some (.int .i64 a0_0) := (blk_cell BK169.out 0).trans rfl; have hcz6_1 : w5.cell? ⟨gb169,1,none⟩ = some (.slice A0_1 l0_1.length c0_1) := (blk_cell BK169.out 1).trans rfl; have hfz6_0 := blk_frozen BK169.out 0; have hfz6_1 := blk_frozen BK169.out 1) | ((with_reducible refine gate_callee (f := 56) rfl ?_); refine goesL_ (some 8) rfl rfl Try.func56 (by kernel_rfl) rfl #[.slice A0_1 l0_1.length c0_1,.int .i64 a1] rfl (by (try simp only [List.map_toArray,List.map_cons,List.map_nil]); rfl) ?_; (with_reducible refine (laws_heldAcctS.calls k _ _ l0_1 a1 t170 _ ?side1 ?side2 A3.out).mono ?_); (case side1 => repeat (exact (Kd.C_below HR0_1.out HB.out))); (case side2 => exact HC0_1.out); rintro e w7 ⟨rfl,hb⟩; refine ⟨_,rfl,?_⟩; have n0_ := Aside0.mk (blk_below (g := gb169) (o := .cells #[.int .i64 a0_0,.slice A0_1 l0_1.length c0_1] 31 (0,0)) (by exact BK169.out) hb); have n1_ := Aside0.mk (below_step HB.out hb); clear BK169; clear HB; have BK169 := n0_; have HB := n1_; clear n0_ n1_; (try clear hb); skip))
  go_ret;exact ⟨by rfl,HB.out⟩
 ·rw [if_neg c4] at H;have c4b0 : decide (t170 < 0) = false := decide_eq_false c4;clear c4;obtain rfl := Option.some.inj H;go_enter Try.func21,Try.ntmps21
  go_wp2_with (first | ((with_reducible refine gate_dst (N := 2) rfl ?_); refine box_event ?hg (N := 2) ?hd (cs := #[.int .i64 a0_0,.slice A0_1 l0_1.length c0_1]) (t := 31) ?hr ?_; (case hd => rfl); (case hg => rfl); (case hr => (go_simp; done)); intro gb169 hg w8 hbox hb; have n0_ := Aside0.mk (below_step HB.out hb); have n1_ := Aside0.mk (hbox); have n2_ := Aside0.mk (by rw [hg]; exact (below_size HB.out) : w.heap.size ≤ gb169); have n3_ := Aside0.mk (by rw [hg]; exact (below_size HB.out) : w.heap.size ≤ gb169); clear HB; have HB := n0_; have BK169 := n1_; have GW169 := n2_; have GE169 := n3_; clear n0_ n1_ n2_ n3_; clear hb hbox hg; have hcz9_0 : w8.cell? ⟨gb169,0,none⟩ = some (.int .i64 a0_0) := (blk_cell BK169.out 0).trans rfl; have hcz9_1 : w8.cell? ⟨gb169,1,none⟩ = some (.slice A0_1 l0_1.length c0_1) := (blk_cell BK169.out 1).trans rfl; have hfz9_0 := blk_frozen BK169.out 0; have hfz9_1 := blk_frozen BK169.out 1) | ((with_reducible refine gate_callee (f := 56) rfl ?_); refine goesL_ (some 8) rfl rfl Try.func56 (by kernel_rfl) rfl #[.slice A0_1 l0_1.length c0_1,.int .i64 a1] rfl (by (try simp only [List.map_toArray,List.map_cons,List.map_nil]); rfl) ?_; (with_reducible refine (laws_heldAcctS.calls k _ _ l0_1 a1 t170 _ ?side1 ?side2 A3.out).mono ?_); (case side1 => repeat (exact (Kd.C_below HR0_1.out HB.out))); (case side2 => exact HC0_1.out); rintro e w10 ⟨rfl,hb⟩; refine ⟨_,rfl,?_⟩; have n0_ := Aside0.mk (blk_below (g := gb169) (o := .cells #[.int .i64 a0_0,.slice A0_1 l0_1.length c0_1] 31 (0,0)) (by exact BK169.out) hb); have n1_ := Aside0.mk (below_step HB.out hb); clear BK169; clear HB; have BK169 := n0_; have HB := n1_; clear n0_ n1_; (try clear hb); skip))
  go_ret;exact ⟨by rfl,HB.out⟩

/-! ### impl_Wealth: function 26 -/
mutual
def impl_Wealth.l0 : Nat → Int → List (S63) → Int → Int → Option (Int)
 | 0,_,_,_,_ => none
 | k + 1,x3,x8,x9,x10 => if x10 < x9 then (if 0 ≤ x10 then (if x10 < (x8.length : Int) then (impl_Wealth.l1 k (wrap64 (x3 + (wrap64 (((rd_T63 x8 x10).f1) + ((rd_T63 x8 x10).f3))))) x8 x9 x10 ((rd_T63 x8 x10).f4) (((rd_T63 x8 x10).f4).length : Int) 0) else (none)) else (none)) else (some x3)
def impl_Wealth.l1 : Nat → Int → List (S63) → Int → Int → List (S65) → Int → Int → Option (Int)
 | 0,_,_,_,_,_,_,_ => none
 | k + 1,x3,x8,x9,x10,x22,x23,x24 => if x24 < x23 then (if 0 ≤ x24 then (if x24 < (x22.length : Int) then (impl_Wealth.l1 k (wrap64 (x3 + ((rd_T65 x22 x24).f0))) x8 x9 x10 x22 x23 (wrap64 (x24 + 1))) else (none)) else (none)) else (impl_Wealth.l0 k x3 x8 x9 (wrap64 (x10 + 1)))
end
def impl_Wealth.f (k : Nat) (l0 : List (S63)) : Option (Int) := impl_Wealth.l0 k 0 l0 (l0.length : Int) 0
set_option maxHeartbeats 8000000 in
set_option maxRecDepth 100000 in
theorem impl_Wealth.calls (k : Nat) (A0 : Option Addr) (c0 : Nat) (l0 : List (S63)) (r : Int) (w : World) (hr0 : Kd.C k63 w A0 l0.length l0) (hc0 : l0.length ≤ c0) (h : impl_Wealth.f k l0 = some r) :
  Calls Try.prog 26 #[.slice A0 l0.length c0] w fun e w' => e = .returned (.int .i64 r) ∧ Below w.heap.size w w' := by
 have hu63 := Try.underlying63;have hu65 := Try.underlying65;have HR0 := Aside0.mk hr0;have HC0 := Aside0.mk hc0;clear hr0 hc0;have HB := Aside0.mk (Below.refl w.heap.size w);have H : (impl_Wealth.l0 k 0 l0 (l0.length : Int) 0) = some r := h;clear h;have H' := Aside0.mk H;clear H;go_enter Try.func26,Try.ntmps26;go_wp2
 go_loopg [3,10] k (fun kq v3 v10 w' => ∃ (x3_1 : Int) (x10_1 : Int),v3 = .int .i64 x3_1 ∧ v10 = .int .i64 x10_1 ∧ Aside0 (impl_Wealth.l0 kq x3_1 l0 (l0.length : Int) x10_1 = some r) ∧ Aside0 (kq ≤ k) ∧ Aside0 (Below w.heap.size w w'))
 case atStart => exact ⟨(0),(0),(by rfl),(by rfl),H',⟨Nat.le_refl _⟩,⟨HB.out⟩⟩
 case round =>
  clear H';obtain ⟨x3_1,x10_1,rfl,rfl,HA,HK1,HB⟩ := hrel
  cases gk with
  | zero => exact absurd HA.out (by simp [impl_Wealth.l0])
  | succ k1 =>
   have H := HA.out;clear HA;simp only [impl_Wealth.l0] at H
   by_cases c2 : x10_1 < (l0.length : Int)
   ·rw [if_pos c2] at H;have c2b0 : decide (x10_1 < (l0.length : Int)) = true := decide_eq_true c2;clear c2
    by_cases c3 : 0 ≤ x10_1
    ·rw [if_pos c3] at H;have c3b0 : decide (0 ≤ x10_1) = true := decide_eq_true c3;clear c3
     by_cases c4 : x10_1 < (l0.length : Int)
     ·rw [if_pos c4] at H;have c4b0 : decide (x10_1 < (l0.length : Int)) = true := decide_eq_true c4;clear c4;have H' := Aside0.mk H;clear H;have p171 : 0 ≤ (x10_1 : Int) := of_decide_eq_true (by (with_reducible assumption));have q171 : x10_1 < (l0.length : Int) := of_decide_eq_true (by (with_reducible assumption));obtain ⟨ad171,A171_4,c171_4,e171,hx171_0,hx171_1,hx171_2,hx171_3,hx171_4,hl171_4,hi171_4⟩ := at_T63 HR0.out x10_1 p171 q171
      cases e171
      replace hx171_0 := up_ HB.out hx171_0;replace hx171_1 := up_ HB.out hx171_1;replace hx171_2 := up_ HB.out hx171_2;replace hx171_3 := up_ HB.out hx171_3;replace hx171_4 := up_ HB.out hx171_4;have HR171_4 := Aside0.mk hi171_4;have HC171_4 := Aside0.mk hl171_4;clear hi171_4 hl171_4;replace p171 := eq_true p171;replace q171 := eq_true q171
      go_wp2_with (((with_reducible refine gate_dst (N := 5) rfl ?_); refine box_event ?hg (N := 5) ?hd (cs := #[.string (⟨#[]⟩ : ByteArray),.int .i64 0,.int .i64 0,.int .i64 0,.slice none 0 0]) (t := 63) ?hr ?_; (case hd => rfl); (case hg => rfl); (case hr => (go_simp; done)); intro gb172 hg w5 hbox hb; have n0_ := Aside0.mk (below_step HB.out hb); have n1_ := Aside0.mk (hbox); have n2_ := Aside0.mk (by rw [hg]; exact (below_size HB.out) : w.heap.size ≤ gb172); have n3_ := Aside0.mk (by rw [hg]; exact (below_size HB.out) : w.heap.size ≤ gb172); clear HB; have HB := n0_; have BK172 := n1_; have GW172 := n2_; have GE172 := n3_; clear n0_ n1_ n2_ n3_; clear hb hbox hg; have hcz6_0 : w5.cell? ⟨gb172,0,none⟩ = some (.string (⟨#[]⟩ : ByteArray)) := (blk_cell BK172.out 0).trans rfl; have hcz6_1 : w5.cell? ⟨gb172,1,none⟩ = some (.int .i64 0) := (blk_cell BK172.out 1).trans rfl; have hcz6_2 : w5.cell? ⟨gb172,2,none⟩ = some (.int .i64 0) := (blk_cell BK172.out 2).trans rfl; have hcz6_3 : w5.cell? ⟨gb172,3,none⟩ = some (.int .i64 0) := (blk_cell BK172.out 3).trans rfl; have hcz6_4 : w5.cell? ⟨gb172,4,none⟩ = some (.slice none 0 0) := (blk_cell BK172.out 4).trans rfl; have hfz6_0 := blk_frozen BK172.out 0; have hfz6_1 := blk_frozen BK172.out 1; have hfz6_2 := blk_frozen BK172.out 2; have hfz6_3 := blk_frozen BK172.out 3; have hfz6_4 := blk_frozen BK172.out 4))
      go_loopg [3,24] k1 (fun kq v3 v24 w' => ∃ (x3_2 : Int) (x24_2 : Int),v3 = .int .i64 x3_2 ∧ v24 = .int .i64 x24_2 ∧ Aside0 (impl_Wealth.l1 kq x3_2 l0 (l0.length : Int) x10_1 ((rd_T63 l0 x10_1).f4) (((rd_T63 l0 x10_1).f4).length : Int) x24_2 = some r) ∧ Aside0 (kq ≤ k1) ∧ Aside0 (w'.heap[gb172]? = some (.cells #[.string ((rd_T63 l0 x10_1).f0),.int .i64 ((rd_T63 l0 x10_1).f1),.int .i64 ((rd_T63 l0 x10_1).f2),.int .i64 ((rd_T63 l0 x10_1).f3),(.slice A171_4 ((rd_T63 l0 x10_1).f4).length c171_4)] 63 (0,0))) ∧ Aside0 (Below w.heap.size w w'))
      case atStart => exact ⟨(wrap64 (x3_1 + (wrap64 (((rd_T63 l0 x10_1).f1) + ((rd_T63 l0 x10_1).f3))))),(0),(by rfl),(by rfl),H',⟨Nat.le_refl _⟩,⟨by refine blk_put (cs := #[.string ((rd_T63 l0 x10_1).f0),.int .i64 ((rd_T63 l0 x10_1).f1),.int .i64 ((rd_T63 l0 x10_1).f2),.int .i64 ((rd_T63 l0 x10_1).f3),.slice none 0 0]) ?_ 4 _ rfl; refine blk_put (cs := #[.string ((rd_T63 l0 x10_1).f0),.int .i64 ((rd_T63 l0 x10_1).f1),.int .i64 ((rd_T63 l0 x10_1).f2),.int .i64 0,.slice none 0 0]) ?_ 3 _ rfl; refine blk_put (cs := #[.string ((rd_T63 l0 x10_1).f0),.int .i64 ((rd_T63 l0 x10_1).f1),.int .i64 0,.int .i64 0,.slice none 0 0]) ?_ 2 _ rfl; refine blk_put (cs := #[.string ((rd_T63 l0 x10_1).f0),.int .i64 0,.int .i64 0,.int .i64 0,.slice none 0 0]) ?_ 1 _ rfl; refine blk_put (cs := #[.string (⟨#[]⟩ : ByteArray),.int .i64 0,.int .i64 0,.int .i64 0,.slice none 0 0]) ?_ 0 _ rfl; exact BK172.out⟩,⟨by repeat (with_reducible first | exact HB.out | refine below_set ?_ GE172.out)⟩⟩
      case round =>
       clear H'
       try clear c1
       try clear p1
       try clear q1
       try clear hx1
       try clear c2
       try clear c2b0
       try clear p2
       try clear c3
       try clear c3b0
       try clear c4
       try clear c4b0
       try clear p6
       try clear hcz6_0
       try clear hcz6_1
       try clear hcz6_2
       try clear hcz6_3
       try clear hcz6_4
       try clear hfz6_0
       try clear hfz6_1
       try clear hfz6_2
       try clear hfz6_3
       try clear hfz6_4
       try clear hx171_0
       try clear hx171_1
       try clear hx171_2
       try clear hx171_3
       try clear hx171_4
       try clear p171
       try clear q171
       obtain ⟨x3_2,x24_2,rfl,rfl,HA,HK2,BK172,HB⟩ := hrel
       cases gk with
       | zero => exact absurd HA.out (by simp [impl_Wealth.l1])
       | succ k2 =>
        have H := HA.out;clear HA;simp only [impl_Wealth.l1] at H
        by_cases c7 : x24_2 < (((rd_T63 l0 x10_1).f4).length : Int)
        ·rw [if_pos c7] at H;have c7b0 : decide (x24_2 < (((rd_T63 l0 x10_1).f4).length : Int)) = true := decide_eq_true c7;clear c7
         by_cases c8 : 0 ≤ x24_2
         ·rw [if_pos c8] at H;have c8b0 : decide (0 ≤ x24_2) = true := decide_eq_true c8;clear c8
          by_cases c9 : x24_2 < (((rd_T63 l0 x10_1).f4).length : Int)
          ·rw [if_pos c9] at H;have c9b0 : decide (x24_2 < (((rd_T63 l0 x10_1).f4).length : Int)) = true := decide_eq_true c9;clear c9;have H' := Aside0.mk H;clear H;have p173 : 0 ≤ (x24_2 : Int) := of_decide_eq_true (by (with_reducible assumption));have q173 : x24_2 < (((rd_T63 l0 x10_1).f4).length : Int) := of_decide_eq_true (by (with_reducible assumption));obtain ⟨ad173,e173,hx173_0,hx173_1⟩ := at_T65 HR171_4.out x24_2 p173 q173
           cases e173
           replace hx173_0 := up_ HB.out hx173_0;replace hx173_1 := up_ HB.out hx173_1;replace p173 := eq_true p173;replace q173 := eq_true q173
           go_wp2_with (((with_reducible refine gate_dst (N := 7) rfl ?_); refine box_event ?hg (N := 7) ?hd (cs := #[.int .i64 0,.int .i64 0]) (t := 65) ?hr ?_; (case hd => rfl); (case hg => rfl); (case hr => (go_simp; done)); intro gb174 hg w10 hbox hb; have n0_ := Aside0.mk (blk_below (g := gb172) (o := .cells #[.string ((rd_T63 l0 x10_1).f0),.int .i64 ((rd_T63 l0 x10_1).f1),.int .i64 ((rd_T63 l0 x10_1).f2),.int .i64 ((rd_T63 l0 x10_1).f3),.slice (some ad173) ((rd_T63 l0 x10_1).f4).length c171_4] 63 (0,0)) (by exact BK172.out) hb); have n1_ := Aside0.mk (below_step HB.out hb); have n2_ := Aside0.mk (hbox); have n3_ := Aside0.mk (by rw [hg]; exact (below_size HB.out) : w.heap.size ≤ gb174); have n4_ := Aside0.mk (by rw [hg]; exact (below_size HB.out) : w.heap.size ≤ gb174); have n5_ := Aside0.mk (by rw [hg]; exact Nat.ne_of_lt (blk_lt (g := gb172) (o := .cells #[.string ((rd_T63 l0 x10_1).f0),.int .i64 ((rd_T63 l0 x10_1).f1),.int .i64 ((rd_T63 l0 x10_1).f2),.int .i64 ((rd_T63 l0 x10_1).f3),.slice (some ad173) ((rd_T63 l0 x10_1).f4).length c171_4] 63 (0,0)) (by exact BK172.out)) : gb172 ≠ gb174); have n6_ := Aside0.mk (by rw [hg]; exact Nat.ne_of_gt (blk_lt (g := gb172) (o := .cells #[.string ((rd_T63 l0 x10_1).f0),.int .i64 ((rd_T63 l0 x10_1).f1),.int .i64 ((rd_T63 l0 x10_1).f2),.int .i64 ((rd_T63 l0 x10_1).f3),.slice (some ad173) ((rd_T63 l0 x10_1).f4).length c171_4] 63 (0,0)) (by exact BK172.out)) : gb174 ≠ gb172); clear BK172; clear HB; have BK172 := n0_; have HB := n1_; have BK174 := n2_; have GW174 := n3_; have GE174 := n4_; have NB172_174 := n5_; have NB174_172 := n6_; clear n0_ n1_ n2_ n3_ n4_ n5_ n6_; clear hb hbox hg; have hnb11 := NB174_172.out; have hnc11 := NB172_174.out; have hcz12_0 : w10.cell? ⟨gb174,0,none⟩ = some (.int .i64 0) := (blk_cell BK174.out 0).trans rfl; have hcz12_1 : w10.cell? ⟨gb174,1,none⟩ = some (.int .i64 0) := (blk_cell BK174.out 1).trans rfl; have hfz12_0 := blk_frozen BK174.out 0; have hfz12_1 := blk_frozen BK174.out 1))
           go_roundg k2
           case measure => have := HK1.out; have := HK2.out; omega
           case rel => exact ⟨(wrap64 (x3_2 + ((rd_T65 ((rd_T63 l0 x10_1).f4) x24_2).f0))),(wrap64 (x24_2 + 1)),(by rfl),(by rfl),H',⟨by have := HK1.out; have := HK2.out; omega⟩,⟨by refine blk_far ?_ NB172_174.out _; refine blk_far ?_ NB172_174.out _; exact BK172.out⟩,⟨by repeat (with_reducible first | exact HB.out | refine below_set ?_ GE174.out)⟩⟩
          ·rw [if_neg c9] at H;exact absurd H (by simp)
         ·rw [if_neg c8] at H;exact absurd H (by simp)
        ·rw [if_neg c7] at H;have c7b0 : decide (x24_2 < (((rd_T63 l0 x10_1).f4).length : Int)) = false := decide_eq_false c7;clear c7;have H' := Aside0.mk H;clear H;go_wp2
         go_roundg k2
         case measure => have := HK1.out; have := HK2.out; omega
         case rel => exact ⟨(x3_2),(wrap64 (x10_1 + 1)),(by rfl),(by rfl),H',⟨by have := HK1.out; have := HK2.out; omega⟩,⟨HB.out⟩⟩
     ·rw [if_neg c4] at H;exact absurd H (by simp)
    ·rw [if_neg c3] at H;exact absurd H (by simp)
   ·rw [if_neg c2] at H;have c2b0 : decide (x10_1 < (l0.length : Int)) = false := decide_eq_false c2;clear c2;obtain rfl := Option.some.inj H;go_wp2;go_ret;exact ⟨by rfl,HB.out⟩

/-! ### impl_inRange: function 69 -/
def impl_inRange.f (a0 : Int) (a1 : Int) (a2 : Int) : Option (Bool) := if a0 ≥ a1 then (some (decide (a0 ≤ a2))) else (some false)
set_option maxHeartbeats 8000000 in
set_option maxRecDepth 100000 in
theorem impl_inRange.calls (a0 : Int) (a1 : Int) (a2 : Int) (r : Bool) (w : World) (h : impl_inRange.f a0 a1 a2 = some r) :
  Calls Try.prog 69 #[.int .i64 a0,.int .i64 a1,.int .i64 a2] w fun e w' => e = .returned (.bool r) ∧ Drawn0 w w' := by
 have H : (if a0 ≥ a1 then (some (decide (a0 ≤ a2))) else (some false)) = some r := h;clear h
 by_cases c4 : a0 ≥ a1
 ·rw [if_pos c4] at H;have c4b0 : decide (a1 ≤ a0) = true := decide_eq_true c4;clear c4;obtain rfl := Option.some.inj H;go_enter Try.func69,Try.ntmps69;go_wp2;go_ret;exact ⟨by rfl,by repeat (exact Drawn0.refl _)⟩
 ·rw [if_neg c4] at H;have c4b0 : decide (a1 ≤ a0) = false := decide_eq_false c4;clear c4;obtain rfl := Option.some.inj H;go_enter Try.func69,Try.ntmps69;go_wp2;go_ret;exact ⟨by rfl,by repeat (exact Drawn0.refl _)⟩

/-! ### impl_isAmount: function 85 -/
def impl_isAmount.f (a0 : Int) : Option (Bool) := (impl_inRange.f a0 0 1000000).bind fun t175 => (some t175)
set_option maxHeartbeats 8000000 in
set_option maxRecDepth 100000 in
theorem impl_isAmount.calls (a0 : Int) (r : Bool) (w : World) (h : impl_isAmount.f a0 = some r) :
  Calls Try.prog 85 #[.int .i64 a0] w fun e w' => e = .returned (.bool r) ∧ Drawn0 w w' := by
 have H : ((impl_inRange.f a0 0 1000000).bind fun t175 => (some t175)) = some r := h;clear h;replace H := Option.bind_eq_some_iff.mp H;obtain ⟨t175,A20,H⟩ := H;replace H : (some t175) = some r := H;have A2 := Aside0.mk A20;clear A20;obtain rfl := Option.some.inj H;go_enter Try.func85,Try.ntmps85
 go_wp2_with (((with_reducible refine gate_callee (f := 69) rfl ?_); refine goesL_ (some 4) rfl rfl Try.func69 (by kernel_rfl) rfl #[.int .i64 a0,.int .i64 0,.int .i64 1000000] rfl (by (try simp only [List.map_toArray,List.map_cons,List.map_nil]); rfl) ?_; (with_reducible refine (impl_inRange.calls a0 0 1000000 t175 _ A2.out).mono ?_); rintro e w' ⟨rfl,⟨nd,rfl⟩⟩; refine ⟨_,rfl,?_⟩))
 go_ret;exact ⟨by rfl,by repeat (first | exact Drawn0.refl _ | apply Drawn0.step)⟩

/-! ### impl_NameOk: function 86 -/
def impl_NameOk.l0 : Nat → ByteArray → Int → Option (Bool)
 | 0,_,_ => none
 | k + 1,x0,x3 => if x3 < (x0.size : Int) then (if 0 ≤ x3 then (if (bt x0 x3) ≥ 97 then (if (bt x0 x3) ≤ 122 then (impl_NameOk.l0 k x0 (wrap64 (x3 + 1))) else (if (bt x0 x3) ≥ 48 then (if ((bt x0 x3) ≤ 57) then (impl_NameOk.l0 k x0 (wrap64 (x3 + 1))) else (some false)) else (some false))) else (if (bt x0 x3) ≥ 48 then (if ((bt x0 x3) ≤ 57) then (impl_NameOk.l0 k x0 (wrap64 (x3 + 1))) else (some false)) else (some false))) else (none)) else ((impl_inRange.f (x0.size : Int) 1 8).bind fun t176 => (some t176))
def impl_NameOk.f (k : Nat) (a0 : ByteArray) : Option (Bool) := impl_NameOk.l0 k a0 0
set_option maxHeartbeats 8000000 in
set_option maxRecDepth 100000 in
theorem impl_NameOk.calls (k : Nat) (a0 : ByteArray) (r : Bool) (w : World) (h : impl_NameOk.f k a0 = some r) :
  Calls Try.prog 86 #[.string a0] w fun e w' => e = .returned (.bool r) ∧ Drawn0 w w' := by
 have H : (impl_NameOk.l0 k a0 0) = some r := h;clear h;have H' := Aside0.mk H;clear H;go_enter Try.func86,Try.ntmps86;go_wp2
 go_loopg [3] k (fun kq v3 w' => ∃ (x3_1 : Int),v3 = .int .i64 x3_1 ∧ Aside0 (impl_NameOk.l0 kq a0 x3_1 = some r) ∧ Aside0 (kq ≤ k) ∧ Drawn0 w w')
 case atStart => exact ⟨(0),(by rfl),H',⟨Nat.le_refl _⟩,by repeat (exact Drawn0.refl _)⟩
 case round =>
  clear H';obtain ⟨x3_1,rfl,HA,HK1,⟨m1,rfl⟩⟩ := hrel
  cases gk with
  | zero => exact absurd HA.out (by simp [impl_NameOk.l0])
  | succ k1 =>
   have H := HA.out;clear HA;simp only [impl_NameOk.l0] at H
   by_cases c2 : x3_1 < (a0.size : Int)
   ·rw [if_pos c2] at H;have c2b0 : decide (x3_1 < (a0.size : Int)) = true := decide_eq_true c2;clear c2
    by_cases c3 : 0 ≤ x3_1
    ·rw [if_pos c3] at H;have c3b0 : decide (0 ≤ x3_1) = true := decide_eq_true c3;clear c3
     by_cases c5 : (bt a0 x3_1) ≥ 97
     ·rw [if_pos c5] at H;have c5b0 : decide (97 ≤ (bt a0 x3_1)) = true := decide_eq_true c5;clear c5
      by_cases c7 : (bt a0 x3_1) ≤ 122
      ·rw [if_pos c7] at H;have c7b0 : decide ((bt a0 x3_1) ≤ 122) = true := decide_eq_true c7;clear c7;have H' := Aside0.mk H;clear H;have p4 : 0 ≤ (x3_1 : Int) := of_decide_eq_true (by (with_reducible assumption));have q4 : x3_1 < (a0.size : Int) := of_decide_eq_true (by (with_reducible assumption));have hx4 := bt_at a0 x3_1;replace p4 := eq_true p4;replace q4 := eq_true q4;have p6 : 0 ≤ (x3_1 : Int) := of_decide_eq_true (by (with_reducible assumption));have q6 : x3_1 < (a0.size : Int) := of_decide_eq_true (by (with_reducible assumption));have hx6 := bt_at a0 x3_1;replace p6 := eq_true p6;replace q6 := eq_true q6;go_wp2
       go_roundg k1
       case measure => have := HK1.out; omega
       case rel => exact ⟨(wrap64 (x3_1 + 1)),(by rfl),H',⟨by have := HK1.out; omega⟩,by repeat (first | exact Drawn0.refl _ | apply Drawn0.step)⟩
      ·rw [if_neg c7] at H;have c7b0 : decide ((bt a0 x3_1) ≤ 122) = false := decide_eq_false c7;clear c7
       by_cases c9 : (bt a0 x3_1) ≥ 48
       ·rw [if_pos c9] at H;have c9b0 : decide (48 ≤ (bt a0 x3_1)) = true := decide_eq_true c9;clear c9
        by_cases c11 : ((bt a0 x3_1) ≤ 57)
        ·rw [if_pos c11] at H;have c11b0 : decide ((bt a0 x3_1) ≤ 57) = true := decide_eq_true c11;clear c11;have H' := Aside0.mk H;clear H;have p4 : 0 ≤ (x3_1 : Int) := of_decide_eq_true (by (with_reducible assumption));have q4 : x3_1 < (a0.size : Int) := of_decide_eq_true (by (with_reducible assumption));have hx4 := bt_at a0 x3_1;replace p4 := eq_true p4;replace q4 := eq_true q4;have p6 : 0 ≤ (x3_1 : Int) := of_decide_eq_true (by (with_reducible assumption));have q6 : x3_1 < (a0.size : Int) := of_decide_eq_true (by (with_reducible assumption));have hx6 := bt_at a0 x3_1;replace p6 := eq_true p6;replace q6 := eq_true q6;have p8 : 0 ≤ (x3_1 : Int) := of_decide_eq_true (by (with_reducible assumption));have q8 : x3_1 < (a0.size : Int) := of_decide_eq_true (by (with_reducible assumption));have hx8 := bt_at a0 x3_1;replace p8 := eq_true p8;replace q8 := eq_true q8;have p10 : 0 ≤ (x3_1 : Int) := of_decide_eq_true (by (with_reducible assumption));have q10 : x3_1 < (a0.size : Int) := of_decide_eq_true (by (with_reducible assumption));have hx10 := bt_at a0 x3_1;replace p10 := eq_true p10;replace q10 := eq_true q10;go_wp2
         go_roundg k1
         case measure => have := HK1.out; omega
         case rel => exact ⟨(wrap64 (x3_1 + 1)),(by rfl),H',⟨by have := HK1.out; omega⟩,by repeat (first | exact Drawn0.refl _ | apply Drawn0.step)⟩
        ·rw [if_neg c11] at H;have c11b0 : decide ((bt a0 x3_1) ≤ 57) = false := decide_eq_false c11;clear c11;obtain rfl := Option.some.inj H;have p4 : 0 ≤ (x3_1 : Int) := of_decide_eq_true (by (with_reducible assumption));have q4 : x3_1 < (a0.size : Int) := of_decide_eq_true (by (with_reducible assumption));have hx4 := bt_at a0 x3_1;replace p4 := eq_true p4;replace q4 := eq_true q4;have p6 : 0 ≤ (x3_1 : Int) := of_decide_eq_true (by (with_reducible assumption));have q6 : x3_1 < (a0.size : Int) := of_decide_eq_true (by (with_reducible assumption));have hx6 := bt_at a0 x3_1;replace p6 := eq_true p6;replace q6 := eq_true q6;have p8 : 0 ≤ (x3_1 : Int) := of_decide_eq_true (by (with_reducible assumption));have q8 : x3_1 < (a0.size : Int) := of_decide_eq_true (by (with_reducible assumption));have hx8 := bt_at a0 x3_1;replace p8 := eq_true p8;replace q8 := eq_true q8;have p10 : 0 ≤ (x3_1 : Int) := of_decide_eq_true (by (with_reducible assumption));have q10 : x3_1 < (a0.size : Int) := of_decide_eq_true (by (with_reducible assumption));have hx10 := bt_at a0 x3_1;replace p10 := eq_true p10;replace q10 := eq_true q10;go_wp2;go_ret;exact ⟨by rfl,by repeat (first | exact Drawn0.refl _ | apply Drawn0.step)⟩
       ·rw [if_neg c9] at H;have c9b0 : decide (48 ≤ (bt a0 x3_1)) = false := decide_eq_false c9;clear c9;obtain rfl := Option.some.inj H;have p4 : 0 ≤ (x3_1 : Int) := of_decide_eq_true (by (with_reducible assumption));have q4 : x3_1 < (a0.size : Int) := of_decide_eq_true (by (with_reducible assumption));have hx4 := bt_at a0 x3_1;replace p4 := eq_true p4;replace q4 := eq_true q4;have p6 : 0 ≤ (x3_1 : Int) := of_decide_eq_true (by (with_reducible assumption));have q6 : x3_1 < (a0.size : Int) := of_decide_eq_true (by (with_reducible assumption));have hx6 := bt_at a0 x3_1;replace p6 := eq_true p6;replace q6 := eq_true q6;have p8 : 0 ≤ (x3_1 : Int) := of_decide_eq_true (by (with_reducible assumption));have q8 : x3_1 < (a0.size : Int) := of_decide_eq_true (by (with_reducible assumption));have hx8 := bt_at a0 x3_1;replace p8 := eq_true p8;replace q8 := eq_true q8;go_wp2;go_ret;exact ⟨by rfl,by repeat (first | exact Drawn0.refl _ | apply Drawn0.step)⟩
     ·rw [if_neg c5] at H;have c5b0 : decide (97 ≤ (bt a0 x3_1)) = false := decide_eq_false c5;clear c5
      by_cases c13 : (bt a0 x3_1) ≥ 48
      ·rw [if_pos c13] at H;have c13b0 : decide (48 ≤ (bt a0 x3_1)) = true := decide_eq_true c13;clear c13
       by_cases c15 : ((bt a0 x3_1) ≤ 57)
       ·rw [if_pos c15] at H;have c15b0 : decide ((bt a0 x3_1) ≤ 57) = true := decide_eq_true c15;clear c15;have H' := Aside0.mk H;clear H;have p4 : 0 ≤ (x3_1 : Int) := of_decide_eq_true (by (with_reducible assumption));have q4 : x3_1 < (a0.size : Int) := of_decide_eq_true (by (with_reducible assumption));have hx4 := bt_at a0 x3_1;replace p4 := eq_true p4;replace q4 := eq_true q4;have p12 : 0 ≤ (x3_1 : Int) := of_decide_eq_true (by (with_reducible assumption));have q12 : x3_1 < (a0.size : Int) := of_decide_eq_true (by (with_reducible assumption));have hx12 := bt_at a0 x3_1;replace p12 := eq_true p12;replace q12 := eq_true q12;have p14 : 0 ≤ (x3_1 : Int) := of_decide_eq_true (by (with_reducible assumption));have q14 : x3_1 < (a0.size : Int) := of_decide_eq_true (by (with_reducible assumption));have hx14 := bt_at a0 x3_1;replace p14 := eq_true p14;replace q14 := eq_true q14;go_wp2
        go_roundg k1
        case measure => have := HK1.out; omega
        case rel => exact ⟨(wrap64 (x3_1 + 1)),(by rfl),H',⟨by have := HK1.out; omega⟩,by repeat (first | exact Drawn0.refl _ | apply Drawn0.step)⟩
       ·rw [if_neg c15] at H;have c15b0 : decide ((bt a0 x3_1) ≤ 57) = false := decide_eq_false c15;clear c15;obtain rfl := Option.some.inj H;have p4 : 0 ≤ (x3_1 : Int) := of_decide_eq_true (by (with_reducible assumption));have q4 : x3_1 < (a0.size : Int) := of_decide_eq_true (by (with_reducible assumption));have hx4 := bt_at a0 x3_1;replace p4 := eq_true p4;replace q4 := eq_true q4;have p12 : 0 ≤ (x3_1 : Int) := of_decide_eq_true (by (with_reducible assumption));have q12 : x3_1 < (a0.size : Int) := of_decide_eq_true (by (with_reducible assumption));have hx12 := bt_at a0 x3_1;replace p12 := eq_true p12;replace q12 := eq_true q12;have p14 : 0 ≤ (x3_1 : Int) := of_decide_eq_true (by (with_reducible assumption));have q14 : x3_1 < (a0.size : Int) := of_decide_eq_true (by (with_reducible assumption));have hx14 := bt_at a0 x3_1;replace p14 := eq_true p14;replace q14 := eq_true q14;go_wp2;go_ret;exact ⟨by rfl,by repeat (first | exact Drawn0.refl _ | apply Drawn0.step)⟩
      ·rw [if_neg c13] at H;have c13b0 : decide (48 ≤ (bt a0 x3_1)) = false := decide_eq_false c13;clear c13;obtain rfl := Option.some.inj H;have p4 : 0 ≤ (x3_1 : Int) := of_decide_eq_true (by (with_reducible assumption));have q4 : x3_1 < (a0.size : Int) := of_decide_eq_true (by (with_reducible assumption));have hx4 := bt_at a0 x3_1;replace p4 := eq_true p4;replace q4 := eq_true q4;have p12 : 0 ≤ (x3_1 : Int) := of_decide_eq_true (by (with_reducible assumption));have q12 : x3_1 < (a0.size : Int) := of_decide_eq_true (by (with_reducible assumption));have hx12 := bt_at a0 x3_1;replace p12 := eq_true p12;replace q12 := eq_true q12;go_wp2;go_ret;exact ⟨by rfl,by repeat (first | exact Drawn0.refl _ | apply Drawn0.step)⟩
    ·rw [if_neg c3] at H;exact absurd H (by simp)
   ·rw [if_neg c2] at H;have c2b0 : decide (x3_1 < (a0.size : Int)) = false := decide_eq_false c2;clear c2;replace H := Option.bind_eq_some_iff.mp H;obtain ⟨t176,A160,H⟩ := H;replace H : (some t176) = some r := H;have A16 := Aside0.mk A160;clear A160;obtain rfl := Option.some.inj H
    go_wp2_with (((with_reducible refine gate_callee (f := 69) rfl ?_); refine goesL_ (some 35) rfl rfl Try.func69 (by kernel_rfl) rfl #[.int .i64 (a0.size : Int),.int .i64 1,.int .i64 8] rfl (by (try simp only [List.map_toArray,List.map_cons,List.map_nil]); rfl) ?_; (with_reducible refine (impl_inRange.calls (a0.size : Int) 1 8 t176 _ A16.out).mono ?_); rintro e w' ⟨rfl,⟨nd,rfl⟩⟩; refine ⟨_,rfl,?_⟩))
    go_ret;exact ⟨by rfl,by repeat (first | exact Drawn0.refl _ | apply Drawn0.step)⟩

end Go.Proofs.Ytcbpfofkdipjhaa.PJ
