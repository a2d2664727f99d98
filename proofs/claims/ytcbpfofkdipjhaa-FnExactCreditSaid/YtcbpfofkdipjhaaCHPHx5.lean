/- The machine's side of Go functions: each as a plain function,and that the call does what it says. Written by a program (wip/mprint). -/
import Derived.Test.YtcbpfofkdipjhaaCHPHx0
namespace Go.Proofs.Ytcbpfofkdipjhaa.PH
open Go.RowKit Go.Proofs.YtcbpfofkdipjhaaW.PrintWords Go.Proofs.YtcbpfofkdipjhaaW.PrintLast Go.Proofs.YtcbpfofkdipjhaaW.PrintMore
attribute [local go_sem] max2_int min2_int max_two min_two max_three min_three max_four min_four   -- for this text's walks alone
set_option linter.unusedVariables false
set_option linter.unusedSimpArgs false

/-! ### spec_l4Of: function 139 -/
def spec_l4Of.l0 : Nat → Int → Int → ByteArray → Int → Int → Int → List (S65) → Option (Int)
 | 0,_,_,_,_,_,_,_ => none
 | k + 1,x3,x4,x145000,x145001,x145002,x145003,x145004 => if x4 < (x145004.length : Int) then (if 0 ≤ x4 then (spec_l4Of.l0 k (wrap64 (x3 + ((rd_T65 x145004 x4).f0))) (wrap64 (x4 + 1)) x145000 x145001 x145002 x145003 x145004) else (none)) else (some x3)
def spec_l4Of.f (k : Nat) (a0_0 : ByteArray) (a0_1 : Int) (a0_2 : Int) (a0_3 : Int) (l0_4 : List (S65)) : Option (Int) := spec_l4Of.l0 k (wrap64 (a0_1 + a0_3)) 0 a0_0 a0_1 a0_2 a0_3 l0_4
theorem spec_l4Of.mono_l : ∀ k,(∀ y0 y1 y2 y3 y4 y5 y6,LeO (spec_l4Of.l0 k y0 y1 y2 y3 y4 y5 y6) (spec_l4Of.l0 (k + 1) y0 y1 y2 y3 y4 y5 y6))
 | 0 => fun _ _ _ _ _ _ _ r h => by simp [spec_l4Of.l0] at h
 | k + 1 => by
  have ih0 := spec_l4Of.mono_l k
  ·intro y0 y1 y2 y3 y4 y5 y6;unfold spec_l4Of.l0
   repeat' first
   | (with_reducible exact ih0 _ _ _ _ _ _ _)
   | (with_reducible exact LeO.refl _)
   | (with_reducible exact LeO.none _)
   | (with_reducible refine LeO.ite ?_ ?_)
   | (with_reducible refine LeO.bind ?_ (fun _ => ?_))
   | exact ih0 _ _ _ _ _ _ _
   | exact LeO.none _
theorem spec_l4Of.mono : ∀ a0 a1 a2 a3 a4 k,LeO (spec_l4Of.f k a0 a1 a2 a3 a4) (spec_l4Of.f (k + 1) a0 a1 a2 a3 a4) := by
 intro a0 a1 a2 a3 a4 k;have ih0 := spec_l4Of.mono_l k;unfold spec_l4Of.f
 repeat' first
   | (with_reducible exact ih0 _ _ _ _ _ _ _)
   | (with_reducible exact LeO.refl _)
   | (with_reducible exact LeO.none _)
   | (with_reducible refine LeO.ite ?_ ?_)
   | (with_reducible refine LeO.bind ?_ (fun _ => ?_))
   | exact ih0 _ _ _ _ _ _ _
   | exact LeO.none _
set_option maxHeartbeats 8000000 in
set_option maxRecDepth 100000 in
theorem spec_l4Of.calls (k : Nat) (a0_0 : ByteArray) (a0_1 : Int) (a0_2 : Int) (a0_3 : Int) (A0_4 : Option Addr) (c0_4 : Nat) (l0_4 : List (S65)) (r : Int) (w : World) (hr0_4 : Kd.C k65 w A0_4 l0_4.length l0_4) (hc0_4 : l0_4.length ≤ c0_4) (h : spec_l4Of.f k a0_0 a0_1 a0_2 a0_3 l0_4 = some r) :
  Calls Try.prog 139 #[.agg #[.string a0_0,.int .i64 a0_1,.int .i64 a0_2,.int .i64 a0_3,.slice A0_4 l0_4.length c0_4]] w fun e w' => e = .returned (.int .i64 r) ∧ Below w.heap.size w w' := by
 have hu63 := Try.underlying63;have HR0_4 := Aside0.mk hr0_4;have HC0_4 := Aside0.mk hc0_4;clear hr0_4 hc0_4;have HB := Aside0.mk (Below.refl w.heap.size w);have H : (spec_l4Of.l0 k (wrap64 (a0_1 + a0_3)) 0 a0_0 a0_1 a0_2 a0_3 l0_4) = some r := h;clear h;have H' := Aside0.mk H;clear H;go_enter Try.func139,Try.ntmps139
 go_wp2_with (((with_reducible refine gate_dst (N := 1) rfl ?_); refine box_event ?hg (N := 1) ?hd (cs := #[.string a0_0,.int .i64 a0_1,.int .i64 a0_2,.int .i64 a0_3,.slice A0_4 l0_4.length c0_4]) (t := 63) ?hr ?_; (case hd => rfl); (case hg => rfl); (case hr => (go_simp; done)); intro gb144 hg w2 hbox hb; have n0_ := Aside0.mk (below_step HB.out hb); have n1_ := Aside0.mk (hbox); have n2_ := Aside0.mk (by rw [hg]; exact (below_size HB.out) : w.heap.size ≤ gb144); have n3_ := Aside0.mk (by rw [hg]; exact (below_size HB.out) : w.heap.size ≤ gb144); clear HB; have HB := n0_; have BK144 := n1_; have GW144 := n2_; have GE144 := n3_; clear n0_ n1_ n2_ n3_; clear hb hbox hg; have hcz3_0 : w2.cell? ⟨gb144,0,none⟩ = some (.string a0_0) := (blk_cell BK144.out 0).trans rfl; have hcz3_1 : w2.cell? ⟨gb144,1,none⟩ = some (.int .i64 a0_1) := (blk_cell BK144.out 1).trans rfl; have hcz3_2 : w2.cell? ⟨gb144,2,none⟩ = some (.int .i64 a0_2) := (blk_cell BK144.out 2).trans rfl; have hcz3_3 : w2.cell? ⟨gb144,3,none⟩ = some (.int .i64 a0_3) := (blk_cell BK144.out 3).trans rfl; have hcz3_4 : w2.cell? ⟨gb144,4,none⟩ = some (.slice A0_4 l0_4.length c0_4) := (blk_cell BK144.out 4).trans rfl; have hfz3_0 := blk_frozen BK144.out 0; have hfz3_1 := blk_frozen BK144.out 1; have hfz3_2 := blk_frozen BK144.out 2; have hfz3_3 := blk_frozen BK144.out 3; have hfz3_4 := blk_frozen BK144.out 4))
 go_loopg [3,4] k (fun kq v3 v4 w' => ∃ (x3_1 : Int) (x4_1 : Int),v3 = .int .i64 x3_1 ∧ v4 = .int .i64 x4_1 ∧ Aside0 (spec_l4Of.l0 kq x3_1 x4_1 a0_0 a0_1 a0_2 a0_3 l0_4 = some r) ∧ Aside0 (kq ≤ k) ∧ Aside0 (w'.heap[gb144]? = some (.cells #[.string a0_0,.int .i64 a0_1,.int .i64 a0_2,.int .i64 a0_3,(.slice A0_4 l0_4.length c0_4)] 63 (0,0))) ∧ Aside0 (Below w.heap.size w w'))
 case atStart => exact ⟨(wrap64 (a0_1 + a0_3)),(0),(by rfl),(by rfl),H',⟨Nat.le_refl _⟩,⟨by exact BK144.out⟩,⟨HB.out⟩⟩
 case round =>
  clear H'
  try clear c1
  try clear p2
  try clear hcz3_0
  try clear hcz3_1
  try clear hcz3_2
  try clear hcz3_3
  try clear hcz3_4
  try clear hfz3_0
  try clear hfz3_1
  try clear hfz3_2
  try clear hfz3_3
  try clear hfz3_4
  obtain ⟨x3_1,x4_1,rfl,rfl,HA,HK1,BK144,HB⟩ := hrel
  cases gk with
  | zero => exact absurd HA.out (by simp [spec_l4Of.l0])
  | succ k1 =>
   have H := HA.out;clear HA;simp only [spec_l4Of.l0] at H
   by_cases c4 : x4_1 < (l0_4.length : Int)
   ·rw [if_pos c4] at H;have c4b0 : decide (x4_1 < (l0_4.length : Int)) = true := decide_eq_true c4;clear c4
    by_cases c5 : 0 ≤ x4_1
    ·rw [if_pos c5] at H;have c5b0 : decide (0 ≤ x4_1) = true := decide_eq_true c5;clear c5;have H' := Aside0.mk H;clear H;have hcz6_0 : wr.cell? ⟨gb144,0,none⟩ = some (.string a0_0) := (blk_cell BK144.out 0).trans rfl;have hcz6_1 : wr.cell? ⟨gb144,1,none⟩ = some (.int .i64 a0_1) := (blk_cell BK144.out 1).trans rfl;have hcz6_2 : wr.cell? ⟨gb144,2,none⟩ = some (.int .i64 a0_2) := (blk_cell BK144.out 2).trans rfl;have hcz6_3 : wr.cell? ⟨gb144,3,none⟩ = some (.int .i64 a0_3) := (blk_cell BK144.out 3).trans rfl;have hcz6_4 : wr.cell? ⟨gb144,4,none⟩ = some (.slice A0_4 l0_4.length c0_4) := (blk_cell BK144.out 4).trans rfl;have hfz6_0 := blk_frozen BK144.out 0;have hfz6_1 := blk_frozen BK144.out 1;have hfz6_2 := blk_frozen BK144.out 2;have hfz6_3 := blk_frozen BK144.out 3;have hfz6_4 := blk_frozen BK144.out 4;have p145 : 0 ≤ (x4_1 : Int) := of_decide_eq_true (by (with_reducible assumption));have q145 : x4_1 < (l0_4.length : Int) := of_decide_eq_true (by (with_reducible assumption));obtain ⟨ad145,e145,hx145_0,hx145_1⟩ := at_T65 HR0_4.out x4_1 p145 q145
     cases e145
     replace hx145_0 := (HB.out.cell (World.block_lt_of_cell? w _ hx145_0)).trans hx145_0;replace hx145_1 := (HB.out.cell (World.block_lt_of_cell? w _ hx145_1)).trans hx145_1;replace p145 := eq_true p145;replace q145 := eq_true q145;go_wp2
     go_roundg k1
     case measure => have := HK1.out; omega
     case rel => exact ⟨(wrap64 (x3_1 + ((rd_T65 l0_4 x4_1).f0))),(wrap64 (x4_1 + 1)),(by rfl),(by rfl),H',⟨by have := HK1.out; omega⟩,⟨by exact BK144.out⟩,⟨HB.out⟩⟩
    ·rw [if_neg c5] at H;exact absurd H (by simp)
   ·rw [if_neg c4] at H;have c4b0 : decide (x4_1 < (l0_4.length : Int)) = false := decide_eq_false c4;clear c4;obtain rfl := Option.some.inj H;have hcz7_0 : wr.cell? ⟨gb144,0,none⟩ = some (.string a0_0) := (blk_cell BK144.out 0).trans rfl;have hcz7_1 : wr.cell? ⟨gb144,1,none⟩ = some (.int .i64 a0_1) := (blk_cell BK144.out 1).trans rfl;have hcz7_2 : wr.cell? ⟨gb144,2,none⟩ = some (.int .i64 a0_2) := (blk_cell BK144.out 2).trans rfl;have hcz7_3 : wr.cell? ⟨gb144,3,none⟩ = some (.int .i64 a0_3) := (blk_cell BK144.out 3).trans rfl;have hcz7_4 : wr.cell? ⟨gb144,4,none⟩ = some (.slice A0_4 l0_4.length c0_4) := (blk_cell BK144.out 4).trans rfl;have hfz7_0 := blk_frozen BK144.out 0;have hfz7_1 := blk_frozen BK144.out 1;have hfz7_2 := blk_frozen BK144.out 2;have hfz7_3 := blk_frozen BK144.out 3;have hfz7_4 := blk_frozen BK144.out 4;go_wp2;go_ret;exact ⟨by rfl,HB.out⟩

/-! ### spec_Wealth: function 124 -/
def spec_Wealth.l0 : Nat → List (S63) → Int → Int → Option (Int)
 | 0,_,_,_ => none
 | k + 1,x0,x3,x4 => if x4 < (x0.length : Int) then (if 0 ≤ x4 then ((spec_l4Of.f k ((rd_T63 x0 x4).f0) ((rd_T63 x0 x4).f1) ((rd_T63 x0 x4).f2) ((rd_T63 x0 x4).f3) ((rd_T63 x0 x4).f4)).bind fun t147 => (spec_Wealth.l0 k x0 (wrap64 (x3 + t147)) (wrap64 (x4 + 1)))) else (none)) else (some x3)
def spec_Wealth.f (k : Nat) (l0 : List (S63)) : Option (Int) := spec_Wealth.l0 k l0 0 0
theorem spec_Wealth.mono_l : ∀ k,(∀ y0 y1 y2,LeO (spec_Wealth.l0 k y0 y1 y2) (spec_Wealth.l0 (k + 1) y0 y1 y2))
 | 0 => fun _ _ _ r h => by simp [spec_Wealth.l0] at h
 | k + 1 => by
  have ih0 := spec_Wealth.mono_l k
  ·intro y0 y1 y2;unfold spec_Wealth.l0
   repeat' first
   | (with_reducible exact ih0 _ _ _)
   | (with_reducible exact spec_l4Of.mono _ _ _ _ _ _)
   | (with_reducible exact LeO.refl _)
   | (with_reducible exact LeO.none _)
   | (with_reducible refine LeO.ite ?_ ?_)
   | (with_reducible refine LeO.bind ?_ (fun _ => ?_))
   | exact ih0 _ _ _
   | exact spec_l4Of.mono _ _ _ _ _ _
   | exact LeO.none _
theorem spec_Wealth.mono : ∀ a0 k,LeO (spec_Wealth.f k a0) (spec_Wealth.f (k + 1) a0) := by
 intro a0 k;have ih0 := spec_Wealth.mono_l k;unfold spec_Wealth.f
 repeat' first
   | (with_reducible exact ih0 _ _ _)
   | (with_reducible exact spec_l4Of.mono _ _ _ _ _ _)
   | (with_reducible exact LeO.refl _)
   | (with_reducible exact LeO.none _)
   | (with_reducible refine LeO.ite ?_ ?_)
   | (with_reducible refine LeO.bind ?_ (fun _ => ?_))
   | exact ih0 _ _ _
   | exact spec_l4Of.mono _ _ _ _ _ _
   | exact LeO.none _
set_option maxHeartbeats 8000000 in
set_option maxRecDepth 100000 in
theorem spec_Wealth.calls (k : Nat) (A0 : Option Addr) (c0 : Nat) (l0 : List (S63)) (r : Int) (w : World) (hr0 : Kd.C k63 w A0 l0.length l0) (hc0 : l0.length ≤ c0) (h : spec_Wealth.f k l0 = some r) :
  Calls Try.prog 124 #[.slice A0 l0.length c0] w fun e w' => e = .returned (.int .i64 r) ∧ Below w.heap.size w w' := by
 have hu63 := Try.underlying63;have HR0 := Aside0.mk hr0;have HC0 := Aside0.mk hc0;clear hr0 hc0;have HB := Aside0.mk (Below.refl w.heap.size w);have H : (spec_Wealth.l0 k l0 0 0) = some r := h;clear h;have H' := Aside0.mk H;clear H;go_enter Try.func124,Try.ntmps124;go_wp2
 go_loopg [3,4] k (fun kq v3 v4 w' => ∃ (x3_1 : Int) (x4_1 : Int),v3 = .int .i64 x3_1 ∧ v4 = .int .i64 x4_1 ∧ Aside0 (spec_Wealth.l0 kq l0 x3_1 x4_1 = some r) ∧ Aside0 (kq ≤ k) ∧ Aside0 (Below w.heap.size w w'))
 case atStart => exact ⟨(0),(0),(by rfl),(by rfl),H',⟨Nat.le_refl _⟩,⟨HB.out⟩⟩
 case round =>
  clear H'
  try clear c1
  obtain ⟨x3_1,x4_1,rfl,rfl,HA,HK1,HB⟩ := hrel
  cases gk with
  | zero => exact absurd HA.out (by simp [spec_Wealth.l0])
  | succ k1 =>
   have H := HA.out;clear HA;simp only [spec_Wealth.l0] at H
   by_cases c2 : x4_1 < (l0.length : Int)
   ·rw [if_pos c2] at H;have c2b0 : decide (x4_1 < (l0.length : Int)) = true := decide_eq_true c2;clear c2
    by_cases c3 : 0 ≤ x4_1
    ·rw [if_pos c3] at H;have c3b0 : decide (0 ≤ x4_1) = true := decide_eq_true c3;clear c3;replace H := Option.bind_eq_some_iff.mp H;obtain ⟨t147,A40,H⟩ := H;replace H : (spec_Wealth.l0 k1 l0 (wrap64 (x3_1 + t147)) (wrap64 (x4_1 + 1))) = some r := H;have A4 := Aside0.mk A40;clear A40;have H' := Aside0.mk H;clear H;have p146 : 0 ≤ (x4_1 : Int) := of_decide_eq_true (by (with_reducible assumption));have q146 : x4_1 < (l0.length : Int) := of_decide_eq_true (by (with_reducible assumption));obtain ⟨ad146,A146_4,c146_4,e146,hx146_0,hx146_1,hx146_2,hx146_3,hx146_4,hl146_4,hi146_4⟩ := at_T63 HR0.out x4_1 p146 q146
     cases e146
     replace hx146_0 := (HB.out.cell (World.block_lt_of_cell? w _ hx146_0)).trans hx146_0;replace hx146_1 := (HB.out.cell (World.block_lt_of_cell? w _ hx146_1)).trans hx146_1;replace hx146_2 := (HB.out.cell (World.block_lt_of_cell? w _ hx146_2)).trans hx146_2;replace hx146_3 := (HB.out.cell (World.block_lt_of_cell? w _ hx146_3)).trans hx146_3;replace hx146_4 := (HB.out.cell (World.block_lt_of_cell? w _ hx146_4)).trans hx146_4;have HR146_4 := Aside0.mk hi146_4;have HC146_4 := Aside0.mk hl146_4;clear hi146_4 hl146_4;replace p146 := eq_true p146;replace q146 := eq_true q146
     go_wp2_with (((with_reducible refine gate_callee (f := 139) rfl ?_); refine goesL_ (some 16) rfl rfl Try.func139 (by kernel_rfl) rfl #[.agg #[.string ((rd_T63 l0 x4_1).f0),.int .i64 ((rd_T63 l0 x4_1).f1),.int .i64 ((rd_T63 l0 x4_1).f2),.int .i64 ((rd_T63 l0 x4_1).f3),.slice A146_4 ((rd_T63 l0 x4_1).f4).length c146_4]] rfl (by (try simp only [List.map_toArray,List.map_cons,List.map_nil]); rfl) ?_; (with_reducible refine (spec_l4Of.calls k1 ((rd_T63 l0 x4_1).f0) ((rd_T63 l0 x4_1).f1) ((rd_T63 l0 x4_1).f2) ((rd_T63 l0 x4_1).f3) _ _ ((rd_T63 l0 x4_1).f4) t147 _ ?side1 ?side2 A4.out).mono ?_); (case side1 => repeat (exact (Kd.C_below HR146_4.out HB.out))); (case side2 => exact HC146_4.out); rintro e w5 ⟨rfl,hb⟩; refine ⟨_,rfl,?_⟩; have n0_ := Aside0.mk (below_step HB.out hb); clear HB; have HB := n0_; clear n0_; (try clear hb); skip))
     go_roundg k1
     case measure => have := HK1.out; omega
     case rel => exact ⟨(wrap64 (x3_1 + t147)),(wrap64 (x4_1 + 1)),(by rfl),(by rfl),H',⟨by have := HK1.out; omega⟩,⟨HB.out⟩⟩
    ·rw [if_neg c3] at H;exact absurd H (by simp)
   ·rw [if_neg c2] at H;have c2b0 : decide (x4_1 < (l0.length : Int)) = false := decide_eq_false c2;clear c2;obtain rfl := Option.some.inj H;go_wp2;go_ret;exact ⟨by rfl,HB.out⟩

end Go.Proofs.Ytcbpfofkdipjhaa.PH
