/- The machine's side of Go functions: each as a plain function,and that the call does what it says. Written by a program (wip/mprint). -/
import Derived.Test.YtcbpfofkdipjhaaSRPIx0
import Derived.Test.YtcbpfofkdipjhaaSRPIx3
import Derived.Test.YtcbpfofkdipjhaaSRPIx4
namespace Go.Proofs.Ytcbpfofkdipjhaa.PI
open Go.RowKit Go.Proofs.YtcbpfofkdipjhaaW.PrintWords Go.Proofs.YtcbpfofkdipjhaaW.PrintLast Go.Proofs.YtcbpfofkdipjhaaW.PrintMore
attribute [local wf_preprocess] Act.put List.setIfInBounds_toArray List.set_cons_zero List.set_cons_succ i64_w i32_w
attribute [local go_sem] max2_int min2_int max_two min_two max_three min_three max_four min_four   -- for this text's walks alone
set_option linter.unusedVariables false
set_option linter.unusedSimpArgs false

/-! ### impl_StateRoot: function 28 -/
mutual
def impl_StateRoot.l0 : Nat → List ByteArray → List (S63) → Int → Int → Option (ByteArray)
 | 0,_,_,_,_ => none
 | k + 1,x3,x13,x14,x15 => if x15 < x14 then (if 0 ≤ x15 then (if x15 < (x13.length : Int) then ((impl_putText.f k ([] : List Int) ((rd_T63 x13 x15).f0)).bind fun t180 => ((impl_putNum.f k t180 ((rd_T63 x13 x15).f1)).bind fun t183 => ((impl_putNum.f k t183 ((rd_T63 x13 x15).f2)).bind fun t186 => ((impl_putNum.f k t186 ((rd_T63 x13 x15).f3)).bind fun t189 => ((impl_putNum.f k t189 (((rd_T63 x13 x15).f4).length : Int)).bind fun t192 => (impl_StateRoot.l1 k x3 t192 x13 x14 x15 ((rd_T63 x13 x15).f4) (((rd_T63 x13 x15).f4).length : Int) 0)))))) else (none)) else (none)) else ((impl_rootOf.f k x3).bind fun t177 => (some t177))
def impl_StateRoot.l1 : Nat → List ByteArray → List Int → List (S63) → Int → Int → List (S65) → Int → Int → Option (ByteArray)
 | 0,_,_,_,_,_,_,_,_ => none
 | k + 1,x3,x6,x13,x14,x15,x37,x38,x39 => if x39 < x38 then (if 0 ≤ x39 then (if x39 < (x37.length : Int) then ((impl_putNum.f k x6 ((rd_T65 x37 x39).f0)).bind fun t197 => ((impl_putNum.f k t197 ((rd_T65 x37 x39).f1)).bind fun t200 => (impl_StateRoot.l1 k x3 t200 x13 x14 x15 x37 x38 (wrap64 (x39 + 1))))) else (none)) else (none)) else (if x3.length < 8796093022208 then (impl_StateRoot.l0 k (x3 ++ [strOfNums x6]) x13 x14 (wrap64 (x15 + 1))) else (none))
end
def impl_StateRoot.f (k : Nat) (a0_0 : Int) (l0_1 : List (S63)) : Option (ByteArray) := (impl_LedgerOk.f k a0_0 l0_1).bind fun t176 => (if t176 = true then (impl_StateRoot.l0 k ([] : List ByteArray) l0_1 (l0_1.length : Int) 0) else (some (⟨#[]⟩ : ByteArray)))
theorem impl_StateRoot.mono_l : ∀ k,(∀ y0 y1 y2 y3,LeO (impl_StateRoot.l0 k y0 y1 y2 y3) (impl_StateRoot.l0 (k + 1) y0 y1 y2 y3)) ∧ (∀ y0 y1 y2 y3 y4 y5 y6 y7,LeO (impl_StateRoot.l1 k y0 y1 y2 y3 y4 y5 y6 y7) (impl_StateRoot.l1 (k + 1) y0 y1 y2 y3 y4 y5 y6 y7))
 | 0 => ⟨fun _ _ _ _ r h => by simp [impl_StateRoot.l0] at h,fun _ _ _ _ _ _ _ _ r h => by simp [impl_StateRoot.l1] at h⟩
 | k + 1 => by
  obtain ⟨ih0,ih1⟩ := impl_StateRoot.mono_l k;refine ⟨?_,?_⟩
  ·intro y0 y1 y2 y3;unfold impl_StateRoot.l0
   repeat' first
   | (with_reducible exact ih0 _ _ _ _)
   | (with_reducible exact ih1 _ _ _ _ _ _ _ _)
   | (with_reducible exact impl_LedgerOk.mono _ _ _)
   | (with_reducible exact impl_putNum.mono _ _ _)
   | (with_reducible exact impl_putText.mono _ _ _)
   | (with_reducible exact impl_rootOf.mono _ _)
   | (with_reducible exact LeO.refl _)
   | (with_reducible exact LeO.none _)
   | (with_reducible refine LeO.ite ?_ ?_)
   | (with_reducible refine LeO.bind ?_ (fun _ => ?_))
   | exact ih0 _ _ _ _
   | exact ih1 _ _ _ _ _ _ _ _
   | exact impl_LedgerOk.mono _ _ _
   | exact impl_putNum.mono _ _ _
   | exact impl_putText.mono _ _ _
   | exact impl_rootOf.mono _ _
   | exact LeO.none _
  ·intro y0 y1 y2 y3 y4 y5 y6 y7;unfold impl_StateRoot.l1
   repeat' first
   | (with_reducible exact ih0 _ _ _ _)
   | (with_reducible exact ih1 _ _ _ _ _ _ _ _)
   | (with_reducible exact impl_LedgerOk.mono _ _ _)
   | (with_reducible exact impl_putNum.mono _ _ _)
   | (with_reducible exact impl_putText.mono _ _ _)
   | (with_reducible exact impl_rootOf.mono _ _)
   | (with_reducible exact LeO.refl _)
   | (with_reducible exact LeO.none _)
   | (with_reducible refine LeO.ite ?_ ?_)
   | (with_reducible refine LeO.bind ?_ (fun _ => ?_))
   | exact ih0 _ _ _ _
   | exact ih1 _ _ _ _ _ _ _ _
   | exact impl_LedgerOk.mono _ _ _
   | exact impl_putNum.mono _ _ _
   | exact impl_putText.mono _ _ _
   | exact impl_rootOf.mono _ _
   | exact LeO.none _
theorem impl_StateRoot.mono : ∀ a0 a1 k,LeO (impl_StateRoot.f k a0 a1) (impl_StateRoot.f (k + 1) a0 a1) := by
 intro a0 a1 k;obtain ⟨ih0,ih1⟩ := impl_StateRoot.mono_l k;unfold impl_StateRoot.f
 repeat' first
   | (with_reducible exact ih0 _ _ _ _)
   | (with_reducible exact ih1 _ _ _ _ _ _ _ _)
   | (with_reducible exact impl_LedgerOk.mono _ _ _)
   | (with_reducible exact impl_putNum.mono _ _ _)
   | (with_reducible exact impl_putText.mono _ _ _)
   | (with_reducible exact impl_rootOf.mono _ _)
   | (with_reducible exact LeO.refl _)
   | (with_reducible exact LeO.none _)
   | (with_reducible refine LeO.ite ?_ ?_)
   | (with_reducible refine LeO.bind ?_ (fun _ => ?_))
   | exact ih0 _ _ _ _
   | exact ih1 _ _ _ _ _ _ _ _
   | exact impl_LedgerOk.mono _ _ _
   | exact impl_putNum.mono _ _ _
   | exact impl_putText.mono _ _ _
   | exact impl_rootOf.mono _ _
   | exact LeO.none _
def impl_StateRoot.T8 : Bool × List (List Nat × List Nat) := (true,[([],[]),([],[]),([1],[1]),([0,2],[0,2]),([],[]),([4],[4]),([3,5,3],[3,5]),([],[]),([7],[7]),([8],[8]),([6,9,6],[6,9]),([10,10,0,1,2,3,4,5,6,7,8,9,10],[0,10])])
def impl_StateRoot.B8 : List Nat := [0,0,2,7,0,16,63,0,128,384,1023,2047]
theorem impl_StateRoot.tab8 : rtab .any (opsOf Try.f28 8) = impl_StateRoot.T8 := by kernel_rfl
theorem impl_StateRoot.bits8 : waitsOk impl_StateRoot.T8.2 impl_StateRoot.B8 = true := by kernel_rfl
def impl_StateRoot.T12 : Bool × List (List Nat × List Nat) := (true,[([],[]),([],[]),([1],[1]),([0,2],[0,2]),([],[]),([4],[4]),([3,5,3],[3,5]),([6,6,0,1,2,3,4,5,6],[0,6])])
def impl_StateRoot.B12 : List Nat := [0,0,2,7,0,16,63,127]
theorem impl_StateRoot.tab12 : rtab .any (opsOf Try.f28 12) = impl_StateRoot.T12 := by kernel_rfl
theorem impl_StateRoot.bits12 : waitsOk impl_StateRoot.T12.2 impl_StateRoot.B12 = true := by kernel_rfl
set_option maxHeartbeats 8000000 in
set_option maxRecDepth 100000 in
theorem impl_StateRoot.calls (k : Nat) (a0_0 : Int) (A0_1 : Option Addr) (c0_1 : Nat) (l0_1 : List (S63)) (r : ByteArray) (w : World) (hr0_1 : Kd.C k63 w A0_1 l0_1.length l0_1) (hc0_1 : l0_1.length ≤ c0_1) (h : impl_StateRoot.f k a0_0 l0_1 = some r) :
  Calls Try.prog 28 #[.agg #[.int .i64 a0_0,.slice A0_1 l0_1.length c0_1]] w fun e w' => e = .returned (.string r) ∧ Below w.heap.size w w' := by
 have hu31 := Try.underlying31;have hu63 := Try.underlying63;have hu65 := Try.underlying65;have HR0_1 := Aside0.mk hr0_1;have HC0_1 := Aside0.mk hc0_1;clear hr0_1 hc0_1;have HB := Aside0.mk (Below.refl w.heap.size w);have H : ((impl_LedgerOk.f k a0_0 l0_1).bind fun t176 => (if t176 = true then (impl_StateRoot.l0 k ([] : List ByteArray) l0_1 (l0_1.length : Int) 0) else (some (⟨#[]⟩ : ByteArray)))) = some r := h;clear h;replace H := Option.bind_eq_some_iff.mp H;obtain ⟨t176,A20,H⟩ := H;replace H : (if t176 = true then (impl_StateRoot.l0 k ([] : List ByteArray) l0_1 (l0_1.length : Int) 0) else (some (⟨#[]⟩ : ByteArray))) = some r := H;have A2 := Aside0.mk A20;clear A20
 by_cases c3 : t176 = true
 ·subst c3
  have H1 : (impl_StateRoot.l0 k ([] : List ByteArray) l0_1 (l0_1.length : Int) 0) = some r := by rw [if_pos rfl] at H; exact H
  clear H;have H := H1;clear H1;have H' := Aside0.mk H;clear H;go_enter Try.func28,Try.ntmps28
  go_wp2_with (first | ((with_reducible refine gate_dst (N := 1) rfl ?_); refine box_event ?hg (N := 1) ?hd (cs := #[.int .i64 a0_0,.slice A0_1 l0_1.length c0_1]) (t := 31) ?hr ?_; (case hd => rfl); (case hg => rfl); (case hr => (go_simp; done)); intro gb175 hg w4 hbox hb; have n0_ := Aside0.mk (below_step HB.out hb); have n1_ := Aside0.mk (hbox); have n2_ := Aside0.mk (by rw [hg]; exact (below_size HB.out) : w.heap.size ≤ gb175); have n3_ := Aside0.mk (by rw [hg]; exact (below_size HB.out) : w.heap.size ≤ gb175); clear HB; have HB := n0_; have BK175 := n1_; have GW175 := n2_; have GE175 := n3_; clear n0_ n1_ n2_ n3_; clear hb hbox hg; have hcz5_0 : w4.cell? ⟨gb175,0,none⟩ = some (.int .i64 a0_0) := (blk_cell BK175.out 0).trans rfl; have hcz5_1 : w4.cell? ⟨gb175,1,none⟩ = some (.slice A0_1 l0_1.length c0_1) := (blk_cell BK175.out 1).trans rfl; have hfz5_0 := blk_frozen BK175.out 0; have hfz5_1 := blk_frozen BK175.out 1) | ((with_reducible refine gate_callee (f := 27) rfl ?_); refine goesL_ (some 10) rfl rfl Try.func27 (by kernel_rfl) rfl #[.agg #[.int .i64 a0_0,.slice A0_1 l0_1.length c0_1]] rfl (by (try simp only [List.map_toArray,List.map_cons,List.map_nil]); rfl) ?_; (with_reducible refine (impl_LedgerOk.calls k a0_0 _ _ l0_1 true _ ?side1 ?side2 A2.out).mono ?_); (case side1 => repeat (exact (Kd.C_below HR0_1.out HB.out))); (case side2 => exact HC0_1.out); rintro e w6 ⟨rfl,hb⟩; refine ⟨_,rfl,?_⟩; have n0_ := Aside0.mk (blk_below (g := gb175) (o := .cells #[.int .i64 a0_0,.slice A0_1 l0_1.length c0_1] 31 (0,0)) (by exact BK175.out) hb); have n1_ := Aside0.mk (below_step HB.out hb); clear BK175; clear HB; have BK175 := n0_; have HB := n1_; clear n0_ n1_; (try clear hb); have hcz7_0 : w6.cell? ⟨gb175,0,none⟩ = some (.int .i64 a0_0) := (blk_cell BK175.out 0).trans rfl; have hcz7_1 : w6.cell? ⟨gb175,1,none⟩ = some (.slice A0_1 l0_1.length c0_1) := (blk_cell BK175.out 1).trans rfl; have hfz7_0 := blk_frozen BK175.out 0; have hfz7_1 := blk_frozen BK175.out 1))
  go_loopg [3,15] k (fun kq v3 v15 w' => ∃ (x3_1 : List ByteArray) (x15_1 : Int),v15 = .int .i64 x15_1 ∧ Aside0 (impl_StateRoot.l0 kq x3_1 l0_1 (l0_1.length : Int) x15_1 = some r) ∧ Aside0 (kq ≤ k) ∧ Aside0 (Kd.R Kd.string 9 w' w.heap.size (fun _ => True) v3 x3_1) ∧ Aside0 (w'.heap[gb175]? = some (.cells #[.int .i64 a0_0,(.slice A0_1 l0_1.length c0_1)] 31 (0,0))) ∧ Aside0 (Below w.heap.size w w'))
  case atStart => exact ⟨([] : List ByteArray),(0),(by rfl),H',⟨Nat.le_refl _⟩,⟨by exact Kd.R_nil _ _ _ _ _⟩,⟨by exact BK175.out⟩,⟨HB.out⟩⟩
  case round =>
   clear H'
   try clear c2
   try clear p2
   try clear c3
   try clear hcz5_0
   try clear hcz5_1
   try clear hcz7_0
   try clear hcz7_1
   try clear hfz5_0
   try clear hfz5_1
   try clear hfz7_0
   try clear hfz7_1
   obtain ⟨x3_1,x15_1,rfl,HA,HK1,HO_3,BK175,HB⟩ := hrel
   cases gk with
   | zero => exact absurd HA.out (by simp [impl_StateRoot.l0])
   | succ k1 =>
    have H := HA.out;clear HA;simp only [impl_StateRoot.l0] at H
    by_cases c8 : x15_1 < (l0_1.length : Int)
    ·rw [if_pos c8] at H;have c8b0 : decide (x15_1 < (l0_1.length : Int)) = true := decide_eq_true c8;clear c8
     by_cases c9 : 0 ≤ x15_1
     ·rw [if_pos c9] at H;have c9b0 : decide (0 ≤ x15_1) = true := decide_eq_true c9;clear c9
      by_cases c10 : x15_1 < (l0_1.length : Int)
      ·rw [if_pos c10] at H;have c10b0 : decide (x15_1 < (l0_1.length : Int)) = true := decide_eq_true c10;clear c10;replace H := Option.bind_eq_some_iff.mp H;obtain ⟨t180,A110,H⟩ := H;replace H : ((impl_putNum.f k1 t180 ((rd_T63 l0_1 x15_1).f1)).bind fun t183 => ((impl_putNum.f k1 t183 ((rd_T63 l0_1 x15_1).f2)).bind fun t186 => ((impl_putNum.f k1 t186 ((rd_T63 l0_1 x15_1).f3)).bind fun t189 => ((impl_putNum.f k1 t189 (((rd_T63 l0_1 x15_1).f4).length : Int)).bind fun t192 => (impl_StateRoot.l1 k1 x3_1 t192 l0_1 (l0_1.length : Int) x15_1 ((rd_T63 l0_1 x15_1).f4) (((rd_T63 l0_1 x15_1).f4).length : Int) 0))))) = some r := H;have A11 := Aside0.mk A110;clear A110;replace H := Option.bind_eq_some_iff.mp H;obtain ⟨t183,A120,H⟩ := H;replace H : ((impl_putNum.f k1 t183 ((rd_T63 l0_1 x15_1).f2)).bind fun t186 => ((impl_putNum.f k1 t186 ((rd_T63 l0_1 x15_1).f3)).bind fun t189 => ((impl_putNum.f k1 t189 (((rd_T63 l0_1 x15_1).f4).length : Int)).bind fun t192 => (impl_StateRoot.l1 k1 x3_1 t192 l0_1 (l0_1.length : Int) x15_1 ((rd_T63 l0_1 x15_1).f4) (((rd_T63 l0_1 x15_1).f4).length : Int) 0)))) = some r := H;have A12 := Aside0.mk A120;clear A120;replace H := Option.bind_eq_some_iff.mp H;obtain ⟨t186,A130,H⟩ := H;replace H : ((impl_putNum.f k1 t186 ((rd_T63 l0_1 x15_1).f3)).bind fun t189 => ((impl_putNum.f k1 t189 (((rd_T63 l0_1 x15_1).f4).length : Int)).bind fun t192 => (impl_StateRoot.l1 k1 x3_1 t192 l0_1 (l0_1.length : Int) x15_1 ((rd_T63 l0_1 x15_1).f4) (((rd_T63 l0_1 x15_1).f4).length : Int) 0))) = some r := H;have A13 := Aside0.mk A130;clear A130;replace H := Option.bind_eq_some_iff.mp H;obtain ⟨t189,A140,H⟩ := H;replace H : ((impl_putNum.f k1 t189 (((rd_T63 l0_1 x15_1).f4).length : Int)).bind fun t192 => (impl_StateRoot.l1 k1 x3_1 t192 l0_1 (l0_1.length : Int) x15_1 ((rd_T63 l0_1 x15_1).f4) (((rd_T63 l0_1 x15_1).f4).length : Int) 0)) = some r := H;have A14 := Aside0.mk A140;clear A140;replace H := Option.bind_eq_some_iff.mp H;obtain ⟨t192,A150,H⟩ := H;replace H : (impl_StateRoot.l1 k1 x3_1 t192 l0_1 (l0_1.length : Int) x15_1 ((rd_T63 l0_1 x15_1).f4) (((rd_T63 l0_1 x15_1).f4).length : Int) 0) = some r := H;have A15 := Aside0.mk A150;clear A150;have H' := Aside0.mk H;clear H;have p178 : 0 ≤ (x15_1 : Int) := of_decide_eq_true (by (with_reducible assumption));have q178 : x15_1 < (l0_1.length : Int) := of_decide_eq_true (by (with_reducible assumption));obtain ⟨ad178,A178_4,c178_4,e178,hx178_0,hx178_1,hx178_2,hx178_3,hx178_4,hl178_4,hi178_4⟩ := at_T63 HR0_1.out x15_1 p178 q178
       cases e178
       replace hx178_0 := (HB.out.cell (World.block_lt_of_cell? w _ hx178_0)).trans hx178_0;replace hx178_1 := (HB.out.cell (World.block_lt_of_cell? w _ hx178_1)).trans hx178_1;replace hx178_2 := (HB.out.cell (World.block_lt_of_cell? w _ hx178_2)).trans hx178_2;replace hx178_3 := (HB.out.cell (World.block_lt_of_cell? w _ hx178_3)).trans hx178_3;replace hx178_4 := (HB.out.cell (World.block_lt_of_cell? w _ hx178_4)).trans hx178_4;have HR178_4 := Aside0.mk hi178_4;have HC178_4 := Aside0.mk hl178_4;clear hi178_4 hl178_4;replace p178 := eq_true p178;replace q178 := eq_true q178
       try go_wp2_with (((with_reducible refine gate_dst (N := 5) rfl ?_); refine box_event ?hg (N := 5) ?hd (cs := #[.string (⟨#[]⟩ : ByteArray),.int .i64 0,.int .i64 0,.int .i64 0,.slice none 0 0]) (t := 63) ?hr ?_; (case hd => rfl); (case hg => rfl); (case hr => (go_simp; done)); intro gb179 hg w16 hbox hb; have n0_ := Aside0.mk (Kd.R_below (by exact HO_3.out) hb); have n1_ := Aside0.mk (blk_below (g := gb175) (o := .cells #[.int .i64 a0_0,.slice (some ad178) l0_1.length c0_1] 31 (0,0)) (by exact BK175.out) hb); have n2_ := Aside0.mk (below_step HB.out hb); have n3_ := Aside0.mk (hbox); have n4_ := Aside0.mk (by rw [hg]; exact (below_size HB.out) : w.heap.size ≤ gb179); have n5_ := Aside0.mk (by rw [hg]; exact (below_size HB.out) : w.heap.size ≤ gb179); have n6_ := Aside0.mk (by rw [hg]; exact Nat.ne_of_lt (blk_lt (g := gb175) (o := .cells #[.int .i64 a0_0,.slice (some ad178) l0_1.length c0_1] 31 (0,0)) (by exact BK175.out)) : gb175 ≠ gb179); have n7_ := Aside0.mk (by rw [hg]; exact Nat.ne_of_gt (blk_lt (g := gb175) (o := .cells #[.int .i64 a0_0,.slice (some ad178) l0_1.length c0_1] 31 (0,0)) (by exact BK175.out)) : gb179 ≠ gb175); clear HO_3; clear BK175; clear HB; have HO_3 := n0_; have BK175 := n1_; have HB := n2_; have BK179 := n3_; have GW179 := n4_; have GE179 := n5_; have NB175_179 := n6_; have NB179_175 := n7_; clear n0_ n1_ n2_ n3_ n4_ n5_ n6_ n7_; clear hb hbox hg; have hnb17 := NB179_175.out; have hnc17 := NB175_179.out; have hcz18_0 : w16.cell? ⟨gb179,0,none⟩ = some (.string (⟨#[]⟩ : ByteArray)) := (blk_cell BK179.out 0).trans rfl; have hcz18_1 : w16.cell? ⟨gb179,1,none⟩ = some (.int .i64 0) := (blk_cell BK179.out 1).trans rfl; have hcz18_2 : w16.cell? ⟨gb179,2,none⟩ = some (.int .i64 0) := (blk_cell BK179.out 2).trans rfl; have hcz18_3 : w16.cell? ⟨gb179,3,none⟩ = some (.int .i64 0) := (blk_cell BK179.out 3).trans rfl; have hcz18_4 : w16.cell? ⟨gb179,4,none⟩ = some (.slice none 0 0) := (blk_cell BK179.out 4).trans rfl; have hfz18_0 := blk_frozen BK179.out 0; have hfz18_1 := blk_frozen BK179.out 1; have hfz18_2 := blk_frozen BK179.out 2; have hfz18_3 := blk_frozen BK179.out 3; have hfz18_4 := blk_frozen BK179.out 4))
       have n0_ : Aside0 (Kd.R Kd.string 9 (((((w16.setCell ⟨gb179,0,none⟩ (.string ((rd_T63 l0_1 x15_1).f0))).setCell ⟨gb179,1,none⟩ (.int .i64 ((rd_T63 l0_1 x15_1).f1))).setCell ⟨gb179,2,none⟩ (.int .i64 ((rd_T63 l0_1 x15_1).f2))).setCell ⟨gb179,3,none⟩ (.int .i64 ((rd_T63 l0_1 x15_1).f3))).setCell ⟨gb179,4,none⟩ (.slice A178_4 ((rd_T63 l0_1 x15_1).f4).length c178_4)) w.heap.size (fun _ => True) u3 x3_1) := ⟨by exact Kd.R_mono (Kd.R_far (p := ⟨gb179,4,none⟩) (Kd.R_far (p := ⟨gb179,3,none⟩) (Kd.R_far (p := ⟨gb179,2,none⟩) (Kd.R_far (p := ⟨gb179,1,none⟩) (Kd.R_far (p := ⟨gb179,0,none⟩) (Kd.R_types HO_3.out BK179.out (by decide)) (fun _ hk => hk.2) (.string ((rd_T63 l0_1 x15_1).f0))) (fun _ hk => hk.2) (.int .i64 ((rd_T63 l0_1 x15_1).f1))) (fun _ hk => hk.2) (.int .i64 ((rd_T63 l0_1 x15_1).f2))) (fun _ hk => hk.2) (.int .i64 ((rd_T63 l0_1 x15_1).f3))) (fun _ hk => hk.2) (.slice A178_4 ((rd_T63 l0_1 x15_1).f4).length c178_4)) (fun _ hk => trivial)⟩;have n1_ : Aside0 ((((((w16.setCell ⟨gb179,0,none⟩ (.string ((rd_T63 l0_1 x15_1).f0))).setCell ⟨gb179,1,none⟩ (.int .i64 ((rd_T63 l0_1 x15_1).f1))).setCell ⟨gb179,2,none⟩ (.int .i64 ((rd_T63 l0_1 x15_1).f2))).setCell ⟨gb179,3,none⟩ (.int .i64 ((rd_T63 l0_1 x15_1).f3))).setCell ⟨gb179,4,none⟩ (.slice A178_4 ((rd_T63 l0_1 x15_1).f4).length c178_4)).heap[gb175]? = some (.cells #[.int .i64 a0_0,.slice (some ad178) l0_1.length c0_1] 31 (0,0))) := ⟨by refine blk_far ?_ NB175_179.out _; refine blk_far ?_ NB175_179.out _; refine blk_far ?_ NB175_179.out _; refine blk_far ?_ NB175_179.out _; refine blk_far ?_ NB175_179.out _; exact BK175.out⟩;have n2_ : Aside0 ((((((w16.setCell ⟨gb179,0,none⟩ (.string ((rd_T63 l0_1 x15_1).f0))).setCell ⟨gb179,1,none⟩ (.int .i64 ((rd_T63 l0_1 x15_1).f1))).setCell ⟨gb179,2,none⟩ (.int .i64 ((rd_T63 l0_1 x15_1).f2))).setCell ⟨gb179,3,none⟩ (.int .i64 ((rd_T63 l0_1 x15_1).f3))).setCell ⟨gb179,4,none⟩ (.slice A178_4 ((rd_T63 l0_1 x15_1).f4).length c178_4)).heap[gb179]? = some (.cells #[.string ((rd_T63 l0_1 x15_1).f0),.int .i64 ((rd_T63 l0_1 x15_1).f1),.int .i64 ((rd_T63 l0_1 x15_1).f2),.int .i64 ((rd_T63 l0_1 x15_1).f3),.slice A178_4 ((rd_T63 l0_1 x15_1).f4).length c178_4] 63 (0,0))) := ⟨by refine blk_put (cs := #[.string ((rd_T63 l0_1 x15_1).f0),.int .i64 ((rd_T63 l0_1 x15_1).f1),.int .i64 ((rd_T63 l0_1 x15_1).f2),.int .i64 ((rd_T63 l0_1 x15_1).f3),.slice none 0 0]) ?_ 4 _ rfl; refine blk_put (cs := #[.string ((rd_T63 l0_1 x15_1).f0),.int .i64 ((rd_T63 l0_1 x15_1).f1),.int .i64 ((rd_T63 l0_1 x15_1).f2),.int .i64 0,.slice none 0 0]) ?_ 3 _ rfl; refine blk_put (cs := #[.string ((rd_T63 l0_1 x15_1).f0),.int .i64 ((rd_T63 l0_1 x15_1).f1),.int .i64 0,.int .i64 0,.slice none 0 0]) ?_ 2 _ rfl; refine blk_put (cs := #[.string ((rd_T63 l0_1 x15_1).f0),.int .i64 0,.int .i64 0,.int .i64 0,.slice none 0 0]) ?_ 1 _ rfl; refine blk_put (cs := #[.string (⟨#[]⟩ : ByteArray),.int .i64 0,.int .i64 0,.int .i64 0,.slice none 0 0]) ?_ 0 _ rfl; exact BK179.out⟩;have n3_ : Aside0 (Below w.heap.size w (((((w16.setCell ⟨gb179,0,none⟩ (.string ((rd_T63 l0_1 x15_1).f0))).setCell ⟨gb179,1,none⟩ (.int .i64 ((rd_T63 l0_1 x15_1).f1))).setCell ⟨gb179,2,none⟩ (.int .i64 ((rd_T63 l0_1 x15_1).f2))).setCell ⟨gb179,3,none⟩ (.int .i64 ((rd_T63 l0_1 x15_1).f3))).setCell ⟨gb179,4,none⟩ (.slice A178_4 ((rd_T63 l0_1 x15_1).f4).length c178_4))) := ⟨by repeat (with_reducible first | exact HB.out | refine below_set ?_ GE179.out)⟩
       (try clear HO_3)
       (try clear BK175)
       (try clear BK179)
       (try clear HB)
       generalize (((((w16.setCell ⟨gb179,0,none⟩ (.string ((rd_T63 l0_1 x15_1).f0))).setCell ⟨gb179,1,none⟩ (.int .i64 ((rd_T63 l0_1 x15_1).f1))).setCell ⟨gb179,2,none⟩ (.int .i64 ((rd_T63 l0_1 x15_1).f2))).setCell ⟨gb179,3,none⟩ (.int .i64 ((rd_T63 l0_1 x15_1).f3))).setCell ⟨gb179,4,none⟩ (.slice A178_4 ((rd_T63 l0_1 x15_1).f4).length c178_4)) = w19 at n0_ n1_ n2_ n3_ ⊢
       have HO_3 := n0_;have BK175 := n1_;have BK179 := n2_;have HB := n3_;clear n0_ n1_ n2_ n3_;have n0_ := Aside0.mk (Kd.R_drew HO_3.out);have n1_ := Aside0.mk (blk_drew BK175.out);have n2_ := Aside0.mk (blk_drew BK179.out);have n3_ := Aside0.mk (below_drew1 HB.out);clear HO_3;clear BK175;clear BK179;clear HB;have HO_3 := n0_;have BK175 := n1_;have BK179 := n2_;have HB := n3_;clear n0_ n1_ n2_ n3_;refine start_ (n := 7) (S := fun w' => w'.cell? ⟨gb179,0,none⟩ = some (.string ((rd_T63 l0_1 x15_1).f0)) ∧ w'.cell? ⟨gb179,1,none⟩ = some (.int .i64 ((rd_T63 l0_1 x15_1).f1)) ∧ w'.cell? ⟨gb179,2,none⟩ = some (.int .i64 ((rd_T63 l0_1 x15_1).f2)) ∧ w'.cell? ⟨gb179,3,none⟩ = some (.int .i64 ((rd_T63 l0_1 x15_1).f3)) ∧ w'.cell? ⟨gb179,4,none⟩ = some (.slice A178_4 ((rd_T63 l0_1 x15_1).f4).length c178_4)) (ds := []) #[false,false,false,false,false,false,false] (by kernel_rfl) rfl rfl ⟨(blk_cell BK179.out 0).trans rfl,(blk_cell BK179.out 1).trans rfl,(blk_cell BK179.out 2).trans rfl,(blk_cell BK179.out 3).trans rfl,(blk_cell BK179.out 4).trans rfl⟩ (fun hHeld => ?_)
       generalize w19.drew = w20 at HO_3 BK175 BK179 HB hHeld ⊢
       refine pure_ (i := 0) (N := some 19) (v := ?_) (a' := ?_) #[true,false,false,false,false,false,false] rfl rfl (by kernel_rfl) (fun _ _ _ h => h) (Or.inl ⟨by rfl,?_⟩) ?_ ?_;rotate_left
       ·intro w';go_simp;with_reducible rfl
       rotate_left
       ·simp only [wf_preprocess];rfl
       refine pure_ (i := 3) (N := some 22) (v := ?_) (a' := ?_) #[true,false,false,true,false,false,false] rfl rfl (by kernel_rfl) (fun _ _ _ h => h) (Or.inl ⟨by rfl,?_⟩) ?_ ?_;rotate_left
       ·intro w';go_simp;with_reducible rfl
       rotate_left
       ·simp only [wf_preprocess];rfl
       refine take_ (i := 1) (N := some 20) (v := ?_) (a' := ?_) #[true,true,false,true,false,false,false] rfl rfl (by kernel_rfl) (fun _ _ _ h => h) (Or.inl ⟨by rfl,?_⟩) hHeld ?_ ?_;rotate_left
       ·rintro w' ⟨s0,s1,s2,s3,s4⟩;go_simp;with_reducible rfl
       rotate_left
       ·simp only [wf_preprocess];rfl
       refine take_ (i := 4) (N := some 23) (v := ?_) (a' := ?_) #[true,true,false,true,true,false,false] rfl rfl (by kernel_rfl) (fun _ _ _ h => h) (Or.inl ⟨by rfl,?_⟩) hHeld ?_ ?_;rotate_left
       ·rintro w' ⟨s0,s1,s2,s3,s4⟩;go_simp;with_reducible rfl
       rotate_left
       ·simp only [wf_preprocess];rfl
       refine one_ (i := 2) (N := some 21) #[true,true,true,true,true,false,false] rfl rfl (by kernel_rfl) (by decide) (fun K hK => ?_);refine goes_ Try.func71 (by kernel_rfl) rfl #[.slice none 0 0,.string ((rd_T63 l0_1 x15_1).f0)] (by rfl) rfl rfl (by (try simp only [List.map_toArray,List.map_cons,List.map_nil]); rfl) ?_;refine (impl_putText.calls k1 (fun k_ => some k_ = (.slice none 0 0 : Value).ownBlock) (.slice none 0 0) ([] : List Int) ((rd_T63 l0_1 x15_1).f0) t180 w _ ?side1 ?side2 A11.out).mono ?_
       (case side1 => repeat (with_reducible exact HB.out))
       (case side2 => exact Kd.R_nil _ _ _ _ _)
       rintro e w21 ⟨v181,rfl,ho0,hb,hkp⟩;refine ⟨_,rfl,?_⟩;have n0_ := Aside0.mk (Kd.R_mono (ok' := fun k_ => True) (Kd.R_keptB (HO_3.out) hkp (fun k_ hk_ hs_ => (fun e_ => by simp [Value.ownBlock] at e_) hs_)) (fun k_ hk_ => trivial));have n1_ := Aside0.mk (blk_kept (by exact BK175.out) hkp (fun hs_ => (fun e_ => by simp [Value.ownBlock] at e_) hs_));have n2_ := Aside0.mk (blk_kept (by exact BK179.out) hkp (fun hs_ => (fun e_ => by simp [Value.ownBlock] at e_) hs_));have n3_ := Aside0.mk (Kd.R_mono (ok' := fun k_ => True) ho0 (fun k_ hk_ => trivial));have n4_ := Aside0.mk (hb);clear HO_3;clear BK175;clear BK179;clear HB;have HO_3 := n0_;have BK175 := n1_;have BK179 := n2_;have HO182 := n3_;have HB := n4_;clear n0_ n1_ n2_ n3_ n4_
       (try clear hb)
       (try clear hkp)
       (try clear ho0)
       obtain ⟨Ao22,co22,eo22⟩ := Kd.R_slice HO182.out
       (subst eo22)
       refine hK.out _ _ ⟨(blk_cell BK179.out 0).trans rfl,(blk_cell BK179.out 1).trans rfl,(blk_cell BK179.out 2).trans rfl,(blk_cell BK179.out 3).trans rfl,(blk_cell BK179.out 4).trans rfl⟩ (fun hHeld => ?_);clear hK K;refine norm_ (a' := ?_) ?_ ?_;rotate_left
       ·show Act.put _ (some 21) _ = _
        simp only [wf_preprocess];rfl
       refine one_ (i := 5) (N := some 24) #[true,true,true,true,true,true,false] rfl rfl (by kernel_rfl) (by decide) (fun K hK => ?_);refine goes_ Try.func70 (by kernel_rfl) rfl #[.slice Ao22 t180.length co22,.int .i64 ((rd_T63 l0_1 x15_1).f1)] (by rfl) rfl rfl (by (try simp only [List.map_toArray,List.map_cons,List.map_nil]); rfl) ?_
       with_reducible refine (impl_putNum.calls k1 (fun k_ => some k_ = (.slice Ao22 t180.length co22 : Value).ownBlock) (.slice Ao22 t180.length co22) t180 ((rd_T63 l0_1 x15_1).f1) t183 w _ ?side1 ?side2 A12.out).mono ?_
       (case side1 => repeat (with_reducible exact HB.out))
       (case side2 => exact Kd.R_tight rfl HO182.out)
       rintro e w23 ⟨v184,rfl,ho0,hb,hkp⟩;refine ⟨_,rfl,?_⟩;have n0_ := Aside0.mk (Kd.R_mono (ok' := fun k_ => True) (Kd.R_keptB (Kd.R_apart' HO_3.out (Kd.R_typed HO182.out) (by decide)) hkp (fun k_ hk_ hs_ => (hk_.2) hs_)) (fun k_ hk_ => trivial));have n1_ := Aside0.mk (blk_kept (by exact BK175.out) hkp (fun hs_ => (fun e_ => (Kd.R_ne HO182.out BK175.out (by decide)) e_) hs_));have n2_ := Aside0.mk (blk_kept (by exact BK179.out) hkp (fun hs_ => (fun e_ => (Kd.R_ne HO182.out BK179.out (by decide)) e_) hs_));have n3_ := Aside0.mk (Kd.R_mono (ok' := fun k_ => True) ho0 (fun k_ hk_ => trivial));have n4_ := Aside0.mk (hb);clear HO_3;clear BK175;clear BK179;clear HB;clear HO182;have HO_3 := n0_;have BK175 := n1_;have BK179 := n2_;have HO185 := n3_;have HB := n4_;clear n0_ n1_ n2_ n3_ n4_
       (try clear hb)
       (try clear hkp)
       (try clear ho0)
       refine hK.out _ _ ⟨(blk_cell BK179.out 0).trans rfl,(blk_cell BK179.out 1).trans rfl,(blk_cell BK179.out 2).trans rfl,(blk_cell BK179.out 3).trans rfl,(blk_cell BK179.out 4).trans rfl⟩ (fun hHeld => ?_);clear hK K;refine norm_ (a' := ?_) ?_ ?_;rotate_left
       ·show Act.put _ (some 24) _ = _
        simp only [wf_preprocess];rfl
       refine pure_ (i := 6) (N := some 6) (v := ?_) (a' := ?_) #[true,true,true,true,true,true,true] rfl rfl (by kernel_rfl) (fun _ _ _ h => h) (Or.inl ⟨by rfl,?_⟩) ?_ ?_;rotate_left
       ·intro w';go_simp;with_reducible rfl
       rotate_left
       ·simp only [wf_preprocess];rfl
       refine done_ (by kernel_rfl) ?_
       try go_wp2
       have n0_ := Aside0.mk (Kd.R_drew HO_3.out);have n1_ := Aside0.mk (Kd.R_drew HO185.out);have n2_ := Aside0.mk (blk_drew BK175.out);have n3_ := Aside0.mk (blk_drew BK179.out);have n4_ := Aside0.mk (below_drew1 HB.out);clear HO_3;clear HO185;clear BK175;clear BK179;clear HB;have HO_3 := n0_;have HO185 := n1_;have BK175 := n2_;have BK179 := n3_;have HB := n4_;clear n0_ n1_ n2_ n3_ n4_;obtain ⟨Ao25,co25,eo25⟩ := Kd.R_slice HO185.out
       (subst eo25)
       refine start_ (n := 12) (S := fun w' => w'.cell? ⟨gb179,0,none⟩ = some (.string ((rd_T63 l0_1 x15_1).f0)) ∧ w'.cell? ⟨gb179,1,none⟩ = some (.int .i64 ((rd_T63 l0_1 x15_1).f1)) ∧ w'.cell? ⟨gb179,2,none⟩ = some (.int .i64 ((rd_T63 l0_1 x15_1).f2)) ∧ w'.cell? ⟨gb179,3,none⟩ = some (.int .i64 ((rd_T63 l0_1 x15_1).f3)) ∧ w'.cell? ⟨gb179,4,none⟩ = some (.slice A178_4 ((rd_T63 l0_1 x15_1).f4).length c178_4)) (ds := []) #[false,false,false,false,false,false,false,false,false,false,false,false] (by kernel_rfl) rfl rfl ⟨(blk_cell BK179.out 0).trans rfl,(blk_cell BK179.out 1).trans rfl,(blk_cell BK179.out 2).trans rfl,(blk_cell BK179.out 3).trans rfl,(blk_cell BK179.out 4).trans rfl⟩ (fun hHeld => ?_); refine with_tabW impl_StateRoot.tab8 impl_StateRoot.bits8 (fun HT_ HW_ => ?_)
       generalize w23.drew = w24 at HO_3 HO185 BK175 BK179 HB hHeld ⊢
       refine pure_ (i := 0) (N := some 25) (v := ?_) (a' := ?_) #[true,false,false,false,false,false,false,false,false,false,false,false] rfl rfl (any_of HT_.out (by kernel_rfl)) (fun _ _ _ h => h) (Or.inl ⟨by rfl,?_⟩) ?_ ?_;rotate_left
       ·intro w';go_simp;with_reducible rfl
       rotate_left
       ·simp only [wf_preprocess];rfl
       refine pure_ (i := 1) (N := some 26) (v := ?_) (a' := ?_) #[true,true,false,false,false,false,false,false,false,false,false,false] rfl rfl (any_of HT_.out (by kernel_rfl)) (fun _ _ _ h => h) (Or.inl ⟨by rfl,?_⟩) ?_ ?_;rotate_left
       ·intro w';go_simp;with_reducible rfl
       rotate_left
       ·simp only [wf_preprocess];rfl
       refine pure_ (i := 4) (N := some 29) (v := ?_) (a' := ?_) #[true,true,false,false,true,false,false,false,false,false,false,false] rfl rfl (any_of HT_.out (by kernel_rfl)) (fun _ _ _ h => h) (Or.inl ⟨by rfl,?_⟩) ?_ ?_;rotate_left
       ·intro w';go_simp;with_reducible rfl
       rotate_left
       ·simp only [wf_preprocess];rfl
       refine pure_ (i := 7) (N := some 32) (v := ?_) (a' := ?_) #[true,true,false,false,true,false,false,true,false,false,false,false] rfl rfl (any_of HT_.out (by kernel_rfl)) (fun _ _ _ h => h) (Or.inl ⟨by rfl,?_⟩) ?_ ?_;rotate_left
       ·intro w';go_simp;with_reducible rfl
       rotate_left
       ·simp only [wf_preprocess];rfl
       refine take_ (i := 2) (N := some 27) (v := ?_) (a' := ?_) #[true,true,true,false,true,false,false,true,false,false,false,false] rfl rfl (take_ofW HT_.out HW_.out (by kernel_rfl)) (fun _ _ _ h => h) (Or.inl ⟨by rfl,?_⟩) hHeld ?_ ?_;rotate_left
       ·rintro w' ⟨s0,s1,s2,s3,s4⟩;go_simp;with_reducible rfl
       rotate_left
       ·simp only [wf_preprocess];rfl
       refine take_ (i := 5) (N := some 30) (v := ?_) (a' := ?_) #[true,true,true,false,true,true,false,true,false,false,false,false] rfl rfl (take_ofW HT_.out HW_.out (by kernel_rfl)) (fun _ _ _ h => h) (Or.inl ⟨by rfl,?_⟩) hHeld ?_ ?_;rotate_left
       ·rintro w' ⟨s0,s1,s2,s3,s4⟩;go_simp;with_reducible rfl
       rotate_left
       ·simp only [wf_preprocess];rfl
       refine take_ (i := 8) (N := some 33) (v := ?_) (a' := ?_) #[true,true,true,false,true,true,false,true,true,false,false,false] rfl rfl (take_ofW HT_.out HW_.out (by kernel_rfl)) (fun _ _ _ h => h) (Or.inl ⟨by rfl,?_⟩) hHeld ?_ ?_;rotate_left
       ·rintro w' ⟨s0,s1,s2,s3,s4⟩;go_simp;with_reducible rfl
       rotate_left
       ·simp only [wf_preprocess];rfl
       refine pure_ (i := 9) (N := some 34) (v := ?_) (a' := ?_) #[true,true,true,false,true,true,false,true,true,true,false,false] rfl rfl (any_of HT_.out (by kernel_rfl)) (fun _ _ _ h => h) (Or.inl ⟨by rfl,?_⟩) ?_ ?_;rotate_left
       ·intro w';go_simp;with_reducible rfl
       rotate_left
       ·simp only [wf_preprocess];rfl
       refine one_ (i := 3) (N := some 28) #[true,true,true,true,true,true,false,true,true,true,false,false] rfl rfl (one_of HT_.out (by kernel_rfl)) (by decide) (fun K hK => ?_);refine goes_ Try.func70 (by kernel_rfl) rfl #[.slice Ao25 t183.length co25,.int .i64 ((rd_T63 l0_1 x15_1).f2)] (by rfl) rfl rfl (by (try simp only [List.map_toArray,List.map_cons,List.map_nil]); rfl) ?_
       with_reducible refine (impl_putNum.calls k1 (fun k_ => some k_ = (.slice Ao25 t183.length co25 : Value).ownBlock) (.slice Ao25 t183.length co25) t183 ((rd_T63 l0_1 x15_1).f2) t186 w _ ?side1 ?side2 A13.out).mono ?_
       (case side1 => repeat (with_reducible exact HB.out))
       (case side2 => exact Kd.R_tight rfl HO185.out)
       rintro e w26 ⟨v187,rfl,ho0,hb,hkp⟩;refine ⟨_,rfl,?_⟩;have n0_ := Aside0.mk (Kd.R_mono (ok' := fun k_ => True) (Kd.R_keptB (Kd.R_apart' HO_3.out (Kd.R_typed HO185.out) (by decide)) hkp (fun k_ hk_ hs_ => (hk_.2) hs_)) (fun k_ hk_ => trivial));have n1_ := Aside0.mk (blk_kept (by exact BK175.out) hkp (fun hs_ => (fun e_ => (Kd.R_ne HO185.out BK175.out (by decide)) e_) hs_));have n2_ := Aside0.mk (blk_kept (by exact BK179.out) hkp (fun hs_ => (fun e_ => (Kd.R_ne HO185.out BK179.out (by decide)) e_) hs_));have n3_ := Aside0.mk (Kd.R_mono (ok' := fun k_ => True) ho0 (fun k_ hk_ => trivial));have n4_ := Aside0.mk (hb);clear HO_3;clear BK175;clear BK179;clear HB;clear HO185;have HO_3 := n0_;have BK175 := n1_;have BK179 := n2_;have HO188 := n3_;have HB := n4_;clear n0_ n1_ n2_ n3_ n4_
       (try clear hb)
       (try clear hkp)
       (try clear ho0)
       obtain ⟨Ao27,co27,eo27⟩ := Kd.R_slice HO188.out
       (subst eo27)
       refine hK.out _ _ ⟨(blk_cell BK179.out 0).trans rfl,(blk_cell BK179.out 1).trans rfl,(blk_cell BK179.out 2).trans rfl,(blk_cell BK179.out 3).trans rfl,(blk_cell BK179.out 4).trans rfl⟩ (fun hHeld => ?_);clear hK K;refine norm_ (a' := ?_) ?_ ?_;rotate_left
       ·show Act.put _ (some 28) _ = _
        simp only [wf_preprocess];rfl
       refine one_ (i := 6) (N := some 31) #[true,true,true,true,true,true,true,true,true,true,false,false] rfl rfl (one_of HT_.out (by kernel_rfl)) (by decide) (fun K hK => ?_);refine goes_ Try.func70 (by kernel_rfl) rfl #[.slice Ao27 t186.length co27,.int .i64 ((rd_T63 l0_1 x15_1).f3)] (by rfl) rfl rfl (by (try simp only [List.map_toArray,List.map_cons,List.map_nil]); rfl) ?_
       with_reducible refine (impl_putNum.calls k1 (fun k_ => some k_ = (.slice Ao27 t186.length co27 : Value).ownBlock) (.slice Ao27 t186.length co27) t186 ((rd_T63 l0_1 x15_1).f3) t189 w _ ?side1 ?side2 A14.out).mono ?_
       (case side1 => repeat (with_reducible exact HB.out))
       (case side2 => exact Kd.R_tight rfl HO188.out)
       rintro e w28 ⟨v190,rfl,ho0,hb,hkp⟩;refine ⟨_,rfl,?_⟩;have n0_ := Aside0.mk (Kd.R_mono (ok' := fun k_ => True) (Kd.R_keptB (Kd.R_apart' HO_3.out (Kd.R_typed HO188.out) (by decide)) hkp (fun k_ hk_ hs_ => (hk_.2) hs_)) (fun k_ hk_ => trivial));have n1_ := Aside0.mk (blk_kept (by exact BK175.out) hkp (fun hs_ => (fun e_ => (Kd.R_ne HO188.out BK175.out (by decide)) e_) hs_));have n2_ := Aside0.mk (blk_kept (by exact BK179.out) hkp (fun hs_ => (fun e_ => (Kd.R_ne HO188.out BK179.out (by decide)) e_) hs_));have n3_ := Aside0.mk (Kd.R_mono (ok' := fun k_ => True) ho0 (fun k_ hk_ => trivial));have n4_ := Aside0.mk (hb);clear HO_3;clear BK175;clear BK179;clear HB;clear HO188;have HO_3 := n0_;have BK175 := n1_;have BK179 := n2_;have HO191 := n3_;have HB := n4_;clear n0_ n1_ n2_ n3_ n4_
       (try clear hb)
       (try clear hkp)
       (try clear ho0)
       obtain ⟨Ao29,co29,eo29⟩ := Kd.R_slice HO191.out
       (subst eo29)
       refine hK.out _ _ ⟨(blk_cell BK179.out 0).trans rfl,(blk_cell BK179.out 1).trans rfl,(blk_cell BK179.out 2).trans rfl,(blk_cell BK179.out 3).trans rfl,(blk_cell BK179.out 4).trans rfl⟩ (fun hHeld => ?_);clear hK K;refine norm_ (a' := ?_) ?_ ?_;rotate_left
       ·show Act.put _ (some 31) _ = _
        simp only [wf_preprocess];rfl
       refine one_ (i := 10) (N := some 35) #[true,true,true,true,true,true,true,true,true,true,true,false] rfl rfl (one_of HT_.out (by kernel_rfl)) (by decide) (fun K hK => ?_);refine goes_ Try.func70 (by kernel_rfl) rfl #[.slice Ao29 t189.length co29,.int .i64 (((rd_T63 l0_1 x15_1).f4).length : Int)] (by rfl) rfl rfl (by (try simp only [List.map_toArray,List.map_cons,List.map_nil]); rfl) ?_
       with_reducible refine (impl_putNum.calls k1 (fun k_ => some k_ = (.slice Ao29 t189.length co29 : Value).ownBlock) (.slice Ao29 t189.length co29) t189 (((rd_T63 l0_1 x15_1).f4).length : Int) t192 w _ ?side1 ?side2 A15.out).mono ?_
       (case side1 => repeat (with_reducible exact HB.out))
       (case side2 => exact Kd.R_tight rfl HO191.out)
       rintro e w30 ⟨v193,rfl,ho0,hb,hkp⟩;refine ⟨_,rfl,?_⟩;have n0_ := Aside0.mk (Kd.R_mono (ok' := fun k_ => True) (Kd.R_keptB (Kd.R_apart' HO_3.out (Kd.R_typed HO191.out) (by decide)) hkp (fun k_ hk_ hs_ => (hk_.2) hs_)) (fun k_ hk_ => trivial));have n1_ := Aside0.mk (blk_kept (by exact BK175.out) hkp (fun hs_ => (fun e_ => (Kd.R_ne HO191.out BK175.out (by decide)) e_) hs_));have n2_ := Aside0.mk (blk_kept (by exact BK179.out) hkp (fun hs_ => (fun e_ => (Kd.R_ne HO191.out BK179.out (by decide)) e_) hs_));have n3_ := Aside0.mk (Kd.R_mono (ok' := fun k_ => True) ho0 (fun k_ hk_ => trivial));have n4_ := Aside0.mk (hb);clear HO_3;clear BK175;clear BK179;clear HB;clear HO191;have HO_3 := n0_;have BK175 := n1_;have BK179 := n2_;have HO194 := n3_;have HB := n4_;clear n0_ n1_ n2_ n3_ n4_
       (try clear hb)
       (try clear hkp)
       (try clear ho0)
       refine hK.out _ _ ⟨(blk_cell BK179.out 0).trans rfl,(blk_cell BK179.out 1).trans rfl,(blk_cell BK179.out 2).trans rfl,(blk_cell BK179.out 3).trans rfl,(blk_cell BK179.out 4).trans rfl⟩ (fun hHeld => ?_);clear hK K;refine norm_ (a' := ?_) ?_ ?_;rotate_left
       ·show Act.put _ (some 35) _ = _
        simp only [wf_preprocess];rfl
       refine pure_ (i := 11) (N := some 6) (v := ?_) (a' := ?_) #[true,true,true,true,true,true,true,true,true,true,true,true] rfl rfl (any_of HT_.out (by kernel_rfl)) (fun _ _ _ h => h) (Or.inl ⟨by rfl,?_⟩) ?_ ?_;rotate_left
       ·intro w';go_simp;with_reducible rfl
       rotate_left
       ·simp only [wf_preprocess];rfl
       refine done_ (done_of HT_.out (by kernel_rfl)) ?_;have hcz31_0 : w30.cell? ⟨gb179,0,none⟩ = some (.string ((rd_T63 l0_1 x15_1).f0)) := (blk_cell BK179.out 0).trans rfl;have hcz31_1 : w30.cell? ⟨gb179,1,none⟩ = some (.int .i64 ((rd_T63 l0_1 x15_1).f1)) := (blk_cell BK179.out 1).trans rfl;have hcz31_2 : w30.cell? ⟨gb179,2,none⟩ = some (.int .i64 ((rd_T63 l0_1 x15_1).f2)) := (blk_cell BK179.out 2).trans rfl;have hcz31_3 : w30.cell? ⟨gb179,3,none⟩ = some (.int .i64 ((rd_T63 l0_1 x15_1).f3)) := (blk_cell BK179.out 3).trans rfl;have hcz31_4 : w30.cell? ⟨gb179,4,none⟩ = some (.slice A178_4 ((rd_T63 l0_1 x15_1).f4).length c178_4) := (blk_cell BK179.out 4).trans rfl;have hfz31_0 := blk_frozen BK179.out 0;have hfz31_1 := blk_frozen BK179.out 1;have hfz31_2 := blk_frozen BK179.out 2;have hfz31_3 := blk_frozen BK179.out 3;have hfz31_4 := blk_frozen BK179.out 4
       try go_wp2
       go_loopg [6,39] k1 (fun kq v6 v39 w' => ∃ (x6_2 : List Int) (x39_2 : Int),v39 = .int .i64 x39_2 ∧ Aside0 (impl_StateRoot.l1 kq x3_1 x6_2 l0_1 (l0_1.length : Int) x15_1 ((rd_T63 l0_1 x15_1).f4) (((rd_T63 l0_1 x15_1).f4).length : Int) x39_2 = some r) ∧ Aside0 (kq ≤ k1) ∧ Aside0 (Kd.R Kd.string 9 w' w.heap.size (fun _ => True) u3 x3_1) ∧ Aside0 (Kd.R (Kd.int .u8) 5 w' w.heap.size (fun _ => True) v6 x6_2) ∧ Aside0 (w'.heap[gb175]? = some (.cells #[.int .i64 a0_0,(.slice (some ad178) l0_1.length c0_1)] 31 (0,0))) ∧ Aside0 (w'.heap[gb179]? = some (.cells #[.string ((rd_T63 l0_1 x15_1).f0),.int .i64 ((rd_T63 l0_1 x15_1).f1),.int .i64 ((rd_T63 l0_1 x15_1).f2),.int .i64 ((rd_T63 l0_1 x15_1).f3),(.slice A178_4 ((rd_T63 l0_1 x15_1).f4).length c178_4)] 63 (0,0))) ∧ Aside0 (Below w.heap.size w w'))
       case atStart => exact ⟨(t192),(0),(by rfl),H',⟨Nat.le_refl _⟩,⟨by exact HO_3.out⟩,⟨by exact HO194.out⟩,⟨by exact BK175.out⟩,⟨by exact BK179.out⟩,⟨HB.out⟩⟩
       case round =>
        clear H'
        try clear c1
        try clear p1
        try clear q1
        try clear hx1
        try clear c2
        try clear p2
        try clear c3
        try clear c7
        try clear c8
        try clear c8b0
        try clear c9
        try clear c9b0
        try clear c10
        try clear c10b0
        try clear c17
        try clear p17
        try clear q17
        try clear hx17
        try clear c27
        try clear c28
        try clear hcz18_0
        try clear hcz18_1
        try clear hcz18_2
        try clear hcz18_3
        try clear hcz18_4
        try clear hcz31_0
        try clear hcz31_1
        try clear hcz31_2
        try clear hcz31_3
        try clear hcz31_4
        try clear hcz5_0
        try clear hcz5_1
        try clear hcz7_0
        try clear hcz7_1
        try clear hfz18_0
        try clear hfz18_1
        try clear hfz18_2
        try clear hfz18_3
        try clear hfz18_4
        try clear hfz31_0
        try clear hfz31_1
        try clear hfz31_2
        try clear hfz31_3
        try clear hfz31_4
        try clear hfz5_0
        try clear hfz5_1
        try clear hfz7_0
        try clear hfz7_1
        try clear hx178_0
        try clear hx178_1
        try clear hx178_2
        try clear hx178_3
        try clear hx178_4
        try clear p178
        try clear p2
        try clear q178
        obtain ⟨x6_2,x39_2,rfl,HA,HK2,HO_3,HO_6,BK175,BK179,HB⟩ := hrel
        cases gk with
        | zero => exact absurd HA.out (by simp [impl_StateRoot.l1])
        | succ k2 =>
         have H := HA.out;clear HA;simp only [impl_StateRoot.l1] at H
         by_cases c32 : x39_2 < (((rd_T63 l0_1 x15_1).f4).length : Int)
         ·rw [if_pos c32] at H;have c32b0 : decide (x39_2 < (((rd_T63 l0_1 x15_1).f4).length : Int)) = true := decide_eq_true c32;clear c32
          by_cases c33 : 0 ≤ x39_2
          ·rw [if_pos c33] at H;have c33b0 : decide (0 ≤ x39_2) = true := decide_eq_true c33;clear c33
           by_cases c34 : x39_2 < (((rd_T63 l0_1 x15_1).f4).length : Int)
           ·rw [if_pos c34] at H;have c34b0 : decide (x39_2 < (((rd_T63 l0_1 x15_1).f4).length : Int)) = true := decide_eq_true c34;clear c34;replace H := Option.bind_eq_some_iff.mp H;obtain ⟨t197,A350,H⟩ := H;replace H : ((impl_putNum.f k2 t197 ((rd_T65 ((rd_T63 l0_1 x15_1).f4) x39_2).f1)).bind fun t200 => (impl_StateRoot.l1 k2 x3_1 t200 l0_1 (l0_1.length : Int) x15_1 ((rd_T63 l0_1 x15_1).f4) (((rd_T63 l0_1 x15_1).f4).length : Int) (wrap64 (x39_2 + 1)))) = some r := H;have A35 := Aside0.mk A350;clear A350;replace H := Option.bind_eq_some_iff.mp H;obtain ⟨t200,A360,H⟩ := H;replace H : (impl_StateRoot.l1 k2 x3_1 t200 l0_1 (l0_1.length : Int) x15_1 ((rd_T63 l0_1 x15_1).f4) (((rd_T63 l0_1 x15_1).f4).length : Int) (wrap64 (x39_2 + 1))) = some r := H;have A36 := Aside0.mk A360;clear A360;have H' := Aside0.mk H;clear H;have p195 : 0 ≤ (x39_2 : Int) := of_decide_eq_true (by (with_reducible assumption));have q195 : x39_2 < (((rd_T63 l0_1 x15_1).f4).length : Int) := of_decide_eq_true (by (with_reducible assumption));obtain ⟨ad195,e195,hx195_0,hx195_1⟩ := at_T65 HR178_4.out x39_2 p195 q195
            cases e195
            replace hx195_0 := (HB.out.cell (World.block_lt_of_cell? w _ hx195_0)).trans hx195_0;replace hx195_1 := (HB.out.cell (World.block_lt_of_cell? w _ hx195_1)).trans hx195_1;replace p195 := eq_true p195;replace q195 := eq_true q195
            try go_wp2_with (((with_reducible refine gate_dst (N := 8) rfl ?_); refine box_event ?hg (N := 8) ?hd (cs := #[.int .i64 0,.int .i64 0]) (t := 65) ?hr ?_; (case hd => rfl); (case hg => rfl); (case hr => (go_simp; done)); intro gb196 hg w37 hbox hb; have n0_ := Aside0.mk (Kd.R_below (by exact HO_3.out) hb); have n1_ := Aside0.mk (Kd.R_below (by exact HO_6.out) hb); have n2_ := Aside0.mk (blk_below (g := gb175) (o := .cells #[.int .i64 a0_0,.slice (some ad178) l0_1.length c0_1] 31 (0,0)) (by exact BK175.out) hb); have n3_ := Aside0.mk (blk_below (g := gb179) (o := .cells #[.string ((rd_T63 l0_1 x15_1).f0),.int .i64 ((rd_T63 l0_1 x15_1).f1),.int .i64 ((rd_T63 l0_1 x15_1).f2),.int .i64 ((rd_T63 l0_1 x15_1).f3),.slice (some ad195) ((rd_T63 l0_1 x15_1).f4).length c178_4] 63 (0,0)) (by exact BK179.out) hb); have n4_ := Aside0.mk (below_step HB.out hb); have n5_ := Aside0.mk (hbox); have n6_ := Aside0.mk (by rw [hg]; exact (below_size HB.out) : w.heap.size ≤ gb196); have n7_ := Aside0.mk (by rw [hg]; exact (below_size HB.out) : w.heap.size ≤ gb196); have n8_ := Aside0.mk (by rw [hg]; exact Nat.ne_of_lt (blk_lt (g := gb175) (o := .cells #[.int .i64 a0_0,.slice (some ad178) l0_1.length c0_1] 31 (0,0)) (by exact BK175.out)) : gb175 ≠ gb196); have n9_ := Aside0.mk (by rw [hg]; exact Nat.ne_of_gt (blk_lt (g := gb175) (o := .cells #[.int .i64 a0_0,.slice (some ad178) l0_1.length c0_1] 31 (0,0)) (by exact BK175.out)) : gb196 ≠ gb175); have n10_ := Aside0.mk (by rw [hg]; exact Nat.ne_of_lt (blk_lt (g := gb179) (o := .cells #[.string ((rd_T63 l0_1 x15_1).f0),.int .i64 ((rd_T63 l0_1 x15_1).f1),.int .i64 ((rd_T63 l0_1 x15_1).f2),.int .i64 ((rd_T63 l0_1 x15_1).f3),.slice (some ad195) ((rd_T63 l0_1 x15_1).f4).length c178_4] 63 (0,0)) (by exact BK179.out)) : gb179 ≠ gb196); have n11_ := Aside0.mk (by rw [hg]; exact Nat.ne_of_gt (blk_lt (g := gb179) (o := .cells #[.string ((rd_T63 l0_1 x15_1).f0),.int .i64 ((rd_T63 l0_1 x15_1).f1),.int .i64 ((rd_T63 l0_1 x15_1).f2),.int .i64 ((rd_T63 l0_1 x15_1).f3),.slice (some ad195) ((rd_T63 l0_1 x15_1).f4).length c178_4] 63 (0,0)) (by exact BK179.out)) : gb196 ≠ gb179); clear HO_3; clear HO_6; clear BK175; clear BK179; clear HB; have HO_3 := n0_; have HO_6 := n1_; have BK175 := n2_; have BK179 := n3_; have HB := n4_; have BK196 := n5_; have GW196 := n6_; have GE196 := n7_; have NB175_196 := n8_; have NB196_175 := n9_; have NB179_196 := n10_; have NB196_179 := n11_; clear n0_ n1_ n2_ n3_ n4_ n5_ n6_ n7_ n8_ n9_ n10_ n11_; clear hb hbox hg; have hnb38 := NB196_175.out; have hnc38 := NB175_196.out; have hnb39 := NB196_179.out; have hnc39 := NB179_196.out; have hcz40_0 : w37.cell? ⟨gb196,0,none⟩ = some (.int .i64 0) := (blk_cell BK196.out 0).trans rfl; have hcz40_1 : w37.cell? ⟨gb196,1,none⟩ = some (.int .i64 0) := (blk_cell BK196.out 1).trans rfl; have hfz40_0 := blk_frozen BK196.out 0; have hfz40_1 := blk_frozen BK196.out 1))
            have n0_ : Aside0 (Kd.R Kd.string 9 ((w37.setCell ⟨gb196,0,none⟩ (.int .i64 ((rd_T65 ((rd_T63 l0_1 x15_1).f4) x39_2).f0))).setCell ⟨gb196,1,none⟩ (.int .i64 ((rd_T65 ((rd_T63 l0_1 x15_1).f4) x39_2).f1))) w.heap.size (fun _ => True) u3 x3_1) := ⟨by exact Kd.R_mono (Kd.R_far (p := ⟨gb196,1,none⟩) (Kd.R_far (p := ⟨gb196,0,none⟩) (Kd.R_types HO_3.out BK196.out (by decide)) (fun _ hk => hk.2) (.int .i64 ((rd_T65 ((rd_T63 l0_1 x15_1).f4) x39_2).f0))) (fun _ hk => hk.2) (.int .i64 ((rd_T65 ((rd_T63 l0_1 x15_1).f4) x39_2).f1))) (fun _ hk => trivial)⟩;have n1_ : Aside0 (Kd.R (Kd.int .u8) 5 ((w37.setCell ⟨gb196,0,none⟩ (.int .i64 ((rd_T65 ((rd_T63 l0_1 x15_1).f4) x39_2).f0))).setCell ⟨gb196,1,none⟩ (.int .i64 ((rd_T65 ((rd_T63 l0_1 x15_1).f4) x39_2).f1))) w.heap.size (fun _ => True) u6 x6_2) := ⟨by exact Kd.R_mono (Kd.R_far (p := ⟨gb196,1,none⟩) (Kd.R_far (p := ⟨gb196,0,none⟩) (Kd.R_types HO_6.out BK196.out (by decide)) (fun _ hk => hk.2) (.int .i64 ((rd_T65 ((rd_T63 l0_1 x15_1).f4) x39_2).f0))) (fun _ hk => hk.2) (.int .i64 ((rd_T65 ((rd_T63 l0_1 x15_1).f4) x39_2).f1))) (fun _ hk => trivial)⟩;have n2_ : Aside0 (((w37.setCell ⟨gb196,0,none⟩ (.int .i64 ((rd_T65 ((rd_T63 l0_1 x15_1).f4) x39_2).f0))).setCell ⟨gb196,1,none⟩ (.int .i64 ((rd_T65 ((rd_T63 l0_1 x15_1).f4) x39_2).f1))).heap[gb175]? = some (.cells #[.int .i64 a0_0,.slice (some ad178) l0_1.length c0_1] 31 (0,0))) := ⟨by refine blk_far ?_ NB175_196.out _; refine blk_far ?_ NB175_196.out _; exact BK175.out⟩;have n3_ : Aside0 (((w37.setCell ⟨gb196,0,none⟩ (.int .i64 ((rd_T65 ((rd_T63 l0_1 x15_1).f4) x39_2).f0))).setCell ⟨gb196,1,none⟩ (.int .i64 ((rd_T65 ((rd_T63 l0_1 x15_1).f4) x39_2).f1))).heap[gb179]? = some (.cells #[.string ((rd_T63 l0_1 x15_1).f0),.int .i64 ((rd_T63 l0_1 x15_1).f1),.int .i64 ((rd_T63 l0_1 x15_1).f2),.int .i64 ((rd_T63 l0_1 x15_1).f3),.slice (some ad195) ((rd_T63 l0_1 x15_1).f4).length c178_4] 63 (0,0))) := ⟨by refine blk_far ?_ NB179_196.out _; refine blk_far ?_ NB179_196.out _; exact BK179.out⟩;have n4_ : Aside0 (((w37.setCell ⟨gb196,0,none⟩ (.int .i64 ((rd_T65 ((rd_T63 l0_1 x15_1).f4) x39_2).f0))).setCell ⟨gb196,1,none⟩ (.int .i64 ((rd_T65 ((rd_T63 l0_1 x15_1).f4) x39_2).f1))).heap[gb196]? = some (.cells #[.int .i64 ((rd_T65 ((rd_T63 l0_1 x15_1).f4) x39_2).f0),.int .i64 ((rd_T65 ((rd_T63 l0_1 x15_1).f4) x39_2).f1)] 65 (0,0))) := ⟨by refine blk_put (cs := #[.int .i64 ((rd_T65 ((rd_T63 l0_1 x15_1).f4) x39_2).f0),.int .i64 0]) ?_ 1 _ rfl; refine blk_put (cs := #[.int .i64 0,.int .i64 0]) ?_ 0 _ rfl; exact BK196.out⟩;have n5_ : Aside0 (Below w.heap.size w ((w37.setCell ⟨gb196,0,none⟩ (.int .i64 ((rd_T65 ((rd_T63 l0_1 x15_1).f4) x39_2).f0))).setCell ⟨gb196,1,none⟩ (.int .i64 ((rd_T65 ((rd_T63 l0_1 x15_1).f4) x39_2).f1)))) := ⟨by repeat (with_reducible first | exact HB.out | refine below_set ?_ GE196.out)⟩
            (try clear HO_3)
            (try clear HO_6)
            (try clear BK175)
            (try clear BK179)
            (try clear BK196)
            (try clear HB)
            generalize ((w37.setCell ⟨gb196,0,none⟩ (.int .i64 ((rd_T65 ((rd_T63 l0_1 x15_1).f4) x39_2).f0))).setCell ⟨gb196,1,none⟩ (.int .i64 ((rd_T65 ((rd_T63 l0_1 x15_1).f4) x39_2).f1))) = w41 at n0_ n1_ n2_ n3_ n4_ n5_ ⊢
            have HO_3 := n0_;have HO_6 := n1_;have BK175 := n2_;have BK179 := n3_;have BK196 := n4_;have HB := n5_;clear n0_ n1_ n2_ n3_ n4_ n5_;have n0_ := Aside0.mk (Kd.R_drew HO_3.out);have n1_ := Aside0.mk (Kd.R_drew HO_6.out);have n2_ := Aside0.mk (blk_drew BK175.out);have n3_ := Aside0.mk (blk_drew BK179.out);have n4_ := Aside0.mk (blk_drew BK196.out);have n5_ := Aside0.mk (below_drew1 HB.out);clear HO_3;clear HO_6;clear BK175;clear BK179;clear BK196;clear HB;have HO_3 := n0_;have HO_6 := n1_;have BK175 := n2_;have BK179 := n3_;have BK196 := n4_;have HB := n5_;clear n0_ n1_ n2_ n3_ n4_ n5_;obtain ⟨Ao43,co43,eo43⟩ := Kd.R_slice HO_6.out
            (subst eo43)
            refine start_ (n := 8) (S := fun w' => w'.cell? ⟨gb196,0,none⟩ = some (.int .i64 ((rd_T65 ((rd_T63 l0_1 x15_1).f4) x39_2).f0)) ∧ w'.cell? ⟨gb196,1,none⟩ = some (.int .i64 ((rd_T65 ((rd_T63 l0_1 x15_1).f4) x39_2).f1))) (ds := []) #[false,false,false,false,false,false,false,false] (by kernel_rfl) rfl rfl ⟨(blk_cell BK196.out 0).trans rfl,(blk_cell BK196.out 1).trans rfl⟩ (fun hHeld => ?_); refine with_tabW impl_StateRoot.tab12 impl_StateRoot.bits12 (fun HT_ HW_ => ?_)
            generalize w41.drew = w42 at HO_3 HO_6 BK175 BK179 BK196 HB hHeld ⊢
            refine pure_ (i := 0) (N := some 43) (v := ?_) (a' := ?_) #[true,false,false,false,false,false,false,false] rfl rfl (any_of HT_.out (by kernel_rfl)) (fun _ _ _ h => h) (Or.inl ⟨by rfl,?_⟩) ?_ ?_;rotate_left
            ·intro w';go_simp;with_reducible rfl
            rotate_left
            ·simp only [wf_preprocess];rfl
            refine pure_ (i := 1) (N := some 44) (v := ?_) (a' := ?_) #[true,true,false,false,false,false,false,false] rfl rfl (any_of HT_.out (by kernel_rfl)) (fun _ _ _ h => h) (Or.inl ⟨by rfl,?_⟩) ?_ ?_;rotate_left
            ·intro w';go_simp;with_reducible rfl
            rotate_left
            ·simp only [wf_preprocess];rfl
            refine pure_ (i := 4) (N := some 47) (v := ?_) (a' := ?_) #[true,true,false,false,true,false,false,false] rfl rfl (any_of HT_.out (by kernel_rfl)) (fun _ _ _ h => h) (Or.inl ⟨by rfl,?_⟩) ?_ ?_;rotate_left
            ·intro w';go_simp;with_reducible rfl
            rotate_left
            ·simp only [wf_preprocess];rfl
            refine take_ (i := 2) (N := some 45) (v := ?_) (a' := ?_) #[true,true,true,false,true,false,false,false] rfl rfl (take_ofW HT_.out HW_.out (by kernel_rfl)) (fun _ _ _ h => h) (Or.inl ⟨by rfl,?_⟩) hHeld ?_ ?_;rotate_left
            ·rintro w' ⟨s0,s1⟩;go_simp;with_reducible rfl
            rotate_left
            ·simp only [wf_preprocess];rfl
            refine take_ (i := 5) (N := some 48) (v := ?_) (a' := ?_) #[true,true,true,false,true,true,false,false] rfl rfl (take_ofW HT_.out HW_.out (by kernel_rfl)) (fun _ _ _ h => h) (Or.inl ⟨by rfl,?_⟩) hHeld ?_ ?_;rotate_left
            ·rintro w' ⟨s0,s1⟩;go_simp;with_reducible rfl
            rotate_left
            ·simp only [wf_preprocess];rfl
            refine one_ (i := 3) (N := some 46) #[true,true,true,true,true,true,false,false] rfl rfl (one_of HT_.out (by kernel_rfl)) (by decide) (fun K hK => ?_);refine goes_ Try.func70 (by kernel_rfl) rfl #[.slice Ao43 x6_2.length co43,.int .i64 ((rd_T65 ((rd_T63 l0_1 x15_1).f4) x39_2).f0)] (by rfl) rfl rfl (by (try simp only [List.map_toArray,List.map_cons,List.map_nil]); rfl) ?_
            with_reducible refine (impl_putNum.calls k2 (fun k_ => some k_ = (.slice Ao43 x6_2.length co43 : Value).ownBlock) (.slice Ao43 x6_2.length co43) x6_2 ((rd_T65 ((rd_T63 l0_1 x15_1).f4) x39_2).f0) t197 w _ ?side1 ?side2 A35.out).mono ?_
            (case side1 => repeat (with_reducible exact HB.out))
            (case side2 => exact Kd.R_tight rfl HO_6.out)
            rintro e w44 ⟨v198,rfl,ho0,hb,hkp⟩;refine ⟨_,rfl,?_⟩;have n0_ := Aside0.mk (Kd.R_mono (ok' := fun k_ => True) (Kd.R_keptB (Kd.R_apart' HO_3.out (Kd.R_typed HO_6.out) (by decide)) hkp (fun k_ hk_ hs_ => (hk_.2) hs_)) (fun k_ hk_ => trivial));have n1_ := Aside0.mk (blk_kept (by exact BK175.out) hkp (fun hs_ => (fun e_ => (Kd.R_ne HO_6.out BK175.out (by decide)) e_) hs_));have n2_ := Aside0.mk (blk_kept (by exact BK179.out) hkp (fun hs_ => (fun e_ => (Kd.R_ne HO_6.out BK179.out (by decide)) e_) hs_));have n3_ := Aside0.mk (blk_kept (by exact BK196.out) hkp (fun hs_ => (fun e_ => (Kd.R_ne HO_6.out BK196.out (by decide)) e_) hs_));have n4_ := Aside0.mk (Kd.R_mono (ok' := fun k_ => True) ho0 (fun k_ hk_ => trivial));have n5_ := Aside0.mk (hb);clear HO_3;clear BK175;clear BK179;clear BK196;clear HB;clear HO_6;have HO_3 := n0_;have BK175 := n1_;have BK179 := n2_;have BK196 := n3_;have HO199 := n4_;have HB := n5_;clear n0_ n1_ n2_ n3_ n4_ n5_
            (try clear hb)
            (try clear hkp)
            (try clear ho0)
            obtain ⟨Ao45,co45,eo45⟩ := Kd.R_slice HO199.out
            (subst eo45)
            refine hK.out _ _ ⟨(blk_cell BK196.out 0).trans rfl,(blk_cell BK196.out 1).trans rfl⟩ (fun hHeld => ?_);clear hK K;refine norm_ (a' := ?_) ?_ ?_;rotate_left
            ·show Act.put _ (some 46) _ = _
             simp only [wf_preprocess];rfl
            refine one_ (i := 6) (N := some 49) #[true,true,true,true,true,true,true,false] rfl rfl (one_of HT_.out (by kernel_rfl)) (by decide) (fun K hK => ?_);refine goes_ Try.func70 (by kernel_rfl) rfl #[.slice Ao45 t197.length co45,.int .i64 ((rd_T65 ((rd_T63 l0_1 x15_1).f4) x39_2).f1)] (by rfl) rfl rfl (by (try simp only [List.map_toArray,List.map_cons,List.map_nil]); rfl) ?_
            with_reducible refine (impl_putNum.calls k2 (fun k_ => some k_ = (.slice Ao45 t197.length co45 : Value).ownBlock) (.slice Ao45 t197.length co45) t197 ((rd_T65 ((rd_T63 l0_1 x15_1).f4) x39_2).f1) t200 w _ ?side1 ?side2 A36.out).mono ?_
            (case side1 => repeat (with_reducible exact HB.out))
            (case side2 => exact Kd.R_tight rfl HO199.out)
            rintro e w46 ⟨v201,rfl,ho0,hb,hkp⟩;refine ⟨_,rfl,?_⟩;have n0_ := Aside0.mk (Kd.R_mono (ok' := fun k_ => True) (Kd.R_keptB (Kd.R_apart' HO_3.out (Kd.R_typed HO199.out) (by decide)) hkp (fun k_ hk_ hs_ => (hk_.2) hs_)) (fun k_ hk_ => trivial));have n1_ := Aside0.mk (blk_kept (by exact BK175.out) hkp (fun hs_ => (fun e_ => (Kd.R_ne HO199.out BK175.out (by decide)) e_) hs_));have n2_ := Aside0.mk (blk_kept (by exact BK179.out) hkp (fun hs_ => (fun e_ => (Kd.R_ne HO199.out BK179.out (by decide)) e_) hs_));have n3_ := Aside0.mk (blk_kept (by exact BK196.out) hkp (fun hs_ => (fun e_ => (Kd.R_ne HO199.out BK196.out (by decide)) e_) hs_));have n4_ := Aside0.mk (Kd.R_mono (ok' := fun k_ => True) ho0 (fun k_ hk_ => trivial));have n5_ := Aside0.mk (hb);clear HO_3;clear BK175;clear BK179;clear BK196;clear HB;clear HO199;have HO_3 := n0_;have BK175 := n1_;have BK179 := n2_;have BK196 := n3_;have HO202 := n4_;have HB := n5_;clear n0_ n1_ n2_ n3_ n4_ n5_
            (try clear hb)
            (try clear hkp)
            (try clear ho0)
            refine hK.out _ _ ⟨(blk_cell BK196.out 0).trans rfl,(blk_cell BK196.out 1).trans rfl⟩ (fun hHeld => ?_);clear hK K;refine norm_ (a' := ?_) ?_ ?_;rotate_left
            ·show Act.put _ (some 49) _ = _
             simp only [wf_preprocess];rfl
            refine pure_ (i := 7) (N := some 6) (v := ?_) (a' := ?_) #[true,true,true,true,true,true,true,true] rfl rfl (any_of HT_.out (by kernel_rfl)) (fun _ _ _ h => h) (Or.inl ⟨by rfl,?_⟩) ?_ ?_;rotate_left
            ·intro w';go_simp;with_reducible rfl
            rotate_left
            ·simp only [wf_preprocess];rfl
            refine done_ (done_of HT_.out (by kernel_rfl)) ?_
            try go_wp2
            go_roundg k2
            case measure => have := HK1.out; have := HK2.out; omega
            case rel => exact ⟨(t200),(wrap64 (x39_2 + 1)),(by rfl),H',⟨by have := HK1.out; have := HK2.out; omega⟩,⟨by exact HO_3.out⟩,⟨by exact HO202.out⟩,⟨by exact BK175.out⟩,⟨by exact BK179.out⟩,⟨HB.out⟩⟩
           ·rw [if_neg c34] at H;exact absurd H (by simp)
          ·rw [if_neg c33] at H;exact absurd H (by simp)
         ·rw [if_neg c32] at H;have c32b0 : decide (x39_2 < (((rd_T63 l0_1 x15_1).f4).length : Int)) = false := decide_eq_false c32;clear c32
          by_cases c47 : x3_1.length < 8796093022208
          ·rw [if_pos c47] at H;have LMc47 := Aside0.mk c47;clear c47;obtain ⟨y203,hy203⟩ : ∃ y_ : List ByteArray,y_ = (x3_1 ++ [strOfNums x6_2]) := ⟨_,rfl⟩
           replace H : (impl_StateRoot.l0 k2 y203 l0_1 (l0_1.length : Int) (wrap64 (x15_1 + 1))) = some r := by (rw [hy203]; with_reducible exact H)
           have Ny203 := Aside0.mk hy203;clear hy203;have H' := Aside0.mk H;clear H;have hcv48 := own_string (P := Try.prog) Try.underlying40 Try.underlying5 Try.underlying9 (Kd.own_of_R HO_6.out)
           go_wp2_with (((with_reducible refine gate_builtin (b := .append) (xs := #[.tmp 51,.tmp 54]) rfl ?_); at_builtin; refine Kd.R_append Kd.string (w0 := w) w.heap.size rfl (.tmp 51) (.tmp 54) 74 9 (.string ⟨#[]⟩) 16 rfl Try.underlying74 info9 rfl (by decide) (by omega) u3 x3_1 (strOfNums x6_2) [.string (strOfNums x6_2)] (fun _ => True) (fun _ => False) rfl rfl ?aP (fun _ hk => hk.elim) ?aF ?aO ?aB ?aS ?aL ?_; (case aP => exact rfl); (case aB => exact HB.out); (case aF => exact (fun _ _ => trivial)); (case aO => exact (by exact HO_3.out)); (case aS => exact (below_size HB.out)); (case aL => have := LMc47.out; omega); intro v204 w49 ho hb hg hat; rw [← Ny203.out] at ho; have n0_ := Aside0.mk (Kd.R_over' (by exact HO_6.out) (Kd.R_typed (by exact HO_3.out)) (by decide) hg); have n1_ := Aside0.mk (blk_grown (g := gb175) (o := .cells #[.int .i64 a0_0,.slice (some ad178) l0_1.length c0_1] 31 (0,0)) (by exact BK175.out) hg (Kd.R_ne HO_3.out BK175.out (by decide))); have n2_ := Aside0.mk (blk_grown (g := gb179) (o := .cells #[.string ((rd_T63 l0_1 x15_1).f0),.int .i64 ((rd_T63 l0_1 x15_1).f1),.int .i64 ((rd_T63 l0_1 x15_1).f2),.int .i64 ((rd_T63 l0_1 x15_1).f3),.slice A178_4 ((rd_T63 l0_1 x15_1).f4).length c178_4] 63 (0,0)) (by exact BK179.out) hg (Kd.R_ne HO_3.out BK179.out (by decide))); have n3_ := Aside0.mk (hb); have n4_ := Aside0.mk (ho); clear HO_6; clear BK175; clear BK179; clear HB; clear HO_3; have HO_6 := n0_; have BK175 := n1_; have BK179 := n2_; have HB := n3_; have HO205 := n4_; clear n0_ n1_ n2_ n3_ n4_; clear ho hb hg hat))
           go_roundg k2
           case measure => have := HK1.out; have := HK2.out; omega
           case rel => exact ⟨(y203),(wrap64 (x15_1 + 1)),(by rfl),H',⟨by have := HK1.out; have := HK2.out; omega⟩,⟨by exact HO205.out⟩,⟨by exact BK175.out⟩,⟨HB.out⟩⟩
          ·rw [if_neg c47] at H;exact absurd H (by simp)
      ·rw [if_neg c10] at H;exact absurd H (by simp)
     ·rw [if_neg c9] at H;exact absurd H (by simp)
    ·rw [if_neg c8] at H;have c8b0 : decide (x15_1 < (l0_1.length : Int)) = false := decide_eq_false c8;clear c8;replace H := Option.bind_eq_some_iff.mp H;obtain ⟨t177,A500,H⟩ := H;replace H : (some t177) = some r := H;have A50 := Aside0.mk A500;clear A500;obtain rfl := Option.some.inj H;obtain ⟨Ao51,co51,eo51⟩ := Kd.R_slice HO_3.out;subst eo51
     go_wp2_with (((with_reducible refine gate_callee (f := 72) rfl ?_); refine goesL_ (some 58) rfl rfl Try.func72 (by kernel_rfl) rfl #[.slice Ao51 x3_1.length co51] rfl (by (try simp only [List.map_toArray,List.map_cons,List.map_nil]); rfl) ?_; (with_reducible refine (impl_rootOf.calls k1 _ _ x3_1 t177 _ ?side1 ?side2 A50.out).mono ?_); (case side1 => repeat (exact (Kd.R_reads' HO_3.out).2.2)); (case side2 => exact (Kd.R_reads' HO_3.out).2.1); rintro e w52 ⟨rfl,hb⟩; refine ⟨_,rfl,?_⟩; have n0_ := Aside0.mk (Kd.R_below (by exact HO_3.out) hb); have n1_ := Aside0.mk (blk_below (g := gb175) (o := .cells #[.int .i64 a0_0,.slice A0_1 l0_1.length c0_1] 31 (0,0)) (by exact BK175.out) hb); have n2_ := Aside0.mk (below_step HB.out hb); clear HO_3; clear BK175; clear HB; have HO_3 := n0_; have BK175 := n1_; have HB := n2_; clear n0_ n1_ n2_; (try clear hb); skip))
     go_ret;exact ⟨by rfl,HB.out⟩
 ·replace c3 := Bool.eq_false_iff.mpr c3;subst c3
  have H1 : (some (⟨#[]⟩ : ByteArray)) = some r := by rw [if_neg (show ¬ (false = true) by decide)] at H; exact H
  clear H;have H := H1;clear H1;obtain rfl := Option.some.inj H;go_enter Try.func28,Try.ntmps28
  go_wp2_with (first | ((with_reducible refine gate_dst (N := 1) rfl ?_); refine box_event ?hg (N := 1) ?hd (cs := #[.int .i64 a0_0,.slice A0_1 l0_1.length c0_1]) (t := 31) ?hr ?_; (case hd => rfl); (case hg => rfl); (case hr => (go_simp; done)); intro gb175 hg w53 hbox hb; have n0_ := Aside0.mk (below_step HB.out hb); have n1_ := Aside0.mk (hbox); have n2_ := Aside0.mk (by rw [hg]; exact (below_size HB.out) : w.heap.size ≤ gb175); have n3_ := Aside0.mk (by rw [hg]; exact (below_size HB.out) : w.heap.size ≤ gb175); clear HB; have HB := n0_; have BK175 := n1_; have GW175 := n2_; have GE175 := n3_; clear n0_ n1_ n2_ n3_; clear hb hbox hg; have hcz54_0 : w53.cell? ⟨gb175,0,none⟩ = some (.int .i64 a0_0) := (blk_cell BK175.out 0).trans rfl; have hcz54_1 : w53.cell? ⟨gb175,1,none⟩ = some (.slice A0_1 l0_1.length c0_1) := (blk_cell BK175.out 1).trans rfl; have hfz54_0 := blk_frozen BK175.out 0; have hfz54_1 := blk_frozen BK175.out 1) | ((with_reducible refine gate_callee (f := 27) rfl ?_); refine goesL_ (some 10) rfl rfl Try.func27 (by kernel_rfl) rfl #[.agg #[.int .i64 a0_0,.slice A0_1 l0_1.length c0_1]] rfl (by (try simp only [List.map_toArray,List.map_cons,List.map_nil]); rfl) ?_; (with_reducible refine (impl_LedgerOk.calls k a0_0 _ _ l0_1 false _ ?side1 ?side2 A2.out).mono ?_); (case side1 => repeat (exact (Kd.C_below HR0_1.out HB.out))); (case side2 => exact HC0_1.out); rintro e w55 ⟨rfl,hb⟩; refine ⟨_,rfl,?_⟩; have n0_ := Aside0.mk (blk_below (g := gb175) (o := .cells #[.int .i64 a0_0,.slice A0_1 l0_1.length c0_1] 31 (0,0)) (by exact BK175.out) hb); have n1_ := Aside0.mk (below_step HB.out hb); clear BK175; clear HB; have BK175 := n0_; have HB := n1_; clear n0_ n1_; (try clear hb); skip))
  go_ret;exact ⟨by rfl,HB.out⟩

end Go.Proofs.Ytcbpfofkdipjhaa.PI
