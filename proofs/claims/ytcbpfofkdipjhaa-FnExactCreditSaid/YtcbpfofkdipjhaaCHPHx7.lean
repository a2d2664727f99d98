/- The machine's side of Go functions: each as a plain function,and that the call does what it says. Written by a program (wip/mprint). -/
import Derived.Test.YtcbpfofkdipjhaaCHPHx0
import Derived.Test.YtcbpfofkdipjhaaCHPHx4
import Derived.Test.YtcbpfofkdipjhaaCHPHx6
import Derived.Lib.Hide
namespace Go.Proofs.Ytcbpfofkdipjhaa.PH
open Go.RowKit Go.Proofs.YtcbpfofkdipjhaaW.PrintWords Go.Proofs.YtcbpfofkdipjhaaW.PrintLast Go.Proofs.YtcbpfofkdipjhaaW.PrintMore
attribute [local go_sem] max2_int min2_int max_two min_two max_three min_three max_four min_four   -- for this text's walks alone
set_option linter.unusedVariables false
set_option linter.unusedSimpArgs false

/-! ### spec_l4Copy: function 92 -/
def spec_l4Copy.l0 : Nat → List (S63) → List (S63) → Int → Option (List (S63))
 | 0,_,_,_ => none
 | k + 1,x0,x3,x4 => if x4 < (x0.length : Int) then (if 0 ≤ x4 then ((some (([] : List (S65)) : List (S65))).bind fun y158 => (if y158.length + ((rd_T63 x0 x4).f4).length < 8796093022208 then (if x3.length < 2199023255552 then (spec_l4Copy.l0 k x0 (x3 ++ [(⟨(rd_T63 x0 x4).f0,(rd_T63 x0 x4).f1,(rd_T63 x0 x4).f2,(rd_T63 x0 x4).f3,(y158 ++ ((rd_T63 x0 x4).f4))⟩ : S63)]) (wrap64 (x4 + 1))) else (none)) else (none))) else (none)) else (some x3)
def spec_l4Copy.f (k : Nat) (l0 : List (S63)) : Option (List (S63)) := spec_l4Copy.l0 k l0 ([] : List (S63)) 0
theorem spec_l4Copy.mono_l : ∀ k,(∀ y0 y1 y2,LeO (spec_l4Copy.l0 k y0 y1 y2) (spec_l4Copy.l0 (k + 1) y0 y1 y2))
 | 0 => fun _ _ _ r h => by simp [spec_l4Copy.l0] at h
 | k + 1 => by
  have ih0 := spec_l4Copy.mono_l k
  ·intro y0 y1 y2;unfold spec_l4Copy.l0
   repeat' first
   | (with_reducible exact ih0 _ _ _)
   | (with_reducible exact LeO.refl _)
   | (with_reducible exact LeO.none _)
   | (with_reducible refine LeO.ite ?_ ?_)
   | (with_reducible refine LeO.bind ?_ (fun _ => ?_))
   | exact ih0 _ _ _
   | exact LeO.none _
theorem spec_l4Copy.mono : ∀ a0 k,LeO (spec_l4Copy.f k a0) (spec_l4Copy.f (k + 1) a0) := by
 intro a0 k;have ih0 := spec_l4Copy.mono_l k;unfold spec_l4Copy.f
 repeat' first
   | (with_reducible exact ih0 _ _ _)
   | (with_reducible exact LeO.refl _)
   | (with_reducible exact LeO.none _)
   | (with_reducible refine LeO.ite ?_ ?_)
   | (with_reducible refine LeO.bind ?_ (fun _ => ?_))
   | exact ih0 _ _ _
   | exact LeO.none _
set_option maxHeartbeats 8000000 in
set_option maxRecDepth 100000 in
theorem spec_l4Copy.calls (k : Nat) (A0 : Option Addr) (c0 : Nat) (l0 : List (S63)) (r : List (S63)) (w : World) (hr0 : Kd.C k63 w A0 l0.length l0) (hc0 : l0.length ≤ c0) (h : spec_l4Copy.f k l0 = some r) :
  Calls Try.prog 92 #[.slice A0 l0.length c0] w fun e w' => ∃ v0_ : Value,e = .returned (v0_) ∧ Kd.S k63 63 w' w.heap.size (fun _ => True) v0_ r ∧ Below w.heap.size w w' := by
 have hu63 := Try.underlying63;have HR0 := Aside0.mk hr0;have HC0 := Aside0.mk hc0;clear hr0 hc0;have HB := Aside0.mk (Below.refl w.heap.size w);have H : (spec_l4Copy.l0 k l0 ([] : List (S63)) 0) = some r := h;clear h;obtain ⟨y153,hy153⟩ : ∃ y_ : List (S63),y_ = ([] : List (S63)) := ⟨_,rfl⟩
 replace H : (spec_l4Copy.l0 k l0 y153 0) = some r := by (rw [hy153]; with_reducible exact H)
 have Ny153 := Aside0.mk hy153;clear hy153;have H' := Aside0.mk H;clear H;go_enter Try.func92,Try.ntmps92
 go_wp2_with (((with_reducible refine gate_dst (N := 6) rfl ?_); refine Kd.S_lit k63 _ 63 ?hg (N := 6) ?hd (xs := ([] : List (S63))) (inner := []) (ok := fun _ => True) (okp := fun _ => True) ?hr ?hp (fun _ hk => hk) trivial (Below.refl _ _) (Nat.le_refl _) (by simp) ?_; (case hd => rfl); (case hg => rfl); (case hr => (go_simp; done)); (case hp => exact (Reps.none _ _)); intro v154 w2 ho3 hb hg_ hnew_; clear hg_ hnew_; (rw [← Ny153.out] at ho3); have n0_ := Aside0.mk (Kd.S_lower ho3 (below_size HB.out)); have n1_ := Aside0.mk (below_step HB.out hb); clear HB; have HO155 := n0_; have HB := n1_; clear n0_ n1_; clear hb ho3))
 go_loopg [3,4] k (fun kq v3 v4 w' => ∃ (x3_1 : List (S63)) (x4_1 : Int),v4 = .int .i64 x4_1 ∧ Aside0 (spec_l4Copy.l0 kq l0 x3_1 x4_1 = some r) ∧ Aside0 (kq ≤ k) ∧ Aside0 (Kd.S k63 63 w' w.heap.size (fun _ => True) v3 x3_1) ∧ Aside0 (Below w.heap.size w w'))
 case atStart => exact ⟨(y153),(0),(by rfl),H',⟨Nat.le_refl _⟩,⟨by exact HO155.out⟩,⟨HB.out⟩⟩
 case round =>
  clear H'
  try clear p2
  obtain ⟨x3_1,x4_1,rfl,HA,HK1,HO_3,HB⟩ := hrel
  cases gk with
  | zero => exact absurd HA.out (by simp [spec_l4Copy.l0])
  | succ k1 =>
   have H := HA.out;clear HA;simp only [spec_l4Copy.l0] at H
   by_cases c4 : x4_1 < (l0.length : Int)
   ·rw [if_pos c4] at H;have c4b0 : decide (x4_1 < (l0.length : Int)) = true := decide_eq_true c4;clear c4
    by_cases c5 : 0 ≤ x4_1
    ·rw [if_pos c5] at H;have c5b0 : decide (0 ≤ x4_1) = true := decide_eq_true c5;clear c5;obtain ⟨y158,hy158⟩ : ∃ y_ : List (S65),y_ = ([] : List (S65)) := ⟨_,rfl⟩
     replace H : (if y158.length + ((rd_T63 l0 x4_1).f4).length < 8796093022208 then (if x3_1.length < 2199023255552 then (spec_l4Copy.l0 k1 l0 (x3_1 ++ [(⟨(rd_T63 l0 x4_1).f0,(rd_T63 l0 x4_1).f1,(rd_T63 l0 x4_1).f2,(rd_T63 l0 x4_1).f3,(y158 ++ ((rd_T63 l0 x4_1).f4))⟩ : S63)]) (wrap64 (x4_1 + 1))) else (none)) else (none)) = some r := by (have H2_ := (Option.bind_some _ _).symm.trans H; rw [hy158]; with_reducible exact H2_)
     have Ny158 := Aside0.mk hy158;clear hy158
     by_cases c6 : y158.length + ((rd_T63 l0 x4_1).f4).length < 8796093022208
     ·rw [if_pos c6] at H;have LMc6 := Aside0.mk c6;clear c6;obtain ⟨y161,hy161⟩ : ∃ y_ : List (S65),y_ = (y158 ++ ((rd_T63 l0 x4_1).f4)) := ⟨_,rfl⟩
      replace H : (if x3_1.length < 2199023255552 then (spec_l4Copy.l0 k1 l0 (x3_1 ++ [(⟨(rd_T63 l0 x4_1).f0,(rd_T63 l0 x4_1).f1,(rd_T63 l0 x4_1).f2,(rd_T63 l0 x4_1).f3,y161⟩ : S63)]) (wrap64 (x4_1 + 1))) else (none)) = some r := by (rw [hy161]; with_reducible exact H)
      have Ny161 := Aside0.mk hy161;clear hy161
      by_cases c7 : x3_1.length < 2199023255552
      ·rw [if_pos c7] at H;have LMc7 := Aside0.mk c7;clear c7;obtain ⟨y164,hy164⟩ : ∃ y_ : List (S63),y_ = (x3_1 ++ [(⟨(rd_T63 l0 x4_1).f0,(rd_T63 l0 x4_1).f1,(rd_T63 l0 x4_1).f2,(rd_T63 l0 x4_1).f3,y161⟩ : S63)]) := ⟨_,rfl⟩
       replace H : (spec_l4Copy.l0 k1 l0 y164 (wrap64 (x4_1 + 1))) = some r := by (rw [hy164]; with_reducible exact H)
       have Ny164 := Aside0.mk hy164;clear hy164;have H' := Aside0.mk H;clear H;have p156 : 0 ≤ (x4_1 : Int) := of_decide_eq_true (by (with_reducible assumption));have q156 : x4_1 < (l0.length : Int) := of_decide_eq_true (by (with_reducible assumption));obtain ⟨ad156,A156_4,c156_4,e156,hx156_0,hx156_1,hx156_2,hx156_3,hx156_4,hl156_4,hi156_4⟩ := at_T63 HR0.out x4_1 p156 q156
       cases e156
       replace hx156_0 := (HB.out.cell (World.block_lt_of_cell? w _ hx156_0)).trans hx156_0;replace hx156_1 := (HB.out.cell (World.block_lt_of_cell? w _ hx156_1)).trans hx156_1;replace hx156_2 := (HB.out.cell (World.block_lt_of_cell? w _ hx156_2)).trans hx156_2;replace hx156_3 := (HB.out.cell (World.block_lt_of_cell? w _ hx156_3)).trans hx156_3;replace hx156_4 := (HB.out.cell (World.block_lt_of_cell? w _ hx156_4)).trans hx156_4;have HR156_4 := Aside0.mk hi156_4;have HC156_4 := Aside0.mk hl156_4;clear hi156_4 hl156_4;replace p156 := eq_true p156;replace q156 := eq_true q156
       go_wp2_with (first | ((with_reducible refine gate_dst (N := 5) rfl ?_); refine box_event ?hg (N := 5) ?hd (cs := #[.string (⟨#[]⟩ : ByteArray),.int .i64 0,.int .i64 0,.int .i64 0,.slice none 0 0]) (t := 63) ?hr ?_; (case hd => rfl); (case hg => rfl); (case hr => (go_simp; done)); intro gb157 hg w8 hbox hb; have n0_ := Aside0.mk (Kd.S_below (Kd.S_elderB (by exact HO_3.out) gb157 (Nat.le_of_eq hg.symm)) hb); have n1_ := Aside0.mk (below_step HB.out hb); have n2_ := Aside0.mk (hbox); have n3_ := Aside0.mk (by rw [hg]; exact (below_size HB.out) : w.heap.size ≤ gb157); have n4_ := Aside0.mk (by rw [hg]; exact (below_size HB.out) : w.heap.size ≤ gb157); clear HO_3; clear HB; have HO_3 := n0_; have HB := n1_; have BK157 := n2_; have GW157 := n3_; have GE157 := n4_; clear n0_ n1_ n2_ n3_ n4_; clear hb hbox hg; have hcz9_0 : w8.cell? ⟨gb157,0,none⟩ = some (.string (⟨#[]⟩ : ByteArray)) := (blk_cell BK157.out 0).trans rfl; have hcz9_1 : w8.cell? ⟨gb157,1,none⟩ = some (.int .i64 0) := (blk_cell BK157.out 1).trans rfl; have hcz9_2 : w8.cell? ⟨gb157,2,none⟩ = some (.int .i64 0) := (blk_cell BK157.out 2).trans rfl; have hcz9_3 : w8.cell? ⟨gb157,3,none⟩ = some (.int .i64 0) := (blk_cell BK157.out 3).trans rfl; have hcz9_4 : w8.cell? ⟨gb157,4,none⟩ = some (.slice none 0 0) := (blk_cell BK157.out 4).trans rfl; have hfz9_0 := blk_frozen BK157.out 0; have hfz9_1 := blk_frozen BK157.out 1; have hfz9_2 := blk_frozen BK157.out 2; have hfz9_3 := blk_frozen BK157.out 3; have hfz9_4 := blk_frozen BK157.out 4) | ((with_reducible refine gate_dst (N := 17) rfl ?_); refine Kd.R_lit k65 _ 65 ?hg (N := 17) ?hd (xs := ([] : List (S65))) (inner := []) (ok := fun _ => True) (okp := fun _ => True) ?hr ?hp (fun _ hk => hk) trivial (Below.refl _ _) (Nat.le_refl _) (by simp) ?_; (case hd => rfl); (case hg => rfl); (case hr => (go_simp; done)); (case hp => exact (Reps.none _ _)); intro v159 w10 ho11 hb hg_ hnew_; clear hg_ hnew_; (rw [← Ny158.out] at ho11); have n0_ := Aside0.mk (Kd.S_elder' (by exact (Kd.S_mono (Kd.S_far (p := ⟨gb157,4,none⟩) (Kd.S_far (p := ⟨gb157,3,none⟩) (Kd.S_far (p := ⟨gb157,2,none⟩) (Kd.S_far (p := ⟨gb157,1,none⟩) (Kd.S_far (p := ⟨gb157,0,none⟩) (Kd.S_mono HO_3.out (fun k_ hk => (⟨hk,hk.2⟩ : _ ∧ k_ ≠ gb157))) (fun _ hk => hk.2) (.string ((rd_T63 l0 x4_1).f0))) (fun _ hk => hk.2) (.int .i64 ((rd_T63 l0 x4_1).f1))) (fun _ hk => hk.2) (.int .i64 ((rd_T63 l0 x4_1).f2))) (fun _ hk => hk.2) (.int .i64 ((rd_T63 l0 x4_1).f3))) (fun _ hk => hk.2) (.slice A156_4 ((rd_T63 l0 x4_1).f4).length c156_4)) (fun _ h_ => h_.1))) (Kd.R_base ho11) hb); have n1_ := Aside0.mk (Kd.R_lower ho11 (below_size (by repeat (with_reducible first | exact HB.out | refine below_set ?_ GE157.out)))); have n2_ := Aside0.mk (blk_below (g := gb157) (o := .cells #[.string ((rd_T63 l0 x4_1).f0),.int .i64 ((rd_T63 l0 x4_1).f1),.int .i64 ((rd_T63 l0 x4_1).f2),.int .i64 ((rd_T63 l0 x4_1).f3),.slice A156_4 ((rd_T63 l0 x4_1).f4).length c156_4] 63 (0,0)) (by refine blk_put (cs := #[.string ((rd_T63 l0 x4_1).f0),.int .i64 ((rd_T63 l0 x4_1).f1),.int .i64 ((rd_T63 l0 x4_1).f2),.int .i64 ((rd_T63 l0 x4_1).f3),.slice none 0 0]) ?_ 4 _ rfl; refine blk_put (cs := #[.string ((rd_T63 l0 x4_1).f0),.int .i64 ((rd_T63 l0 x4_1).f1),.int .i64 ((rd_T63 l0 x4_1).f2),.int .i64 0,.slice none 0 0]) ?_ 3 _ rfl; refine blk_put (cs := #[.string ((rd_T63 l0 x4_1).f0),.int .i64 ((rd_T63 l0 x4_1).f1),.int .i64 0,.int .i64 0,.slice none 0 0]) ?_ 2 _ rfl; refine blk_put (cs := #[.string ((rd_T63 l0 x4_1).f0),.int .i64 0,.int .i64 0,.int .i64 0,.slice none 0 0]) ?_ 1 _ rfl; refine blk_put (cs := #[.string (⟨#[]⟩ : ByteArray),.int .i64 0,.int .i64 0,.int .i64 0,.slice none 0 0]) ?_ 0 _ rfl; exact BK157.out) hb); have n3_ := Aside0.mk (below_step (by repeat (with_reducible first | exact HB.out | refine below_set ?_ GE157.out)) hb); clear HO_3; clear BK157; clear HB; have HO_3 := n0_; have HO160 := n1_; have BK157 := n2_; have HB := n3_; clear n0_ n1_ n2_ n3_; clear hb ho11; have hcz12_0 : w10.cell? ⟨gb157,0,none⟩ = some (.string ((rd_T63 l0 x4_1).f0)) := (blk_cell BK157.out 0).trans rfl; have hcz12_1 : w10.cell? ⟨gb157,1,none⟩ = some (.int .i64 ((rd_T63 l0 x4_1).f1)) := (blk_cell BK157.out 1).trans rfl; have hcz12_2 : w10.cell? ⟨gb157,2,none⟩ = some (.int .i64 ((rd_T63 l0 x4_1).f2)) := (blk_cell BK157.out 2).trans rfl; have hcz12_3 : w10.cell? ⟨gb157,3,none⟩ = some (.int .i64 ((rd_T63 l0 x4_1).f3)) := (blk_cell BK157.out 3).trans rfl; have hcz12_4 : w10.cell? ⟨gb157,4,none⟩ = some (.slice A156_4 ((rd_T63 l0 x4_1).f4).length c156_4) := (blk_cell BK157.out 4).trans rfl; have hfz12_0 := blk_frozen BK157.out 0; have hfz12_1 := blk_frozen BK157.out 1; have hfz12_2 := blk_frozen BK157.out 2; have hfz12_3 := blk_frozen BK157.out 3; have hfz12_4 := blk_frozen BK157.out 4) | ((with_reducible refine gate_builtin (b := .append) (xs := #[.tmp 17,.tmp 19]) rfl ?_); at_builtin; refine Kd.R_append_rows k65 (w0 := w) w.heap.size rfl (.tmp 17) (.tmp 19) 61 65 (.agg #[(.int .i64 0),(.int .i64 0)]) 16 rfl Try.underlying61 info65 rfl (by decide) (by omega) v159 y158 ((rd_T63 l0 x4_1).f4) _ _ _ (fun _ => True) (fun _ => False) rfl rfl ?aO ?aR (fun _ _ h => h) (fun _ h => h.elim) ?aF ?aB ?aS ?aL ?_; (case aR => repeat (exact (Kd.C_below HR156_4.out HB.out))); (case aB => exact HB.out); (case aF => exact (fun _ _ => trivial)); (case aO => exact (by exact HO160.out)); (case aS => exact (below_size HB.out)); (case aL => have := LMc6.out; omega); intro v162 w13 ho hb hg hat; rw [← Ny161.out] at ho; have n0_ := Aside0.mk (Kd.S_after (ok := (fun k_ => k_ ≠ gb157)) (by exact Kd.S_mono HO_3.out (fun _ hk => ⟨hk.1.2,hk.2⟩)) hg hat); have n1_ := Aside0.mk (blk_grown (g := gb157) (o := .cells #[.string ((rd_T63 l0 x4_1).f0),.int .i64 ((rd_T63 l0 x4_1).f1),.int .i64 ((rd_T63 l0 x4_1).f2),.int .i64 ((rd_T63 l0 x4_1).f3),.slice A156_4 ((rd_T63 l0 x4_1).f4).length c156_4] 63 (0,0)) (by exact BK157.out) hg (Kd.R_ne HO160.out BK157.out (by decide))); have n2_ := Aside0.mk (hb); have n3_ := Aside0.mk (ho); clear HO_3; clear BK157; clear HB; clear HO160; have HO_3 := n0_; have BK157 := n1_; have HB := n2_; have HO163 := n3_; clear n0_ n1_ n2_ n3_; clear ho hb hg hat; obtain ⟨Ao14,co14,eo14⟩ := Kd.R_slice HO163.out; subst eo14; have hcz15_0 : w13.cell? ⟨gb157,0,none⟩ = some (.string ((rd_T63 l0 x4_1).f0)) := (blk_cell BK157.out 0).trans rfl; have hcz15_1 : w13.cell? ⟨gb157,1,none⟩ = some (.int .i64 ((rd_T63 l0 x4_1).f1)) := (blk_cell BK157.out 1).trans rfl; have hcz15_2 : w13.cell? ⟨gb157,2,none⟩ = some (.int .i64 ((rd_T63 l0 x4_1).f2)) := (blk_cell BK157.out 2).trans rfl; have hcz15_3 : w13.cell? ⟨gb157,3,none⟩ = some (.int .i64 ((rd_T63 l0 x4_1).f3)) := (blk_cell BK157.out 3).trans rfl; have hcz15_4 : w13.cell? ⟨gb157,4,none⟩ = some (.slice A156_4 ((rd_T63 l0 x4_1).f4).length c156_4) := (blk_cell BK157.out 4).trans rfl; have hfz15_0 := blk_frozen BK157.out 0; have hfz15_1 := blk_frozen BK157.out 1; have hfz15_2 := blk_frozen BK157.out 2; have hfz15_3 := blk_frozen BK157.out 3; have hfz15_4 := blk_frozen BK157.out 4) | ((with_reducible refine gate_store (t := 61) (p := 21) rfl ?_); refine store_event (t := 61) (p := 21) (v := ?vo_w16) (w1 := (w13.setCell ⟨gb157,4,none⟩ (.slice Ao14 y161.length co14))) ?hg ?ho ?hn ?hr ?_; (case ho => rfl); (case hg => rfl); (case hn => rfl); (case hr => (go_simp; done)); intro w16 hw; have n0_ : Aside0 (Kd.S k63 63 w16 w.heap.size (fun k_ => some k_ ≠ (.slice Ao14 y161.length co14 : Value).ownBlock ∧ k_ ≠ gb157) u3 x3_1) := ⟨(by rw [hw]; exact (by exact Kd.S_mono (Kd.S_far (p := ⟨gb157,4,none⟩) (Kd.S_mono HO_3.out (fun k_ hk => (⟨hk,hk.1⟩ : _ ∧ k_ ≠ gb157))) (fun _ hk => hk.2) (.slice Ao14 y161.length co14)) (fun _ hk => ⟨hk.1.2,hk.1.1⟩)))⟩; have n1_ : Aside0 (Kd.R k65 65 w16 w.heap.size (fun _ => True) (.slice Ao14 y161.length co14) y161) := ⟨(by rw [hw]; exact (by exact Kd.R_mono (Kd.R_far (p := ⟨gb157,4,none⟩) (Kd.R_types HO163.out BK157.out (by decide)) (fun _ hk => hk.2) (.slice Ao14 y161.length co14)) (fun _ hk => trivial)))⟩; have n2_ : Aside0 (w16.heap[gb157]? = some (.cells #[.string ((rd_T63 l0 x4_1).f0),.int .i64 ((rd_T63 l0 x4_1).f1),.int .i64 ((rd_T63 l0 x4_1).f2),.int .i64 ((rd_T63 l0 x4_1).f3),.slice Ao14 y161.length co14] 63 (0,0))) := ⟨(by rw [hw]; exact (by refine blk_put (cs := #[.string ((rd_T63 l0 x4_1).f0),.int .i64 ((rd_T63 l0 x4_1).f1),.int .i64 ((rd_T63 l0 x4_1).f2),.int .i64 ((rd_T63 l0 x4_1).f3),.slice A156_4 ((rd_T63 l0 x4_1).f4).length c156_4]) ?_ 4 _ rfl; exact BK157.out))⟩; have n3_ : Aside0 (Below w.heap.size w w16) := ⟨(by rw [hw]; exact (by repeat (with_reducible first | exact HB.out | refine below_set ?_ GE157.out)))⟩; clear hw; clear HO_3; clear HO163; clear BK157; clear HB; have HO_3 := n0_; have HO163 := n1_; have BK157 := n2_; have HB := n3_; clear n0_ n1_ n2_ n3_; have hcz17_0 : w16.cell? ⟨gb157,0,none⟩ = some (.string ((rd_T63 l0 x4_1).f0)) := (blk_cell BK157.out 0).trans rfl; have hcz17_1 : w16.cell? ⟨gb157,1,none⟩ = some (.int .i64 ((rd_T63 l0 x4_1).f1)) := (blk_cell BK157.out 1).trans rfl; have hcz17_2 : w16.cell? ⟨gb157,2,none⟩ = some (.int .i64 ((rd_T63 l0 x4_1).f2)) := (blk_cell BK157.out 2).trans rfl; have hcz17_3 : w16.cell? ⟨gb157,3,none⟩ = some (.int .i64 ((rd_T63 l0 x4_1).f3)) := (blk_cell BK157.out 3).trans rfl; have hcz17_4 : w16.cell? ⟨gb157,4,none⟩ = some (.slice Ao14 y161.length co14) := (blk_cell BK157.out 4).trans rfl; have hfz17_0 := blk_frozen BK157.out 0; have hfz17_1 := blk_frozen BK157.out 1; have hfz17_2 := blk_frozen BK157.out 2; have hfz17_3 := blk_frozen BK157.out 3; have hfz17_4 := blk_frozen BK157.out 4) | ((with_reducible refine gate_builtin (b := .append) (xs := #[.tmp 22,.tmp 24]) rfl ?_); at_builtin; refine Kd.S_append k63 (w0 := w) w.heap.size rfl (.tmp 22) (.tmp 24) 29 63 (.agg #[(.string ⟨#[]⟩),(.int .i64 0),(.int .i64 0),(.int .i64 0),(.slice none 0 0)]) 64 rfl Try.underlying29 info63 rfl (by decide) (by omega) u3 x3_1 (⟨(rd_T63 l0 x4_1).f0,(rd_T63 l0 x4_1).f1,(rd_T63 l0 x4_1).f2,(rd_T63 l0 x4_1).f3,y161⟩ : S63) [.string ((rd_T63 l0 x4_1).f0),.int .i64 ((rd_T63 l0 x4_1).f1),.int .i64 ((rd_T63 l0 x4_1).f2),.int .i64 ((rd_T63 l0 x4_1).f3),.slice Ao14 y161.length co14] (fun k_ => k_ ≠ gb157) (fun k_ => some k_ = (.slice Ao14 y161.length co14 : Value).ownBlock) rfl rfl ?aP (fun k_ hk_ => (Kd.R_mono (ok' := fun k_ => (fun k_ => k_ ≠ gb157) k_ ∧ some k_ ≠ (u3 : Value).ownBlock) (Kd.R_types (Kd.R_apart' (HO163.out) (Kd.S_typed HO_3.out) (by decide)) BK157.out (by decide)) (fun k_ hk => ⟨hk.2,hk.1.2⟩)).1 k_ hk_.symm) ?aF ?aO ?aB ?aS ?aL ?_; (case aP => exact k63_mkM _ _ _ (⟨(rd_T63 l0 x4_1).f0,(rd_T63 l0 x4_1).f1,(rd_T63 l0 x4_1).f2,(rd_T63 l0 x4_1).f3,y161⟩ : S63) (Kd.R_mono (Kd.R_tight rfl (Kd.R_mono (ok' := fun k_ => (fun k_ => k_ ≠ gb157) k_ ∧ some k_ ≠ (u3 : Value).ownBlock) (Kd.R_types (Kd.R_apart' (HO163.out) (Kd.S_typed HO_3.out) (by decide)) BK157.out (by decide)) (fun k_ hk => ⟨hk.2,hk.1.2⟩))) (fun _ h_ => h_))); (case aB => exact HB.out); (case aF => exact (fun k_ hk => Kd.freshB (g := gb157) (o := .cells #[.string ((rd_T63 l0 x4_1).f0),.int .i64 ((rd_T63 l0 x4_1).f1),.int .i64 ((rd_T63 l0 x4_1).f2),.int .i64 ((rd_T63 l0 x4_1).f3),.slice Ao14 y161.length co14] 63 (0,0)) (by exact BK157.out) k_ hk)); (case aO => exact (by exact Kd.S_mono HO_3.out (fun k_ hk => ⟨hk.2,fun e_ => hk.1 e_⟩))); (case aS => exact (below_size HB.out)); (case aL => have := LMc7.out; omega); intro v165 w18 ho hb hg hat; rw [← Ny164.out] at ho; have n0_ := Aside0.mk (blk_grown (g := gb157) (o := .cells #[.string ((rd_T63 l0 x4_1).f0),.int .i64 ((rd_T63 l0 x4_1).f1),.int .i64 ((rd_T63 l0 x4_1).f2),.int .i64 ((rd_T63 l0 x4_1).f3),.slice Ao14 y161.length co14] 63 (0,0)) (by exact BK157.out) hg (Kd.S_away HO_3.out (fun _ hk => hk.2))); have n1_ := Aside0.mk (hb); have n2_ := Aside0.mk (ho); clear BK157; clear HB; clear HO_3; clear HO163; have BK157 := n0_; have HB := n1_; have HO166 := n2_; clear n0_ n1_ n2_; clear ho hb hg hat))
       go_roundg k1
       case measure => have := HK1.out; omega
       case rel => exact ⟨(y164),(wrap64 (x4_1 + 1)),(by rfl),H',⟨by have := HK1.out; omega⟩,⟨by exact Kd.S_mono HO166.out (fun _ hk => trivial)⟩,⟨HB.out⟩⟩
      ·rw [if_neg c7] at H;exact absurd H (by simp)
     ·rw [if_neg c6] at H;exact absurd H (by simp)
    ·rw [if_neg c5] at H;exact absurd H (by simp)
   ·rw [if_neg c4] at H;have c4b0 : decide (x4_1 < (l0.length : Int)) = false := decide_eq_false c4;clear c4;obtain rfl := Option.some.inj H;go_wp2;go_ret;exact ⟨_,by rfl,by exact HO_3.out,HB.out⟩

/-! ### spec_l4With: function 93 -/
def spec_l4With.l0 : Nat → ByteArray → List (S63) → Int → Option (List (S63))
 | 0,_,_,_ => none
 | k + 1,x1,x5,x6 => if x6 > 0 then (if 0 ≤ (wrap64 (x6 - 1)) then (if (wrap64 (x6 - 1)) < (x5.length : Int) then (if (Op.bytesLess x1.toList (((rd_T63 x5 (wrap64 (x6 - 1))).f0).toList)) = true then (if 0 ≤ x6 then (if x6 < (x5.length : Int) then (spec_l4With.l0 k x1 (x5.set (x6 : Int).toNat (⟨(rd_T63 x5 (wrap64 (x6 - 1))).f0,(rd_T63 x5 (wrap64 (x6 - 1))).f1,(rd_T63 x5 (wrap64 (x6 - 1))).f2,(rd_T63 x5 (wrap64 (x6 - 1))).f3,(rd_T63 x5 (wrap64 (x6 - 1))).f4⟩ : S63)) (wrap64 (x6 - 1))) else (none)) else (none)) else (if 0 ≤ x6 then (if x6 < (x5.length : Int) then (some (x5.set (x6 : Int).toNat (⟨x1,0,0,0,([] : List (S65))⟩ : S63))) else (none)) else (none))) else (none)) else (none)) else (if 0 ≤ x6 then (if x6 < (x5.length : Int) then (some (x5.set (x6 : Int).toNat (⟨x1,0,0,0,([] : List (S65))⟩ : S63))) else (none)) else (none))
def spec_l4With.f (k : Nat) (l0 : List (S63)) (a1 : ByteArray) : Option (List (S63)) := (spec_l4Copy.f k l0).bind fun t167 => ((spec_AcctAt.f k l0 a1).bind fun t170 => (if t170 ≥ 0 then (some t167) else (if t167.length < 2199023255552 then ((some (t167 ++ [(⟨(⟨#[]⟩ : ByteArray),0,0,0,([] : List (S65))⟩ : S63)] : List (S63))).bind fun y171 => (spec_l4With.l0 k a1 y171 (wrap64 ((y171.length : Int) - 1)))) else (none))))
theorem spec_l4With.mono_l : ∀ k,(∀ y0 y1 y2,LeO (spec_l4With.l0 k y0 y1 y2) (spec_l4With.l0 (k + 1) y0 y1 y2))
 | 0 => fun _ _ _ r h => by simp [spec_l4With.l0] at h
 | k + 1 => by
  have ih0 := spec_l4With.mono_l k
  ·intro y0 y1 y2;unfold spec_l4With.l0
   repeat' first
   | (with_reducible exact ih0 _ _ _)
   | (with_reducible exact spec_AcctAt.mono _ _ _)
   | (with_reducible exact spec_l4Copy.mono _ _)
   | (with_reducible exact LeO.refl _)
   | (with_reducible exact LeO.none _)
   | (with_reducible refine LeO.ite ?_ ?_)
   | (with_reducible refine LeO.bind ?_ (fun _ => ?_))
   | exact ih0 _ _ _
   | exact spec_AcctAt.mono _ _ _
   | exact spec_l4Copy.mono _ _
   | exact LeO.none _
theorem spec_l4With.mono : ∀ a0 a1 k,LeO (spec_l4With.f k a0 a1) (spec_l4With.f (k + 1) a0 a1) := by
 intro a0 a1 k;have ih0 := spec_l4With.mono_l k;unfold spec_l4With.f
 repeat' first
   | (with_reducible exact ih0 _ _ _)
   | (with_reducible exact spec_AcctAt.mono _ _ _)
   | (with_reducible exact spec_l4Copy.mono _ _)
   | (with_reducible exact LeO.refl _)
   | (with_reducible exact LeO.none _)
   | (with_reducible refine LeO.ite ?_ ?_)
   | (with_reducible refine LeO.bind ?_ (fun _ => ?_))
   | exact ih0 _ _ _
   | exact spec_AcctAt.mono _ _ _
   | exact spec_l4Copy.mono _ _
   | exact LeO.none _
set_option maxHeartbeats 8000000 in
set_option maxRecDepth 100000 in
theorem spec_l4With.calls (k : Nat) (A0 : Option Addr) (c0 : Nat) (l0 : List (S63)) (a1 : ByteArray) (r : List (S63)) (w : World) (hr0 : Kd.C k63 w A0 l0.length l0) (hc0 : l0.length ≤ c0) (h : spec_l4With.f k l0 a1 = some r) :
  Calls Try.prog 93 #[.slice A0 l0.length c0,.string a1] w fun e w' => ∃ v0_ : Value,e = .returned (v0_) ∧ Kd.N k63 63 w' w.heap.size (fun k_ => (w.heap.size ≤ k_)) v0_ r ∧ Below w.heap.size w w' := by
 have hu63 := Try.underlying63;have HR0 := Aside0.mk hr0;have HC0 := Aside0.mk hc0;clear hr0 hc0;have HB := Aside0.mk (Below.refl w.heap.size w);have H : ((spec_l4Copy.f k l0).bind fun t167 => ((spec_AcctAt.f k l0 a1).bind fun t170 => (if t170 ≥ 0 then (some t167) else (if t167.length < 2199023255552 then ((some (t167 ++ [(⟨(⟨#[]⟩ : ByteArray),0,0,0,([] : List (S65))⟩ : S63)] : List (S63))).bind fun y171 => (spec_l4With.l0 k a1 y171 (wrap64 ((y171.length : Int) - 1)))) else (none))))) = some r := h;clear h;replace H := Option.bind_eq_some_iff.mp H;obtain ⟨t167,A30,H⟩ := H;replace H : ((spec_AcctAt.f k l0 a1).bind fun t170 => (if t170 ≥ 0 then (some t167) else (if t167.length < 2199023255552 then ((some (t167 ++ [(⟨(⟨#[]⟩ : ByteArray),0,0,0,([] : List (S65))⟩ : S63)] : List (S63))).bind fun y171 => (spec_l4With.l0 k a1 y171 (wrap64 ((y171.length : Int) - 1)))) else (none)))) = some r := H;have A3 := Aside0.mk A30;clear A30;replace H := Option.bind_eq_some_iff.mp H;obtain ⟨t170,A40,H⟩ := H;replace H : (if t170 ≥ 0 then (some t167) else (if t167.length < 2199023255552 then ((some (t167 ++ [(⟨(⟨#[]⟩ : ByteArray),0,0,0,([] : List (S65))⟩ : S63)] : List (S63))).bind fun y171 => (spec_l4With.l0 k a1 y171 (wrap64 ((y171.length : Int) - 1)))) else (none))) = some r := H;have A4 := Aside0.mk A40;clear A40
 by_cases c5 : t170 ≥ 0
 ·rw [if_pos c5] at H;have c5b0 : decide (0 ≤ t170) = true := decide_eq_true c5;clear c5;obtain rfl := Option.some.inj H;go_enter Try.func93,Try.ntmps93
  go_wp2_with (first | ((with_reducible refine gate_callee (f := 92) rfl ?_); refine goesL_ (some 8) rfl rfl Try.func92 (by kernel_rfl) rfl #[.slice A0 l0.length c0] rfl (by (try simp only [List.map_toArray,List.map_cons,List.map_nil]); rfl) ?_; (with_reducible refine (spec_l4Copy.calls k _ _ l0 t167 _ ?side1 ?side2 A3.out).mono ?_); (case side1 => repeat (exact HR0.out)); (case side2 => exact HC0.out); rintro e w6 ⟨v168,rfl,ho0,hb⟩; refine ⟨_,rfl,?_⟩; have n0_ := Aside0.mk (Kd.N_lower (Kd.N_mono (ok' := fun k_ => (w.heap.size ≤ k_)) (Kd.S_N (Kd.S_bound ho0)) (fun k_ hk_ => (Nat.le_trans (below_size HB.out) hk_.2.1))) (below_size HB.out)); have n1_ := Aside0.mk (below_step HB.out hb); clear HB; have HO169 := n0_; have HB := n1_; clear n0_ n1_; (try clear hb); (try clear ho0)) | ((with_reducible refine gate_callee (f := 60) rfl ?_); refine goesL_ (some 11) rfl rfl Try.func60 (by kernel_rfl) rfl #[.slice A0 l0.length c0,.string a1] rfl (by (try simp only [List.map_toArray,List.map_cons,List.map_nil]); rfl) ?_; (with_reducible refine (spec_AcctAt.calls k _ _ l0 a1 t170 _ ?side1 ?side2 A4.out).mono ?_); (case side1 => repeat (exact (Kd.C_below HR0.out HB.out))); (case side2 => exact HC0.out); rintro e w' ⟨rfl,⟨nd,rfl⟩⟩; refine ⟨_,rfl,?_⟩))
  go_ret;exact ⟨_,by rfl,by (with_reducible repeat (apply Kd.N_drewN)); exact HO169.out,by repeat (with_reducible first | exact HB.out | apply pw_below_drewN)⟩
 ·rw [if_neg c5] at H;have c5b0 : decide (0 ≤ t170) = false := decide_eq_false c5;clear c5
  by_cases c7 : t167.length < 2199023255552
  ·rw [if_pos c7] at H;have LMc7 := Aside0.mk c7;clear c7;obtain ⟨y171,hy171⟩ : ∃ y_ : List (S63),y_ = (t167 ++ [(⟨(⟨#[]⟩ : ByteArray),0,0,0,([] : List (S65))⟩ : S63)]) := ⟨_,rfl⟩
   replace H : (spec_l4With.l0 k a1 y171 (wrap64 ((y171.length : Int) - 1))) = some r := by (have H2_ := (Option.bind_some _ _).symm.trans H; rw [hy171]; with_reducible exact H2_)
   have Ny171 := Aside0.mk hy171;clear hy171;have H' := Aside0.mk H;clear H;go_enter Try.func93,Try.ntmps93
   go_wp2_with (first | ((with_reducible refine gate_callee (f := 92) rfl ?_); refine goesL_ (some 8) rfl rfl Try.func92 (by kernel_rfl) rfl #[.slice A0 l0.length c0] rfl (by (try simp only [List.map_toArray,List.map_cons,List.map_nil]); rfl) ?_; (with_reducible refine (spec_l4Copy.calls k _ _ l0 t167 _ ?side1 ?side2 A3.out).mono ?_); (case side1 => repeat (exact HR0.out)); (case side2 => exact HC0.out); rintro e w8 ⟨v168,rfl,ho0,hb⟩; refine ⟨_,rfl,?_⟩; have n0_ := Aside0.mk (Kd.N_lower (Kd.N_mono (ok' := fun k_ => (w.heap.size ≤ k_)) (Kd.S_N (Kd.S_bound ho0)) (fun k_ hk_ => (Nat.le_trans (below_size HB.out) hk_.2.1))) (below_size HB.out)); have n1_ := Aside0.mk (below_step HB.out hb); clear HB; have HO169 := n0_; have HB := n1_; clear n0_ n1_; (try clear hb); (try clear ho0)) | ((with_reducible refine gate_callee (f := 60) rfl ?_); refine goesL_ (some 11) rfl rfl Try.func60 (by kernel_rfl) rfl #[.slice A0 l0.length c0,.string a1] rfl (by (try simp only [List.map_toArray,List.map_cons,List.map_nil]); rfl) ?_; (with_reducible refine (spec_AcctAt.calls k _ _ l0 a1 t170 _ ?side1 ?side2 A4.out).mono ?_); (case side1 => repeat (exact (Kd.C_below HR0.out HB.out))); (case side2 => exact HC0.out); rintro e w' ⟨rfl,⟨nd,rfl⟩⟩; refine ⟨_,rfl,?_⟩) | ((with_reducible refine gate_builtin (b := .append) (xs := #[.tmp 14,.tmp 16]) rfl ?_); at_builtin; refine Kd.N_append k63 (w0 := w) w.heap.size rfl (.tmp 14) (.tmp 16) 29 63 (.agg #[(.string ⟨#[]⟩),(.int .i64 0),(.int .i64 0),(.int .i64 0),(.slice none 0 0)]) 64 rfl Try.underlying29 info63 rfl (by decide) (by omega) v168 t167 (⟨(⟨#[]⟩ : ByteArray),0,0,0,([] : List (S65))⟩ : S63) [.string (⟨#[]⟩ : ByteArray),.int .i64 0,.int .i64 0,.int .i64 0,.slice none 0 0] (fun k_ => (w.heap.size ≤ k_)) (fun k_ => (fun k_ => (w.heap.size ≤ k_)) k_ ∧ some k_ ≠ (v168 : Value).ownBlock) rfl rfl ?aP (fun _ hk => hk) ?aF ?aO ?aB ?aS ?aL ?_; (case aP => exact (k63_mkF _ _ (⟨(⟨#[]⟩ : ByteArray),0,0,0,([] : List (S65))⟩ : S63) (Nat.le_refl _) (Kd.F_nil _ _ _))); (case aB => exact (by repeat (with_reducible first | exact HB.out | apply pw_below_drewN))); (case aF => exact (fun k_ hk => (Nat.le_trans (below_size (by repeat (with_reducible first | exact HB.out | apply pw_below_drewN))) hk))); (case aO => exact (by (with_reducible repeat (apply Kd.N_drewN)); exact HO169.out)); (case aS => exact (below_size (by repeat (with_reducible first | exact HB.out | apply pw_below_drewN)))); (case aL => have := LMc7.out; omega); intro v172 w9 ho hb hg hat; rw [← Ny171.out] at ho; have n0_ := Aside0.mk (hb); have n1_ := Aside0.mk (ho); clear HB; clear HO169; have HB := n0_; have HO173 := n1_; clear n0_ n1_; clear ho hb hg hat; obtain ⟨Ao10,co10,eo10⟩ := Kd.N_slice HO173.out; subst eo10))
   go_loopg [6] k (fun kq v6 w' => ∃ (x5_1 : List (S63)) (x6_1 : Int),v6 = .int .i64 x6_1 ∧ Aside0 (spec_l4With.l0 kq a1 x5_1 x6_1 = some r) ∧ Aside0 (kq ≤ k) ∧ Aside0 (Kd.N k63 63 w' w.heap.size (fun k_ => (w.heap.size ≤ k_)) (.slice Ao10 y171.length co10) x5_1) ∧ Aside0 (Below w.heap.size w w'))
   case atStart => exact ⟨(y171),(wrap64 ((y171.length : Int) - 1)),(by rfl),H',⟨Nat.le_refl _⟩,⟨by exact HO173.out⟩,⟨HB.out⟩⟩
   case round =>
    clear H'
    try clear p2
    try clear c5
    try clear c5b0
    try clear c6
    try clear p6
    try clear c7
    try clear c9
    obtain ⟨x5_1,x6_1,rfl,HA,HK1,HO_5,HB⟩ := hrel;have hl5_1 := (Kd.N_reads' HO_5.out).1;rw [hl5_1] at HO_5
    (try simp only [hl5_1])
    cases gk with
    | zero => exact absurd HA.out (by simp [spec_l4With.l0])
    | succ k1 =>
     have H := HA.out;clear HA;simp only [spec_l4With.l0] at H
     by_cases c11 : x6_1 > 0
     ·rw [if_pos c11] at H;have c11b0 : decide (0 < x6_1) = true := decide_eq_true c11;clear c11;obtain ⟨ji12,hji12⟩ : ∃ j_ : Int,(wrap64 (x6_1 - 1)) = j_ := ⟨_,rfl⟩
      replace H : (if 0 ≤ (ji12) then (if (ji12) < (x5_1.length : Int) then (if (Op.bytesLess a1.toList (((rd_T63 x5_1 (ji12)).f0).toList)) = true then (if 0 ≤ x6_1 then (if x6_1 < (x5_1.length : Int) then (spec_l4With.l0 k1 a1 (x5_1.set (x6_1 : Int).toNat (⟨(rd_T63 x5_1 (ji12)).f0,(rd_T63 x5_1 (ji12)).f1,(rd_T63 x5_1 (ji12)).f2,(rd_T63 x5_1 (ji12)).f3,(rd_T63 x5_1 (ji12)).f4⟩ : S63)) ji12) else (none)) else (none)) else (if 0 ≤ x6_1 then (if x6_1 < (x5_1.length : Int) then (some (x5_1.set (x6_1 : Int).toNat (⟨a1,0,0,0,([] : List (S65))⟩ : S63))) else (none)) else (none))) else (none)) else (none)) = some r := by (rw [hji12] at H; exact H)
      have hji12w : (IntKind.i64.wrap (x6_1 - 1)) = ji12 := (i64_w _).trans hji12
      by_cases c13 : 0 ≤ (ji12)
      ·rw [if_pos c13] at H;have c13b0 : decide (0 ≤ (ji12)) = true := decide_eq_true c13;clear c13
       by_cases c14 : (ji12) < (x5_1.length : Int)
       ·rw [if_pos c14] at H;have c14b0 : decide ((ji12) < (x5_1.length : Int)) = true := decide_eq_true c14;clear c14
        by_cases c15 : (Op.bytesLess a1.toList (((rd_T63 x5_1 (ji12)).f0).toList)) = true
        ·rw [if_pos c15] at H;have c15b0 : (Op.bytesLess a1.toList (((rd_T63 x5_1 (ji12)).f0).toList)) = true := c15;clear c15
         by_cases c16 : 0 ≤ x6_1
         ·rw [if_pos c16] at H;have c16b0 : decide (0 ≤ x6_1) = true := decide_eq_true c16;clear c16
          by_cases c17 : x6_1 < (x5_1.length : Int)
          ·rw [if_pos c17] at H;have c17b0 : decide (x6_1 < (x5_1.length : Int)) = true := decide_eq_true c17;clear c17;obtain ⟨y176,hy176⟩ : ∃ y_ : List (S63),y_ = (x5_1.set (x6_1 : Int).toNat (⟨(rd_T63 x5_1 (ji12)).f0,(rd_T63 x5_1 (ji12)).f1,(rd_T63 x5_1 (ji12)).f2,(rd_T63 x5_1 (ji12)).f3,(rd_T63 x5_1 (ji12)).f4⟩ : S63)) := ⟨_,rfl⟩
           replace H : (spec_l4With.l0 k1 a1 y176 ji12) = some r := by (rw [hy176]; with_reducible exact H)
           have Ny176 := Aside0.mk hy176;clear hy176;have H' := Aside0.mk H;clear H;have p174 : 0 ≤ ((ji12) : Int) := of_decide_eq_true (by (with_reducible assumption));have q174 : (ji12) < (x5_1.length : Int) := of_decide_eq_true (by (with_reducible assumption));obtain ⟨ad174,A174_4,c174_4,e174,hx174_0,hx174_1,hx174_2,hx174_3,hx174_4,hl174_4,hi174_4⟩ := at_T63 (Kd.N_reads' HO_5.out).2.2 (ji12) p174 q174
           cases e174
           obtain ⟨ce174,hce174,hMe174,hcc174⟩ := Kd.N_get HO_5.out z63 (ji12) p174 (by exact q174);obtain ⟨ua174_4,uc174_4,rfl,ul174_4,ge174_4⟩ := k63_openF hMe174;have hv174_4 := hcc174 4 _ rfl;rw [add_field _ _ 4 (by omega)] at hv174_4;replace hv174_4 := Option.some.inj (hv174_4.symm.trans hx174_4)
           injection hv174_4 with hva_ hvn_ hvc_
           rw [hva_] at ge174_4;rw [hvc_] at ul174_4;have HL174_4 := Aside0.mk (show Kd.V k65 65 _ w.heap.size _ _ ((rd_T63 x5_1 (ji12)).f4) from Kd.V_mk ul174_4 ge174_4);clear hva_ hvn_ hvc_ ge174_4 ul174_4;clear hcc174 hce174;have HR174_4 := Aside0.mk hi174_4;have HC174_4 := Aside0.mk hl174_4;clear hi174_4 hl174_4;replace p174 := eq_true p174;replace q174 := eq_true q174;have p175 : 0 ≤ ((ji12) : Int) := of_decide_eq_true (by (with_reducible assumption));have q175 : (ji12) < (x5_1.length : Int) := of_decide_eq_true (by (with_reducible assumption));obtain ⟨ad175,A175_4,c175_4,e175,hx175_0,hx175_1,hx175_2,hx175_3,hx175_4,hl175_4,hi175_4⟩ := at_T63 (Kd.N_reads' HO_5.out).2.2 (ji12) p175 q175;obtain rfl : ad174 = ad175 := (by injection e175);obtain ⟨ce175,hce175,hMe175,hcc175⟩ := Kd.N_get HO_5.out z63 (ji12) p175 (by exact q175);obtain ⟨ua175_4,uc175_4,rfl,ul175_4,ge175_4⟩ := k63_openF hMe175;have hv175_4 := hcc175 4 _ rfl;rw [add_field _ _ 4 (by omega)] at hv175_4;replace hv175_4 := Option.some.inj (hv175_4.symm.trans hx175_4)
           injection hv175_4 with hva_ hvn_ hvc_
           rw [hva_] at ge175_4;rw [hvc_] at ul175_4;have HL175_4 := Aside0.mk (show Kd.V k65 65 _ w.heap.size _ _ ((rd_T63 x5_1 (ji12)).f4) from Kd.V_mk ul175_4 ge175_4);clear hva_ hvn_ hvc_ ge175_4 ul175_4;clear hcc175 hce175;have HR175_4 := Aside0.mk hi175_4;have HC175_4 := Aside0.mk hl175_4;clear hi175_4 hl175_4;replace p175 := eq_true p175;replace q175 := eq_true q175;have ea_ := Option.some.inj (hx174_4.symm.trans hx175_4)
           injection ea_ with ea_ en_ ec_
           subst ea_;subst ec_;clear en_;have p18 : 0 ≤ (x6_1 : Int) := of_decide_eq_true (by (with_reducible assumption));have q18 : (x6_1 : Int) < ((x5_1.length : Int) : Int) := of_decide_eq_true (by (with_reducible assumption));obtain ⟨go18,co18,eo18,gb18,gl18,cl18,HG18⟩ := Kd.N_form HO_5.out (by omega)
           (cases eo18)
           have GB18 := Aside0.mk gb18;have GG18 := Aside0.mk HG18;clear gb18 gl18 HG18
           (simp only [add_plain] at hx174_0)
           (simp only [add_plain] at hx174_1)
           (simp only [add_plain] at hx174_2)
           (simp only [add_plain] at hx174_3)
           (simp only [add_plain] at hx174_4)
           (simp only [add_plain] at hx175_0)
           (simp only [add_plain] at hx175_1)
           (simp only [add_plain] at hx175_2)
           (simp only [add_plain] at hx175_3)
           (simp only [add_plain] at hx175_4)
           obtain ⟨ce18,hcl18,hM18,hcc18,hfr18⟩ := Kd.N_elem HO_5.out z63 (x6_1 : Int) p18 q18;obtain ⟨ua18_4,uc18_4,rfl,ul18_4,ge18_4⟩ := k63_openF hM18;have hx18_0 : wr.cell? ⟨go18,(x6_1 : Int).toNat * 5,none⟩ = some (.string ((rd_T63 x5_1 x6_1).f0)) := hcc18 0 _ rfl;have hx18_1 : wr.cell? ⟨go18,(x6_1 : Int).toNat * 5 + 1,none⟩ = some (.int .i64 ((rd_T63 x5_1 x6_1).f1)) := hcc18 1 _ rfl;have hx18_2 : wr.cell? ⟨go18,(x6_1 : Int).toNat * 5 + 2,none⟩ = some (.int .i64 ((rd_T63 x5_1 x6_1).f2)) := hcc18 2 _ rfl;have hx18_3 : wr.cell? ⟨go18,(x6_1 : Int).toNat * 5 + 3,none⟩ = some (.int .i64 ((rd_T63 x5_1 x6_1).f3)) := hcc18 3 _ rfl;have hx18_4 : wr.cell? ⟨go18,(x6_1 : Int).toNat * 5 + 4,none⟩ = some (.slice ua18_4 ((rd_T63 x5_1 x6_1).f4).length uc18_4) := hcc18 4 _ rfl;have hf18_0 : wr.frozen? ⟨go18,(x6_1 : Int).toNat * 5,none⟩ = false := hfr18 0;have hf18_1 : wr.frozen? ⟨go18,(x6_1 : Int).toNat * 5 + 1,none⟩ = false := hfr18 1;have hf18_2 : wr.frozen? ⟨go18,(x6_1 : Int).toNat * 5 + 2,none⟩ = false := hfr18 2;have hf18_3 : wr.frozen? ⟨go18,(x6_1 : Int).toNat * 5 + 3,none⟩ = false := hfr18 3;have hf18_4 : wr.frozen? ⟨go18,(x6_1 : Int).toNat * 5 + 4,none⟩ = false := hfr18 4;clear hcl18 hcc18 hfr18 hM18;replace p18 := eq_true p18;replace q18 := eq_true q18;have HX19 := Aside0.mk (show Kd.N k63 63 wr w.heap.size (fun k_ => (w.heap.size ≤ k_)) (.slice (some ⟨go18,0,none⟩) x5_1.length co10) x5_1 from (by exact HO_5.out));obtain ⟨ce19,hcl19,hM19,hcc19,hfr19⟩ := Kd.N_elem HX19.out z63 (x6_1 : Int) (of_decide_eq_true (by (with_reducible assumption))) (by have h_ : (x6_1 : Int) < ((x5_1.length : Int) : Int) := of_decide_eq_true (by (with_reducible assumption)); exact h_);obtain ⟨ua19_4,uc19_4,rfl,ul19_4,ge19_4⟩ := k63_openF hM19;have HP19 := Kd.N_seg HX19.out (x6_1 : Int) (of_decide_eq_true (by (with_reducible assumption))) (by have h_ : (x6_1 : Int) < ((x5_1.length : Int) : Int) := of_decide_eq_true (by (with_reducible assumption)); exact h_) (seg := [.string ((rd_T63 x5_1 (ji12)).f0),.int .i64 ((rd_T63 x5_1 (ji12)).f1),.int .i64 ((rd_T63 x5_1 (ji12)).f2),.int .i64 ((rd_T63 x5_1 (ji12)).f3),.slice A174_4 ((rd_T63 x5_1 (ji12)).f4).length c174_4]) (j := 0) hcl19 hcc19 (show 5 ≤ 5 from by decide) (x' := (⟨(rd_T63 x5_1 (ji12)).f0,(rd_T63 x5_1 (ji12)).f1,(rd_T63 x5_1 (ji12)).f2,(rd_T63 x5_1 (ji12)).f3,(rd_T63 x5_1 (ji12)).f4⟩ : S63)) (k63_mkF _ _ (⟨(rd_T63 x5_1 (ji12)).f0,(rd_T63 x5_1 (ji12)).f1,(rd_T63 x5_1 (ji12)).f2,(rd_T63 x5_1 (ji12)).f3,(rd_T63 x5_1 (ji12)).f4⟩ : S63) (Kd.V_reads' (Kd.V_mono (ok' := (fun k_ => (fun k_ => (w.heap.size ≤ k_)) k_ ∧ k_ ≠ go18)) (HL175_4.out) (fun k_ hk => ⟨hk.1,fun e_ => (hk.2) (by rw [e_]; rfl)⟩))).2.1 (Kd.V_F (Kd.V_mono (ok' := (fun k_ => (fun k_ => (w.heap.size ≤ k_)) k_ ∧ k_ ≠ go18)) (HL175_4.out) (fun k_ hk => ⟨hk.1,fun e_ => (hk.2) (by rw [e_]; rfl)⟩)))) (fun _ hk => hk);have hx19_0 := hcc19 0 _ rfl
           (try simp only [show (k63).sz = 5 from rfl,Nat.mul_one,Nat.add_zero] at hx19_0)
           have hf19_0 := hfr19 0
           (try simp only [show (k63).sz = 5 from rfl,Nat.mul_one,Nat.add_zero] at hf19_0)
           have hx19_1 := hcc19 1 _ rfl
           (try simp only [show (k63).sz = 5 from rfl,Nat.mul_one,Nat.add_zero] at hx19_1)
           have hf19_1 := hfr19 1
           (try simp only [show (k63).sz = 5 from rfl,Nat.mul_one,Nat.add_zero] at hf19_1)
           have hx19_2 := hcc19 2 _ rfl
           (try simp only [show (k63).sz = 5 from rfl,Nat.mul_one,Nat.add_zero] at hx19_2)
           have hf19_2 := hfr19 2
           (try simp only [show (k63).sz = 5 from rfl,Nat.mul_one,Nat.add_zero] at hf19_2)
           have hx19_3 := hcc19 3 _ rfl
           (try simp only [show (k63).sz = 5 from rfl,Nat.mul_one,Nat.add_zero] at hx19_3)
           have hf19_3 := hfr19 3
           (try simp only [show (k63).sz = 5 from rfl,Nat.mul_one,Nat.add_zero] at hf19_3)
           have hx19_4 := hcc19 4 _ rfl
           (try simp only [show (k63).sz = 5 from rfl,Nat.mul_one,Nat.add_zero] at hx19_4)
           have hf19_4 := hfr19 4
           (try simp only [show (k63).sz = 5 from rfl,Nat.mul_one,Nat.add_zero] at hf19_4)
           clear hcl19 hcc19 hfr19 hM19
           go_wp2_with (((with_reducible refine gate_store (t := 63) (p := 40) rfl ?_); refine store_event (t := 63) (p := 40) (v := ?vo_w20) (w1 := (((((wr.setCell ⟨go18,(x6_1 : Int).toNat * 5,none⟩ (.string ((rd_T63 x5_1 (ji12)).f0))).setCell ⟨go18,(x6_1 : Int).toNat * 5 + 1,none⟩ (.int .i64 ((rd_T63 x5_1 (ji12)).f1))).setCell ⟨go18,(x6_1 : Int).toNat * 5 + 2,none⟩ (.int .i64 ((rd_T63 x5_1 (ji12)).f2))).setCell ⟨go18,(x6_1 : Int).toNat * 5 + 3,none⟩ (.int .i64 ((rd_T63 x5_1 (ji12)).f3))).setCell ⟨go18,(x6_1 : Int).toNat * 5 + 4,none⟩ (.slice A174_4 ((rd_T63 x5_1 (ji12)).f4).length c174_4))) ?hg ?ho ?hn ?hr ?_; (case ho => rfl); (case hg => rfl); (case hn => rfl); (case hr => (go_simp; done)); intro w20 hw; have hg : wr.grownBy w20 (some go18) := (by rw [hw]; exact HP19.2); have hp_ : Kd.N k63 63 w20 w.heap.size (fun k_ => (w.heap.size ≤ k_)) (.slice (some ⟨go18,0,none⟩) x5_1.length co10) y176 := (by rw [hw,Ny176.out]; exact HP19.1); clear HP19; have n0_ := Aside0.mk (hp_); have n1_ := Aside0.mk (Kd.V_afterv (v := (.slice (some ⟨go18,0,none⟩) x5_1.length co10)) (v1 := (.slice (some ⟨go18,0,none⟩) x5_1.length co10)) (ok := (fun k_ => (w.heap.size ≤ k_))) (by exact HL174_4.out) hg (.inl rfl)); have n2_ := Aside0.mk (Kd.V_afterv (v := (.slice (some ⟨go18,0,none⟩) x5_1.length co10)) (v1 := (.slice (some ⟨go18,0,none⟩) x5_1.length co10)) (ok := (fun k_ => (w.heap.size ≤ k_))) (by exact HL175_4.out) hg (.inl rfl)); have n3_ := Aside0.mk (by rw [hw]; exact below_set (below_set (below_set (below_set (below_set (HB.out) GB18.out) GB18.out) GB18.out) GB18.out) GB18.out : Below w.heap.size w w20); clear HO_5; clear HL174_4; clear HL175_4; clear HB; have HO_5 := n0_; have HL174_4 := n1_; have HL175_4 := n2_; have HB := n3_; clear n0_ n1_ n2_ n3_; clear hg hw hp_))
           (try simp only [← hl5_1])
           go_roundg k1
           case measure => have := HK1.out; omega
           case rel => exact ⟨(y176),(ji12),(by rfl),H',⟨by have := HK1.out; omega⟩,⟨by (try simp only [hl5_1]); exact HO_5.out⟩,⟨HB.out⟩⟩
          ·rw [if_neg c17] at H;exact absurd H (by simp)
         ·rw [if_neg c16] at H;exact absurd H (by simp)
        ·rw [if_neg c15] at H
         have c15b0 : (Op.bytesLess a1.toList (((rd_T63 x5_1 (ji12)).f0).toList)) = false := by simpa using c15
         clear c15
         by_cases c21 : 0 ≤ x6_1
         ·rw [if_pos c21] at H;have c21b0 : decide (0 ≤ x6_1) = true := decide_eq_true c21;clear c21
          by_cases c22 : x6_1 < (x5_1.length : Int)
          ·rw [if_pos c22] at H;have c22b0 : decide (x6_1 < (x5_1.length : Int)) = true := decide_eq_true c22;clear c22;obtain ⟨y177,hy177⟩ : ∃ y_ : List (S63),y_ = (x5_1.set (x6_1 : Int).toNat (⟨a1,0,0,0,([] : List (S65))⟩ : S63)) := ⟨_,rfl⟩
           replace H : (some y177) = some r := by (rw [hy177]; with_reducible exact H)
           have Ny177 := Aside0.mk hy177;clear hy177;obtain rfl := Option.some.inj H;have p174 : 0 ≤ ((ji12) : Int) := of_decide_eq_true (by (with_reducible assumption));have q174 : (ji12) < (x5_1.length : Int) := of_decide_eq_true (by (with_reducible assumption));obtain ⟨ad174,A174_4,c174_4,e174,hx174_0,hx174_1,hx174_2,hx174_3,hx174_4,hl174_4,hi174_4⟩ := at_T63 (Kd.N_reads' HO_5.out).2.2 (ji12) p174 q174
           cases e174
           obtain ⟨ce174,hce174,hMe174,hcc174⟩ := Kd.N_get HO_5.out z63 (ji12) p174 (by exact q174);obtain ⟨ua174_4,uc174_4,rfl,ul174_4,ge174_4⟩ := k63_openF hMe174;have hv174_4 := hcc174 4 _ rfl;rw [add_field _ _ 4 (by omega)] at hv174_4;replace hv174_4 := Option.some.inj (hv174_4.symm.trans hx174_4)
           injection hv174_4 with hva_ hvn_ hvc_
           rw [hva_] at ge174_4;rw [hvc_] at ul174_4;have HL174_4 := Aside0.mk (show Kd.V k65 65 _ w.heap.size _ _ ((rd_T63 x5_1 (ji12)).f4) from Kd.V_mk ul174_4 ge174_4);clear hva_ hvn_ hvc_ ge174_4 ul174_4;clear hcc174 hce174;have HR174_4 := Aside0.mk hi174_4;have HC174_4 := Aside0.mk hl174_4;clear hi174_4 hl174_4;replace p174 := eq_true p174;replace q174 := eq_true q174;have p23 : 0 ≤ (x6_1 : Int) := of_decide_eq_true (by (with_reducible assumption));have q23 : (x6_1 : Int) < ((x5_1.length : Int) : Int) := of_decide_eq_true (by (with_reducible assumption));obtain ⟨go23,co23,eo23,gb23,gl23,cl23,HG23⟩ := Kd.N_form HO_5.out (by omega)
           (cases eo23)
           have GB23 := Aside0.mk gb23;have GG23 := Aside0.mk HG23;clear gb23 gl23 HG23
           (simp only [add_plain] at hx174_0)
           (simp only [add_plain] at hx174_1)
           (simp only [add_plain] at hx174_2)
           (simp only [add_plain] at hx174_3)
           (simp only [add_plain] at hx174_4)
           obtain ⟨ce23,hcl23,hM23,hcc23,hfr23⟩ := Kd.N_elem HO_5.out z63 (x6_1 : Int) p23 q23;obtain ⟨ua23_4,uc23_4,rfl,ul23_4,ge23_4⟩ := k63_openF hM23;have hx23_0 : wr.cell? ⟨go23,(x6_1 : Int).toNat * 5,none⟩ = some (.string ((rd_T63 x5_1 x6_1).f0)) := hcc23 0 _ rfl;have hx23_1 : wr.cell? ⟨go23,(x6_1 : Int).toNat * 5 + 1,none⟩ = some (.int .i64 ((rd_T63 x5_1 x6_1).f1)) := hcc23 1 _ rfl;have hx23_2 : wr.cell? ⟨go23,(x6_1 : Int).toNat * 5 + 2,none⟩ = some (.int .i64 ((rd_T63 x5_1 x6_1).f2)) := hcc23 2 _ rfl;have hx23_3 : wr.cell? ⟨go23,(x6_1 : Int).toNat * 5 + 3,none⟩ = some (.int .i64 ((rd_T63 x5_1 x6_1).f3)) := hcc23 3 _ rfl;have hx23_4 : wr.cell? ⟨go23,(x6_1 : Int).toNat * 5 + 4,none⟩ = some (.slice ua23_4 ((rd_T63 x5_1 x6_1).f4).length uc23_4) := hcc23 4 _ rfl;have hf23_0 : wr.frozen? ⟨go23,(x6_1 : Int).toNat * 5,none⟩ = false := hfr23 0;have hf23_1 : wr.frozen? ⟨go23,(x6_1 : Int).toNat * 5 + 1,none⟩ = false := hfr23 1;have hf23_2 : wr.frozen? ⟨go23,(x6_1 : Int).toNat * 5 + 2,none⟩ = false := hfr23 2;have hf23_3 : wr.frozen? ⟨go23,(x6_1 : Int).toNat * 5 + 3,none⟩ = false := hfr23 3;have hf23_4 : wr.frozen? ⟨go23,(x6_1 : Int).toNat * 5 + 4,none⟩ = false := hfr23 4;clear hcl23 hcc23 hfr23 hM23;replace p23 := eq_true p23;replace q23 := eq_true q23;have HX24 := Aside0.mk (show Kd.N k63 63 wr w.heap.size (fun k_ => (w.heap.size ≤ k_)) (.slice (some ⟨go23,0,none⟩) x5_1.length co10) x5_1 from (by exact HO_5.out));obtain ⟨ce24,hcl24,hM24,hcc24,hfr24⟩ := Kd.N_elem HX24.out z63 (x6_1 : Int) (of_decide_eq_true (by (with_reducible assumption))) (by have h_ : (x6_1 : Int) < ((x5_1.length : Int) : Int) := of_decide_eq_true (by (with_reducible assumption)); exact h_);obtain ⟨ua24_4,uc24_4,rfl,ul24_4,ge24_4⟩ := k63_openF hM24;have HP24 := Kd.N_seg HX24.out (x6_1 : Int) (of_decide_eq_true (by (with_reducible assumption))) (by have h_ : (x6_1 : Int) < ((x5_1.length : Int) : Int) := of_decide_eq_true (by (with_reducible assumption)); exact h_) (seg := [.string a1,.int .i64 0,.int .i64 0,.int .i64 0,.slice none 0 0]) (j := 0) hcl24 hcc24 (show 5 ≤ 5 from by decide) (x' := (⟨a1,0,0,0,([] : List (S65))⟩ : S63)) (k63_mkF _ _ (⟨a1,0,0,0,([] : List (S65))⟩ : S63) (Nat.le_refl _) (Kd.F_nil _ _ _)) (fun _ hk => hk);have hx24_0 := hcc24 0 _ rfl
           (try simp only [show (k63).sz = 5 from rfl,Nat.mul_one,Nat.add_zero] at hx24_0)
           have hf24_0 := hfr24 0
           (try simp only [show (k63).sz = 5 from rfl,Nat.mul_one,Nat.add_zero] at hf24_0)
           have hx24_1 := hcc24 1 _ rfl
           (try simp only [show (k63).sz = 5 from rfl,Nat.mul_one,Nat.add_zero] at hx24_1)
           have hf24_1 := hfr24 1
           (try simp only [show (k63).sz = 5 from rfl,Nat.mul_one,Nat.add_zero] at hf24_1)
           have hx24_2 := hcc24 2 _ rfl
           (try simp only [show (k63).sz = 5 from rfl,Nat.mul_one,Nat.add_zero] at hx24_2)
           have hf24_2 := hfr24 2
           (try simp only [show (k63).sz = 5 from rfl,Nat.mul_one,Nat.add_zero] at hf24_2)
           have hx24_3 := hcc24 3 _ rfl
           (try simp only [show (k63).sz = 5 from rfl,Nat.mul_one,Nat.add_zero] at hx24_3)
           have hf24_3 := hfr24 3
           (try simp only [show (k63).sz = 5 from rfl,Nat.mul_one,Nat.add_zero] at hf24_3)
           have hx24_4 := hcc24 4 _ rfl
           (try simp only [show (k63).sz = 5 from rfl,Nat.mul_one,Nat.add_zero] at hx24_4)
           have hf24_4 := hfr24 4
           (try simp only [show (k63).sz = 5 from rfl,Nat.mul_one,Nat.add_zero] at hf24_4)
           clear hcl24 hcc24 hfr24 hM24
           go_wp2_with (((with_reducible refine gate_store (t := 63) (p := 47) rfl ?_); refine store_event (t := 63) (p := 47) (v := ?vo_w25) (w1 := (((((wr.setCell ⟨go23,(x6_1 : Int).toNat * 5,none⟩ (.string a1)).setCell ⟨go23,(x6_1 : Int).toNat * 5 + 1,none⟩ (.int .i64 0)).setCell ⟨go23,(x6_1 : Int).toNat * 5 + 2,none⟩ (.int .i64 0)).setCell ⟨go23,(x6_1 : Int).toNat * 5 + 3,none⟩ (.int .i64 0)).setCell ⟨go23,(x6_1 : Int).toNat * 5 + 4,none⟩ (.slice none 0 0))) ?hg ?ho ?hn ?hr ?_; (case ho => rfl); (case hg => rfl); (case hn => rfl); (case hr => (go_simp; done)); intro w25 hw; have hg : wr.grownBy w25 (some go23) := (by rw [hw]; exact HP24.2); have hp_ : Kd.N k63 63 w25 w.heap.size (fun k_ => (w.heap.size ≤ k_)) (.slice (some ⟨go23,0,none⟩) x5_1.length co10) y177 := (by rw [hw,Ny177.out]; exact HP24.1); clear HP24; have n0_ := Aside0.mk (hp_); have n1_ := Aside0.mk (Kd.V_afterv (v := (.slice (some ⟨go23,0,none⟩) x5_1.length co10)) (v1 := (.slice (some ⟨go23,0,none⟩) x5_1.length co10)) (ok := (fun k_ => (w.heap.size ≤ k_))) (by exact HL174_4.out) hg (.inl rfl)); have n2_ := Aside0.mk (by rw [hw]; exact below_set (below_set (below_set (below_set (below_set (HB.out) GB23.out) GB23.out) GB23.out) GB23.out) GB23.out : Below w.heap.size w w25); clear HO_5; clear HL174_4; clear HB; have HO_5 := n0_; have HL174_4 := n1_; have HB := n2_; clear n0_ n1_ n2_; clear hg hw hp_))
           go_ret;exact ⟨_,by rfl,by exact HO_5.out,HB.out⟩
          ·rw [if_neg c22] at H;exact absurd H (by simp)
         ·rw [if_neg c21] at H;exact absurd H (by simp)
       ·rw [if_neg c14] at H;exact absurd H (by simp)
      ·rw [if_neg c13] at H;exact absurd H (by simp)
     ·rw [if_neg c11] at H;have c11b0 : decide (0 < x6_1) = false := decide_eq_false c11;clear c11
      by_cases c26 : 0 ≤ x6_1
      ·rw [if_pos c26] at H;have c26b0 : decide (0 ≤ x6_1) = true := decide_eq_true c26;clear c26
       by_cases c27 : x6_1 < (x5_1.length : Int)
       ·rw [if_pos c27] at H;have c27b0 : decide (x6_1 < (x5_1.length : Int)) = true := decide_eq_true c27;clear c27;obtain ⟨y178,hy178⟩ : ∃ y_ : List (S63),y_ = (x5_1.set (x6_1 : Int).toNat (⟨a1,0,0,0,([] : List (S65))⟩ : S63)) := ⟨_,rfl⟩
        replace H : (some y178) = some r := by (rw [hy178]; with_reducible exact H)
        have Ny178 := Aside0.mk hy178;clear hy178;obtain rfl := Option.some.inj H;have p28 : 0 ≤ (x6_1 : Int) := of_decide_eq_true (by (with_reducible assumption));have q28 : (x6_1 : Int) < ((x5_1.length : Int) : Int) := of_decide_eq_true (by (with_reducible assumption));obtain ⟨go28,co28,eo28,gb28,gl28,cl28,HG28⟩ := Kd.N_form HO_5.out (by omega)
        (cases eo28)
        have GB28 := Aside0.mk gb28;have GG28 := Aside0.mk HG28;clear gb28 gl28 HG28;obtain ⟨ce28,hcl28,hM28,hcc28,hfr28⟩ := Kd.N_elem HO_5.out z63 (x6_1 : Int) p28 q28;obtain ⟨ua28_4,uc28_4,rfl,ul28_4,ge28_4⟩ := k63_openF hM28;have hx28_0 : wr.cell? ⟨go28,(x6_1 : Int).toNat * 5,none⟩ = some (.string ((rd_T63 x5_1 x6_1).f0)) := hcc28 0 _ rfl;have hx28_1 : wr.cell? ⟨go28,(x6_1 : Int).toNat * 5 + 1,none⟩ = some (.int .i64 ((rd_T63 x5_1 x6_1).f1)) := hcc28 1 _ rfl;have hx28_2 : wr.cell? ⟨go28,(x6_1 : Int).toNat * 5 + 2,none⟩ = some (.int .i64 ((rd_T63 x5_1 x6_1).f2)) := hcc28 2 _ rfl;have hx28_3 : wr.cell? ⟨go28,(x6_1 : Int).toNat * 5 + 3,none⟩ = some (.int .i64 ((rd_T63 x5_1 x6_1).f3)) := hcc28 3 _ rfl;have hx28_4 : wr.cell? ⟨go28,(x6_1 : Int).toNat * 5 + 4,none⟩ = some (.slice ua28_4 ((rd_T63 x5_1 x6_1).f4).length uc28_4) := hcc28 4 _ rfl;have hf28_0 : wr.frozen? ⟨go28,(x6_1 : Int).toNat * 5,none⟩ = false := hfr28 0;have hf28_1 : wr.frozen? ⟨go28,(x6_1 : Int).toNat * 5 + 1,none⟩ = false := hfr28 1;have hf28_2 : wr.frozen? ⟨go28,(x6_1 : Int).toNat * 5 + 2,none⟩ = false := hfr28 2;have hf28_3 : wr.frozen? ⟨go28,(x6_1 : Int).toNat * 5 + 3,none⟩ = false := hfr28 3;have hf28_4 : wr.frozen? ⟨go28,(x6_1 : Int).toNat * 5 + 4,none⟩ = false := hfr28 4;clear hcl28 hcc28 hfr28 hM28;replace p28 := eq_true p28;replace q28 := eq_true q28;have HX29 := Aside0.mk (show Kd.N k63 63 wr w.heap.size (fun k_ => (w.heap.size ≤ k_)) (.slice (some ⟨go28,0,none⟩) x5_1.length co10) x5_1 from (by exact HO_5.out));obtain ⟨ce29,hcl29,hM29,hcc29,hfr29⟩ := Kd.N_elem HX29.out z63 (x6_1 : Int) (of_decide_eq_true (by (with_reducible assumption))) (by have h_ : (x6_1 : Int) < ((x5_1.length : Int) : Int) := of_decide_eq_true (by (with_reducible assumption)); exact h_);obtain ⟨ua29_4,uc29_4,rfl,ul29_4,ge29_4⟩ := k63_openF hM29;have HP29 := Kd.N_seg HX29.out (x6_1 : Int) (of_decide_eq_true (by (with_reducible assumption))) (by have h_ : (x6_1 : Int) < ((x5_1.length : Int) : Int) := of_decide_eq_true (by (with_reducible assumption)); exact h_) (seg := [.string a1,.int .i64 0,.int .i64 0,.int .i64 0,.slice none 0 0]) (j := 0) hcl29 hcc29 (show 5 ≤ 5 from by decide) (x' := (⟨a1,0,0,0,([] : List (S65))⟩ : S63)) (k63_mkF _ _ (⟨a1,0,0,0,([] : List (S65))⟩ : S63) (Nat.le_refl _) (Kd.F_nil _ _ _)) (fun _ hk => hk);have hx29_0 := hcc29 0 _ rfl
        (try simp only [show (k63).sz = 5 from rfl,Nat.mul_one,Nat.add_zero] at hx29_0)
        have hf29_0 := hfr29 0
        (try simp only [show (k63).sz = 5 from rfl,Nat.mul_one,Nat.add_zero] at hf29_0)
        have hx29_1 := hcc29 1 _ rfl
        (try simp only [show (k63).sz = 5 from rfl,Nat.mul_one,Nat.add_zero] at hx29_1)
        have hf29_1 := hfr29 1
        (try simp only [show (k63).sz = 5 from rfl,Nat.mul_one,Nat.add_zero] at hf29_1)
        have hx29_2 := hcc29 2 _ rfl
        (try simp only [show (k63).sz = 5 from rfl,Nat.mul_one,Nat.add_zero] at hx29_2)
        have hf29_2 := hfr29 2
        (try simp only [show (k63).sz = 5 from rfl,Nat.mul_one,Nat.add_zero] at hf29_2)
        have hx29_3 := hcc29 3 _ rfl
        (try simp only [show (k63).sz = 5 from rfl,Nat.mul_one,Nat.add_zero] at hx29_3)
        have hf29_3 := hfr29 3
        (try simp only [show (k63).sz = 5 from rfl,Nat.mul_one,Nat.add_zero] at hf29_3)
        have hx29_4 := hcc29 4 _ rfl
        (try simp only [show (k63).sz = 5 from rfl,Nat.mul_one,Nat.add_zero] at hx29_4)
        have hf29_4 := hfr29 4
        (try simp only [show (k63).sz = 5 from rfl,Nat.mul_one,Nat.add_zero] at hf29_4)
        clear hcl29 hcc29 hfr29 hM29
        go_wp2_with (((with_reducible refine gate_store (t := 63) (p := 47) rfl ?_); refine store_event (t := 63) (p := 47) (v := ?vo_w30) (w1 := (((((wr.setCell ⟨go28,(x6_1 : Int).toNat * 5,none⟩ (.string a1)).setCell ⟨go28,(x6_1 : Int).toNat * 5 + 1,none⟩ (.int .i64 0)).setCell ⟨go28,(x6_1 : Int).toNat * 5 + 2,none⟩ (.int .i64 0)).setCell ⟨go28,(x6_1 : Int).toNat * 5 + 3,none⟩ (.int .i64 0)).setCell ⟨go28,(x6_1 : Int).toNat * 5 + 4,none⟩ (.slice none 0 0))) ?hg ?ho ?hn ?hr ?_; (case ho => rfl); (case hg => rfl); (case hn => rfl); (case hr => (go_simp; done)); intro w30 hw; have hg : wr.grownBy w30 (some go28) := (by rw [hw]; exact HP29.2); have hp_ : Kd.N k63 63 w30 w.heap.size (fun k_ => (w.heap.size ≤ k_)) (.slice (some ⟨go28,0,none⟩) x5_1.length co10) y178 := (by rw [hw,Ny178.out]; exact HP29.1); clear HP29; have n0_ := Aside0.mk (hp_); have n1_ := Aside0.mk (by rw [hw]; exact below_set (below_set (below_set (below_set (below_set (HB.out) GB28.out) GB28.out) GB28.out) GB28.out) GB28.out : Below w.heap.size w w30); clear HO_5; clear HB; have HO_5 := n0_; have HB := n1_; clear n0_ n1_; clear hg hw hp_))
        go_ret;exact ⟨_,by rfl,by exact HO_5.out,HB.out⟩
       ·rw [if_neg c27] at H;exact absurd H (by simp)
      ·rw [if_neg c26] at H;exact absurd H (by simp)
  ·rw [if_neg c7] at H;exact absurd H (by simp)

/-! ### spec_Credit: function 42 -/
def spec_Credit.f (k : Nat) (l0 : List S63) (nm : ByteArray) (n : Int) : Option (List S63 × Bool) :=
 (spec_AcctsOk.f k l0).bind fun q0 => (if q0 = true then spec_NameOk.f k nm else some false).bind fun q1 => (if q1 = true then spec_l1In.f n 0 1000000 else some false).bind fun q2 => if q2 = true then ((spec_l4With.f k l0 nm).bind fun y => (spec_AcctAt.f k y nm).bind fun a => if 0 ≤ a ∧ a < (y.length : Int) then (spec_AcctsOk.f k (y.set a.toNat ⟨(y.getD a.toNat z63).f0,wrap64 ((y.getD a.toNat z63).f1 + n),(y.getD a.toNat z63).f2,(y.getD a.toNat z63).f3,(y.getD a.toNat z63).f4⟩)).bind fun q => if q = true then some (y.set a.toNat ⟨(y.getD a.toNat z63).f0,wrap64 ((y.getD a.toNat z63).f1 + n),(y.getD a.toNat z63).f2,(y.getD a.toNat z63).f3,(y.getD a.toNat z63).f4⟩,true) else (spec_l4Copy.f k l0).bind fun x => some (x,false) else none) else (spec_l4Copy.f k l0).bind fun x => some (x,false)
theorem spec_Credit.mono : ∀ a0 a1 a2 k,LeO (spec_Credit.f k a0 a1 a2) (spec_Credit.f (k + 1) a0 a1 a2) := by
 intro a0 a1 a2 k;unfold spec_Credit.f
 repeat' first
   | (with_reducible exact spec_AcctsOk.mono _ _)
   | (with_reducible exact spec_NameOk.mono _ _)
   | (with_reducible exact spec_l4Copy.mono _ _)
   | (with_reducible exact spec_l4With.mono _ _ _)
   | (with_reducible exact spec_AcctAt.mono _ _ _)
   | (with_reducible exact LeO.refl _)
   | (with_reducible exact LeO.none _)
   | (with_reducible refine LeO.ite ?_ ?_)
   | (with_reducible refine LeO.bind ?_ (fun _ => ?_))
theorem spec_Credit.put {W : World} {base g n c : Nat} {ok : Nat → Prop} {xs : List S63} (h : Kd.N k63 63 W base ok (.slice (some ⟨g,0,none⟩) n c) xs) (j : Nat) (hj : j < xs.length) (u : Int) :
  Kd.N k63 63 (W.setCell ⟨g,j * 5 + 1,none⟩ (.int .i64 u)) base ok (.slice (some ⟨g,0,none⟩) n c) (xs.set j ⟨(xs.getD j z63).f0,u,(xs.getD j z63).f2,(xs.getD j z63).f3,(xs.getD j z63).f4⟩) ∧ W.cell? ⟨g,j * 5 + 1,none⟩ = some (.int .i64 (xs.getD j z63).f1) ∧ W.frozen? ⟨g,j * 5 + 1,none⟩ = false := by
 have hn := (Kd.N_reads' h).1;obtain ⟨cs,hcl,hM,hcc,hfr⟩ := Kd.N_elem h z63 (j : Int) (by omega) (by omega);rw [Int.toNat_natCast] at hM;obtain ⟨A4,c4,rfl,hl4,hF4⟩ := k63_openF hM;have hP := Kd.N_seg h (j : Int) (by omega) (by omega) (seg := [.int .i64 u]) (j := 1) rfl hcc (show 2 ≤ 5 from by decide) (x' := (⟨(xs.getD j z63).f0,u,(xs.getD j z63).f2,(xs.getD j z63).f3,(xs.getD j z63).f4⟩ : S63)) (k63_mkF _ _ (⟨(xs.getD j z63).f0,u,(xs.getD j z63).f2,(xs.getD j z63).f3,(xs.getD j z63).f4⟩ : S63) hl4 hF4) (fun _ hk => hk);exact ⟨hP.1,hcc 1 _ rfl,hfr 1⟩
set_option maxHeartbeats 8000000 in
set_option maxRecDepth 100000 in
theorem spec_Credit.calls (k : Nat) (A0 : Option Addr) (c0 : Nat) (l0 : List S63) (nm : ByteArray) (n : Int) (r1 : List S63) (r2 : Bool) (w : World) (hr0 : Kd.C k63 w A0 l0.length l0) (hc0 : l0.length ≤ c0) (h : spec_Credit.f k l0 nm n = some (r1,r2)) :
  Calls Try.prog 42 #[.slice A0 l0.length c0,.string nm,.int .i64 n] w fun e w' => ∃ v0_ : Value,e = .returned (.tuple #[v0_,.bool r2]) ∧ Kd.N k63 63 w' w.heap.size (fun k_ => w.heap.size ≤ k_) v0_ r1 ∧ Below w.heap.size w w' := by
 have HR := Aside0.mk hr0;have HC := Aside0.mk hc0;have HB_0 := Aside0.mk (Below.refl w.heap.size w);unfold spec_Credit.f at h;obtain ⟨q0,hq0,h⟩ := Option.bind_eq_some_iff.mp h;obtain ⟨q1,hq1,h⟩ := Option.bind_eq_some_iff.mp h;obtain ⟨q2,hq2,h⟩ := Option.bind_eq_some_iff.mp h;have HQ0 := Aside0.mk hq0;clear hr0 hc0 hq0
 cases q0 with
 | false =>
  rw [if_neg (by simp)] at hq1;obtain rfl := Option.some.inj hq1;rw [if_neg (by simp)] at hq2;obtain rfl := Option.some.inj hq2;rw [if_neg (by simp)] at h;clear hq1 hq2;obtain ⟨x,hx,h⟩ := Option.bind_eq_some_iff.mp h;have HX := Aside0.mk hx
  obtain ⟨rfl,rfl⟩ : x = r1 ∧ false = r2 := by injection h with h; injection h with h1 h2; exact ⟨h1,h2⟩
  clear h hx;go_enter Try.func42,Try.ntmps42
  go_wp2_with (first | (go_at_call 89; refine (spec_AcctsOk.calls k _ _ l0 false _ ?s1 ?s2 HQ0.out).mono ?_; (case s1 => exact Kd.C_below HR.out HB_0.out); (case s2 => exact HC.out); rintro e w1 ⟨rfl,hb⟩; have HB_1 := Aside0.mk (below_step HB_0.out hb); clear hb) | (go_at_call 92; refine (spec_l4Copy.calls k _ _ l0 x _ ?s1 ?s2 HX.out).mono ?_; (case s1 => exact Kd.C_below HR.out HB_1.out); (case s2 => exact HC.out); rintro e w2 ⟨v2,rfl,hS,hb⟩; obtain ⟨A2,c2,rfl⟩ := Kd.S_slice hS; have HS := Aside0.mk (Kd.S_lower hS (below_size HB_1.out)); have HB_2 := Aside0.mk (below_step HB_1.out hb); clear hS hb))
  go_ret2
  exact ⟨_,rfl,Kd.S_N (Kd.S_mono (Kd.S_bound HS.out) (fun k_ hk_ => hk_.2.1)),HB_2.out⟩
 | true =>
  rw [if_pos rfl] at hq1;have HQ1 := Aside0.mk hq1;clear hq1
  cases q1 with
  | false =>
   rw [if_neg (by simp)] at hq2;obtain rfl := Option.some.inj hq2;rw [if_neg (by simp)] at h;clear hq2;obtain ⟨x,hx,h⟩ := Option.bind_eq_some_iff.mp h;have HX := Aside0.mk hx
   obtain ⟨rfl,rfl⟩ : x = r1 ∧ false = r2 := by injection h with h; injection h with h1 h2; exact ⟨h1,h2⟩
   clear h hx;go_enter Try.func42,Try.ntmps42
   go_wp2_with (first | (go_at_call 89; refine (spec_AcctsOk.calls k _ _ l0 true _ ?s1 ?s2 HQ0.out).mono ?_; (case s1 => exact Kd.C_below HR.out HB_0.out); (case s2 => exact HC.out); rintro e w1 ⟨rfl,hb⟩; have HB_1 := Aside0.mk (below_step HB_0.out hb); clear hb) | (go_at_call 90; refine (spec_NameOk.calls k nm false _ HQ1.out).mono ?_; rintro e w' ⟨rfl,⟨nd2,rfl⟩⟩) | (go_at_call 92; refine (spec_l4Copy.calls k _ _ l0 x _ ?s1 ?s2 HX.out).mono ?_; (case s1 => exact Kd.C_below HR.out (by repeat (first | (with_reducible exact HB_1.out) | apply pw_below_drewN))); (case s2 => exact HC.out); rintro e w3 ⟨v3,rfl,hS,hb⟩; obtain ⟨A3,c3,rfl⟩ := Kd.S_slice hS; have HS := Aside0.mk (Kd.S_lower hS (below_size (by repeat (first | (with_reducible exact HB_1.out) | apply pw_below_drewN)))); have HB_3 := Aside0.mk (below_step (by repeat (first | (with_reducible exact HB_1.out) | apply pw_below_drewN)) hb); clear hS hb))
   go_ret2
   exact ⟨_,rfl,Kd.S_N (Kd.S_mono (Kd.S_bound HS.out) (fun k_ hk_ => hk_.2.1)),HB_3.out⟩
  | true =>
   rw [if_pos rfl] at hq2;have HQ2 := Aside0.mk hq2;clear hq2
   cases q2 with
   | false =>
    rw [if_neg (by simp)] at h;obtain ⟨x,hx,h⟩ := Option.bind_eq_some_iff.mp h;have HX := Aside0.mk hx
    obtain ⟨rfl,rfl⟩ : x = r1 ∧ false = r2 := by injection h with h; injection h with h1 h2; exact ⟨h1,h2⟩
    clear h hx;go_enter Try.func42,Try.ntmps42
    go_wp2_with (first | (go_at_call 89; refine (spec_AcctsOk.calls k _ _ l0 true _ ?s1 ?s2 HQ0.out).mono ?_; (case s1 => exact Kd.C_below HR.out HB_0.out); (case s2 => exact HC.out); rintro e w1 ⟨rfl,hb⟩; have HB_1 := Aside0.mk (below_step HB_0.out hb); clear hb) | (go_at_call 90; refine (spec_NameOk.calls k nm true _ HQ1.out).mono ?_; rintro e w' ⟨rfl,⟨nd2,rfl⟩⟩) | (go_at_call 91; refine (spec_l1In.calls n 0 1000000 false _ HQ2.out).mono ?_; rintro e w' ⟨rfl,⟨nd3,rfl⟩⟩) | (go_at_call 92; refine (spec_l4Copy.calls k _ _ l0 x _ ?s1 ?s2 HX.out).mono ?_; (case s1 => exact Kd.C_below HR.out (by repeat (first | (with_reducible exact HB_1.out) | apply pw_below_drewN))); (case s2 => exact HC.out); rintro e w4 ⟨v4,rfl,hS,hb⟩; obtain ⟨A4,c4,rfl⟩ := Kd.S_slice hS; have HS := Aside0.mk (Kd.S_lower hS (below_size (by repeat (first | (with_reducible exact HB_1.out) | apply pw_below_drewN)))); have HB_4 := Aside0.mk (below_step (by repeat (first | (with_reducible exact HB_1.out) | apply pw_below_drewN)) hb); clear hS hb))
    go_ret2
    exact ⟨_,rfl,Kd.S_N (Kd.S_mono (Kd.S_bound HS.out) (fun k_ hk_ => hk_.2.1)),HB_4.out⟩
   | true =>
    rw [if_pos rfl] at h;obtain ⟨y,hy,h⟩ := Option.bind_eq_some_iff.mp h;obtain ⟨a,ha,h⟩ := Option.bind_eq_some_iff.mp h
    by_cases hin : 0 ≤ a ∧ a < (y.length : Int)
    case neg => rw [if_neg hin] at h; exact absurd h (by simp)
    rw [if_pos hin] at h;obtain ⟨j,rfl⟩ : ∃ j : Nat,a = (j : Int) := ⟨a.toNat,by omega⟩;rw [Int.toNat_natCast] at h;obtain ⟨q,hq,h⟩ := Option.bind_eq_some_iff.mp h;have HY := Aside0.mk hy;have HA := Aside0.mk ha;have HQ := Aside0.mk hq;have HJ := Aside0.mk (show j < y.length by omega);have n0 : (0 ≤ (j : Int)) = True := eq_true hin.1;have n1 : ((j : Int) < (y.length : Int)) = True := eq_true hin.2;obtain ⟨R,hR⟩ : ∃ R,R = y.set j (⟨(y.getD j z63).f0,wrap64 ((y.getD j z63).f1 + n),(y.getD j z63).f2,(y.getD j z63).f3,(y.getD j z63).f4⟩ : S63) := ⟨_,rfl⟩;rw [← hR] at h hq;replace HQ := Aside0.mk hq;have HRR := Aside0.mk hR;have HRL := Aside0.mk (show R.length = y.length by rw [hR,List.length_set]);clear hy ha hq hin hR
    cases q with
    | true =>
     rw [if_pos rfl] at h
     obtain ⟨rfl,rfl⟩ : R = r1 ∧ true = r2 := by injection h with h; injection h with h1 h2; exact ⟨h1,h2⟩
     clear h;go_enter Try.func42,Try.ntmps42
     go_upto_region 3 with (first | (go_at_call 89; refine (spec_AcctsOk.calls k _ _ l0 true _ ?s1 ?s2 HQ0.out).mono ?_; (case s1 => exact Kd.C_below HR.out HB_0.out); (case s2 => exact HC.out); rintro e w1 ⟨rfl,hb⟩; have HB_1 := Aside0.mk (below_step HB_0.out hb); clear hb) | (go_at_call 90; refine (spec_NameOk.calls k nm true _ HQ1.out).mono ?_; rintro e w' ⟨rfl,⟨nd2,rfl⟩⟩) | (go_at_call 91; refine (spec_l1In.calls n 0 1000000 true _ HQ2.out).mono ?_; rintro e w' ⟨rfl,⟨nd3,rfl⟩⟩))
     go_upto_region 5 with (first | (go_at_call 93; refine (spec_l4With.calls k _ _ l0 nm y _ ?s1 ?s2 HY.out).mono ?_; (case s1 => exact Kd.C_below HR.out (by repeat (first | (with_reducible exact HB_1.out) | apply pw_below_drewN))); (case s2 => exact HC.out); rintro e w4 ⟨v4,rfl,hN,hb⟩; obtain ⟨g4,c4,rfl,hg4,_⟩ := Kd.N_form hN (Nat.lt_of_le_of_lt (Nat.zero_le _) HJ.out); have HN4 := Aside0.mk (Kd.N_mono (Kd.N_lower hN (below_size (by repeat (first | (with_reducible exact HB_1.out) | apply pw_below_drewN)))) (fun k_ hk_ => Nat.le_trans (below_size (by repeat (first | (with_reducible exact HB_1.out) | apply pw_below_drewN))) hk_) : Kd.N k63 63 w4 w.heap.size (fun k_ => w.heap.size ≤ k_) (.slice (some ⟨g4,0,none⟩) y.length c4) y); have HG4 := Aside0.mk (Nat.le_trans (below_size (by repeat (first | (with_reducible exact HB_1.out) | apply pw_below_drewN))) hg4); have HB_4 := Aside0.mk (below_step (by repeat (first | (with_reducible exact HB_1.out) | apply pw_below_drewN)) hb); clear hN hb hg4) | (go_at_call 60; refine (spec_AcctAt.calls k _ _ y nm (j : Int) _ ?s1 ?s2 HA.out).mono ?_; (case s1 => exact (Kd.N_reads' HN4.out).2.2); (case s2 => exact (Kd.N_reads' HN4.out).2.1); rintro e w' ⟨rfl,⟨nd5,rfl⟩⟩; have HN5 := Aside0.mk (Kd.N_drewN HN4.out nd5); have HB_5 := Aside0.mk (pw_below_drewN HB_4.out nd5)))
     generalize w4.drewN nd5 = w5 at HN5 HB_5 ⊢
     obtain ⟨hn5,x1,f1⟩ := spec_Credit.put HN5.out j HJ.out (wrap64 ((y.getD j z63).f1 + n));rw [← HRR.out] at hn5;rw [← HRL.out] at hn5 ⊢
     have n2 : ((j : Int) < (R.length : Int)) = True := by rw [HRL.out]; exact n1
     generalize (y.getD j z63).f1 = o1 at x1 hn5
     have HN6 := Aside0.mk hn5;have HB_6 := Aside0.mk (below_set (g := g4) (j := j * 5 + 1) (v := .int .i64 (wrap64 (o1 + n))) HB_5.out HG4.out);clear hn5
     go_wp2_with (go_at_call 89; refine (spec_AcctsOk.calls k _ _ R true _ ?s1 ?s2 HQ.out).mono ?_; (case s1 => exact (Kd.N_reads' HN6.out).2.2); (case s2 => exact (Kd.N_reads' HN6.out).2.1); rintro e w7 ⟨rfl,hb⟩; have HN7 := Aside0.mk (Kd.N_below HN6.out hb); have HB_7 := Aside0.mk (below_step HB_6.out hb); clear hb)
     go_ret2
     exact ⟨_,rfl,HN7.out,HB_7.out⟩
    | false =>
     rw [if_neg (by simp)] at h;obtain ⟨x,hx,h⟩ := Option.bind_eq_some_iff.mp h;have HX := Aside0.mk hx
     obtain ⟨rfl,rfl⟩ : x = r1 ∧ false = r2 := by injection h with h; injection h with h1 h2; exact ⟨h1,h2⟩
     clear h hx;go_enter Try.func42,Try.ntmps42
     go_upto_region 3 with (first | (go_at_call 89; refine (spec_AcctsOk.calls k _ _ l0 true _ ?s1 ?s2 HQ0.out).mono ?_; (case s1 => exact Kd.C_below HR.out HB_0.out); (case s2 => exact HC.out); rintro e w1 ⟨rfl,hb⟩; have HB_1 := Aside0.mk (below_step HB_0.out hb); clear hb) | (go_at_call 90; refine (spec_NameOk.calls k nm true _ HQ1.out).mono ?_; rintro e w' ⟨rfl,⟨nd2,rfl⟩⟩) | (go_at_call 91; refine (spec_l1In.calls n 0 1000000 true _ HQ2.out).mono ?_; rintro e w' ⟨rfl,⟨nd3,rfl⟩⟩))
     go_upto_region 5 with (first | (go_at_call 93; refine (spec_l4With.calls k _ _ l0 nm y _ ?s1 ?s2 HY.out).mono ?_; (case s1 => exact Kd.C_below HR.out (by repeat (first | (with_reducible exact HB_1.out) | apply pw_below_drewN))); (case s2 => exact HC.out); rintro e w4 ⟨v4,rfl,hN,hb⟩; obtain ⟨g4,c4,rfl,hg4,_⟩ := Kd.N_form hN (Nat.lt_of_le_of_lt (Nat.zero_le _) HJ.out); have HN4 := Aside0.mk (Kd.N_mono (Kd.N_lower hN (below_size (by repeat (first | (with_reducible exact HB_1.out) | apply pw_below_drewN)))) (fun k_ hk_ => Nat.le_trans (below_size (by repeat (first | (with_reducible exact HB_1.out) | apply pw_below_drewN))) hk_) : Kd.N k63 63 w4 w.heap.size (fun k_ => w.heap.size ≤ k_) (.slice (some ⟨g4,0,none⟩) y.length c4) y); have HG4 := Aside0.mk (Nat.le_trans (below_size (by repeat (first | (with_reducible exact HB_1.out) | apply pw_below_drewN))) hg4); have HB_4 := Aside0.mk (below_step (by repeat (first | (with_reducible exact HB_1.out) | apply pw_below_drewN)) hb); clear hN hb hg4) | (go_at_call 60; refine (spec_AcctAt.calls k _ _ y nm (j : Int) _ ?s1 ?s2 HA.out).mono ?_; (case s1 => exact (Kd.N_reads' HN4.out).2.2); (case s2 => exact (Kd.N_reads' HN4.out).2.1); rintro e w' ⟨rfl,⟨nd5,rfl⟩⟩; have HN5 := Aside0.mk (Kd.N_drewN HN4.out nd5); have HB_5 := Aside0.mk (pw_below_drewN HB_4.out nd5)))
     generalize w4.drewN nd5 = w5 at HN5 HB_5 ⊢
     obtain ⟨hn5,x1,f1⟩ := spec_Credit.put HN5.out j HJ.out (wrap64 ((y.getD j z63).f1 + n));rw [← HRR.out] at hn5;rw [← HRL.out] at hn5 ⊢
     have n2 : ((j : Int) < (R.length : Int)) = True := by rw [HRL.out]; exact n1
     generalize (y.getD j z63).f1 = o1 at x1 hn5
     have HN6 := Aside0.mk hn5;have HB_6 := Aside0.mk (below_set (g := g4) (j := j * 5 + 1) (v := .int .i64 (wrap64 (o1 + n))) HB_5.out HG4.out);clear hn5
     go_wp2_with (first | (go_at_call 89; refine (spec_AcctsOk.calls k _ _ R false _ ?s1 ?s2 HQ.out).mono ?_; (case s1 => exact (Kd.N_reads' HN6.out).2.2); (case s2 => exact (Kd.N_reads' HN6.out).2.1); rintro e w7 ⟨rfl,hb⟩; have HN7 := Aside0.mk (Kd.N_below HN6.out hb); have HB_7 := Aside0.mk (below_step HB_6.out hb); clear hb) | (go_at_call 92; refine (spec_l4Copy.calls k _ _ l0 x _ ?s1 ?s2 HX.out).mono ?_; (case s1 => exact Kd.C_below HR.out HB_7.out); (case s2 => exact HC.out); rintro e w8 ⟨v8,rfl,hS,hb⟩; obtain ⟨A8,c8,rfl⟩ := Kd.S_slice hS; have HS8 := Aside0.mk (Kd.S_lower hS (below_size HB_7.out)); have HB_8 := Aside0.mk (below_step HB_7.out hb); clear hS hb))
     go_ret2
     exact ⟨_,rfl,Kd.S_N (Kd.S_mono (Kd.S_bound HS8.out) (fun k_ hk_ => hk_.2.1)),HB_8.out⟩

/-! ### laws_szLeaveS: function 125 -/
def laws_szLeaveS.f (l0 : List (S163)) (a1 : Int) : Option (Int) := if (wrap64 (a1 - (l0.length : Int))) < 0 then (some (-1)) else (some (wrap64 (a1 - (l0.length : Int))))
set_option maxHeartbeats 8000000 in
set_option maxRecDepth 100000 in
theorem laws_szLeaveS.calls (A0 : Option Addr) (c0 : Nat) (l0 : List (S163)) (a1 : Int) (r : Int) (w : World) (hr0 : Kd.C k163 w A0 l0.length l0) (hc0 : l0.length ≤ c0) (h : laws_szLeaveS.f l0 a1 = some r) :
  Calls Try.prog 125 #[.slice A0 l0.length c0,.int .i64 a1] w fun e w' => e = .returned (.int .i64 r) ∧ Drawn0 w w' := by
 have HR0 := Aside0.mk hr0;have HC0 := Aside0.mk hc0;clear hr0 hc0;have H : (if (wrap64 (a1 - (l0.length : Int))) < 0 then (some (-1)) else (some (wrap64 (a1 - (l0.length : Int))))) = some r := h;clear h
 by_cases c3 : (wrap64 (a1 - (l0.length : Int))) < 0
 ·rw [if_pos c3] at H;have c3b0 : decide ((wrap64 (a1 - (l0.length : Int))) < 0) = true := decide_eq_true c3;clear c3;obtain rfl := Option.some.inj H;go_enter Try.func125,Try.ntmps125;go_wp2;go_ret;exact ⟨by rfl,by repeat (exact Drawn0.refl _)⟩
 ·rw [if_neg c3] at H;have c3b0 : decide ((wrap64 (a1 - (l0.length : Int))) < 0) = false := decide_eq_false c3;clear c3;obtain rfl := Option.some.inj H;go_enter Try.func125,Try.ntmps125;go_wp2;go_ret;exact ⟨by rfl,by repeat (exact Drawn0.refl _)⟩

/-! ### laws_szAcct: function 99 -/
def laws_szAcct.f (a0_0 : ByteArray) (a0_1 : Int) (a0_2 : Int) (a0_3 : Int) (l0_4 : List (S163)) (a1 : Int) : Option (Int) := if (wrap64 (a1 - (a0_0.size : Int))) < 0 then (some (-1)) else ((laws_szLeaveS.f l0_4 (wrap64 (a1 - (a0_0.size : Int)))).bind fun t180 => (if t180 < 0 then (some (-1)) else (some t180)))
set_option maxHeartbeats 8000000 in
set_option maxRecDepth 100000 in
theorem laws_szAcct.calls (a0_0 : ByteArray) (a0_1 : Int) (a0_2 : Int) (a0_3 : Int) (A0_4 : Option Addr) (c0_4 : Nat) (l0_4 : List (S163)) (a1 : Int) (r : Int) (w : World) (hr0_4 : Kd.C k163 w A0_4 l0_4.length l0_4) (hc0_4 : l0_4.length ≤ c0_4) (h : laws_szAcct.f a0_0 a0_1 a0_2 a0_3 l0_4 a1 = some r) :
  Calls Try.prog 99 #[.agg #[.string a0_0,.int .i64 a0_1,.int .i64 a0_2,.int .i64 a0_3,.slice A0_4 l0_4.length c0_4],.int .i64 a1] w fun e w' => e = .returned (.int .i64 r) ∧ Below w.heap.size w w' := by
 have hu125 := Try.underlying125;have HR0_4 := Aside0.mk hr0_4;have HC0_4 := Aside0.mk hc0_4;clear hr0_4 hc0_4;have HB := Aside0.mk (Below.refl w.heap.size w);have H : (if (wrap64 (a1 - (a0_0.size : Int))) < 0 then (some (-1)) else ((laws_szLeaveS.f l0_4 (wrap64 (a1 - (a0_0.size : Int)))).bind fun t180 => (if t180 < 0 then (some (-1)) else (some t180)))) = some r := h;clear h
 by_cases c3 : (wrap64 (a1 - (a0_0.size : Int))) < 0
 ·rw [if_pos c3] at H;have c3b0 : decide ((wrap64 (a1 - (a0_0.size : Int))) < 0) = true := decide_eq_true c3;clear c3;obtain rfl := Option.some.inj H;go_enter Try.func99,Try.ntmps99
  go_wp2_with (((with_reducible refine gate_dst (N := 2) rfl ?_); refine box_event ?hg (N := 2) ?hd (cs := #[.string a0_0,.int .i64 a0_1,.int .i64 a0_2,.int .i64 a0_3,.slice A0_4 l0_4.length c0_4]) (t := 125) ?hr ?_; (case hd => rfl); (case hg => rfl); (case hr => (go_simp; done)); intro gb179 hg w4 hbox hb; have n0_ := Aside0.mk (below_step HB.out hb); have n1_ := Aside0.mk (hbox); have n2_ := Aside0.mk (by rw [hg]; exact (below_size HB.out) : w.heap.size ≤ gb179); have n3_ := Aside0.mk (by rw [hg]; exact (below_size HB.out) : w.heap.size ≤ gb179); clear HB; have HB := n0_; have BK179 := n1_; have GW179 := n2_; have GE179 := n3_; clear n0_ n1_ n2_ n3_; clear hb hbox hg; have hcz5_0 : w4.cell? ⟨gb179,0,none⟩ = some (.string a0_0) := (blk_cell BK179.out 0).trans rfl; have hcz5_1 : w4.cell? ⟨gb179,1,none⟩ = some (.int .i64 a0_1) := (blk_cell BK179.out 1).trans rfl; have hcz5_2 : w4.cell? ⟨gb179,2,none⟩ = some (.int .i64 a0_2) := (blk_cell BK179.out 2).trans rfl; have hcz5_3 : w4.cell? ⟨gb179,3,none⟩ = some (.int .i64 a0_3) := (blk_cell BK179.out 3).trans rfl; have hcz5_4 : w4.cell? ⟨gb179,4,none⟩ = some (.slice A0_4 l0_4.length c0_4) := (blk_cell BK179.out 4).trans rfl; have hfz5_0 := blk_frozen BK179.out 0; have hfz5_1 := blk_frozen BK179.out 1; have hfz5_2 := blk_frozen BK179.out 2; have hfz5_3 := blk_frozen BK179.out 3; have hfz5_4 := blk_frozen BK179.out 4))
  go_ret;exact ⟨by rfl,HB.out⟩
 ·rw [if_neg c3] at H;have c3b0 : decide ((wrap64 (a1 - (a0_0.size : Int))) < 0) = false := decide_eq_false c3;clear c3;replace H := Option.bind_eq_some_iff.mp H;obtain ⟨t180,A60,H⟩ := H;replace H : (if t180 < 0 then (some (-1)) else (some t180)) = some r := H;have A6 := Aside0.mk A60;clear A60
  by_cases c7 : t180 < 0
  ·rw [if_pos c7] at H;have c7b0 : decide (t180 < 0) = true := decide_eq_true c7;clear c7;obtain rfl := Option.some.inj H;go_enter Try.func99,Try.ntmps99
   go_wp2_with (first | ((with_reducible refine gate_dst (N := 2) rfl ?_); refine box_event ?hg (N := 2) ?hd (cs := #[.string a0_0,.int .i64 a0_1,.int .i64 a0_2,.int .i64 a0_3,.slice A0_4 l0_4.length c0_4]) (t := 125) ?hr ?_; (case hd => rfl); (case hg => rfl); (case hr => (go_simp; done)); intro gb179 hg w8 hbox hb; have n0_ := Aside0.mk (below_step HB.out hb); have n1_ := Aside0.mk (hbox); have n2_ := Aside0.mk (by rw [hg]; exact (below_size HB.out) : w.heap.size ≤ gb179); have n3_ := Aside0.mk (by rw [hg]; exact (below_size HB.out) : w.heap.size ≤ gb179); clear HB; have HB := n0_; have BK179 := n1_; have GW179 := n2_; have GE179 := n3_; clear n0_ n1_ n2_ n3_; clear hb hbox hg; have hcz9_0 : w8.cell? ⟨gb179,0,none⟩ = some (.string a0_0) := (blk_cell BK179.out 0).trans rfl; have hcz9_1 : w8.cell? ⟨gb179,1,none⟩ = some (.int .i64 a0_1) := (blk_cell BK179.out 1).trans rfl; have hcz9_2 : w8.cell? ⟨gb179,2,none⟩ = some (.int .i64 a0_2) := (blk_cell BK179.out 2).trans rfl; have hcz9_3 : w8.cell? ⟨gb179,3,none⟩ = some (.int .i64 a0_3) := (blk_cell BK179.out 3).trans rfl; have hcz9_4 : w8.cell? ⟨gb179,4,none⟩ = some (.slice A0_4 l0_4.length c0_4) := (blk_cell BK179.out 4).trans rfl; have hfz9_0 := blk_frozen BK179.out 0; have hfz9_1 := blk_frozen BK179.out 1; have hfz9_2 := blk_frozen BK179.out 2; have hfz9_3 := blk_frozen BK179.out 3; have hfz9_4 := blk_frozen BK179.out 4) | ((with_reducible refine gate_callee (f := 125) rfl ?_); refine goesL_ (some 15) rfl rfl Try.func125 (by kernel_rfl) rfl #[.slice A0_4 l0_4.length c0_4,.int .i64 (wrap64 (a1 - (a0_0.size : Int)))] rfl (by (try simp only [List.map_toArray,List.map_cons,List.map_nil]); rfl) ?_; (with_reducible refine (laws_szLeaveS.calls _ _ l0_4 (wrap64 (a1 - (a0_0.size : Int))) t180 _ ?side1 ?side2 A6.out).mono ?_); (case side1 => repeat (exact (Kd.C_below HR0_4.out HB.out))); (case side2 => exact HC0_4.out); rintro e w' ⟨rfl,⟨nd,rfl⟩⟩; refine ⟨_,rfl,?_⟩))
   go_ret;exact ⟨by rfl,by repeat (with_reducible first | exact HB.out | apply pw_below_drewN)⟩
  ·rw [if_neg c7] at H;have c7b0 : decide (t180 < 0) = false := decide_eq_false c7;clear c7;obtain rfl := Option.some.inj H;go_enter Try.func99,Try.ntmps99
   go_wp2_with (first | ((with_reducible refine gate_dst (N := 2) rfl ?_); refine box_event ?hg (N := 2) ?hd (cs := #[.string a0_0,.int .i64 a0_1,.int .i64 a0_2,.int .i64 a0_3,.slice A0_4 l0_4.length c0_4]) (t := 125) ?hr ?_; (case hd => rfl); (case hg => rfl); (case hr => (go_simp; done)); intro gb179 hg w10 hbox hb; have n0_ := Aside0.mk (below_step HB.out hb); have n1_ := Aside0.mk (hbox); have n2_ := Aside0.mk (by rw [hg]; exact (below_size HB.out) : w.heap.size ≤ gb179); have n3_ := Aside0.mk (by rw [hg]; exact (below_size HB.out) : w.heap.size ≤ gb179); clear HB; have HB := n0_; have BK179 := n1_; have GW179 := n2_; have GE179 := n3_; clear n0_ n1_ n2_ n3_; clear hb hbox hg; have hcz11_0 : w10.cell? ⟨gb179,0,none⟩ = some (.string a0_0) := (blk_cell BK179.out 0).trans rfl; have hcz11_1 : w10.cell? ⟨gb179,1,none⟩ = some (.int .i64 a0_1) := (blk_cell BK179.out 1).trans rfl; have hcz11_2 : w10.cell? ⟨gb179,2,none⟩ = some (.int .i64 a0_2) := (blk_cell BK179.out 2).trans rfl; have hcz11_3 : w10.cell? ⟨gb179,3,none⟩ = some (.int .i64 a0_3) := (blk_cell BK179.out 3).trans rfl; have hcz11_4 : w10.cell? ⟨gb179,4,none⟩ = some (.slice A0_4 l0_4.length c0_4) := (blk_cell BK179.out 4).trans rfl; have hfz11_0 := blk_frozen BK179.out 0; have hfz11_1 := blk_frozen BK179.out 1; have hfz11_2 := blk_frozen BK179.out 2; have hfz11_3 := blk_frozen BK179.out 3; have hfz11_4 := blk_frozen BK179.out 4) | ((with_reducible refine gate_callee (f := 125) rfl ?_); refine goesL_ (some 15) rfl rfl Try.func125 (by kernel_rfl) rfl #[.slice A0_4 l0_4.length c0_4,.int .i64 (wrap64 (a1 - (a0_0.size : Int)))] rfl (by (try simp only [List.map_toArray,List.map_cons,List.map_nil]); rfl) ?_; (with_reducible refine (laws_szLeaveS.calls _ _ l0_4 (wrap64 (a1 - (a0_0.size : Int))) t180 _ ?side1 ?side2 A6.out).mono ?_); (case side1 => repeat (exact (Kd.C_below HR0_4.out HB.out))); (case side2 => exact HC0_4.out); rintro e w' ⟨rfl,⟨nd,rfl⟩⟩; refine ⟨_,rfl,?_⟩))
   go_ret;exact ⟨by rfl,by repeat (with_reducible first | exact HB.out | apply pw_below_drewN)⟩

end Go.Proofs.Ytcbpfofkdipjhaa.PH
