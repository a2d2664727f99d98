/- The machine's side of Go functions: each as a plain function,and that the call does what it says. Written by a program (wip/mprint). -/
import Derived.Test.YtgbbgdlenadhlaaPJx0
import Derived.Test.YtgbbgdlenadhlaaPJx1
import Derived.Test.YtgbbgdlenadhlaaPJx2
import Derived.Test.YtgbbgdlenadhlaaShaE
namespace Go.Proofs.Ytgbbgdlenadhlaa.PJ
open Go.RowKit Go.Proofs.YtgbbgdlenadhlaaW.PrintWords Go.Proofs.YtgbbgdlenadhlaaW.PrintLast Go.Proofs.YtgbbgdlenadhlaaW.PrintMore
attribute [local wf_preprocess] Act.put List.setIfInBounds_toArray List.set_cons_zero List.set_cons_succ i64_w i32_w
attribute [local go_sem] max2_int min2_int max_two min_two max_three min_three max_four min_four   -- for this text's walks alone
set_option linter.unusedVariables false
set_option linter.unusedSimpArgs false

/-! ### impl_LedgerOk: function 40 -/
def impl_LedgerOk.f (k : Nat) (a0_0 : Int) (l0_1 : List (S50)) : Option (Bool) := (impl_inRange.f a0_0 0 900).bind fun t123 => (if t123 = true then ((impl_AcctsOk.f k l0_1).bind fun t124 => (some t124)) else (some false))
theorem impl_LedgerOk.mono : ∀ a0 a1 k,LeO (impl_LedgerOk.f k a0 a1) (impl_LedgerOk.f (k + 1) a0 a1) := by
 intro a0 a1 k;unfold impl_LedgerOk.f
 repeat' first
   | (with_reducible exact impl_AcctsOk.mono _ _)
   | (with_reducible exact LeO.refl _)
   | (with_reducible exact LeO.none _)
   | (with_reducible refine LeO.ite ?_ ?_)
   | (with_reducible refine LeO.bind ?_ (fun _ => ?_))
   | exact impl_AcctsOk.mono _ _
   | exact LeO.none _
set_option maxHeartbeats 8000000 in
set_option maxRecDepth 100000 in
theorem impl_LedgerOk.calls (k : Nat) (a0_0 : Int) (A0_1 : Option Addr) (c0_1 : Nat) (l0_1 : List (S50)) (r : Bool) (w : World) (hr0_1 : Kd.C k50 w A0_1 l0_1.length l0_1) (hc0_1 : l0_1.length ≤ c0_1) (h : impl_LedgerOk.f k a0_0 l0_1 = some r) :
  Calls Try.prog 40 #[.agg #[.int .i64 a0_0,.slice A0_1 l0_1.length c0_1]] w fun e w' => e = .returned (.bool r) ∧ Below w.heap.size w w' := by
 have hu44 := Try.underlying44;have HR0_1 := Aside0.mk hr0_1;have HC0_1 := Aside0.mk hc0_1;clear hr0_1 hc0_1;have HB := Aside0.mk (Below.refl w.heap.size w);have H : ((impl_inRange.f a0_0 0 900).bind fun t123 => (if t123 = true then ((impl_AcctsOk.f k l0_1).bind fun t124 => (some t124)) else (some false))) = some r := h;clear h;replace H := Option.bind_eq_some_iff.mp H;obtain ⟨t123,A20,H⟩ := H;replace H : (if t123 = true then ((impl_AcctsOk.f k l0_1).bind fun t124 => (some t124)) else (some false)) = some r := H;have A2 := Aside0.mk A20;clear A20
 by_cases c3 : t123 = true
 ·subst c3
  have H1 : ((impl_AcctsOk.f k l0_1).bind fun t124 => (some t124)) = some r := by rw [if_pos rfl] at H; exact H
  clear H;have H := H1;clear H1;replace H := Option.bind_eq_some_iff.mp H;obtain ⟨t124,A40,H⟩ := H;replace H : (some t124) = some r := H;have A4 := Aside0.mk A40;clear A40;obtain rfl := Option.some.inj H;go_enter Try.func40,Try.ntmps40
  go_wp2_with (first | ((with_reducible refine gate_dst (N := 1) rfl ?_); refine box_event ?hg (N := 1) ?hd (cs := #[.int .i64 a0_0,.slice A0_1 l0_1.length c0_1]) (t := 44) ?hr ?_; (case hd => rfl); (case hg => rfl); (case hr => (go_simp; done)); intro gb122 hg w5 hbox hb; have n0_ := Aside0.mk (below_step HB.out hb); have n1_ := Aside0.mk (hbox); have n2_ := Aside0.mk (by rw [hg]; exact (below_size HB.out) : w.heap.size ≤ gb122); have n3_ := Aside0.mk (by rw [hg]; exact (below_size HB.out) : w.heap.size ≤ gb122); clear HB; have HB := n0_; have BK122 := n1_; have GW122 := n2_; have GE122 := n3_; clear n0_ n1_ n2_ n3_; clear hb hbox hg; have hcz6_0 : w5.cell? ⟨gb122,0,none⟩ = some (.int .i64 a0_0) := (blk_cell BK122.out 0).trans rfl; have hcz6_1 : w5.cell? ⟨gb122,1,none⟩ = some (.slice A0_1 l0_1.length c0_1) := (blk_cell BK122.out 1).trans rfl; have hfz6_0 := blk_frozen BK122.out 0; have hfz6_1 := blk_frozen BK122.out 1) | ((with_reducible refine gate_callee (f := 59) rfl ?_); refine goesL_ (some 5) rfl rfl Try.func59 (by kernel_rfl) rfl #[.int .i64 a0_0,.int .i64 0,.int .i64 900] rfl (by (try simp only [List.map_toArray,List.map_cons,List.map_nil]); rfl) ?_; (with_reducible refine (impl_inRange.calls a0_0 0 900 true _ A2.out).mono ?_); rintro e w' ⟨rfl,⟨nd,rfl⟩⟩; refine ⟨_,rfl,?_⟩) | (go_at_call 71; (with_reducible refine (impl_AcctsOk.calls k _ _ l0_1 t124 _ ?side1 ?side2 A4.out).mono ?_); (case side1 => repeat (exact (Kd.C_below HR0_1.out (by repeat (with_reducible first | exact HB.out | apply pw_below_drewN))))); (case side2 => exact HC0_1.out); rintro e w7 ⟨rfl,hb⟩; have n0_ := Aside0.mk (blk_below (g := gb122) (o := .cells #[.int .i64 a0_0,.slice A0_1 l0_1.length c0_1] 44 (0,0)) (by (with_reducible repeat (refine blk_drewN ?_ _)); exact BK122.out) hb); have n1_ := Aside0.mk (below_step (by repeat (with_reducible first | exact HB.out | apply pw_below_drewN)) hb); clear BK122; clear HB; have BK122 := n0_; have HB := n1_; clear n0_ n1_; (try clear hb); skip))
  go_ret;exact ⟨by rfl,HB.out⟩
 ·replace c3 := Bool.eq_false_iff.mpr c3;subst c3
  have H1 : (some false) = some r := by rw [if_neg (show ¬ (false = true) by decide)] at H; exact H
  clear H;have H := H1;clear H1;obtain rfl := Option.some.inj H;go_enter Try.func40,Try.ntmps40
  go_wp2_with (first | ((with_reducible refine gate_dst (N := 1) rfl ?_); refine box_event ?hg (N := 1) ?hd (cs := #[.int .i64 a0_0,.slice A0_1 l0_1.length c0_1]) (t := 44) ?hr ?_; (case hd => rfl); (case hg => rfl); (case hr => (go_simp; done)); intro gb122 hg w8 hbox hb; have n0_ := Aside0.mk (below_step HB.out hb); have n1_ := Aside0.mk (hbox); have n2_ := Aside0.mk (by rw [hg]; exact (below_size HB.out) : w.heap.size ≤ gb122); have n3_ := Aside0.mk (by rw [hg]; exact (below_size HB.out) : w.heap.size ≤ gb122); clear HB; have HB := n0_; have BK122 := n1_; have GW122 := n2_; have GE122 := n3_; clear n0_ n1_ n2_ n3_; clear hb hbox hg; have hcz9_0 : w8.cell? ⟨gb122,0,none⟩ = some (.int .i64 a0_0) := (blk_cell BK122.out 0).trans rfl; have hcz9_1 : w8.cell? ⟨gb122,1,none⟩ = some (.slice A0_1 l0_1.length c0_1) := (blk_cell BK122.out 1).trans rfl; have hfz9_0 := blk_frozen BK122.out 0; have hfz9_1 := blk_frozen BK122.out 1) | ((with_reducible refine gate_callee (f := 59) rfl ?_); refine goesL_ (some 5) rfl rfl Try.func59 (by kernel_rfl) rfl #[.int .i64 a0_0,.int .i64 0,.int .i64 900] rfl (by (try simp only [List.map_toArray,List.map_cons,List.map_nil]); rfl) ?_; (with_reducible refine (impl_inRange.calls a0_0 0 900 false _ A2.out).mono ?_); rintro e w' ⟨rfl,⟨nd,rfl⟩⟩; refine ⟨_,rfl,?_⟩))
  go_ret;exact ⟨by rfl,by repeat (with_reducible first | exact HB.out | apply pw_below_drewN)⟩

/-! ### slices_Clone_byte_byte: function 58 -/
def slices_Clone_byte_byte.f (l0 : List Int) : Option (List Int) := if l0.length < 140737488355328 then (some l0) else (none)
set_option maxHeartbeats 8000000 in
set_option maxRecDepth 100000 in
theorem slices_Clone_byte_byte.calls (A0 : Option Addr) (c0 : Nat) (l0 : List Int) (r : List Int) (w : World) (hr0 : Kd.C (Kd.int .u8) w A0 l0.length l0) (hc0 : l0.length ≤ c0) (h : slices_Clone_byte_byte.f l0 = some r) :
  Calls Try.prog 58 #[.slice A0 l0.length c0] w fun e w' => ∃ v0_ : Value,e = .returned (v0_) ∧ Kd.R (Kd.int .u8) 5 w' w.heap.size (fun _ => True) v0_ r ∧ Below w.heap.size w w' := by
 have HR0 := Aside0.mk hr0;have HC0 := Aside0.mk hc0;have HB := Aside0.mk (Below.refl w.heap.size w);have H : (if l0.length < 140737488355328 then (some l0) else (none)) = some r := h;clear h
 by_cases c2 : l0.length < 140737488355328
 ·rw [if_pos c2] at H;have LM := Aside0.mk c2;clear c2;obtain rfl := Option.some.inj H;clear H
  cases A0 with
  | none =>
   have hl : l0 = [] := by
    cases l0 with
    | nil => rfl
    | cons x t =>
     obtain ⟨_,_,h2⟩ := hr0;obtain ⟨ad,e,_⟩ := h2 (by simp)
     cases e
   clear hr0 hc0;subst hl
   have heq := fun (W : World) (c : Nat) => Lib.run_eql_slice_nil (P := Try.prog) W 22 5 none 0 c 0 0 Try.underlying22
   go_enter Try.func58,Try.ntmps58;go_wp2;go_ret;exact ⟨_,rfl,Kd.R_nil _ _ _ _ _,Below.refl _ _⟩
  | some ad =>
   clear hr0 hc0
   have heq := fun (W : World) (n c : Nat) => Lib.run_eql_slice_nil (P := Try.prog) W 22 5 (some ad) n c 0 0 Try.underlying22
   go_enter Try.func58,Try.ntmps58
   go_wp2_with (first | ((with_reducible refine gate_dst (N := 5) rfl ?_); refine Kd.R_lit (Kd.int .u8) _ 5 ?hg (N := 5) ?hd (xs := ([] : List Int)) (inner := []) (ok := fun _ => True) (okp := fun _ => True) ?hr ?hp (fun _ hk => hk) trivial (Below.refl _ _) (Nat.le_refl _) (by simp) ?_; (case hd => rfl); (case hg => rfl); (case hr => (go_simp; done)); (case hp => exact (Reps.none _ _)); intro v109 w4 ho5 hb hg_ hnew_; clear hg_ hnew_; have n0_ := Aside0.mk (Kd.R_lower ho5 (below_size HB.out)); have n1_ := Aside0.mk (below_step HB.out hb); clear HB; have HO110 := n0_; have HB := n1_; clear n0_ n1_; clear hb ho5) | ((with_reducible refine gate_builtin (b := .append) (xs := #[.tmp 5,.tmp 6]) rfl ?_); at_builtin; refine Kd.R_append_rows (Kd.int .u8) (w0 := w) w.heap.size rfl (.tmp 5) (.tmp 6) 22 5 (.int .u8 0) 1 rfl Try.underlying22 info5 rfl (by decide) (by omega) v109 ([] : List Int) l0 _ _ _ (fun _ => True) (fun _ => False) rfl rfl ?aO ?aR (fun _ _ h => h) (fun _ h => h.elim) ?aF ?aB ?aS ?aL ?_; (case aR => repeat (exact (Kd.C_below HR0.out HB.out))); (case aB => exact HB.out); (case aF => exact (fun _ _ => trivial)); (case aO => exact (by exact HO110.out)); (case aS => exact (below_size HB.out)); (case aL => have := LM.out; simp only [List.length_nil]; omega); intro v112 w6 ho hb hg hat; have n0_ := Aside0.mk (hb); have n1_ := Aside0.mk (ho); clear HB; clear HO110; have HB := n0_; have HO113 := n1_; clear n0_ n1_; clear ho hb hg hat))
   go_ret;exact ⟨_,rfl,HO113.out,HB.out⟩
 ·rw [if_neg c2] at H;exact absurd H (by simp)

/-! ### impl_Padded: function 26 -/
mutual
def impl_Padded.l0 : Nat → List Int → List Int → Option (List Int)
 | 0,_,_ => none
 | k + 1,x0,x3 => if (Int.tmod (wrap64 ((x3.length : Int) + 8)) 64) = 0 then (impl_Padded.l1 k x3 (wrap64 (8 * (x0.length : Int))) 7) else (if x3.length < 140737488355328 then (impl_Padded.l0 k x0 (x3 ++ [0])) else (none))
def impl_Padded.l1 : Nat → List Int → Int → Int → Option (List Int)
 | 0,_,_,_ => none
 | k + 1,x3,x4,x5 => if x5 ≥ 0 then (if 0 ≤ (IntKind.u64.wrap (wrap64 (8 * x5))) then (if x3.length < 140737488355328 then (impl_Padded.l1 k (x3 ++ [(shr .i64 x4 (IntKind.u64.wrap (wrap64 (8 * x5)))) % 256]) x4 (wrap64 (x5 - 1))) else (none)) else (none)) else (some x3)
end
def impl_Padded.f (k : Nat) (l0 : List Int) : Option (List Int) := (slices_Clone_byte_byte.f l0).bind fun t125 => (if t125.length < 140737488355328 then (impl_Padded.l0 k l0 (t125 ++ [128])) else (none))
theorem impl_Padded.mono_l : ∀ k,(∀ y0 y1,LeO (impl_Padded.l0 k y0 y1) (impl_Padded.l0 (k + 1) y0 y1)) ∧ (∀ y0 y1 y2,LeO (impl_Padded.l1 k y0 y1 y2) (impl_Padded.l1 (k + 1) y0 y1 y2))
 | 0 => ⟨fun _ _ r h => by simp [impl_Padded.l0] at h,fun _ _ _ r h => by simp [impl_Padded.l1] at h⟩
 | k + 1 => by
  obtain ⟨ih0,ih1⟩ := impl_Padded.mono_l k;refine ⟨?_,?_⟩
  ·intro y0 y1;unfold impl_Padded.l0
   repeat' first
   | (with_reducible exact ih0 _ _)
   | (with_reducible exact ih1 _ _ _)
   | (with_reducible exact LeO.refl _)
   | (with_reducible exact LeO.none _)
   | (with_reducible refine LeO.ite ?_ ?_)
   | (with_reducible refine LeO.bind ?_ (fun _ => ?_))
   | exact ih0 _ _
   | exact ih1 _ _ _
   | exact LeO.none _
  ·intro y0 y1 y2;unfold impl_Padded.l1
   repeat' first
   | (with_reducible exact ih0 _ _)
   | (with_reducible exact ih1 _ _ _)
   | (with_reducible exact LeO.refl _)
   | (with_reducible exact LeO.none _)
   | (with_reducible refine LeO.ite ?_ ?_)
   | (with_reducible refine LeO.bind ?_ (fun _ => ?_))
   | exact ih0 _ _
   | exact ih1 _ _ _
   | exact LeO.none _
theorem impl_Padded.mono : ∀ a0 k,LeO (impl_Padded.f k a0) (impl_Padded.f (k + 1) a0) := by
 intro a0 k;obtain ⟨ih0,ih1⟩ := impl_Padded.mono_l k;unfold impl_Padded.f
 repeat' first
   | (with_reducible exact ih0 _ _)
   | (with_reducible exact ih1 _ _ _)
   | (with_reducible exact LeO.refl _)
   | (with_reducible exact LeO.none _)
   | (with_reducible refine LeO.ite ?_ ?_)
   | (with_reducible refine LeO.bind ?_ (fun _ => ?_))
   | exact ih0 _ _
   | exact ih1 _ _ _
   | exact LeO.none _
set_option maxHeartbeats 8000000 in
set_option maxRecDepth 100000 in
theorem impl_Padded.calls (k : Nat) (A0 : Option Addr) (c0 : Nat) (l0 : List Int) (r : List Int) (w : World) (hr0 : Kd.C (Kd.int .u8) w A0 l0.length l0) (hc0 : l0.length ≤ c0) (h : impl_Padded.f k l0 = some r) :
  Calls Try.prog 26 #[.slice A0 l0.length c0] w fun e w' => ∃ v0_ : Value,e = .returned (v0_) ∧ Kd.R (Kd.int .u8) 5 w' w.heap.size (fun _ => True) v0_ r ∧ Below w.heap.size w w' := by
 have HR0 := Aside0.mk hr0;have HC0 := Aside0.mk hc0;clear hr0 hc0;have HB := Aside0.mk (Below.refl w.heap.size w);have H : ((slices_Clone_byte_byte.f l0).bind fun t125 => (if t125.length < 140737488355328 then (impl_Padded.l0 k l0 (t125 ++ [128])) else (none))) = some r := h;clear h;replace H := Option.bind_eq_some_iff.mp H;obtain ⟨t125,A20,H⟩ := H;replace H : (if t125.length < 140737488355328 then (impl_Padded.l0 k l0 (t125 ++ [128])) else (none)) = some r := H;have A2 := Aside0.mk A20;clear A20
 by_cases c3 : t125.length < 140737488355328
 ·rw [if_pos c3] at H;have LMc3 := Aside0.mk c3;clear c3;obtain ⟨y128,hy128⟩ : ∃ y_ : List Int,y_ = (t125 ++ [128]) := ⟨_,rfl⟩
  replace H : (impl_Padded.l0 k l0 y128) = some r := by (rw [hy128]; with_reducible exact H)
  have Ny128 := Aside0.mk hy128;clear hy128;have H' := Aside0.mk H;clear H;go_enter Try.func26,Try.ntmps26
  go_wp2_with (first | ((with_reducible refine gate_callee (f := 58) rfl ?_); refine goesL_ (some 7) rfl rfl Try.func58 (by kernel_rfl) rfl #[.slice A0 l0.length c0] rfl (by (try simp only [List.map_toArray,List.map_cons,List.map_nil]); rfl) ?_; (with_reducible refine (slices_Clone_byte_byte.calls _ _ l0 t125 _ ?side1 ?side2 A2.out).mono ?_); (case side1 => repeat (exact HR0.out)); (case side2 => exact HC0.out); rintro e w4 ⟨v126,rfl,ho0,hb⟩; refine ⟨_,rfl,?_⟩; have n0_ := Aside0.mk (Kd.R_lower ho0 (below_size HB.out)); have n1_ := Aside0.mk (below_step HB.out hb); clear HB; have HO127 := n0_; have HB := n1_; clear n0_ n1_; (try clear hb); (try clear ho0)) | ((with_reducible refine gate_builtin (b := .append) (xs := #[.tmp 7,.tmp 8]) rfl ?_); at_builtin; refine Kd.R_append (Kd.int .u8) (w0 := w) w.heap.size rfl (.tmp 7) (.tmp 8) 22 5 (.int .u8 0) 1 rfl Try.underlying22 info5 rfl (by decide) (by omega) v126 t125 128 [.int .u8 128] (fun _ => True) (fun _ => False) rfl rfl ?aP (fun _ hk => hk.elim) ?aF ?aO ?aB ?aS ?aL ?_; (case aP => exact rfl); (case aB => exact HB.out); (case aF => exact (fun _ _ => trivial)); (case aO => exact (by exact HO127.out)); (case aS => exact (below_size HB.out)); (case aL => have := LMc3.out; omega); intro v129 w5 ho hb hg hat; rw [← Ny128.out] at ho; have n0_ := Aside0.mk (hb); have n1_ := Aside0.mk (ho); clear HB; clear HO127; have HB := n0_; have HO130 := n1_; clear n0_ n1_; clear ho hb hg hat))
  go_loopg [3] k (fun kq v3 w' => ∃ (x3_1 : List Int),Aside0 (impl_Padded.l0 kq l0 x3_1 = some r) ∧ Aside0 (kq ≤ k) ∧ Aside0 (Kd.R (Kd.int .u8) 5 w' w.heap.size (fun _ => True) v3 x3_1) ∧ Aside0 (Below w.heap.size w w'))
  case atStart => exact ⟨(y128),H',⟨Nat.le_refl _⟩,⟨by exact HO130.out⟩,⟨HB.out⟩⟩
  case round =>
   clear H'
   try clear c2
   try clear p2
   try clear c3
   try clear c5
   obtain ⟨x3_1,HA,HK1,HO_3,HB⟩ := hrel
   cases gk with
   | zero => exact absurd HA.out (by simp [impl_Padded.l0])
   | succ k1 =>
    have H := HA.out;clear HA;simp only [impl_Padded.l0] at H
    by_cases c6 : (Int.tmod (wrap64 ((x3_1.length : Int) + 8)) 64) = 0
    ·rw [if_pos c6] at H;have c6b0 : ((Int.tmod (wrap64 ((x3_1.length : Int) + 8)) 64) == 0) = true := beq_iff_eq.mpr c6;have c6b1 : ((Int.tmod (wrap64 ((x3_1.length : Int) + 8)) 64) != 0) = false := bne_eq_false_iff_eq.mpr c6;clear c6;have H' := Aside0.mk H;clear H;obtain ⟨Ao7,co7,eo7⟩ := Kd.R_slice HO_3.out;subst eo7;go_wp2
     go_loopg [3,5] k1 (fun kq v3 v5 w' => ∃ (x3_2 : List Int) (x5_2 : Int),v5 = .int .i64 x5_2 ∧ Aside0 (impl_Padded.l1 kq x3_2 (wrap64 (8 * (l0.length : Int))) x5_2 = some r) ∧ Aside0 (kq ≤ k1) ∧ Aside0 (Kd.R (Kd.int .u8) 5 w' w.heap.size (fun _ => True) v3 x3_2) ∧ Aside0 (Below w.heap.size w w'))
     case atStart => exact ⟨(x3_1),(7),(by rfl),H',⟨Nat.le_refl _⟩,⟨by exact HO_3.out⟩,⟨HB.out⟩⟩
     case round =>
      clear H'
      try clear c2
      try clear p2
      try clear c3
      try clear c5
      try clear c6
      try clear c6b0
      try clear c6b1
      try clear p6
      try clear p2
      obtain ⟨x3_2,x5_2,rfl,HA,HK2,HO_3,HB⟩ := hrel
      cases gk with
      | zero => exact absurd HA.out (by simp [impl_Padded.l1])
      | succ k2 =>
       have H := HA.out;clear HA;simp only [impl_Padded.l1] at H
       by_cases c8 : x5_2 ≥ 0
       ·rw [if_pos c8] at H;have c8b0 : decide (0 ≤ x5_2) = true := decide_eq_true c8;clear c8;obtain ⟨ji9,hji9⟩ : ∃ j_ : Int,(IntKind.u64.wrap (wrap64 (8 * x5_2))) = j_ := ⟨_,rfl⟩
        replace H : (if 0 ≤ (ji9) then (if x3_2.length < 140737488355328 then (impl_Padded.l1 k2 (x3_2 ++ [(shr .i64 (wrap64 (8 * (l0.length : Int))) (ji9)) % 256]) (wrap64 (8 * (l0.length : Int))) (wrap64 (x5_2 - 1))) else (none)) else (none)) = some r := by (rw [hji9] at H; exact H)
        by_cases c10 : 0 ≤ (ji9)
        ·rw [if_pos c10] at H;have c10b0 := eq_true c10;have c10b1 : decide (0 ≤ (ji9)) = true := decide_eq_true c10;clear c10;obtain ⟨ji11,hji11⟩ : ∃ j_ : Int,(shr .i64 (wrap64 (8 * (l0.length : Int))) (ji9)) = j_ := ⟨_,rfl⟩
         replace H : (if x3_2.length < 140737488355328 then (impl_Padded.l1 k2 (x3_2 ++ [(ji11) % 256]) (wrap64 (8 * (l0.length : Int))) (wrap64 (x5_2 - 1))) else (none)) = some r := by (rw [hji11] at H; exact H)
         have hji11_ : ((wrap64 (8 * (l0.length : Int))) / 2 ^ min (ji9).toNat 64) = ji11 := hji11;have hji11z : (ji9) ≤ 64 → ((wrap64 (8 * (l0.length : Int))) / 2 ^ (ji9).toNat) = ji11 := shr_small hji11
         by_cases c12 : x3_2.length < 140737488355328
         ·rw [if_pos c12] at H;have LMc12 := Aside0.mk c12;clear c12;obtain ⟨y134,hy134⟩ : ∃ y_ : List Int,y_ = (x3_2 ++ [(ji11) % 256]) := ⟨_,rfl⟩
          replace H : (impl_Padded.l1 k2 y134 (wrap64 (8 * (l0.length : Int))) (wrap64 (x5_2 - 1))) = some r := by (rw [hy134]; with_reducible exact H)
          have Ny134 := Aside0.mk hy134;clear hy134;have H' := Aside0.mk H;clear H
          go_wp2_with ((with_reducible refine gate_builtin (b := .append) (xs := #[.tmp 25,.tmp 32]) rfl ?_); at_builtin; refine Kd.R_append (Kd.int .u8) (w0 := w) w.heap.size rfl (.tmp 25) (.tmp 32) 22 5 (.int .u8 0) 1 rfl Try.underlying22 info5 rfl (by decide) (by omega) u3 x3_2 ((ji11) % 256) [.int .u8 ((ji11) % 256)] (fun _ => True) (fun _ => False) rfl rfl ?aP (fun _ hk => hk.elim) ?aF ?aO ?aB ?aS ?aL ?_; (case aP => exact rfl); (case aB => exact HB.out); (case aF => exact (fun _ _ => trivial)); (case aO => exact (by exact HO_3.out)); (case aS => exact (below_size HB.out)); (case aL => have := LMc12.out; omega); intro v135 w13 ho hb hg hat; rw [← Ny134.out] at ho; have n0_ := Aside0.mk (hb); have n1_ := Aside0.mk (ho); clear HB; clear HO_3; have HB := n0_; have HO136 := n1_; clear n0_ n1_; clear ho hb hg hat)
          go_roundg k2
          case measure => have := HK1.out; have := HK2.out; omega
          case rel => exact ⟨(y134),(wrap64 (x5_2 - 1)),(by rfl),H',⟨by have := HK1.out; have := HK2.out; omega⟩,⟨by exact HO136.out⟩,⟨HB.out⟩⟩
         ·rw [if_neg c12] at H;exact absurd H (by simp)
        ·rw [if_neg c10] at H;exact absurd H (by simp)
       ·rw [if_neg c8] at H;have c8b0 : decide (0 ≤ x5_2) = false := decide_eq_false c8;clear c8;obtain rfl := Option.some.inj H;go_wp2;go_ret;exact ⟨_,by rfl,by exact HO_3.out,HB.out⟩
    ·rw [if_neg c6] at H;have c6b0 : ((Int.tmod (wrap64 ((x3_1.length : Int) + 8)) 64) == 0) = false := beq_eq_false_iff_ne.mpr c6;have c6b1 : ((Int.tmod (wrap64 ((x3_1.length : Int) + 8)) 64) != 0) = true := bne_iff_ne.mpr c6
     by_cases c14 : x3_1.length < 140737488355328
     ·rw [if_pos c14] at H;have LMc14 := Aside0.mk c14;clear c14;obtain ⟨y131,hy131⟩ : ∃ y_ : List Int,y_ = (x3_1 ++ [0]) := ⟨_,rfl⟩
      replace H : (impl_Padded.l0 k1 l0 y131) = some r := by (rw [hy131]; with_reducible exact H)
      have Ny131 := Aside0.mk hy131;clear hy131;have H' := Aside0.mk H;clear H;obtain ⟨Ao15,co15,eo15⟩ := Kd.R_slice HO_3.out;subst eo15
      go_wp2_with ((with_reducible refine gate_builtin (b := .append) (xs := #[.tmp 15,.tmp 16]) rfl ?_); at_builtin; refine Kd.R_append (Kd.int .u8) (w0 := w) w.heap.size rfl (.tmp 15) (.tmp 16) 22 5 (.int .u8 0) 1 rfl Try.underlying22 info5 rfl (by decide) (by omega) (.slice Ao15 x3_1.length co15) x3_1 0 [.int .u8 0] (fun _ => True) (fun _ => False) rfl rfl ?aP (fun _ hk => hk.elim) ?aF ?aO ?aB ?aS ?aL ?_; (case aP => exact rfl); (case aB => exact HB.out); (case aF => exact (fun _ _ => trivial)); (case aO => exact (by exact HO_3.out)); (case aS => exact (below_size HB.out)); (case aL => have := LMc14.out; omega); intro v132 w16 ho hb hg hat; rw [← Ny131.out] at ho; have n0_ := Aside0.mk (hb); have n1_ := Aside0.mk (ho); clear HB; clear HO_3; have HB := n0_; have HO133 := n1_; clear n0_ n1_; clear ho hb hg hat)
      go_roundg k1
      case measure => have := HK1.out; omega
      case rel => exact ⟨(y131),H',⟨by have := HK1.out; omega⟩,⟨by exact HO133.out⟩,⟨HB.out⟩⟩
     ·rw [if_neg c14] at H;exact absurd H (by simp)
 ·rw [if_neg c3] at H;exact absurd H (by simp)

-- NOT PRINTED: function 54 (impl_rounds)

-- NOT PRINTED: function 55 (slices_Chunk_byte_byte)

/-! ### bits_RotateLeft32: function 84 -/
def bits_RotateLeft32.f (a0 : Int) (a1 : Int) : Option (Int) := if 0 ≤ (Go.bits .and .u64 (IntKind.u64.wrap (a1)) 31) then (if 0 ≤ (IntKind.u64.wrap (32 - (Go.bits .and .u64 (IntKind.u64.wrap (a1)) 31))) then (some (Go.bits .or .u32 (shl .u32 a0 (Go.bits .and .u64 (IntKind.u64.wrap (a1)) 31)) (shr .u32 a0 (IntKind.u64.wrap (32 - (Go.bits .and .u64 (IntKind.u64.wrap (a1)) 31)))))) else (none)) else (none)
set_option maxHeartbeats 8000000 in
set_option maxRecDepth 100000 in
theorem bits_RotateLeft32.calls (a0 : Int) (a1 : Int) (r : Int) (w : World) (h : bits_RotateLeft32.f a0 a1 = some r) :
  Calls Try.prog 84 #[.int .u32 a0,.int .i64 a1] w fun e w' => e = .returned (.int .u32 r) ∧ Drawn0 w w' := by
 have H : (if 0 ≤ (Go.bits .and .u64 (IntKind.u64.wrap (a1)) 31) then (if 0 ≤ (IntKind.u64.wrap (32 - (Go.bits .and .u64 (IntKind.u64.wrap (a1)) 31))) then (some (Go.bits .or .u32 (shl .u32 a0 (Go.bits .and .u64 (IntKind.u64.wrap (a1)) 31)) (shr .u32 a0 (IntKind.u64.wrap (32 - (Go.bits .and .u64 (IntKind.u64.wrap (a1)) 31)))))) else (none)) else (none)) = some r := h;clear h;obtain ⟨ji3,hji3⟩ : ∃ j_ : Int,(Go.bits .and .u64 (IntKind.u64.wrap (a1)) 31) = j_ := ⟨_,rfl⟩
 replace H : (if 0 ≤ (ji3) then (if 0 ≤ (IntKind.u64.wrap (32 - (ji3))) then (some (Go.bits .or .u32 (shl .u32 a0 (ji3)) (shr .u32 a0 (IntKind.u64.wrap (32 - (ji3)))))) else (none)) else (none)) = some r := by (rw [hji3] at H; exact H)
 by_cases c4 : 0 ≤ (ji3)
 ·rw [if_pos c4] at H;have c4b0 := eq_true c4;have c4b1 : decide (0 ≤ (ji3)) = true := decide_eq_true c4;clear c4;obtain ⟨ji5,hji5⟩ : ∃ j_ : Int,(shl .u32 a0 (ji3)) = j_ := ⟨_,rfl⟩
  replace H : (if 0 ≤ (IntKind.u64.wrap (32 - (ji3))) then (some (Go.bits .or .u32 (ji5) (shr .u32 a0 (IntKind.u64.wrap (32 - (ji3)))))) else (none)) = some r := by (rw [hji5] at H; exact H)
  have hji5_ : (IntKind.u32.wrap (a0 * 2 ^ min (ji3).toNat 32)) = ji5 := hji5;have hji5z : (ji3) ≤ 32 → (IntKind.u32.wrap (a0 * 2 ^ (ji3).toNat)) = ji5 := shl_small hji5;obtain ⟨ji6,hji6⟩ : ∃ j_ : Int,(IntKind.u64.wrap (32 - (ji3))) = j_ := ⟨_,rfl⟩
  replace H : (if 0 ≤ (ji6) then (some (Go.bits .or .u32 (ji5) (shr .u32 a0 (ji6)))) else (none)) = some r := by (rw [hji6] at H; exact H)
  by_cases c7 : 0 ≤ (ji6)
  ·rw [if_pos c7] at H;have c7b0 := eq_true c7;have c7b1 : decide (0 ≤ (ji6)) = true := decide_eq_true c7;clear c7;obtain ⟨ji8,hji8⟩ : ∃ j_ : Int,(shr .u32 a0 (ji6)) = j_ := ⟨_,rfl⟩
   replace H : (some (Go.bits .or .u32 (ji5) (ji8))) = some r := by (rw [hji8] at H; exact H)
   have hji8_ : (a0 / 2 ^ min (ji6).toNat 32) = ji8 := hji8;have hji8z : (ji6) ≤ 32 → (a0 / 2 ^ (ji6).toNat) = ji8 := shr_small hji8;obtain rfl := Option.some.inj H;go_enter Try.func84,Try.ntmps84;go_wp2;go_ret;exact ⟨by rfl,by repeat (exact Drawn0.refl _)⟩
  ·rw [if_neg c7] at H;exact absurd H (by simp)
 ·rw [if_neg c4] at H;exact absurd H (by simp)

-- NOT PRINTED: function 83 (impl_wordsOf)

-- NOT PRINTED: function 56 (impl_turnBlock)

/-! ### impl_Digest: function 23 -/
def impl_Digest.f (k : Nat) (l0 : List Int) : Option (ByteArray) := (impl_Padded.f k l0).bind fun p => if 0 < p.length / 64 ∧ p.length = 64 * (p.length / 64) then some (Sha.digL p (p.length / 64)) else none
theorem impl_Digest.mono : ∀ a0 k,LeO (impl_Digest.f k a0) (impl_Digest.f (k + 1) a0) := by
 intro a0 k;unfold impl_Digest.f;exact LeO.bind (impl_Padded.mono _ _) (fun _ => LeO.refl _)
theorem impl_Digest.calls (k : Nat) (A0 : Option Addr) (c0 : Nat) (l0 : List Int) (r : ByteArray) (w : World) (hr0 : Kd.C (Kd.int .u8) w A0 l0.length l0) (hc0 : l0.length ≤ c0) (h : impl_Digest.f k l0 = some r) :
  Calls Try.prog 23 #[.slice A0 l0.length c0] w fun e w' => e = .returned (.string r) ∧ Below w.heap.size w w' := by
 unfold impl_Digest.f at h
 cases hp : impl_Padded.f k l0 with
 | none => rw [hp] at h; cases h
 | some p =>
  rw [hp] at h;simp only [Option.bind_some] at h
  split at h
  ·rename_i hc
   obtain rfl := Option.some.inj h;exact Sha.digest_in A0 l0.length c0 p (p.length / 64) w hc.2 hc.1 (fun W hW => impl_Padded.calls k A0 c0 l0 p W (Kd.C_below hr0 hW) hc0 hp)
  ·cases h

/-! ### impl_LeafDigest: function 17 -/
def impl_LeafDigest.f (k : Nat) (a0 : ByteArray) : Option (ByteArray) := (some (([0] : List Int) : List Int)).bind fun y137 => (if y137.length + a0.size < 140737488355328 then ((impl_Digest.f k (y137 ++ bytesOf a0)).bind fun t143 => (some t143)) else (none))
theorem impl_LeafDigest.mono : ∀ a0 k,LeO (impl_LeafDigest.f k a0) (impl_LeafDigest.f (k + 1) a0) := by
 intro a0 k;unfold impl_LeafDigest.f
 repeat' first
   | (with_reducible exact impl_Digest.mono _ _)
   | (with_reducible exact LeO.refl _)
   | (with_reducible exact LeO.none _)
   | (with_reducible refine LeO.ite ?_ ?_)
   | (with_reducible refine LeO.bind ?_ (fun _ => ?_))
   | exact impl_Digest.mono _ _
   | exact LeO.none _
set_option maxHeartbeats 8000000 in
set_option maxRecDepth 100000 in
theorem impl_LeafDigest.calls (k : Nat) (a0 : ByteArray) (r : ByteArray) (w : World) (h : impl_LeafDigest.f k a0 = some r) :
  Calls Try.prog 17 #[.string a0] w fun e w' => e = .returned (.string r) ∧ Below w.heap.size w w' := by
 have HB := Aside0.mk (Below.refl w.heap.size w);have H : ((some (([0] : List Int) : List Int)).bind fun y137 => (if y137.length + a0.size < 140737488355328 then ((impl_Digest.f k (y137 ++ bytesOf a0)).bind fun t143 => (some t143)) else (none))) = some r := h;clear h;obtain ⟨y137,hy137⟩ : ∃ y_ : List Int,y_ = ([0] : List Int) := ⟨_,rfl⟩
 replace H : (if y137.length + a0.size < 140737488355328 then ((impl_Digest.f k (y137 ++ bytesOf a0)).bind fun t143 => (some t143)) else (none)) = some r := by (have H2_ := (Option.bind_some _ _).symm.trans H; rw [hy137]; with_reducible exact H2_)
 have Ny137 := Aside0.mk hy137;clear hy137
 by_cases c2 : y137.length + a0.size < 140737488355328
 ·rw [if_pos c2] at H;have LMc2 := Aside0.mk c2;clear c2;obtain ⟨y140,hy140⟩ : ∃ y_ : List Int,y_ = (y137 ++ bytesOf a0) := ⟨_,rfl⟩
  replace H : ((impl_Digest.f k y140).bind fun t143 => (some t143)) = some r := by (rw [hy140]; with_reducible exact H)
  have Ny140 := Aside0.mk hy140;clear hy140;replace H := Option.bind_eq_some_iff.mp H;obtain ⟨t143,A30,H⟩ := H;replace H : (some t143) = some r := H;have A3 := Aside0.mk A30;clear A30;obtain rfl := Option.some.inj H;go_enter Try.func17,Try.ntmps17
  go_wp2_with (first | ((with_reducible refine gate_dst (N := 3) rfl ?_); refine Kd.R_lit (Kd.int .u8) _ 5 ?hg (N := 3) ?hd (xs := ([0] : List Int)) (inner := [.int .u8 0]) (ok := fun _ => True) (okp := fun _ => True) ?hr ?hp (fun _ hk => hk) trivial (Below.refl _ _) (Nat.le_refl _) (by simp) ?_; (case hd => rfl); (case hg => rfl); (case hr => (go_simp; done)); (case hp => exact (Reps.one (show Kd.M (Kd.int .u8) _ _ _ 0 [.int .u8 0] from rfl) (Reps.none _ _))); intro v138 w4 ho5 hb hg_ hnew_; clear hg_ hnew_; (rw [← Ny137.out] at ho5); have n0_ := Aside0.mk (Kd.R_lower ho5 (below_size HB.out)); have n1_ := Aside0.mk (below_step HB.out hb); clear HB; have HO139 := n0_; have HB := n1_; clear n0_ n1_; clear hb ho5) | (at_builtin; refine print_append_str (w0 := w) w.heap.size rfl (.tmp 3) _ 22 9 5 rfl Try.underlying22 Try.underlying9 info5 v138 y137 a0 rfl rfl ?aO ?aB ?aS ?aL ?_; (case aB => exact HB.out); (case aO => exact (Kd.own_of_R (by exact HO139.out))); (case aS => exact (below_size HB.out)); (case aL => have := LMc2.out; omega); intro v141 w6 ho0 hb hg; have ho := Kd.R_of_own (h1 := fun _ => rfl) (ok := fun _ => True) ho0 (fun _ _ => trivial); clear ho0; have hat := True.intro; rw [← Ny140.out] at ho; change Kd.R (Kd.int .u8) 5 w6 w.heap.size (fun _ => True) v141 y140 at ho; have n0_ := Aside0.mk (hb); have n1_ := Aside0.mk (ho); clear HB; clear HO139; have HB := n0_; have HO142 := n1_; clear n0_ n1_; clear ho hb hg hat; obtain ⟨Ao7,co7,eo7⟩ := Kd.R_slice HO142.out; subst eo7) | ((with_reducible refine gate_callee (f := 23) rfl ?_); refine goesL_ (some 6) rfl rfl Try.func23 (by kernel_rfl) rfl #[.slice Ao7 y140.length co7] rfl (by (try simp only [List.map_toArray,List.map_cons,List.map_nil]); rfl) ?_; (with_reducible refine (impl_Digest.calls k _ _ y140 t143 _ ?side1 ?side2 A3.out).mono ?_); (case side1 => repeat (exact (Kd.R_reads' HO142.out).2.2)); (case side2 => exact (Kd.R_reads' HO142.out).2.1); rintro e w8 ⟨rfl,hb⟩; refine ⟨_,rfl,?_⟩; have n0_ := Aside0.mk (Kd.R_below (by exact HO142.out) hb); have n1_ := Aside0.mk (below_step HB.out hb); clear HO142; clear HB; have HO142 := n0_; have HB := n1_; clear n0_ n1_; (try clear hb); skip))
  go_ret;exact ⟨by rfl,HB.out⟩
 ·rw [if_neg c2] at H;exact absurd H (by simp)

/-! ### impl_NodeDigest: function 18 -/
def impl_NodeDigest.f (k : Nat) (a0 : ByteArray) (a1 : ByteArray) : Option (ByteArray) := (some (([1] : List Int) : List Int)).bind fun y144 => (if y144.length + a0.size < 140737488355328 then ((some (y144 ++ bytesOf a0 : List Int)).bind fun y147 => (if y147.length + a1.size < 140737488355328 then ((impl_Digest.f k (y147 ++ bytesOf a1)).bind fun t153 => (some t153)) else (none))) else (none))
theorem impl_NodeDigest.mono : ∀ a0 a1 k,LeO (impl_NodeDigest.f k a0 a1) (impl_NodeDigest.f (k + 1) a0 a1) := by
 intro a0 a1 k;unfold impl_NodeDigest.f
 repeat' first
   | (with_reducible exact impl_Digest.mono _ _)
   | (with_reducible exact LeO.refl _)
   | (with_reducible exact LeO.none _)
   | (with_reducible refine LeO.ite ?_ ?_)
   | (with_reducible refine LeO.bind ?_ (fun _ => ?_))
   | exact impl_Digest.mono _ _
   | exact LeO.none _
set_option maxHeartbeats 8000000 in
set_option maxRecDepth 100000 in
theorem impl_NodeDigest.calls (k : Nat) (a0 : ByteArray) (a1 : ByteArray) (r : ByteArray) (w : World) (h : impl_NodeDigest.f k a0 a1 = some r) :
  Calls Try.prog 18 #[.string a0,.string a1] w fun e w' => e = .returned (.string r) ∧ Below w.heap.size w w' := by
 have HB := Aside0.mk (Below.refl w.heap.size w);have H : ((some (([1] : List Int) : List Int)).bind fun y144 => (if y144.length + a0.size < 140737488355328 then ((some (y144 ++ bytesOf a0 : List Int)).bind fun y147 => (if y147.length + a1.size < 140737488355328 then ((impl_Digest.f k (y147 ++ bytesOf a1)).bind fun t153 => (some t153)) else (none))) else (none))) = some r := h;clear h;obtain ⟨y144,hy144⟩ : ∃ y_ : List Int,y_ = ([1] : List Int) := ⟨_,rfl⟩
 replace H : (if y144.length + a0.size < 140737488355328 then ((some (y144 ++ bytesOf a0 : List Int)).bind fun y147 => (if y147.length + a1.size < 140737488355328 then ((impl_Digest.f k (y147 ++ bytesOf a1)).bind fun t153 => (some t153)) else (none))) else (none)) = some r := by (have H2_ := (Option.bind_some _ _).symm.trans H; rw [hy144]; with_reducible exact H2_)
 have Ny144 := Aside0.mk hy144;clear hy144
 by_cases c3 : y144.length + a0.size < 140737488355328
 ·rw [if_pos c3] at H;have LMc3 := Aside0.mk c3;clear c3;obtain ⟨y147,hy147⟩ : ∃ y_ : List Int,y_ = (y144 ++ bytesOf a0) := ⟨_,rfl⟩
  replace H : (if y147.length + a1.size < 140737488355328 then ((impl_Digest.f k (y147 ++ bytesOf a1)).bind fun t153 => (some t153)) else (none)) = some r := by (have H2_ := (Option.bind_some _ _).symm.trans H; rw [hy147]; with_reducible exact H2_)
  have Ny147 := Aside0.mk hy147;clear hy147
  by_cases c4 : y147.length + a1.size < 140737488355328
  ·rw [if_pos c4] at H;have LMc4 := Aside0.mk c4;clear c4;obtain ⟨y150,hy150⟩ : ∃ y_ : List Int,y_ = (y147 ++ bytesOf a1) := ⟨_,rfl⟩
   replace H : ((impl_Digest.f k y150).bind fun t153 => (some t153)) = some r := by (rw [hy150]; with_reducible exact H)
   have Ny150 := Aside0.mk hy150;clear hy150;replace H := Option.bind_eq_some_iff.mp H;obtain ⟨t153,A50,H⟩ := H;replace H : (some t153) = some r := H;have A5 := Aside0.mk A50;clear A50;obtain rfl := Option.some.inj H;go_enter Try.func18,Try.ntmps18
   go_wp2_with (first | ((with_reducible refine gate_dst (N := 5) rfl ?_); refine Kd.R_lit (Kd.int .u8) _ 5 ?hg (N := 5) ?hd (xs := ([1] : List Int)) (inner := [.int .u8 1]) (ok := fun _ => True) (okp := fun _ => True) ?hr ?hp (fun _ hk => hk) trivial (Below.refl _ _) (Nat.le_refl _) (by simp) ?_; (case hd => rfl); (case hg => rfl); (case hr => (go_simp; done)); (case hp => exact (Reps.one (show Kd.M (Kd.int .u8) _ _ _ 1 [.int .u8 1] from rfl) (Reps.none _ _))); intro v145 w6 ho7 hb hg_ hnew_; clear hg_ hnew_; (rw [← Ny144.out] at ho7); have n0_ := Aside0.mk (Kd.R_lower ho7 (below_size HB.out)); have n1_ := Aside0.mk (below_step HB.out hb); clear HB; have HO146 := n0_; have HB := n1_; clear n0_ n1_; clear hb ho7) | (at_builtin; refine print_append_str (w0 := w) w.heap.size rfl (.tmp 5) _ 22 9 5 rfl Try.underlying22 Try.underlying9 info5 v145 y144 a0 rfl rfl ?aO ?aB ?aS ?aL ?_; (case aB => exact HB.out); (case aO => exact (Kd.own_of_R (by exact HO146.out))); (case aS => exact (below_size HB.out)); (case aL => have := LMc3.out; omega); intro v148 w8 ho0 hb hg; have ho := Kd.R_of_own (h1 := fun _ => rfl) (ok := fun _ => True) ho0 (fun _ _ => trivial); clear ho0; have hat := True.intro; rw [← Ny147.out] at ho; change Kd.R (Kd.int .u8) 5 w8 w.heap.size (fun _ => True) v148 y147 at ho; have n0_ := Aside0.mk (hb); have n1_ := Aside0.mk (ho); clear HB; clear HO146; have HB := n0_; have HO149 := n1_; clear n0_ n1_; clear ho hb hg hat) | (at_builtin; refine print_append_str (w0 := w) w.heap.size rfl (.tmp 7) _ 22 9 5 rfl Try.underlying22 Try.underlying9 info5 v148 y147 a1 rfl rfl ?aO ?aB ?aS ?aL ?_; (case aB => exact HB.out); (case aO => exact (Kd.own_of_R (by exact HO149.out))); (case aS => exact (below_size HB.out)); (case aL => have := LMc4.out; omega); intro v151 w9 ho0 hb hg; have ho := Kd.R_of_own (h1 := fun _ => rfl) (ok := fun _ => True) ho0 (fun _ _ => trivial); clear ho0; have hat := True.intro; rw [← Ny150.out] at ho; change Kd.R (Kd.int .u8) 5 w9 w.heap.size (fun _ => True) v151 y150 at ho; have n0_ := Aside0.mk (hb); have n1_ := Aside0.mk (ho); clear HB; clear HO149; have HB := n0_; have HO152 := n1_; clear n0_ n1_; clear ho hb hg hat; obtain ⟨Ao10,co10,eo10⟩ := Kd.R_slice HO152.out; subst eo10) | ((with_reducible refine gate_callee (f := 23) rfl ?_); refine goesL_ (some 10) rfl rfl Try.func23 (by kernel_rfl) rfl #[.slice Ao10 y150.length co10] rfl (by (try simp only [List.map_toArray,List.map_cons,List.map_nil]); rfl) ?_; (with_reducible refine (impl_Digest.calls k _ _ y150 t153 _ ?side1 ?side2 A5.out).mono ?_); (case side1 => repeat (exact (Kd.R_reads' HO152.out).2.2)); (case side2 => exact (Kd.R_reads' HO152.out).2.1); rintro e w11 ⟨rfl,hb⟩; refine ⟨_,rfl,?_⟩; have n0_ := Aside0.mk (Kd.R_below (by exact HO152.out) hb); have n1_ := Aside0.mk (below_step HB.out hb); clear HO152; clear HB; have HO152 := n0_; have HB := n1_; clear n0_ n1_; (try clear hb); skip))
   go_ret;exact ⟨by rfl,HB.out⟩
  ·rw [if_neg c4] at H;exact absurd H (by simp)
 ·rw [if_neg c3] at H;exact absurd H (by simp)

/-! ### impl_half: function 79 -/
def impl_half.l0 : Nat → Int → Int → Option (Int)
 | 0,_,_ => none
 | k + 1,x0,x3 => if (wrap64 (2 * x3)) < x0 then (impl_half.l0 k x0 (wrap64 (x3 * 2))) else (some x3)
def impl_half.f (k : Nat) (a0 : Int) : Option (Int) := impl_half.l0 k a0 1
theorem impl_half.mono_l : ∀ k,(∀ y0 y1,LeO (impl_half.l0 k y0 y1) (impl_half.l0 (k + 1) y0 y1))
 | 0 => fun _ _ r h => by simp [impl_half.l0] at h
 | k + 1 => by
  have ih0 := impl_half.mono_l k
  ·intro y0 y1;unfold impl_half.l0
   repeat' first
   | (with_reducible exact ih0 _ _)
   | (with_reducible exact LeO.refl _)
   | (with_reducible exact LeO.none _)
   | (with_reducible refine LeO.ite ?_ ?_)
   | (with_reducible refine LeO.bind ?_ (fun _ => ?_))
   | exact ih0 _ _
   | exact LeO.none _
theorem impl_half.mono : ∀ a0 k,LeO (impl_half.f k a0) (impl_half.f (k + 1) a0) := by
 intro a0 k;have ih0 := impl_half.mono_l k;unfold impl_half.f
 repeat' first
   | (with_reducible exact ih0 _ _)
   | (with_reducible exact LeO.refl _)
   | (with_reducible exact LeO.none _)
   | (with_reducible refine LeO.ite ?_ ?_)
   | (with_reducible refine LeO.bind ?_ (fun _ => ?_))
   | exact ih0 _ _
   | exact LeO.none _
set_option maxHeartbeats 8000000 in
set_option maxRecDepth 100000 in
theorem impl_half.calls (k : Nat) (a0 : Int) (r : Int) (w : World) (h : impl_half.f k a0 = some r) :
  Calls Try.prog 79 #[.int .i64 a0] w fun e w' => e = .returned (.int .i64 r) ∧ Drawn0 w w' := by
 have H : (impl_half.l0 k a0 1) = some r := h;clear h;have H' := Aside0.mk H;clear H;go_enter Try.func79,Try.ntmps79;go_wp2
 go_loopg [3] k (fun kq v3 w' => ∃ (x3_1 : Int),v3 = .int .i64 x3_1 ∧ Aside0 (impl_half.l0 kq a0 x3_1 = some r) ∧ Aside0 (kq ≤ k) ∧ Drawn0 w w')
 case atStart => exact ⟨(1),(by rfl),H',⟨Nat.le_refl _⟩,by repeat (exact Drawn0.refl _)⟩
 case round =>
  clear H';obtain ⟨x3_1,rfl,HA,HK1,⟨m1,rfl⟩⟩ := hrel
  cases gk with
  | zero => exact absurd HA.out (by simp [impl_half.l0])
  | succ k1 =>
   have H := HA.out;clear HA;simp only [impl_half.l0] at H
   by_cases c2 : (wrap64 (2 * x3_1)) < a0
   ·rw [if_pos c2] at H;have c2b0 : decide ((wrap64 (2 * x3_1)) < a0) = true := decide_eq_true c2;clear c2;have H' := Aside0.mk H;clear H;go_wp2
    go_roundg k1
    case measure => have := HK1.out; omega
    case rel => exact ⟨(wrap64 (x3_1 * 2)),(by rfl),H',⟨by have := HK1.out; omega⟩,by repeat (first | exact Drawn0.refl _ | apply Drawn0.step)⟩
   ·rw [if_neg c2] at H;have c2b0 : decide ((wrap64 (2 * x3_1)) < a0) = false := decide_eq_false c2;clear c2;obtain rfl := Option.some.inj H;go_wp2;go_ret;exact ⟨by rfl,by repeat (first | exact Drawn0.refl _ | apply Drawn0.step)⟩

/-! ### impl_rootOf: function 50 -/
def impl_rootOf.f : Nat → List ByteArray → Option (ByteArray)
 | 0,_ => none
 | k + 1,l0 => if (l0.length : Int) = 0 then ((impl_Digest.f k ([] : List Int)).bind fun t154 => (some t154)) else (if (l0.length : Int) = 1 then (if 0 < (l0.length : Int) then ((impl_LeafDigest.f k (rdOf ByteArray.empty l0 0)).bind fun t156 => (some t156)) else (none)) else ((impl_half.f k (l0.length : Int)).bind fun t157 => (if 0 ≤ t157 then (if t157 ≤ (l0.length : Int) then ((impl_rootOf.f k (l0.take (t157 : Int).toNat)).bind fun t159 => ((impl_rootOf.f k (l0.drop (t157 : Int).toNat)).bind fun t161 => ((impl_NodeDigest.f k t159 t161).bind fun t162 => (some t162)))) else (none)) else (none))))
theorem impl_rootOf.mono_l : ∀ k,(∀ y0,LeO (impl_rootOf.f k y0) (impl_rootOf.f (k + 1) y0))
 | 0 => fun _ r h => by simp [impl_rootOf.f] at h
 | k + 1 => by
  have ih0 := impl_rootOf.mono_l k
  ·intro y0;unfold impl_rootOf.f
   repeat' first
   | (with_reducible exact ih0 _)
   | (with_reducible exact impl_Digest.mono _ _)
   | (with_reducible exact impl_LeafDigest.mono _ _)
   | (with_reducible exact impl_NodeDigest.mono _ _ _)
   | (with_reducible exact impl_half.mono _ _)
   | (with_reducible exact LeO.refl _)
   | (with_reducible exact LeO.none _)
   | (with_reducible refine LeO.ite ?_ ?_)
   | (with_reducible refine LeO.bind ?_ (fun _ => ?_))
   | exact ih0 _
   | exact impl_Digest.mono _ _
   | exact impl_LeafDigest.mono _ _
   | exact impl_NodeDigest.mono _ _ _
   | exact impl_half.mono _ _
   | exact LeO.none _
theorem impl_rootOf.mono : ∀ a0 k,LeO (impl_rootOf.f k a0) (impl_rootOf.f (k + 1) a0) := by
 intro a0 k;have ih0 := impl_rootOf.mono_l k;exact ih0 a0
def impl_rootOf.T7 : Bool × List (List Nat × List Nat) := (true,[([],[]),([],[]),([0,1],[0,1]),([2],[2]),([],[]),([],[]),([4,5],[4,5]),([6,3],[6]),([3,7,7],[3,7]),([8,8,0,1,2,3,4,5,6,7,8],[8])])
def impl_rootOf.B7 : List Nat := [0,0,3,7,0,0,48,127,255,511]
theorem impl_rootOf.tab7 : rtab .any (opsOf Try.f50 7) = impl_rootOf.T7 := by kernel_rfl
theorem impl_rootOf.bits7 : waitsOk impl_rootOf.T7.2 impl_rootOf.B7 = true := by kernel_rfl
set_option maxHeartbeats 8000000 in
set_option maxRecDepth 100000 in
theorem impl_rootOf.calls (k : Nat) : ∀ (A0 : Option Addr) (c0 : Nat) (l0 : List ByteArray) (r : ByteArray) (w : World) (hr0 : Kd.C Kd.string w A0 l0.length l0) (hc0 : l0.length ≤ c0) (h : impl_rootOf.f k l0 = some r),
  Calls Try.prog 50 #[.slice A0 l0.length c0] w fun e w' => e = .returned (.string r) ∧ Below w.heap.size w w' := by
 induction k using Nat.strongRecOn with
 | _ k ih =>
 intro A0 c0 l0 r w hr0 hc0 h
 cases k with
 | zero => exact absurd h (by simp [impl_rootOf.f])
 | succ k =>
 simp only [impl_rootOf.f] at h;have HR0 := Aside0.mk hr0;have HC0 := Aside0.mk hc0;clear hr0 hc0;have HB := Aside0.mk (Below.refl w.heap.size w);have H : (if (l0.length : Int) = 0 then ((impl_Digest.f k ([] : List Int)).bind fun t154 => (some t154)) else (if (l0.length : Int) = 1 then (if 0 < (l0.length : Int) then ((impl_LeafDigest.f k (rdOf ByteArray.empty l0 0)).bind fun t156 => (some t156)) else (none)) else ((impl_half.f k (l0.length : Int)).bind fun t157 => (if 0 ≤ t157 then (if t157 ≤ (l0.length : Int) then ((impl_rootOf.f k (l0.take (t157 : Int).toNat)).bind fun t159 => ((impl_rootOf.f k (l0.drop (t157 : Int).toNat)).bind fun t161 => ((impl_NodeDigest.f k t159 t161).bind fun t162 => (some t162)))) else (none)) else (none))))) = some r := h;clear h
 by_cases c2 : (l0.length : Int) = 0
 ·rw [if_pos c2] at H;have c2b0 : ((l0.length : Int) == 0) = true := beq_iff_eq.mpr c2;have c2b1 : ((l0.length : Int) != 0) = false := bne_eq_false_iff_eq.mpr c2;clear c2;replace H := Option.bind_eq_some_iff.mp H;obtain ⟨t154,A30,H⟩ := H;replace H : (some t154) = some r := H;have A3 := Aside0.mk A30;clear A30;obtain rfl := Option.some.inj H;go_enter Try.func50,Try.ntmps50
  go_wp2_with ((with_reducible refine gate_callee (f := 23) rfl ?_); refine goesL_ (some 8) rfl rfl Try.func23 (by kernel_rfl) rfl #[.slice none 0 0] rfl (by (try simp only [List.map_toArray,List.map_cons,List.map_nil]); rfl) ?_; (refine (impl_Digest.calls k _ _ ([] : List Int) t154 _ ?side1 ?side2 A3.out).mono ?_); (case side1 => exact Kd.C_nil _ _); (case side2 => exact Nat.le_refl _); rintro e w4 ⟨rfl,hb⟩; refine ⟨_,rfl,?_⟩; have n0_ := Aside0.mk (below_step HB.out hb); clear HB; have HB := n0_; clear n0_; (try clear hb); skip)
  go_ret;exact ⟨by rfl,HB.out⟩
 ·rw [if_neg c2] at H;have c2b0 : ((l0.length : Int) == 0) = false := beq_eq_false_iff_ne.mpr c2;have c2b1 : ((l0.length : Int) != 0) = true := bne_iff_ne.mpr c2
  have c2b2 : ¬ (l0 = []) := fun h_ => c2 (by rw [h_]; rfl)
  by_cases c5 : (l0.length : Int) = 1
  ·rw [if_pos c5] at H;have c5b0 : ((l0.length : Int) == 1) = true := beq_iff_eq.mpr c5;have c5b1 : ((l0.length : Int) != 1) = false := bne_eq_false_iff_eq.mpr c5;clear c5
   by_cases c6 : 0 < (l0.length : Int)
   ·rw [if_pos c6] at H;have c6b0 : decide (0 < (l0.length : Int)) = true := decide_eq_true c6;have c6b1 : decide (0 < l0.length) = true := decide_eq_true (by omega);clear c6;replace H := Option.bind_eq_some_iff.mp H;obtain ⟨t156,A70,H⟩ := H;replace H : (some t156) = some r := H;have A7 := Aside0.mk A70;clear A70;obtain rfl := Option.some.inj H;have p155 : 0 ≤ (0 : Int) := (by omega);have q155 : 0 < (l0.length : Int) := of_decide_eq_true (by (with_reducible assumption));obtain ⟨ad155,e155,hx155_0⟩ := Kd.at_string HR0.out 0 p155 q155
    cases e155
    have qi155 : (0 < l0.length) = True := eq_true (by omega)
    (try rw [show (0 : Int).toNat = 0 from rfl] at hx155_0)
    (try rw [Addr.add_zero'] at hx155_0)
    replace p155 := eq_true p155;replace q155 := eq_true q155;go_enter Try.func50,Try.ntmps50
    go_wp2_with ((with_reducible refine gate_callee (f := 17) rfl ?_); refine goesL_ (some 14) rfl rfl Try.func17 (by kernel_rfl) rfl #[.string (rdOf ByteArray.empty l0 0)] rfl (by (try simp only [List.map_toArray,List.map_cons,List.map_nil]); rfl) ?_; (with_reducible refine (impl_LeafDigest.calls k (rdOf ByteArray.empty l0 0) t156 _ A7.out).mono ?_); rintro e w8 ⟨rfl,hb⟩; refine ⟨_,rfl,?_⟩; have n0_ := Aside0.mk (below_step HB.out hb); clear HB; have HB := n0_; clear n0_; (try clear hb); skip)
    go_ret;exact ⟨by rfl,HB.out⟩
   ·rw [if_neg c6] at H;exact absurd H (by simp)
  ·rw [if_neg c5] at H;have c5b0 : ((l0.length : Int) == 1) = false := beq_eq_false_iff_ne.mpr c5;have c5b1 : ((l0.length : Int) != 1) = true := bne_iff_ne.mpr c5;replace H := Option.bind_eq_some_iff.mp H;obtain ⟨t157,A90,H⟩ := H;replace H : (if 0 ≤ t157 then (if t157 ≤ (l0.length : Int) then ((impl_rootOf.f k (l0.take (t157 : Int).toNat)).bind fun t159 => ((impl_rootOf.f k (l0.drop (t157 : Int).toNat)).bind fun t161 => ((impl_NodeDigest.f k t159 t161).bind fun t162 => (some t162)))) else (none)) else (none)) = some r := H;have A9 := Aside0.mk A90;clear A90
   by_cases c10 : 0 ≤ t157
   ·rw [if_pos c10] at H;have c10b0 := eq_true c10;have c10b1 : decide (0 ≤ t157) = true := decide_eq_true c10;clear c10
    by_cases c11 : t157 ≤ (l0.length : Int)
    ·rw [if_pos c11] at H;have c11b0 := eq_true c11;have c11b1 : decide (t157 ≤ (l0.length : Int)) = true := decide_eq_true c11;clear c11;replace H := Option.bind_eq_some_iff.mp H;obtain ⟨t159,A120,H⟩ := H;replace H : ((impl_rootOf.f k (l0.drop (t157 : Int).toNat)).bind fun t161 => ((impl_NodeDigest.f k t159 t161).bind fun t162 => (some t162))) = some r := H;have A12 := Aside0.mk A120;clear A120;have c13b0 := eq_true (of_decide_eq_true (by (with_reducible assumption)) : 0 ≤ t157);have c14b0 := eq_true (of_decide_eq_true (by (with_reducible assumption)) : t157 ≤ (l0.length : Int));replace H := Option.bind_eq_some_iff.mp H;obtain ⟨t161,A150,H⟩ := H;replace H : ((impl_NodeDigest.f k t159 t161).bind fun t162 => (some t162)) = some r := H;have A15 := Aside0.mk A150;clear A150;replace H := Option.bind_eq_some_iff.mp H;obtain ⟨t162,A160,H⟩ := H;replace H : (some t162) = some r := H;have A16 := Aside0.mk A160;clear A160;obtain rfl := Option.some.inj H;go_enter Try.func50,Try.ntmps50
     try go_wp2_with ((with_reducible refine gate_callee (f := 79) rfl ?_); refine goesL_ (some 17) rfl rfl Try.func79 (by kernel_rfl) rfl #[.int .i64 (l0.length : Int)] rfl (by (try simp only [List.map_toArray,List.map_cons,List.map_nil]); rfl) ?_; (with_reducible refine (impl_half.calls k (l0.length : Int) t157 _ A9.out).mono ?_); rintro e w' ⟨rfl,⟨nd,rfl⟩⟩; refine ⟨_,rfl,?_⟩)
     have n0_ := Aside0.mk (below_drew1 (pw_below_drewN HB.out nd));clear HB;have HB := n0_;clear n0_;obtain ⟨i018,hi018,_,hsz18,_⟩ := info_parts info9;obtain ⟨hcut18,hA18,hC18⟩ := print_take_of (P := Try.prog) Value.string (⟨#[]⟩ : ByteArray) 24 9 .i64 Try.underlying24 hi018 hsz18 A0 c0 l0 t157 (of_decide_eq_true (by (with_reducible assumption))) (of_decide_eq_true (by (with_reducible assumption))) HC0.out;have HR158 := Aside0.mk (Kd.C_of_reads (h1 := fun _ => rfl) (hA18 _ (Kd.reads_of_C HR0.out)));have HC158 := Aside0.mk hC18;clear hA18 hC18 hi018 hsz18;obtain ⟨i019,hi019,_,hsz19,_⟩ := info_parts info9;obtain ⟨A19,hcut19,hA19,hC19⟩ := print_drop_of (P := Try.prog) Value.string (⟨#[]⟩ : ByteArray) 24 9 .i64 Try.underlying24 hi019 hsz19 A0 c0 l0 t157 (of_decide_eq_true (by (with_reducible assumption))) (of_decide_eq_true (by (with_reducible assumption))) HC0.out;have HR160 := Aside0.mk (Kd.C_of_reads (h1 := fun _ => rfl) (hA19 _ (Kd.reads_of_C HR0.out)));have HC160 := Aside0.mk hC19;clear hA19 hC19 hi019 hsz19;refine start_ (n := 10) (S := fun w' => True) (ds := []) #[false,false,false,false,false,false,false,false,false,false] (by kernel_rfl) rfl rfl trivial (fun hHeld => ?_); refine with_tabW impl_rootOf.tab7 impl_rootOf.bits7 (fun HT_ HW_ => ?_)
     generalize (w.drewN nd).drew = w17 at HB HR158 HR160 hHeld ⊢
     refine pure_ (i := 0) (N := some 18) (v := ?_) (a' := ?_) #[true,false,false,false,false,false,false,false,false,false] rfl rfl (any_of HT_.out (by kernel_rfl)) (fun _ _ _ h => h) (Or.inl ⟨by rfl,?_⟩) ?_ ?_;rotate_left
     ·intro w';go_simp;with_reducible rfl
     rotate_left
     ·simp only [wf_preprocess];rfl
     refine pure_ (i := 1) (N := some 19) (v := ?_) (a' := ?_) #[true,true,false,false,false,false,false,false,false,false] rfl rfl (any_of HT_.out (by kernel_rfl)) (fun _ _ _ h => h) (Or.inl ⟨by rfl,?_⟩) ?_ ?_;rotate_left
     ·intro w';go_simp;with_reducible rfl
     rotate_left
     ·simp only [wf_preprocess];rfl
     refine pure_ (i := 2) (N := some 20) (v := ?_) (a' := ?_) #[true,true,true,false,false,false,false,false,false,false] rfl rfl (any_of HT_.out (by kernel_rfl)) (fun _ _ _ h => h) (Or.inl ⟨by rfl,?_⟩) ?_ ?_;rotate_left
     ·intro w';go_simp;with_reducible rfl
     rotate_left
     ·simp only [wf_preprocess];rfl
     refine pure_ (i := 4) (N := some 22) (v := ?_) (a' := ?_) #[true,true,true,false,true,false,false,false,false,false] rfl rfl (any_of HT_.out (by kernel_rfl)) (fun _ _ _ h => h) (Or.inl ⟨by rfl,?_⟩) ?_ ?_;rotate_left
     ·intro w';go_simp;with_reducible rfl
     rotate_left
     ·simp only [wf_preprocess];rfl
     refine pure_ (i := 5) (N := some 23) (v := ?_) (a' := ?_) #[true,true,true,false,true,true,false,false,false,false] rfl rfl (any_of HT_.out (by kernel_rfl)) (fun _ _ _ h => h) (Or.inl ⟨by rfl,?_⟩) ?_ ?_;rotate_left
     ·intro w';go_simp;with_reducible rfl
     rotate_left
     ·simp only [wf_preprocess];rfl
     refine pure_ (i := 6) (N := some 24) (v := ?_) (a' := ?_) #[true,true,true,false,true,true,true,false,false,false] rfl rfl (any_of HT_.out (by kernel_rfl)) (fun _ _ _ h => h) (Or.inl ⟨by rfl,?_⟩) ?_ ?_;rotate_left
     ·intro w';go_simp;with_reducible rfl
     rotate_left
     ·simp only [wf_preprocess];rfl
     refine one_ (i := 3) (N := some 21) #[true,true,true,true,true,true,true,false,false,false] rfl rfl (one_of HT_.out (by kernel_rfl)) (by decide) (fun K hK => ?_);refine goes_ Try.func50 (by kernel_rfl) rfl #[.slice A0 (l0.take (t157 : Int).toNat).length c0] (by rfl) rfl rfl (by (try simp only [List.map_toArray,List.map_cons,List.map_nil]); (rw [show (l0.take (t157 : Int).toNat).length = t157.toNat from (by rw [List.length_take]; have h_ : (t157 : Int) ≤ (l0.length : Int) := of_decide_eq_true (by (with_reducible assumption)); omega)] <;> rfl)) ?_
     with_reducible refine (ih k (by omega) _ _ (l0.take (t157 : Int).toNat) t159 _ ?side1 ?side2 A12.out).mono ?_
     (case side1 => repeat (exact (Kd.C_below HR158.out HB.out)))
     (case side2 => exact HC158.out)
     rintro e w20 ⟨rfl,hb⟩;refine ⟨_,rfl,?_⟩;have n0_ := Aside0.mk (below_step HB.out hb);clear HB;have HB := n0_;clear n0_
     (try clear hb)
     skip
     skip
     skip
     refine hK.out _ _ trivial (fun hHeld => ?_);clear hK K;refine norm_ (a' := ?_) ?_ ?_;rotate_left
     ·show Act.put _ (some 21) _ = _
      simp only [wf_preprocess];rfl
     refine one_ (i := 7) (N := some 25) #[true,true,true,true,true,true,true,true,false,false] rfl rfl (one_of HT_.out (by kernel_rfl)) (by decide) (fun K hK => ?_);refine goes_ Try.func50 (by kernel_rfl) rfl #[.slice A19 (l0.drop (t157 : Int).toNat).length (c0 - t157.toNat)] (by rfl) rfl rfl (by (try simp only [List.map_toArray,List.map_cons,List.map_nil]); (rw [show (l0.drop (t157 : Int).toNat).length = (l0.length - t157.toNat) from List.length_drop] <;> rfl)) ?_
     with_reducible refine (ih k (by omega) _ _ (l0.drop (t157 : Int).toNat) t161 _ ?side1 ?side2 A15.out).mono ?_
     (case side1 => repeat (exact (Kd.C_below HR160.out HB.out)))
     (case side2 => exact HC160.out)
     rintro e w21 ⟨rfl,hb⟩;refine ⟨_,rfl,?_⟩;have n0_ := Aside0.mk (below_step HB.out hb);clear HB;have HB := n0_;clear n0_
     (try clear hb)
     skip
     skip
     skip
     refine hK.out _ _ trivial (fun hHeld => ?_);clear hK K;refine norm_ (a' := ?_) ?_ ?_;rotate_left
     ·show Act.put _ (some 25) _ = _
      simp only [wf_preprocess];rfl
     refine one_ (i := 8) (N := some 26) #[true,true,true,true,true,true,true,true,true,false] rfl rfl (one_of HT_.out (by kernel_rfl)) (by decide) (fun K hK => ?_);refine goes_ Try.func18 (by kernel_rfl) rfl #[.string t159,.string t161] (by rfl) rfl rfl (by (try simp only [List.map_toArray,List.map_cons,List.map_nil]); rfl) ?_
     with_reducible refine (impl_NodeDigest.calls k t159 t161 t162 _ A16.out).mono ?_
     rintro e w22 ⟨rfl,hb⟩;refine ⟨_,rfl,?_⟩;have n0_ := Aside0.mk (below_step HB.out hb);clear HB;have HB := n0_;clear n0_
     (try clear hb)
     skip
     skip
     skip
     refine hK.out _ _ trivial (fun hHeld => ?_);clear hK K;refine norm_ (a' := ?_) ?_ ?_;rotate_left
     ·show Act.put _ (some 26) _ = _
      simp only [wf_preprocess];rfl
     refine pure_ (i := 9) (N := some 2) (v := ?_) (a' := ?_) #[true,true,true,true,true,true,true,true,true,true] rfl rfl (any_of HT_.out (by kernel_rfl)) (fun _ _ _ h => h) (Or.inl ⟨by rfl,?_⟩) ?_ ?_;rotate_left
     ·intro w';go_simp;with_reducible rfl
     rotate_left
     ·simp only [wf_preprocess];rfl
     refine done_ (done_of HT_.out (by kernel_rfl)) ?_
     try go_wp2
     go_ret;exact ⟨by rfl,HB.out⟩
    ·rw [if_neg c11] at H;exact absurd H (by simp)
   ·rw [if_neg c10] at H;exact absurd H (by simp)

end Go.Proofs.Ytgbbgdlenadhlaa.PJ
