/- The machine's side of Go functions: each as a plain function,and that the call does what it says. Written by a program (wip/mprint). -/
import Derived.Test.YtgbbgdlenadhlaaPJx0
import Derived.Test.YtgbbgdlenadhlaaPJx10
import Derived.Test.YtgbbgdlenadhlaaPJx12
namespace Go.Proofs.Ytgbbgdlenadhlaa.PJ
open Go.RowKit Go.Proofs.YtgbbgdlenadhlaaW.PrintWords Go.Proofs.YtgbbgdlenadhlaaW.PrintLast Go.Proofs.YtgbbgdlenadhlaaW.PrintMore
attribute [local go_sem] max2_int min2_int max_two min_two max_three min_three max_four min_four   -- for this text's walks alone
set_option linter.unusedVariables false
set_option linter.unusedSimpArgs false

/-! ### spec_LedgerOk: function 39 -/
def spec_LedgerOk.f (k : Nat) (a0_0 : Int) (l0_1 : List (S50)) : Option (Bool) := (spec_l1In.f a0_0 0 900).bind fun t370 => (if t370 = true then ((spec_AcctsOk.f k l0_1).bind fun t371 => (some t371)) else (some false))
theorem spec_LedgerOk.mono : ∀ a0 a1 k,LeO (spec_LedgerOk.f k a0 a1) (spec_LedgerOk.f (k + 1) a0 a1) := by
 intro a0 a1 k;unfold spec_LedgerOk.f
 repeat' first
   | (with_reducible exact spec_AcctsOk.mono _ _)
   | (with_reducible exact LeO.refl _)
   | (with_reducible exact LeO.none _)
   | (with_reducible refine LeO.ite ?_ ?_)
   | (with_reducible refine LeO.bind ?_ (fun _ => ?_))
   | exact spec_AcctsOk.mono _ _
   | exact LeO.none _
set_option maxHeartbeats 8000000 in
set_option maxRecDepth 100000 in
theorem spec_LedgerOk.calls (k : Nat) (a0_0 : Int) (A0_1 : Option Addr) (c0_1 : Nat) (l0_1 : List (S50)) (r : Bool) (w : World) (hr0_1 : Kd.C k50 w A0_1 l0_1.length l0_1) (hc0_1 : l0_1.length ≤ c0_1) (h : spec_LedgerOk.f k a0_0 l0_1 = some r) :
  Calls Try.prog 39 #[.agg #[.int .i64 a0_0,.slice A0_1 l0_1.length c0_1]] w fun e w' => e = .returned (.bool r) ∧ Below w.heap.size w w' := by
 have hu44 := Try.underlying44;have HR0_1 := Aside0.mk hr0_1;have HC0_1 := Aside0.mk hc0_1;clear hr0_1 hc0_1;have HB := Aside0.mk (Below.refl w.heap.size w);have H : ((spec_l1In.f a0_0 0 900).bind fun t370 => (if t370 = true then ((spec_AcctsOk.f k l0_1).bind fun t371 => (some t371)) else (some false))) = some r := h;clear h;replace H := Option.bind_eq_some_iff.mp H;obtain ⟨t370,A20,H⟩ := H;replace H : (if t370 = true then ((spec_AcctsOk.f k l0_1).bind fun t371 => (some t371)) else (some false)) = some r := H;have A2 := Aside0.mk A20;clear A20
 by_cases c3 : t370 = true
 ·subst c3
  have H1 : ((spec_AcctsOk.f k l0_1).bind fun t371 => (some t371)) = some r := by rw [if_pos rfl] at H; exact H
  clear H;have H := H1;clear H1;replace H := Option.bind_eq_some_iff.mp H;obtain ⟨t371,A40,H⟩ := H;replace H : (some t371) = some r := H;have A4 := Aside0.mk A40;clear A40;obtain rfl := Option.some.inj H;go_enter Try.func39,Try.ntmps39
  go_wp2_with (first | ((with_reducible refine gate_dst (N := 1) rfl ?_); refine box_event ?hg (N := 1) ?hd (cs := #[.int .i64 a0_0,.slice A0_1 l0_1.length c0_1]) (t := 44) ?hr ?_; (case hd => rfl); (case hg => rfl); (case hr => (go_simp; done)); intro gb369 hg w5 hbox hb; have n0_ := Aside0.mk (below_step HB.out hb); have n1_ := Aside0.mk (hbox); have n2_ := Aside0.mk (by rw [hg]; exact (below_size HB.out) : w.heap.size ≤ gb369); have n3_ := Aside0.mk (by rw [hg]; exact (below_size HB.out) : w.heap.size ≤ gb369); clear HB; have HB := n0_; have BK369 := n1_; have GW369 := n2_; have GE369 := n3_; clear n0_ n1_ n2_ n3_; clear hb hbox hg; have hcz6_0 : w5.cell? ⟨gb369,0,none⟩ = some (.int .i64 a0_0) := (blk_cell BK369.out 0).trans rfl; have hcz6_1 : w5.cell? ⟨gb369,1,none⟩ = some (.slice A0_1 l0_1.length c0_1) := (blk_cell BK369.out 1).trans rfl; have hfz6_0 := blk_frozen BK369.out 0; have hfz6_1 := blk_frozen BK369.out 1) | ((with_reducible refine gate_callee (f := 63) rfl ?_); refine goesL_ (some 5) rfl rfl Try.func63 (by kernel_rfl) rfl #[.int .i64 a0_0,.int .i64 0,.int .i64 900] rfl (by (try simp only [List.map_toArray,List.map_cons,List.map_nil]); rfl) ?_; (with_reducible refine (spec_l1In.calls a0_0 0 900 true _ A2.out).mono ?_); rintro e w' ⟨rfl,⟨nd,rfl⟩⟩; refine ⟨_,rfl,?_⟩) | (go_at_call 70; (with_reducible refine (spec_AcctsOk.calls k _ _ l0_1 t371 _ ?side1 ?side2 A4.out).mono ?_); (case side1 => repeat (exact (Kd.C_below HR0_1.out (by repeat (with_reducible first | exact HB.out | apply pw_below_drewN))))); (case side2 => exact HC0_1.out); rintro e w7 ⟨rfl,hb⟩; have n0_ := Aside0.mk (blk_below (g := gb369) (o := .cells #[.int .i64 a0_0,.slice A0_1 l0_1.length c0_1] 44 (0,0)) (by (with_reducible repeat (refine blk_drewN ?_ _)); exact BK369.out) hb); have n1_ := Aside0.mk (below_step (by repeat (with_reducible first | exact HB.out | apply pw_below_drewN)) hb); clear BK369; clear HB; have BK369 := n0_; have HB := n1_; clear n0_ n1_; (try clear hb); skip))
  go_ret;exact ⟨by rfl,HB.out⟩
 ·replace c3 := Bool.eq_false_iff.mpr c3;subst c3
  have H1 : (some false) = some r := by rw [if_neg (show ¬ (false = true) by decide)] at H; exact H
  clear H;have H := H1;clear H1;obtain rfl := Option.some.inj H;go_enter Try.func39,Try.ntmps39
  go_wp2_with (first | ((with_reducible refine gate_dst (N := 1) rfl ?_); refine box_event ?hg (N := 1) ?hd (cs := #[.int .i64 a0_0,.slice A0_1 l0_1.length c0_1]) (t := 44) ?hr ?_; (case hd => rfl); (case hg => rfl); (case hr => (go_simp; done)); intro gb369 hg w8 hbox hb; have n0_ := Aside0.mk (below_step HB.out hb); have n1_ := Aside0.mk (hbox); have n2_ := Aside0.mk (by rw [hg]; exact (below_size HB.out) : w.heap.size ≤ gb369); have n3_ := Aside0.mk (by rw [hg]; exact (below_size HB.out) : w.heap.size ≤ gb369); clear HB; have HB := n0_; have BK369 := n1_; have GW369 := n2_; have GE369 := n3_; clear n0_ n1_ n2_ n3_; clear hb hbox hg; have hcz9_0 : w8.cell? ⟨gb369,0,none⟩ = some (.int .i64 a0_0) := (blk_cell BK369.out 0).trans rfl; have hcz9_1 : w8.cell? ⟨gb369,1,none⟩ = some (.slice A0_1 l0_1.length c0_1) := (blk_cell BK369.out 1).trans rfl; have hfz9_0 := blk_frozen BK369.out 0; have hfz9_1 := blk_frozen BK369.out 1) | ((with_reducible refine gate_callee (f := 63) rfl ?_); refine goesL_ (some 5) rfl rfl Try.func63 (by kernel_rfl) rfl #[.int .i64 a0_0,.int .i64 0,.int .i64 900] rfl (by (try simp only [List.map_toArray,List.map_cons,List.map_nil]); rfl) ?_; (with_reducible refine (spec_l1In.calls a0_0 0 900 false _ A2.out).mono ?_); rintro e w' ⟨rfl,⟨nd,rfl⟩⟩; refine ⟨_,rfl,?_⟩))
  go_ret;exact ⟨by rfl,by repeat (with_reducible first | exact HB.out | apply pw_below_drewN)⟩

/-! ### spec_PutNum: function 94 -/
mutual
def spec_PutNum.j0 : Nat → Int → List Int → Option (List Int)
 | 0,_,_ => none
 | k + 1,x1,x5 => if x1 < (-1000000000) then (spec_PutNum.j1 k (-1000000000) x5) else (spec_PutNum.j1 k x1 x5)
def spec_PutNum.j1 : Nat → Int → List Int → Option (List Int)
 | 0,_,_ => none
 | k + 1,x1,x5 => if x1 < 0 then (spec_PutNum.j2 k x5 (wrap64 ((wrap64 ((-2) * x1)) - 1))) else (spec_PutNum.j2 k x5 (wrap64 (2 * x1)))
def spec_PutNum.j2 : Nat → List Int → Int → Option (List Int)
 | 0,_,_ => none
 | k + 1,x5,x6 => spec_PutNum.l0 k x5 x6
def spec_PutNum.l0 : Nat → List Int → Int → Option (List Int)
 | 0,_,_ => none
 | k + 1,x5,x6 => if x6 > 127 then (if x5.length < 140737488355328 then (spec_PutNum.l0 k (x5 ++ [(Go.bits .or .i64 (Go.bits .and .i64 x6 127) 128) % 256]) (x6 / 128)) else (none)) else (if x5.length < 140737488355328 then (some (x5 ++ [(x6) % 256])) else (none))
end
def spec_PutNum.f (k : Nat) (l0 : List Int) (a1 : Int) : Option (List Int) := (some (([] : List Int) : List Int)).bind fun y372 => (if y372.length + l0.length < 140737488355328 then ((some (y372 ++ l0 : List Int)).bind fun y375 => (if a1 > 1000000000 then (spec_PutNum.j0 k 1000000000 y375) else (spec_PutNum.j0 k a1 y375))) else (none))
theorem spec_PutNum.mono_l : ∀ k,(∀ y0 y1,LeO (spec_PutNum.j0 k y0 y1) (spec_PutNum.j0 (k + 1) y0 y1)) ∧ (∀ y0 y1,LeO (spec_PutNum.j1 k y0 y1) (spec_PutNum.j1 (k + 1) y0 y1)) ∧ (∀ y0 y1,LeO (spec_PutNum.j2 k y0 y1) (spec_PutNum.j2 (k + 1) y0 y1)) ∧ (∀ y0 y1,LeO (spec_PutNum.l0 k y0 y1) (spec_PutNum.l0 (k + 1) y0 y1))
 | 0 => ⟨fun _ _ r h => by simp [spec_PutNum.j0] at h,fun _ _ r h => by simp [spec_PutNum.j1] at h,fun _ _ r h => by simp [spec_PutNum.j2] at h,fun _ _ r h => by simp [spec_PutNum.l0] at h⟩
 | k + 1 => by
  obtain ⟨ih0,ih1,ih2,ih3⟩ := spec_PutNum.mono_l k;refine ⟨?_,?_,?_,?_⟩
  ·intro y0 y1;unfold spec_PutNum.j0
   repeat' first
   | (with_reducible exact ih0 _ _)
   | (with_reducible exact ih1 _ _)
   | (with_reducible exact ih2 _ _)
   | (with_reducible exact ih3 _ _)
   | (with_reducible exact LeO.refl _)
   | (with_reducible exact LeO.none _)
   | (with_reducible refine LeO.ite ?_ ?_)
   | (with_reducible refine LeO.bind ?_ (fun _ => ?_))
   | exact ih0 _ _
   | exact ih1 _ _
   | exact ih2 _ _
   | exact ih3 _ _
   | exact LeO.none _
  ·intro y0 y1;unfold spec_PutNum.j1
   repeat' first
   | (with_reducible exact ih0 _ _)
   | (with_reducible exact ih1 _ _)
   | (with_reducible exact ih2 _ _)
   | (with_reducible exact ih3 _ _)
   | (with_reducible exact LeO.refl _)
   | (with_reducible exact LeO.none _)
   | (with_reducible refine LeO.ite ?_ ?_)
   | (with_reducible refine LeO.bind ?_ (fun _ => ?_))
   | exact ih0 _ _
   | exact ih1 _ _
   | exact ih2 _ _
   | exact ih3 _ _
   | exact LeO.none _
  ·intro y0 y1;unfold spec_PutNum.j2
   repeat' first
   | (with_reducible exact ih0 _ _)
   | (with_reducible exact ih1 _ _)
   | (with_reducible exact ih2 _ _)
   | (with_reducible exact ih3 _ _)
   | (with_reducible exact LeO.refl _)
   | (with_reducible exact LeO.none _)
   | (with_reducible refine LeO.ite ?_ ?_)
   | (with_reducible refine LeO.bind ?_ (fun _ => ?_))
   | exact ih0 _ _
   | exact ih1 _ _
   | exact ih2 _ _
   | exact ih3 _ _
   | exact LeO.none _
  ·intro y0 y1;unfold spec_PutNum.l0
   repeat' first
   | (with_reducible exact ih0 _ _)
   | (with_reducible exact ih1 _ _)
   | (with_reducible exact ih2 _ _)
   | (with_reducible exact ih3 _ _)
   | (with_reducible exact LeO.refl _)
   | (with_reducible exact LeO.none _)
   | (with_reducible refine LeO.ite ?_ ?_)
   | (with_reducible refine LeO.bind ?_ (fun _ => ?_))
   | exact ih0 _ _
   | exact ih1 _ _
   | exact ih2 _ _
   | exact ih3 _ _
   | exact LeO.none _
theorem spec_PutNum.mono : ∀ a0 a1 k,LeO (spec_PutNum.f k a0 a1) (spec_PutNum.f (k + 1) a0 a1) := by
 intro a0 a1 k;obtain ⟨ih0,ih1,ih2,ih3⟩ := spec_PutNum.mono_l k;unfold spec_PutNum.f
 repeat' first
   | (with_reducible exact ih0 _ _)
   | (with_reducible exact ih1 _ _)
   | (with_reducible exact ih2 _ _)
   | (with_reducible exact ih3 _ _)
   | (with_reducible exact LeO.refl _)
   | (with_reducible exact LeO.none _)
   | (with_reducible refine LeO.ite ?_ ?_)
   | (with_reducible refine LeO.bind ?_ (fun _ => ?_))
   | exact ih0 _ _
   | exact ih1 _ _
   | exact ih2 _ _
   | exact ih3 _ _
   | exact LeO.none _
set_option maxHeartbeats 8000000 in
set_option maxRecDepth 100000 in
theorem spec_PutNum.calls (k : Nat) (A0 : Option Addr) (c0 : Nat) (l0 : List Int) (a1 : Int) (r : List Int) (w : World) (hr0 : Kd.C (Kd.int .u8) w A0 l0.length l0) (hc0 : l0.length ≤ c0) (h : spec_PutNum.f k l0 a1 = some r) :
  Calls Try.prog 94 #[.slice A0 l0.length c0,.int .i64 a1] w fun e w' => ∃ v0_ : Value,e = .returned (v0_) ∧ Kd.R (Kd.int .u8) 5 w' w.heap.size (fun _ => True) v0_ r ∧ Below w.heap.size w w' := by
 have HR0 := Aside0.mk hr0;have HC0 := Aside0.mk hc0;clear hr0 hc0;have HB := Aside0.mk (Below.refl w.heap.size w);have H : ((some (([] : List Int) : List Int)).bind fun y372 => (if y372.length + l0.length < 140737488355328 then ((some (y372 ++ l0 : List Int)).bind fun y375 => (if a1 > 1000000000 then (spec_PutNum.j0 k 1000000000 y375) else (spec_PutNum.j0 k a1 y375))) else (none))) = some r := h;clear h;obtain ⟨y372,hy372⟩ : ∃ y_ : List Int,y_ = ([] : List Int) := ⟨_,rfl⟩
 replace H : (if y372.length + l0.length < 140737488355328 then ((some (y372 ++ l0 : List Int)).bind fun y375 => (if a1 > 1000000000 then (spec_PutNum.j0 k 1000000000 y375) else (spec_PutNum.j0 k a1 y375))) else (none)) = some r := by (have H2_ := (Option.bind_some _ _).symm.trans H; rw [hy372]; with_reducible exact H2_)
 have Ny372 := Aside0.mk hy372;clear hy372
 by_cases c3 : y372.length + l0.length < 140737488355328
 ·rw [if_pos c3] at H;have LMc3 := Aside0.mk c3;clear c3;obtain ⟨y375,hy375⟩ : ∃ y_ : List Int,y_ = (y372 ++ l0) := ⟨_,rfl⟩
  replace H : (if a1 > 1000000000 then (spec_PutNum.j0 k 1000000000 y375) else (spec_PutNum.j0 k a1 y375)) = some r := by (have H2_ := (Option.bind_some _ _).symm.trans H; rw [hy375]; with_reducible exact H2_)
  have Ny375 := Aside0.mk hy375;clear hy375;have HC4 := Aside0.mk H;clear H;go_enter Try.func94,Try.ntmps94
  go_upto_if 11 with (first | ((with_reducible refine gate_dst (N := 7) rfl ?_); refine Kd.R_lit (Kd.int .u8) _ 5 ?hg (N := 7) ?hd (xs := ([] : List Int)) (inner := []) (ok := fun _ => True) (okp := fun _ => True) ?hr ?hp (fun _ hk => hk) trivial (Below.refl _ _) (Nat.le_refl _) (by simp) ?_; (case hd => rfl); (case hg => rfl); (case hr => (go_simp; done)); (case hp => exact (Reps.none _ _)); intro v373 w5 ho6 hb hg_ hnew_; clear hg_ hnew_; (rw [← Ny372.out] at ho6); have n0_ := Aside0.mk (Kd.R_lower ho6 (below_size HB.out)); have n1_ := Aside0.mk (below_step HB.out hb); clear HB; have HO374 := n0_; have HB := n1_; clear n0_ n1_; clear hb ho6) | ((with_reducible refine gate_builtin (b := .append) (xs := #[.tmp 7,.tmp 8]) rfl ?_); at_builtin; refine Kd.R_append_rows (Kd.int .u8) (w0 := w) w.heap.size rfl (.tmp 7) (.tmp 8) 22 5 (.int .u8 0) 1 rfl Try.underlying22 info5 rfl (by decide) (by omega) v373 y372 l0 _ _ _ (fun _ => True) (fun _ => False) rfl rfl ?aO ?aR (fun _ _ h => h) (fun _ h => h.elim) ?aF ?aB ?aS ?aL ?_; (case aR => repeat (exact (Kd.C_below HR0.out HB.out))); (case aB => exact HB.out); (case aF => exact (fun _ _ => trivial)); (case aO => exact (by exact HO374.out)); (case aS => exact (below_size HB.out)); (case aL => have := LMc3.out; omega); intro v376 w7 ho hb hg hat; rw [← Ny375.out] at ho; have n0_ := Aside0.mk (hb); have n1_ := Aside0.mk (ho); clear HB; clear HO374; have HB := n0_; have HO377 := n1_; clear n0_ n1_; clear ho hb hg hat))
  skip
  go_cut [1] (fun v1 wc => ∃ (kq : Nat) (x1_3 : Int),v1 = .int .i64 x1_3 ∧ Aside0 (spec_PutNum.j0 kq x1_3 y375 = some r) ∧ Aside0 (kq ≤ k) ∧ Aside0 (Kd.R (Kd.int .u8) 5 wc w.heap.size (fun _ => True) v376 y375) ∧ Aside0 (Below w.heap.size w wc))
  case first =>
   have H := HC4.out;clear HC4
   by_cases c8 : a1 > 1000000000
   ·rw [if_pos c8] at H;have c8b0 : decide (1000000000 < a1) = true := decide_eq_true c8;clear c8
    (rw [c8b0])
    have H' := Aside0.mk H;clear H;go_wp2
    go_meet
    case rel => exact ⟨_,(1000000000),(by rfl),H',⟨by omega⟩,⟨by exact HO377.out⟩,⟨HB.out⟩⟩
   ·rw [if_neg c8] at H;have c8b0 : decide (1000000000 < a1) = false := decide_eq_false c8;clear c8
    (rw [c8b0])
    have H' := Aside0.mk H;clear H;go_wp2
    go_meet
    case rel => exact ⟨_,(a1),(by rfl),H',⟨by omega⟩,⟨by exact HO377.out⟩,⟨HB.out⟩⟩
  case rest =>
   clear HC4
   try clear p2
   try clear c3
   try clear c8
   try clear c8b0
   obtain ⟨kq,x1_3,rfl,HA,HJ3,HO_5,HB⟩ := hcut
   cases kq with
   | zero => exact absurd HA.out (by simp [spec_PutNum.j0])
   | succ kj3 =>
    have H := HA.out;clear HA;simp only [spec_PutNum.j0] at H;have HC9 := Aside0.mk H;clear H
    go_upto_if 13 with (fail)
    go_cut [1] (fun v1 wc => ∃ (kq : Nat) (x1_8 : Int),v1 = .int .i64 x1_8 ∧ Aside0 (spec_PutNum.j1 kq x1_8 y375 = some r) ∧ Aside0 (kq ≤ kj3) ∧ Aside0 (Kd.R (Kd.int .u8) 5 wc w.heap.size (fun _ => True) v376 y375) ∧ Aside0 (Below w.heap.size w wc))
    case first =>
     have H := HC9.out;clear HC9
     by_cases c10 : x1_3 < (-1000000000)
     ·rw [if_pos c10] at H;have c10b0 : decide (x1_3 < (-1000000000)) = true := decide_eq_true c10;clear c10
      (rw [c10b0])
      have H' := Aside0.mk H;clear H;go_wp2
      go_meet
      case rel => exact ⟨_,(-1000000000),(by rfl),H',⟨by have := HJ3.out; omega⟩,⟨by exact HO_5.out⟩,⟨HB.out⟩⟩
     ·rw [if_neg c10] at H;have c10b0 : decide (x1_3 < (-1000000000)) = false := decide_eq_false c10;clear c10
      (rw [c10b0])
      have H' := Aside0.mk H;clear H;go_wp2
      go_meet
      case rel => exact ⟨_,(x1_3),(by rfl),H',⟨by have := HJ3.out; omega⟩,⟨by exact HO_5.out⟩,⟨HB.out⟩⟩
    case rest =>
     clear HC9
     try clear c1
     try clear p2
     try clear c3
     try clear c8
     try clear c8b0
     try clear c9
     try clear c10
     try clear c10b0
     try clear p2
     obtain ⟨kq,x1_8,rfl,HA,HJ8,HO_5,HB⟩ := hcut
     cases kq with
     | zero => exact absurd HA.out (by simp [spec_PutNum.j1])
     | succ kj8 =>
      have H := HA.out;clear HA;simp only [spec_PutNum.j1] at H;have HC11 := Aside0.mk H;clear H
      go_upto_if 17 with (fail)
      go_cut [6] (fun v6 wc => ∃ (kq : Nat) (x6_10 : Int),v6 = .int .i64 x6_10 ∧ Aside0 (spec_PutNum.j2 kq y375 x6_10 = some r) ∧ Aside0 (kq ≤ kj8) ∧ Aside0 (Kd.R (Kd.int .u8) 5 wc w.heap.size (fun _ => True) v376 y375) ∧ Aside0 (Below w.heap.size w wc))
      case first =>
       have H := HC11.out;clear HC11
       by_cases c12 : x1_8 < 0
       ·rw [if_pos c12] at H;have c12b0 : decide (x1_8 < 0) = true := decide_eq_true c12;clear c12
        (rw [c12b0])
        have H' := Aside0.mk H;clear H;go_wp2
        go_meet
        case rel => exact ⟨_,(wrap64 ((wrap64 ((-2) * x1_8)) - 1)),(by rfl),H',⟨by have := HJ3.out; have := HJ8.out; omega⟩,⟨by exact HO_5.out⟩,⟨HB.out⟩⟩
       ·rw [if_neg c12] at H;have c12b0 : decide (x1_8 < 0) = false := decide_eq_false c12;clear c12
        (rw [c12b0])
        have H' := Aside0.mk H;clear H;go_wp2
        go_meet
        case rel => exact ⟨_,(wrap64 (2 * x1_8)),(by rfl),H',⟨by have := HJ3.out; have := HJ8.out; omega⟩,⟨by exact HO_5.out⟩,⟨HB.out⟩⟩
      case rest =>
       clear HC11
       try clear c1
       try clear p2
       try clear c3
       try clear p6
       try clear c8
       try clear c8b0
       try clear c9
       try clear c10
       try clear c10b0
       try clear c12
       try clear c12b0
       try clear p2
       obtain ⟨kq,x6_10,rfl,HA,HJ10,HO_5,HB⟩ := hcut
       cases kq with
       | zero => exact absurd HA.out (by simp [spec_PutNum.j2])
       | succ kj10 =>
        have H := HA.out;clear HA;simp only [spec_PutNum.j2] at H;have H' := Aside0.mk H;clear H;go_wp2
        go_loopg [5,6] kj10 (fun kq v5 v6 w' => ∃ (x5_4 : List Int) (x6_4 : Int),v6 = .int .i64 x6_4 ∧ Aside0 (spec_PutNum.l0 kq x5_4 x6_4 = some r) ∧ Aside0 (kq ≤ kj10) ∧ Aside0 (Kd.R (Kd.int .u8) 5 w' w.heap.size (fun _ => True) v5 x5_4) ∧ Aside0 (Below w.heap.size w w'))
        case atStart => exact ⟨(y375),(x6_10),(by rfl),H',⟨Nat.le_refl _⟩,⟨by exact HO_5.out⟩,⟨HB.out⟩⟩
        case round =>
         clear H'
         try clear c1
         try clear p2
         try clear c3
         try clear p6
         try clear c8
         try clear c8b0
         try clear c9
         try clear c10
         try clear c10b0
         try clear c12
         try clear c12b0
         try clear p2
         try clear p6
         obtain ⟨x5_4,x6_4,rfl,HA,HK4,HO_5,HB⟩ := hrel
         cases gk with
         | zero => exact absurd HA.out (by simp [spec_PutNum.l0])
         | succ k4 =>
          have H := HA.out;clear HA;simp only [spec_PutNum.l0] at H
          by_cases c13 : x6_4 > 127
          ·rw [if_pos c13] at H;have c13b0 : decide (127 < x6_4) = true := decide_eq_true c13;clear c13
           by_cases c14 : x5_4.length < 140737488355328
           ·rw [if_pos c14] at H;have LMc14 := Aside0.mk c14;clear c14;obtain ⟨y378,hy378⟩ : ∃ y_ : List Int,y_ = (x5_4 ++ [(Go.bits .or .i64 (Go.bits .and .i64 x6_4 127) 128) % 256]) := ⟨_,rfl⟩
            replace H : (spec_PutNum.l0 k4 y378 (x6_4 / 128)) = some r := by (rw [hy378]; with_reducible exact H)
            have Ny378 := Aside0.mk hy378;clear hy378;have H' := Aside0.mk H;clear H
            go_wp2_with ((with_reducible refine gate_builtin (b := .append) (xs := #[.tmp 23,.tmp 28]) rfl ?_); at_builtin; refine Kd.R_append (Kd.int .u8) (w0 := w) w.heap.size rfl (.tmp 23) (.tmp 28) 22 5 (.int .u8 0) 1 rfl Try.underlying22 info5 rfl (by decide) (by omega) u5 x5_4 ((Go.bits .or .i64 (Go.bits .and .i64 x6_4 127) 128) % 256) [.int .u8 ((Go.bits .or .i64 (Go.bits .and .i64 x6_4 127) 128) % 256)] (fun _ => True) (fun _ => False) rfl rfl ?aP (fun _ hk => hk.elim) ?aF ?aO ?aB ?aS ?aL ?_; (case aP => exact rfl); (case aB => exact HB.out); (case aF => exact (fun _ _ => trivial)); (case aO => exact (by exact HO_5.out)); (case aS => exact (below_size HB.out)); (case aL => have := LMc14.out; omega); intro v379 w15 ho hb hg hat; rw [← Ny378.out] at ho; have n0_ := Aside0.mk (hb); have n1_ := Aside0.mk (ho); clear HB; clear HO_5; have HB := n0_; have HO380 := n1_; clear n0_ n1_; clear ho hb hg hat)
            go_roundg k4
            case measure => have := HJ3.out; have := HJ8.out; have := HJ10.out; have := HK4.out; omega
            case rel => exact ⟨(y378),(x6_4 / 128),(by rfl),H',⟨by have := HJ3.out; have := HJ8.out; have := HJ10.out; have := HK4.out; omega⟩,⟨by exact HO380.out⟩,⟨HB.out⟩⟩
           ·rw [if_neg c14] at H;exact absurd H (by simp)
          ·rw [if_neg c13] at H;have c13b0 : decide (127 < x6_4) = false := decide_eq_false c13;clear c13
           by_cases c16 : x5_4.length < 140737488355328
           ·rw [if_pos c16] at H;have LMc16 := Aside0.mk c16;clear c16;obtain ⟨y381,hy381⟩ : ∃ y_ : List Int,y_ = (x5_4 ++ [(x6_4) % 256]) := ⟨_,rfl⟩
            replace H : (some y381) = some r := by (rw [hy381]; with_reducible exact H)
            have Ny381 := Aside0.mk hy381;clear hy381;obtain rfl := Option.some.inj H
            go_wp2_with ((with_reducible refine gate_builtin (b := .append) (xs := #[.tmp 32,.tmp 35]) rfl ?_); at_builtin; refine Kd.R_append (Kd.int .u8) (w0 := w) w.heap.size rfl (.tmp 32) (.tmp 35) 22 5 (.int .u8 0) 1 rfl Try.underlying22 info5 rfl (by decide) (by omega) u5 x5_4 ((x6_4) % 256) [.int .u8 ((x6_4) % 256)] (fun _ => True) (fun _ => False) rfl rfl ?aP (fun _ hk => hk.elim) ?aF ?aO ?aB ?aS ?aL ?_; (case aP => exact rfl); (case aB => exact HB.out); (case aF => exact (fun _ _ => trivial)); (case aO => exact (by exact HO_5.out)); (case aS => exact (below_size HB.out)); (case aL => have := LMc16.out; omega); intro v382 w17 ho hb hg hat; rw [← Ny381.out] at ho; have n0_ := Aside0.mk (hb); have n1_ := Aside0.mk (ho); clear HB; clear HO_5; have HB := n0_; have HO383 := n1_; clear n0_ n1_; clear ho hb hg hat)
            go_ret;exact ⟨_,by rfl,by exact HO383.out,HB.out⟩
           ·rw [if_neg c16] at H;exact absurd H (by simp)
 ·rw [if_neg c3] at H;exact absurd H (by simp)

/-! ### spec_PutText: function 95 -/
def spec_PutText.f (k : Nat) (l0 : List Int) (a1 : ByteArray) : Option (List Int) := (spec_PutNum.f k l0 (a1.size : Int)).bind fun t384 => (if t384.length + a1.size < 140737488355328 then (some (t384 ++ bytesOf a1)) else (none))
theorem spec_PutText.mono : ∀ a0 a1 k,LeO (spec_PutText.f k a0 a1) (spec_PutText.f (k + 1) a0 a1) := by
 intro a0 a1 k;unfold spec_PutText.f
 repeat' first
   | (with_reducible exact spec_PutNum.mono _ _ _)
   | (with_reducible exact LeO.refl _)
   | (with_reducible exact LeO.none _)
   | (with_reducible refine LeO.ite ?_ ?_)
   | (with_reducible refine LeO.bind ?_ (fun _ => ?_))
   | exact spec_PutNum.mono _ _ _
   | exact LeO.none _
set_option maxHeartbeats 8000000 in
set_option maxRecDepth 100000 in
theorem spec_PutText.calls (k : Nat) (A0 : Option Addr) (c0 : Nat) (l0 : List Int) (a1 : ByteArray) (r : List Int) (w : World) (hr0 : Kd.C (Kd.int .u8) w A0 l0.length l0) (hc0 : l0.length ≤ c0) (h : spec_PutText.f k l0 a1 = some r) :
  Calls Try.prog 95 #[.slice A0 l0.length c0,.string a1] w fun e w' => ∃ v0_ : Value,e = .returned (v0_) ∧ Kd.R (Kd.int .u8) 5 w' w.heap.size (fun _ => True) v0_ r ∧ Below w.heap.size w w' := by
 have HR0 := Aside0.mk hr0;have HC0 := Aside0.mk hc0;clear hr0 hc0;have HB := Aside0.mk (Below.refl w.heap.size w);have H : ((spec_PutNum.f k l0 (a1.size : Int)).bind fun t384 => (if t384.length + a1.size < 140737488355328 then (some (t384 ++ bytesOf a1)) else (none))) = some r := h;clear h;replace H := Option.bind_eq_some_iff.mp H;obtain ⟨t384,A30,H⟩ := H;replace H : (if t384.length + a1.size < 140737488355328 then (some (t384 ++ bytesOf a1)) else (none)) = some r := H;have A3 := Aside0.mk A30;clear A30
 by_cases c4 : t384.length + a1.size < 140737488355328
 ·rw [if_pos c4] at H;have LMc4 := Aside0.mk c4;clear c4;obtain ⟨y387,hy387⟩ : ∃ y_ : List Int,y_ = (t384 ++ bytesOf a1) := ⟨_,rfl⟩
  replace H : (some y387) = some r := by (rw [hy387]; with_reducible exact H)
  have Ny387 := Aside0.mk hy387;clear hy387;obtain rfl := Option.some.inj H;go_enter Try.func95,Try.ntmps95
  go_wp2_with (first | ((with_reducible refine gate_callee (f := 94) rfl ?_); refine goesL_ (some 8) rfl rfl Try.func94 (by kernel_rfl) rfl #[.slice A0 l0.length c0,.int .i64 (a1.size : Int)] rfl (by (try simp only [List.map_toArray,List.map_cons,List.map_nil]); rfl) ?_; (with_reducible refine (spec_PutNum.calls k _ _ l0 (a1.size : Int) t384 _ ?side1 ?side2 A3.out).mono ?_); (case side1 => repeat (exact HR0.out)); (case side2 => exact HC0.out); rintro e w5 ⟨v385,rfl,ho0,hb⟩; refine ⟨_,rfl,?_⟩; have n0_ := Aside0.mk (Kd.R_lower ho0 (below_size HB.out)); have n1_ := Aside0.mk (below_step HB.out hb); clear HB; have HO386 := n0_; have HB := n1_; clear n0_ n1_; (try clear hb); (try clear ho0)) | (at_builtin; refine print_append_str (w0 := w) w.heap.size rfl (.tmp 8) _ 22 9 5 rfl Try.underlying22 Try.underlying9 info5 v385 t384 a1 rfl rfl ?aO ?aB ?aS ?aL ?_; (case aB => exact HB.out); (case aO => exact (Kd.own_of_R (by exact HO386.out))); (case aS => exact (below_size HB.out)); (case aL => have := LMc4.out; omega); intro v388 w6 ho0 hb hg; have ho := Kd.R_of_own (h1 := fun _ => rfl) (ok := fun _ => True) ho0 (fun _ _ => trivial); clear ho0; have hat := True.intro; rw [← Ny387.out] at ho; change Kd.R (Kd.int .u8) 5 w6 w.heap.size (fun _ => True) v388 y387 at ho; have n0_ := Aside0.mk (hb); have n1_ := Aside0.mk (ho); clear HB; clear HO386; have HB := n0_; have HO389 := n1_; clear n0_ n1_; clear ho hb hg hat))
  go_ret;exact ⟨_,by rfl,by exact HO389.out,HB.out⟩
 ·rw [if_neg c4] at H;exact absurd H (by simp)

end Go.Proofs.Ytgbbgdlenadhlaa.PJ
