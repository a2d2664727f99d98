/- The machine's side of Go functions: each as a plain function,and that the call does what it says. Written by a program (wip/mprint). -/
import Derived.Test.YtcbpfofkdipjhaaFRPFx0
import Derived.Test.YtcbpfofkdipjhaaFRPFx1
import Derived.Test.YtcbpfofkdipjhaaFRPFx3
import Derived.Test.YtcbpfofkdipjhaaFRPFx6
import Derived.Test.YtcbpfofkdipjhaaFRPFx9
namespace Go.Proofs.Ytcbpfofkdipjhaa.PF
open Go.RowKit Go.Proofs.YtcbpfofkdipjhaaW.PrintWords Go.Proofs.YtcbpfofkdipjhaaW.PrintLast Go.Proofs.YtcbpfofkdipjhaaW.PrintMore
attribute [local go_sem] max2_int min2_int max_two min_two max_three min_three max_four min_four   -- for this text's walks alone
set_option linter.unusedVariables false
set_option linter.unusedSimpArgs false

/-! ### laws_FnFreed: function 7 -/
mutual
def laws_FnFreed.j0 : Nat → Bool → Int → List (S63) → Int → List (S63) → Option (Bool)
 | 0,_,_,_,_,_ => none
 | k + 1,x29,x376000,x376001,x381000,x381001 => if x29 = true then (some false) else (if x381000 = x376000 then (some true) else (laws_FnFreed.l0 k 0 x376000 x376001 x381000 x381001))
def laws_FnFreed.l0 : Nat → Int → Int → List (S63) → Int → List (S63) → Option (Bool)
 | 0,_,_,_,_,_ => none
 | k + 1,x6,x376000,x376001,x381000,x381001 => if x6 < (x381001.length : Int) then (if 0 ≤ x6 then (if x6 < (x376001.length : Int) then (if ((rd_T63 x381001 x6).f3) = ((rd_T63 x376001 x6).f3) then (laws_FnFreed.j2 k x6 (decide (((rd_T63 x381001 x6).f1) < ((rd_T63 x376001 x6).f1))) x376000 x376001 x381000 x381001) else (laws_FnFreed.j2 k x6 true x376000 x376001 x381000 x381001)) else (none)) else (none)) else (some (x381000 == (wrap64 (x376000 + 1))))
def laws_FnFreed.j2 : Nat → Int → Bool → Int → List (S63) → Int → List (S63) → Option (Bool)
 | 0,_,_,_,_,_,_ => none
 | k + 1,x6,x69,x376000,x376001,x381000,x381001 => if x69 = true then (some false) else (laws_FnFreed.l1 k x6 0 x376000 x376001 x381000 x381001)
def laws_FnFreed.l1 : Nat → Int → Int → Int → List (S63) → Int → List (S63) → Option (Bool)
 | 0,_,_,_,_,_,_ => none
 | k + 1,x6,x7,x376000,x376001,x381000,x381001 => if 0 ≤ x6 then (if x6 < (x381001.length : Int) then (if x7 < (((rd_T63 x381001 x6).f4).length : Int) then (if 0 ≤ x7 then (if ((rd_T65 ((rd_T63 x381001 x6).f4) x7).f1) ≤ x381000 then (some false) else (laws_FnFreed.l1 k x6 (wrap64 (x7 + 1)) x376000 x376001 x381000 x381001)) else (none)) else (laws_FnFreed.l0 k (wrap64 (x6 + 1)) x376000 x376001 x381000 x381001)) else (none)) else (none)
end
def laws_FnFreed.f (k : Nat) (l0 : List Int) : Option (Bool) := (laws_big.f l0).bind fun t370 => (if t370 = true then (some true) else ((spec_DrawNextEpoch.f k l0).bind fun bt371 => ((impl_NextEpoch.f k bt371.1 bt371.2).bind fun bt376 => ((spec_NextEpoch.f k bt371.1 bt371.2).bind fun bt381 => (if bt376.1 = bt381.1 then (laws_FnFreed.j0 k ((bt376.2.length : Int) != (bt371.2.length : Int)) bt371.1 bt371.2 bt376.1 bt376.2) else (laws_FnFreed.j0 k true bt371.1 bt371.2 bt376.1 bt376.2))))))
theorem laws_FnFreed.mono_l : ∀ k,(∀ y0 y1 y2 y3 y4,LeO (laws_FnFreed.j0 k y0 y1 y2 y3 y4) (laws_FnFreed.j0 (k + 1) y0 y1 y2 y3 y4)) ∧ (∀ y0 y1 y2 y3 y4,LeO (laws_FnFreed.l0 k y0 y1 y2 y3 y4) (laws_FnFreed.l0 (k + 1) y0 y1 y2 y3 y4)) ∧ (∀ y0 y1 y2 y3 y4 y5,LeO (laws_FnFreed.j2 k y0 y1 y2 y3 y4 y5) (laws_FnFreed.j2 (k + 1) y0 y1 y2 y3 y4 y5)) ∧ (∀ y0 y1 y2 y3 y4 y5,LeO (laws_FnFreed.l1 k y0 y1 y2 y3 y4 y5) (laws_FnFreed.l1 (k + 1) y0 y1 y2 y3 y4 y5))
 | 0 => ⟨fun _ _ _ _ _ r h => by simp [laws_FnFreed.j0] at h,fun _ _ _ _ _ r h => by simp [laws_FnFreed.l0] at h,fun _ _ _ _ _ _ r h => by simp [laws_FnFreed.j2] at h,fun _ _ _ _ _ _ r h => by simp [laws_FnFreed.l1] at h⟩
 | k + 1 => by
  obtain ⟨ih0,ih1,ih2,ih3⟩ := laws_FnFreed.mono_l k;refine ⟨?_,?_,?_,?_⟩
  ·intro y0 y1 y2 y3 y4;unfold laws_FnFreed.j0
   repeat' first
   | (with_reducible exact ih0 _ _ _ _ _)
   | (with_reducible exact ih1 _ _ _ _ _)
   | (with_reducible exact ih2 _ _ _ _ _ _)
   | (with_reducible exact ih3 _ _ _ _ _ _)
   | (with_reducible exact impl_NextEpoch.mono _ _ _)
   | (with_reducible exact spec_DrawNextEpoch.mono _ _)
   | (with_reducible exact spec_NextEpoch.mono _ _ _)
   | (with_reducible exact LeO.refl _)
   | (with_reducible exact LeO.none _)
   | (with_reducible refine LeO.ite ?_ ?_)
   | (with_reducible refine LeO.bind ?_ (fun _ => ?_))
   | exact ih0 _ _ _ _ _
   | exact ih1 _ _ _ _ _
   | exact ih2 _ _ _ _ _ _
   | exact ih3 _ _ _ _ _ _
   | exact impl_NextEpoch.mono _ _ _
   | exact spec_DrawNextEpoch.mono _ _
   | exact spec_NextEpoch.mono _ _ _
   | exact LeO.none _
  ·intro y0 y1 y2 y3 y4;unfold laws_FnFreed.l0
   repeat' first
   | (with_reducible exact ih0 _ _ _ _ _)
   | (with_reducible exact ih1 _ _ _ _ _)
   | (with_reducible exact ih2 _ _ _ _ _ _)
   | (with_reducible exact ih3 _ _ _ _ _ _)
   | (with_reducible exact impl_NextEpoch.mono _ _ _)
   | (with_reducible exact spec_DrawNextEpoch.mono _ _)
   | (with_reducible exact spec_NextEpoch.mono _ _ _)
   | (with_reducible exact LeO.refl _)
   | (with_reducible exact LeO.none _)
   | (with_reducible refine LeO.ite ?_ ?_)
   | (with_reducible refine LeO.bind ?_ (fun _ => ?_))
   | exact ih0 _ _ _ _ _
   | exact ih1 _ _ _ _ _
   | exact ih2 _ _ _ _ _ _
   | exact ih3 _ _ _ _ _ _
   | exact impl_NextEpoch.mono _ _ _
   | exact spec_DrawNextEpoch.mono _ _
   | exact spec_NextEpoch.mono _ _ _
   | exact LeO.none _
  ·intro y0 y1 y2 y3 y4 y5;unfold laws_FnFreed.j2
   repeat' first
   | (with_reducible exact ih0 _ _ _ _ _)
   | (with_reducible exact ih1 _ _ _ _ _)
   | (with_reducible exact ih2 _ _ _ _ _ _)
   | (with_reducible exact ih3 _ _ _ _ _ _)
   | (with_reducible exact impl_NextEpoch.mono _ _ _)
   | (with_reducible exact spec_DrawNextEpoch.mono _ _)
   | (with_reducible exact spec_NextEpoch.mono _ _ _)
   | (with_reducible exact LeO.refl _)
   | (with_reducible exact LeO.none _)
   | (with_reducible refine LeO.ite ?_ ?_)
   | (with_reducible refine LeO.bind ?_ (fun _ => ?_))
   | exact ih0 _ _ _ _ _
   | exact ih1 _ _ _ _ _
   | exact ih2 _ _ _ _ _ _
   | exact ih3 _ _ _ _ _ _
   | exact impl_NextEpoch.mono _ _ _
   | exact spec_DrawNextEpoch.mono _ _
   | exact spec_NextEpoch.mono _ _ _
   | exact LeO.none _
  ·intro y0 y1 y2 y3 y4 y5;unfold laws_FnFreed.l1
   repeat' first
   | (with_reducible exact ih0 _ _ _ _ _)
   | (with_reducible exact ih1 _ _ _ _ _)
   | (with_reducible exact ih2 _ _ _ _ _ _)
   | (with_reducible exact ih3 _ _ _ _ _ _)
   | (with_reducible exact impl_NextEpoch.mono _ _ _)
   | (with_reducible exact spec_DrawNextEpoch.mono _ _)
   | (with_reducible exact spec_NextEpoch.mono _ _ _)
   | (with_reducible exact LeO.refl _)
   | (with_reducible exact LeO.none _)
   | (with_reducible refine LeO.ite ?_ ?_)
   | (with_reducible refine LeO.bind ?_ (fun _ => ?_))
   | exact ih0 _ _ _ _ _
   | exact ih1 _ _ _ _ _
   | exact ih2 _ _ _ _ _ _
   | exact ih3 _ _ _ _ _ _
   | exact impl_NextEpoch.mono _ _ _
   | exact spec_DrawNextEpoch.mono _ _
   | exact spec_NextEpoch.mono _ _ _
   | exact LeO.none _
theorem laws_FnFreed.mono : ∀ a0 k,LeO (laws_FnFreed.f k a0) (laws_FnFreed.f (k + 1) a0) := by
 intro a0 k;obtain ⟨ih0,ih1,ih2,ih3⟩ := laws_FnFreed.mono_l k;unfold laws_FnFreed.f
 repeat' first
   | (with_reducible exact ih0 _ _ _ _ _)
   | (with_reducible exact ih1 _ _ _ _ _)
   | (with_reducible exact ih2 _ _ _ _ _ _)
   | (with_reducible exact ih3 _ _ _ _ _ _)
   | (with_reducible exact impl_NextEpoch.mono _ _ _)
   | (with_reducible exact spec_DrawNextEpoch.mono _ _)
   | (with_reducible exact spec_NextEpoch.mono _ _ _)
   | (with_reducible exact LeO.refl _)
   | (with_reducible exact LeO.none _)
   | (with_reducible refine LeO.ite ?_ ?_)
   | (with_reducible refine LeO.bind ?_ (fun _ => ?_))
   | exact ih0 _ _ _ _ _
   | exact ih1 _ _ _ _ _
   | exact ih2 _ _ _ _ _ _
   | exact ih3 _ _ _ _ _ _
   | exact impl_NextEpoch.mono _ _ _
   | exact spec_DrawNextEpoch.mono _ _
   | exact spec_NextEpoch.mono _ _ _
   | exact LeO.none _
set_option maxHeartbeats 8000000 in
set_option maxRecDepth 100000 in
theorem laws_FnFreed.calls (k : Nat) (A0 : Option Addr) (c0 : Nat) (l0 : List Int) (r : Bool) (w : World) (hr0 : Kd.C (Kd.int .u8) w A0 l0.length l0) (hc0 : l0.length ≤ c0) (h : laws_FnFreed.f k l0 = some r) :
  Calls Try.prog 7 #[.slice A0 l0.length c0] w fun e w' => e = .returned (.bool r) ∧ Below w.heap.size w w' := by
 have hu31 := Try.underlying31;have HR0 := Aside0.mk hr0;have HC0 := Aside0.mk hc0;clear hr0 hc0;have HB := Aside0.mk (Below.refl w.heap.size w);have H : ((laws_big.f l0).bind fun t370 => (if t370 = true then (some true) else ((spec_DrawNextEpoch.f k l0).bind fun bt371 => ((impl_NextEpoch.f k bt371.1 bt371.2).bind fun bt376 => ((spec_NextEpoch.f k bt371.1 bt371.2).bind fun bt381 => (if bt376.1 = bt381.1 then (laws_FnFreed.j0 k ((bt376.2.length : Int) != (bt371.2.length : Int)) bt371.1 bt371.2 bt376.1 bt376.2) else (laws_FnFreed.j0 k true bt371.1 bt371.2 bt376.1 bt376.2))))))) = some r := h;clear h;replace H := Option.bind_eq_some_iff.mp H;obtain ⟨t370,A20,H⟩ := H;replace H : (if t370 = true then (some true) else ((spec_DrawNextEpoch.f k l0).bind fun bt371 => ((impl_NextEpoch.f k bt371.1 bt371.2).bind fun bt376 => ((spec_NextEpoch.f k bt371.1 bt371.2).bind fun bt381 => (if bt376.1 = bt381.1 then (laws_FnFreed.j0 k ((bt376.2.length : Int) != (bt371.2.length : Int)) bt371.1 bt371.2 bt376.1 bt376.2) else (laws_FnFreed.j0 k true bt371.1 bt371.2 bt376.1 bt376.2)))))) = some r := H;have A2 := Aside0.mk A20;clear A20
 by_cases c3 : t370 = true
 ·subst c3
  have H1 : (some true) = some r := by rw [if_pos rfl] at H; exact H
  clear H;have H := H1;clear H1;obtain rfl := Option.some.inj H;go_enter Try.func7,Try.ntmps7
  go_wp2_with ((go_at_call 22; (with_reducible refine (laws_big.calls _ _ l0 true _ ?side1 ?side2 A2.out).mono ?_); (case side1 => repeat (exact HR0.out)); (case side2 => exact HC0.out); rintro e w' ⟨rfl,⟨nd,rfl⟩⟩; skip))
  repeat (go_quiet (fail); try go_wp2_with (fail))
  go_ret;exact ⟨by rfl,by repeat (with_reducible first | exact HB.out | apply pw_below_drewN)⟩
 ·replace c3 := Bool.eq_false_iff.mpr c3;subst c3
  have H1 : ((spec_DrawNextEpoch.f k l0).bind fun bt371 => ((impl_NextEpoch.f k bt371.1 bt371.2).bind fun bt376 => ((spec_NextEpoch.f k bt371.1 bt371.2).bind fun bt381 => (if bt376.1 = bt381.1 then (laws_FnFreed.j0 k ((bt376.2.length : Int) != (bt371.2.length : Int)) bt371.1 bt371.2 bt376.1 bt376.2) else (laws_FnFreed.j0 k true bt371.1 bt371.2 bt376.1 bt376.2))))) = some r := by rw [if_neg (show ¬ (false = true) by decide)] at H; exact H
  clear H;have H := H1;clear H1;replace H := Option.bind_eq_some_iff.mp H;obtain ⟨⟨t371,t372⟩,A40,H⟩ := H;replace H : ((impl_NextEpoch.f k t371 t372).bind fun bt376 => ((spec_NextEpoch.f k t371 t372).bind fun bt381 => (if bt376.1 = bt381.1 then (laws_FnFreed.j0 k ((bt376.2.length : Int) != (t372.length : Int)) t371 t372 bt376.1 bt376.2) else (laws_FnFreed.j0 k true t371 t372 bt376.1 bt376.2)))) = some r := H;have A4 := Aside0.mk A40;clear A40;replace H := Option.bind_eq_some_iff.mp H;obtain ⟨⟨t376,t377⟩,A50,H⟩ := H;replace H : ((spec_NextEpoch.f k t371 t372).bind fun bt381 => (if t376 = bt381.1 then (laws_FnFreed.j0 k ((t377.length : Int) != (t372.length : Int)) t371 t372 t376 t377) else (laws_FnFreed.j0 k true t371 t372 t376 t377))) = some r := H;have A5 := Aside0.mk A50;clear A50;replace H := Option.bind_eq_some_iff.mp H;obtain ⟨⟨t381,t382⟩,A60,H⟩ := H;replace H : (if t376 = t381 then (laws_FnFreed.j0 k ((t377.length : Int) != (t372.length : Int)) t371 t372 t376 t377) else (laws_FnFreed.j0 k true t371 t372 t376 t377)) = some r := H;have A6 := Aside0.mk A60;clear A60;have HC7 := Aside0.mk H;clear H;go_enter Try.func7,Try.ntmps7
  go_upto_region 6 with (first | (go_at_call 22; (with_reducible refine (laws_big.calls _ _ l0 false _ ?side1 ?side2 A2.out).mono ?_); (case side1 => repeat (exact HR0.out)); (case side2 => exact HC0.out); rintro e w' ⟨rfl,⟨nd,rfl⟩⟩; skip) | (go_at_call 38; (with_reducible refine (spec_DrawNextEpoch.calls k _ _ l0 t371 t372 _ ?side1 ?side2 A4.out).mono ?_); (case side1 => repeat (exact HR0.out)); (case side2 => exact HC0.out); rintro e w8 ⟨v373,rfl,ho0,hb⟩; have n0_ := Aside0.mk (Kd.S_lower ho0 (below_size (by repeat (with_reducible first | exact HB.out | apply pw_below_drewN)))); have n1_ := Aside0.mk (below_step (by repeat (with_reducible first | exact HB.out | apply pw_below_drewN)) hb); clear HB; have HO374 := n0_; have HB := n1_; clear n0_ n1_; (try clear hb); (try clear ho0)) | ((with_reducible refine gate_dst (N := 3) rfl ?_); (try (refine gate_guard (by rfl) ?_; dsimp only)); refine box_event ?hg (N := 3) ?hd (cs := #[.int .i64 0,.slice none 0 0]) (t := 31) ?hr ?_; (case hd => rfl); (case hg => rfl); (case hr => (go_simp; done)); intro gb375 hg w9 hbox hb; have n0_ := Aside0.mk (Kd.S_below (by exact HO374.out) hb); have n1_ := Aside0.mk (below_step HB.out hb); have n2_ := Aside0.mk (hbox); have n3_ := Aside0.mk (by rw [hg]; exact (below_size HB.out) : w.heap.size ≤ gb375); have n4_ := Aside0.mk (by rw [hg]; exact (below_size HB.out) : w.heap.size ≤ gb375); clear HO374; clear HB; have HO374 := n0_; have HB := n1_; have BK375 := n2_; have GW375 := n3_; have GE375 := n4_; clear n0_ n1_ n2_ n3_ n4_; clear hb hbox hg; have hcz10_0 : w9.cell? ⟨gb375,0,none⟩ = some (.int .i64 0) := (blk_cell BK375.out 0).trans rfl; have hcz10_1 : w9.cell? ⟨gb375,1,none⟩ = some (.slice none 0 0) := (blk_cell BK375.out 1).trans rfl; have hfz10_0 := blk_frozen BK375.out 0; have hfz10_1 := blk_frozen BK375.out 1; obtain ⟨Ao11,co11,eo11⟩ := Kd.S_slice HO374.out; subst eo11) | (go_at_call 25; (with_reducible refine (impl_NextEpoch.calls k t371 _ _ t372 t376 t377 _ ?side1 ?side2 A5.out).mono ?_); (case side1 => refine (Kd.S_reads' (e := 63) (base := w.heap.size) (ok := fun k_ => True) (n := t372.length) (c := co11) ?_).2.2; exact (by exact (Kd.S_mono (Kd.S_far (p := ⟨gb375,1,none⟩) (Kd.S_far (p := ⟨gb375,0,none⟩) (Kd.S_types HO374.out BK375.out (by decide)) (fun _ hk => hk.2) (.int .i64 t371)) (fun _ hk => hk.2) (.slice Ao11 t372.length co11)) (fun _ h_ => h_.1)))); (case side2 => exact (Kd.S_reads' HO374.out).2.1); rintro e w12 ⟨v378,rfl,ho0,hb⟩; have n0_ := Aside0.mk (Kd.S_elder' (by exact (Kd.S_mono (Kd.S_far (p := ⟨gb375,1,none⟩) (Kd.S_far (p := ⟨gb375,0,none⟩) (Kd.S_types HO374.out BK375.out (by decide)) (fun _ hk => hk.2) (.int .i64 t371)) (fun _ hk => hk.2) (.slice Ao11 t372.length co11)) (fun _ h_ => h_.1))) (Kd.S_base ho0) hb); have n1_ := Aside0.mk (Kd.S_lower (Kd.S_new' ho0 (Kd.S_lt (by exact (Kd.S_mono (Kd.S_far (p := ⟨gb375,1,none⟩) (Kd.S_far (p := ⟨gb375,0,none⟩) (Kd.S_types HO374.out BK375.out (by decide)) (fun _ hk => hk.2) (.int .i64 t371)) (fun _ hk => hk.2) (.slice Ao11 t372.length co11)) (fun _ h_ => h_.1))))) (below_size (by repeat (with_reducible first | exact HB.out | refine below_set ?_ GE375.out)))); have n2_ := Aside0.mk (blk_below (g := gb375) (o := .cells #[.int .i64 t371,.slice Ao11 t372.length co11] 31 (0,0)) (by refine blk_put (cs := #[.int .i64 t371,.slice none 0 0]) ?_ 1 _ rfl; refine blk_put (cs := #[.int .i64 0,.slice none 0 0]) ?_ 0 _ rfl; exact BK375.out) hb); have n3_ := Aside0.mk (below_step (by repeat (with_reducible first | exact HB.out | refine below_set ?_ GE375.out)) hb); clear HO374; clear BK375; clear HB; have HO374 := n0_; have HO379 := n1_; have BK375 := n2_; have HB := n3_; clear n0_ n1_ n2_ n3_; (try clear hb); (try clear ho0)) | ((with_reducible refine gate_dst (N := 4) rfl ?_); (try (refine gate_guard (by rfl) ?_; dsimp only)); refine box_event ?hg (N := 4) ?hd (cs := #[.int .i64 0,.slice none 0 0]) (t := 31) ?hr ?_; (case hd => rfl); (case hg => rfl); (case hr => (go_simp; done)); intro gb380 hg w13 hbox hb; have n0_ := Aside0.mk (Kd.S_below (by exact HO374.out) hb); have n1_ := Aside0.mk (Kd.S_below (by exact HO379.out) hb); have n2_ := Aside0.mk (blk_below (g := gb375) (o := .cells #[.int .i64 t371,.slice Ao11 t372.length co11] 31 (0,0)) (by exact BK375.out) hb); have n3_ := Aside0.mk (below_step HB.out hb); have n4_ := Aside0.mk (hbox); have n5_ := Aside0.mk (by rw [hg]; exact (below_size HB.out) : w.heap.size ≤ gb380); have n6_ := Aside0.mk (by rw [hg]; exact (below_size HB.out) : w.heap.size ≤ gb380); have n7_ := Aside0.mk (by rw [hg]; exact Nat.ne_of_lt (blk_lt (g := gb375) (o := .cells #[.int .i64 t371,.slice Ao11 t372.length co11] 31 (0,0)) (by exact BK375.out)) : gb375 ≠ gb380); have n8_ := Aside0.mk (by rw [hg]; exact Nat.ne_of_gt (blk_lt (g := gb375) (o := .cells #[.int .i64 t371,.slice Ao11 t372.length co11] 31 (0,0)) (by exact BK375.out)) : gb380 ≠ gb375); clear HO374; clear HO379; clear BK375; clear HB; have HO374 := n0_; have HO379 := n1_; have BK375 := n2_; have HB := n3_; have BK380 := n4_; have GW380 := n5_; have GE380 := n6_; have NB375_380 := n7_; have NB380_375 := n8_; clear n0_ n1_ n2_ n3_ n4_ n5_ n6_ n7_ n8_; clear hb hbox hg; have hnb14 := NB380_375.out; have hnc14 := NB375_380.out; have hcz15_0 : w13.cell? ⟨gb380,0,none⟩ = some (.int .i64 0) := (blk_cell BK380.out 0).trans rfl; have hcz15_1 : w13.cell? ⟨gb380,1,none⟩ = some (.slice none 0 0) := (blk_cell BK380.out 1).trans rfl; have hfz15_0 := blk_frozen BK380.out 0; have hfz15_1 := blk_frozen BK380.out 1; obtain ⟨Ao16,co16,eo16⟩ := Kd.S_slice HO379.out; subst eo16; have hcz17_0 : w13.cell? ⟨gb375,0,none⟩ = some (.int .i64 t371) := (blk_cell BK375.out 0).trans rfl; have hcz17_1 : w13.cell? ⟨gb375,1,none⟩ = some (.slice Ao11 t372.length co11) := (blk_cell BK375.out 1).trans rfl; have hfz17_0 := blk_frozen BK375.out 0; have hfz17_1 := blk_frozen BK375.out 1) | (go_at_call 39; (with_reducible refine (spec_NextEpoch.calls k t371 _ _ t372 t381 t382 _ ?side1 ?side2 A6.out).mono ?_); (case side1 => refine (Kd.S_reads' (e := 63) (base := w.heap.size) (ok := fun k_ => (True ∧ some k_ ≠ (.slice Ao16 t377.length co16 : Value).ownBlock)) (n := t372.length) (c := co11) ?_).2.2; exact (by exact (Kd.S_mono (Kd.S_far (p := ⟨gb380,1,none⟩) (Kd.S_far (p := ⟨gb380,0,none⟩) (Kd.S_types HO374.out BK380.out (by decide)) (fun _ hk => hk.2) (.int .i64 t376)) (fun _ hk => hk.2) (.slice Ao16 t377.length co16)) (fun _ h_ => h_.1)))); (case side2 => exact (Kd.S_reads' HO374.out).2.1); rintro e w18 ⟨v383,rfl,ho0,hb⟩; have n0_ := Aside0.mk (Kd.S_elder' (by exact (Kd.S_mono (Kd.S_far (p := ⟨gb380,1,none⟩) (Kd.S_far (p := ⟨gb380,0,none⟩) (Kd.S_types HO374.out BK380.out (by decide)) (fun _ hk => hk.2) (.int .i64 t376)) (fun _ hk => hk.2) (.slice Ao16 t377.length co16)) (fun _ h_ => h_.1))) (Kd.S_base ho0) hb); have n1_ := Aside0.mk (Kd.S_elder' (by exact (Kd.S_mono (Kd.S_far (p := ⟨gb380,1,none⟩) (Kd.S_far (p := ⟨gb380,0,none⟩) (Kd.S_types HO379.out BK380.out (by decide)) (fun _ hk => hk.2) (.int .i64 t376)) (fun _ hk => hk.2) (.slice Ao16 t377.length co16)) (fun _ h_ => h_.1))) (Kd.S_base ho0) hb); have n2_ := Aside0.mk (Kd.S_lower (Kd.S_new' (Kd.S_new' ho0 (Kd.S_lt (by exact (Kd.S_mono (Kd.S_far (p := ⟨gb380,1,none⟩) (Kd.S_far (p := ⟨gb380,0,none⟩) (Kd.S_types HO374.out BK380.out (by decide)) (fun _ hk => hk.2) (.int .i64 t376)) (fun _ hk => hk.2) (.slice Ao16 t377.length co16)) (fun _ h_ => h_.1))))) (Kd.S_lt (by exact (Kd.S_mono (Kd.S_far (p := ⟨gb380,1,none⟩) (Kd.S_far (p := ⟨gb380,0,none⟩) (Kd.S_types HO379.out BK380.out (by decide)) (fun _ hk => hk.2) (.int .i64 t376)) (fun _ hk => hk.2) (.slice Ao16 t377.length co16)) (fun _ h_ => h_.1))))) (below_size (by repeat (with_reducible first | exact HB.out | refine below_set ?_ GE380.out)))); have n3_ := Aside0.mk (blk_below (g := gb375) (o := .cells #[.int .i64 t371,.slice Ao11 t372.length co11] 31 (0,0)) (by refine blk_far ?_ NB375_380.out _; refine blk_far ?_ NB375_380.out _; exact BK375.out) hb); have n4_ := Aside0.mk (blk_below (g := gb380) (o := .cells #[.int .i64 t376,.slice Ao16 t377.length co16] 31 (0,0)) (by refine blk_put (cs := #[.int .i64 t376,.slice none 0 0]) ?_ 1 _ rfl; refine blk_put (cs := #[.int .i64 0,.slice none 0 0]) ?_ 0 _ rfl; exact BK380.out) hb); have n5_ := Aside0.mk (below_step (by repeat (with_reducible first | exact HB.out | refine below_set ?_ GE380.out)) hb); clear HO374; clear HO379; clear BK375; clear BK380; clear HB; have HO374 := n0_; have HO379 := n1_; have HO384 := n2_; have BK375 := n3_; have BK380 := n4_; have HB := n5_; clear n0_ n1_ n2_ n3_ n4_ n5_; (try clear hb); (try clear ho0)) | ((with_reducible refine gate_dst (N := 5) rfl ?_); (try (refine gate_guard (by rfl) ?_; dsimp only)); refine box_event ?hg (N := 5) ?hd (cs := #[.int .i64 0,.slice none 0 0]) (t := 31) ?hr ?_; (case hd => rfl); (case hg => rfl); (case hr => (go_simp; done)); intro gb385 hg w19 hbox hb; have n0_ := Aside0.mk (Kd.S_below (by exact HO374.out) hb); have n1_ := Aside0.mk (Kd.S_below (by exact HO379.out) hb); have n2_ := Aside0.mk (Kd.S_below (by exact HO384.out) hb); have n3_ := Aside0.mk (blk_below (g := gb375) (o := .cells #[.int .i64 t371,.slice Ao11 t372.length co11] 31 (0,0)) (by exact BK375.out) hb); have n4_ := Aside0.mk (blk_below (g := gb380) (o := .cells #[.int .i64 t376,.slice Ao16 t377.length co16] 31 (0,0)) (by exact BK380.out) hb); have n5_ := Aside0.mk (below_step HB.out hb); have n6_ := Aside0.mk (hbox); have n7_ := Aside0.mk (by rw [hg]; exact (below_size HB.out) : w.heap.size ≤ gb385); have n8_ := Aside0.mk (by rw [hg]; exact (below_size HB.out) : w.heap.size ≤ gb385); have n9_ := Aside0.mk (by rw [hg]; exact Nat.ne_of_lt (blk_lt (g := gb375) (o := .cells #[.int .i64 t371,.slice Ao11 t372.length co11] 31 (0,0)) (by exact BK375.out)) : gb375 ≠ gb385); have n10_ := Aside0.mk (by rw [hg]; exact Nat.ne_of_gt (blk_lt (g := gb375) (o := .cells #[.int .i64 t371,.slice Ao11 t372.length co11] 31 (0,0)) (by exact BK375.out)) : gb385 ≠ gb375); have n11_ := Aside0.mk (by rw [hg]; exact Nat.ne_of_lt (blk_lt (g := gb380) (o := .cells #[.int .i64 t376,.slice Ao16 t377.length co16] 31 (0,0)) (by exact BK380.out)) : gb380 ≠ gb385); have n12_ := Aside0.mk (by rw [hg]; exact Nat.ne_of_gt (blk_lt (g := gb380) (o := .cells #[.int .i64 t376,.slice Ao16 t377.length co16] 31 (0,0)) (by exact BK380.out)) : gb385 ≠ gb380); clear HO374; clear HO379; clear HO384; clear BK375; clear BK380; clear HB; have HO374 := n0_; have HO379 := n1_; have HO384 := n2_; have BK375 := n3_; have BK380 := n4_; have HB := n5_; have BK385 := n6_; have GW385 := n7_; have GE385 := n8_; have NB375_385 := n9_; have NB385_375 := n10_; have NB380_385 := n11_; have NB385_380 := n12_; clear n0_ n1_ n2_ n3_ n4_ n5_ n6_ n7_ n8_ n9_ n10_ n11_ n12_; clear hb hbox hg; have hnb20 := NB385_375.out; have hnc20 := NB375_385.out; have hnb21 := NB385_380.out; have hnc21 := NB380_385.out; have hcz22_0 : w19.cell? ⟨gb385,0,none⟩ = some (.int .i64 0) := (blk_cell BK385.out 0).trans rfl; have hcz22_1 : w19.cell? ⟨gb385,1,none⟩ = some (.slice none 0 0) := (blk_cell BK385.out 1).trans rfl; have hfz22_0 := blk_frozen BK385.out 0; have hfz22_1 := blk_frozen BK385.out 1; obtain ⟨Ao23,co23,eo23⟩ := Kd.S_slice HO384.out; subst eo23))
  repeat (go_quiet (fail); go_upto_region 6 with (fail))
  skip
  go_cut [29] (fun v29 wc => ∃ (kq : Nat) (x29_6 : Bool),v29 = .bool x29_6 ∧ Aside0 (laws_FnFreed.j0 kq x29_6 t371 t372 t376 t377 = some r) ∧ Aside0 (kq ≤ k) ∧ Aside0 (Kd.S k63 63 wc w.heap.size (fun k_ => some k_ ≠ ((.slice Ao16 t377.length co16) : Value).ownBlock ∧ some k_ ≠ ((.slice Ao23 t382.length co23) : Value).ownBlock) (.slice Ao11 t372.length co11) t372) ∧ Aside0 (Kd.S k63 63 wc w.heap.size (fun k_ => some k_ ≠ ((.slice Ao11 t372.length co11) : Value).ownBlock ∧ some k_ ≠ ((.slice Ao23 t382.length co23) : Value).ownBlock) (.slice Ao16 t377.length co16) t377) ∧ Aside0 (Kd.S k63 63 wc w.heap.size (fun k_ => some k_ ≠ ((.slice Ao11 t372.length co11) : Value).ownBlock ∧ some k_ ≠ ((.slice Ao16 t377.length co16) : Value).ownBlock) (.slice Ao23 t382.length co23) t382) ∧ Aside0 (wc.heap[gb375]? = some (.cells #[.int .i64 t371,(.slice Ao11 t372.length co11)] 31 (0,0))) ∧ Aside0 (wc.heap[gb380]? = some (.cells #[.int .i64 t376,(.slice Ao16 t377.length co16)] 31 (0,0))) ∧ Aside0 (wc.heap[gb385]? = some (.cells #[.int .i64 t381,(.slice Ao23 t382.length co23)] 31 (0,0))) ∧ Aside0 (Below w.heap.size w wc))
  case first =>
   have H := HC7.out;clear HC7
   by_cases c24 : t376 = t381
   ·rw [if_pos c24] at H;have c24b0 : (t376 == t381) = true := beq_iff_eq.mpr c24;have c24b1 : (t376 != t381) = false := bne_eq_false_iff_eq.mpr c24;clear c24
    (skip)
    have H' := Aside0.mk H;clear H;have hnb25 := NB380_375.out;have hnc25 := NB375_380.out;have hnb26 := NB380_385.out;have hnc26 := NB385_380.out;have hcz27_0 : w19.cell? ⟨gb380,0,none⟩ = some (.int .i64 t376) := (blk_cell BK380.out 0).trans rfl;have hcz27_1 : w19.cell? ⟨gb380,1,none⟩ = some (.slice Ao16 t377.length co16) := (blk_cell BK380.out 1).trans rfl;have hfz27_0 := blk_frozen BK380.out 0;have hfz27_1 := blk_frozen BK380.out 1;have hnb28 := NB385_375.out;have hnc28 := NB375_385.out;have hcz29_0 : w19.cell? ⟨gb385,0,none⟩ = some (.int .i64 0) := (blk_cell BK385.out 0).trans rfl;have hcz29_1 : w19.cell? ⟨gb385,1,none⟩ = some (.slice none 0 0) := (blk_cell BK385.out 1).trans rfl;have hfz29_0 := blk_frozen BK385.out 0;have hfz29_1 := blk_frozen BK385.out 1;have hcz30_0 : w19.cell? ⟨gb375,0,none⟩ = some (.int .i64 t371) := (blk_cell BK375.out 0).trans rfl;have hcz30_1 : w19.cell? ⟨gb375,1,none⟩ = some (.slice Ao11 t372.length co11) := (blk_cell BK375.out 1).trans rfl;have hfz30_0 := blk_frozen BK375.out 0;have hfz30_1 := blk_frozen BK375.out 1;go_wp2
    repeat (go_quiet (fail); try go_wp2)
    go_meet
    case rel => exact ⟨_,((t377.length : Int) != (t372.length : Int)),(by rfl),H',⟨by omega⟩,⟨by exact Kd.S_mono (Kd.S_far (p := ⟨gb385,1,none⟩) (Kd.S_far (p := ⟨gb385,0,none⟩) (Kd.S_types HO374.out BK385.out (by decide)) (fun _ hk => hk.2) (.int .i64 t381)) (fun _ hk => hk.2) (.slice Ao23 t382.length co23)) (fun _ hk => ⟨hk.1.1.2,hk.1.2⟩)⟩,⟨by exact Kd.S_mono (Kd.S_far (p := ⟨gb385,1,none⟩) (Kd.S_far (p := ⟨gb385,0,none⟩) (Kd.S_types HO379.out BK385.out (by decide)) (fun _ hk => hk.2) (.int .i64 t381)) (fun _ hk => hk.2) (.slice Ao23 t382.length co23)) (fun _ hk => ⟨hk.1.1.2,hk.1.2⟩)⟩,⟨by exact Kd.S_mono (Kd.S_far (p := ⟨gb385,1,none⟩) (Kd.S_far (p := ⟨gb385,0,none⟩) (Kd.S_types HO384.out BK385.out (by decide)) (fun _ hk => hk.2) (.int .i64 t381)) (fun _ hk => hk.2) (.slice Ao23 t382.length co23)) (fun _ hk => ⟨hk.1.1.2,hk.1.2⟩)⟩,⟨by refine blk_far ?_ NB375_385.out _; refine blk_far ?_ NB375_385.out _; exact BK375.out⟩,⟨by refine blk_far ?_ NB380_385.out _; refine blk_far ?_ NB380_385.out _; exact BK380.out⟩,⟨by refine blk_put (cs := #[.int .i64 t381,.slice none 0 0]) ?_ 1 _ rfl; refine blk_put (cs := #[.int .i64 0,.slice none 0 0]) ?_ 0 _ rfl; exact BK385.out⟩,⟨by repeat (with_reducible first | exact HB.out | refine below_set ?_ GE385.out)⟩⟩
   ·rw [if_neg c24] at H;have c24b0 : (t376 == t381) = false := beq_eq_false_iff_ne.mpr c24;have c24b1 : (t376 != t381) = true := bne_iff_ne.mpr c24
    (skip)
    have H' := Aside0.mk H;clear H;have hnb31 := NB380_375.out;have hnc31 := NB375_380.out;have hnb32 := NB380_385.out;have hnc32 := NB385_380.out;have hcz33_0 : w19.cell? ⟨gb380,0,none⟩ = some (.int .i64 t376) := (blk_cell BK380.out 0).trans rfl;have hcz33_1 : w19.cell? ⟨gb380,1,none⟩ = some (.slice Ao16 t377.length co16) := (blk_cell BK380.out 1).trans rfl;have hfz33_0 := blk_frozen BK380.out 0;have hfz33_1 := blk_frozen BK380.out 1;have hnb34 := NB385_375.out;have hnc34 := NB375_385.out;have hcz35_0 : w19.cell? ⟨gb385,0,none⟩ = some (.int .i64 0) := (blk_cell BK385.out 0).trans rfl;have hcz35_1 : w19.cell? ⟨gb385,1,none⟩ = some (.slice none 0 0) := (blk_cell BK385.out 1).trans rfl;have hfz35_0 := blk_frozen BK385.out 0;have hfz35_1 := blk_frozen BK385.out 1;go_wp2
    repeat (go_quiet (fail); try go_wp2)
    go_meet
    case rel => exact ⟨_,(true),(by rfl),H',⟨by omega⟩,⟨by exact Kd.S_mono (Kd.S_far (p := ⟨gb385,1,none⟩) (Kd.S_far (p := ⟨gb385,0,none⟩) (Kd.S_types HO374.out BK385.out (by decide)) (fun _ hk => hk.2) (.int .i64 t381)) (fun _ hk => hk.2) (.slice Ao23 t382.length co23)) (fun _ hk => ⟨hk.1.1.2,hk.1.2⟩)⟩,⟨by exact Kd.S_mono (Kd.S_far (p := ⟨gb385,1,none⟩) (Kd.S_far (p := ⟨gb385,0,none⟩) (Kd.S_types HO379.out BK385.out (by decide)) (fun _ hk => hk.2) (.int .i64 t381)) (fun _ hk => hk.2) (.slice Ao23 t382.length co23)) (fun _ hk => ⟨hk.1.1.2,hk.1.2⟩)⟩,⟨by exact Kd.S_mono (Kd.S_far (p := ⟨gb385,1,none⟩) (Kd.S_far (p := ⟨gb385,0,none⟩) (Kd.S_types HO384.out BK385.out (by decide)) (fun _ hk => hk.2) (.int .i64 t381)) (fun _ hk => hk.2) (.slice Ao23 t382.length co23)) (fun _ hk => ⟨hk.1.1.2,hk.1.2⟩)⟩,⟨by refine blk_far ?_ NB375_385.out _; refine blk_far ?_ NB375_385.out _; exact BK375.out⟩,⟨by refine blk_far ?_ NB380_385.out _; refine blk_far ?_ NB380_385.out _; exact BK380.out⟩,⟨by refine blk_put (cs := #[.int .i64 t381,.slice none 0 0]) ?_ 1 _ rfl; refine blk_put (cs := #[.int .i64 0,.slice none 0 0]) ?_ 0 _ rfl; exact BK385.out⟩,⟨by repeat (with_reducible first | exact HB.out | refine below_set ?_ GE385.out)⟩⟩
  case rest =>
   clear HC7
   try clear c1
   try clear c2
   try clear p2
   try clear c3
   try clear c7
   try clear c14
   try clear c20
   try clear c21
   try clear c24
   try clear c24b0
   try clear c24b1
   try clear c25
   try clear c26
   try clear c28
   try clear c31
   try clear c32
   try clear c34
   try clear hcz10_0
   try clear hcz10_1
   try clear hcz15_0
   try clear hcz15_1
   try clear hcz17_0
   try clear hcz17_1
   try clear hcz22_0
   try clear hcz22_1
   try clear hcz27_0
   try clear hcz27_1
   try clear hcz29_0
   try clear hcz29_1
   try clear hcz30_0
   try clear hcz30_1
   try clear hcz33_0
   try clear hcz33_1
   try clear hcz35_0
   try clear hcz35_1
   try clear hfz10_0
   try clear hfz10_1
   try clear hfz15_0
   try clear hfz15_1
   try clear hfz17_0
   try clear hfz17_1
   try clear hfz22_0
   try clear hfz22_1
   try clear hfz27_0
   try clear hfz27_1
   try clear hfz29_0
   try clear hfz29_1
   try clear hfz30_0
   try clear hfz30_1
   try clear hfz33_0
   try clear hfz33_1
   try clear hfz35_0
   try clear hfz35_1
   obtain ⟨kq,x29_6,rfl,HA,HJ6,HO_376001,HO_381001,HO_386001,BK375,BK380,BK385,HB⟩ := hcut
   cases kq with
   | zero => exact absurd HA.out (by simp [laws_FnFreed.j0])
   | succ kj6 =>
    have H := HA.out;clear HA;simp only [laws_FnFreed.j0] at H
    by_cases c36 : x29_6 = true
    ·subst c36
     have H1 : (some false) = some r := by rw [if_pos rfl] at H; exact H
     clear H;have H := H1;clear H1;obtain rfl := Option.some.inj H;go_wp2
     repeat (go_quiet (fail); try go_wp2)
     go_ret;exact ⟨by rfl,HB.out⟩
    ·replace c36 := Bool.eq_false_iff.mpr c36;subst c36
     have H1 : (if t376 = t371 then (some true) else (laws_FnFreed.l0 kj6 0 t371 t372 t376 t377)) = some r := by rw [if_neg (show ¬ (false = true) by decide)] at H; exact H
     clear H;have H := H1;clear H1
     by_cases c37 : t376 = t371
     ·rw [if_pos c37] at H;have c37b0 : (t376 == t371) = true := beq_iff_eq.mpr c37;have c37b1 : (t376 != t371) = false := bne_eq_false_iff_eq.mpr c37;clear c37;obtain rfl := Option.some.inj H;have hnb38 := NB380_375.out;have hnc38 := NB375_380.out;have hnb39 := NB380_385.out;have hnc39 := NB385_380.out;have hcz40_0 : wc.cell? ⟨gb380,0,none⟩ = some (.int .i64 t376) := (blk_cell BK380.out 0).trans rfl;have hcz40_1 : wc.cell? ⟨gb380,1,none⟩ = some (.slice Ao16 t377.length co16) := (blk_cell BK380.out 1).trans rfl;have hfz40_0 := blk_frozen BK380.out 0;have hfz40_1 := blk_frozen BK380.out 1;have hnb41 := NB375_385.out;have hnc41 := NB385_375.out;have hcz42_0 : wc.cell? ⟨gb375,0,none⟩ = some (.int .i64 t371) := (blk_cell BK375.out 0).trans rfl;have hcz42_1 : wc.cell? ⟨gb375,1,none⟩ = some (.slice Ao11 t372.length co11) := (blk_cell BK375.out 1).trans rfl;have hfz42_0 := blk_frozen BK375.out 0;have hfz42_1 := blk_frozen BK375.out 1;go_wp2
      repeat (go_quiet (fail); try go_wp2)
      go_ret;exact ⟨by rfl,HB.out⟩
     ·rw [if_neg c37] at H;have c37b0 : (t376 == t371) = false := beq_eq_false_iff_ne.mpr c37;have c37b1 : (t376 != t371) = true := bne_iff_ne.mpr c37;have H' := Aside0.mk H;clear H;have hnb43 := NB380_375.out;have hnc43 := NB375_380.out;have hnb44 := NB380_385.out;have hnc44 := NB385_380.out;have hcz45_0 : wc.cell? ⟨gb380,0,none⟩ = some (.int .i64 t376) := (blk_cell BK380.out 0).trans rfl;have hcz45_1 : wc.cell? ⟨gb380,1,none⟩ = some (.slice Ao16 t377.length co16) := (blk_cell BK380.out 1).trans rfl;have hfz45_0 := blk_frozen BK380.out 0;have hfz45_1 := blk_frozen BK380.out 1;have hnb46 := NB375_385.out;have hnc46 := NB385_375.out;have hcz47_0 : wc.cell? ⟨gb375,0,none⟩ = some (.int .i64 t371) := (blk_cell BK375.out 0).trans rfl;have hcz47_1 : wc.cell? ⟨gb375,1,none⟩ = some (.slice Ao11 t372.length co11) := (blk_cell BK375.out 1).trans rfl;have hfz47_0 := blk_frozen BK375.out 0;have hfz47_1 := blk_frozen BK375.out 1;go_wp2
      repeat (go_quiet (fail); try go_wp2)
      go_loopg [6] kj6 (fun kq v6 w' => ∃ (x6_2 : Int),v6 = .int .i64 x6_2 ∧ Aside0 (laws_FnFreed.l0 kq x6_2 t371 t372 t376 t377 = some r) ∧ Aside0 (kq ≤ kj6) ∧ Aside0 (Kd.S k63 63 w' w.heap.size (fun k_ => some k_ ≠ ((.slice Ao16 t377.length co16) : Value).ownBlock ∧ some k_ ≠ ((.slice Ao23 t382.length co23) : Value).ownBlock) (.slice Ao11 t372.length co11) t372) ∧ Aside0 (Kd.S k63 63 w' w.heap.size (fun k_ => some k_ ≠ ((.slice Ao11 t372.length co11) : Value).ownBlock ∧ some k_ ≠ ((.slice Ao23 t382.length co23) : Value).ownBlock) (.slice Ao16 t377.length co16) t377) ∧ Aside0 (Kd.S k63 63 w' w.heap.size (fun k_ => some k_ ≠ ((.slice Ao11 t372.length co11) : Value).ownBlock ∧ some k_ ≠ ((.slice Ao16 t377.length co16) : Value).ownBlock) (.slice Ao23 t382.length co23) t382) ∧ Aside0 (w'.heap[gb375]? = some (.cells #[.int .i64 t371,(.slice Ao11 t372.length co11)] 31 (0,0))) ∧ Aside0 (w'.heap[gb380]? = some (.cells #[.int .i64 t376,(.slice Ao16 t377.length co16)] 31 (0,0))) ∧ Aside0 (w'.heap[gb385]? = some (.cells #[.int .i64 t381,(.slice Ao23 t382.length co23)] 31 (0,0))) ∧ Aside0 (Below w.heap.size w w'))
      case atStart => exact ⟨(0),(by rfl),H',⟨Nat.le_refl _⟩,⟨by exact HO_376001.out⟩,⟨by exact HO_381001.out⟩,⟨by exact HO_386001.out⟩,⟨by exact BK375.out⟩,⟨by exact BK380.out⟩,⟨by exact BK385.out⟩,⟨HB.out⟩⟩
      case round =>
       clear H'
       try clear c1
       try clear c2
       try clear p2
       try clear c3
       try clear c4
       try clear c7
       try clear c14
       try clear c20
       try clear c21
       try clear c24
       try clear c24b0
       try clear c24b1
       try clear c25
       try clear c26
       try clear c28
       try clear c31
       try clear c32
       try clear c34
       try clear c36
       try clear c37
       try clear c37b0
       try clear c37b1
       try clear c38
       try clear c39
       try clear c41
       try clear c43
       try clear c44
       try clear c46
       try clear hcz10_0
       try clear hcz10_1
       try clear hcz15_0
       try clear hcz15_1
       try clear hcz17_0
       try clear hcz17_1
       try clear hcz22_0
       try clear hcz22_1
       try clear hcz27_0
       try clear hcz27_1
       try clear hcz29_0
       try clear hcz29_1
       try clear hcz30_0
       try clear hcz30_1
       try clear hcz33_0
       try clear hcz33_1
       try clear hcz35_0
       try clear hcz35_1
       try clear hcz40_0
       try clear hcz40_1
       try clear hcz42_0
       try clear hcz42_1
       try clear hcz45_0
       try clear hcz45_1
       try clear hcz47_0
       try clear hcz47_1
       try clear hfz10_0
       try clear hfz10_1
       try clear hfz15_0
       try clear hfz15_1
       try clear hfz17_0
       try clear hfz17_1
       try clear hfz22_0
       try clear hfz22_1
       try clear hfz27_0
       try clear hfz27_1
       try clear hfz29_0
       try clear hfz29_1
       try clear hfz30_0
       try clear hfz30_1
       try clear hfz33_0
       try clear hfz33_1
       try clear hfz35_0
       try clear hfz35_1
       try clear hfz40_0
       try clear hfz40_1
       try clear hfz42_0
       try clear hfz42_1
       try clear hfz45_0
       try clear hfz45_1
       try clear hfz47_0
       try clear hfz47_1
       try clear p2
       obtain ⟨x6_2,rfl,HA,HK2,HO_376001,HO_381001,HO_386001,BK375,BK380,BK385,HB⟩ := hrel
       cases gk with
       | zero => exact absurd HA.out (by simp [laws_FnFreed.l0])
       | succ k2 =>
        have H := HA.out;clear HA;simp only [laws_FnFreed.l0] at H
        by_cases c48 : x6_2 < (t377.length : Int)
        ·rw [if_pos c48] at H;have c48b0 : decide (x6_2 < (t377.length : Int)) = true := decide_eq_true c48;clear c48;have HC49 := Aside0.mk H;clear H;have hnb50 := NB380_375.out;have hnc50 := NB375_380.out;have hnb51 := NB380_385.out;have hnc51 := NB385_380.out;have hcz52_0 : wr.cell? ⟨gb380,0,none⟩ = some (.int .i64 t376) := (blk_cell BK380.out 0).trans rfl;have hcz52_1 : wr.cell? ⟨gb380,1,none⟩ = some (.slice Ao16 t377.length co16) := (blk_cell BK380.out 1).trans rfl;have hfz52_0 := blk_frozen BK380.out 0;have hfz52_1 := blk_frozen BK380.out 1
         go_upto_region 13 with (fail)
         repeat (go_quiet (fail); go_upto_region 13 with (fail))
         go_cut [69] (fun v69 wc => ∃ (kq : Nat) (x69_48 : Bool),v69 = .bool x69_48 ∧ Aside0 (laws_FnFreed.j2 kq x6_2 x69_48 t371 t372 t376 t377 = some r) ∧ Aside0 (kq ≤ k2) ∧ Aside0 (Kd.S k63 63 wc w.heap.size (fun k_ => some k_ ≠ ((.slice Ao16 t377.length co16) : Value).ownBlock ∧ some k_ ≠ ((.slice Ao23 t382.length co23) : Value).ownBlock) (.slice Ao11 t372.length co11) t372) ∧ Aside0 (Kd.S k63 63 wc w.heap.size (fun k_ => some k_ ≠ ((.slice Ao11 t372.length co11) : Value).ownBlock ∧ some k_ ≠ ((.slice Ao23 t382.length co23) : Value).ownBlock) (.slice Ao16 t377.length co16) t377) ∧ Aside0 (Kd.S k63 63 wc w.heap.size (fun k_ => some k_ ≠ ((.slice Ao11 t372.length co11) : Value).ownBlock ∧ some k_ ≠ ((.slice Ao16 t377.length co16) : Value).ownBlock) (.slice Ao23 t382.length co23) t382) ∧ Aside0 (wc.heap[gb375]? = some (.cells #[.int .i64 t371,(.slice Ao11 t372.length co11)] 31 (0,0))) ∧ Aside0 (wc.heap[gb380]? = some (.cells #[.int .i64 t376,(.slice Ao16 t377.length co16)] 31 (0,0))) ∧ Aside0 (wc.heap[gb385]? = some (.cells #[.int .i64 t381,(.slice Ao23 t382.length co23)] 31 (0,0))) ∧ Aside0 (Below w.heap.size w wc))
         case first =>
          have H := HC49.out;clear HC49
          by_cases c53 : 0 ≤ x6_2
          ·rw [if_pos c53] at H;have c53b0 : decide (0 ≤ x6_2) = true := decide_eq_true c53;clear c53
           (skip)
           by_cases c54 : x6_2 < (t372.length : Int)
           ·rw [if_pos c54] at H;have c54b0 : decide (x6_2 < (t372.length : Int)) = true := decide_eq_true c54;clear c54
            by_cases c55 : ((rd_T63 t377 x6_2).f3) = ((rd_T63 t372 x6_2).f3)
            ·rw [if_pos c55] at H;have c55b0 : (((rd_T63 t377 x6_2).f3) == ((rd_T63 t372 x6_2).f3)) = true := beq_iff_eq.mpr c55;have c55b1 : (((rd_T63 t377 x6_2).f3) != ((rd_T63 t372 x6_2).f3)) = false := bne_eq_false_iff_eq.mpr c55;clear c55;have H' := Aside0.mk H;clear H;have hnb56 := NB380_375.out;have hnc56 := NB375_380.out;have hnb57 := NB380_385.out;have hnc57 := NB385_380.out;have hcz58_0 : wr.cell? ⟨gb380,0,none⟩ = some (.int .i64 t376) := (blk_cell BK380.out 0).trans rfl;have hcz58_1 : wr.cell? ⟨gb380,1,none⟩ = some (.slice Ao16 t377.length co16) := (blk_cell BK380.out 1).trans rfl;have hfz58_0 := blk_frozen BK380.out 0;have hfz58_1 := blk_frozen BK380.out 1;have p386 : 0 ≤ (x6_2 : Int) := of_decide_eq_true (by (with_reducible assumption));have q386 : x6_2 < (t377.length : Int) := of_decide_eq_true (by (with_reducible assumption));obtain ⟨ad386,A386_4,c386_4,e386,hx386_0,hx386_1,hx386_2,hx386_3,hx386_4,hl386_4,hi386_4⟩ := at_T63 (Kd.S_reads' HO_381001.out).2.2 x6_2 p386 q386
             cases e386
             obtain ⟨ce386,hce386,hMe386,hcc386⟩ := Kd.S_get HO_381001.out z63 x6_2 p386 (by exact q386);obtain ⟨ve386_4,rfl,ge386_4⟩ := k63_openM hMe386;have hv386_4 := hcc386 4 _ rfl;rw [add_field _ _ 4 (by omega)] at hv386_4;replace hv386_4 := Option.some.inj (hv386_4.symm.trans hx386_4);rw [hv386_4] at ge386_4;have HL386_4 := Aside0.mk (show Kd.R k65 65 _ _ _ _ ((rd_T63 t377 x6_2).f4) from ge386_4);clear hv386_4 ge386_4;clear hcc386 hce386;have HR386_4 := Aside0.mk hi386_4;have HC386_4 := Aside0.mk hl386_4;clear hi386_4 hl386_4;replace p386 := eq_true p386;replace q386 := eq_true q386;have hnb59 := NB375_385.out;have hnc59 := NB385_375.out;have hcz60_0 : wr.cell? ⟨gb375,0,none⟩ = some (.int .i64 t371) := (blk_cell BK375.out 0).trans rfl;have hcz60_1 : wr.cell? ⟨gb375,1,none⟩ = some (.slice Ao11 t372.length co11) := (blk_cell BK375.out 1).trans rfl;have hfz60_0 := blk_frozen BK375.out 0;have hfz60_1 := blk_frozen BK375.out 1;have p387 : 0 ≤ (x6_2 : Int) := of_decide_eq_true (by (with_reducible assumption));have q387 : x6_2 < (t372.length : Int) := of_decide_eq_true (by (with_reducible assumption));obtain ⟨ad387,A387_4,c387_4,e387,hx387_0,hx387_1,hx387_2,hx387_3,hx387_4,hl387_4,hi387_4⟩ := at_T63 (Kd.S_reads' HO_376001.out).2.2 x6_2 p387 q387
             cases e387
             obtain ⟨ce387,hce387,hMe387,hcc387⟩ := Kd.S_get HO_376001.out z63 x6_2 p387 (by exact q387);obtain ⟨ve387_4,rfl,ge387_4⟩ := k63_openM hMe387;have hv387_4 := hcc387 4 _ rfl;rw [add_field _ _ 4 (by omega)] at hv387_4;replace hv387_4 := Option.some.inj (hv387_4.symm.trans hx387_4);rw [hv387_4] at ge387_4;have HL387_4 := Aside0.mk (show Kd.R k65 65 _ _ _ _ ((rd_T63 t372 x6_2).f4) from ge387_4);clear hv387_4 ge387_4;clear hcc387 hce387;have HR387_4 := Aside0.mk hi387_4;have HC387_4 := Aside0.mk hl387_4;clear hi387_4 hl387_4;replace p387 := eq_true p387;replace q387 := eq_true q387;have p388 : 0 ≤ (x6_2 : Int) := of_decide_eq_true (by (with_reducible assumption));have q388 : x6_2 < (t377.length : Int) := of_decide_eq_true (by (with_reducible assumption));obtain ⟨ad388,A388_4,c388_4,e388,hx388_0,hx388_1,hx388_2,hx388_3,hx388_4,hl388_4,hi388_4⟩ := at_T63 (Kd.S_reads' HO_381001.out).2.2 x6_2 p388 q388;obtain rfl : ad386 = ad388 := (by injection e388);obtain ⟨ce388,hce388,hMe388,hcc388⟩ := Kd.S_get HO_381001.out z63 x6_2 p388 (by exact q388);obtain ⟨ve388_4,rfl,ge388_4⟩ := k63_openM hMe388;have hv388_4 := hcc388 4 _ rfl;rw [add_field _ _ 4 (by omega)] at hv388_4;replace hv388_4 := Option.some.inj (hv388_4.symm.trans hx388_4);rw [hv388_4] at ge388_4;have HL388_4 := Aside0.mk (show Kd.R k65 65 _ _ _ _ ((rd_T63 t377 x6_2).f4) from ge388_4);clear hv388_4 ge388_4;clear hcc388 hce388;have HR388_4 := Aside0.mk hi388_4;have HC388_4 := Aside0.mk hl388_4;clear hi388_4 hl388_4;replace p388 := eq_true p388;replace q388 := eq_true q388;have ea_ := Option.some.inj (hx386_4.symm.trans hx388_4)
             injection ea_ with ea_ en_ ec_
             subst ea_;subst ec_;clear en_;have p389 : 0 ≤ (x6_2 : Int) := of_decide_eq_true (by (with_reducible assumption));have q389 : x6_2 < (t372.length : Int) := of_decide_eq_true (by (with_reducible assumption));obtain ⟨ad389,A389_4,c389_4,e389,hx389_0,hx389_1,hx389_2,hx389_3,hx389_4,hl389_4,hi389_4⟩ := at_T63 (Kd.S_reads' HO_376001.out).2.2 x6_2 p389 q389;obtain rfl : ad387 = ad389 := (by injection e389);obtain ⟨ce389,hce389,hMe389,hcc389⟩ := Kd.S_get HO_376001.out z63 x6_2 p389 (by exact q389);obtain ⟨ve389_4,rfl,ge389_4⟩ := k63_openM hMe389;have hv389_4 := hcc389 4 _ rfl;rw [add_field _ _ 4 (by omega)] at hv389_4;replace hv389_4 := Option.some.inj (hv389_4.symm.trans hx389_4);rw [hv389_4] at ge389_4;have HL389_4 := Aside0.mk (show Kd.R k65 65 _ _ _ _ ((rd_T63 t372 x6_2).f4) from ge389_4);clear hv389_4 ge389_4;clear hcc389 hce389;have HR389_4 := Aside0.mk hi389_4;have HC389_4 := Aside0.mk hl389_4;clear hi389_4 hl389_4;replace p389 := eq_true p389;replace q389 := eq_true q389;have ea_ := Option.some.inj (hx387_4.symm.trans hx389_4)
             injection ea_ with ea_ en_ ec_
             subst ea_;subst ec_;clear en_;go_wp2
             repeat (go_quiet (fail); try go_wp2)
             go_meet
             case rel => exact ⟨_,(decide (((rd_T63 t377 x6_2).f1) < ((rd_T63 t372 x6_2).f1))),(by rfl),H',⟨by have := HJ6.out; have := HK2.out; omega⟩,⟨by (with_reducible repeat (apply Kd.S_drewN)); exact HO_376001.out⟩,⟨by (with_reducible repeat (apply Kd.S_drewN)); exact HO_381001.out⟩,⟨by (with_reducible repeat (apply Kd.S_drewN)); exact HO_386001.out⟩,⟨by (with_reducible repeat (refine blk_drewN ?_ _)); exact BK375.out⟩,⟨by (with_reducible repeat (refine blk_drewN ?_ _)); exact BK380.out⟩,⟨by (with_reducible repeat (refine blk_drewN ?_ _)); exact BK385.out⟩,⟨by repeat (with_reducible first | exact HB.out | apply pw_below_drewN)⟩⟩
            ·rw [if_neg c55] at H;have c55b0 : (((rd_T63 t377 x6_2).f3) == ((rd_T63 t372 x6_2).f3)) = false := beq_eq_false_iff_ne.mpr c55;have c55b1 : (((rd_T63 t377 x6_2).f3) != ((rd_T63 t372 x6_2).f3)) = true := bne_iff_ne.mpr c55;have H' := Aside0.mk H;clear H;have hnb61 := NB380_375.out;have hnc61 := NB375_380.out;have hnb62 := NB380_385.out;have hnc62 := NB385_380.out;have hcz63_0 : wr.cell? ⟨gb380,0,none⟩ = some (.int .i64 t376) := (blk_cell BK380.out 0).trans rfl;have hcz63_1 : wr.cell? ⟨gb380,1,none⟩ = some (.slice Ao16 t377.length co16) := (blk_cell BK380.out 1).trans rfl;have hfz63_0 := blk_frozen BK380.out 0;have hfz63_1 := blk_frozen BK380.out 1;have p386 : 0 ≤ (x6_2 : Int) := of_decide_eq_true (by (with_reducible assumption));have q386 : x6_2 < (t377.length : Int) := of_decide_eq_true (by (with_reducible assumption));obtain ⟨ad386,A386_4,c386_4,e386,hx386_0,hx386_1,hx386_2,hx386_3,hx386_4,hl386_4,hi386_4⟩ := at_T63 (Kd.S_reads' HO_381001.out).2.2 x6_2 p386 q386
             cases e386
             obtain ⟨ce386,hce386,hMe386,hcc386⟩ := Kd.S_get HO_381001.out z63 x6_2 p386 (by exact q386);obtain ⟨ve386_4,rfl,ge386_4⟩ := k63_openM hMe386;have hv386_4 := hcc386 4 _ rfl;rw [add_field _ _ 4 (by omega)] at hv386_4;replace hv386_4 := Option.some.inj (hv386_4.symm.trans hx386_4);rw [hv386_4] at ge386_4;have HL386_4 := Aside0.mk (show Kd.R k65 65 _ _ _ _ ((rd_T63 t377 x6_2).f4) from ge386_4);clear hv386_4 ge386_4;clear hcc386 hce386;have HR386_4 := Aside0.mk hi386_4;have HC386_4 := Aside0.mk hl386_4;clear hi386_4 hl386_4;replace p386 := eq_true p386;replace q386 := eq_true q386;have hnb64 := NB375_385.out;have hnc64 := NB385_375.out;have hcz65_0 : wr.cell? ⟨gb375,0,none⟩ = some (.int .i64 t371) := (blk_cell BK375.out 0).trans rfl;have hcz65_1 : wr.cell? ⟨gb375,1,none⟩ = some (.slice Ao11 t372.length co11) := (blk_cell BK375.out 1).trans rfl;have hfz65_0 := blk_frozen BK375.out 0;have hfz65_1 := blk_frozen BK375.out 1;have p387 : 0 ≤ (x6_2 : Int) := of_decide_eq_true (by (with_reducible assumption));have q387 : x6_2 < (t372.length : Int) := of_decide_eq_true (by (with_reducible assumption));obtain ⟨ad387,A387_4,c387_4,e387,hx387_0,hx387_1,hx387_2,hx387_3,hx387_4,hl387_4,hi387_4⟩ := at_T63 (Kd.S_reads' HO_376001.out).2.2 x6_2 p387 q387
             cases e387
             obtain ⟨ce387,hce387,hMe387,hcc387⟩ := Kd.S_get HO_376001.out z63 x6_2 p387 (by exact q387);obtain ⟨ve387_4,rfl,ge387_4⟩ := k63_openM hMe387;have hv387_4 := hcc387 4 _ rfl;rw [add_field _ _ 4 (by omega)] at hv387_4;replace hv387_4 := Option.some.inj (hv387_4.symm.trans hx387_4);rw [hv387_4] at ge387_4;have HL387_4 := Aside0.mk (show Kd.R k65 65 _ _ _ _ ((rd_T63 t372 x6_2).f4) from ge387_4);clear hv387_4 ge387_4;clear hcc387 hce387;have HR387_4 := Aside0.mk hi387_4;have HC387_4 := Aside0.mk hl387_4;clear hi387_4 hl387_4;replace p387 := eq_true p387;replace q387 := eq_true q387;go_wp2
             repeat (go_quiet (fail); try go_wp2)
             go_meet
             case rel => exact ⟨_,(true),(by rfl),H',⟨by have := HJ6.out; have := HK2.out; omega⟩,⟨by (with_reducible repeat (apply Kd.S_drewN)); exact HO_376001.out⟩,⟨by (with_reducible repeat (apply Kd.S_drewN)); exact HO_381001.out⟩,⟨by (with_reducible repeat (apply Kd.S_drewN)); exact HO_386001.out⟩,⟨by (with_reducible repeat (refine blk_drewN ?_ _)); exact BK375.out⟩,⟨by (with_reducible repeat (refine blk_drewN ?_ _)); exact BK380.out⟩,⟨by (with_reducible repeat (refine blk_drewN ?_ _)); exact BK385.out⟩,⟨by repeat (with_reducible first | exact HB.out | apply pw_below_drewN)⟩⟩
           ·rw [if_neg c54] at H;exact absurd H (by simp)
          ·rw [if_neg c53] at H;exact absurd H (by simp)
         case rest =>
          clear HC49
          try clear c1
          try clear c2
          try clear p2
          try clear c3
          try clear p3
          try clear q3
          try clear hx3
          try clear c4
          try clear c5
          try clear c6
          try clear c7
          try clear c14
          try clear c20
          try clear c21
          try clear c24
          try clear c24b0
          try clear c24b1
          try clear c25
          try clear c26
          try clear c28
          try clear c31
          try clear c32
          try clear c34
          try clear c36
          try clear c37
          try clear c37b0
          try clear c37b1
          try clear c38
          try clear p38
          try clear q38
          try clear hx38
          try clear c39
          try clear c41
          try clear c43
          try clear c44
          try clear c46
          try clear c48
          try clear c48b0
          try clear c50
          try clear c51
          try clear c53
          try clear c53b0
          try clear c54
          try clear c54b0
          try clear c55
          try clear c55b0
          try clear c55b1
          try clear c56
          try clear c57
          try clear c59
          try clear c61
          try clear c62
          try clear c64
          try clear hcz10_0
          try clear hcz10_1
          try clear hcz15_0
          try clear hcz15_1
          try clear hcz17_0
          try clear hcz17_1
          try clear hcz22_0
          try clear hcz22_1
          try clear hcz27_0
          try clear hcz27_1
          try clear hcz29_0
          try clear hcz29_1
          try clear hcz30_0
          try clear hcz30_1
          try clear hcz33_0
          try clear hcz33_1
          try clear hcz35_0
          try clear hcz35_1
          try clear hcz40_0
          try clear hcz40_1
          try clear hcz42_0
          try clear hcz42_1
          try clear hcz45_0
          try clear hcz45_1
          try clear hcz47_0
          try clear hcz47_1
          try clear hcz52_0
          try clear hcz52_1
          try clear hcz58_0
          try clear hcz58_1
          try clear hcz60_0
          try clear hcz60_1
          try clear hcz63_0
          try clear hcz63_1
          try clear hcz65_0
          try clear hcz65_1
          try clear hfz10_0
          try clear hfz10_1
          try clear hfz15_0
          try clear hfz15_1
          try clear hfz17_0
          try clear hfz17_1
          try clear hfz22_0
          try clear hfz22_1
          try clear hfz27_0
          try clear hfz27_1
          try clear hfz29_0
          try clear hfz29_1
          try clear hfz30_0
          try clear hfz30_1
          try clear hfz33_0
          try clear hfz33_1
          try clear hfz35_0
          try clear hfz35_1
          try clear hfz40_0
          try clear hfz40_1
          try clear hfz42_0
          try clear hfz42_1
          try clear hfz45_0
          try clear hfz45_1
          try clear hfz47_0
          try clear hfz47_1
          try clear hfz52_0
          try clear hfz52_1
          try clear hfz58_0
          try clear hfz58_1
          try clear hfz60_0
          try clear hfz60_1
          try clear hfz63_0
          try clear hfz63_1
          try clear hfz65_0
          try clear hfz65_1
          try clear hx386_0
          try clear hx386_1
          try clear hx386_2
          try clear hx386_3
          try clear hx386_4
          try clear hx387_0
          try clear hx387_1
          try clear hx387_2
          try clear hx387_3
          try clear hx387_4
          try clear hx388_0
          try clear hx388_1
          try clear hx388_2
          try clear hx388_3
          try clear hx388_4
          try clear hx389_0
          try clear hx389_1
          try clear hx389_2
          try clear hx389_3
          try clear hx389_4
          try clear p2
          try clear p386
          try clear p387
          try clear p388
          try clear p389
          try clear q386
          try clear q387
          try clear q388
          try clear q389
          obtain ⟨kq,x69_48,rfl,HA,HJ48,HO_376001,HO_381001,HO_386001,BK375,BK380,BK385,HB⟩ := hcut
          cases kq with
          | zero => exact absurd HA.out (by simp [laws_FnFreed.j2])
          | succ kj48 =>
           have H := HA.out;clear HA;simp only [laws_FnFreed.j2] at H
           by_cases c66 : x69_48 = true
           ·subst c66
            have H1 : (some false) = some r := by rw [if_pos rfl] at H; exact H
            clear H;have H := H1;clear H1;obtain rfl := Option.some.inj H;go_wp2
            repeat (go_quiet (fail); try go_wp2)
            go_ret;exact ⟨by rfl,HB.out⟩
           ·replace c66 := Bool.eq_false_iff.mpr c66;subst c66
            have H1 : (laws_FnFreed.l1 kj48 x6_2 0 t371 t372 t376 t377) = some r := by rw [if_neg (show ¬ (false = true) by decide)] at H; exact H
            clear H;have H := H1;clear H1;have H' := Aside0.mk H;clear H;go_wp2
            repeat (go_quiet (fail); try go_wp2)
            go_loopg [7] kj48 (fun kq v7 w' => ∃ (x7_4 : Int),v7 = .int .i64 x7_4 ∧ Aside0 (laws_FnFreed.l1 kq x6_2 x7_4 t371 t372 t376 t377 = some r) ∧ Aside0 (kq ≤ kj48) ∧ Aside0 (Kd.S k63 63 w' w.heap.size (fun k_ => some k_ ≠ ((.slice Ao16 t377.length co16) : Value).ownBlock ∧ some k_ ≠ ((.slice Ao23 t382.length co23) : Value).ownBlock) (.slice Ao11 t372.length co11) t372) ∧ Aside0 (Kd.S k63 63 w' w.heap.size (fun k_ => some k_ ≠ ((.slice Ao11 t372.length co11) : Value).ownBlock ∧ some k_ ≠ ((.slice Ao23 t382.length co23) : Value).ownBlock) (.slice Ao16 t377.length co16) t377) ∧ Aside0 (Kd.S k63 63 w' w.heap.size (fun k_ => some k_ ≠ ((.slice Ao11 t372.length co11) : Value).ownBlock ∧ some k_ ≠ ((.slice Ao16 t377.length co16) : Value).ownBlock) (.slice Ao23 t382.length co23) t382) ∧ Aside0 (w'.heap[gb375]? = some (.cells #[.int .i64 t371,(.slice Ao11 t372.length co11)] 31 (0,0))) ∧ Aside0 (w'.heap[gb380]? = some (.cells #[.int .i64 t376,(.slice Ao16 t377.length co16)] 31 (0,0))) ∧ Aside0 (w'.heap[gb385]? = some (.cells #[.int .i64 t381,(.slice Ao23 t382.length co23)] 31 (0,0))) ∧ Aside0 (Below w.heap.size w w'))
            case atStart => exact ⟨(0),(by rfl),H',⟨Nat.le_refl _⟩,⟨by exact HO_376001.out⟩,⟨by exact HO_381001.out⟩,⟨by exact HO_386001.out⟩,⟨by exact BK375.out⟩,⟨by exact BK380.out⟩,⟨by exact BK385.out⟩,⟨HB.out⟩⟩
            case round =>
             clear H'
             try clear c1
             try clear c2
             try clear p2
             try clear c3
             try clear p3
             try clear q3
             try clear hx3
             try clear c4
             try clear c5
             try clear c6
             try clear c7
             try clear c14
             try clear c20
             try clear c21
             try clear c24
             try clear c24b0
             try clear c24b1
             try clear c25
             try clear c26
             try clear c28
             try clear c31
             try clear c32
             try clear c34
             try clear c36
             try clear c37
             try clear c37b0
             try clear c37b1
             try clear c38
             try clear p38
             try clear q38
             try clear hx38
             try clear c39
             try clear c41
             try clear c43
             try clear c44
             try clear c46
             try clear c48
             try clear c48b0
             try clear c50
             try clear c51
             try clear c53
             try clear c53b0
             try clear c54
             try clear c54b0
             try clear c55
             try clear c55b0
             try clear c55b1
             try clear c56
             try clear c57
             try clear c59
             try clear c61
             try clear c62
             try clear c64
             try clear c66
             try clear hcz10_0
             try clear hcz10_1
             try clear hcz15_0
             try clear hcz15_1
             try clear hcz17_0
             try clear hcz17_1
             try clear hcz22_0
             try clear hcz22_1
             try clear hcz27_0
             try clear hcz27_1
             try clear hcz29_0
             try clear hcz29_1
             try clear hcz30_0
             try clear hcz30_1
             try clear hcz33_0
             try clear hcz33_1
             try clear hcz35_0
             try clear hcz35_1
             try clear hcz40_0
             try clear hcz40_1
             try clear hcz42_0
             try clear hcz42_1
             try clear hcz45_0
             try clear hcz45_1
             try clear hcz47_0
             try clear hcz47_1
             try clear hcz52_0
             try clear hcz52_1
             try clear hcz58_0
             try clear hcz58_1
             try clear hcz60_0
             try clear hcz60_1
             try clear hcz63_0
             try clear hcz63_1
             try clear hcz65_0
             try clear hcz65_1
             try clear hfz10_0
             try clear hfz10_1
             try clear hfz15_0
             try clear hfz15_1
             try clear hfz17_0
             try clear hfz17_1
             try clear hfz22_0
             try clear hfz22_1
             try clear hfz27_0
             try clear hfz27_1
             try clear hfz29_0
             try clear hfz29_1
             try clear hfz30_0
             try clear hfz30_1
             try clear hfz33_0
             try clear hfz33_1
             try clear hfz35_0
             try clear hfz35_1
             try clear hfz40_0
             try clear hfz40_1
             try clear hfz42_0
             try clear hfz42_1
             try clear hfz45_0
             try clear hfz45_1
             try clear hfz47_0
             try clear hfz47_1
             try clear hfz52_0
             try clear hfz52_1
             try clear hfz58_0
             try clear hfz58_1
             try clear hfz60_0
             try clear hfz60_1
             try clear hfz63_0
             try clear hfz63_1
             try clear hfz65_0
             try clear hfz65_1
             try clear hx386_0
             try clear hx386_1
             try clear hx386_2
             try clear hx386_3
             try clear hx386_4
             try clear hx387_0
             try clear hx387_1
             try clear hx387_2
             try clear hx387_3
             try clear hx387_4
             try clear hx388_0
             try clear hx388_1
             try clear hx388_2
             try clear hx388_3
             try clear hx388_4
             try clear hx389_0
             try clear hx389_1
             try clear hx389_2
             try clear hx389_3
             try clear hx389_4
             try clear p2
             try clear p3
             try clear p38
             try clear p386
             try clear p387
             try clear p388
             try clear p389
             try clear q3
             try clear q38
             try clear q386
             try clear q387
             try clear q388
             try clear q389
             obtain ⟨x7_4,rfl,HA,HK4,HO_376001,HO_381001,HO_386001,BK375,BK380,BK385,HB⟩ := hrel
             cases gk with
             | zero => exact absurd HA.out (by simp [laws_FnFreed.l1])
             | succ k4 =>
              have H := HA.out;clear HA;simp only [laws_FnFreed.l1] at H
              by_cases c67 : 0 ≤ x6_2
              ·rw [if_pos c67] at H;have c67b0 : decide (0 ≤ x6_2) = true := decide_eq_true c67;clear c67
               by_cases c68 : x6_2 < (t377.length : Int)
               ·rw [if_pos c68] at H;have c68b0 : decide (x6_2 < (t377.length : Int)) = true := decide_eq_true c68;clear c68
                by_cases c69 : x7_4 < (((rd_T63 t377 x6_2).f4).length : Int)
                ·rw [if_pos c69] at H;have c69b0 : decide (x7_4 < (((rd_T63 t377 x6_2).f4).length : Int)) = true := decide_eq_true c69;clear c69
                 by_cases c70 : 0 ≤ x7_4
                 ·rw [if_pos c70] at H;have c70b0 : decide (0 ≤ x7_4) = true := decide_eq_true c70;clear c70
                  by_cases c71 : ((rd_T65 ((rd_T63 t377 x6_2).f4) x7_4).f1) ≤ t376
                  ·rw [if_pos c71] at H;have c71b0 : decide (((rd_T65 ((rd_T63 t377 x6_2).f4) x7_4).f1) ≤ t376) = true := decide_eq_true c71;clear c71;obtain rfl := Option.some.inj H;have hnb72 := NB380_375.out;have hnc72 := NB375_380.out;have hnb73 := NB380_385.out;have hnc73 := NB385_380.out;have hcz74_0 : wr.cell? ⟨gb380,0,none⟩ = some (.int .i64 t376) := (blk_cell BK380.out 0).trans rfl;have hcz74_1 : wr.cell? ⟨gb380,1,none⟩ = some (.slice Ao16 t377.length co16) := (blk_cell BK380.out 1).trans rfl;have hfz74_0 := blk_frozen BK380.out 0;have hfz74_1 := blk_frozen BK380.out 1;have p390 : 0 ≤ (x6_2 : Int) := of_decide_eq_true (by (with_reducible assumption));have q390 : x6_2 < (t377.length : Int) := of_decide_eq_true (by (with_reducible assumption));obtain ⟨ad390,A390_4,c390_4,e390,hx390_0,hx390_1,hx390_2,hx390_3,hx390_4,hl390_4,hi390_4⟩ := at_T63 (Kd.S_reads' HO_381001.out).2.2 x6_2 p390 q390
                   cases e390
                   obtain ⟨ce390,hce390,hMe390,hcc390⟩ := Kd.S_get HO_381001.out z63 x6_2 p390 (by exact q390);obtain ⟨ve390_4,rfl,ge390_4⟩ := k63_openM hMe390;have hv390_4 := hcc390 4 _ rfl;rw [add_field _ _ 4 (by omega)] at hv390_4;replace hv390_4 := Option.some.inj (hv390_4.symm.trans hx390_4);rw [hv390_4] at ge390_4;have HL390_4 := Aside0.mk (show Kd.R k65 65 _ _ _ _ ((rd_T63 t377 x6_2).f4) from ge390_4);clear hv390_4 ge390_4;clear hcc390 hce390;have HR390_4 := Aside0.mk hi390_4;have HC390_4 := Aside0.mk hl390_4;clear hi390_4 hl390_4;replace p390 := eq_true p390;replace q390 := eq_true q390;have p391 : 0 ≤ (x6_2 : Int) := of_decide_eq_true (by (with_reducible assumption));have q391 : x6_2 < (t377.length : Int) := of_decide_eq_true (by (with_reducible assumption));obtain ⟨ad391,A391_4,c391_4,e391,hx391_0,hx391_1,hx391_2,hx391_3,hx391_4,hl391_4,hi391_4⟩ := at_T63 (Kd.S_reads' HO_381001.out).2.2 x6_2 p391 q391;obtain rfl : ad390 = ad391 := (by injection e391);obtain ⟨ce391,hce391,hMe391,hcc391⟩ := Kd.S_get HO_381001.out z63 x6_2 p391 (by exact q391);obtain ⟨ve391_4,rfl,ge391_4⟩ := k63_openM hMe391;have hv391_4 := hcc391 4 _ rfl;rw [add_field _ _ 4 (by omega)] at hv391_4;replace hv391_4 := Option.some.inj (hv391_4.symm.trans hx391_4);rw [hv391_4] at ge391_4;have HL391_4 := Aside0.mk (show Kd.R k65 65 _ _ _ _ ((rd_T63 t377 x6_2).f4) from ge391_4);clear hv391_4 ge391_4;clear hcc391 hce391;have HR391_4 := Aside0.mk hi391_4;have HC391_4 := Aside0.mk hl391_4;clear hi391_4 hl391_4;replace p391 := eq_true p391;replace q391 := eq_true q391;have ea_ := Option.some.inj (hx390_4.symm.trans hx391_4)
                   injection ea_ with ea_ en_ ec_
                   subst ea_;subst ec_;clear en_;have p392 : 0 ≤ (x7_4 : Int) := of_decide_eq_true (by (with_reducible assumption));have q392 : x7_4 < (((rd_T63 t377 x6_2).f4).length : Int) := of_decide_eq_true (by (with_reducible assumption));obtain ⟨ad392,e392,hx392_0,hx392_1⟩ := at_T65 HR391_4.out x7_4 p392 q392
                   cases e392
                   replace p392 := eq_true p392;replace q392 := eq_true q392;go_wp2
                   repeat (go_quiet (fail); try go_wp2)
                   go_ret;exact ⟨by rfl,by repeat (with_reducible first | exact HB.out | apply pw_below_drewN)⟩
                  ·rw [if_neg c71] at H;have c71b0 : decide (((rd_T65 ((rd_T63 t377 x6_2).f4) x7_4).f1) ≤ t376) = false := decide_eq_false c71;clear c71;have H' := Aside0.mk H;clear H;have hnb75 := NB380_375.out;have hnc75 := NB375_380.out;have hnb76 := NB380_385.out;have hnc76 := NB385_380.out;have hcz77_0 : wr.cell? ⟨gb380,0,none⟩ = some (.int .i64 t376) := (blk_cell BK380.out 0).trans rfl;have hcz77_1 : wr.cell? ⟨gb380,1,none⟩ = some (.slice Ao16 t377.length co16) := (blk_cell BK380.out 1).trans rfl;have hfz77_0 := blk_frozen BK380.out 0;have hfz77_1 := blk_frozen BK380.out 1;have p390 : 0 ≤ (x6_2 : Int) := of_decide_eq_true (by (with_reducible assumption));have q390 : x6_2 < (t377.length : Int) := of_decide_eq_true (by (with_reducible assumption));obtain ⟨ad390,A390_4,c390_4,e390,hx390_0,hx390_1,hx390_2,hx390_3,hx390_4,hl390_4,hi390_4⟩ := at_T63 (Kd.S_reads' HO_381001.out).2.2 x6_2 p390 q390
                   cases e390
                   obtain ⟨ce390,hce390,hMe390,hcc390⟩ := Kd.S_get HO_381001.out z63 x6_2 p390 (by exact q390);obtain ⟨ve390_4,rfl,ge390_4⟩ := k63_openM hMe390;have hv390_4 := hcc390 4 _ rfl;rw [add_field _ _ 4 (by omega)] at hv390_4;replace hv390_4 := Option.some.inj (hv390_4.symm.trans hx390_4);rw [hv390_4] at ge390_4;have HL390_4 := Aside0.mk (show Kd.R k65 65 _ _ _ _ ((rd_T63 t377 x6_2).f4) from ge390_4);clear hv390_4 ge390_4;clear hcc390 hce390;have HR390_4 := Aside0.mk hi390_4;have HC390_4 := Aside0.mk hl390_4;clear hi390_4 hl390_4;replace p390 := eq_true p390;replace q390 := eq_true q390;have p391 : 0 ≤ (x6_2 : Int) := of_decide_eq_true (by (with_reducible assumption));have q391 : x6_2 < (t377.length : Int) := of_decide_eq_true (by (with_reducible assumption));obtain ⟨ad391,A391_4,c391_4,e391,hx391_0,hx391_1,hx391_2,hx391_3,hx391_4,hl391_4,hi391_4⟩ := at_T63 (Kd.S_reads' HO_381001.out).2.2 x6_2 p391 q391;obtain rfl : ad390 = ad391 := (by injection e391);obtain ⟨ce391,hce391,hMe391,hcc391⟩ := Kd.S_get HO_381001.out z63 x6_2 p391 (by exact q391);obtain ⟨ve391_4,rfl,ge391_4⟩ := k63_openM hMe391;have hv391_4 := hcc391 4 _ rfl;rw [add_field _ _ 4 (by omega)] at hv391_4;replace hv391_4 := Option.some.inj (hv391_4.symm.trans hx391_4);rw [hv391_4] at ge391_4;have HL391_4 := Aside0.mk (show Kd.R k65 65 _ _ _ _ ((rd_T63 t377 x6_2).f4) from ge391_4);clear hv391_4 ge391_4;clear hcc391 hce391;have HR391_4 := Aside0.mk hi391_4;have HC391_4 := Aside0.mk hl391_4;clear hi391_4 hl391_4;replace p391 := eq_true p391;replace q391 := eq_true q391;have ea_ := Option.some.inj (hx390_4.symm.trans hx391_4)
                   injection ea_ with ea_ en_ ec_
                   subst ea_;subst ec_;clear en_;have p392 : 0 ≤ (x7_4 : Int) := of_decide_eq_true (by (with_reducible assumption));have q392 : x7_4 < (((rd_T63 t377 x6_2).f4).length : Int) := of_decide_eq_true (by (with_reducible assumption));obtain ⟨ad392,e392,hx392_0,hx392_1⟩ := at_T65 HR391_4.out x7_4 p392 q392
                   cases e392
                   replace p392 := eq_true p392;replace q392 := eq_true q392;go_wp2
                   repeat (go_quiet (fail); try go_wp2)
                   go_roundg k4
                   case measure => have := HJ6.out; have := HK2.out; have := HJ48.out; have := HK4.out; omega
                   case rel => exact ⟨(wrap64 (x7_4 + 1)),(by rfl),H',⟨by have := HJ6.out; have := HK2.out; have := HJ48.out; have := HK4.out; omega⟩,⟨by (with_reducible repeat (apply Kd.S_drewN)); exact HO_376001.out⟩,⟨by (with_reducible repeat (apply Kd.S_drewN)); exact HO_381001.out⟩,⟨by (with_reducible repeat (apply Kd.S_drewN)); exact HO_386001.out⟩,⟨by (with_reducible repeat (refine blk_drewN ?_ _)); exact BK375.out⟩,⟨by (with_reducible repeat (refine blk_drewN ?_ _)); exact BK380.out⟩,⟨by (with_reducible repeat (refine blk_drewN ?_ _)); exact BK385.out⟩,⟨by repeat (with_reducible first | exact HB.out | apply pw_below_drewN)⟩⟩
                 ·rw [if_neg c70] at H;exact absurd H (by simp)
                ·rw [if_neg c69] at H;have c69b0 : decide (x7_4 < (((rd_T63 t377 x6_2).f4).length : Int)) = false := decide_eq_false c69;clear c69;have H' := Aside0.mk H;clear H;have hnb78 := NB380_375.out;have hnc78 := NB375_380.out;have hnb79 := NB380_385.out;have hnc79 := NB385_380.out;have hcz80_0 : wr.cell? ⟨gb380,0,none⟩ = some (.int .i64 t376) := (blk_cell BK380.out 0).trans rfl;have hcz80_1 : wr.cell? ⟨gb380,1,none⟩ = some (.slice Ao16 t377.length co16) := (blk_cell BK380.out 1).trans rfl;have hfz80_0 := blk_frozen BK380.out 0;have hfz80_1 := blk_frozen BK380.out 1;have p390 : 0 ≤ (x6_2 : Int) := of_decide_eq_true (by (with_reducible assumption));have q390 : x6_2 < (t377.length : Int) := of_decide_eq_true (by (with_reducible assumption));obtain ⟨ad390,A390_4,c390_4,e390,hx390_0,hx390_1,hx390_2,hx390_3,hx390_4,hl390_4,hi390_4⟩ := at_T63 (Kd.S_reads' HO_381001.out).2.2 x6_2 p390 q390
                 cases e390
                 obtain ⟨ce390,hce390,hMe390,hcc390⟩ := Kd.S_get HO_381001.out z63 x6_2 p390 (by exact q390);obtain ⟨ve390_4,rfl,ge390_4⟩ := k63_openM hMe390;have hv390_4 := hcc390 4 _ rfl;rw [add_field _ _ 4 (by omega)] at hv390_4;replace hv390_4 := Option.some.inj (hv390_4.symm.trans hx390_4);rw [hv390_4] at ge390_4;have HL390_4 := Aside0.mk (show Kd.R k65 65 _ _ _ _ ((rd_T63 t377 x6_2).f4) from ge390_4);clear hv390_4 ge390_4;clear hcc390 hce390;have HR390_4 := Aside0.mk hi390_4;have HC390_4 := Aside0.mk hl390_4;clear hi390_4 hl390_4;replace p390 := eq_true p390;replace q390 := eq_true q390;go_wp2
                 repeat (go_quiet (fail); try go_wp2)
                 go_roundg k4
                 case measure => have := HJ6.out; have := HK2.out; have := HJ48.out; have := HK4.out; omega
                 case rel => exact ⟨(wrap64 (x6_2 + 1)),(by rfl),H',⟨by have := HJ6.out; have := HK2.out; have := HJ48.out; have := HK4.out; omega⟩,⟨by exact HO_376001.out⟩,⟨by exact HO_381001.out⟩,⟨by exact HO_386001.out⟩,⟨by exact BK375.out⟩,⟨by exact BK380.out⟩,⟨by exact BK385.out⟩,⟨HB.out⟩⟩
               ·rw [if_neg c68] at H;exact absurd H (by simp)
              ·rw [if_neg c67] at H;exact absurd H (by simp)
        ·rw [if_neg c48] at H;have c48b0 : decide (x6_2 < (t377.length : Int)) = false := decide_eq_false c48;clear c48;obtain rfl := Option.some.inj H;have hnb81 := NB380_375.out;have hnc81 := NB375_380.out;have hnb82 := NB380_385.out;have hnc82 := NB385_380.out;have hcz83_0 : wr.cell? ⟨gb380,0,none⟩ = some (.int .i64 t376) := (blk_cell BK380.out 0).trans rfl;have hcz83_1 : wr.cell? ⟨gb380,1,none⟩ = some (.slice Ao16 t377.length co16) := (blk_cell BK380.out 1).trans rfl;have hfz83_0 := blk_frozen BK380.out 0;have hfz83_1 := blk_frozen BK380.out 1;have hnb84 := NB375_385.out;have hnc84 := NB385_375.out;have hcz85_0 : wr.cell? ⟨gb375,0,none⟩ = some (.int .i64 t371) := (blk_cell BK375.out 0).trans rfl;have hcz85_1 : wr.cell? ⟨gb375,1,none⟩ = some (.slice Ao11 t372.length co11) := (blk_cell BK375.out 1).trans rfl;have hfz85_0 := blk_frozen BK375.out 0;have hfz85_1 := blk_frozen BK375.out 1;go_wp2
         repeat (go_quiet (fail); try go_wp2)
         go_ret;exact ⟨by rfl,HB.out⟩

/-- THE ONE PURE STATEMENT of laws_FnFreed: yours. -/
def laws_FnFreed.Pure : Prop := ∀ (l0 : List Int),l0.length ≤ maxLen → l0.length * 1 ≤ 140737488351232 → (∀ x ∈ l0,(Lit.int .u8 x).wf = true) → ∃ k,laws_FnFreed.f k l0 = some true
theorem laws_FnFreed.walk (P : laws_FnFreed.Pure) (a0 : Option Addr) (len0 cap0 : Nat) (z0 : List Int) (w : World) (w0 : (a0 = none ∧ len0 = 0 ∧ cap0 = 0 ∧ z0 = []) ∨ ∃ x,a0 = some x ∧ len0 ≤ cap0 ∧ cap0 ≤ maxLen ∧ z0.length = cap0 ∧ (∀ i,i < z0.length → w.cell? (x.add i) = some (.int .u8 (z0.getD i 0))) ∧ ∀ n ∈ z0,(Lit.int .u8 n).wf = true) (y0 : len0 * 1 ≤ 140737488351232) :
  Calls Try.prog 7 #[.slice a0 len0 cap0] w fun e w' => e = .returned (.bool true) ∧ Below w.heap.size w w' := by
 obtain ⟨l0,rfl,hr0,hm0,hw0,hc0⟩ := ReadsInt.ofRowC w0;obtain ⟨k,h⟩ := P l0 hm0 y0 hw0;refine (laws_FnFreed.calls k _ _ l0 true w (Kd.C_of_reads (d := (0 : Int)) (h1 := fun _ => rfl) hr0) hc0 h).mono ?_;rintro e w' ⟨rfl,hd⟩;exact ⟨rfl,hd⟩

end Go.Proofs.Ytcbpfofkdipjhaa.PF
