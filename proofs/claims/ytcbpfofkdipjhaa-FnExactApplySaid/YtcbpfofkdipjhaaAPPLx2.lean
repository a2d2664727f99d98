/- The machine's side of Go functions: each as a plain function,and that the call does what it says. Written by a program (wip/mprint). -/
import Derived.Test.YtcbpfofkdipjhaaAPPLx0
import Derived.Test.YtcbpfofkdipjhaaAPPLx1
namespace Go.Proofs.Ytcbpfofkdipjhaa.PL
open Go.RowKit Go.Proofs.YtcbpfofkdipjhaaW.PrintWords Go.Proofs.YtcbpfofkdipjhaaW.PrintLast Go.Proofs.YtcbpfofkdipjhaaW.PrintMore
attribute [local go_sem] max2_int min2_int max_two min_two max_three min_three max_four min_four   -- for this text's walks alone
set_option linter.unusedVariables false
set_option linter.unusedSimpArgs false

/-! ### spec_AcctOk: function 123 -/
mutual
def spec_AcctOk.j0 : Nat → Bool → ByteArray → Int → Int → Int → List (S65) → Option (Bool)
 | 0,_,_,_,_,_,_ => none
 | k + 1,x32,x112000,x112001,x112002,x112003,x112004 => if x32 = true then (some false) else (spec_AcctOk.l0 k 0 x112000 x112001 x112002 x112003 x112004)
def spec_AcctOk.l0 : Nat → Int → ByteArray → Int → Int → Int → List (S65) → Option (Bool)
 | 0,_,_,_,_,_,_ => none
 | k + 1,x3,x112000,x112001,x112002,x112003,x112004 => if x3 < (x112004.length : Int) then (if 0 ≤ x3 then ((spec_l1In.f ((rd_T65 x112004 x3).f0) 1 1000000).bind fun t118 => (if t118 = true then ((spec_l1In.f ((rd_T65 x112004 x3).f1) 0 1000).bind fun t119 => (if t119 = true then (if x3 > 0 then (if 0 ≤ (wrap64 (x3 - 1)) then (if (wrap64 (x3 - 1)) < (x112004.length : Int) then (if ((rd_T65 x112004 (wrap64 (x3 - 1))).f1) ≥ ((rd_T65 x112004 x3).f1) then (some false) else (spec_AcctOk.l0 k (wrap64 (x3 + 1)) x112000 x112001 x112002 x112003 x112004)) else (none)) else (none)) else (spec_AcctOk.l0 k (wrap64 (x3 + 1)) x112000 x112001 x112002 x112003 x112004)) else (some false))) else (some false))) else (none)) else (some true)
end
def spec_AcctOk.f (k : Nat) (a0_0 : ByteArray) (a0_1 : Int) (a0_2 : Int) (a0_3 : Int) (l0_4 : List (S65)) : Option (Bool) := (spec_NameOk.f k a0_0).bind fun t112 => (if t112 = true then ((spec_l1In.f a0_1 0 1000000).bind fun t113 => (if t113 = true then ((spec_l1In.f a0_2 0 10000).bind fun t114 => (if t114 = true then ((spec_l1In.f a0_3 0 1000000).bind fun t115 => (if t115 = true then (spec_AcctOk.j0 k (decide ((l0_4.length : Int) > 4)) a0_0 a0_1 a0_2 a0_3 l0_4) else (spec_AcctOk.j0 k true a0_0 a0_1 a0_2 a0_3 l0_4))) else (spec_AcctOk.j0 k true a0_0 a0_1 a0_2 a0_3 l0_4))) else (spec_AcctOk.j0 k true a0_0 a0_1 a0_2 a0_3 l0_4))) else (spec_AcctOk.j0 k true a0_0 a0_1 a0_2 a0_3 l0_4))
theorem spec_AcctOk.mono_l : ∀ k,(∀ y0 y1 y2 y3 y4 y5,LeO (spec_AcctOk.j0 k y0 y1 y2 y3 y4 y5) (spec_AcctOk.j0 (k + 1) y0 y1 y2 y3 y4 y5)) ∧ (∀ y0 y1 y2 y3 y4 y5,LeO (spec_AcctOk.l0 k y0 y1 y2 y3 y4 y5) (spec_AcctOk.l0 (k + 1) y0 y1 y2 y3 y4 y5))
 | 0 => ⟨fun _ _ _ _ _ _ r h => by simp [spec_AcctOk.j0] at h,fun _ _ _ _ _ _ r h => by simp [spec_AcctOk.l0] at h⟩
 | k + 1 => by
  obtain ⟨ih0,ih1⟩ := spec_AcctOk.mono_l k;refine ⟨?_,?_⟩
  ·intro y0 y1 y2 y3 y4 y5;unfold spec_AcctOk.j0
   repeat' first
   | (with_reducible exact ih0 _ _ _ _ _ _)
   | (with_reducible exact ih1 _ _ _ _ _ _)
   | (with_reducible exact spec_NameOk.mono _ _)
   | (with_reducible exact LeO.refl _)
   | (with_reducible exact LeO.none _)
   | (with_reducible refine LeO.ite ?_ ?_)
   | (with_reducible refine LeO.bind ?_ (fun _ => ?_))
   | exact ih0 _ _ _ _ _ _
   | exact ih1 _ _ _ _ _ _
   | exact spec_NameOk.mono _ _
   | exact LeO.none _
  ·intro y0 y1 y2 y3 y4 y5;unfold spec_AcctOk.l0
   repeat' first
   | (with_reducible exact ih0 _ _ _ _ _ _)
   | (with_reducible exact ih1 _ _ _ _ _ _)
   | (with_reducible exact spec_NameOk.mono _ _)
   | (with_reducible exact LeO.refl _)
   | (with_reducible exact LeO.none _)
   | (with_reducible refine LeO.ite ?_ ?_)
   | (with_reducible refine LeO.bind ?_ (fun _ => ?_))
   | exact ih0 _ _ _ _ _ _
   | exact ih1 _ _ _ _ _ _
   | exact spec_NameOk.mono _ _
   | exact LeO.none _
theorem spec_AcctOk.mono : ∀ a0 a1 a2 a3 a4 k,LeO (spec_AcctOk.f k a0 a1 a2 a3 a4) (spec_AcctOk.f (k + 1) a0 a1 a2 a3 a4) := by
 intro a0 a1 a2 a3 a4 k;obtain ⟨ih0,ih1⟩ := spec_AcctOk.mono_l k;unfold spec_AcctOk.f
 repeat' first
   | (with_reducible exact ih0 _ _ _ _ _ _)
   | (with_reducible exact ih1 _ _ _ _ _ _)
   | (with_reducible exact spec_NameOk.mono _ _)
   | (with_reducible exact LeO.refl _)
   | (with_reducible exact LeO.none _)
   | (with_reducible refine LeO.ite ?_ ?_)
   | (with_reducible refine LeO.bind ?_ (fun _ => ?_))
   | exact ih0 _ _ _ _ _ _
   | exact ih1 _ _ _ _ _ _
   | exact spec_NameOk.mono _ _
   | exact LeO.none _
set_option maxHeartbeats 8000000 in
set_option maxRecDepth 100000 in
theorem spec_AcctOk.calls (k : Nat) (a0_0 : ByteArray) (a0_1 : Int) (a0_2 : Int) (a0_3 : Int) (A0_4 : Option Addr) (c0_4 : Nat) (l0_4 : List (S65)) (r : Bool) (w : World) (hr0_4 : Kd.C k65 w A0_4 l0_4.length l0_4) (hc0_4 : l0_4.length ≤ c0_4) (h : spec_AcctOk.f k a0_0 a0_1 a0_2 a0_3 l0_4 = some r) :
  Calls Try.prog 123 #[.agg #[.string a0_0,.int .i64 a0_1,.int .i64 a0_2,.int .i64 a0_3,.slice A0_4 l0_4.length c0_4]] w fun e w' => e = .returned (.bool r) ∧ Below w.heap.size w w' := by
 have hu63 := Try.underlying63;have hu65 := Try.underlying65;have HR0_4 := Aside0.mk hr0_4;have HC0_4 := Aside0.mk hc0_4;clear hr0_4 hc0_4;have HB := Aside0.mk (Below.refl w.heap.size w);have H : ((spec_NameOk.f k a0_0).bind fun t112 => (if t112 = true then ((spec_l1In.f a0_1 0 1000000).bind fun t113 => (if t113 = true then ((spec_l1In.f a0_2 0 10000).bind fun t114 => (if t114 = true then ((spec_l1In.f a0_3 0 1000000).bind fun t115 => (if t115 = true then (spec_AcctOk.j0 k (decide ((l0_4.length : Int) > 4)) a0_0 a0_1 a0_2 a0_3 l0_4) else (spec_AcctOk.j0 k true a0_0 a0_1 a0_2 a0_3 l0_4))) else (spec_AcctOk.j0 k true a0_0 a0_1 a0_2 a0_3 l0_4))) else (spec_AcctOk.j0 k true a0_0 a0_1 a0_2 a0_3 l0_4))) else (spec_AcctOk.j0 k true a0_0 a0_1 a0_2 a0_3 l0_4))) = some r := h;clear h;have HC2 := Aside0.mk H;clear H;go_enter Try.func123,Try.ntmps123
 go_upto_region 1 with (((with_reducible refine gate_dst (N := 1) rfl ?_); (try (refine gate_guard (by rfl) ?_; dsimp only)); refine box_event ?hg (N := 1) ?hd (cs := #[.string a0_0,.int .i64 a0_1,.int .i64 a0_2,.int .i64 a0_3,.slice A0_4 l0_4.length c0_4]) (t := 63) ?hr ?_; (case hd => rfl); (case hg => rfl); (case hr => (go_simp; done)); intro gb111 hg w3 hbox hb; have n0_ := Aside0.mk (below_step HB.out hb); have n1_ := Aside0.mk (hbox); have n2_ := Aside0.mk (by rw [hg]; exact (below_size HB.out) : w.heap.size ≤ gb111); have n3_ := Aside0.mk (by rw [hg]; exact (below_size HB.out) : w.heap.size ≤ gb111); clear HB; have HB := n0_; have BK111 := n1_; have GW111 := n2_; have GE111 := n3_; clear n0_ n1_ n2_ n3_; clear hb hbox hg))
 repeat (go_quiet (fail); go_upto_region 1 with (fail))
 skip
 go_cut [32] (fun v32 wc => ∃ (kq : Nat) (x32_1 : Bool),v32 = .bool x32_1 ∧ Aside0 (spec_AcctOk.j0 kq x32_1 a0_0 a0_1 a0_2 a0_3 l0_4 = some r) ∧ Aside0 (kq ≤ k) ∧ Aside0 (wc.heap[gb111]? = some (.cells #[.string a0_0,.int .i64 a0_1,.int .i64 a0_2,.int .i64 a0_3,(.slice A0_4 l0_4.length c0_4)] 63 (0,0))) ∧ Aside0 (Below w.heap.size w wc))
 case first =>
  have H := HC2.out;clear HC2;replace H := Option.bind_eq_some_iff.mp H;obtain ⟨t112,A40,H⟩ := H;replace H : (if t112 = true then ((spec_l1In.f a0_1 0 1000000).bind fun t113 => (if t113 = true then ((spec_l1In.f a0_2 0 10000).bind fun t114 => (if t114 = true then ((spec_l1In.f a0_3 0 1000000).bind fun t115 => (if t115 = true then (spec_AcctOk.j0 k (decide ((l0_4.length : Int) > 4)) a0_0 a0_1 a0_2 a0_3 l0_4) else (spec_AcctOk.j0 k true a0_0 a0_1 a0_2 a0_3 l0_4))) else (spec_AcctOk.j0 k true a0_0 a0_1 a0_2 a0_3 l0_4))) else (spec_AcctOk.j0 k true a0_0 a0_1 a0_2 a0_3 l0_4))) else (spec_AcctOk.j0 k true a0_0 a0_1 a0_2 a0_3 l0_4)) = some r := H;have A4 := Aside0.mk A40;clear A40
  by_cases c5 : t112 = true
  ·subst c5
   have H1 : ((spec_l1In.f a0_1 0 1000000).bind fun t113 => (if t113 = true then ((spec_l1In.f a0_2 0 10000).bind fun t114 => (if t114 = true then ((spec_l1In.f a0_3 0 1000000).bind fun t115 => (if t115 = true then (spec_AcctOk.j0 k (decide ((l0_4.length : Int) > 4)) a0_0 a0_1 a0_2 a0_3 l0_4) else (spec_AcctOk.j0 k true a0_0 a0_1 a0_2 a0_3 l0_4))) else (spec_AcctOk.j0 k true a0_0 a0_1 a0_2 a0_3 l0_4))) else (spec_AcctOk.j0 k true a0_0 a0_1 a0_2 a0_3 l0_4))) = some r := by rw [if_pos rfl] at H; exact H
   clear H;have H := H1;clear H1;replace H := Option.bind_eq_some_iff.mp H;obtain ⟨t113,A60,H⟩ := H;replace H : (if t113 = true then ((spec_l1In.f a0_2 0 10000).bind fun t114 => (if t114 = true then ((spec_l1In.f a0_3 0 1000000).bind fun t115 => (if t115 = true then (spec_AcctOk.j0 k (decide ((l0_4.length : Int) > 4)) a0_0 a0_1 a0_2 a0_3 l0_4) else (spec_AcctOk.j0 k true a0_0 a0_1 a0_2 a0_3 l0_4))) else (spec_AcctOk.j0 k true a0_0 a0_1 a0_2 a0_3 l0_4))) else (spec_AcctOk.j0 k true a0_0 a0_1 a0_2 a0_3 l0_4)) = some r := H;have A6 := Aside0.mk A60;clear A60
   by_cases c7 : t113 = true
   ·subst c7
    have H1 : ((spec_l1In.f a0_2 0 10000).bind fun t114 => (if t114 = true then ((spec_l1In.f a0_3 0 1000000).bind fun t115 => (if t115 = true then (spec_AcctOk.j0 k (decide ((l0_4.length : Int) > 4)) a0_0 a0_1 a0_2 a0_3 l0_4) else (spec_AcctOk.j0 k true a0_0 a0_1 a0_2 a0_3 l0_4))) else (spec_AcctOk.j0 k true a0_0 a0_1 a0_2 a0_3 l0_4))) = some r := by rw [if_pos rfl] at H; exact H
    clear H;have H := H1;clear H1;replace H := Option.bind_eq_some_iff.mp H;obtain ⟨t114,A80,H⟩ := H;replace H : (if t114 = true then ((spec_l1In.f a0_3 0 1000000).bind fun t115 => (if t115 = true then (spec_AcctOk.j0 k (decide ((l0_4.length : Int) > 4)) a0_0 a0_1 a0_2 a0_3 l0_4) else (spec_AcctOk.j0 k true a0_0 a0_1 a0_2 a0_3 l0_4))) else (spec_AcctOk.j0 k true a0_0 a0_1 a0_2 a0_3 l0_4)) = some r := H;have A8 := Aside0.mk A80;clear A80
    by_cases c9 : t114 = true
    ·subst c9
     have H1 : ((spec_l1In.f a0_3 0 1000000).bind fun t115 => (if t115 = true then (spec_AcctOk.j0 k (decide ((l0_4.length : Int) > 4)) a0_0 a0_1 a0_2 a0_3 l0_4) else (spec_AcctOk.j0 k true a0_0 a0_1 a0_2 a0_3 l0_4))) = some r := by rw [if_pos rfl] at H; exact H
     clear H;have H := H1;clear H1;replace H := Option.bind_eq_some_iff.mp H;obtain ⟨t115,A100,H⟩ := H;replace H : (if t115 = true then (spec_AcctOk.j0 k (decide ((l0_4.length : Int) > 4)) a0_0 a0_1 a0_2 a0_3 l0_4) else (spec_AcctOk.j0 k true a0_0 a0_1 a0_2 a0_3 l0_4)) = some r := H;have A10 := Aside0.mk A100;clear A100
     by_cases c11 : t115 = true
     ·subst c11
      have H1 : (spec_AcctOk.j0 k (decide ((l0_4.length : Int) > 4)) a0_0 a0_1 a0_2 a0_3 l0_4) = some r := by rw [if_pos rfl] at H; exact H
      clear H;have H := H1;clear H1;have H' := Aside0.mk H;clear H;have hcz12_0 : w3.cell? ⟨gb111,0,none⟩ = some (.string a0_0) := (blk_cell BK111.out 0).trans rfl;have hcz12_1 : w3.cell? ⟨gb111,1,none⟩ = some (.int .i64 a0_1) := (blk_cell BK111.out 1).trans rfl;have hcz12_2 : w3.cell? ⟨gb111,2,none⟩ = some (.int .i64 a0_2) := (blk_cell BK111.out 2).trans rfl;have hcz12_3 : w3.cell? ⟨gb111,3,none⟩ = some (.int .i64 a0_3) := (blk_cell BK111.out 3).trans rfl;have hcz12_4 : w3.cell? ⟨gb111,4,none⟩ = some (.slice A0_4 l0_4.length c0_4) := (blk_cell BK111.out 4).trans rfl;have hfz12_0 := blk_frozen BK111.out 0;have hfz12_1 := blk_frozen BK111.out 1;have hfz12_2 := blk_frozen BK111.out 2;have hfz12_3 := blk_frozen BK111.out 3;have hfz12_4 := blk_frozen BK111.out 4
      go_wp2_with (first | (go_at_call 90; (with_reducible refine (spec_NameOk.calls k a0_0 true _ A4.out).mono ?_); rintro e w' ⟨rfl,⟨nd,rfl⟩⟩; skip) | (go_at_call 91; (with_reducible refine (spec_l1In.calls a0_1 0 1000000 true _ A6.out).mono ?_); rintro e w' ⟨rfl,⟨nd,rfl⟩⟩; skip) | (go_at_call 91; (with_reducible refine (spec_l1In.calls a0_2 0 10000 true _ A8.out).mono ?_); rintro e w' ⟨rfl,⟨nd,rfl⟩⟩; skip) | (go_at_call 91; (with_reducible refine (spec_l1In.calls a0_3 0 1000000 true _ A10.out).mono ?_); rintro e w' ⟨rfl,⟨nd,rfl⟩⟩; skip))
      repeat (go_quiet (fail); try go_wp2_with (fail))
      go_meet
      case rel => exact ⟨_,(decide ((l0_4.length : Int) > 4)),(by rfl),H',⟨by omega⟩,⟨by (with_reducible repeat (refine blk_drewN ?_ _)); exact BK111.out⟩,⟨by repeat (with_reducible first | exact HB.out | apply pw_below_drewN)⟩⟩
     ·replace c11 := Bool.eq_false_iff.mpr c11;subst c11
      have H1 : (spec_AcctOk.j0 k true a0_0 a0_1 a0_2 a0_3 l0_4) = some r := by rw [if_neg (show ¬ (false = true) by decide)] at H; exact H
      clear H;have H := H1;clear H1;have H' := Aside0.mk H;clear H;have hcz13_0 : w3.cell? ⟨gb111,0,none⟩ = some (.string a0_0) := (blk_cell BK111.out 0).trans rfl;have hcz13_1 : w3.cell? ⟨gb111,1,none⟩ = some (.int .i64 a0_1) := (blk_cell BK111.out 1).trans rfl;have hcz13_2 : w3.cell? ⟨gb111,2,none⟩ = some (.int .i64 a0_2) := (blk_cell BK111.out 2).trans rfl;have hcz13_3 : w3.cell? ⟨gb111,3,none⟩ = some (.int .i64 a0_3) := (blk_cell BK111.out 3).trans rfl;have hcz13_4 : w3.cell? ⟨gb111,4,none⟩ = some (.slice A0_4 l0_4.length c0_4) := (blk_cell BK111.out 4).trans rfl;have hfz13_0 := blk_frozen BK111.out 0;have hfz13_1 := blk_frozen BK111.out 1;have hfz13_2 := blk_frozen BK111.out 2;have hfz13_3 := blk_frozen BK111.out 3;have hfz13_4 := blk_frozen BK111.out 4
      go_wp2_with (first | (go_at_call 90; (with_reducible refine (spec_NameOk.calls k a0_0 true _ A4.out).mono ?_); rintro e w' ⟨rfl,⟨nd,rfl⟩⟩; skip) | (go_at_call 91; (with_reducible refine (spec_l1In.calls a0_1 0 1000000 true _ A6.out).mono ?_); rintro e w' ⟨rfl,⟨nd,rfl⟩⟩; skip) | (go_at_call 91; (with_reducible refine (spec_l1In.calls a0_2 0 10000 true _ A8.out).mono ?_); rintro e w' ⟨rfl,⟨nd,rfl⟩⟩; skip) | (go_at_call 91; (with_reducible refine (spec_l1In.calls a0_3 0 1000000 false _ A10.out).mono ?_); rintro e w' ⟨rfl,⟨nd,rfl⟩⟩; skip))
      repeat (go_quiet (fail); try go_wp2_with (fail))
      go_meet
      case rel => exact ⟨_,(true),(by rfl),H',⟨by omega⟩,⟨by (with_reducible repeat (refine blk_drewN ?_ _)); exact BK111.out⟩,⟨by repeat (with_reducible first | exact HB.out | apply pw_below_drewN)⟩⟩
    ·replace c9 := Bool.eq_false_iff.mpr c9;subst c9
     have H1 : (spec_AcctOk.j0 k true a0_0 a0_1 a0_2 a0_3 l0_4) = some r := by rw [if_neg (show ¬ (false = true) by decide)] at H; exact H
     clear H;have H := H1;clear H1;have H' := Aside0.mk H;clear H;have hcz14_0 : w3.cell? ⟨gb111,0,none⟩ = some (.string a0_0) := (blk_cell BK111.out 0).trans rfl;have hcz14_1 : w3.cell? ⟨gb111,1,none⟩ = some (.int .i64 a0_1) := (blk_cell BK111.out 1).trans rfl;have hcz14_2 : w3.cell? ⟨gb111,2,none⟩ = some (.int .i64 a0_2) := (blk_cell BK111.out 2).trans rfl;have hcz14_3 : w3.cell? ⟨gb111,3,none⟩ = some (.int .i64 a0_3) := (blk_cell BK111.out 3).trans rfl;have hcz14_4 : w3.cell? ⟨gb111,4,none⟩ = some (.slice A0_4 l0_4.length c0_4) := (blk_cell BK111.out 4).trans rfl;have hfz14_0 := blk_frozen BK111.out 0;have hfz14_1 := blk_frozen BK111.out 1;have hfz14_2 := blk_frozen BK111.out 2;have hfz14_3 := blk_frozen BK111.out 3;have hfz14_4 := blk_frozen BK111.out 4
     go_wp2_with (first | (go_at_call 90; (with_reducible refine (spec_NameOk.calls k a0_0 true _ A4.out).mono ?_); rintro e w' ⟨rfl,⟨nd,rfl⟩⟩; skip) | (go_at_call 91; (with_reducible refine (spec_l1In.calls a0_1 0 1000000 true _ A6.out).mono ?_); rintro e w' ⟨rfl,⟨nd,rfl⟩⟩; skip) | (go_at_call 91; (with_reducible refine (spec_l1In.calls a0_2 0 10000 false _ A8.out).mono ?_); rintro e w' ⟨rfl,⟨nd,rfl⟩⟩; skip))
     repeat (go_quiet (fail); try go_wp2_with (fail))
     go_meet
     case rel => exact ⟨_,(true),(by rfl),H',⟨by omega⟩,⟨by (with_reducible repeat (refine blk_drewN ?_ _)); exact BK111.out⟩,⟨by repeat (with_reducible first | exact HB.out | apply pw_below_drewN)⟩⟩
   ·replace c7 := Bool.eq_false_iff.mpr c7;subst c7
    have H1 : (spec_AcctOk.j0 k true a0_0 a0_1 a0_2 a0_3 l0_4) = some r := by rw [if_neg (show ¬ (false = true) by decide)] at H; exact H
    clear H;have H := H1;clear H1;have H' := Aside0.mk H;clear H;have hcz15_0 : w3.cell? ⟨gb111,0,none⟩ = some (.string a0_0) := (blk_cell BK111.out 0).trans rfl;have hcz15_1 : w3.cell? ⟨gb111,1,none⟩ = some (.int .i64 a0_1) := (blk_cell BK111.out 1).trans rfl;have hcz15_2 : w3.cell? ⟨gb111,2,none⟩ = some (.int .i64 a0_2) := (blk_cell BK111.out 2).trans rfl;have hcz15_3 : w3.cell? ⟨gb111,3,none⟩ = some (.int .i64 a0_3) := (blk_cell BK111.out 3).trans rfl;have hcz15_4 : w3.cell? ⟨gb111,4,none⟩ = some (.slice A0_4 l0_4.length c0_4) := (blk_cell BK111.out 4).trans rfl;have hfz15_0 := blk_frozen BK111.out 0;have hfz15_1 := blk_frozen BK111.out 1;have hfz15_2 := blk_frozen BK111.out 2;have hfz15_3 := blk_frozen BK111.out 3;have hfz15_4 := blk_frozen BK111.out 4
    go_wp2_with (first | (go_at_call 90; (with_reducible refine (spec_NameOk.calls k a0_0 true _ A4.out).mono ?_); rintro e w' ⟨rfl,⟨nd,rfl⟩⟩; skip) | (go_at_call 91; (with_reducible refine (spec_l1In.calls a0_1 0 1000000 false _ A6.out).mono ?_); rintro e w' ⟨rfl,⟨nd,rfl⟩⟩; skip))
    repeat (go_quiet (fail); try go_wp2_with (fail))
    go_meet
    case rel => exact ⟨_,(true),(by rfl),H',⟨by omega⟩,⟨by (with_reducible repeat (refine blk_drewN ?_ _)); exact BK111.out⟩,⟨by repeat (with_reducible first | exact HB.out | apply pw_below_drewN)⟩⟩
  ·replace c5 := Bool.eq_false_iff.mpr c5;subst c5
   have H1 : (spec_AcctOk.j0 k true a0_0 a0_1 a0_2 a0_3 l0_4) = some r := by rw [if_neg (show ¬ (false = true) by decide)] at H; exact H
   clear H;have H := H1;clear H1;have H' := Aside0.mk H;clear H;have hcz16_0 : w3.cell? ⟨gb111,0,none⟩ = some (.string a0_0) := (blk_cell BK111.out 0).trans rfl;have hcz16_1 : w3.cell? ⟨gb111,1,none⟩ = some (.int .i64 a0_1) := (blk_cell BK111.out 1).trans rfl;have hcz16_2 : w3.cell? ⟨gb111,2,none⟩ = some (.int .i64 a0_2) := (blk_cell BK111.out 2).trans rfl;have hcz16_3 : w3.cell? ⟨gb111,3,none⟩ = some (.int .i64 a0_3) := (blk_cell BK111.out 3).trans rfl;have hcz16_4 : w3.cell? ⟨gb111,4,none⟩ = some (.slice A0_4 l0_4.length c0_4) := (blk_cell BK111.out 4).trans rfl;have hfz16_0 := blk_frozen BK111.out 0;have hfz16_1 := blk_frozen BK111.out 1;have hfz16_2 := blk_frozen BK111.out 2;have hfz16_3 := blk_frozen BK111.out 3;have hfz16_4 := blk_frozen BK111.out 4
   go_wp2_with ((go_at_call 90; (with_reducible refine (spec_NameOk.calls k a0_0 false _ A4.out).mono ?_); rintro e w' ⟨rfl,⟨nd,rfl⟩⟩; skip))
   repeat (go_quiet (fail); try go_wp2_with (fail))
   go_meet
   case rel => exact ⟨_,(true),(by rfl),H',⟨by omega⟩,⟨by (with_reducible repeat (refine blk_drewN ?_ _)); exact BK111.out⟩,⟨by repeat (with_reducible first | exact HB.out | apply pw_below_drewN)⟩⟩
 case rest =>
  clear HC2
  try clear c1
  try clear p2
  try clear c5
  try clear c7
  try clear c9
  try clear c11
  try clear c12
  try clear hcz12_0
  try clear hcz12_1
  try clear hcz12_2
  try clear hcz12_3
  try clear hcz12_4
  try clear hcz13_0
  try clear hcz13_1
  try clear hcz13_2
  try clear hcz13_3
  try clear hcz13_4
  try clear hcz14_0
  try clear hcz14_1
  try clear hcz14_2
  try clear hcz14_3
  try clear hcz14_4
  try clear hcz15_0
  try clear hcz15_1
  try clear hcz15_2
  try clear hcz15_3
  try clear hcz15_4
  try clear hcz16_0
  try clear hcz16_1
  try clear hcz16_2
  try clear hcz16_3
  try clear hcz16_4
  try clear hfz12_0
  try clear hfz12_1
  try clear hfz12_2
  try clear hfz12_3
  try clear hfz12_4
  try clear hfz13_0
  try clear hfz13_1
  try clear hfz13_2
  try clear hfz13_3
  try clear hfz13_4
  try clear hfz14_0
  try clear hfz14_1
  try clear hfz14_2
  try clear hfz14_3
  try clear hfz14_4
  try clear hfz15_0
  try clear hfz15_1
  try clear hfz15_2
  try clear hfz15_3
  try clear hfz15_4
  try clear hfz16_0
  try clear hfz16_1
  try clear hfz16_2
  try clear hfz16_3
  try clear hfz16_4
  obtain ⟨kq,x32_1,rfl,HA,HJ1,BK111,HB⟩ := hcut
  cases kq with
  | zero => exact absurd HA.out (by simp [spec_AcctOk.j0])
  | succ kj1 =>
   have H := HA.out;clear HA;simp only [spec_AcctOk.j0] at H
   by_cases c17 : x32_1 = true
   ·subst c17
    have H1 : (some false) = some r := by rw [if_pos rfl] at H; exact H
    clear H;have H := H1;clear H1;obtain rfl := Option.some.inj H;go_wp2
    repeat (go_quiet (fail); try go_wp2)
    go_ret;exact ⟨by rfl,HB.out⟩
   ·replace c17 := Bool.eq_false_iff.mpr c17;subst c17
    have H1 : (spec_AcctOk.l0 kj1 0 a0_0 a0_1 a0_2 a0_3 l0_4) = some r := by rw [if_neg (show ¬ (false = true) by decide)] at H; exact H
    clear H;have H := H1;clear H1;have H' := Aside0.mk H;clear H;go_wp2
    repeat (go_quiet (fail); try go_wp2)
    go_loopg [3] kj1 (fun kq v3 w' => ∃ (x3_2 : Int),v3 = .int .i64 x3_2 ∧ Aside0 (spec_AcctOk.l0 kq x3_2 a0_0 a0_1 a0_2 a0_3 l0_4 = some r) ∧ Aside0 (kq ≤ kj1) ∧ Aside0 (w'.heap[gb111]? = some (.cells #[.string a0_0,.int .i64 a0_1,.int .i64 a0_2,.int .i64 a0_3,(.slice A0_4 l0_4.length c0_4)] 63 (0,0))) ∧ Aside0 (Below w.heap.size w w'))
    case atStart => exact ⟨(0),(by rfl),H',⟨Nat.le_refl _⟩,⟨by exact BK111.out⟩,⟨HB.out⟩⟩
    case round =>
     clear H'
     try clear c1
     try clear p2
     try clear c5
     try clear c7
     try clear c9
     try clear c11
     try clear c12
     try clear c17
     try clear hcz12_0
     try clear hcz12_1
     try clear hcz12_2
     try clear hcz12_3
     try clear hcz12_4
     try clear hcz13_0
     try clear hcz13_1
     try clear hcz13_2
     try clear hcz13_3
     try clear hcz13_4
     try clear hcz14_0
     try clear hcz14_1
     try clear hcz14_2
     try clear hcz14_3
     try clear hcz14_4
     try clear hcz15_0
     try clear hcz15_1
     try clear hcz15_2
     try clear hcz15_3
     try clear hcz15_4
     try clear hcz16_0
     try clear hcz16_1
     try clear hcz16_2
     try clear hcz16_3
     try clear hcz16_4
     try clear hfz12_0
     try clear hfz12_1
     try clear hfz12_2
     try clear hfz12_3
     try clear hfz12_4
     try clear hfz13_0
     try clear hfz13_1
     try clear hfz13_2
     try clear hfz13_3
     try clear hfz13_4
     try clear hfz14_0
     try clear hfz14_1
     try clear hfz14_2
     try clear hfz14_3
     try clear hfz14_4
     try clear hfz15_0
     try clear hfz15_1
     try clear hfz15_2
     try clear hfz15_3
     try clear hfz15_4
     try clear hfz16_0
     try clear hfz16_1
     try clear hfz16_2
     try clear hfz16_3
     try clear hfz16_4
     try clear p2
     obtain ⟨x3_2,rfl,HA,HK2,BK111,HB⟩ := hrel
     cases gk with
     | zero => exact absurd HA.out (by simp [spec_AcctOk.l0])
     | succ k2 =>
      have H := HA.out;clear HA;simp only [spec_AcctOk.l0] at H
      by_cases c18 : x3_2 < (l0_4.length : Int)
      ·rw [if_pos c18] at H;have c18b0 : decide (x3_2 < (l0_4.length : Int)) = true := decide_eq_true c18;clear c18
       by_cases c19 : 0 ≤ x3_2
       ·rw [if_pos c19] at H;have c19b0 : decide (0 ≤ x3_2) = true := decide_eq_true c19;clear c19;replace H := Option.bind_eq_some_iff.mp H;obtain ⟨t118,A200,H⟩ := H;replace H : (if t118 = true then ((spec_l1In.f ((rd_T65 l0_4 x3_2).f1) 0 1000).bind fun t119 => (if t119 = true then (if x3_2 > 0 then (if 0 ≤ (wrap64 (x3_2 - 1)) then (if (wrap64 (x3_2 - 1)) < (l0_4.length : Int) then (if ((rd_T65 l0_4 (wrap64 (x3_2 - 1))).f1) ≥ ((rd_T65 l0_4 x3_2).f1) then (some false) else (spec_AcctOk.l0 k2 (wrap64 (x3_2 + 1)) a0_0 a0_1 a0_2 a0_3 l0_4)) else (none)) else (none)) else (spec_AcctOk.l0 k2 (wrap64 (x3_2 + 1)) a0_0 a0_1 a0_2 a0_3 l0_4)) else (some false))) else (some false)) = some r := H;have A20 := Aside0.mk A200;clear A200
        by_cases c21 : t118 = true
        ·subst c21
         have H1 : ((spec_l1In.f ((rd_T65 l0_4 x3_2).f1) 0 1000).bind fun t119 => (if t119 = true then (if x3_2 > 0 then (if 0 ≤ (wrap64 (x3_2 - 1)) then (if (wrap64 (x3_2 - 1)) < (l0_4.length : Int) then (if ((rd_T65 l0_4 (wrap64 (x3_2 - 1))).f1) ≥ ((rd_T65 l0_4 x3_2).f1) then (some false) else (spec_AcctOk.l0 k2 (wrap64 (x3_2 + 1)) a0_0 a0_1 a0_2 a0_3 l0_4)) else (none)) else (none)) else (spec_AcctOk.l0 k2 (wrap64 (x3_2 + 1)) a0_0 a0_1 a0_2 a0_3 l0_4)) else (some false))) = some r := by rw [if_pos rfl] at H; exact H
         clear H;have H := H1;clear H1;replace H := Option.bind_eq_some_iff.mp H;obtain ⟨t119,A220,H⟩ := H;replace H : (if t119 = true then (if x3_2 > 0 then (if 0 ≤ (wrap64 (x3_2 - 1)) then (if (wrap64 (x3_2 - 1)) < (l0_4.length : Int) then (if ((rd_T65 l0_4 (wrap64 (x3_2 - 1))).f1) ≥ ((rd_T65 l0_4 x3_2).f1) then (some false) else (spec_AcctOk.l0 k2 (wrap64 (x3_2 + 1)) a0_0 a0_1 a0_2 a0_3 l0_4)) else (none)) else (none)) else (spec_AcctOk.l0 k2 (wrap64 (x3_2 + 1)) a0_0 a0_1 a0_2 a0_3 l0_4)) else (some false)) = some r := H;have A22 := Aside0.mk A220;clear A220
         by_cases c23 : t119 = true
         ·subst c23
          have H1 : (if x3_2 > 0 then (if 0 ≤ (wrap64 (x3_2 - 1)) then (if (wrap64 (x3_2 - 1)) < (l0_4.length : Int) then (if ((rd_T65 l0_4 (wrap64 (x3_2 - 1))).f1) ≥ ((rd_T65 l0_4 x3_2).f1) then (some false) else (spec_AcctOk.l0 k2 (wrap64 (x3_2 + 1)) a0_0 a0_1 a0_2 a0_3 l0_4)) else (none)) else (none)) else (spec_AcctOk.l0 k2 (wrap64 (x3_2 + 1)) a0_0 a0_1 a0_2 a0_3 l0_4)) = some r := by rw [if_pos rfl] at H; exact H
          clear H;have H := H1;clear H1
          by_cases c24 : x3_2 > 0
          ·rw [if_pos c24] at H;have c24b0 : decide (0 < x3_2) = true := decide_eq_true c24;clear c24;obtain ⟨ji25,hji25⟩ : ∃ j_ : Int,(wrap64 (x3_2 - 1)) = j_ := ⟨_,rfl⟩
           replace H : (if 0 ≤ (ji25) then (if (ji25) < (l0_4.length : Int) then (if ((rd_T65 l0_4 (ji25)).f1) ≥ ((rd_T65 l0_4 x3_2).f1) then (some false) else (spec_AcctOk.l0 k2 (wrap64 (x3_2 + 1)) a0_0 a0_1 a0_2 a0_3 l0_4)) else (none)) else (none)) = some r := by (rw [hji25] at H; exact H)
           skip
           skip
           have hji25w : (IntKind.i64.wrap (x3_2 - 1)) = ji25 := (i64_w _).trans hji25
           by_cases c26 : 0 ≤ (ji25)
           ·rw [if_pos c26] at H;have c26b0 : decide (0 ≤ (ji25)) = true := decide_eq_true c26;clear c26
            by_cases c27 : (ji25) < (l0_4.length : Int)
            ·rw [if_pos c27] at H;have c27b0 : decide ((ji25) < (l0_4.length : Int)) = true := decide_eq_true c27;clear c27
             by_cases c28 : ((rd_T65 l0_4 (ji25)).f1) ≥ ((rd_T65 l0_4 x3_2).f1)
             ·rw [if_pos c28] at H;have c28b0 : decide (((rd_T65 l0_4 x3_2).f1) ≤ ((rd_T65 l0_4 (ji25)).f1)) = true := decide_eq_true c28;clear c28;obtain rfl := Option.some.inj H;have hcz29_0 : wr.cell? ⟨gb111,0,none⟩ = some (.string a0_0) := (blk_cell BK111.out 0).trans rfl;have hcz29_1 : wr.cell? ⟨gb111,1,none⟩ = some (.int .i64 a0_1) := (blk_cell BK111.out 1).trans rfl;have hcz29_2 : wr.cell? ⟨gb111,2,none⟩ = some (.int .i64 a0_2) := (blk_cell BK111.out 2).trans rfl;have hcz29_3 : wr.cell? ⟨gb111,3,none⟩ = some (.int .i64 a0_3) := (blk_cell BK111.out 3).trans rfl;have hcz29_4 : wr.cell? ⟨gb111,4,none⟩ = some (.slice A0_4 l0_4.length c0_4) := (blk_cell BK111.out 4).trans rfl;have hfz29_0 := blk_frozen BK111.out 0;have hfz29_1 := blk_frozen BK111.out 1;have hfz29_2 := blk_frozen BK111.out 2;have hfz29_3 := blk_frozen BK111.out 3;have hfz29_4 := blk_frozen BK111.out 4;have p116 : 0 ≤ (x3_2 : Int) := of_decide_eq_true (by (with_reducible assumption));have q116 : x3_2 < (l0_4.length : Int) := of_decide_eq_true (by (with_reducible assumption));obtain ⟨ad116,e116,hx116_0,hx116_1⟩ := at_T65 HR0_4.out x3_2 p116 q116
              cases e116
              replace hx116_0 := (HB.out.cell (World.block_lt_of_cell? w _ hx116_0)).trans hx116_0;replace hx116_1 := (HB.out.cell (World.block_lt_of_cell? w _ hx116_1)).trans hx116_1;replace p116 := eq_true p116;replace q116 := eq_true q116
              go_wp2_with ((with_reducible refine gate_dst (N := 4) rfl ?_); (try (refine gate_guard (by rfl) ?_; dsimp only)); refine box_event ?hg (N := 4) ?hd (cs := #[.int .i64 0,.int .i64 0]) (t := 65) ?hr ?_; (case hd => rfl); (case hg => rfl); (case hr => (go_simp; done)); intro gb117 hg w30 hbox hb; have n0_ := Aside0.mk (blk_below (g := gb111) (o := .cells #[.string a0_0,.int .i64 a0_1,.int .i64 a0_2,.int .i64 a0_3,.slice (some ad116) l0_4.length c0_4] 63 (0,0)) (by exact BK111.out) hb); have n1_ := Aside0.mk (below_step HB.out hb); have n2_ := Aside0.mk (hbox); have n3_ := Aside0.mk (by rw [hg]; exact (below_size HB.out) : w.heap.size ≤ gb117); have n4_ := Aside0.mk (by rw [hg]; exact (below_size HB.out) : w.heap.size ≤ gb117); have n5_ := Aside0.mk (by rw [hg]; exact Nat.ne_of_lt (blk_lt (g := gb111) (o := .cells #[.string a0_0,.int .i64 a0_1,.int .i64 a0_2,.int .i64 a0_3,.slice (some ad116) l0_4.length c0_4] 63 (0,0)) (by exact BK111.out)) : gb111 ≠ gb117); have n6_ := Aside0.mk (by rw [hg]; exact Nat.ne_of_gt (blk_lt (g := gb111) (o := .cells #[.string a0_0,.int .i64 a0_1,.int .i64 a0_2,.int .i64 a0_3,.slice (some ad116) l0_4.length c0_4] 63 (0,0)) (by exact BK111.out)) : gb117 ≠ gb111); clear BK111; clear HB; have BK111 := n0_; have HB := n1_; have BK117 := n2_; have GW117 := n3_; have GE117 := n4_; have NB111_117 := n5_; have NB117_111 := n6_; clear n0_ n1_ n2_ n3_ n4_ n5_ n6_; clear hb hbox hg; have hnb31 := NB117_111.out; have hnc31 := NB111_117.out; have hcz32_0 : w30.cell? ⟨gb117,0,none⟩ = some (.int .i64 0) := (blk_cell BK117.out 0).trans rfl; have hcz32_1 : w30.cell? ⟨gb117,1,none⟩ = some (.int .i64 0) := (blk_cell BK117.out 1).trans rfl; have hfz32_0 := blk_frozen BK117.out 0; have hfz32_1 := blk_frozen BK117.out 1)
              repeat (go_quiet (first | (go_at_call 91; (with_reducible refine (spec_l1In.calls ((rd_T65 l0_4 x3_2).f0) 1 1000000 true _ A20.out).mono ?_); rintro e w' ⟨rfl,⟨nd,rfl⟩⟩; (try first | exact ⟨rfl,_,World.drewN_drewN _ _ _⟩ | exact ⟨rfl,_,Eq.trans (World.drewN_drewN _ _ _) (congrArg (World.drewN _) (Nat.add_assoc _ _ _))⟩)) | (go_at_call 91; (with_reducible refine (spec_l1In.calls ((rd_T65 l0_4 x3_2).f1) 0 1000 true _ A22.out).mono ?_); rintro e w' ⟨rfl,⟨nd,rfl⟩⟩; (try first | exact ⟨rfl,_,World.drewN_drewN _ _ _⟩ | exact ⟨rfl,_,Eq.trans (World.drewN_drewN _ _ _) (congrArg (World.drewN _) (Nat.add_assoc _ _ _))⟩); have hcz33_0 : w30.cell? ⟨gb111,0,none⟩ = some (.string a0_0) := (blk_cell BK111.out 0).trans rfl; have hcz33_1 : w30.cell? ⟨gb111,1,none⟩ = some (.int .i64 a0_1) := (blk_cell BK111.out 1).trans rfl; have hcz33_2 : w30.cell? ⟨gb111,2,none⟩ = some (.int .i64 a0_2) := (blk_cell BK111.out 2).trans rfl; have hcz33_3 : w30.cell? ⟨gb111,3,none⟩ = some (.int .i64 a0_3) := (blk_cell BK111.out 3).trans rfl; have hcz33_4 : w30.cell? ⟨gb111,4,none⟩ = some (.slice (some ad116) l0_4.length c0_4) := (blk_cell BK111.out 4).trans rfl; have hfz33_0 := blk_frozen BK111.out 0; have hfz33_1 := blk_frozen BK111.out 1; have hfz33_2 := blk_frozen BK111.out 2; have hfz33_3 := blk_frozen BK111.out 3; have hfz33_4 := blk_frozen BK111.out 4; have p120 : 0 ≤ ((ji25) : Int) := of_decide_eq_true (by first | (with_reducible assumption) | assumption); have q120 : (ji25) < (l0_4.length : Int) := of_decide_eq_true (by first | (with_reducible assumption) | assumption); obtain ⟨ad120,e120,hx120_0,hx120_1⟩ := at_T65 HR0_4.out (ji25) p120 q120; obtain rfl : ad116 = ad120 := (by injection e120); have hn120_0 : ad116.block ≠ gb117 := Nat.ne_of_lt (Nat.lt_of_lt_of_le (by have := World.block_lt_of_cell? _ _ hx120_0; first | rwa [add_block] at this | exact this) GW117.out); have hn120_1 : ad116.block ≠ gb117 := Nat.ne_of_lt (Nat.lt_of_lt_of_le (by have := World.block_lt_of_cell? _ _ hx120_0; first | rwa [add_block] at this | exact this) GW117.out); replace hx120_0 := (HB.out.cell (World.block_lt_of_cell? w _ hx120_0)).trans hx120_0; replace hx120_1 := (HB.out.cell (World.block_lt_of_cell? w _ hx120_1)).trans hx120_1; replace hx120_0 := (cell_far (p := ⟨gb117,0,none⟩) (by first | (rw [add_block]; exact hn120_0) | (show (Addr.add _ _).block ≠ _; rw [add_block]; exact hn120_0) | exact hn120_0) (.int .i64 ((rd_T65 l0_4 x3_2).f0))).trans hx120_0; replace hx120_1 := (cell_far (p := ⟨gb117,0,none⟩) (by first | (rw [add_block]; exact hn120_0) | (show (Addr.add _ _).block ≠ _; rw [add_block]; exact hn120_0) | exact hn120_0) (.int .i64 ((rd_T65 l0_4 x3_2).f0))).trans hx120_1; replace hx120_0 := (cell_far (p := ⟨gb117,1,none⟩) (by first | (rw [add_block]; exact hn120_1) | (show (Addr.add _ _).block ≠ _; rw [add_block]; exact hn120_1) | exact hn120_1) (.int .i64 ((rd_T65 l0_4 x3_2).f1))).trans hx120_0; replace hx120_1 := (cell_far (p := ⟨gb117,1,none⟩) (by first | (rw [add_block]; exact hn120_1) | (show (Addr.add _ _).block ≠ _; rw [add_block]; exact hn120_1) | exact hn120_1) (.int .i64 ((rd_T65 l0_4 x3_2).f1))).trans hx120_1; (try have hy120_0 := fun (n_ : Nat) => (show (((w30.drewN n_).setCell ⟨gb117,0,none⟩ (.int .i64 ((rd_T65 l0_4 x3_2).f0))).setCell ⟨gb117,1,none⟩ (.int .i64 ((rd_T65 l0_4 x3_2).f1))).cell? _ = some _ from hx120_0)); (try have hy120_1 := fun (n_ : Nat) => (show (((w30.drewN n_).setCell ⟨gb117,0,none⟩ (.int .i64 ((rd_T65 l0_4 x3_2).f0))).setCell ⟨gb117,1,none⟩ (.int .i64 ((rd_T65 l0_4 x3_2).f1))).cell? _ = some _ from hx120_1)); clear hn120_0; clear hn120_1; replace p120 := eq_true p120; replace q120 := eq_true q120)); try go_wp2_with (fail))
              go_ret;exact ⟨by rfl,by repeat (with_reducible first | exact HB.out | apply pw_below_drewN | refine below_set ?_ GE117.out)⟩
             ·rw [if_neg c28] at H;have c28b0 : decide (((rd_T65 l0_4 x3_2).f1) ≤ ((rd_T65 l0_4 (ji25)).f1)) = false := decide_eq_false c28;clear c28;have H' := Aside0.mk H;clear H;have hcz34_0 : wr.cell? ⟨gb111,0,none⟩ = some (.string a0_0) := (blk_cell BK111.out 0).trans rfl;have hcz34_1 : wr.cell? ⟨gb111,1,none⟩ = some (.int .i64 a0_1) := (blk_cell BK111.out 1).trans rfl;have hcz34_2 : wr.cell? ⟨gb111,2,none⟩ = some (.int .i64 a0_2) := (blk_cell BK111.out 2).trans rfl;have hcz34_3 : wr.cell? ⟨gb111,3,none⟩ = some (.int .i64 a0_3) := (blk_cell BK111.out 3).trans rfl;have hcz34_4 : wr.cell? ⟨gb111,4,none⟩ = some (.slice A0_4 l0_4.length c0_4) := (blk_cell BK111.out 4).trans rfl;have hfz34_0 := blk_frozen BK111.out 0;have hfz34_1 := blk_frozen BK111.out 1;have hfz34_2 := blk_frozen BK111.out 2;have hfz34_3 := blk_frozen BK111.out 3;have hfz34_4 := blk_frozen BK111.out 4;have p116 : 0 ≤ (x3_2 : Int) := of_decide_eq_true (by (with_reducible assumption));have q116 : x3_2 < (l0_4.length : Int) := of_decide_eq_true (by (with_reducible assumption));obtain ⟨ad116,e116,hx116_0,hx116_1⟩ := at_T65 HR0_4.out x3_2 p116 q116
              cases e116
              replace hx116_0 := (HB.out.cell (World.block_lt_of_cell? w _ hx116_0)).trans hx116_0;replace hx116_1 := (HB.out.cell (World.block_lt_of_cell? w _ hx116_1)).trans hx116_1;replace p116 := eq_true p116;replace q116 := eq_true q116
              go_wp2_with ((with_reducible refine gate_dst (N := 4) rfl ?_); (try (refine gate_guard (by rfl) ?_; dsimp only)); refine box_event ?hg (N := 4) ?hd (cs := #[.int .i64 0,.int .i64 0]) (t := 65) ?hr ?_; (case hd => rfl); (case hg => rfl); (case hr => (go_simp; done)); intro gb117 hg w35 hbox hb; have n0_ := Aside0.mk (blk_below (g := gb111) (o := .cells #[.string a0_0,.int .i64 a0_1,.int .i64 a0_2,.int .i64 a0_3,.slice (some ad116) l0_4.length c0_4] 63 (0,0)) (by exact BK111.out) hb); have n1_ := Aside0.mk (below_step HB.out hb); have n2_ := Aside0.mk (hbox); have n3_ := Aside0.mk (by rw [hg]; exact (below_size HB.out) : w.heap.size ≤ gb117); have n4_ := Aside0.mk (by rw [hg]; exact (below_size HB.out) : w.heap.size ≤ gb117); have n5_ := Aside0.mk (by rw [hg]; exact Nat.ne_of_lt (blk_lt (g := gb111) (o := .cells #[.string a0_0,.int .i64 a0_1,.int .i64 a0_2,.int .i64 a0_3,.slice (some ad116) l0_4.length c0_4] 63 (0,0)) (by exact BK111.out)) : gb111 ≠ gb117); have n6_ := Aside0.mk (by rw [hg]; exact Nat.ne_of_gt (blk_lt (g := gb111) (o := .cells #[.string a0_0,.int .i64 a0_1,.int .i64 a0_2,.int .i64 a0_3,.slice (some ad116) l0_4.length c0_4] 63 (0,0)) (by exact BK111.out)) : gb117 ≠ gb111); clear BK111; clear HB; have BK111 := n0_; have HB := n1_; have BK117 := n2_; have GW117 := n3_; have GE117 := n4_; have NB111_117 := n5_; have NB117_111 := n6_; clear n0_ n1_ n2_ n3_ n4_ n5_ n6_; clear hb hbox hg; have hnb36 := NB117_111.out; have hnc36 := NB111_117.out; have hcz37_0 : w35.cell? ⟨gb117,0,none⟩ = some (.int .i64 0) := (blk_cell BK117.out 0).trans rfl; have hcz37_1 : w35.cell? ⟨gb117,1,none⟩ = some (.int .i64 0) := (blk_cell BK117.out 1).trans rfl; have hfz37_0 := blk_frozen BK117.out 0; have hfz37_1 := blk_frozen BK117.out 1)
              repeat (go_quiet (first | (go_at_call 91; (with_reducible refine (spec_l1In.calls ((rd_T65 l0_4 x3_2).f0) 1 1000000 true _ A20.out).mono ?_); rintro e w' ⟨rfl,⟨nd,rfl⟩⟩; (try first | exact ⟨rfl,_,World.drewN_drewN _ _ _⟩ | exact ⟨rfl,_,Eq.trans (World.drewN_drewN _ _ _) (congrArg (World.drewN _) (Nat.add_assoc _ _ _))⟩)) | (go_at_call 91; (with_reducible refine (spec_l1In.calls ((rd_T65 l0_4 x3_2).f1) 0 1000 true _ A22.out).mono ?_); rintro e w' ⟨rfl,⟨nd,rfl⟩⟩; (try first | exact ⟨rfl,_,World.drewN_drewN _ _ _⟩ | exact ⟨rfl,_,Eq.trans (World.drewN_drewN _ _ _) (congrArg (World.drewN _) (Nat.add_assoc _ _ _))⟩); have hcz38_0 : w35.cell? ⟨gb111,0,none⟩ = some (.string a0_0) := (blk_cell BK111.out 0).trans rfl; have hcz38_1 : w35.cell? ⟨gb111,1,none⟩ = some (.int .i64 a0_1) := (blk_cell BK111.out 1).trans rfl; have hcz38_2 : w35.cell? ⟨gb111,2,none⟩ = some (.int .i64 a0_2) := (blk_cell BK111.out 2).trans rfl; have hcz38_3 : w35.cell? ⟨gb111,3,none⟩ = some (.int .i64 a0_3) := (blk_cell BK111.out 3).trans rfl; have hcz38_4 : w35.cell? ⟨gb111,4,none⟩ = some (.slice (some ad116) l0_4.length c0_4) := (blk_cell BK111.out 4).trans rfl; have hfz38_0 := blk_frozen BK111.out 0; have hfz38_1 := blk_frozen BK111.out 1; have hfz38_2 := blk_frozen BK111.out 2; have hfz38_3 := blk_frozen BK111.out 3; have hfz38_4 := blk_frozen BK111.out 4; have p120 : 0 ≤ ((ji25) : Int) := of_decide_eq_true (by first | (with_reducible assumption) | assumption); have q120 : (ji25) < (l0_4.length : Int) := of_decide_eq_true (by first | (with_reducible assumption) | assumption); obtain ⟨ad120,e120,hx120_0,hx120_1⟩ := at_T65 HR0_4.out (ji25) p120 q120; obtain rfl : ad116 = ad120 := (by injection e120); have hn120_0 : ad116.block ≠ gb117 := Nat.ne_of_lt (Nat.lt_of_lt_of_le (by have := World.block_lt_of_cell? _ _ hx120_0; first | rwa [add_block] at this | exact this) GW117.out); have hn120_1 : ad116.block ≠ gb117 := Nat.ne_of_lt (Nat.lt_of_lt_of_le (by have := World.block_lt_of_cell? _ _ hx120_0; first | rwa [add_block] at this | exact this) GW117.out); replace hx120_0 := (HB.out.cell (World.block_lt_of_cell? w _ hx120_0)).trans hx120_0; replace hx120_1 := (HB.out.cell (World.block_lt_of_cell? w _ hx120_1)).trans hx120_1; replace hx120_0 := (cell_far (p := ⟨gb117,0,none⟩) (by first | (rw [add_block]; exact hn120_0) | (show (Addr.add _ _).block ≠ _; rw [add_block]; exact hn120_0) | exact hn120_0) (.int .i64 ((rd_T65 l0_4 x3_2).f0))).trans hx120_0; replace hx120_1 := (cell_far (p := ⟨gb117,0,none⟩) (by first | (rw [add_block]; exact hn120_0) | (show (Addr.add _ _).block ≠ _; rw [add_block]; exact hn120_0) | exact hn120_0) (.int .i64 ((rd_T65 l0_4 x3_2).f0))).trans hx120_1; replace hx120_0 := (cell_far (p := ⟨gb117,1,none⟩) (by first | (rw [add_block]; exact hn120_1) | (show (Addr.add _ _).block ≠ _; rw [add_block]; exact hn120_1) | exact hn120_1) (.int .i64 ((rd_T65 l0_4 x3_2).f1))).trans hx120_0; replace hx120_1 := (cell_far (p := ⟨gb117,1,none⟩) (by first | (rw [add_block]; exact hn120_1) | (show (Addr.add _ _).block ≠ _; rw [add_block]; exact hn120_1) | exact hn120_1) (.int .i64 ((rd_T65 l0_4 x3_2).f1))).trans hx120_1; (try have hy120_0 := fun (n_ : Nat) => (show (((w35.drewN n_).setCell ⟨gb117,0,none⟩ (.int .i64 ((rd_T65 l0_4 x3_2).f0))).setCell ⟨gb117,1,none⟩ (.int .i64 ((rd_T65 l0_4 x3_2).f1))).cell? _ = some _ from hx120_0)); (try have hy120_1 := fun (n_ : Nat) => (show (((w35.drewN n_).setCell ⟨gb117,0,none⟩ (.int .i64 ((rd_T65 l0_4 x3_2).f0))).setCell ⟨gb117,1,none⟩ (.int .i64 ((rd_T65 l0_4 x3_2).f1))).cell? _ = some _ from hx120_1)); clear hn120_0; clear hn120_1; replace p120 := eq_true p120; replace q120 := eq_true q120)); try go_wp2_with (fail))
              go_roundg k2
              case measure => have := HJ1.out; have := HK2.out; omega
              case rel => exact ⟨(wrap64 (x3_2 + 1)),(by rfl),H',⟨by have := HJ1.out; have := HK2.out; omega⟩,⟨by (with_reducible repeat (refine blk_drewN ?_ _)); refine blk_far ?_ NB111_117.out _; refine blk_far ?_ NB111_117.out _; exact BK111.out⟩,⟨by repeat (with_reducible first | exact HB.out | apply pw_below_drewN | refine below_set ?_ GE117.out)⟩⟩
            ·rw [if_neg c27] at H;exact absurd H (by simp)
           ·rw [if_neg c26] at H;exact absurd H (by simp)
          ·rw [if_neg c24] at H;have c24b0 : decide (0 < x3_2) = false := decide_eq_false c24;clear c24;have H' := Aside0.mk H;clear H;have hcz39_0 : wr.cell? ⟨gb111,0,none⟩ = some (.string a0_0) := (blk_cell BK111.out 0).trans rfl;have hcz39_1 : wr.cell? ⟨gb111,1,none⟩ = some (.int .i64 a0_1) := (blk_cell BK111.out 1).trans rfl;have hcz39_2 : wr.cell? ⟨gb111,2,none⟩ = some (.int .i64 a0_2) := (blk_cell BK111.out 2).trans rfl;have hcz39_3 : wr.cell? ⟨gb111,3,none⟩ = some (.int .i64 a0_3) := (blk_cell BK111.out 3).trans rfl;have hcz39_4 : wr.cell? ⟨gb111,4,none⟩ = some (.slice A0_4 l0_4.length c0_4) := (blk_cell BK111.out 4).trans rfl;have hfz39_0 := blk_frozen BK111.out 0;have hfz39_1 := blk_frozen BK111.out 1;have hfz39_2 := blk_frozen BK111.out 2;have hfz39_3 := blk_frozen BK111.out 3;have hfz39_4 := blk_frozen BK111.out 4;have p116 : 0 ≤ (x3_2 : Int) := of_decide_eq_true (by (with_reducible assumption));have q116 : x3_2 < (l0_4.length : Int) := of_decide_eq_true (by (with_reducible assumption));obtain ⟨ad116,e116,hx116_0,hx116_1⟩ := at_T65 HR0_4.out x3_2 p116 q116
           cases e116
           replace hx116_0 := (HB.out.cell (World.block_lt_of_cell? w _ hx116_0)).trans hx116_0;replace hx116_1 := (HB.out.cell (World.block_lt_of_cell? w _ hx116_1)).trans hx116_1;replace p116 := eq_true p116;replace q116 := eq_true q116
           go_wp2_with ((with_reducible refine gate_dst (N := 4) rfl ?_); (try (refine gate_guard (by rfl) ?_; dsimp only)); refine box_event ?hg (N := 4) ?hd (cs := #[.int .i64 0,.int .i64 0]) (t := 65) ?hr ?_; (case hd => rfl); (case hg => rfl); (case hr => (go_simp; done)); intro gb117 hg w40 hbox hb; have n0_ := Aside0.mk (blk_below (g := gb111) (o := .cells #[.string a0_0,.int .i64 a0_1,.int .i64 a0_2,.int .i64 a0_3,.slice (some ad116) l0_4.length c0_4] 63 (0,0)) (by exact BK111.out) hb); have n1_ := Aside0.mk (below_step HB.out hb); have n2_ := Aside0.mk (hbox); have n3_ := Aside0.mk (by rw [hg]; exact (below_size HB.out) : w.heap.size ≤ gb117); have n4_ := Aside0.mk (by rw [hg]; exact (below_size HB.out) : w.heap.size ≤ gb117); have n5_ := Aside0.mk (by rw [hg]; exact Nat.ne_of_lt (blk_lt (g := gb111) (o := .cells #[.string a0_0,.int .i64 a0_1,.int .i64 a0_2,.int .i64 a0_3,.slice (some ad116) l0_4.length c0_4] 63 (0,0)) (by exact BK111.out)) : gb111 ≠ gb117); have n6_ := Aside0.mk (by rw [hg]; exact Nat.ne_of_gt (blk_lt (g := gb111) (o := .cells #[.string a0_0,.int .i64 a0_1,.int .i64 a0_2,.int .i64 a0_3,.slice (some ad116) l0_4.length c0_4] 63 (0,0)) (by exact BK111.out)) : gb117 ≠ gb111); clear BK111; clear HB; have BK111 := n0_; have HB := n1_; have BK117 := n2_; have GW117 := n3_; have GE117 := n4_; have NB111_117 := n5_; have NB117_111 := n6_; clear n0_ n1_ n2_ n3_ n4_ n5_ n6_; clear hb hbox hg; have hnb41 := NB117_111.out; have hnc41 := NB111_117.out; have hcz42_0 : w40.cell? ⟨gb117,0,none⟩ = some (.int .i64 0) := (blk_cell BK117.out 0).trans rfl; have hcz42_1 : w40.cell? ⟨gb117,1,none⟩ = some (.int .i64 0) := (blk_cell BK117.out 1).trans rfl; have hfz42_0 := blk_frozen BK117.out 0; have hfz42_1 := blk_frozen BK117.out 1)
           repeat (go_quiet (first | (go_at_call 91; (with_reducible refine (spec_l1In.calls ((rd_T65 l0_4 x3_2).f0) 1 1000000 true _ A20.out).mono ?_); rintro e w' ⟨rfl,⟨nd,rfl⟩⟩; (try first | exact ⟨rfl,_,World.drewN_drewN _ _ _⟩ | exact ⟨rfl,_,Eq.trans (World.drewN_drewN _ _ _) (congrArg (World.drewN _) (Nat.add_assoc _ _ _))⟩)) | (go_at_call 91; (with_reducible refine (spec_l1In.calls ((rd_T65 l0_4 x3_2).f1) 0 1000 true _ A22.out).mono ?_); rintro e w' ⟨rfl,⟨nd,rfl⟩⟩; (try first | exact ⟨rfl,_,World.drewN_drewN _ _ _⟩ | exact ⟨rfl,_,Eq.trans (World.drewN_drewN _ _ _) (congrArg (World.drewN _) (Nat.add_assoc _ _ _))⟩))); try go_wp2_with (fail))
           go_roundg k2
           case measure => have := HJ1.out; have := HK2.out; omega
           case rel => exact ⟨(wrap64 (x3_2 + 1)),(by rfl),H',⟨by have := HJ1.out; have := HK2.out; omega⟩,⟨by (with_reducible repeat (refine blk_drewN ?_ _)); refine blk_far ?_ NB111_117.out _; refine blk_far ?_ NB111_117.out _; exact BK111.out⟩,⟨by repeat (with_reducible first | exact HB.out | apply pw_below_drewN | refine below_set ?_ GE117.out)⟩⟩
         ·replace c23 := Bool.eq_false_iff.mpr c23;subst c23
          have H1 : (some false) = some r := by rw [if_neg (show ¬ (false = true) by decide)] at H; exact H
          clear H;have H := H1;clear H1;obtain rfl := Option.some.inj H;have hcz43_0 : wr.cell? ⟨gb111,0,none⟩ = some (.string a0_0) := (blk_cell BK111.out 0).trans rfl;have hcz43_1 : wr.cell? ⟨gb111,1,none⟩ = some (.int .i64 a0_1) := (blk_cell BK111.out 1).trans rfl;have hcz43_2 : wr.cell? ⟨gb111,2,none⟩ = some (.int .i64 a0_2) := (blk_cell BK111.out 2).trans rfl;have hcz43_3 : wr.cell? ⟨gb111,3,none⟩ = some (.int .i64 a0_3) := (blk_cell BK111.out 3).trans rfl;have hcz43_4 : wr.cell? ⟨gb111,4,none⟩ = some (.slice A0_4 l0_4.length c0_4) := (blk_cell BK111.out 4).trans rfl;have hfz43_0 := blk_frozen BK111.out 0;have hfz43_1 := blk_frozen BK111.out 1;have hfz43_2 := blk_frozen BK111.out 2;have hfz43_3 := blk_frozen BK111.out 3;have hfz43_4 := blk_frozen BK111.out 4;have p116 : 0 ≤ (x3_2 : Int) := of_decide_eq_true (by (with_reducible assumption));have q116 : x3_2 < (l0_4.length : Int) := of_decide_eq_true (by (with_reducible assumption));obtain ⟨ad116,e116,hx116_0,hx116_1⟩ := at_T65 HR0_4.out x3_2 p116 q116
          cases e116
          replace hx116_0 := (HB.out.cell (World.block_lt_of_cell? w _ hx116_0)).trans hx116_0;replace hx116_1 := (HB.out.cell (World.block_lt_of_cell? w _ hx116_1)).trans hx116_1;replace p116 := eq_true p116;replace q116 := eq_true q116
          go_wp2_with ((with_reducible refine gate_dst (N := 4) rfl ?_); (try (refine gate_guard (by rfl) ?_; dsimp only)); refine box_event ?hg (N := 4) ?hd (cs := #[.int .i64 0,.int .i64 0]) (t := 65) ?hr ?_; (case hd => rfl); (case hg => rfl); (case hr => (go_simp; done)); intro gb117 hg w44 hbox hb; have n0_ := Aside0.mk (blk_below (g := gb111) (o := .cells #[.string a0_0,.int .i64 a0_1,.int .i64 a0_2,.int .i64 a0_3,.slice (some ad116) l0_4.length c0_4] 63 (0,0)) (by exact BK111.out) hb); have n1_ := Aside0.mk (below_step HB.out hb); have n2_ := Aside0.mk (hbox); have n3_ := Aside0.mk (by rw [hg]; exact (below_size HB.out) : w.heap.size ≤ gb117); have n4_ := Aside0.mk (by rw [hg]; exact (below_size HB.out) : w.heap.size ≤ gb117); have n5_ := Aside0.mk (by rw [hg]; exact Nat.ne_of_lt (blk_lt (g := gb111) (o := .cells #[.string a0_0,.int .i64 a0_1,.int .i64 a0_2,.int .i64 a0_3,.slice (some ad116) l0_4.length c0_4] 63 (0,0)) (by exact BK111.out)) : gb111 ≠ gb117); have n6_ := Aside0.mk (by rw [hg]; exact Nat.ne_of_gt (blk_lt (g := gb111) (o := .cells #[.string a0_0,.int .i64 a0_1,.int .i64 a0_2,.int .i64 a0_3,.slice (some ad116) l0_4.length c0_4] 63 (0,0)) (by exact BK111.out)) : gb117 ≠ gb111); clear BK111; clear HB; have BK111 := n0_; have HB := n1_; have BK117 := n2_; have GW117 := n3_; have GE117 := n4_; have NB111_117 := n5_; have NB117_111 := n6_; clear n0_ n1_ n2_ n3_ n4_ n5_ n6_; clear hb hbox hg; have hnb45 := NB117_111.out; have hnc45 := NB111_117.out; have hcz46_0 : w44.cell? ⟨gb117,0,none⟩ = some (.int .i64 0) := (blk_cell BK117.out 0).trans rfl; have hcz46_1 : w44.cell? ⟨gb117,1,none⟩ = some (.int .i64 0) := (blk_cell BK117.out 1).trans rfl; have hfz46_0 := blk_frozen BK117.out 0; have hfz46_1 := blk_frozen BK117.out 1)
          repeat (go_quiet (first | (go_at_call 91; (with_reducible refine (spec_l1In.calls ((rd_T65 l0_4 x3_2).f0) 1 1000000 true _ A20.out).mono ?_); rintro e w' ⟨rfl,⟨nd,rfl⟩⟩; (try first | exact ⟨rfl,_,World.drewN_drewN _ _ _⟩ | exact ⟨rfl,_,Eq.trans (World.drewN_drewN _ _ _) (congrArg (World.drewN _) (Nat.add_assoc _ _ _))⟩)) | (go_at_call 91; (with_reducible refine (spec_l1In.calls ((rd_T65 l0_4 x3_2).f1) 0 1000 false _ A22.out).mono ?_); rintro e w' ⟨rfl,⟨nd,rfl⟩⟩; (try first | exact ⟨rfl,_,World.drewN_drewN _ _ _⟩ | exact ⟨rfl,_,Eq.trans (World.drewN_drewN _ _ _) (congrArg (World.drewN _) (Nat.add_assoc _ _ _))⟩))); try go_wp2_with (fail))
          go_ret;exact ⟨by rfl,by repeat (with_reducible first | exact HB.out | apply pw_below_drewN | refine below_set ?_ GE117.out)⟩
        ·replace c21 := Bool.eq_false_iff.mpr c21;subst c21
         have H1 : (some false) = some r := by rw [if_neg (show ¬ (false = true) by decide)] at H; exact H
         clear H;have H := H1;clear H1;obtain rfl := Option.some.inj H;have hcz47_0 : wr.cell? ⟨gb111,0,none⟩ = some (.string a0_0) := (blk_cell BK111.out 0).trans rfl;have hcz47_1 : wr.cell? ⟨gb111,1,none⟩ = some (.int .i64 a0_1) := (blk_cell BK111.out 1).trans rfl;have hcz47_2 : wr.cell? ⟨gb111,2,none⟩ = some (.int .i64 a0_2) := (blk_cell BK111.out 2).trans rfl;have hcz47_3 : wr.cell? ⟨gb111,3,none⟩ = some (.int .i64 a0_3) := (blk_cell BK111.out 3).trans rfl;have hcz47_4 : wr.cell? ⟨gb111,4,none⟩ = some (.slice A0_4 l0_4.length c0_4) := (blk_cell BK111.out 4).trans rfl;have hfz47_0 := blk_frozen BK111.out 0;have hfz47_1 := blk_frozen BK111.out 1;have hfz47_2 := blk_frozen BK111.out 2;have hfz47_3 := blk_frozen BK111.out 3;have hfz47_4 := blk_frozen BK111.out 4;have p116 : 0 ≤ (x3_2 : Int) := of_decide_eq_true (by (with_reducible assumption));have q116 : x3_2 < (l0_4.length : Int) := of_decide_eq_true (by (with_reducible assumption));obtain ⟨ad116,e116,hx116_0,hx116_1⟩ := at_T65 HR0_4.out x3_2 p116 q116
         cases e116
         replace hx116_0 := (HB.out.cell (World.block_lt_of_cell? w _ hx116_0)).trans hx116_0;replace hx116_1 := (HB.out.cell (World.block_lt_of_cell? w _ hx116_1)).trans hx116_1;replace p116 := eq_true p116;replace q116 := eq_true q116
         go_wp2_with ((with_reducible refine gate_dst (N := 4) rfl ?_); (try (refine gate_guard (by rfl) ?_; dsimp only)); refine box_event ?hg (N := 4) ?hd (cs := #[.int .i64 0,.int .i64 0]) (t := 65) ?hr ?_; (case hd => rfl); (case hg => rfl); (case hr => (go_simp; done)); intro gb117 hg w48 hbox hb; have n0_ := Aside0.mk (blk_below (g := gb111) (o := .cells #[.string a0_0,.int .i64 a0_1,.int .i64 a0_2,.int .i64 a0_3,.slice (some ad116) l0_4.length c0_4] 63 (0,0)) (by exact BK111.out) hb); have n1_ := Aside0.mk (below_step HB.out hb); have n2_ := Aside0.mk (hbox); have n3_ := Aside0.mk (by rw [hg]; exact (below_size HB.out) : w.heap.size ≤ gb117); have n4_ := Aside0.mk (by rw [hg]; exact (below_size HB.out) : w.heap.size ≤ gb117); have n5_ := Aside0.mk (by rw [hg]; exact Nat.ne_of_lt (blk_lt (g := gb111) (o := .cells #[.string a0_0,.int .i64 a0_1,.int .i64 a0_2,.int .i64 a0_3,.slice (some ad116) l0_4.length c0_4] 63 (0,0)) (by exact BK111.out)) : gb111 ≠ gb117); have n6_ := Aside0.mk (by rw [hg]; exact Nat.ne_of_gt (blk_lt (g := gb111) (o := .cells #[.string a0_0,.int .i64 a0_1,.int .i64 a0_2,.int .i64 a0_3,.slice (some ad116) l0_4.length c0_4] 63 (0,0)) (by exact BK111.out)) : gb117 ≠ gb111); clear BK111; clear HB; have BK111 := n0_; have HB := n1_; have BK117 := n2_; have GW117 := n3_; have GE117 := n4_; have NB111_117 := n5_; have NB117_111 := n6_; clear n0_ n1_ n2_ n3_ n4_ n5_ n6_; clear hb hbox hg; have hnb49 := NB117_111.out; have hnc49 := NB111_117.out; have hcz50_0 : w48.cell? ⟨gb117,0,none⟩ = some (.int .i64 0) := (blk_cell BK117.out 0).trans rfl; have hcz50_1 : w48.cell? ⟨gb117,1,none⟩ = some (.int .i64 0) := (blk_cell BK117.out 1).trans rfl; have hfz50_0 := blk_frozen BK117.out 0; have hfz50_1 := blk_frozen BK117.out 1)
         repeat (go_quiet ((go_at_call 91; (with_reducible refine (spec_l1In.calls ((rd_T65 l0_4 x3_2).f0) 1 1000000 false _ A20.out).mono ?_); rintro e w' ⟨rfl,⟨nd,rfl⟩⟩; (try first | exact ⟨rfl,_,World.drewN_drewN _ _ _⟩ | exact ⟨rfl,_,Eq.trans (World.drewN_drewN _ _ _) (congrArg (World.drewN _) (Nat.add_assoc _ _ _))⟩))); try go_wp2_with (fail))
         go_ret;exact ⟨by rfl,by repeat (with_reducible first | exact HB.out | apply pw_below_drewN | refine below_set ?_ GE117.out)⟩
       ·rw [if_neg c19] at H;exact absurd H (by simp)
      ·rw [if_neg c18] at H;have c18b0 : decide (x3_2 < (l0_4.length : Int)) = false := decide_eq_false c18;clear c18;obtain rfl := Option.some.inj H;have hcz51_0 : wr.cell? ⟨gb111,0,none⟩ = some (.string a0_0) := (blk_cell BK111.out 0).trans rfl;have hcz51_1 : wr.cell? ⟨gb111,1,none⟩ = some (.int .i64 a0_1) := (blk_cell BK111.out 1).trans rfl;have hcz51_2 : wr.cell? ⟨gb111,2,none⟩ = some (.int .i64 a0_2) := (blk_cell BK111.out 2).trans rfl;have hcz51_3 : wr.cell? ⟨gb111,3,none⟩ = some (.int .i64 a0_3) := (blk_cell BK111.out 3).trans rfl;have hcz51_4 : wr.cell? ⟨gb111,4,none⟩ = some (.slice A0_4 l0_4.length c0_4) := (blk_cell BK111.out 4).trans rfl;have hfz51_0 := blk_frozen BK111.out 0;have hfz51_1 := blk_frozen BK111.out 1;have hfz51_2 := blk_frozen BK111.out 2;have hfz51_3 := blk_frozen BK111.out 3;have hfz51_4 := blk_frozen BK111.out 4;go_wp2
       repeat (go_quiet (fail); try go_wp2)
       go_ret;exact ⟨by rfl,HB.out⟩

/-! ### spec_l4Of: function 139 -/
def spec_l4Of.l0 : Nat → Int → Int → ByteArray → Int → Int → Int → List (S65) → Option (Int)
 | 0,_,_,_,_,_,_,_ => none
 | k + 1,x3,x4,x122000,x122001,x122002,x122003,x122004 => if x4 < (x122004.length : Int) then (if 0 ≤ x4 then (spec_l4Of.l0 k (wrap64 (x3 + ((rd_T65 x122004 x4).f0))) (wrap64 (x4 + 1)) x122000 x122001 x122002 x122003 x122004) else (none)) else (some x3)
def spec_l4Of.f (k : Nat) (a0_0 : ByteArray) (a0_1 : Int) (a0_2 : Int) (a0_3 : Int) (l0_4 : List (S65)) : Option (Int) := spec_l4Of.l0 k (wrap64 (a0_1 + a0_3)) 0 a0_0 a0_1 a0_2 a0_3 l0_4
theorem spec_l4Of.mono_l : ∀ k,(∀ y0 y1 y2 y3 y4 y5 y6,LeO (spec_l4Of.l0 k y0 y1 y2 y3 y4 y5 y6) (spec_l4Of.l0 (k + 1) y0 y1 y2 y3 y4 y5 y6))
 | 0 => fun _ _ _ _ _ _ _ r h => by simp [spec_l4Of.l0] at h
 | k + 1 => by
  have ih0 := spec_l4Of.mono_l k
  ·intro y0 y1 y2 y3 y4 y5 y6;unfold spec_l4Of.l0
   repeat' first
   | (with_reducible exact ih0 _ _ _ _ _ _ _)
   | (with_reducible exact LeO.refl _)
   | (with_reducible exact LeO.none _)
   | (with_reducible refine LeO.ite ?_ ?_)
   | (with_reducible refine LeO.bind ?_ (fun _ => ?_))
   | exact ih0 _ _ _ _ _ _ _
   | exact LeO.none _
theorem spec_l4Of.mono : ∀ a0 a1 a2 a3 a4 k,LeO (spec_l4Of.f k a0 a1 a2 a3 a4) (spec_l4Of.f (k + 1) a0 a1 a2 a3 a4) := by
 intro a0 a1 a2 a3 a4 k;have ih0 := spec_l4Of.mono_l k;unfold spec_l4Of.f
 repeat' first
   | (with_reducible exact ih0 _ _ _ _ _ _ _)
   | (with_reducible exact LeO.refl _)
   | (with_reducible exact LeO.none _)
   | (with_reducible refine LeO.ite ?_ ?_)
   | (with_reducible refine LeO.bind ?_ (fun _ => ?_))
   | exact ih0 _ _ _ _ _ _ _
   | exact LeO.none _
set_option maxHeartbeats 8000000 in
set_option maxRecDepth 100000 in
theorem spec_l4Of.calls (k : Nat) (a0_0 : ByteArray) (a0_1 : Int) (a0_2 : Int) (a0_3 : Int) (A0_4 : Option Addr) (c0_4 : Nat) (l0_4 : List (S65)) (r : Int) (w : World) (hr0_4 : Kd.C k65 w A0_4 l0_4.length l0_4) (hc0_4 : l0_4.length ≤ c0_4) (h : spec_l4Of.f k a0_0 a0_1 a0_2 a0_3 l0_4 = some r) :
  Calls Try.prog 139 #[.agg #[.string a0_0,.int .i64 a0_1,.int .i64 a0_2,.int .i64 a0_3,.slice A0_4 l0_4.length c0_4]] w fun e w' => e = .returned (.int .i64 r) ∧ Below w.heap.size w w' := by
 have hu63 := Try.underlying63;have HR0_4 := Aside0.mk hr0_4;have HC0_4 := Aside0.mk hc0_4;clear hr0_4 hc0_4;have HB := Aside0.mk (Below.refl w.heap.size w);have H : (spec_l4Of.l0 k (wrap64 (a0_1 + a0_3)) 0 a0_0 a0_1 a0_2 a0_3 l0_4) = some r := h;clear h;have H' := Aside0.mk H;clear H;go_enter Try.func139,Try.ntmps139
 go_wp2_with (((with_reducible refine gate_dst (N := 1) rfl ?_); refine box_event ?hg (N := 1) ?hd (cs := #[.string a0_0,.int .i64 a0_1,.int .i64 a0_2,.int .i64 a0_3,.slice A0_4 l0_4.length c0_4]) (t := 63) ?hr ?_; (case hd => rfl); (case hg => rfl); (case hr => (go_simp; done)); intro gb121 hg w2 hbox hb; have n0_ := Aside0.mk (below_step HB.out hb); have n1_ := Aside0.mk (hbox); have n2_ := Aside0.mk (by rw [hg]; exact (below_size HB.out) : w.heap.size ≤ gb121); have n3_ := Aside0.mk (by rw [hg]; exact (below_size HB.out) : w.heap.size ≤ gb121); clear HB; have HB := n0_; have BK121 := n1_; have GW121 := n2_; have GE121 := n3_; clear n0_ n1_ n2_ n3_; clear hb hbox hg; have hcz3_0 : w2.cell? ⟨gb121,0,none⟩ = some (.string a0_0) := (blk_cell BK121.out 0).trans rfl; have hcz3_1 : w2.cell? ⟨gb121,1,none⟩ = some (.int .i64 a0_1) := (blk_cell BK121.out 1).trans rfl; have hcz3_2 : w2.cell? ⟨gb121,2,none⟩ = some (.int .i64 a0_2) := (blk_cell BK121.out 2).trans rfl; have hcz3_3 : w2.cell? ⟨gb121,3,none⟩ = some (.int .i64 a0_3) := (blk_cell BK121.out 3).trans rfl; have hcz3_4 : w2.cell? ⟨gb121,4,none⟩ = some (.slice A0_4 l0_4.length c0_4) := (blk_cell BK121.out 4).trans rfl; have hfz3_0 := blk_frozen BK121.out 0; have hfz3_1 := blk_frozen BK121.out 1; have hfz3_2 := blk_frozen BK121.out 2; have hfz3_3 := blk_frozen BK121.out 3; have hfz3_4 := blk_frozen BK121.out 4))
 go_loopg [3,4] k (fun kq v3 v4 w' => ∃ (x3_1 : Int) (x4_1 : Int),v3 = .int .i64 x3_1 ∧ v4 = .int .i64 x4_1 ∧ Aside0 (spec_l4Of.l0 kq x3_1 x4_1 a0_0 a0_1 a0_2 a0_3 l0_4 = some r) ∧ Aside0 (kq ≤ k) ∧ Aside0 (w'.heap[gb121]? = some (.cells #[.string a0_0,.int .i64 a0_1,.int .i64 a0_2,.int .i64 a0_3,(.slice A0_4 l0_4.length c0_4)] 63 (0,0))) ∧ Aside0 (Below w.heap.size w w'))
 case atStart => exact ⟨(wrap64 (a0_1 + a0_3)),(0),(by rfl),(by rfl),H',⟨Nat.le_refl _⟩,⟨by exact BK121.out⟩,⟨HB.out⟩⟩
 case round =>
  clear H'
  try clear c1
  try clear p2
  try clear hcz3_0
  try clear hcz3_1
  try clear hcz3_2
  try clear hcz3_3
  try clear hcz3_4
  try clear hfz3_0
  try clear hfz3_1
  try clear hfz3_2
  try clear hfz3_3
  try clear hfz3_4
  obtain ⟨x3_1,x4_1,rfl,rfl,HA,HK1,BK121,HB⟩ := hrel
  cases gk with
  | zero => exact absurd HA.out (by simp [spec_l4Of.l0])
  | succ k1 =>
   have H := HA.out;clear HA;simp only [spec_l4Of.l0] at H
   by_cases c4 : x4_1 < (l0_4.length : Int)
   ·rw [if_pos c4] at H;have c4b0 : decide (x4_1 < (l0_4.length : Int)) = true := decide_eq_true c4;clear c4
    by_cases c5 : 0 ≤ x4_1
    ·rw [if_pos c5] at H;have c5b0 : decide (0 ≤ x4_1) = true := decide_eq_true c5;clear c5;have H' := Aside0.mk H;clear H;have hcz6_0 : wr.cell? ⟨gb121,0,none⟩ = some (.string a0_0) := (blk_cell BK121.out 0).trans rfl;have hcz6_1 : wr.cell? ⟨gb121,1,none⟩ = some (.int .i64 a0_1) := (blk_cell BK121.out 1).trans rfl;have hcz6_2 : wr.cell? ⟨gb121,2,none⟩ = some (.int .i64 a0_2) := (blk_cell BK121.out 2).trans rfl;have hcz6_3 : wr.cell? ⟨gb121,3,none⟩ = some (.int .i64 a0_3) := (blk_cell BK121.out 3).trans rfl;have hcz6_4 : wr.cell? ⟨gb121,4,none⟩ = some (.slice A0_4 l0_4.length c0_4) := (blk_cell BK121.out 4).trans rfl;have hfz6_0 := blk_frozen BK121.out 0;have hfz6_1 := blk_frozen BK121.out 1;have hfz6_2 := blk_frozen BK121.out 2;have hfz6_3 := blk_frozen BK121.out 3;have hfz6_4 := blk_frozen BK121.out 4;have p122 : 0 ≤ (x4_1 : Int) := of_decide_eq_true (by (with_reducible assumption));have q122 : x4_1 < (l0_4.length : Int) := of_decide_eq_true (by (with_reducible assumption));obtain ⟨ad122,e122,hx122_0,hx122_1⟩ := at_T65 HR0_4.out x4_1 p122 q122
     cases e122
     replace hx122_0 := (HB.out.cell (World.block_lt_of_cell? w _ hx122_0)).trans hx122_0;replace hx122_1 := (HB.out.cell (World.block_lt_of_cell? w _ hx122_1)).trans hx122_1;replace p122 := eq_true p122;replace q122 := eq_true q122;go_wp2
     go_roundg k1
     case measure => have := HK1.out; omega
     case rel => exact ⟨(wrap64 (x3_1 + ((rd_T65 l0_4 x4_1).f0))),(wrap64 (x4_1 + 1)),(by rfl),(by rfl),H',⟨by have := HK1.out; omega⟩,⟨by exact BK121.out⟩,⟨HB.out⟩⟩
    ·rw [if_neg c5] at H;exact absurd H (by simp)
   ·rw [if_neg c4] at H;have c4b0 : decide (x4_1 < (l0_4.length : Int)) = false := decide_eq_false c4;clear c4;obtain rfl := Option.some.inj H;have hcz7_0 : wr.cell? ⟨gb121,0,none⟩ = some (.string a0_0) := (blk_cell BK121.out 0).trans rfl;have hcz7_1 : wr.cell? ⟨gb121,1,none⟩ = some (.int .i64 a0_1) := (blk_cell BK121.out 1).trans rfl;have hcz7_2 : wr.cell? ⟨gb121,2,none⟩ = some (.int .i64 a0_2) := (blk_cell BK121.out 2).trans rfl;have hcz7_3 : wr.cell? ⟨gb121,3,none⟩ = some (.int .i64 a0_3) := (blk_cell BK121.out 3).trans rfl;have hcz7_4 : wr.cell? ⟨gb121,4,none⟩ = some (.slice A0_4 l0_4.length c0_4) := (blk_cell BK121.out 4).trans rfl;have hfz7_0 := blk_frozen BK121.out 0;have hfz7_1 := blk_frozen BK121.out 1;have hfz7_2 := blk_frozen BK121.out 2;have hfz7_3 := blk_frozen BK121.out 3;have hfz7_4 := blk_frozen BK121.out 4;go_wp2;go_ret;exact ⟨by rfl,HB.out⟩

/-! ### spec_Wealth: function 124 -/
def spec_Wealth.l0 : Nat → List (S63) → Int → Int → Option (Int)
 | 0,_,_,_ => none
 | k + 1,x0,x3,x4 => if x4 < (x0.length : Int) then (if 0 ≤ x4 then ((spec_l4Of.f k ((rd_T63 x0 x4).f0) ((rd_T63 x0 x4).f1) ((rd_T63 x0 x4).f2) ((rd_T63 x0 x4).f3) ((rd_T63 x0 x4).f4)).bind fun t124 => (spec_Wealth.l0 k x0 (wrap64 (x3 + t124)) (wrap64 (x4 + 1)))) else (none)) else (some x3)
def spec_Wealth.f (k : Nat) (l0 : List (S63)) : Option (Int) := spec_Wealth.l0 k l0 0 0
theorem spec_Wealth.mono_l : ∀ k,(∀ y0 y1 y2,LeO (spec_Wealth.l0 k y0 y1 y2) (spec_Wealth.l0 (k + 1) y0 y1 y2))
 | 0 => fun _ _ _ r h => by simp [spec_Wealth.l0] at h
 | k + 1 => by
  have ih0 := spec_Wealth.mono_l k
  ·intro y0 y1 y2;unfold spec_Wealth.l0
   repeat' first
   | (with_reducible exact ih0 _ _ _)
   | (with_reducible exact spec_l4Of.mono _ _ _ _ _ _)
   | (with_reducible exact LeO.refl _)
   | (with_reducible exact LeO.none _)
   | (with_reducible refine LeO.ite ?_ ?_)
   | (with_reducible refine LeO.bind ?_ (fun _ => ?_))
   | exact ih0 _ _ _
   | exact spec_l4Of.mono _ _ _ _ _ _
   | exact LeO.none _
theorem spec_Wealth.mono : ∀ a0 k,LeO (spec_Wealth.f k a0) (spec_Wealth.f (k + 1) a0) := by
 intro a0 k;have ih0 := spec_Wealth.mono_l k;unfold spec_Wealth.f
 repeat' first
   | (with_reducible exact ih0 _ _ _)
   | (with_reducible exact spec_l4Of.mono _ _ _ _ _ _)
   | (with_reducible exact LeO.refl _)
   | (with_reducible exact LeO.none _)
   | (with_reducible refine LeO.ite ?_ ?_)
   | (with_reducible refine LeO.bind ?_ (fun _ => ?_))
   | exact ih0 _ _ _
   | exact spec_l4Of.mono _ _ _ _ _ _
   | exact LeO.none _
set_option maxHeartbeats 8000000 in
set_option maxRecDepth 100000 in
theorem spec_Wealth.calls (k : Nat) (A0 : Option Addr) (c0 : Nat) (l0 : List (S63)) (r : Int) (w : World) (hr0 : Kd.C k63 w A0 l0.length l0) (hc0 : l0.length ≤ c0) (h : spec_Wealth.f k l0 = some r) :
  Calls Try.prog 124 #[.slice A0 l0.length c0] w fun e w' => e = .returned (.int .i64 r) ∧ Below w.heap.size w w' := by
 have hu63 := Try.underlying63;have HR0 := Aside0.mk hr0;have HC0 := Aside0.mk hc0;clear hr0 hc0;have HB := Aside0.mk (Below.refl w.heap.size w);have H : (spec_Wealth.l0 k l0 0 0) = some r := h;clear h;have H' := Aside0.mk H;clear H;go_enter Try.func124,Try.ntmps124;go_wp2
 go_loopg [3,4] k (fun kq v3 v4 w' => ∃ (x3_1 : Int) (x4_1 : Int),v3 = .int .i64 x3_1 ∧ v4 = .int .i64 x4_1 ∧ Aside0 (spec_Wealth.l0 kq l0 x3_1 x4_1 = some r) ∧ Aside0 (kq ≤ k) ∧ Aside0 (Below w.heap.size w w'))
 case atStart => exact ⟨(0),(0),(by rfl),(by rfl),H',⟨Nat.le_refl _⟩,⟨HB.out⟩⟩
 case round =>
  clear H'
  try clear c1
  obtain ⟨x3_1,x4_1,rfl,rfl,HA,HK1,HB⟩ := hrel
  cases gk with
  | zero => exact absurd HA.out (by simp [spec_Wealth.l0])
  | succ k1 =>
   have H := HA.out;clear HA;simp only [spec_Wealth.l0] at H
   by_cases c2 : x4_1 < (l0.length : Int)
   ·rw [if_pos c2] at H;have c2b0 : decide (x4_1 < (l0.length : Int)) = true := decide_eq_true c2;clear c2
    by_cases c3 : 0 ≤ x4_1
    ·rw [if_pos c3] at H;have c3b0 : decide (0 ≤ x4_1) = true := decide_eq_true c3;clear c3;replace H := Option.bind_eq_some_iff.mp H;obtain ⟨t124,A40,H⟩ := H;replace H : (spec_Wealth.l0 k1 l0 (wrap64 (x3_1 + t124)) (wrap64 (x4_1 + 1))) = some r := H;have A4 := Aside0.mk A40;clear A40;have H' := Aside0.mk H;clear H;have p123 : 0 ≤ (x4_1 : Int) := of_decide_eq_true (by (with_reducible assumption));have q123 : x4_1 < (l0.length : Int) := of_decide_eq_true (by (with_reducible assumption));obtain ⟨ad123,A123_4,c123_4,e123,hx123_0,hx123_1,hx123_2,hx123_3,hx123_4,hl123_4,hi123_4⟩ := at_T63 HR0.out x4_1 p123 q123
     cases e123
     replace hx123_0 := (HB.out.cell (World.block_lt_of_cell? w _ hx123_0)).trans hx123_0;replace hx123_1 := (HB.out.cell (World.block_lt_of_cell? w _ hx123_1)).trans hx123_1;replace hx123_2 := (HB.out.cell (World.block_lt_of_cell? w _ hx123_2)).trans hx123_2;replace hx123_3 := (HB.out.cell (World.block_lt_of_cell? w _ hx123_3)).trans hx123_3;replace hx123_4 := (HB.out.cell (World.block_lt_of_cell? w _ hx123_4)).trans hx123_4;have HR123_4 := Aside0.mk hi123_4;have HC123_4 := Aside0.mk hl123_4;clear hi123_4 hl123_4;replace p123 := eq_true p123;replace q123 := eq_true q123
     go_wp2_with (((with_reducible refine gate_callee (f := 139) rfl ?_); refine goesL_ (some 16) rfl rfl Try.func139 (by kernel_rfl) rfl #[.agg #[.string ((rd_T63 l0 x4_1).f0),.int .i64 ((rd_T63 l0 x4_1).f1),.int .i64 ((rd_T63 l0 x4_1).f2),.int .i64 ((rd_T63 l0 x4_1).f3),.slice A123_4 ((rd_T63 l0 x4_1).f4).length c123_4]] rfl (by (try simp only [List.map_toArray,List.map_cons,List.map_nil]); rfl) ?_; (with_reducible refine (spec_l4Of.calls k1 ((rd_T63 l0 x4_1).f0) ((rd_T63 l0 x4_1).f1) ((rd_T63 l0 x4_1).f2) ((rd_T63 l0 x4_1).f3) _ _ ((rd_T63 l0 x4_1).f4) t124 _ ?side1 ?side2 A4.out).mono ?_); (case side1 => repeat (exact (Kd.C_below HR123_4.out HB.out))); (case side2 => exact HC123_4.out); rintro e w5 ⟨rfl,hb⟩; refine ⟨_,rfl,?_⟩; have n0_ := Aside0.mk (below_step HB.out hb); clear HB; have HB := n0_; clear n0_; (try clear hb); skip))
     go_roundg k1
     case measure => have := HK1.out; omega
     case rel => exact ⟨(wrap64 (x3_1 + t124)),(wrap64 (x4_1 + 1)),(by rfl),(by rfl),H',⟨by have := HK1.out; omega⟩,⟨HB.out⟩⟩
    ·rw [if_neg c3] at H;exact absurd H (by simp)
   ·rw [if_neg c2] at H;have c2b0 : decide (x4_1 < (l0.length : Int)) = false := decide_eq_false c2;clear c2;obtain rfl := Option.some.inj H;go_wp2;go_ret;exact ⟨by rfl,HB.out⟩

end Go.Proofs.Ytcbpfofkdipjhaa.PL
