/- The machine's side of Go functions: each as a plain function,and that the call does what it says. Written by a program (wip/mprint). -/
import Derived.Test.YtcbpfofkdipjhaaCCPCx0
import Derived.Test.YtcbpfofkdipjhaaCCPCx1
import Derived.Test.YtcbpfofkdipjhaaCCPCx3
import Derived.Test.YtcbpfofkdipjhaaCCPCx4
import Derived.Test.YtcbpfofkdipjhaaCCPCx5
import Derived.Test.YtcbpfofkdipjhaaCCPCx6
import Derived.Test.YtcbpfofkdipjhaaCCPCx10
namespace Go.Proofs.Ytcbpfofkdipjhaa.PC
open Go.RowKit Go.Proofs.YtcbpfofkdipjhaaW.PrintWords Go.Proofs.YtcbpfofkdipjhaaW.PrintLast Go.Proofs.YtcbpfofkdipjhaaW.PrintMore
attribute [local go_sem] max2_int min2_int max_two min_two max_three min_three max_four min_four   -- for this text's walks alone
set_option linter.unusedVariables false
set_option linter.unusedSimpArgs false

/-! ### laws_FnCredited: function 8 -/
mutual
def laws_FnCredited.j0 : Nat → List (S63) → ByteArray → Int → List (S63) → Bool → Bool → Bool → Option (Bool)
 | 0,_,_,_,_,_,_,_ => none
 | k + 1,x3,x4,x5,x6,x7,x9,x42 => if x42 = true then (if (x7 == x9) = true then ((impl_Wealth.f k x6).bind fun t357 => ((impl_Wealth.f k x3).bind fun t358 => (some (t357 == t358)))) else (some false)) else ((impl_AcctAt.f x6 x4).bind fun t359 => ((impl_AcctAt.f x3 x4).bind fun t360 => (if t360 ≥ 0 then ((impl_AcctAt.f x3 x4).bind fun t361 => (if 0 ≤ t361 then (if t361 < (x3.length : Int) then (laws_FnCredited.j1 k x3 x4 x5 x6 t359 ((rd_T63 x3 t361).f1)) else (none)) else (none))) else (laws_FnCredited.j1 k x3 x4 x5 x6 t359 0))))
def laws_FnCredited.j1 : Nat → List (S63) → ByteArray → Int → List (S63) → Int → Int → Option (Bool)
 | 0,_,_,_,_,_,_ => none
 | k + 1,x3,x4,x5,x6,x10,x11 => laws_FnCredited.l0 k x3 x4 x5 x6 x10 x11 0
def laws_FnCredited.l0 : Nat → List (S63) → ByteArray → Int → List (S63) → Int → Int → Int → Option (Bool)
 | 0,_,_,_,_,_,_,_ => none
 | k + 1,x3,x4,x5,x6,x10,x11,x12 => if x12 < (x3.length : Int) then (if 0 ≤ x12 then ((impl_AcctAt.f x6 ((rd_T63 x3 x12).f0)).bind fun t364 => (if t364 < 0 then (some false) else (if ((rd_T63 x3 x12).f0).toList = x4.toList then (laws_FnCredited.l0 k x3 x4 x5 x6 x10 x11 (wrap64 (x12 + 1))) else (if 0 ≤ t364 then (if t364 < (x6.length : Int) then (if ((rd_T63 x6 t364).f1) = ((rd_T63 x3 x12).f1) then (laws_FnCredited.l0 k x3 x4 x5 x6 x10 x11 (wrap64 (x12 + 1))) else (some false)) else (none)) else (none))))) else (none)) else (if x10 ≥ 0 then (if 0 ≤ x10 then (if x10 < (x6.length : Int) then (if ((rd_T63 x6 x10).f1) = (wrap64 (x11 + x5)) then ((impl_Wealth.f k x6).bind fun t369 => ((impl_Wealth.f k x3).bind fun t370 => (if t369 = (wrap64 (t370 + x5)) then ((impl_AcctsOk.f k x6).bind fun t371 => (if t371 = true then ((impl_AcctOk.f k ((rd_T63 x6 x10).f0) ((rd_T63 x6 x10).f1) ((rd_T63 x6 x10).f2) ((rd_T63 x6 x10).f3) ((rd_T63 x6 x10).f4)).bind fun t373 => (some t373)) else (some false))) else (some false)))) else (some false)) else (none)) else (none)) else (some false))
end
def laws_FnCredited.f (k : Nat) (l0 : List Int) : Option (Bool) := (laws_big.f l0).bind fun t343 => (if t343 = true then (some true) else ((spec_DrawCredit.f k l0).bind fun bt344 => ((impl_Credit.f k bt344.1 bt344.2.1 bt344.2.2).bind fun bt349 => ((spec_Credit.f k bt344.1 bt344.2.1 bt344.2.2).bind fun bt353 => (if (bt349.2 != bt353.2) = true then (laws_FnCredited.j0 k bt344.1 bt344.2.1 bt344.2.2 bt349.1 bt349.2 bt353.2 true) else (laws_FnCredited.j0 k bt344.1 bt344.2.1 bt344.2.2 bt349.1 bt349.2 bt353.2 (!bt349.2)))))))
theorem laws_FnCredited.mono_l : ∀ k,(∀ y0 y1 y2 y3 y4 y5 y6,LeO (laws_FnCredited.j0 k y0 y1 y2 y3 y4 y5 y6) (laws_FnCredited.j0 (k + 1) y0 y1 y2 y3 y4 y5 y6)) ∧ (∀ y0 y1 y2 y3 y4 y5,LeO (laws_FnCredited.j1 k y0 y1 y2 y3 y4 y5) (laws_FnCredited.j1 (k + 1) y0 y1 y2 y3 y4 y5)) ∧ (∀ y0 y1 y2 y3 y4 y5 y6,LeO (laws_FnCredited.l0 k y0 y1 y2 y3 y4 y5 y6) (laws_FnCredited.l0 (k + 1) y0 y1 y2 y3 y4 y5 y6))
 | 0 => ⟨fun _ _ _ _ _ _ _ r h => by simp [laws_FnCredited.j0] at h,fun _ _ _ _ _ _ r h => by simp [laws_FnCredited.j1] at h,fun _ _ _ _ _ _ _ r h => by simp [laws_FnCredited.l0] at h⟩
 | k + 1 => by
  obtain ⟨ih0,ih1,ih2⟩ := laws_FnCredited.mono_l k;refine ⟨?_,?_,?_⟩
  ·intro y0 y1 y2 y3 y4 y5 y6;unfold laws_FnCredited.j0
   repeat' first
   | (with_reducible exact ih0 _ _ _ _ _ _ _)
   | (with_reducible exact ih1 _ _ _ _ _ _)
   | (with_reducible exact ih2 _ _ _ _ _ _ _)
   | (with_reducible exact impl_AcctOk.mono _ _ _ _ _ _)
   | (with_reducible exact impl_AcctsOk.mono _ _)
   | (with_reducible exact impl_Credit.mono _ _ _ _)
   | (with_reducible exact impl_Wealth.mono _ _)
   | (with_reducible exact spec_Credit.mono _ _ _ _)
   | (with_reducible exact spec_DrawCredit.mono _ _)
   | (with_reducible exact LeO.refl _)
   | (with_reducible exact LeO.none _)
   | (with_reducible refine LeO.ite ?_ ?_)
   | (with_reducible refine LeO.bind ?_ (fun _ => ?_))
   | exact ih0 _ _ _ _ _ _ _
   | exact ih1 _ _ _ _ _ _
   | exact ih2 _ _ _ _ _ _ _
   | exact impl_AcctOk.mono _ _ _ _ _ _
   | exact impl_AcctsOk.mono _ _
   | exact impl_Credit.mono _ _ _ _
   | exact impl_Wealth.mono _ _
   | exact spec_Credit.mono _ _ _ _
   | exact spec_DrawCredit.mono _ _
   | exact LeO.none _
  ·intro y0 y1 y2 y3 y4 y5;unfold laws_FnCredited.j1
   repeat' first
   | (with_reducible exact ih0 _ _ _ _ _ _ _)
   | (with_reducible exact ih1 _ _ _ _ _ _)
   | (with_reducible exact ih2 _ _ _ _ _ _ _)
   | (with_reducible exact impl_AcctOk.mono _ _ _ _ _ _)
   | (with_reducible exact impl_AcctsOk.mono _ _)
   | (with_reducible exact impl_Credit.mono _ _ _ _)
   | (with_reducible exact impl_Wealth.mono _ _)
   | (with_reducible exact spec_Credit.mono _ _ _ _)
   | (with_reducible exact spec_DrawCredit.mono _ _)
   | (with_reducible exact LeO.refl _)
   | (with_reducible exact LeO.none _)
   | (with_reducible refine LeO.ite ?_ ?_)
   | (with_reducible refine LeO.bind ?_ (fun _ => ?_))
   | exact ih0 _ _ _ _ _ _ _
   | exact ih1 _ _ _ _ _ _
   | exact ih2 _ _ _ _ _ _ _
   | exact impl_AcctOk.mono _ _ _ _ _ _
   | exact impl_AcctsOk.mono _ _
   | exact impl_Credit.mono _ _ _ _
   | exact impl_Wealth.mono _ _
   | exact spec_Credit.mono _ _ _ _
   | exact spec_DrawCredit.mono _ _
   | exact LeO.none _
  ·intro y0 y1 y2 y3 y4 y5 y6;unfold laws_FnCredited.l0
   repeat' first
   | (with_reducible exact ih0 _ _ _ _ _ _ _)
   | (with_reducible exact ih1 _ _ _ _ _ _)
   | (with_reducible exact ih2 _ _ _ _ _ _ _)
   | (with_reducible exact impl_AcctOk.mono _ _ _ _ _ _)
   | (with_reducible exact impl_AcctsOk.mono _ _)
   | (with_reducible exact impl_Credit.mono _ _ _ _)
   | (with_reducible exact impl_Wealth.mono _ _)
   | (with_reducible exact spec_Credit.mono _ _ _ _)
   | (with_reducible exact spec_DrawCredit.mono _ _)
   | (with_reducible exact LeO.refl _)
   | (with_reducible exact LeO.none _)
   | (with_reducible refine LeO.ite ?_ ?_)
   | (with_reducible refine LeO.bind ?_ (fun _ => ?_))
   | exact ih0 _ _ _ _ _ _ _
   | exact ih1 _ _ _ _ _ _
   | exact ih2 _ _ _ _ _ _ _
   | exact impl_AcctOk.mono _ _ _ _ _ _
   | exact impl_AcctsOk.mono _ _
   | exact impl_Credit.mono _ _ _ _
   | exact impl_Wealth.mono _ _
   | exact spec_Credit.mono _ _ _ _
   | exact spec_DrawCredit.mono _ _
   | exact LeO.none _
theorem laws_FnCredited.mono : ∀ a0 k,LeO (laws_FnCredited.f k a0) (laws_FnCredited.f (k + 1) a0) := by
 intro a0 k;obtain ⟨ih0,ih1,ih2⟩ := laws_FnCredited.mono_l k;unfold laws_FnCredited.f
 repeat' first
   | (with_reducible exact ih0 _ _ _ _ _ _ _)
   | (with_reducible exact ih1 _ _ _ _ _ _)
   | (with_reducible exact ih2 _ _ _ _ _ _ _)
   | (with_reducible exact impl_AcctOk.mono _ _ _ _ _ _)
   | (with_reducible exact impl_AcctsOk.mono _ _)
   | (with_reducible exact impl_Credit.mono _ _ _ _)
   | (with_reducible exact impl_Wealth.mono _ _)
   | (with_reducible exact spec_Credit.mono _ _ _ _)
   | (with_reducible exact spec_DrawCredit.mono _ _)
   | (with_reducible exact LeO.refl _)
   | (with_reducible exact LeO.none _)
   | (with_reducible refine LeO.ite ?_ ?_)
   | (with_reducible refine LeO.bind ?_ (fun _ => ?_))
   | exact ih0 _ _ _ _ _ _ _
   | exact ih1 _ _ _ _ _ _
   | exact ih2 _ _ _ _ _ _ _
   | exact impl_AcctOk.mono _ _ _ _ _ _
   | exact impl_AcctsOk.mono _ _
   | exact impl_Credit.mono _ _ _ _
   | exact impl_Wealth.mono _ _
   | exact spec_Credit.mono _ _ _ _
   | exact spec_DrawCredit.mono _ _
   | exact LeO.none _
set_option maxHeartbeats 8000000 in
set_option maxRecDepth 100000 in
theorem laws_FnCredited.calls (k : Nat) (A0 : Option Addr) (c0 : Nat) (l0 : List Int) (r : Bool) (w : World) (hr0 : Kd.C (Kd.int .u8) w A0 l0.length l0) (hc0 : l0.length ≤ c0) (h : laws_FnCredited.f k l0 = some r) :
  Calls Try.prog 8 #[.slice A0 l0.length c0] w fun e w' => e = .returned (.bool r) ∧ Below w.heap.size w w' := by
 have hu63 := Try.underlying63;have HR0 := Aside0.mk hr0;have HC0 := Aside0.mk hc0;clear hr0 hc0;have HB := Aside0.mk (Below.refl w.heap.size w);have H : ((laws_big.f l0).bind fun t343 => (if t343 = true then (some true) else ((spec_DrawCredit.f k l0).bind fun bt344 => ((impl_Credit.f k bt344.1 bt344.2.1 bt344.2.2).bind fun bt349 => ((spec_Credit.f k bt344.1 bt344.2.1 bt344.2.2).bind fun bt353 => (if (bt349.2 != bt353.2) = true then (laws_FnCredited.j0 k bt344.1 bt344.2.1 bt344.2.2 bt349.1 bt349.2 bt353.2 true) else (laws_FnCredited.j0 k bt344.1 bt344.2.1 bt344.2.2 bt349.1 bt349.2 bt353.2 (!bt349.2)))))))) = some r := h;clear h;replace H := Option.bind_eq_some_iff.mp H;obtain ⟨t343,A20,H⟩ := H;replace H : (if t343 = true then (some true) else ((spec_DrawCredit.f k l0).bind fun bt344 => ((impl_Credit.f k bt344.1 bt344.2.1 bt344.2.2).bind fun bt349 => ((spec_Credit.f k bt344.1 bt344.2.1 bt344.2.2).bind fun bt353 => (if (bt349.2 != bt353.2) = true then (laws_FnCredited.j0 k bt344.1 bt344.2.1 bt344.2.2 bt349.1 bt349.2 bt353.2 true) else (laws_FnCredited.j0 k bt344.1 bt344.2.1 bt344.2.2 bt349.1 bt349.2 bt353.2 (!bt349.2))))))) = some r := H;have A2 := Aside0.mk A20;clear A20
 by_cases c3 : t343 = true
 ·subst c3
  have H1 : (some true) = some r := by rw [if_pos rfl] at H; exact H
  clear H;have H := H1;clear H1;obtain rfl := Option.some.inj H;go_enter Try.func8,Try.ntmps8
  go_wp2_with ((go_at_call 22; (with_reducible refine (laws_big.calls _ _ l0 true _ ?side1 ?side2 A2.out).mono ?_); (case side1 => repeat (exact HR0.out)); (case side2 => exact HC0.out); rintro e w' ⟨rfl,⟨nd,rfl⟩⟩; skip))
  repeat (go_quiet (fail); try go_wp2_with (fail))
  go_ret;exact ⟨by rfl,by repeat (with_reducible first | exact HB.out | apply pw_below_drewN)⟩
 ·replace c3 := Bool.eq_false_iff.mpr c3;subst c3
  have H1 : ((spec_DrawCredit.f k l0).bind fun bt344 => ((impl_Credit.f k bt344.1 bt344.2.1 bt344.2.2).bind fun bt349 => ((spec_Credit.f k bt344.1 bt344.2.1 bt344.2.2).bind fun bt353 => (if (bt349.2 != bt353.2) = true then (laws_FnCredited.j0 k bt344.1 bt344.2.1 bt344.2.2 bt349.1 bt349.2 bt353.2 true) else (laws_FnCredited.j0 k bt344.1 bt344.2.1 bt344.2.2 bt349.1 bt349.2 bt353.2 (!bt349.2)))))) = some r := by rw [if_neg (show ¬ (false = true) by decide)] at H; exact H
  clear H;have H := H1;clear H1;replace H := Option.bind_eq_some_iff.mp H;obtain ⟨⟨t344,t345,t346⟩,A40,H⟩ := H;replace H : ((impl_Credit.f k t344 t345 t346).bind fun bt349 => ((spec_Credit.f k t344 t345 t346).bind fun bt353 => (if (bt349.2 != bt353.2) = true then (laws_FnCredited.j0 k t344 t345 t346 bt349.1 bt349.2 bt353.2 true) else (laws_FnCredited.j0 k t344 t345 t346 bt349.1 bt349.2 bt353.2 (!bt349.2))))) = some r := H;have A4 := Aside0.mk A40;clear A40;replace H := Option.bind_eq_some_iff.mp H;obtain ⟨⟨t349,t350⟩,A50,H⟩ := H;replace H : ((spec_Credit.f k t344 t345 t346).bind fun bt353 => (if (t350 != bt353.2) = true then (laws_FnCredited.j0 k t344 t345 t346 t349 t350 bt353.2 true) else (laws_FnCredited.j0 k t344 t345 t346 t349 t350 bt353.2 (!t350)))) = some r := H;have A5 := Aside0.mk A50;clear A50;replace H := Option.bind_eq_some_iff.mp H;obtain ⟨⟨t353,t356⟩,A60,H⟩ := H;replace H : (if (t350 != t356) = true then (laws_FnCredited.j0 k t344 t345 t346 t349 t350 t356 true) else (laws_FnCredited.j0 k t344 t345 t346 t349 t350 t356 (!t350))) = some r := H;have A6 := Aside0.mk A60;clear A60;have HC7 := Aside0.mk H;clear H;go_enter Try.func8,Try.ntmps8
  go_upto_region 6 with (first | (go_at_call 22; (with_reducible refine (laws_big.calls _ _ l0 false _ ?side1 ?side2 A2.out).mono ?_); (case side1 => repeat (exact HR0.out)); (case side2 => exact HC0.out); rintro e w' ⟨rfl,⟨nd,rfl⟩⟩; skip) | (go_at_call 40; (with_reducible refine (spec_DrawCredit.calls k _ _ l0 t344 t345 t346 _ ?side1 ?side2 A4.out).mono ?_); (case side1 => repeat (exact HR0.out)); (case side2 => exact HC0.out); rintro e w8 ⟨v347,rfl,ho0,hb⟩; have n0_ := Aside0.mk (Kd.N_lower (Kd.N_mono (ok' := fun k_ => True) (Kd.S_N (Kd.S_bound ho0)) (fun k_ hk_ => trivial)) (below_size (by repeat (with_reducible first | exact HB.out | apply pw_below_drewN)))); have n1_ := Aside0.mk (below_step (by repeat (with_reducible first | exact HB.out | apply pw_below_drewN)) hb); clear HB; have HO348 := n0_; have HB := n1_; clear n0_ n1_; (try clear hb); (try clear ho0); obtain ⟨Ao9,co9,eo9⟩ := Kd.N_slice HO348.out; subst eo9) | (go_at_call 41; (with_reducible refine (impl_Credit.calls k _ _ t344 t345 t346 t349 t350 _ ?side1 ?side2 A5.out).mono ?_); (case side1 => repeat (exact (Kd.N_reads' HO348.out).2.2)); (case side2 => exact (Kd.N_reads' HO348.out).2.1); rintro e w10 ⟨v351,rfl,ho0,hb⟩; have n0_ := Aside0.mk (Kd.N_elder' (by exact HO348.out) (by exact Kd.S_base ho0) hb); have n1_ := Aside0.mk (Kd.N_lower (Kd.N_mono (ok' := fun k_ => some k_ ≠ (.slice Ao9 t344.length co9 : Value).ownBlock) (Kd.S_N (Kd.S_bound ho0)) (fun k_ hk_ => (Kd.fresh' (Kd.N_lt (by exact HO348.out)) k_ hk_.2.1))) (below_size HB.out)); have n2_ := Aside0.mk (below_step HB.out hb); clear HO348; clear HB; have HO348 := n0_; have HO352 := n1_; have HB := n2_; clear n0_ n1_ n2_; (try clear hb); (try clear ho0)) | (go_at_call 42; (with_reducible refine (spec_Credit.calls k _ _ t344 t345 t346 t353 t356 _ ?side1 ?side2 A6.out).mono ?_); (case side1 => repeat (exact (Kd.N_reads' HO348.out).2.2)); (case side2 => exact (Kd.N_reads' HO348.out).2.1); rintro e w11 ⟨v354,rfl,ho0,hb⟩; have n0_ := Aside0.mk (Kd.N_elder' (by exact HO348.out) (by exact Kd.N_base ho0) hb); have n1_ := Aside0.mk (Kd.N_elder' (by exact HO352.out) (by exact Kd.N_base ho0) hb); have n2_ := Aside0.mk (Kd.N_lower (Kd.N_mono (ok' := fun k_ => some k_ ≠ (.slice Ao9 t344.length co9 : Value).ownBlock ∧ some k_ ≠ (v351 : Value).ownBlock) ho0 (fun k_ hk_ => ⟨(Kd.fresh' (Kd.N_lt (by exact HO348.out)) k_ hk_),(Kd.fresh' (Kd.N_lt (by exact HO352.out)) k_ hk_)⟩)) (below_size HB.out)); have n3_ := Aside0.mk (below_step HB.out hb); clear HO348; clear HO352; clear HB; have HO348 := n0_; have HO352 := n1_; have HO355 := n2_; have HB := n3_; clear n0_ n1_ n2_ n3_; (try clear hb); (try clear ho0)))
  repeat (go_quiet (fail); go_upto_region 6 with (fail))
  skip
  go_cut [42] (fun v42 wc => ∃ (kq : Nat) (x42_6 : Bool),v42 = .bool x42_6 ∧ Aside0 (laws_FnCredited.j0 kq t344 t345 t346 t349 t350 t356 x42_6 = some r) ∧ Aside0 (kq ≤ k) ∧ Aside0 (Kd.N k63 63 wc w.heap.size (fun k_ => some k_ ≠ (v351 : Value).ownBlock) (.slice Ao9 t344.length co9) t344) ∧ Aside0 (Kd.N k63 63 wc w.heap.size (fun k_ => some k_ ≠ ((.slice Ao9 t344.length co9) : Value).ownBlock) v351 t349) ∧ Aside0 (Below w.heap.size w wc))
  case first =>
   have H := HC7.out;clear HC7
   by_cases c12 : (t350 != t356) = true
   ·rw [if_pos c12] at H;have c12b0 : (t350 != t356) = true := c12
    (try (have c12b1 : decide (t350 = t356) = false := by simpa using c12))
    (try (have c12b2 : (t350 == t356) = false := by simpa using c12))
    (try (have c12b3 : ¬ (t350 = t356) := by simpa using c12))
    clear c12
    (skip)
    have H' := Aside0.mk H;clear H;go_wp2
    repeat (go_quiet (fail); try go_wp2)
    go_meet
    case rel => exact ⟨_,(true),(by rfl),H',⟨by omega⟩,⟨by exact Kd.N_mono HO348.out (fun _ hk => hk.1.2)⟩,⟨by exact Kd.N_mono HO352.out (fun _ hk => hk.1)⟩,⟨HB.out⟩⟩
   ·rw [if_neg c12] at H
    have c12b0 : (t350 != t356) = false := by simpa using c12
    (try (have c12b1 : decide (t350 = t356) = true := by simpa using c12))
    (try (have c12b2 : (t350 == t356) = true := by simpa using c12))
    clear c12
    (skip)
    have H' := Aside0.mk H;clear H;go_wp2
    repeat (go_quiet (fail); try go_wp2)
    go_meet
    case rel => exact ⟨_,(!t350),(by rfl),H',⟨by omega⟩,⟨by exact Kd.N_mono HO348.out (fun _ hk => hk.1.2)⟩,⟨by exact Kd.N_mono HO352.out (fun _ hk => hk.1)⟩,⟨HB.out⟩⟩
  case rest =>
   clear HC7
   try clear c1
   try clear p2
   try clear c3
   try clear c8
   try clear c12
   try clear c12b0
   try clear c12b1
   try clear c12b2
   obtain ⟨kq,x42_6,rfl,HA,HJ6,HO_3,HO_6,HB⟩ := hcut
   cases kq with
   | zero => exact absurd HA.out (by simp [laws_FnCredited.j0])
   | succ kj6 =>
    have H := HA.out;clear HA;simp only [laws_FnCredited.j0] at H
    by_cases c13 : x42_6 = true
    ·subst c13
     have H1 : (if (t350 == t356) = true then ((impl_Wealth.f kj6 t349).bind fun t357 => ((impl_Wealth.f kj6 t344).bind fun t358 => (some (t357 == t358)))) else (some false)) = some r := by rw [if_pos rfl] at H; exact H
     clear H;have H := H1;clear H1
     by_cases c14 : (t350 == t356) = true
     ·rw [if_pos c14] at H;have c14b0 : (t350 == t356) = true := c14
      (try (have c14b1 : decide (t350 = t356) = true := by simpa using c14))
      (try (have c14b2 : (t350 == t356) = true := by simpa using c14))
      clear c14;replace H := Option.bind_eq_some_iff.mp H;obtain ⟨t357,A150,H⟩ := H;replace H : ((impl_Wealth.f kj6 t344).bind fun t358 => (some (t357 == t358))) = some r := H;have A15 := Aside0.mk A150;clear A150;replace H := Option.bind_eq_some_iff.mp H;obtain ⟨t358,A160,H⟩ := H;replace H : (some (t357 == t358)) = some r := H;have A16 := Aside0.mk A160;clear A160;obtain rfl := Option.some.inj H;obtain ⟨Ao17,co17,eo17⟩ := Kd.N_slice HO_6.out;subst eo17
      go_wp2_with (first | (go_at_call 26; (with_reducible refine (impl_Wealth.calls kj6 _ _ t349 t357 _ ?side1 ?side2 A15.out).mono ?_); (case side1 => repeat (exact (Kd.N_reads' HO_6.out).2.2)); (case side2 => exact (Kd.N_reads' HO_6.out).2.1); rintro e w18 ⟨rfl,hb⟩; have n0_ := Aside0.mk (Kd.N_below (by exact HO_3.out) hb); have n1_ := Aside0.mk (Kd.N_below (by exact HO_6.out) hb); have n2_ := Aside0.mk (below_step HB.out hb); clear HO_3; clear HO_6; clear HB; have HO_3 := n0_; have HO_6 := n1_; have HB := n2_; clear n0_ n1_ n2_; (try clear hb); skip) | (go_at_call 26; (with_reducible refine (impl_Wealth.calls kj6 _ _ t344 t358 _ ?side1 ?side2 A16.out).mono ?_); (case side1 => repeat (exact (Kd.N_reads' HO_3.out).2.2)); (case side2 => exact (Kd.N_reads' HO_3.out).2.1); rintro e w19 ⟨rfl,hb⟩; have n0_ := Aside0.mk (Kd.N_below (by exact HO_3.out) hb); have n1_ := Aside0.mk (Kd.N_below (by exact HO_6.out) hb); have n2_ := Aside0.mk (below_step HB.out hb); clear HO_3; clear HO_6; clear HB; have HO_3 := n0_; have HO_6 := n1_; have HB := n2_; clear n0_ n1_ n2_; (try clear hb); skip))
      repeat (go_quiet (fail); try go_wp2_with (fail))
      go_ret;exact ⟨by rfl,HB.out⟩
     ·rw [if_neg c14] at H
      have c14b0 : (t350 == t356) = false := by simpa using c14
      (try (have c14b1 : decide (t350 = t356) = false := by simpa using c14))
      (try (have c14b2 : (t350 == t356) = false := by simpa using c14))
      (try (have c14b3 : ¬ (t350 = t356) := by simpa using c14))
      clear c14;obtain rfl := Option.some.inj H;go_wp2
      repeat (go_quiet (fail); try go_wp2)
      go_ret;exact ⟨by rfl,HB.out⟩
    ·replace c13 := Bool.eq_false_iff.mpr c13;subst c13
     have H1 : ((impl_AcctAt.f t349 t345).bind fun t359 => ((impl_AcctAt.f t344 t345).bind fun t360 => (if t360 ≥ 0 then ((impl_AcctAt.f t344 t345).bind fun t361 => (if 0 ≤ t361 then (if t361 < (t344.length : Int) then (laws_FnCredited.j1 kj6 t344 t345 t346 t349 t359 ((rd_T63 t344 t361).f1)) else (none)) else (none))) else (laws_FnCredited.j1 kj6 t344 t345 t346 t349 t359 0)))) = some r := by rw [if_neg (show ¬ (false = true) by decide)] at H; exact H
     clear H;have H := H1;clear H1;replace H := Option.bind_eq_some_iff.mp H;obtain ⟨t359,A200,H⟩ := H;replace H : ((impl_AcctAt.f t344 t345).bind fun t360 => (if t360 ≥ 0 then ((impl_AcctAt.f t344 t345).bind fun t361 => (if 0 ≤ t361 then (if t361 < (t344.length : Int) then (laws_FnCredited.j1 kj6 t344 t345 t346 t349 t359 ((rd_T63 t344 t361).f1)) else (none)) else (none))) else (laws_FnCredited.j1 kj6 t344 t345 t346 t349 t359 0))) = some r := H;have A20 := Aside0.mk A200;clear A200;replace H := Option.bind_eq_some_iff.mp H;obtain ⟨t360,A210,H⟩ := H;replace H : (if t360 ≥ 0 then ((impl_AcctAt.f t344 t345).bind fun t361 => (if 0 ≤ t361 then (if t361 < (t344.length : Int) then (laws_FnCredited.j1 kj6 t344 t345 t346 t349 t359 ((rd_T63 t344 t361).f1)) else (none)) else (none))) else (laws_FnCredited.j1 kj6 t344 t345 t346 t349 t359 0)) = some r := H;have A21 := Aside0.mk A210;clear A210;have HC22 := Aside0.mk H;clear H;obtain ⟨Ao23,co23,eo23⟩ := Kd.N_slice HO_6.out;subst eo23
     go_upto_if 59 with (first | (go_at_call 43; (with_reducible refine (impl_AcctAt.calls _ _ t349 t345 t359 _ ?side1 ?side2 A20.out).mono ?_); (case side1 => repeat (exact (Kd.N_reads' HO_6.out).2.2)); (case side2 => exact (Kd.N_reads' HO_6.out).2.1); rintro e w24 ⟨rfl,hb⟩; have n0_ := Aside0.mk (Kd.N_below (by exact HO_3.out) hb); have n1_ := Aside0.mk (Kd.N_below (by exact HO_6.out) hb); have n2_ := Aside0.mk (below_step HB.out hb); clear HO_3; clear HO_6; clear HB; have HO_3 := n0_; have HO_6 := n1_; have HB := n2_; clear n0_ n1_ n2_; (try clear hb); skip) | (go_at_call 43; (with_reducible refine (impl_AcctAt.calls _ _ t344 t345 t360 _ ?side1 ?side2 A21.out).mono ?_); (case side1 => repeat (exact (Kd.N_reads' HO_3.out).2.2)); (case side2 => exact (Kd.N_reads' HO_3.out).2.1); rintro e w25 ⟨rfl,hb⟩; have n0_ := Aside0.mk (Kd.N_below (by exact HO_3.out) hb); have n1_ := Aside0.mk (Kd.N_below (by exact HO_6.out) hb); have n2_ := Aside0.mk (below_step HB.out hb); clear HO_3; clear HO_6; clear HB; have HO_3 := n0_; have HO_6 := n1_; have HB := n2_; clear n0_ n1_ n2_; (try clear hb); skip))
     repeat (go_quiet (fail); go_upto_if 59 with (fail))
     skip
     go_cut [11] (fun v11 wc => ∃ (kq : Nat) (x11_21 : Int),v11 = .int .i64 x11_21 ∧ Aside0 (laws_FnCredited.j1 kq t344 t345 t346 t349 t359 x11_21 = some r) ∧ Aside0 (kq ≤ kj6) ∧ Aside0 (Kd.N k63 63 wc w.heap.size (fun k_ => some k_ ≠ ((.slice Ao23 t349.length co23) : Value).ownBlock) (.slice Ao9 t344.length co9) t344) ∧ Aside0 (Kd.N k63 63 wc w.heap.size (fun k_ => some k_ ≠ ((.slice Ao9 t344.length co9) : Value).ownBlock) (.slice Ao23 t349.length co23) t349) ∧ Aside0 (Below w.heap.size w wc))
     case first =>
      have H := HC22.out;clear HC22
      by_cases c26 : t360 ≥ 0
      ·rw [if_pos c26] at H;have c26b0 : decide (0 ≤ t360) = true := decide_eq_true c26;clear c26
       (rw [c26b0])
       replace H := Option.bind_eq_some_iff.mp H;obtain ⟨t361,A270,H⟩ := H;replace H : (if 0 ≤ t361 then (if t361 < (t344.length : Int) then (laws_FnCredited.j1 kj6 t344 t345 t346 t349 t359 ((rd_T63 t344 t361).f1)) else (none)) else (none)) = some r := H;have A27 := Aside0.mk A270;clear A270
       by_cases c28 : 0 ≤ t361
       ·rw [if_pos c28] at H;have c28b0 : decide (0 ≤ t361) = true := decide_eq_true c28;clear c28
        by_cases c29 : t361 < (t344.length : Int)
        ·rw [if_pos c29] at H;have c29b0 : decide (t361 < (t344.length : Int)) = true := decide_eq_true c29;clear c29;have H' := Aside0.mk H;clear H
         go_wp2_with ((go_at_call 43; (with_reducible refine (impl_AcctAt.calls _ _ t344 t345 t361 _ ?side1 ?side2 A27.out).mono ?_); (case side1 => repeat (exact (Kd.N_reads' HO_3.out).2.2)); (case side2 => exact (Kd.N_reads' HO_3.out).2.1); rintro e w30 ⟨rfl,hb⟩; have n0_ := Aside0.mk (Kd.N_below (by exact HO_3.out) hb); have n1_ := Aside0.mk (Kd.N_below (by exact HO_6.out) hb); have n2_ := Aside0.mk (below_step HB.out hb); clear HO_3; clear HO_6; clear HB; have HO_3 := n0_; have HO_6 := n1_; have HB := n2_; clear n0_ n1_ n2_; (try clear hb); have p362 : 0 ≤ (t361 : Int) := of_decide_eq_true (by (with_reducible assumption)); have q362 : t361 < (t344.length : Int) := of_decide_eq_true (by (with_reducible assumption)); obtain ⟨ad362,A362_4,c362_4,e362,hx362_0,hx362_1,hx362_2,hx362_3,hx362_4,hl362_4,hi362_4⟩ := at_T63 (Kd.N_reads' HO_3.out).2.2 t361 p362 q362; cases e362; obtain ⟨ce362,hce362,hMe362,hcc362⟩ := Kd.N_get HO_3.out z63 t361 p362 (by exact q362); obtain ⟨ua362_4,uc362_4,rfl,ul362_4,ge362_4⟩ := k63_openF hMe362; have hv362_4 := hcc362 4 _ rfl; rw [add_field _ _ 4 (by omega)] at hv362_4; replace hv362_4 := Option.some.inj (hv362_4.symm.trans hx362_4); injection hv362_4 with hva_ hvn_ hvc_; rw [hva_] at ge362_4; rw [hvc_] at ul362_4; have HL362_4 := Aside0.mk (show Kd.V k65 65 _ w.heap.size _ _ ((rd_T63 t344 t361).f4) from Kd.V_mk ul362_4 ge362_4); clear hva_ hvn_ hvc_ ge362_4 ul362_4; clear hcc362 hce362; have HR362_4 := Aside0.mk hi362_4; have HC362_4 := Aside0.mk hl362_4; clear hi362_4 hl362_4; replace p362 := eq_true p362; replace q362 := eq_true q362))
         repeat (go_quiet (fail); try go_wp2_with (fail))
         go_meet
         case rel => exact ⟨_,((rd_T63 t344 t361).f1),(by rfl),H',⟨by have := HJ6.out; omega⟩,⟨by exact HO_3.out⟩,⟨by exact HO_6.out⟩,⟨HB.out⟩⟩
        ·rw [if_neg c29] at H;exact absurd H (by simp)
       ·rw [if_neg c28] at H;exact absurd H (by simp)
      ·rw [if_neg c26] at H;have c26b0 : decide (0 ≤ t360) = false := decide_eq_false c26;clear c26
       (rw [c26b0])
       have H' := Aside0.mk H;clear H;go_wp2
       repeat (go_quiet (fail); try go_wp2)
       go_meet
       case rel => exact ⟨_,(0),(by rfl),H',⟨by have := HJ6.out; omega⟩,⟨by exact HO_3.out⟩,⟨by exact HO_6.out⟩,⟨HB.out⟩⟩
     case rest =>
      clear HC22
      try clear c1
      try clear c2
      try clear p2
      try clear c3
      try clear p3
      try clear q3
      try clear hx3
      try clear c8
      try clear c12
      try clear c12b0
      try clear c12b1
      try clear c12b2
      try clear c13
      try clear c14
      try clear c14b0
      try clear c14b1
      try clear c14b2
      try clear c26
      try clear c26b0
      try clear c28
      try clear c28b0
      try clear c29
      try clear c29b0
      try clear hx362_0
      try clear hx362_1
      try clear hx362_2
      try clear hx362_3
      try clear hx362_4
      try clear p2
      try clear p362
      try clear q362
      obtain ⟨kq,x11_21,rfl,HA,HJ21,HO_3,HO_6,HB⟩ := hcut
      cases kq with
      | zero => exact absurd HA.out (by simp [laws_FnCredited.j1])
      | succ kj21 =>
       have H := HA.out;clear HA;simp only [laws_FnCredited.j1] at H;have H' := Aside0.mk H;clear H;go_wp2
       repeat (go_quiet (fail); try go_wp2)
       go_loopg [12] kj21 (fun kq v12 w' => ∃ (x12_3 : Int),v12 = .int .i64 x12_3 ∧ Aside0 (laws_FnCredited.l0 kq t344 t345 t346 t349 t359 x11_21 x12_3 = some r) ∧ Aside0 (kq ≤ kj21) ∧ Aside0 (Kd.N k63 63 w' w.heap.size (fun k_ => some k_ ≠ ((.slice Ao23 t349.length co23) : Value).ownBlock) (.slice Ao9 t344.length co9) t344) ∧ Aside0 (Kd.N k63 63 w' w.heap.size (fun k_ => some k_ ≠ ((.slice Ao9 t344.length co9) : Value).ownBlock) (.slice Ao23 t349.length co23) t349) ∧ Aside0 (Below w.heap.size w w'))
       case atStart => exact ⟨(0),(by rfl),H',⟨Nat.le_refl _⟩,⟨by exact HO_3.out⟩,⟨by exact HO_6.out⟩,⟨HB.out⟩⟩
       case round =>
        clear H'
        try clear c1
        try clear c2
        try clear p2
        try clear c3
        try clear p3
        try clear q3
        try clear hx3
        try clear c8
        try clear c12
        try clear c12b0
        try clear c12b1
        try clear c12b2
        try clear c13
        try clear c14
        try clear c14b0
        try clear c14b1
        try clear c14b2
        try clear c26
        try clear c26b0
        try clear c28
        try clear c28b0
        try clear c29
        try clear c29b0
        try clear hx362_0
        try clear hx362_1
        try clear hx362_2
        try clear hx362_3
        try clear hx362_4
        try clear p2
        try clear p3
        try clear p362
        try clear q3
        try clear q362
        obtain ⟨x12_3,rfl,HA,HK3,HO_3,HO_6,HB⟩ := hrel
        cases gk with
        | zero => exact absurd HA.out (by simp [laws_FnCredited.l0])
        | succ k3 =>
         have H := HA.out;clear HA;simp only [laws_FnCredited.l0] at H
         by_cases c31 : x12_3 < (t344.length : Int)
         ·rw [if_pos c31] at H;have c31b0 : decide (x12_3 < (t344.length : Int)) = true := decide_eq_true c31;clear c31
          by_cases c32 : 0 ≤ x12_3
          ·rw [if_pos c32] at H;have c32b0 : decide (0 ≤ x12_3) = true := decide_eq_true c32;clear c32;replace H := Option.bind_eq_some_iff.mp H;obtain ⟨t364,A330,H⟩ := H;replace H : (if t364 < 0 then (some false) else (if ((rd_T63 t344 x12_3).f0).toList = t345.toList then (laws_FnCredited.l0 k3 t344 t345 t346 t349 t359 x11_21 (wrap64 (x12_3 + 1))) else (if 0 ≤ t364 then (if t364 < (t349.length : Int) then (if ((rd_T63 t349 t364).f1) = ((rd_T63 t344 x12_3).f1) then (laws_FnCredited.l0 k3 t344 t345 t346 t349 t359 x11_21 (wrap64 (x12_3 + 1))) else (some false)) else (none)) else (none)))) = some r := H;have A33 := Aside0.mk A330;clear A330
           by_cases c34 : t364 < 0
           ·rw [if_pos c34] at H;have c34b0 : decide (t364 < 0) = true := decide_eq_true c34;clear c34;obtain rfl := Option.some.inj H;have p363 : 0 ≤ (x12_3 : Int) := of_decide_eq_true (by (with_reducible assumption));have q363 : x12_3 < (t344.length : Int) := of_decide_eq_true (by (with_reducible assumption));obtain ⟨ad363,A363_4,c363_4,e363,hx363_0,hx363_1,hx363_2,hx363_3,hx363_4,hl363_4,hi363_4⟩ := at_T63 (Kd.N_reads' HO_3.out).2.2 x12_3 p363 q363
            cases e363
            obtain ⟨ce363,hce363,hMe363,hcc363⟩ := Kd.N_get HO_3.out z63 x12_3 p363 (by exact q363);obtain ⟨ua363_4,uc363_4,rfl,ul363_4,ge363_4⟩ := k63_openF hMe363;have hv363_4 := hcc363 4 _ rfl;rw [add_field _ _ 4 (by omega)] at hv363_4;replace hv363_4 := Option.some.inj (hv363_4.symm.trans hx363_4)
            injection hv363_4 with hva_ hvn_ hvc_
            rw [hva_] at ge363_4;rw [hvc_] at ul363_4;have HL363_4 := Aside0.mk (show Kd.V k65 65 _ w.heap.size _ _ ((rd_T63 t344 x12_3).f4) from Kd.V_mk ul363_4 ge363_4);clear hva_ hvn_ hvc_ ge363_4 ul363_4;clear hcc363 hce363;have HR363_4 := Aside0.mk hi363_4;have HC363_4 := Aside0.mk hl363_4;clear hi363_4 hl363_4;replace p363 := eq_true p363;replace q363 := eq_true q363
            go_wp2_with ((go_at_call 43; (with_reducible refine (impl_AcctAt.calls _ _ t349 ((rd_T63 t344 x12_3).f0) t364 _ ?side1 ?side2 A33.out).mono ?_); (case side1 => repeat (exact (Kd.N_reads' HO_6.out).2.2)); (case side2 => exact (Kd.N_reads' HO_6.out).2.1); rintro e w35 ⟨rfl,hb⟩; have n0_ := Aside0.mk (Kd.N_below (by exact HO_3.out) hb); have n1_ := Aside0.mk (Kd.N_below (by exact HO_6.out) hb); have n2_ := Aside0.mk (Kd.V_below (by exact HL363_4.out) hb); have n3_ := Aside0.mk (Kd.C_below HR363_4.out hb); have n4_ := Aside0.mk (below_step HB.out hb); clear HO_3; clear HO_6; clear HL363_4; clear HR363_4; clear HB; have HO_3 := n0_; have HO_6 := n1_; have HL363_4 := n2_; have HR363_4 := n3_; have HB := n4_; clear n0_ n1_ n2_ n3_ n4_; (try clear hb); skip))
            repeat (go_quiet (fail); try go_wp2_with (fail))
            go_ret;exact ⟨by rfl,by repeat (with_reducible first | exact HB.out | apply pw_below_drewN)⟩
           ·rw [if_neg c34] at H;have c34b0 : decide (t364 < 0) = false := decide_eq_false c34;clear c34
            by_cases c36 : ((rd_T63 t344 x12_3).f0).toList = t345.toList
            ·rw [if_pos c36] at H;have c36b0 : (((rd_T63 t344 x12_3).f0).toList == t345.toList) = true := beq_iff_eq.mpr c36;have c36b1 : (((rd_T63 t344 x12_3).f0).toList != t345.toList) = false := bne_eq_false_iff_eq.mpr c36;clear c36;have H' := Aside0.mk H;clear H;have p363 : 0 ≤ (x12_3 : Int) := of_decide_eq_true (by (with_reducible assumption));have q363 : x12_3 < (t344.length : Int) := of_decide_eq_true (by (with_reducible assumption));obtain ⟨ad363,A363_4,c363_4,e363,hx363_0,hx363_1,hx363_2,hx363_3,hx363_4,hl363_4,hi363_4⟩ := at_T63 (Kd.N_reads' HO_3.out).2.2 x12_3 p363 q363
             cases e363
             obtain ⟨ce363,hce363,hMe363,hcc363⟩ := Kd.N_get HO_3.out z63 x12_3 p363 (by exact q363);obtain ⟨ua363_4,uc363_4,rfl,ul363_4,ge363_4⟩ := k63_openF hMe363;have hv363_4 := hcc363 4 _ rfl;rw [add_field _ _ 4 (by omega)] at hv363_4;replace hv363_4 := Option.some.inj (hv363_4.symm.trans hx363_4)
             injection hv363_4 with hva_ hvn_ hvc_
             rw [hva_] at ge363_4;rw [hvc_] at ul363_4;have HL363_4 := Aside0.mk (show Kd.V k65 65 _ w.heap.size _ _ ((rd_T63 t344 x12_3).f4) from Kd.V_mk ul363_4 ge363_4);clear hva_ hvn_ hvc_ ge363_4 ul363_4;clear hcc363 hce363;have HR363_4 := Aside0.mk hi363_4;have HC363_4 := Aside0.mk hl363_4;clear hi363_4 hl363_4;replace p363 := eq_true p363;replace q363 := eq_true q363
             go_wp2_with ((go_at_call 43; (with_reducible refine (impl_AcctAt.calls _ _ t349 ((rd_T63 t344 x12_3).f0) t364 _ ?side1 ?side2 A33.out).mono ?_); (case side1 => repeat (exact (Kd.N_reads' HO_6.out).2.2)); (case side2 => exact (Kd.N_reads' HO_6.out).2.1); rintro e w37 ⟨rfl,hb⟩; have n0_ := Aside0.mk (Kd.N_below (by exact HO_3.out) hb); have n1_ := Aside0.mk (Kd.N_below (by exact HO_6.out) hb); have n2_ := Aside0.mk (Kd.V_below (by exact HL363_4.out) hb); have n3_ := Aside0.mk (Kd.C_below HR363_4.out hb); have n4_ := Aside0.mk (below_step HB.out hb); clear HO_3; clear HO_6; clear HL363_4; clear HR363_4; clear HB; have HO_3 := n0_; have HO_6 := n1_; have HL363_4 := n2_; have HR363_4 := n3_; have HB := n4_; clear n0_ n1_ n2_ n3_ n4_; (try clear hb); have p365 : 0 ≤ (x12_3 : Int) := of_decide_eq_true (by (with_reducible assumption)); have q365 : x12_3 < (t344.length : Int) := of_decide_eq_true (by (with_reducible assumption)); obtain ⟨ad365,A365_4,c365_4,e365,hx365_0,hx365_1,hx365_2,hx365_3,hx365_4,hl365_4,hi365_4⟩ := at_T63 (Kd.N_reads' HO_3.out).2.2 x12_3 p365 q365; obtain rfl : ad363 = ad365 := (by injection e365); obtain ⟨ce365,hce365,hMe365,hcc365⟩ := Kd.N_get HO_3.out z63 x12_3 p365 (by exact q365); obtain ⟨ua365_4,uc365_4,rfl,ul365_4,ge365_4⟩ := k63_openF hMe365; have hv365_4 := hcc365 4 _ rfl; rw [add_field _ _ 4 (by omega)] at hv365_4; replace hv365_4 := Option.some.inj (hv365_4.symm.trans hx365_4); injection hv365_4 with hva_ hvn_ hvc_; rw [hva_] at ge365_4; rw [hvc_] at ul365_4; have HL365_4 := Aside0.mk (show Kd.V k65 65 _ w.heap.size _ _ ((rd_T63 t344 x12_3).f4) from Kd.V_mk ul365_4 ge365_4); clear hva_ hvn_ hvc_ ge365_4 ul365_4; clear hcc365 hce365; have HR365_4 := Aside0.mk hi365_4; have HC365_4 := Aside0.mk hl365_4; clear hi365_4 hl365_4; replace p365 := eq_true p365; replace q365 := eq_true q365))
             repeat (go_quiet (fail); try go_wp2_with (fail))
             go_roundg k3
             case measure => have := HJ6.out; have := HJ21.out; have := HK3.out; omega
             case rel => exact ⟨(wrap64 (x12_3 + 1)),(by rfl),H',⟨by have := HJ6.out; have := HJ21.out; have := HK3.out; omega⟩,⟨by (with_reducible repeat (apply Kd.N_drewN)); exact HO_3.out⟩,⟨by (with_reducible repeat (apply Kd.N_drewN)); exact HO_6.out⟩,⟨by repeat (with_reducible first | exact HB.out | apply pw_below_drewN)⟩⟩
            ·rw [if_neg c36] at H;have c36b0 : (((rd_T63 t344 x12_3).f0).toList == t345.toList) = false := beq_eq_false_iff_ne.mpr c36;have c36b1 : (((rd_T63 t344 x12_3).f0).toList != t345.toList) = true := bne_iff_ne.mpr c36
             by_cases c38 : 0 ≤ t364
             ·rw [if_pos c38] at H;have c38b0 : decide (0 ≤ t364) = true := decide_eq_true c38;clear c38
              by_cases c39 : t364 < (t349.length : Int)
              ·rw [if_pos c39] at H;have c39b0 : decide (t364 < (t349.length : Int)) = true := decide_eq_true c39;clear c39
               by_cases c40 : ((rd_T63 t349 t364).f1) = ((rd_T63 t344 x12_3).f1)
               ·rw [if_pos c40] at H;have c40b0 : (((rd_T63 t349 t364).f1) == ((rd_T63 t344 x12_3).f1)) = true := beq_iff_eq.mpr c40;have c40b1 : (((rd_T63 t349 t364).f1) != ((rd_T63 t344 x12_3).f1)) = false := bne_eq_false_iff_eq.mpr c40;clear c40;have H' := Aside0.mk H;clear H;have p363 : 0 ≤ (x12_3 : Int) := of_decide_eq_true (by (with_reducible assumption));have q363 : x12_3 < (t344.length : Int) := of_decide_eq_true (by (with_reducible assumption));obtain ⟨ad363,A363_4,c363_4,e363,hx363_0,hx363_1,hx363_2,hx363_3,hx363_4,hl363_4,hi363_4⟩ := at_T63 (Kd.N_reads' HO_3.out).2.2 x12_3 p363 q363
                cases e363
                obtain ⟨ce363,hce363,hMe363,hcc363⟩ := Kd.N_get HO_3.out z63 x12_3 p363 (by exact q363);obtain ⟨ua363_4,uc363_4,rfl,ul363_4,ge363_4⟩ := k63_openF hMe363;have hv363_4 := hcc363 4 _ rfl;rw [add_field _ _ 4 (by omega)] at hv363_4;replace hv363_4 := Option.some.inj (hv363_4.symm.trans hx363_4)
                injection hv363_4 with hva_ hvn_ hvc_
                rw [hva_] at ge363_4;rw [hvc_] at ul363_4;have HL363_4 := Aside0.mk (show Kd.V k65 65 _ w.heap.size _ _ ((rd_T63 t344 x12_3).f4) from Kd.V_mk ul363_4 ge363_4);clear hva_ hvn_ hvc_ ge363_4 ul363_4;clear hcc363 hce363;have HR363_4 := Aside0.mk hi363_4;have HC363_4 := Aside0.mk hl363_4;clear hi363_4 hl363_4;replace p363 := eq_true p363;replace q363 := eq_true q363
                go_wp2_with ((go_at_call 43; (with_reducible refine (impl_AcctAt.calls _ _ t349 ((rd_T63 t344 x12_3).f0) t364 _ ?side1 ?side2 A33.out).mono ?_); (case side1 => repeat (exact (Kd.N_reads' HO_6.out).2.2)); (case side2 => exact (Kd.N_reads' HO_6.out).2.1); rintro e w41 ⟨rfl,hb⟩; have n0_ := Aside0.mk (Kd.N_below (by exact HO_3.out) hb); have n1_ := Aside0.mk (Kd.N_below (by exact HO_6.out) hb); have n2_ := Aside0.mk (Kd.V_below (by exact HL363_4.out) hb); have n3_ := Aside0.mk (Kd.C_below HR363_4.out hb); have n4_ := Aside0.mk (below_step HB.out hb); clear HO_3; clear HO_6; clear HL363_4; clear HR363_4; clear HB; have HO_3 := n0_; have HO_6 := n1_; have HL363_4 := n2_; have HR363_4 := n3_; have HB := n4_; clear n0_ n1_ n2_ n3_ n4_; (try clear hb); have p365 : 0 ≤ (x12_3 : Int) := of_decide_eq_true (by (with_reducible assumption)); have q365 : x12_3 < (t344.length : Int) := of_decide_eq_true (by (with_reducible assumption)); obtain ⟨ad365,A365_4,c365_4,e365,hx365_0,hx365_1,hx365_2,hx365_3,hx365_4,hl365_4,hi365_4⟩ := at_T63 (Kd.N_reads' HO_3.out).2.2 x12_3 p365 q365; obtain rfl : ad363 = ad365 := (by injection e365); obtain ⟨ce365,hce365,hMe365,hcc365⟩ := Kd.N_get HO_3.out z63 x12_3 p365 (by exact q365); obtain ⟨ua365_4,uc365_4,rfl,ul365_4,ge365_4⟩ := k63_openF hMe365; have hv365_4 := hcc365 4 _ rfl; rw [add_field _ _ 4 (by omega)] at hv365_4; replace hv365_4 := Option.some.inj (hv365_4.symm.trans hx365_4); injection hv365_4 with hva_ hvn_ hvc_; rw [hva_] at ge365_4; rw [hvc_] at ul365_4; have HL365_4 := Aside0.mk (show Kd.V k65 65 _ w.heap.size _ _ ((rd_T63 t344 x12_3).f4) from Kd.V_mk ul365_4 ge365_4); clear hva_ hvn_ hvc_ ge365_4 ul365_4; clear hcc365 hce365; have HR365_4 := Aside0.mk hi365_4; have HC365_4 := Aside0.mk hl365_4; clear hi365_4 hl365_4; replace p365 := eq_true p365; replace q365 := eq_true q365; have p366 : 0 ≤ (t364 : Int) := of_decide_eq_true (by (with_reducible assumption)); have q366 : t364 < (t349.length : Int) := of_decide_eq_true (by (with_reducible assumption)); obtain ⟨ad366,A366_4,c366_4,e366,hx366_0,hx366_1,hx366_2,hx366_3,hx366_4,hl366_4,hi366_4⟩ := at_T63 (Kd.N_reads' HO_6.out).2.2 t364 p366 q366; cases e366; obtain ⟨ce366,hce366,hMe366,hcc366⟩ := Kd.N_get HO_6.out z63 t364 p366 (by exact q366); obtain ⟨ua366_4,uc366_4,rfl,ul366_4,ge366_4⟩ := k63_openF hMe366; have hv366_4 := hcc366 4 _ rfl; rw [add_field _ _ 4 (by omega)] at hv366_4; replace hv366_4 := Option.some.inj (hv366_4.symm.trans hx366_4); injection hv366_4 with hva_ hvn_ hvc_; rw [hva_] at ge366_4; rw [hvc_] at ul366_4; have HL366_4 := Aside0.mk (show Kd.V k65 65 _ w.heap.size _ _ ((rd_T63 t349 t364).f4) from Kd.V_mk ul366_4 ge366_4); clear hva_ hvn_ hvc_ ge366_4 ul366_4; clear hcc366 hce366; have HR366_4 := Aside0.mk hi366_4; have HC366_4 := Aside0.mk hl366_4; clear hi366_4 hl366_4; replace p366 := eq_true p366; replace q366 := eq_true q366; have p367 : 0 ≤ (x12_3 : Int) := of_decide_eq_true (by (with_reducible assumption)); have q367 : x12_3 < (t344.length : Int) := of_decide_eq_true (by (with_reducible assumption)); obtain ⟨ad367,A367_4,c367_4,e367,hx367_0,hx367_1,hx367_2,hx367_3,hx367_4,hl367_4,hi367_4⟩ := at_T63 (Kd.N_reads' HO_3.out).2.2 x12_3 p367 q367; obtain rfl : ad363 = ad367 := (by injection e367); obtain ⟨ce367,hce367,hMe367,hcc367⟩ := Kd.N_get HO_3.out z63 x12_3 p367 (by exact q367); obtain ⟨ua367_4,uc367_4,rfl,ul367_4,ge367_4⟩ := k63_openF hMe367; have hv367_4 := hcc367 4 _ rfl; rw [add_field _ _ 4 (by omega)] at hv367_4; replace hv367_4 := Option.some.inj (hv367_4.symm.trans hx367_4); injection hv367_4 with hva_ hvn_ hvc_; rw [hva_] at ge367_4; rw [hvc_] at ul367_4; have HL367_4 := Aside0.mk (show Kd.V k65 65 _ w.heap.size _ _ ((rd_T63 t344 x12_3).f4) from Kd.V_mk ul367_4 ge367_4); clear hva_ hvn_ hvc_ ge367_4 ul367_4; clear hcc367 hce367; have HR367_4 := Aside0.mk hi367_4; have HC367_4 := Aside0.mk hl367_4; clear hi367_4 hl367_4; replace p367 := eq_true p367; replace q367 := eq_true q367; have ea_ := Option.some.inj (hx365_4.symm.trans hx367_4); injection ea_ with ea_ en_ ec_; subst ea_; subst ec_; clear en_))
                repeat (go_quiet (fail); try go_wp2_with (fail))
                go_roundg k3
                case measure => have := HJ6.out; have := HJ21.out; have := HK3.out; omega
                case rel => exact ⟨(wrap64 (x12_3 + 1)),(by rfl),H',⟨by have := HJ6.out; have := HJ21.out; have := HK3.out; omega⟩,⟨by (with_reducible repeat (apply Kd.N_drewN)); exact HO_3.out⟩,⟨by (with_reducible repeat (apply Kd.N_drewN)); exact HO_6.out⟩,⟨by repeat (with_reducible first | exact HB.out | apply pw_below_drewN)⟩⟩
               ·rw [if_neg c40] at H;have c40b0 : (((rd_T63 t349 t364).f1) == ((rd_T63 t344 x12_3).f1)) = false := beq_eq_false_iff_ne.mpr c40;have c40b1 : (((rd_T63 t349 t364).f1) != ((rd_T63 t344 x12_3).f1)) = true := bne_iff_ne.mpr c40;obtain rfl := Option.some.inj H;have p363 : 0 ≤ (x12_3 : Int) := of_decide_eq_true (by (with_reducible assumption));have q363 : x12_3 < (t344.length : Int) := of_decide_eq_true (by (with_reducible assumption));obtain ⟨ad363,A363_4,c363_4,e363,hx363_0,hx363_1,hx363_2,hx363_3,hx363_4,hl363_4,hi363_4⟩ := at_T63 (Kd.N_reads' HO_3.out).2.2 x12_3 p363 q363
                cases e363
                obtain ⟨ce363,hce363,hMe363,hcc363⟩ := Kd.N_get HO_3.out z63 x12_3 p363 (by exact q363);obtain ⟨ua363_4,uc363_4,rfl,ul363_4,ge363_4⟩ := k63_openF hMe363;have hv363_4 := hcc363 4 _ rfl;rw [add_field _ _ 4 (by omega)] at hv363_4;replace hv363_4 := Option.some.inj (hv363_4.symm.trans hx363_4)
                injection hv363_4 with hva_ hvn_ hvc_
                rw [hva_] at ge363_4;rw [hvc_] at ul363_4;have HL363_4 := Aside0.mk (show Kd.V k65 65 _ w.heap.size _ _ ((rd_T63 t344 x12_3).f4) from Kd.V_mk ul363_4 ge363_4);clear hva_ hvn_ hvc_ ge363_4 ul363_4;clear hcc363 hce363;have HR363_4 := Aside0.mk hi363_4;have HC363_4 := Aside0.mk hl363_4;clear hi363_4 hl363_4;replace p363 := eq_true p363;replace q363 := eq_true q363
                go_wp2_with ((go_at_call 43; (with_reducible refine (impl_AcctAt.calls _ _ t349 ((rd_T63 t344 x12_3).f0) t364 _ ?side1 ?side2 A33.out).mono ?_); (case side1 => repeat (exact (Kd.N_reads' HO_6.out).2.2)); (case side2 => exact (Kd.N_reads' HO_6.out).2.1); rintro e w42 ⟨rfl,hb⟩; have n0_ := Aside0.mk (Kd.N_below (by exact HO_3.out) hb); have n1_ := Aside0.mk (Kd.N_below (by exact HO_6.out) hb); have n2_ := Aside0.mk (Kd.V_below (by exact HL363_4.out) hb); have n3_ := Aside0.mk (Kd.C_below HR363_4.out hb); have n4_ := Aside0.mk (below_step HB.out hb); clear HO_3; clear HO_6; clear HL363_4; clear HR363_4; clear HB; have HO_3 := n0_; have HO_6 := n1_; have HL363_4 := n2_; have HR363_4 := n3_; have HB := n4_; clear n0_ n1_ n2_ n3_ n4_; (try clear hb); have p365 : 0 ≤ (x12_3 : Int) := of_decide_eq_true (by (with_reducible assumption)); have q365 : x12_3 < (t344.length : Int) := of_decide_eq_true (by (with_reducible assumption)); obtain ⟨ad365,A365_4,c365_4,e365,hx365_0,hx365_1,hx365_2,hx365_3,hx365_4,hl365_4,hi365_4⟩ := at_T63 (Kd.N_reads' HO_3.out).2.2 x12_3 p365 q365; obtain rfl : ad363 = ad365 := (by injection e365); obtain ⟨ce365,hce365,hMe365,hcc365⟩ := Kd.N_get HO_3.out z63 x12_3 p365 (by exact q365); obtain ⟨ua365_4,uc365_4,rfl,ul365_4,ge365_4⟩ := k63_openF hMe365; have hv365_4 := hcc365 4 _ rfl; rw [add_field _ _ 4 (by omega)] at hv365_4; replace hv365_4 := Option.some.inj (hv365_4.symm.trans hx365_4); injection hv365_4 with hva_ hvn_ hvc_; rw [hva_] at ge365_4; rw [hvc_] at ul365_4; have HL365_4 := Aside0.mk (show Kd.V k65 65 _ w.heap.size _ _ ((rd_T63 t344 x12_3).f4) from Kd.V_mk ul365_4 ge365_4); clear hva_ hvn_ hvc_ ge365_4 ul365_4; clear hcc365 hce365; have HR365_4 := Aside0.mk hi365_4; have HC365_4 := Aside0.mk hl365_4; clear hi365_4 hl365_4; replace p365 := eq_true p365; replace q365 := eq_true q365; have p366 : 0 ≤ (t364 : Int) := of_decide_eq_true (by (with_reducible assumption)); have q366 : t364 < (t349.length : Int) := of_decide_eq_true (by (with_reducible assumption)); obtain ⟨ad366,A366_4,c366_4,e366,hx366_0,hx366_1,hx366_2,hx366_3,hx366_4,hl366_4,hi366_4⟩ := at_T63 (Kd.N_reads' HO_6.out).2.2 t364 p366 q366; cases e366; obtain ⟨ce366,hce366,hMe366,hcc366⟩ := Kd.N_get HO_6.out z63 t364 p366 (by exact q366); obtain ⟨ua366_4,uc366_4,rfl,ul366_4,ge366_4⟩ := k63_openF hMe366; have hv366_4 := hcc366 4 _ rfl; rw [add_field _ _ 4 (by omega)] at hv366_4; replace hv366_4 := Option.some.inj (hv366_4.symm.trans hx366_4); injection hv366_4 with hva_ hvn_ hvc_; rw [hva_] at ge366_4; rw [hvc_] at ul366_4; have HL366_4 := Aside0.mk (show Kd.V k65 65 _ w.heap.size _ _ ((rd_T63 t349 t364).f4) from Kd.V_mk ul366_4 ge366_4); clear hva_ hvn_ hvc_ ge366_4 ul366_4; clear hcc366 hce366; have HR366_4 := Aside0.mk hi366_4; have HC366_4 := Aside0.mk hl366_4; clear hi366_4 hl366_4; replace p366 := eq_true p366; replace q366 := eq_true q366; have p367 : 0 ≤ (x12_3 : Int) := of_decide_eq_true (by (with_reducible assumption)); have q367 : x12_3 < (t344.length : Int) := of_decide_eq_true (by (with_reducible assumption)); obtain ⟨ad367,A367_4,c367_4,e367,hx367_0,hx367_1,hx367_2,hx367_3,hx367_4,hl367_4,hi367_4⟩ := at_T63 (Kd.N_reads' HO_3.out).2.2 x12_3 p367 q367; obtain rfl : ad363 = ad367 := (by injection e367); obtain ⟨ce367,hce367,hMe367,hcc367⟩ := Kd.N_get HO_3.out z63 x12_3 p367 (by exact q367); obtain ⟨ua367_4,uc367_4,rfl,ul367_4,ge367_4⟩ := k63_openF hMe367; have hv367_4 := hcc367 4 _ rfl; rw [add_field _ _ 4 (by omega)] at hv367_4; replace hv367_4 := Option.some.inj (hv367_4.symm.trans hx367_4); injection hv367_4 with hva_ hvn_ hvc_; rw [hva_] at ge367_4; rw [hvc_] at ul367_4; have HL367_4 := Aside0.mk (show Kd.V k65 65 _ w.heap.size _ _ ((rd_T63 t344 x12_3).f4) from Kd.V_mk ul367_4 ge367_4); clear hva_ hvn_ hvc_ ge367_4 ul367_4; clear hcc367 hce367; have HR367_4 := Aside0.mk hi367_4; have HC367_4 := Aside0.mk hl367_4; clear hi367_4 hl367_4; replace p367 := eq_true p367; replace q367 := eq_true q367; have ea_ := Option.some.inj (hx365_4.symm.trans hx367_4); injection ea_ with ea_ en_ ec_; subst ea_; subst ec_; clear en_))
                repeat (go_quiet (fail); try go_wp2_with (fail))
                go_ret;exact ⟨by rfl,by repeat (with_reducible first | exact HB.out | apply pw_below_drewN)⟩
              ·rw [if_neg c39] at H;exact absurd H (by simp)
             ·rw [if_neg c38] at H;exact absurd H (by simp)
          ·rw [if_neg c32] at H;exact absurd H (by simp)
         ·rw [if_neg c31] at H;have c31b0 : decide (x12_3 < (t344.length : Int)) = false := decide_eq_false c31;clear c31
          by_cases c43 : t359 ≥ 0
          ·rw [if_pos c43] at H;have c43b0 : decide (0 ≤ t359) = true := decide_eq_true c43;clear c43
           by_cases c44 : 0 ≤ t359
           ·rw [if_pos c44] at H;have c44b0 : decide (0 ≤ t359) = true := decide_eq_true c44;clear c44
            by_cases c45 : t359 < (t349.length : Int)
            ·rw [if_pos c45] at H;have c45b0 : decide (t359 < (t349.length : Int)) = true := decide_eq_true c45;clear c45
             by_cases c46 : ((rd_T63 t349 t359).f1) = (wrap64 (x11_21 + t346))
             ·rw [if_pos c46] at H;have c46b0 : (((rd_T63 t349 t359).f1) == (wrap64 (x11_21 + t346))) = true := beq_iff_eq.mpr c46;have c46b1 : (((rd_T63 t349 t359).f1) != (wrap64 (x11_21 + t346))) = false := bne_eq_false_iff_eq.mpr c46;clear c46;replace H := Option.bind_eq_some_iff.mp H;obtain ⟨t369,A470,H⟩ := H;replace H : ((impl_Wealth.f k3 t344).bind fun t370 => (if t369 = (wrap64 (t370 + t346)) then ((impl_AcctsOk.f k3 t349).bind fun t371 => (if t371 = true then ((impl_AcctOk.f k3 ((rd_T63 t349 t359).f0) ((rd_T63 t349 t359).f1) ((rd_T63 t349 t359).f2) ((rd_T63 t349 t359).f3) ((rd_T63 t349 t359).f4)).bind fun t373 => (some t373)) else (some false))) else (some false))) = some r := H;have A47 := Aside0.mk A470;clear A470;replace H := Option.bind_eq_some_iff.mp H;obtain ⟨t370,A480,H⟩ := H;replace H : (if t369 = (wrap64 (t370 + t346)) then ((impl_AcctsOk.f k3 t349).bind fun t371 => (if t371 = true then ((impl_AcctOk.f k3 ((rd_T63 t349 t359).f0) ((rd_T63 t349 t359).f1) ((rd_T63 t349 t359).f2) ((rd_T63 t349 t359).f3) ((rd_T63 t349 t359).f4)).bind fun t373 => (some t373)) else (some false))) else (some false)) = some r := H;have A48 := Aside0.mk A480;clear A480
              by_cases c49 : t369 = (wrap64 (t370 + t346))
              ·rw [if_pos c49] at H;have c49b0 : (t369 == (wrap64 (t370 + t346))) = true := beq_iff_eq.mpr c49;have c49b1 : (t369 != (wrap64 (t370 + t346))) = false := bne_eq_false_iff_eq.mpr c49;clear c49;replace H := Option.bind_eq_some_iff.mp H;obtain ⟨t371,A500,H⟩ := H;replace H : (if t371 = true then ((impl_AcctOk.f k3 ((rd_T63 t349 t359).f0) ((rd_T63 t349 t359).f1) ((rd_T63 t349 t359).f2) ((rd_T63 t349 t359).f3) ((rd_T63 t349 t359).f4)).bind fun t373 => (some t373)) else (some false)) = some r := H;have A50 := Aside0.mk A500;clear A500
               by_cases c51 : t371 = true
               ·subst c51
                have H1 : ((impl_AcctOk.f k3 ((rd_T63 t349 t359).f0) ((rd_T63 t349 t359).f1) ((rd_T63 t349 t359).f2) ((rd_T63 t349 t359).f3) ((rd_T63 t349 t359).f4)).bind fun t373 => (some t373)) = some r := by rw [if_pos rfl] at H; exact H
                clear H;have H := H1;clear H1;replace H := Option.bind_eq_some_iff.mp H;obtain ⟨t373,A520,H⟩ := H;replace H : (some t373) = some r := H;have A52 := Aside0.mk A520;clear A520;obtain rfl := Option.some.inj H;have p368 : 0 ≤ (t359 : Int) := of_decide_eq_true (by (with_reducible assumption));have q368 : t359 < (t349.length : Int) := of_decide_eq_true (by (with_reducible assumption));obtain ⟨ad368,A368_4,c368_4,e368,hx368_0,hx368_1,hx368_2,hx368_3,hx368_4,hl368_4,hi368_4⟩ := at_T63 (Kd.N_reads' HO_6.out).2.2 t359 p368 q368
                cases e368
                obtain ⟨ce368,hce368,hMe368,hcc368⟩ := Kd.N_get HO_6.out z63 t359 p368 (by exact q368);obtain ⟨ua368_4,uc368_4,rfl,ul368_4,ge368_4⟩ := k63_openF hMe368;have hv368_4 := hcc368 4 _ rfl;rw [add_field _ _ 4 (by omega)] at hv368_4;replace hv368_4 := Option.some.inj (hv368_4.symm.trans hx368_4)
                injection hv368_4 with hva_ hvn_ hvc_
                rw [hva_] at ge368_4;rw [hvc_] at ul368_4;have HL368_4 := Aside0.mk (show Kd.V k65 65 _ w.heap.size _ _ ((rd_T63 t349 t359).f4) from Kd.V_mk ul368_4 ge368_4);clear hva_ hvn_ hvc_ ge368_4 ul368_4;clear hcc368 hce368;have HR368_4 := Aside0.mk hi368_4;have HC368_4 := Aside0.mk hl368_4;clear hi368_4 hl368_4;replace p368 := eq_true p368;replace q368 := eq_true q368
                go_wp2_with (first | (go_at_call 26; (with_reducible refine (impl_Wealth.calls k3 _ _ t349 t369 _ ?side1 ?side2 A47.out).mono ?_); (case side1 => repeat (exact (Kd.N_reads' HO_6.out).2.2)); (case side2 => exact (Kd.N_reads' HO_6.out).2.1); rintro e w53 ⟨rfl,hb⟩; have n0_ := Aside0.mk (Kd.N_below (by exact HO_3.out) hb); have n1_ := Aside0.mk (Kd.N_below (by exact HO_6.out) hb); have n2_ := Aside0.mk (Kd.V_below (by exact HL368_4.out) hb); have n3_ := Aside0.mk (Kd.C_below HR368_4.out hb); have n4_ := Aside0.mk (below_step HB.out hb); clear HO_3; clear HO_6; clear HL368_4; clear HR368_4; clear HB; have HO_3 := n0_; have HO_6 := n1_; have HL368_4 := n2_; have HR368_4 := n3_; have HB := n4_; clear n0_ n1_ n2_ n3_ n4_; (try clear hb); skip) | (go_at_call 26; (with_reducible refine (impl_Wealth.calls k3 _ _ t344 t370 _ ?side1 ?side2 A48.out).mono ?_); (case side1 => repeat (exact (Kd.N_reads' HO_3.out).2.2)); (case side2 => exact (Kd.N_reads' HO_3.out).2.1); rintro e w54 ⟨rfl,hb⟩; have n0_ := Aside0.mk (Kd.N_below (by exact HO_3.out) hb); have n1_ := Aside0.mk (Kd.N_below (by exact HO_6.out) hb); have n2_ := Aside0.mk (Kd.V_below (by exact HL368_4.out) hb); have n3_ := Aside0.mk (Kd.C_below HR368_4.out hb); have n4_ := Aside0.mk (below_step HB.out hb); clear HO_3; clear HO_6; clear HL368_4; clear HR368_4; clear HB; have HO_3 := n0_; have HO_6 := n1_; have HL368_4 := n2_; have HR368_4 := n3_; have HB := n4_; clear n0_ n1_ n2_ n3_ n4_; (try clear hb); skip) | (go_at_call 44; (with_reducible refine (impl_AcctsOk.calls k3 _ _ t349 true _ ?side1 ?side2 A50.out).mono ?_); (case side1 => repeat (exact (Kd.N_reads' HO_6.out).2.2)); (case side2 => exact (Kd.N_reads' HO_6.out).2.1); rintro e w55 ⟨rfl,hb⟩; have n0_ := Aside0.mk (Kd.N_below (by exact HO_3.out) hb); have n1_ := Aside0.mk (Kd.N_below (by exact HO_6.out) hb); have n2_ := Aside0.mk (Kd.V_below (by exact HL368_4.out) hb); have n3_ := Aside0.mk (Kd.C_below HR368_4.out hb); have n4_ := Aside0.mk (below_step HB.out hb); clear HO_3; clear HO_6; clear HL368_4; clear HR368_4; clear HB; have HO_3 := n0_; have HO_6 := n1_; have HL368_4 := n2_; have HR368_4 := n3_; have HB := n4_; clear n0_ n1_ n2_ n3_ n4_; (try clear hb); have p372 : 0 ≤ (t359 : Int) := of_decide_eq_true (by (with_reducible assumption)); have q372 : t359 < (t349.length : Int) := of_decide_eq_true (by (with_reducible assumption)); obtain ⟨ad372,A372_4,c372_4,e372,hx372_0,hx372_1,hx372_2,hx372_3,hx372_4,hl372_4,hi372_4⟩ := at_T63 (Kd.N_reads' HO_6.out).2.2 t359 p372 q372; obtain rfl : ad368 = ad372 := (by injection e372); obtain ⟨ce372,hce372,hMe372,hcc372⟩ := Kd.N_get HO_6.out z63 t359 p372 (by exact q372); obtain ⟨ua372_4,uc372_4,rfl,ul372_4,ge372_4⟩ := k63_openF hMe372; have hv372_4 := hcc372 4 _ rfl; rw [add_field _ _ 4 (by omega)] at hv372_4; replace hv372_4 := Option.some.inj (hv372_4.symm.trans hx372_4); injection hv372_4 with hva_ hvn_ hvc_; rw [hva_] at ge372_4; rw [hvc_] at ul372_4; have HL372_4 := Aside0.mk (show Kd.V k65 65 _ w.heap.size _ _ ((rd_T63 t349 t359).f4) from Kd.V_mk ul372_4 ge372_4); clear hva_ hvn_ hvc_ ge372_4 ul372_4; clear hcc372 hce372; have HR372_4 := Aside0.mk hi372_4; have HC372_4 := Aside0.mk hl372_4; clear hi372_4 hl372_4; replace p372 := eq_true p372; replace q372 := eq_true q372) | (go_at_call 45; (with_reducible refine (impl_AcctOk.calls k3 ((rd_T63 t349 t359).f0) ((rd_T63 t349 t359).f1) ((rd_T63 t349 t359).f2) ((rd_T63 t349 t359).f3) _ _ ((rd_T63 t349 t359).f4) t373 _ ?side1 ?side2 A52.out).mono ?_); (case side1 => repeat (exact HR372_4.out)); (case side2 => exact HC372_4.out); rintro e w56 ⟨rfl,hb⟩; have n0_ := Aside0.mk (Kd.N_below (by exact HO_3.out) hb); have n1_ := Aside0.mk (Kd.N_below (by exact HO_6.out) hb); have n2_ := Aside0.mk (Kd.V_below (by exact HL368_4.out) hb); have n3_ := Aside0.mk (Kd.V_below (by exact HL372_4.out) hb); have n4_ := Aside0.mk (Kd.C_below HR368_4.out hb); have n5_ := Aside0.mk (Kd.C_below HR372_4.out hb); have n6_ := Aside0.mk (below_step HB.out hb); clear HO_3; clear HO_6; clear HL368_4; clear HL372_4; clear HR368_4; clear HR372_4; clear HB; have HO_3 := n0_; have HO_6 := n1_; have HL368_4 := n2_; have HL372_4 := n3_; have HR368_4 := n4_; have HR372_4 := n5_; have HB := n6_; clear n0_ n1_ n2_ n3_ n4_ n5_ n6_; (try clear hb); skip))
                repeat (go_quiet (fail); try go_wp2_with (fail))
                go_ret;exact ⟨by rfl,HB.out⟩
               ·replace c51 := Bool.eq_false_iff.mpr c51;subst c51
                have H1 : (some false) = some r := by rw [if_neg (show ¬ (false = true) by decide)] at H; exact H
                clear H;have H := H1;clear H1;obtain rfl := Option.some.inj H;have p368 : 0 ≤ (t359 : Int) := of_decide_eq_true (by (with_reducible assumption));have q368 : t359 < (t349.length : Int) := of_decide_eq_true (by (with_reducible assumption));obtain ⟨ad368,A368_4,c368_4,e368,hx368_0,hx368_1,hx368_2,hx368_3,hx368_4,hl368_4,hi368_4⟩ := at_T63 (Kd.N_reads' HO_6.out).2.2 t359 p368 q368
                cases e368
                obtain ⟨ce368,hce368,hMe368,hcc368⟩ := Kd.N_get HO_6.out z63 t359 p368 (by exact q368);obtain ⟨ua368_4,uc368_4,rfl,ul368_4,ge368_4⟩ := k63_openF hMe368;have hv368_4 := hcc368 4 _ rfl;rw [add_field _ _ 4 (by omega)] at hv368_4;replace hv368_4 := Option.some.inj (hv368_4.symm.trans hx368_4)
                injection hv368_4 with hva_ hvn_ hvc_
                rw [hva_] at ge368_4;rw [hvc_] at ul368_4;have HL368_4 := Aside0.mk (show Kd.V k65 65 _ w.heap.size _ _ ((rd_T63 t349 t359).f4) from Kd.V_mk ul368_4 ge368_4);clear hva_ hvn_ hvc_ ge368_4 ul368_4;clear hcc368 hce368;have HR368_4 := Aside0.mk hi368_4;have HC368_4 := Aside0.mk hl368_4;clear hi368_4 hl368_4;replace p368 := eq_true p368;replace q368 := eq_true q368
                go_wp2_with (first | (go_at_call 26; (with_reducible refine (impl_Wealth.calls k3 _ _ t349 t369 _ ?side1 ?side2 A47.out).mono ?_); (case side1 => repeat (exact (Kd.N_reads' HO_6.out).2.2)); (case side2 => exact (Kd.N_reads' HO_6.out).2.1); rintro e w57 ⟨rfl,hb⟩; have n0_ := Aside0.mk (Kd.N_below (by exact HO_3.out) hb); have n1_ := Aside0.mk (Kd.N_below (by exact HO_6.out) hb); have n2_ := Aside0.mk (Kd.V_below (by exact HL368_4.out) hb); have n3_ := Aside0.mk (Kd.C_below HR368_4.out hb); have n4_ := Aside0.mk (below_step HB.out hb); clear HO_3; clear HO_6; clear HL368_4; clear HR368_4; clear HB; have HO_3 := n0_; have HO_6 := n1_; have HL368_4 := n2_; have HR368_4 := n3_; have HB := n4_; clear n0_ n1_ n2_ n3_ n4_; (try clear hb); skip) | (go_at_call 26; (with_reducible refine (impl_Wealth.calls k3 _ _ t344 t370 _ ?side1 ?side2 A48.out).mono ?_); (case side1 => repeat (exact (Kd.N_reads' HO_3.out).2.2)); (case side2 => exact (Kd.N_reads' HO_3.out).2.1); rintro e w58 ⟨rfl,hb⟩; have n0_ := Aside0.mk (Kd.N_below (by exact HO_3.out) hb); have n1_ := Aside0.mk (Kd.N_below (by exact HO_6.out) hb); have n2_ := Aside0.mk (Kd.V_below (by exact HL368_4.out) hb); have n3_ := Aside0.mk (Kd.C_below HR368_4.out hb); have n4_ := Aside0.mk (below_step HB.out hb); clear HO_3; clear HO_6; clear HL368_4; clear HR368_4; clear HB; have HO_3 := n0_; have HO_6 := n1_; have HL368_4 := n2_; have HR368_4 := n3_; have HB := n4_; clear n0_ n1_ n2_ n3_ n4_; (try clear hb); skip) | (go_at_call 44; (with_reducible refine (impl_AcctsOk.calls k3 _ _ t349 false _ ?side1 ?side2 A50.out).mono ?_); (case side1 => repeat (exact (Kd.N_reads' HO_6.out).2.2)); (case side2 => exact (Kd.N_reads' HO_6.out).2.1); rintro e w59 ⟨rfl,hb⟩; have n0_ := Aside0.mk (Kd.N_below (by exact HO_3.out) hb); have n1_ := Aside0.mk (Kd.N_below (by exact HO_6.out) hb); have n2_ := Aside0.mk (Kd.V_below (by exact HL368_4.out) hb); have n3_ := Aside0.mk (Kd.C_below HR368_4.out hb); have n4_ := Aside0.mk (below_step HB.out hb); clear HO_3; clear HO_6; clear HL368_4; clear HR368_4; clear HB; have HO_3 := n0_; have HO_6 := n1_; have HL368_4 := n2_; have HR368_4 := n3_; have HB := n4_; clear n0_ n1_ n2_ n3_ n4_; (try clear hb); skip))
                repeat (go_quiet (fail); try go_wp2_with (fail))
                go_ret;exact ⟨by rfl,HB.out⟩
              ·rw [if_neg c49] at H;have c49b0 : (t369 == (wrap64 (t370 + t346))) = false := beq_eq_false_iff_ne.mpr c49;have c49b1 : (t369 != (wrap64 (t370 + t346))) = true := bne_iff_ne.mpr c49;obtain rfl := Option.some.inj H;have p368 : 0 ≤ (t359 : Int) := of_decide_eq_true (by (with_reducible assumption));have q368 : t359 < (t349.length : Int) := of_decide_eq_true (by (with_reducible assumption));obtain ⟨ad368,A368_4,c368_4,e368,hx368_0,hx368_1,hx368_2,hx368_3,hx368_4,hl368_4,hi368_4⟩ := at_T63 (Kd.N_reads' HO_6.out).2.2 t359 p368 q368
               cases e368
               obtain ⟨ce368,hce368,hMe368,hcc368⟩ := Kd.N_get HO_6.out z63 t359 p368 (by exact q368);obtain ⟨ua368_4,uc368_4,rfl,ul368_4,ge368_4⟩ := k63_openF hMe368;have hv368_4 := hcc368 4 _ rfl;rw [add_field _ _ 4 (by omega)] at hv368_4;replace hv368_4 := Option.some.inj (hv368_4.symm.trans hx368_4)
               injection hv368_4 with hva_ hvn_ hvc_
               rw [hva_] at ge368_4;rw [hvc_] at ul368_4;have HL368_4 := Aside0.mk (show Kd.V k65 65 _ w.heap.size _ _ ((rd_T63 t349 t359).f4) from Kd.V_mk ul368_4 ge368_4);clear hva_ hvn_ hvc_ ge368_4 ul368_4;clear hcc368 hce368;have HR368_4 := Aside0.mk hi368_4;have HC368_4 := Aside0.mk hl368_4;clear hi368_4 hl368_4;replace p368 := eq_true p368;replace q368 := eq_true q368
               go_wp2_with (first | (go_at_call 26; (with_reducible refine (impl_Wealth.calls k3 _ _ t349 t369 _ ?side1 ?side2 A47.out).mono ?_); (case side1 => repeat (exact (Kd.N_reads' HO_6.out).2.2)); (case side2 => exact (Kd.N_reads' HO_6.out).2.1); rintro e w60 ⟨rfl,hb⟩; have n0_ := Aside0.mk (Kd.N_below (by exact HO_3.out) hb); have n1_ := Aside0.mk (Kd.N_below (by exact HO_6.out) hb); have n2_ := Aside0.mk (Kd.V_below (by exact HL368_4.out) hb); have n3_ := Aside0.mk (Kd.C_below HR368_4.out hb); have n4_ := Aside0.mk (below_step HB.out hb); clear HO_3; clear HO_6; clear HL368_4; clear HR368_4; clear HB; have HO_3 := n0_; have HO_6 := n1_; have HL368_4 := n2_; have HR368_4 := n3_; have HB := n4_; clear n0_ n1_ n2_ n3_ n4_; (try clear hb); skip) | (go_at_call 26; (with_reducible refine (impl_Wealth.calls k3 _ _ t344 t370 _ ?side1 ?side2 A48.out).mono ?_); (case side1 => repeat (exact (Kd.N_reads' HO_3.out).2.2)); (case side2 => exact (Kd.N_reads' HO_3.out).2.1); rintro e w61 ⟨rfl,hb⟩; have n0_ := Aside0.mk (Kd.N_below (by exact HO_3.out) hb); have n1_ := Aside0.mk (Kd.N_below (by exact HO_6.out) hb); have n2_ := Aside0.mk (Kd.V_below (by exact HL368_4.out) hb); have n3_ := Aside0.mk (Kd.C_below HR368_4.out hb); have n4_ := Aside0.mk (below_step HB.out hb); clear HO_3; clear HO_6; clear HL368_4; clear HR368_4; clear HB; have HO_3 := n0_; have HO_6 := n1_; have HL368_4 := n2_; have HR368_4 := n3_; have HB := n4_; clear n0_ n1_ n2_ n3_ n4_; (try clear hb); skip))
               repeat (go_quiet (fail); try go_wp2_with (fail))
               go_ret;exact ⟨by rfl,HB.out⟩
             ·rw [if_neg c46] at H;have c46b0 : (((rd_T63 t349 t359).f1) == (wrap64 (x11_21 + t346))) = false := beq_eq_false_iff_ne.mpr c46;have c46b1 : (((rd_T63 t349 t359).f1) != (wrap64 (x11_21 + t346))) = true := bne_iff_ne.mpr c46;obtain rfl := Option.some.inj H;have p368 : 0 ≤ (t359 : Int) := of_decide_eq_true (by (with_reducible assumption));have q368 : t359 < (t349.length : Int) := of_decide_eq_true (by (with_reducible assumption));obtain ⟨ad368,A368_4,c368_4,e368,hx368_0,hx368_1,hx368_2,hx368_3,hx368_4,hl368_4,hi368_4⟩ := at_T63 (Kd.N_reads' HO_6.out).2.2 t359 p368 q368
              cases e368
              obtain ⟨ce368,hce368,hMe368,hcc368⟩ := Kd.N_get HO_6.out z63 t359 p368 (by exact q368);obtain ⟨ua368_4,uc368_4,rfl,ul368_4,ge368_4⟩ := k63_openF hMe368;have hv368_4 := hcc368 4 _ rfl;rw [add_field _ _ 4 (by omega)] at hv368_4;replace hv368_4 := Option.some.inj (hv368_4.symm.trans hx368_4)
              injection hv368_4 with hva_ hvn_ hvc_
              rw [hva_] at ge368_4;rw [hvc_] at ul368_4;have HL368_4 := Aside0.mk (show Kd.V k65 65 _ w.heap.size _ _ ((rd_T63 t349 t359).f4) from Kd.V_mk ul368_4 ge368_4);clear hva_ hvn_ hvc_ ge368_4 ul368_4;clear hcc368 hce368;have HR368_4 := Aside0.mk hi368_4;have HC368_4 := Aside0.mk hl368_4;clear hi368_4 hl368_4;replace p368 := eq_true p368;replace q368 := eq_true q368;go_wp2
              repeat (go_quiet (fail); try go_wp2)
              go_ret;exact ⟨by rfl,HB.out⟩
            ·rw [if_neg c45] at H;exact absurd H (by simp)
           ·rw [if_neg c44] at H;exact absurd H (by simp)
          ·rw [if_neg c43] at H;have c43b0 : decide (0 ≤ t359) = false := decide_eq_false c43;clear c43;obtain rfl := Option.some.inj H;go_wp2
           repeat (go_quiet (fail); try go_wp2)
           go_ret;exact ⟨by rfl,HB.out⟩

/-- THE ONE PURE STATEMENT of laws_FnCredited: yours. -/
def laws_FnCredited.Pure : Prop := ∀ (l0 : List Int),l0.length ≤ maxLen → l0.length * 1 ≤ 140737488351232 → (∀ x ∈ l0,(Lit.int .u8 x).wf = true) → ∃ k,laws_FnCredited.f k l0 = some true
theorem laws_FnCredited.walk (P : laws_FnCredited.Pure) (a0 : Option Addr) (len0 cap0 : Nat) (z0 : List Int) (w : World) (w0 : (a0 = none ∧ len0 = 0 ∧ cap0 = 0 ∧ z0 = []) ∨ ∃ x,a0 = some x ∧ len0 ≤ cap0 ∧ cap0 ≤ maxLen ∧ z0.length = cap0 ∧ (∀ i,i < z0.length → w.cell? (x.add i) = some (.int .u8 (z0.getD i 0))) ∧ ∀ n ∈ z0,(Lit.int .u8 n).wf = true) (y0 : len0 * 1 ≤ 140737488351232) :
  Calls Try.prog 8 #[.slice a0 len0 cap0] w fun e w' => e = .returned (.bool true) ∧ Below w.heap.size w w' := by
 obtain ⟨l0,rfl,hr0,hm0,hw0,hc0⟩ := ReadsInt.ofRowC w0;obtain ⟨k,h⟩ := P l0 hm0 y0 hw0;refine (laws_FnCredited.calls k _ _ l0 true w (Kd.C_of_reads (d := (0 : Int)) (h1 := fun _ => rfl) hr0) hc0 h).mono ?_;rintro e w' ⟨rfl,hd⟩;exact ⟨rfl,hd⟩

end Go.Proofs.Ytcbpfofkdipjhaa.PC
