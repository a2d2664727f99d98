/- The machine's side of Go functions: each as a plain function,and that the call does what it says. Written by a program (wip/mprint). -/
import Derived.Test.YtcbpfofkdipjhaaCVPVx0
import Derived.Test.YtcbpfofkdipjhaaCVPVx7
namespace Go.Proofs.Ytcbpfofkdipjhaa.PV
open Go.RowKit Go.Proofs.YtcbpfofkdipjhaaW.PrintWords Go.Proofs.YtcbpfofkdipjhaaW.PrintLast Go.Proofs.YtcbpfofkdipjhaaW.PrintMore
set_option maxHeartbeats 8000000
set_option maxRecDepth 100000
attribute [local go_sem] max2_int min2_int max_two min_two max_three min_three max_four min_four   -- for this text's walks alone
set_option linter.unusedVariables false
set_option linter.unusedSimpArgs false

/-! ### spec_AcctOk: function 123 -/
mutual
def spec_AcctOk.j0 : Nat → Bool → ByteArray → Int → Int → Int → List (S65) → Option (Bool)
 | 0,_,_,_,_,_,_ => none
 | k + 1,x32,x240000,x240001,x240002,x240003,x240004 => if x32 = true then (some false) else (spec_AcctOk.l0 k 0 x240000 x240001 x240002 x240003 x240004)
def spec_AcctOk.l0 : Nat → Int → ByteArray → Int → Int → Int → List (S65) → Option (Bool)
 | 0,_,_,_,_,_,_ => none
 | k + 1,x3,x240000,x240001,x240002,x240003,x240004 => if x3 < (x240004.length : Int) then (if 0 ≤ x3 then ((spec_l1In.f ((rd_T65 x240004 x3).f0) 1 1000000).bind fun t246 => (if t246 = true then ((spec_l1In.f ((rd_T65 x240004 x3).f1) 0 1000).bind fun t247 => (if t247 = true then (if x3 > 0 then (if 0 ≤ (wrap64 (x3 - 1)) then (if (wrap64 (x3 - 1)) < (x240004.length : Int) then (if ((rd_T65 x240004 (wrap64 (x3 - 1))).f1) ≥ ((rd_T65 x240004 x3).f1) then (some false) else (spec_AcctOk.l0 k (wrap64 (x3 + 1)) x240000 x240001 x240002 x240003 x240004)) else (none)) else (none)) else (spec_AcctOk.l0 k (wrap64 (x3 + 1)) x240000 x240001 x240002 x240003 x240004)) else (some false))) else (some false))) else (none)) else (some true)
end
def spec_AcctOk.f (k : Nat) (a0_0 : ByteArray) (a0_1 : Int) (a0_2 : Int) (a0_3 : Int) (l0_4 : List (S65)) : Option (Bool) := (spec_NameOk.f k a0_0).bind fun t240 => (if t240 = true then ((spec_l1In.f a0_1 0 1000000).bind fun t241 => (if t241 = true then ((spec_l1In.f a0_2 0 10000).bind fun t242 => (if t242 = true then ((spec_l1In.f a0_3 0 1000000).bind fun t243 => (if t243 = true then (spec_AcctOk.j0 k (decide ((l0_4.length : Int) > 4)) a0_0 a0_1 a0_2 a0_3 l0_4) else (spec_AcctOk.j0 k true a0_0 a0_1 a0_2 a0_3 l0_4))) else (spec_AcctOk.j0 k true a0_0 a0_1 a0_2 a0_3 l0_4))) else (spec_AcctOk.j0 k true a0_0 a0_1 a0_2 a0_3 l0_4))) else (spec_AcctOk.j0 k true a0_0 a0_1 a0_2 a0_3 l0_4))
theorem spec_AcctOk.calls (k : Nat) (a0_0 : ByteArray) (a0_1 : Int) (a0_2 : Int) (a0_3 : Int) (A0_4 : Option Addr) (c0_4 : Nat) (l0_4 : List (S65)) (r : Bool) (w : World) (hr0_4 : Kd.C k65 w A0_4 l0_4.length l0_4) (hc0_4 : l0_4.length ≤ c0_4) (h : spec_AcctOk.f k a0_0 a0_1 a0_2 a0_3 l0_4 = some r) :
  Calls Try.prog 123 #[.agg #[.string a0_0,.int .i64 a0_1,.int .i64 a0_2,.int .i64 a0_3,.slice A0_4 l0_4.length c0_4]] w fun e w' => e = .returned (.bool r) ∧ Below w.heap.size w w' := by
 have hu63 := Try.underlying63;have hu65 := Try.underlying65;have HR0_4 := Aside0.mk hr0_4;have HC0_4 := Aside0.mk hc0_4;clear hr0_4 hc0_4;have HB := Aside0.mk (Below.refl w.heap.size w);have H : ((spec_NameOk.f k a0_0).bind fun t240 => (if t240 = true then ((spec_l1In.f a0_1 0 1000000).bind fun t241 => (if t241 = true then ((spec_l1In.f a0_2 0 10000).bind fun t242 => (if t242 = true then ((spec_l1In.f a0_3 0 1000000).bind fun t243 => (if t243 = true then (spec_AcctOk.j0 k (decide ((l0_4.length : Int) > 4)) a0_0 a0_1 a0_2 a0_3 l0_4) else (spec_AcctOk.j0 k true a0_0 a0_1 a0_2 a0_3 l0_4))) else (spec_AcctOk.j0 k true a0_0 a0_1 a0_2 a0_3 l0_4))) else (spec_AcctOk.j0 k true a0_0 a0_1 a0_2 a0_3 l0_4))) else (spec_AcctOk.j0 k true a0_0 a0_1 a0_2 a0_3 l0_4))) = some r := h;clear h;have HC2 := Aside0.mk H;clear H;go_enter Try.func123,Try.ntmps123
 go_upto_region 1 with (((with_reducible refine gate_dst (N := 1) rfl ?_); (try (refine gate_guard (by rfl) ?_; dsimp only)); refine box_event (by rfl) (N := 1) (by rfl) (cs := #[.string a0_0,.int .i64 a0_1,.int .i64 a0_2,.int .i64 a0_3,.slice A0_4 l0_4.length c0_4]) (t := 63) (by go_simp; done) ?_; intro gb239 hg w3 hbox hb; have BK239 := Aside0.mk hbox; have GW239 := gsz HB hg; have GE239 := GW239; replace HB := bst HB hb; clear hb hbox hg))
 repeat (go_quiet (fail); go_upto_region 1 with (fail))
 skip
 go_cut [32] (fun v32 wc => ∃ (kq : Nat) (x32_1 : Bool),v32 = .bool x32_1 ∧ Aside0 (spec_AcctOk.j0 kq x32_1 a0_0 a0_1 a0_2 a0_3 l0_4 = some r) ∧ Aside0 (kq ≤ k) ∧ Aside0 (wc.heap[gb239]? = some (.cells #[.string a0_0,.int .i64 a0_1,.int .i64 a0_2,.int .i64 a0_3,(.slice A0_4 l0_4.length c0_4)] 63 (0,0))) ∧ Aside0 (Below w.heap.size w wc))
 case first =>
  have H := HC2.out;clear HC2;replace H := Option.bind_eq_some_iff.mp H;obtain ⟨t240,A40,H⟩ := H;replace H : (if t240 = true then ((spec_l1In.f a0_1 0 1000000).bind fun t241 => (if t241 = true then ((spec_l1In.f a0_2 0 10000).bind fun t242 => (if t242 = true then ((spec_l1In.f a0_3 0 1000000).bind fun t243 => (if t243 = true then (spec_AcctOk.j0 k (decide ((l0_4.length : Int) > 4)) a0_0 a0_1 a0_2 a0_3 l0_4) else (spec_AcctOk.j0 k true a0_0 a0_1 a0_2 a0_3 l0_4))) else (spec_AcctOk.j0 k true a0_0 a0_1 a0_2 a0_3 l0_4))) else (spec_AcctOk.j0 k true a0_0 a0_1 a0_2 a0_3 l0_4))) else (spec_AcctOk.j0 k true a0_0 a0_1 a0_2 a0_3 l0_4)) = some r := H;have A4 := Aside0.mk A40;clear A40
  by_cases c5 : t240 = true
  ·subst c5
   rw [if_pos rfl] at H
   replace H := Option.bind_eq_some_iff.mp H;obtain ⟨t241,A60,H⟩ := H;replace H : (if t241 = true then ((spec_l1In.f a0_2 0 10000).bind fun t242 => (if t242 = true then ((spec_l1In.f a0_3 0 1000000).bind fun t243 => (if t243 = true then (spec_AcctOk.j0 k (decide ((l0_4.length : Int) > 4)) a0_0 a0_1 a0_2 a0_3 l0_4) else (spec_AcctOk.j0 k true a0_0 a0_1 a0_2 a0_3 l0_4))) else (spec_AcctOk.j0 k true a0_0 a0_1 a0_2 a0_3 l0_4))) else (spec_AcctOk.j0 k true a0_0 a0_1 a0_2 a0_3 l0_4)) = some r := H;have A6 := Aside0.mk A60;clear A60
   by_cases c7 : t241 = true
   ·subst c7
    rw [if_pos rfl] at H
    replace H := Option.bind_eq_some_iff.mp H;obtain ⟨t242,A80,H⟩ := H;replace H : (if t242 = true then ((spec_l1In.f a0_3 0 1000000).bind fun t243 => (if t243 = true then (spec_AcctOk.j0 k (decide ((l0_4.length : Int) > 4)) a0_0 a0_1 a0_2 a0_3 l0_4) else (spec_AcctOk.j0 k true a0_0 a0_1 a0_2 a0_3 l0_4))) else (spec_AcctOk.j0 k true a0_0 a0_1 a0_2 a0_3 l0_4)) = some r := H;have A8 := Aside0.mk A80;clear A80
    by_cases c9 : t242 = true
    ·subst c9
     rw [if_pos rfl] at H
     replace H := Option.bind_eq_some_iff.mp H;obtain ⟨t243,A100,H⟩ := H;replace H : (if t243 = true then (spec_AcctOk.j0 k (decide ((l0_4.length : Int) > 4)) a0_0 a0_1 a0_2 a0_3 l0_4) else (spec_AcctOk.j0 k true a0_0 a0_1 a0_2 a0_3 l0_4)) = some r := H;have A10 := Aside0.mk A100;clear A100
     by_cases c11 : t243 = true
     ·subst c11
      rw [if_pos rfl] at H
      have H' := Aside0.mk H;clear H;obtain ⟨⟨hcz12_0,hcz12_1,hcz12_2,hcz12_3,hcz12_4⟩,hfz12_0,hfz12_1,hfz12_2,hfz12_3,hfz12_4⟩ := bc5 BK239.out
      go_wp2_with (first | (go_at_call 90; (with_reducible refine (spec_NameOk.calls k a0_0 true _ A4.out).mono ?_); rintro e w' ⟨rfl,⟨nd,rfl⟩⟩; skip) | (go_at_call 91; (with_reducible refine (spec_l1In.calls a0_1 0 1000000 true _ A6.out).mono ?_); rintro e w' ⟨rfl,⟨nd,rfl⟩⟩; skip) | (go_at_call 91; (with_reducible refine (spec_l1In.calls a0_2 0 10000 true _ A8.out).mono ?_); rintro e w' ⟨rfl,⟨nd,rfl⟩⟩; skip) | (go_at_call 91; (with_reducible refine (spec_l1In.calls a0_3 0 1000000 true _ A10.out).mono ?_); rintro e w' ⟨rfl,⟨nd,rfl⟩⟩; skip))
      repeat (go_quiet (fail); try go_wp2_with (fail))
      go_meet
      case rel => exact ⟨_,(decide ((l0_4.length : Int) > 4)),(by rfl),H',⟨by omega⟩,⟨by (with_reducible repeat (refine blk_drewN ?_ _)); exact BK239.out⟩,⟨by repeat (with_reducible first | exact HB.out | apply pw_below_drewN)⟩⟩
     ·replace c11 := Bool.eq_false_iff.mpr c11;subst c11
      rw [if_neg (show ¬ (false = true) by decide)] at H
      have H' := Aside0.mk H;clear H;obtain ⟨⟨hcz13_0,hcz13_1,hcz13_2,hcz13_3,hcz13_4⟩,hfz13_0,hfz13_1,hfz13_2,hfz13_3,hfz13_4⟩ := bc5 BK239.out
      go_wp2_with (first | (go_at_call 90; (with_reducible refine (spec_NameOk.calls k a0_0 true _ A4.out).mono ?_); rintro e w' ⟨rfl,⟨nd,rfl⟩⟩; skip) | (go_at_call 91; (with_reducible refine (spec_l1In.calls a0_1 0 1000000 true _ A6.out).mono ?_); rintro e w' ⟨rfl,⟨nd,rfl⟩⟩; skip) | (go_at_call 91; (with_reducible refine (spec_l1In.calls a0_2 0 10000 true _ A8.out).mono ?_); rintro e w' ⟨rfl,⟨nd,rfl⟩⟩; skip) | (go_at_call 91; (with_reducible refine (spec_l1In.calls a0_3 0 1000000 false _ A10.out).mono ?_); rintro e w' ⟨rfl,⟨nd,rfl⟩⟩; skip))
      repeat (go_quiet (fail); try go_wp2_with (fail))
      go_meet
      case rel => exact ⟨_,(true),(by rfl),H',⟨by omega⟩,⟨by (with_reducible repeat (refine blk_drewN ?_ _)); exact BK239.out⟩,⟨by repeat (with_reducible first | exact HB.out | apply pw_below_drewN)⟩⟩
    ·replace c9 := Bool.eq_false_iff.mpr c9;subst c9
     rw [if_neg (show ¬ (false = true) by decide)] at H
     have H' := Aside0.mk H;clear H;obtain ⟨⟨hcz14_0,hcz14_1,hcz14_2,hcz14_3,hcz14_4⟩,hfz14_0,hfz14_1,hfz14_2,hfz14_3,hfz14_4⟩ := bc5 BK239.out
     go_wp2_with (first | (go_at_call 90; (with_reducible refine (spec_NameOk.calls k a0_0 true _ A4.out).mono ?_); rintro e w' ⟨rfl,⟨nd,rfl⟩⟩; skip) | (go_at_call 91; (with_reducible refine (spec_l1In.calls a0_1 0 1000000 true _ A6.out).mono ?_); rintro e w' ⟨rfl,⟨nd,rfl⟩⟩; skip) | (go_at_call 91; (with_reducible refine (spec_l1In.calls a0_2 0 10000 false _ A8.out).mono ?_); rintro e w' ⟨rfl,⟨nd,rfl⟩⟩; skip))
     repeat (go_quiet (fail); try go_wp2_with (fail))
     go_meet
     case rel => exact ⟨_,(true),(by rfl),H',⟨by omega⟩,⟨by (with_reducible repeat (refine blk_drewN ?_ _)); exact BK239.out⟩,⟨by repeat (with_reducible first | exact HB.out | apply pw_below_drewN)⟩⟩
   ·replace c7 := Bool.eq_false_iff.mpr c7;subst c7
    rw [if_neg (show ¬ (false = true) by decide)] at H
    have H' := Aside0.mk H;clear H;obtain ⟨⟨hcz15_0,hcz15_1,hcz15_2,hcz15_3,hcz15_4⟩,hfz15_0,hfz15_1,hfz15_2,hfz15_3,hfz15_4⟩ := bc5 BK239.out
    go_wp2_with (first | (go_at_call 90; (with_reducible refine (spec_NameOk.calls k a0_0 true _ A4.out).mono ?_); rintro e w' ⟨rfl,⟨nd,rfl⟩⟩; skip) | (go_at_call 91; (with_reducible refine (spec_l1In.calls a0_1 0 1000000 false _ A6.out).mono ?_); rintro e w' ⟨rfl,⟨nd,rfl⟩⟩; skip))
    repeat (go_quiet (fail); try go_wp2_with (fail))
    go_meet
    case rel => exact ⟨_,(true),(by rfl),H',⟨by omega⟩,⟨by (with_reducible repeat (refine blk_drewN ?_ _)); exact BK239.out⟩,⟨by repeat (with_reducible first | exact HB.out | apply pw_below_drewN)⟩⟩
  ·replace c5 := Bool.eq_false_iff.mpr c5;subst c5
   rw [if_neg (show ¬ (false = true) by decide)] at H
   have H' := Aside0.mk H;clear H;obtain ⟨⟨hcz16_0,hcz16_1,hcz16_2,hcz16_3,hcz16_4⟩,hfz16_0,hfz16_1,hfz16_2,hfz16_3,hfz16_4⟩ := bc5 BK239.out
   go_wp2_with ((go_at_call 90; (with_reducible refine (spec_NameOk.calls k a0_0 false _ A4.out).mono ?_); rintro e w' ⟨rfl,⟨nd,rfl⟩⟩; skip))
   repeat (go_quiet (fail); try go_wp2_with (fail))
   go_meet
   case rel => exact ⟨_,(true),(by rfl),H',⟨by omega⟩,⟨by (with_reducible repeat (refine blk_drewN ?_ _)); exact BK239.out⟩,⟨by repeat (with_reducible first | exact HB.out | apply pw_below_drewN)⟩⟩
 case rest =>
  clear HC2
  try clear c1
  try clear p2
  try clear c5
  try clear c7
  try clear c9
  try clear c11
  try clear c12
  try clear hcz12_0
  try clear hcz12_1
  try clear hcz12_2
  try clear hcz12_3
  try clear hcz12_4
  try clear hcz13_0
  try clear hcz13_1
  try clear hcz13_2
  try clear hcz13_3
  try clear hcz13_4
  try clear hcz14_0
  try clear hcz14_1
  try clear hcz14_2
  try clear hcz14_3
  try clear hcz14_4
  try clear hcz15_0
  try clear hcz15_1
  try clear hcz15_2
  try clear hcz15_3
  try clear hcz15_4
  try clear hcz16_0
  try clear hcz16_1
  try clear hcz16_2
  try clear hcz16_3
  try clear hcz16_4
  try clear hfz12_0
  try clear hfz12_1
  try clear hfz12_2
  try clear hfz12_3
  try clear hfz12_4
  try clear hfz13_0
  try clear hfz13_1
  try clear hfz13_2
  try clear hfz13_3
  try clear hfz13_4
  try clear hfz14_0
  try clear hfz14_1
  try clear hfz14_2
  try clear hfz14_3
  try clear hfz14_4
  try clear hfz15_0
  try clear hfz15_1
  try clear hfz15_2
  try clear hfz15_3
  try clear hfz15_4
  try clear hfz16_0
  try clear hfz16_1
  try clear hfz16_2
  try clear hfz16_3
  try clear hfz16_4
  obtain ⟨kq,x32_1,rfl,HA,HJ1,BK239,HB⟩ := hcut
  cases kq with
  | zero => exact absurd HA.out (by simp [spec_AcctOk.j0])
  | succ kj1 =>
   have H := HA.out;clear HA;simp only [spec_AcctOk.j0] at H
   by_cases c17 : x32_1 = true
   ·subst c17
    rw [if_pos rfl] at H
    obtain rfl := Option.some.inj H;go_wp2
    repeat (go_quiet (fail); try go_wp2)
    go_ret;exact ⟨by rfl,HB.out⟩
   ·replace c17 := Bool.eq_false_iff.mpr c17;subst c17
    rw [if_neg (show ¬ (false = true) by decide)] at H
    have H' := Aside0.mk H;clear H;go_wp2
    repeat (go_quiet (fail); try go_wp2)
    go_loopg [3] kj1 (fun kq v3 w' => ∃ (x3_2 : Int),v3 = .int .i64 x3_2 ∧ Aside0 (spec_AcctOk.l0 kq x3_2 a0_0 a0_1 a0_2 a0_3 l0_4 = some r) ∧ Aside0 (kq ≤ kj1) ∧ Aside0 (w'.heap[gb239]? = some (.cells #[.string a0_0,.int .i64 a0_1,.int .i64 a0_2,.int .i64 a0_3,(.slice A0_4 l0_4.length c0_4)] 63 (0,0))) ∧ Aside0 (Below w.heap.size w w'))
    case atStart => exact ⟨(0),(by rfl),H',⟨Nat.le_refl _⟩,⟨by exact BK239.out⟩,⟨HB.out⟩⟩
    case round =>
     clear H'
     try clear c1
     try clear p2
     try clear c5
     try clear c7
     try clear c9
     try clear c11
     try clear c12
     try clear c17
     try clear hcz12_0
     try clear hcz12_1
     try clear hcz12_2
     try clear hcz12_3
     try clear hcz12_4
     try clear hcz13_0
     try clear hcz13_1
     try clear hcz13_2
     try clear hcz13_3
     try clear hcz13_4
     try clear hcz14_0
     try clear hcz14_1
     try clear hcz14_2
     try clear hcz14_3
     try clear hcz14_4
     try clear hcz15_0
     try clear hcz15_1
     try clear hcz15_2
     try clear hcz15_3
     try clear hcz15_4
     try clear hcz16_0
     try clear hcz16_1
     try clear hcz16_2
     try clear hcz16_3
     try clear hcz16_4
     try clear hfz12_0
     try clear hfz12_1
     try clear hfz12_2
     try clear hfz12_3
     try clear hfz12_4
     try clear hfz13_0
     try clear hfz13_1
     try clear hfz13_2
     try clear hfz13_3
     try clear hfz13_4
     try clear hfz14_0
     try clear hfz14_1
     try clear hfz14_2
     try clear hfz14_3
     try clear hfz14_4
     try clear hfz15_0
     try clear hfz15_1
     try clear hfz15_2
     try clear hfz15_3
     try clear hfz15_4
     try clear hfz16_0
     try clear hfz16_1
     try clear hfz16_2
     try clear hfz16_3
     try clear hfz16_4
     try clear p2
     obtain ⟨x3_2,rfl,HA,HK2,BK239,HB⟩ := hrel
     cases gk with
     | zero => exact absurd HA.out (by simp [spec_AcctOk.l0])
     | succ k2 =>
      have H := HA.out;clear HA;simp only [spec_AcctOk.l0] at H
      by_cases c18 : x3_2 < (l0_4.length : Int)
      ·rw [if_pos c18] at H;have c18b0 := decide_eq_true c18;clear c18
       by_cases c19 : 0 ≤ x3_2
       ·rw [if_pos c19] at H;have c19b0 := decide_eq_true c19;clear c19;replace H := Option.bind_eq_some_iff.mp H;obtain ⟨t246,A200,H⟩ := H;replace H : (if t246 = true then ((spec_l1In.f ((rd_T65 l0_4 x3_2).f1) 0 1000).bind fun t247 => (if t247 = true then (if x3_2 > 0 then (if 0 ≤ (wrap64 (x3_2 - 1)) then (if (wrap64 (x3_2 - 1)) < (l0_4.length : Int) then (if ((rd_T65 l0_4 (wrap64 (x3_2 - 1))).f1) ≥ ((rd_T65 l0_4 x3_2).f1) then (some false) else (spec_AcctOk.l0 k2 (wrap64 (x3_2 + 1)) a0_0 a0_1 a0_2 a0_3 l0_4)) else (none)) else (none)) else (spec_AcctOk.l0 k2 (wrap64 (x3_2 + 1)) a0_0 a0_1 a0_2 a0_3 l0_4)) else (some false))) else (some false)) = some r := H;have A20 := Aside0.mk A200;clear A200
        by_cases c21 : t246 = true
        ·subst c21
         rw [if_pos rfl] at H
         replace H := Option.bind_eq_some_iff.mp H;obtain ⟨t247,A220,H⟩ := H;replace H : (if t247 = true then (if x3_2 > 0 then (if 0 ≤ (wrap64 (x3_2 - 1)) then (if (wrap64 (x3_2 - 1)) < (l0_4.length : Int) then (if ((rd_T65 l0_4 (wrap64 (x3_2 - 1))).f1) ≥ ((rd_T65 l0_4 x3_2).f1) then (some false) else (spec_AcctOk.l0 k2 (wrap64 (x3_2 + 1)) a0_0 a0_1 a0_2 a0_3 l0_4)) else (none)) else (none)) else (spec_AcctOk.l0 k2 (wrap64 (x3_2 + 1)) a0_0 a0_1 a0_2 a0_3 l0_4)) else (some false)) = some r := H;have A22 := Aside0.mk A220;clear A220
         by_cases c23 : t247 = true
         ·subst c23
          rw [if_pos rfl] at H
          by_cases c24 : x3_2 > 0
          ·rw [if_pos c24] at H;have c24b0 := decide_eq_true c24;clear c24;obtain ⟨ji25,hji25⟩ : ∃ j_ : Int,(wrap64 (x3_2 - 1)) = j_ := ⟨_,rfl⟩
           replace H : (if 0 ≤ (ji25) then (if (ji25) < (l0_4.length : Int) then (if ((rd_T65 l0_4 (ji25)).f1) ≥ ((rd_T65 l0_4 x3_2).f1) then (some false) else (spec_AcctOk.l0 k2 (wrap64 (x3_2 + 1)) a0_0 a0_1 a0_2 a0_3 l0_4)) else (none)) else (none)) = some r := by (rw [hji25] at H; exact H)
           skip
           skip
           have hji25w : (IntKind.i64.wrap (x3_2 - 1)) = ji25 := (i64_w _).trans hji25
           by_cases c26 : 0 ≤ (ji25)
           ·rw [if_pos c26] at H;have c26b0 := decide_eq_true c26;clear c26
            by_cases c27 : (ji25) < (l0_4.length : Int)
            ·rw [if_pos c27] at H;have c27b0 := decide_eq_true c27;clear c27
             by_cases c28 : ((rd_T65 l0_4 (ji25)).f1) ≥ ((rd_T65 l0_4 x3_2).f1)
             ·rw [if_pos c28] at H;have c28b0 := decide_eq_true c28;clear c28;obtain rfl := Option.some.inj H;obtain ⟨⟨hcz29_0,hcz29_1,hcz29_2,hcz29_3,hcz29_4⟩,hfz29_0,hfz29_1,hfz29_2,hfz29_3,hfz29_4⟩ := bc5 BK239.out;have p244 : 0 ≤ (x3_2 : Int) := odt (by with_reducible assumption);have q244 : x3_2 < (l0_4.length : Int) := odt (by with_reducible assumption);obtain ⟨ad244,e244,hx244_0,hx244_1⟩ := at_T65 HR0_4.out x3_2 p244 q244
              cases e244
              replace hx244_0 := up_ HB.out hx244_0;replace hx244_1 := up_ HB.out hx244_1;replace p244 := eq_true p244;replace q244 := eq_true q244
              go_wp2_with ((with_reducible refine gate_dst (N := 4) rfl ?_); (try (refine gate_guard (by rfl) ?_; dsimp only)); refine box_event (by rfl) (N := 4) (by rfl) (cs := #[.int .i64 0,.int .i64 0]) (t := 65) (by go_simp; done) ?_; intro gb245 hg w30 hbox hb; have BK245 := Aside0.mk hbox; have GW245 := gsz HB hg; have GE245 := GW245; replace HB := bst HB hb; obtain ⟨NB239_245,NB245_239⟩ := nbb BK239 hg; replace BK239 := bkb BK239 hb; clear hb hbox hg; have hnb31 := NB245_239.out; have hnc31 := NB239_245.out; obtain ⟨⟨hcz32_0,hcz32_1⟩,hfz32_0,hfz32_1⟩ := bc2 BK245.out)
              repeat (go_quiet (first | (go_at_call 91; (with_reducible refine (spec_l1In.calls ((rd_T65 l0_4 x3_2).f0) 1 1000000 true _ A20.out).mono ?_); rintro e w' ⟨rfl,⟨nd,rfl⟩⟩; (try first | exact ⟨rfl,_,World.drewN_drewN _ _ _⟩ | exact ⟨rfl,_,Eq.trans (World.drewN_drewN _ _ _) (congrArg (World.drewN _) (Nat.add_assoc _ _ _))⟩)) | (go_at_call 91; (with_reducible refine (spec_l1In.calls ((rd_T65 l0_4 x3_2).f1) 0 1000 true _ A22.out).mono ?_); rintro e w' ⟨rfl,⟨nd,rfl⟩⟩; (try first | exact ⟨rfl,_,World.drewN_drewN _ _ _⟩ | exact ⟨rfl,_,Eq.trans (World.drewN_drewN _ _ _) (congrArg (World.drewN _) (Nat.add_assoc _ _ _))⟩); obtain ⟨⟨hcz33_0,hcz33_1,hcz33_2,hcz33_3,hcz33_4⟩,hfz33_0,hfz33_1,hfz33_2,hfz33_3,hfz33_4⟩ := bc5 BK239.out; have p248 : 0 ≤ ((ji25) : Int) := odt (by first | (with_reducible assumption) | assumption); have q248 : (ji25) < (l0_4.length : Int) := odt (by first | (with_reducible assumption) | assumption); obtain ⟨ad248,e248,hx248_0,hx248_1⟩ := at_T65 HR0_4.out (ji25) p248 q248; obtain rfl : ad244 = ad248 := (by injection e248); have hn248_0 : ad244.block ≠ gb245 := Nat.ne_of_lt (Nat.lt_of_lt_of_le (by have := World.block_lt_of_cell? _ _ hx248_0; first | rwa [add_block] at this | exact this) GW245.out); have hn248_1 : ad244.block ≠ gb245 := Nat.ne_of_lt (Nat.lt_of_lt_of_le (by have := World.block_lt_of_cell? _ _ hx248_0; first | rwa [add_block] at this | exact this) GW245.out); replace hx248_0 := up_ HB.out hx248_0; replace hx248_1 := up_ HB.out hx248_1; replace hx248_0 := (cell_far (p := ⟨gb245,0,none⟩) (by first | (rw [add_block]; exact hn248_0) | (show (Addr.add _ _).block ≠ _; rw [add_block]; exact hn248_0) | exact hn248_0) (.int .i64 ((rd_T65 l0_4 x3_2).f0))).trans hx248_0; replace hx248_1 := (cell_far (p := ⟨gb245,0,none⟩) (by first | (rw [add_block]; exact hn248_0) | (show (Addr.add _ _).block ≠ _; rw [add_block]; exact hn248_0) | exact hn248_0) (.int .i64 ((rd_T65 l0_4 x3_2).f0))).trans hx248_1; replace hx248_0 := (cell_far (p := ⟨gb245,1,none⟩) (by first | (rw [add_block]; exact hn248_1) | (show (Addr.add _ _).block ≠ _; rw [add_block]; exact hn248_1) | exact hn248_1) (.int .i64 ((rd_T65 l0_4 x3_2).f1))).trans hx248_0; replace hx248_1 := (cell_far (p := ⟨gb245,1,none⟩) (by first | (rw [add_block]; exact hn248_1) | (show (Addr.add _ _).block ≠ _; rw [add_block]; exact hn248_1) | exact hn248_1) (.int .i64 ((rd_T65 l0_4 x3_2).f1))).trans hx248_1; (try have hy248_0 := fun (n_ : Nat) => (show (((w30.drewN n_).setCell ⟨gb245,0,none⟩ (.int .i64 ((rd_T65 l0_4 x3_2).f0))).setCell ⟨gb245,1,none⟩ (.int .i64 ((rd_T65 l0_4 x3_2).f1))).cell? _ = some _ from hx248_0)); (try have hy248_1 := fun (n_ : Nat) => (show (((w30.drewN n_).setCell ⟨gb245,0,none⟩ (.int .i64 ((rd_T65 l0_4 x3_2).f0))).setCell ⟨gb245,1,none⟩ (.int .i64 ((rd_T65 l0_4 x3_2).f1))).cell? _ = some _ from hx248_1)); clear hn248_0; clear hn248_1; replace p248 := eq_true p248; replace q248 := eq_true q248)); try go_wp2_with (fail))
              go_ret;exact ⟨by rfl,by repeat (with_reducible first | exact HB.out | apply pw_below_drewN | refine below_set ?_ GE245.out)⟩
             ·rw [if_neg c28] at H;have c28b0 := decide_eq_false c28;clear c28;have H' := Aside0.mk H;clear H;obtain ⟨⟨hcz34_0,hcz34_1,hcz34_2,hcz34_3,hcz34_4⟩,hfz34_0,hfz34_1,hfz34_2,hfz34_3,hfz34_4⟩ := bc5 BK239.out;have p244 : 0 ≤ (x3_2 : Int) := odt (by with_reducible assumption);have q244 : x3_2 < (l0_4.length : Int) := odt (by with_reducible assumption);obtain ⟨ad244,e244,hx244_0,hx244_1⟩ := at_T65 HR0_4.out x3_2 p244 q244
              cases e244
              replace hx244_0 := up_ HB.out hx244_0;replace hx244_1 := up_ HB.out hx244_1;replace p244 := eq_true p244;replace q244 := eq_true q244
              go_wp2_with ((with_reducible refine gate_dst (N := 4) rfl ?_); (try (refine gate_guard (by rfl) ?_; dsimp only)); refine box_event (by rfl) (N := 4) (by rfl) (cs := #[.int .i64 0,.int .i64 0]) (t := 65) (by go_simp; done) ?_; intro gb245 hg w35 hbox hb; have BK245 := Aside0.mk hbox; have GW245 := gsz HB hg; have GE245 := GW245; replace HB := bst HB hb; obtain ⟨NB239_245,NB245_239⟩ := nbb BK239 hg; replace BK239 := bkb BK239 hb; clear hb hbox hg; have hnb36 := NB245_239.out; have hnc36 := NB239_245.out; obtain ⟨⟨hcz37_0,hcz37_1⟩,hfz37_0,hfz37_1⟩ := bc2 BK245.out)
              repeat (go_quiet (first | (go_at_call 91; (with_reducible refine (spec_l1In.calls ((rd_T65 l0_4 x3_2).f0) 1 1000000 true _ A20.out).mono ?_); rintro e w' ⟨rfl,⟨nd,rfl⟩⟩; (try first | exact ⟨rfl,_,World.drewN_drewN _ _ _⟩ | exact ⟨rfl,_,Eq.trans (World.drewN_drewN _ _ _) (congrArg (World.drewN _) (Nat.add_assoc _ _ _))⟩)) | (go_at_call 91; (with_reducible refine (spec_l1In.calls ((rd_T65 l0_4 x3_2).f1) 0 1000 true _ A22.out).mono ?_); rintro e w' ⟨rfl,⟨nd,rfl⟩⟩; (try first | exact ⟨rfl,_,World.drewN_drewN _ _ _⟩ | exact ⟨rfl,_,Eq.trans (World.drewN_drewN _ _ _) (congrArg (World.drewN _) (Nat.add_assoc _ _ _))⟩); obtain ⟨⟨hcz38_0,hcz38_1,hcz38_2,hcz38_3,hcz38_4⟩,hfz38_0,hfz38_1,hfz38_2,hfz38_3,hfz38_4⟩ := bc5 BK239.out; have p248 : 0 ≤ ((ji25) : Int) := odt (by first | (with_reducible assumption) | assumption); have q248 : (ji25) < (l0_4.length : Int) := odt (by first | (with_reducible assumption) | assumption); obtain ⟨ad248,e248,hx248_0,hx248_1⟩ := at_T65 HR0_4.out (ji25) p248 q248; obtain rfl : ad244 = ad248 := (by injection e248); have hn248_0 : ad244.block ≠ gb245 := Nat.ne_of_lt (Nat.lt_of_lt_of_le (by have := World.block_lt_of_cell? _ _ hx248_0; first | rwa [add_block] at this | exact this) GW245.out); have hn248_1 : ad244.block ≠ gb245 := Nat.ne_of_lt (Nat.lt_of_lt_of_le (by have := World.block_lt_of_cell? _ _ hx248_0; first | rwa [add_block] at this | exact this) GW245.out); replace hx248_0 := up_ HB.out hx248_0; replace hx248_1 := up_ HB.out hx248_1; replace hx248_0 := (cell_far (p := ⟨gb245,0,none⟩) (by first | (rw [add_block]; exact hn248_0) | (show (Addr.add _ _).block ≠ _; rw [add_block]; exact hn248_0) | exact hn248_0) (.int .i64 ((rd_T65 l0_4 x3_2).f0))).trans hx248_0; replace hx248_1 := (cell_far (p := ⟨gb245,0,none⟩) (by first | (rw [add_block]; exact hn248_0) | (show (Addr.add _ _).block ≠ _; rw [add_block]; exact hn248_0) | exact hn248_0) (.int .i64 ((rd_T65 l0_4 x3_2).f0))).trans hx248_1; replace hx248_0 := (cell_far (p := ⟨gb245,1,none⟩) (by first | (rw [add_block]; exact hn248_1) | (show (Addr.add _ _).block ≠ _; rw [add_block]; exact hn248_1) | exact hn248_1) (.int .i64 ((rd_T65 l0_4 x3_2).f1))).trans hx248_0; replace hx248_1 := (cell_far (p := ⟨gb245,1,none⟩) (by first | (rw [add_block]; exact hn248_1) | (show (Addr.add _ _).block ≠ _; rw [add_block]; exact hn248_1) | exact hn248_1) (.int .i64 ((rd_T65 l0_4 x3_2).f1))).trans hx248_1; (try have hy248_0 := fun (n_ : Nat) => (show (((w35.drewN n_).setCell ⟨gb245,0,none⟩ (.int .i64 ((rd_T65 l0_4 x3_2).f0))).setCell ⟨gb245,1,none⟩ (.int .i64 ((rd_T65 l0_4 x3_2).f1))).cell? _ = some _ from hx248_0)); (try have hy248_1 := fun (n_ : Nat) => (show (((w35.drewN n_).setCell ⟨gb245,0,none⟩ (.int .i64 ((rd_T65 l0_4 x3_2).f0))).setCell ⟨gb245,1,none⟩ (.int .i64 ((rd_T65 l0_4 x3_2).f1))).cell? _ = some _ from hx248_1)); clear hn248_0; clear hn248_1; replace p248 := eq_true p248; replace q248 := eq_true q248)); try go_wp2_with (fail))
              go_roundg k2
              case measure => have := HJ1.out; have := HK2.out; omega
              case rel => exact ⟨(wrap64 (x3_2 + 1)),(by rfl),H',⟨by have := HJ1.out; have := HK2.out; omega⟩,⟨by (with_reducible repeat (refine blk_drewN ?_ _)); refine blk_far ?_ NB239_245.out _; refine blk_far ?_ NB239_245.out _; exact BK239.out⟩,⟨by repeat (with_reducible first | exact HB.out | apply pw_below_drewN | refine below_set ?_ GE245.out)⟩⟩
            ·rw [if_neg c27] at H;exact absurd H (by simp)
           ·rw [if_neg c26] at H;exact absurd H (by simp)
          ·rw [if_neg c24] at H;have c24b0 := decide_eq_false c24;clear c24;have H' := Aside0.mk H;clear H;obtain ⟨⟨hcz39_0,hcz39_1,hcz39_2,hcz39_3,hcz39_4⟩,hfz39_0,hfz39_1,hfz39_2,hfz39_3,hfz39_4⟩ := bc5 BK239.out;have p244 : 0 ≤ (x3_2 : Int) := odt (by with_reducible assumption);have q244 : x3_2 < (l0_4.length : Int) := odt (by with_reducible assumption);obtain ⟨ad244,e244,hx244_0,hx244_1⟩ := at_T65 HR0_4.out x3_2 p244 q244
           cases e244
           replace hx244_0 := up_ HB.out hx244_0;replace hx244_1 := up_ HB.out hx244_1;replace p244 := eq_true p244;replace q244 := eq_true q244
           go_wp2_with ((with_reducible refine gate_dst (N := 4) rfl ?_); (try (refine gate_guard (by rfl) ?_; dsimp only)); refine box_event (by rfl) (N := 4) (by rfl) (cs := #[.int .i64 0,.int .i64 0]) (t := 65) (by go_simp; done) ?_; intro gb245 hg w40 hbox hb; have BK245 := Aside0.mk hbox; have GW245 := gsz HB hg; have GE245 := GW245; replace HB := bst HB hb; obtain ⟨NB239_245,NB245_239⟩ := nbb BK239 hg; replace BK239 := bkb BK239 hb; clear hb hbox hg; have hnb41 := NB245_239.out; have hnc41 := NB239_245.out; obtain ⟨⟨hcz42_0,hcz42_1⟩,hfz42_0,hfz42_1⟩ := bc2 BK245.out)
           repeat (go_quiet (first | (go_at_call 91; (with_reducible refine (spec_l1In.calls ((rd_T65 l0_4 x3_2).f0) 1 1000000 true _ A20.out).mono ?_); rintro e w' ⟨rfl,⟨nd,rfl⟩⟩; (try first | exact ⟨rfl,_,World.drewN_drewN _ _ _⟩ | exact ⟨rfl,_,Eq.trans (World.drewN_drewN _ _ _) (congrArg (World.drewN _) (Nat.add_assoc _ _ _))⟩)) | (go_at_call 91; (with_reducible refine (spec_l1In.calls ((rd_T65 l0_4 x3_2).f1) 0 1000 true _ A22.out).mono ?_); rintro e w' ⟨rfl,⟨nd,rfl⟩⟩; (try first | exact ⟨rfl,_,World.drewN_drewN _ _ _⟩ | exact ⟨rfl,_,Eq.trans (World.drewN_drewN _ _ _) (congrArg (World.drewN _) (Nat.add_assoc _ _ _))⟩))); try go_wp2_with (fail))
           go_roundg k2
           case measure => have := HJ1.out; have := HK2.out; omega
           case rel => exact ⟨(wrap64 (x3_2 + 1)),(by rfl),H',⟨by have := HJ1.out; have := HK2.out; omega⟩,⟨by (with_reducible repeat (refine blk_drewN ?_ _)); refine blk_far ?_ NB239_245.out _; refine blk_far ?_ NB239_245.out _; exact BK239.out⟩,⟨by repeat (with_reducible first | exact HB.out | apply pw_below_drewN | refine below_set ?_ GE245.out)⟩⟩
         ·replace c23 := Bool.eq_false_iff.mpr c23;subst c23
          rw [if_neg (show ¬ (false = true) by decide)] at H
          obtain rfl := Option.some.inj H;obtain ⟨⟨hcz43_0,hcz43_1,hcz43_2,hcz43_3,hcz43_4⟩,hfz43_0,hfz43_1,hfz43_2,hfz43_3,hfz43_4⟩ := bc5 BK239.out;have p244 : 0 ≤ (x3_2 : Int) := odt (by with_reducible assumption);have q244 : x3_2 < (l0_4.length : Int) := odt (by with_reducible assumption);obtain ⟨ad244,e244,hx244_0,hx244_1⟩ := at_T65 HR0_4.out x3_2 p244 q244
          cases e244
          replace hx244_0 := up_ HB.out hx244_0;replace hx244_1 := up_ HB.out hx244_1;replace p244 := eq_true p244;replace q244 := eq_true q244
          go_wp2_with ((with_reducible refine gate_dst (N := 4) rfl ?_); (try (refine gate_guard (by rfl) ?_; dsimp only)); refine box_event (by rfl) (N := 4) (by rfl) (cs := #[.int .i64 0,.int .i64 0]) (t := 65) (by go_simp; done) ?_; intro gb245 hg w44 hbox hb; have BK245 := Aside0.mk hbox; have GW245 := gsz HB hg; have GE245 := GW245; replace HB := bst HB hb; obtain ⟨NB239_245,NB245_239⟩ := nbb BK239 hg; replace BK239 := bkb BK239 hb; clear hb hbox hg; have hnb45 := NB245_239.out; have hnc45 := NB239_245.out; obtain ⟨⟨hcz46_0,hcz46_1⟩,hfz46_0,hfz46_1⟩ := bc2 BK245.out)
          repeat (go_quiet (first | (go_at_call 91; (with_reducible refine (spec_l1In.calls ((rd_T65 l0_4 x3_2).f0) 1 1000000 true _ A20.out).mono ?_); rintro e w' ⟨rfl,⟨nd,rfl⟩⟩; (try first | exact ⟨rfl,_,World.drewN_drewN _ _ _⟩ | exact ⟨rfl,_,Eq.trans (World.drewN_drewN _ _ _) (congrArg (World.drewN _) (Nat.add_assoc _ _ _))⟩)) | (go_at_call 91; (with_reducible refine (spec_l1In.calls ((rd_T65 l0_4 x3_2).f1) 0 1000 false _ A22.out).mono ?_); rintro e w' ⟨rfl,⟨nd,rfl⟩⟩; (try first | exact ⟨rfl,_,World.drewN_drewN _ _ _⟩ | exact ⟨rfl,_,Eq.trans (World.drewN_drewN _ _ _) (congrArg (World.drewN _) (Nat.add_assoc _ _ _))⟩))); try go_wp2_with (fail))
          go_ret;exact ⟨by rfl,by repeat (with_reducible first | exact HB.out | apply pw_below_drewN | refine below_set ?_ GE245.out)⟩
        ·replace c21 := Bool.eq_false_iff.mpr c21;subst c21
         rw [if_neg (show ¬ (false = true) by decide)] at H
         obtain rfl := Option.some.inj H;obtain ⟨⟨hcz47_0,hcz47_1,hcz47_2,hcz47_3,hcz47_4⟩,hfz47_0,hfz47_1,hfz47_2,hfz47_3,hfz47_4⟩ := bc5 BK239.out;have p244 : 0 ≤ (x3_2 : Int) := odt (by with_reducible assumption);have q244 : x3_2 < (l0_4.length : Int) := odt (by with_reducible assumption);obtain ⟨ad244,e244,hx244_0,hx244_1⟩ := at_T65 HR0_4.out x3_2 p244 q244
         cases e244
         replace hx244_0 := up_ HB.out hx244_0;replace hx244_1 := up_ HB.out hx244_1;replace p244 := eq_true p244;replace q244 := eq_true q244
         go_wp2_with ((with_reducible refine gate_dst (N := 4) rfl ?_); (try (refine gate_guard (by rfl) ?_; dsimp only)); refine box_event (by rfl) (N := 4) (by rfl) (cs := #[.int .i64 0,.int .i64 0]) (t := 65) (by go_simp; done) ?_; intro gb245 hg w48 hbox hb; have BK245 := Aside0.mk hbox; have GW245 := gsz HB hg; have GE245 := GW245; replace HB := bst HB hb; obtain ⟨NB239_245,NB245_239⟩ := nbb BK239 hg; replace BK239 := bkb BK239 hb; clear hb hbox hg; have hnb49 := NB245_239.out; have hnc49 := NB239_245.out; obtain ⟨⟨hcz50_0,hcz50_1⟩,hfz50_0,hfz50_1⟩ := bc2 BK245.out)
         repeat (go_quiet ((go_at_call 91; (with_reducible refine (spec_l1In.calls ((rd_T65 l0_4 x3_2).f0) 1 1000000 false _ A20.out).mono ?_); rintro e w' ⟨rfl,⟨nd,rfl⟩⟩; (try first | exact ⟨rfl,_,World.drewN_drewN _ _ _⟩ | exact ⟨rfl,_,Eq.trans (World.drewN_drewN _ _ _) (congrArg (World.drewN _) (Nat.add_assoc _ _ _))⟩))); try go_wp2_with (fail))
         go_ret;exact ⟨by rfl,by repeat (with_reducible first | exact HB.out | apply pw_below_drewN | refine below_set ?_ GE245.out)⟩
       ·rw [if_neg c19] at H;exact absurd H (by simp)
      ·rw [if_neg c18] at H;have c18b0 := decide_eq_false c18;clear c18;obtain rfl := Option.some.inj H;obtain ⟨⟨hcz51_0,hcz51_1,hcz51_2,hcz51_3,hcz51_4⟩,hfz51_0,hfz51_1,hfz51_2,hfz51_3,hfz51_4⟩ := bc5 BK239.out;go_wp2
       repeat (go_quiet (fail); try go_wp2)
       go_ret;exact ⟨by rfl,HB.out⟩

/-! ### spec_l4Of: function 139 -/
def spec_l4Of.l0 : Nat → Int → Int → ByteArray → Int → Int → Int → List (S65) → Option (Int)
 | 0,_,_,_,_,_,_,_ => none
 | k + 1,x3,x4,x250000,x250001,x250002,x250003,x250004 => if x4 < (x250004.length : Int) then (if 0 ≤ x4 then (spec_l4Of.l0 k (wrap64 (x3 + ((rd_T65 x250004 x4).f0))) (wrap64 (x4 + 1)) x250000 x250001 x250002 x250003 x250004) else (none)) else (some x3)
def spec_l4Of.f (k : Nat) (a0_0 : ByteArray) (a0_1 : Int) (a0_2 : Int) (a0_3 : Int) (l0_4 : List (S65)) : Option (Int) := spec_l4Of.l0 k (wrap64 (a0_1 + a0_3)) 0 a0_0 a0_1 a0_2 a0_3 l0_4
theorem spec_l4Of.calls (k : Nat) (a0_0 : ByteArray) (a0_1 : Int) (a0_2 : Int) (a0_3 : Int) (A0_4 : Option Addr) (c0_4 : Nat) (l0_4 : List (S65)) (r : Int) (w : World) (hr0_4 : Kd.C k65 w A0_4 l0_4.length l0_4) (hc0_4 : l0_4.length ≤ c0_4) (h : spec_l4Of.f k a0_0 a0_1 a0_2 a0_3 l0_4 = some r) :
  Calls Try.prog 139 #[.agg #[.string a0_0,.int .i64 a0_1,.int .i64 a0_2,.int .i64 a0_3,.slice A0_4 l0_4.length c0_4]] w fun e w' => e = .returned (.int .i64 r) ∧ Below w.heap.size w w' := by
 have hu63 := Try.underlying63;have HR0_4 := Aside0.mk hr0_4;have HC0_4 := Aside0.mk hc0_4;clear hr0_4 hc0_4;have HB := Aside0.mk (Below.refl w.heap.size w);have H : (spec_l4Of.l0 k (wrap64 (a0_1 + a0_3)) 0 a0_0 a0_1 a0_2 a0_3 l0_4) = some r := h;clear h;have H' := Aside0.mk H;clear H;go_enter Try.func139,Try.ntmps139
 go_wp2_with (((with_reducible refine gate_dst (N := 1) rfl ?_); refine box_event (by rfl) (N := 1) (by rfl) (cs := #[.string a0_0,.int .i64 a0_1,.int .i64 a0_2,.int .i64 a0_3,.slice A0_4 l0_4.length c0_4]) (t := 63) (by go_simp; done) ?_; intro gb249 hg w2 hbox hb; have BK249 := Aside0.mk hbox; have GW249 := gsz HB hg; have GE249 := GW249; replace HB := bst HB hb; clear hb hbox hg; obtain ⟨⟨hcz3_0,hcz3_1,hcz3_2,hcz3_3,hcz3_4⟩,hfz3_0,hfz3_1,hfz3_2,hfz3_3,hfz3_4⟩ := bc5 BK249.out))
 go_loopg [3,4] k (fun kq v3 v4 w' => ∃ (x3_1 : Int) (x4_1 : Int),v3 = .int .i64 x3_1 ∧ v4 = .int .i64 x4_1 ∧ Aside0 (spec_l4Of.l0 kq x3_1 x4_1 a0_0 a0_1 a0_2 a0_3 l0_4 = some r) ∧ Aside0 (kq ≤ k) ∧ Aside0 (w'.heap[gb249]? = some (.cells #[.string a0_0,.int .i64 a0_1,.int .i64 a0_2,.int .i64 a0_3,(.slice A0_4 l0_4.length c0_4)] 63 (0,0))) ∧ Aside0 (Below w.heap.size w w'))
 case atStart => exact ⟨(wrap64 (a0_1 + a0_3)),(0),(by rfl),(by rfl),H',⟨Nat.le_refl _⟩,⟨by exact BK249.out⟩,⟨HB.out⟩⟩
 case round =>
  clear H'
  try clear c1
  try clear p2
  try clear hcz3_0
  try clear hcz3_1
  try clear hcz3_2
  try clear hcz3_3
  try clear hcz3_4
  try clear hfz3_0
  try clear hfz3_1
  try clear hfz3_2
  try clear hfz3_3
  try clear hfz3_4
  obtain ⟨x3_1,x4_1,rfl,rfl,HA,HK1,BK249,HB⟩ := hrel
  cases gk with
  | zero => exact absurd HA.out (by simp [spec_l4Of.l0])
  | succ k1 =>
   have H := HA.out;clear HA;simp only [spec_l4Of.l0] at H
   by_cases c4 : x4_1 < (l0_4.length : Int)
   ·rw [if_pos c4] at H;have c4b0 := decide_eq_true c4;clear c4
    by_cases c5 : 0 ≤ x4_1
    ·rw [if_pos c5] at H;have c5b0 := decide_eq_true c5;clear c5;have H' := Aside0.mk H;clear H;obtain ⟨⟨hcz6_0,hcz6_1,hcz6_2,hcz6_3,hcz6_4⟩,hfz6_0,hfz6_1,hfz6_2,hfz6_3,hfz6_4⟩ := bc5 BK249.out;have p250 : 0 ≤ (x4_1 : Int) := odt (by with_reducible assumption);have q250 : x4_1 < (l0_4.length : Int) := odt (by with_reducible assumption);obtain ⟨ad250,e250,hx250_0,hx250_1⟩ := at_T65 HR0_4.out x4_1 p250 q250
     cases e250
     replace hx250_0 := up_ HB.out hx250_0;replace hx250_1 := up_ HB.out hx250_1;replace p250 := eq_true p250;replace q250 := eq_true q250;go_wp2
     go_roundg k1
     case measure => have := HK1.out; omega
     case rel => exact ⟨(wrap64 (x3_1 + ((rd_T65 l0_4 x4_1).f0))),(wrap64 (x4_1 + 1)),(by rfl),(by rfl),H',⟨by have := HK1.out; omega⟩,⟨by exact BK249.out⟩,⟨HB.out⟩⟩
    ·rw [if_neg c5] at H;exact absurd H (by simp)
   ·rw [if_neg c4] at H;have c4b0 := decide_eq_false c4;clear c4;obtain rfl := Option.some.inj H;obtain ⟨⟨hcz7_0,hcz7_1,hcz7_2,hcz7_3,hcz7_4⟩,hfz7_0,hfz7_1,hfz7_2,hfz7_3,hfz7_4⟩ := bc5 BK249.out;go_wp2;go_ret;exact ⟨by rfl,HB.out⟩

/-! ### spec_Wealth: function 124 -/
def spec_Wealth.l0 : Nat → List (S63) → Int → Int → Option (Int)
 | 0,_,_,_ => none
 | k + 1,x0,x3,x4 => if x4 < (x0.length : Int) then (if 0 ≤ x4 then ((spec_l4Of.f k ((rd_T63 x0 x4).f0) ((rd_T63 x0 x4).f1) ((rd_T63 x0 x4).f2) ((rd_T63 x0 x4).f3) ((rd_T63 x0 x4).f4)).bind fun t252 => (spec_Wealth.l0 k x0 (wrap64 (x3 + t252)) (wrap64 (x4 + 1)))) else (none)) else (some x3)
def spec_Wealth.f (k : Nat) (l0 : List (S63)) : Option (Int) := spec_Wealth.l0 k l0 0 0
theorem spec_Wealth.calls (k : Nat) (A0 : Option Addr) (c0 : Nat) (l0 : List (S63)) (r : Int) (w : World) (hr0 : Kd.C k63 w A0 l0.length l0) (hc0 : l0.length ≤ c0) (h : spec_Wealth.f k l0 = some r) :
  Calls Try.prog 124 #[.slice A0 l0.length c0] w fun e w' => e = .returned (.int .i64 r) ∧ Below w.heap.size w w' := by
 have hu63 := Try.underlying63;have HR0 := Aside0.mk hr0;have HC0 := Aside0.mk hc0;clear hr0 hc0;have HB := Aside0.mk (Below.refl w.heap.size w);have H : (spec_Wealth.l0 k l0 0 0) = some r := h;clear h;have H' := Aside0.mk H;clear H;go_enter Try.func124,Try.ntmps124;go_wp2
 go_loopg [3,4] k (fun kq v3 v4 w' => ∃ (x3_1 : Int) (x4_1 : Int),v3 = .int .i64 x3_1 ∧ v4 = .int .i64 x4_1 ∧ Aside0 (spec_Wealth.l0 kq l0 x3_1 x4_1 = some r) ∧ Aside0 (kq ≤ k) ∧ Aside0 (Below w.heap.size w w'))
 case atStart => exact ⟨(0),(0),(by rfl),(by rfl),H',⟨Nat.le_refl _⟩,⟨HB.out⟩⟩
 case round =>
  clear H'
  try clear c1
  obtain ⟨x3_1,x4_1,rfl,rfl,HA,HK1,HB⟩ := hrel
  cases gk with
  | zero => exact absurd HA.out (by simp [spec_Wealth.l0])
  | succ k1 =>
   have H := HA.out;clear HA;simp only [spec_Wealth.l0] at H
   by_cases c2 : x4_1 < (l0.length : Int)
   ·rw [if_pos c2] at H;have c2b0 := decide_eq_true c2;clear c2
    by_cases c3 : 0 ≤ x4_1
    ·rw [if_pos c3] at H;have c3b0 := decide_eq_true c3;clear c3;replace H := Option.bind_eq_some_iff.mp H;obtain ⟨t252,A40,H⟩ := H;replace H : (spec_Wealth.l0 k1 l0 (wrap64 (x3_1 + t252)) (wrap64 (x4_1 + 1))) = some r := H;have A4 := Aside0.mk A40;clear A40;have H' := Aside0.mk H;clear H;have p251 : 0 ≤ (x4_1 : Int) := odt (by with_reducible assumption);have q251 : x4_1 < (l0.length : Int) := odt (by with_reducible assumption);obtain ⟨ad251,A251_4,c251_4,e251,hx251_0,hx251_1,hx251_2,hx251_3,hx251_4,hl251_4,hi251_4⟩ := at_T63 HR0.out x4_1 p251 q251
     cases e251
     replace ⟨hx251_0,hx251_1,hx251_2,hx251_3,hx251_4⟩ := up5 HB.out hx251_0 hx251_1 hx251_2 hx251_3 hx251_4;have HR251_4 := Aside0.mk hi251_4;have HC251_4 := Aside0.mk hl251_4;clear hi251_4 hl251_4;replace p251 := eq_true p251;replace q251 := eq_true q251
     go_wp2_with (((with_reducible refine gate_callee (f := 139) rfl ?_); refine goesL_ (some 16) rfl rfl Try.func139 (by kernel_rfl) rfl #[.agg #[.string ((rd_T63 l0 x4_1).f0),.int .i64 ((rd_T63 l0 x4_1).f1),.int .i64 ((rd_T63 l0 x4_1).f2),.int .i64 ((rd_T63 l0 x4_1).f3),.slice A251_4 ((rd_T63 l0 x4_1).f4).length c251_4]] rfl (by (try simp only [List.map_toArray,List.map_cons,List.map_nil]); rfl) ?_; (with_reducible refine (spec_l4Of.calls k1 ((rd_T63 l0 x4_1).f0) ((rd_T63 l0 x4_1).f1) ((rd_T63 l0 x4_1).f2) ((rd_T63 l0 x4_1).f3) _ _ ((rd_T63 l0 x4_1).f4) t252 _ ?side1 ?side2 A4.out).mono ?_); (case side1 => repeat (exact (Kd.C_below HR251_4.out HB.out))); (case side2 => exact HC251_4.out); rintro e w5 ⟨rfl,hb⟩; refine ⟨_,rfl,?_⟩; replace HB := bst HB hb; (try clear hb); skip))
     go_roundg k1
     case measure => have := HK1.out; omega
     case rel => exact ⟨(wrap64 (x3_1 + t252)),(wrap64 (x4_1 + 1)),(by rfl),(by rfl),H',⟨by have := HK1.out; omega⟩,⟨HB.out⟩⟩
    ·rw [if_neg c3] at H;exact absurd H (by simp)
   ·rw [if_neg c2] at H;have c2b0 := decide_eq_false c2;clear c2;obtain rfl := Option.some.inj H;go_wp2;go_ret;exact ⟨by rfl,HB.out⟩

end Go.Proofs.Ytcbpfofkdipjhaa.PV
