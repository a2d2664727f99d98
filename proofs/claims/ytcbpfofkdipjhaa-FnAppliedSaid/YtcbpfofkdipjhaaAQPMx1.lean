/- The machine's side of Go functions: each as a plain function,and that the call does what it says. Written by a program (wip/mprint). -/
import Derived.Test.YtcbpfofkdipjhaaAQPMx0
namespace Go.Proofs.Ytcbpfofkdipjhaa.PM
open Go.RowKit Go.Proofs.YtcbpfofkdipjhaaW.PrintWords Go.Proofs.YtcbpfofkdipjhaaW.PrintLast Go.Proofs.YtcbpfofkdipjhaaW.PrintMore
attribute [local go_sem] max2_int min2_int max_two min_two max_three min_three max_four min_four   -- for this text's walks alone
set_option linter.unusedVariables false
set_option linter.unusedSimpArgs false

/-! ### spec_l1In: function 91 -/
def spec_l1In.f (a0 : Int) (a1 : Int) (a2 : Int) : Option (Bool) := if a0 ≥ a1 then (some (decide (a0 ≤ a2))) else (some false)
set_option maxHeartbeats 8000000 in
set_option maxRecDepth 100000 in
theorem spec_l1In.calls (a0 : Int) (a1 : Int) (a2 : Int) (r : Bool) (w : World) (h : spec_l1In.f a0 a1 a2 = some r) :
  Calls Try.prog 91 #[.int .i64 a0,.int .i64 a1,.int .i64 a2] w fun e w' => e = .returned (.bool r) ∧ Drawn0 w w' := by
 have H : (if a0 ≥ a1 then (some (decide (a0 ≤ a2))) else (some false)) = some r := h;clear h
 by_cases c4 : a0 ≥ a1
 ·rw [if_pos c4] at H;have c4b0 : decide (a1 ≤ a0) = true := decide_eq_true c4;clear c4;obtain rfl := Option.some.inj H;go_enter Try.func91,Try.ntmps91;go_wp2;go_ret;exact ⟨by rfl,by repeat (exact Drawn0.refl _)⟩
 ·rw [if_neg c4] at H;have c4b0 : decide (a1 ≤ a0) = false := decide_eq_false c4;clear c4;obtain rfl := Option.some.inj H;go_enter Try.func91,Try.ntmps91;go_wp2;go_ret;exact ⟨by rfl,by repeat (exact Drawn0.refl _)⟩

/-! ### spec_NameOk: function 90 -/
def spec_NameOk.l0 : Nat → ByteArray → Int → Option (Bool)
 | 0,_,_ => none
 | k + 1,x0,x3 => if x3 < (x0.size : Int) then (if 0 ≤ x3 then ((spec_l1In.f (wrap64 (bt x0 x3)) 97 122).bind fun t102 => (if t102 = true then (spec_NameOk.l0 k x0 (wrap64 (x3 + 1))) else ((spec_l1In.f (wrap64 (bt x0 x3)) 48 57).bind fun t103 => (if t103 = true then (spec_NameOk.l0 k x0 (wrap64 (x3 + 1))) else (some false))))) else (none)) else ((spec_l1In.f (x0.size : Int) 1 8).bind fun t101 => (some t101))
def spec_NameOk.f (k : Nat) (a0 : ByteArray) : Option (Bool) := spec_NameOk.l0 k a0 0
set_option maxHeartbeats 8000000 in
set_option maxRecDepth 100000 in
theorem spec_NameOk.calls (k : Nat) (a0 : ByteArray) (r : Bool) (w : World) (h : spec_NameOk.f k a0 = some r) :
  Calls Try.prog 90 #[.string a0] w fun e w' => e = .returned (.bool r) ∧ Drawn0 w w' := by
 have H : (spec_NameOk.l0 k a0 0) = some r := h;clear h;have H' := Aside0.mk H;clear H;go_enter Try.func90,Try.ntmps90;go_wp2
 go_loopg [3] k (fun kq v3 w' => ∃ (x3_1 : Int),v3 = .int .i64 x3_1 ∧ Aside0 (spec_NameOk.l0 kq a0 x3_1 = some r) ∧ Aside0 (kq ≤ k) ∧ Drawn0 w w')
 case atStart => exact ⟨(0),(by rfl),H',⟨Nat.le_refl _⟩,by repeat (exact Drawn0.refl _)⟩
 case round =>
  clear H';obtain ⟨x3_1,rfl,HA,HK1,⟨m1,rfl⟩⟩ := hrel
  cases gk with
  | zero => exact absurd HA.out (by simp [spec_NameOk.l0])
  | succ k1 =>
   have H := HA.out;clear HA;simp only [spec_NameOk.l0] at H
   by_cases c2 : x3_1 < (a0.size : Int)
   ·rw [if_pos c2] at H;have c2b0 : decide (x3_1 < (a0.size : Int)) = true := decide_eq_true c2;clear c2
    by_cases c3 : 0 ≤ x3_1
    ·rw [if_pos c3] at H;have c3b0 : decide (0 ≤ x3_1) = true := decide_eq_true c3;clear c3;replace H := Option.bind_eq_some_iff.mp H;obtain ⟨t102,A50,H⟩ := H;replace H : (if t102 = true then (spec_NameOk.l0 k1 a0 (wrap64 (x3_1 + 1))) else ((spec_l1In.f (wrap64 (bt a0 x3_1)) 48 57).bind fun t103 => (if t103 = true then (spec_NameOk.l0 k1 a0 (wrap64 (x3_1 + 1))) else (some false)))) = some r := H;have A5 := Aside0.mk A50;clear A50
     by_cases c6 : t102 = true
     ·subst c6
      rw [if_pos rfl] at H
      have H' := Aside0.mk H;clear H;have p4 : 0 ≤ (x3_1 : Int) := of_decide_eq_true (by (with_reducible assumption));have q4 : x3_1 < (a0.size : Int) := of_decide_eq_true (by (with_reducible assumption));have hx4 := bt_at a0 x3_1;replace p4 := eq_true p4;replace q4 := eq_true q4
      go_wp2_with (((with_reducible refine gate_callee (f := 91) rfl ?_); refine goesL_ (some 14) rfl rfl Try.func91 (by kernel_rfl) rfl #[.int .i64 (wrap64 (bt a0 x3_1)),.int .i64 97,.int .i64 122] rfl (by (try simp only [List.map_toArray,List.map_cons,List.map_nil]); rfl) ?_; (with_reducible refine (spec_l1In.calls (wrap64 (bt a0 x3_1)) 97 122 true _ A5.out).mono ?_); rintro e w' ⟨rfl,⟨nd,rfl⟩⟩; refine ⟨_,rfl,?_⟩))
      go_roundg k1
      case measure => have := HK1.out; omega
      case rel => exact ⟨(wrap64 (x3_1 + 1)),(by rfl),H',⟨by have := HK1.out; omega⟩,by repeat (first | exact Drawn0.refl _ | apply Drawn0.step)⟩
     ·replace c6 := Bool.eq_false_iff.mpr c6;subst c6
      rw [if_neg (show ¬ (false = true) by decide)] at H
      replace H := Option.bind_eq_some_iff.mp H;obtain ⟨t103,A80,H⟩ := H;replace H : (if t103 = true then (spec_NameOk.l0 k1 a0 (wrap64 (x3_1 + 1))) else (some false)) = some r := H;have A8 := Aside0.mk A80;clear A80
      by_cases c9 : t103 = true
      ·subst c9
       rw [if_pos rfl] at H
       have H' := Aside0.mk H;clear H;have p4 : 0 ≤ (x3_1 : Int) := of_decide_eq_true (by (with_reducible assumption));have q4 : x3_1 < (a0.size : Int) := of_decide_eq_true (by (with_reducible assumption));have hx4 := bt_at a0 x3_1;replace p4 := eq_true p4;replace q4 := eq_true q4
       go_wp2_with (first | ((with_reducible refine gate_callee (f := 91) rfl ?_); refine goesL_ (some 14) rfl rfl Try.func91 (by kernel_rfl) rfl #[.int .i64 (wrap64 (bt a0 x3_1)),.int .i64 97,.int .i64 122] rfl (by (try simp only [List.map_toArray,List.map_cons,List.map_nil]); rfl) ?_; (with_reducible refine (spec_l1In.calls (wrap64 (bt a0 x3_1)) 97 122 false _ A5.out).mono ?_); rintro e w' ⟨rfl,⟨nd,rfl⟩⟩; refine ⟨_,rfl,?_⟩; have p7 : 0 ≤ (x3_1 : Int) := of_decide_eq_true (by (with_reducible assumption)); have q7 : x3_1 < (a0.size : Int) := of_decide_eq_true (by (with_reducible assumption)); have hx7 := bt_at a0 x3_1; replace p7 := eq_true p7; replace q7 := eq_true q7) | (go_at_call 91; (with_reducible refine (spec_l1In.calls (wrap64 (bt a0 x3_1)) 48 57 true _ A8.out).mono ?_); rintro e w' ⟨rfl,⟨nd,rfl⟩⟩))
       go_roundg k1
       case measure => have := HK1.out; omega
       case rel => exact ⟨(wrap64 (x3_1 + 1)),(by rfl),H',⟨by have := HK1.out; omega⟩,by repeat (first | exact Drawn0.refl _ | apply Drawn0.step)⟩
      ·replace c9 := Bool.eq_false_iff.mpr c9;subst c9
       rw [if_neg (show ¬ (false = true) by decide)] at H
       obtain rfl := Option.some.inj H;have p4 : 0 ≤ (x3_1 : Int) := of_decide_eq_true (by (with_reducible assumption));have q4 : x3_1 < (a0.size : Int) := of_decide_eq_true (by (with_reducible assumption));have hx4 := bt_at a0 x3_1;replace p4 := eq_true p4;replace q4 := eq_true q4
       go_wp2_with (first | ((with_reducible refine gate_callee (f := 91) rfl ?_); refine goesL_ (some 14) rfl rfl Try.func91 (by kernel_rfl) rfl #[.int .i64 (wrap64 (bt a0 x3_1)),.int .i64 97,.int .i64 122] rfl (by (try simp only [List.map_toArray,List.map_cons,List.map_nil]); rfl) ?_; (with_reducible refine (spec_l1In.calls (wrap64 (bt a0 x3_1)) 97 122 false _ A5.out).mono ?_); rintro e w' ⟨rfl,⟨nd,rfl⟩⟩; refine ⟨_,rfl,?_⟩; have p7 : 0 ≤ (x3_1 : Int) := of_decide_eq_true (by (with_reducible assumption)); have q7 : x3_1 < (a0.size : Int) := of_decide_eq_true (by (with_reducible assumption)); have hx7 := bt_at a0 x3_1; replace p7 := eq_true p7; replace q7 := eq_true q7) | (go_at_call 91; (with_reducible refine (spec_l1In.calls (wrap64 (bt a0 x3_1)) 48 57 false _ A8.out).mono ?_); rintro e w' ⟨rfl,⟨nd,rfl⟩⟩))
       go_ret;exact ⟨by rfl,by repeat (first | exact Drawn0.refl _ | apply Drawn0.step)⟩
    ·rw [if_neg c3] at H;exact absurd H (by simp)
   ·rw [if_neg c2] at H;have c2b0 : decide (x3_1 < (a0.size : Int)) = false := decide_eq_false c2;clear c2;replace H := Option.bind_eq_some_iff.mp H;obtain ⟨t101,A100,H⟩ := H;replace H : (some t101) = some r := H;have A10 := Aside0.mk A100;clear A100;obtain rfl := Option.some.inj H
    go_wp2_with (((with_reducible refine gate_callee (f := 91) rfl ?_); refine goesL_ (some 26) rfl rfl Try.func91 (by kernel_rfl) rfl #[.int .i64 (a0.size : Int),.int .i64 1,.int .i64 8] rfl (by (try simp only [List.map_toArray,List.map_cons,List.map_nil]); rfl) ?_; (with_reducible refine (spec_l1In.calls (a0.size : Int) 1 8 t101 _ A10.out).mono ?_); rintro e w' ⟨rfl,⟨nd,rfl⟩⟩; refine ⟨_,rfl,?_⟩))
    go_ret;exact ⟨by rfl,by repeat (first | exact Drawn0.refl _ | apply Drawn0.step)⟩

/-! ### spec_AcctOk: function 123 -/
mutual
def spec_AcctOk.j0 : Nat → Bool → ByteArray → Int → Int → Int → List (S65) → Option (Bool)
 | 0,_,_,_,_,_,_ => none
 | k + 1,x32,x105000,x105001,x105002,x105003,x105004 => if x32 = true then (some false) else (spec_AcctOk.l0 k 0 x105000 x105001 x105002 x105003 x105004)
def spec_AcctOk.l0 : Nat → Int → ByteArray → Int → Int → Int → List (S65) → Option (Bool)
 | 0,_,_,_,_,_,_ => none
 | k + 1,x3,x105000,x105001,x105002,x105003,x105004 => if x3 < (x105004.length : Int) then (if 0 ≤ x3 then ((spec_l1In.f ((rd_T65 x105004 x3).f0) 1 1000000).bind fun t111 => (if t111 = true then ((spec_l1In.f ((rd_T65 x105004 x3).f1) 0 1000).bind fun t112 => (if t112 = true then (if x3 > 0 then (if 0 ≤ (wrap64 (x3 - 1)) then (if (wrap64 (x3 - 1)) < (x105004.length : Int) then (if ((rd_T65 x105004 (wrap64 (x3 - 1))).f1) ≥ ((rd_T65 x105004 x3).f1) then (some false) else (spec_AcctOk.l0 k (wrap64 (x3 + 1)) x105000 x105001 x105002 x105003 x105004)) else (none)) else (none)) else (spec_AcctOk.l0 k (wrap64 (x3 + 1)) x105000 x105001 x105002 x105003 x105004)) else (some false))) else (some false))) else (none)) else (some true)
end
def spec_AcctOk.f (k : Nat) (a0_0 : ByteArray) (a0_1 : Int) (a0_2 : Int) (a0_3 : Int) (l0_4 : List (S65)) : Option (Bool) := (spec_NameOk.f k a0_0).bind fun t105 => (if t105 = true then ((spec_l1In.f a0_1 0 1000000).bind fun t106 => (if t106 = true then ((spec_l1In.f a0_2 0 10000).bind fun t107 => (if t107 = true then ((spec_l1In.f a0_3 0 1000000).bind fun t108 => (if t108 = true then (spec_AcctOk.j0 k (decide ((l0_4.length : Int) > 4)) a0_0 a0_1 a0_2 a0_3 l0_4) else (spec_AcctOk.j0 k true a0_0 a0_1 a0_2 a0_3 l0_4))) else (spec_AcctOk.j0 k true a0_0 a0_1 a0_2 a0_3 l0_4))) else (spec_AcctOk.j0 k true a0_0 a0_1 a0_2 a0_3 l0_4))) else (spec_AcctOk.j0 k true a0_0 a0_1 a0_2 a0_3 l0_4))
set_option maxHeartbeats 8000000 in
set_option maxRecDepth 100000 in
theorem spec_AcctOk.calls (k : Nat) (a0_0 : ByteArray) (a0_1 : Int) (a0_2 : Int) (a0_3 : Int) (A0_4 : Option Addr) (c0_4 : Nat) (l0_4 : List (S65)) (r : Bool) (w : World) (hr0_4 : Kd.C k65 w A0_4 l0_4.length l0_4) (hc0_4 : l0_4.length ≤ c0_4) (h : spec_AcctOk.f k a0_0 a0_1 a0_2 a0_3 l0_4 = some r) :
  Calls Try.prog 123 #[.agg #[.string a0_0,.int .i64 a0_1,.int .i64 a0_2,.int .i64 a0_3,.slice A0_4 l0_4.length c0_4]] w fun e w' => e = .returned (.bool r) ∧ Below w.heap.size w w' := by
 have hu63 := Try.underlying63;have hu65 := Try.underlying65;have HR0_4 := Aside0.mk hr0_4;have HC0_4 := Aside0.mk hc0_4;clear hr0_4 hc0_4;have HB := Aside0.mk (Below.refl w.heap.size w);have H : ((spec_NameOk.f k a0_0).bind fun t105 => (if t105 = true then ((spec_l1In.f a0_1 0 1000000).bind fun t106 => (if t106 = true then ((spec_l1In.f a0_2 0 10000).bind fun t107 => (if t107 = true then ((spec_l1In.f a0_3 0 1000000).bind fun t108 => (if t108 = true then (spec_AcctOk.j0 k (decide ((l0_4.length : Int) > 4)) a0_0 a0_1 a0_2 a0_3 l0_4) else (spec_AcctOk.j0 k true a0_0 a0_1 a0_2 a0_3 l0_4))) else (spec_AcctOk.j0 k true a0_0 a0_1 a0_2 a0_3 l0_4))) else (spec_AcctOk.j0 k true a0_0 a0_1 a0_2 a0_3 l0_4))) else (spec_AcctOk.j0 k true a0_0 a0_1 a0_2 a0_3 l0_4))) = some r := h;clear h;have HC2 := Aside0.mk H;clear H;go_enter Try.func123,Try.ntmps123
 go_upto_region 1 with (((with_reducible refine gate_dst (N := 1) rfl ?_); (try (refine gate_guard (by rfl) ?_; dsimp only)); refine box_event ?hg (N := 1) ?hd (cs := #[.string a0_0,.int .i64 a0_1,.int .i64 a0_2,.int .i64 a0_3,.slice A0_4 l0_4.length c0_4]) (t := 63) ?hr ?_; (case hd => rfl); (case hg => rfl); (case hr => (go_simp; done)); intro gb104 hg w3 hbox hb; have n0_ := Aside0.mk (below_step HB.out hb); have n1_ := Aside0.mk (hbox); have n2_ := Aside0.mk (by rw [hg]; exact (below_size HB.out) : w.heap.size ≤ gb104); have n3_ := Aside0.mk (by rw [hg]; exact (below_size HB.out) : w.heap.size ≤ gb104); clear HB; have HB := n0_; have BK104 := n1_; have GW104 := n2_; have GE104 := n3_; clear n0_ n1_ n2_ n3_; clear hb hbox hg))
 repeat (go_quiet (fail); go_upto_region 1 with (fail))
 skip
 go_cut [32] (fun v32 wc => ∃ (kq : Nat) (x32_1 : Bool),v32 = .bool x32_1 ∧ Aside0 (spec_AcctOk.j0 kq x32_1 a0_0 a0_1 a0_2 a0_3 l0_4 = some r) ∧ Aside0 (kq ≤ k) ∧ Aside0 (wc.heap[gb104]? = some (.cells #[.string a0_0,.int .i64 a0_1,.int .i64 a0_2,.int .i64 a0_3,(.slice A0_4 l0_4.length c0_4)] 63 (0,0))) ∧ Aside0 (Below w.heap.size w wc))
 case first =>
  have H := HC2.out;clear HC2;replace H := Option.bind_eq_some_iff.mp H;obtain ⟨t105,A40,H⟩ := H;replace H : (if t105 = true then ((spec_l1In.f a0_1 0 1000000).bind fun t106 => (if t106 = true then ((spec_l1In.f a0_2 0 10000).bind fun t107 => (if t107 = true then ((spec_l1In.f a0_3 0 1000000).bind fun t108 => (if t108 = true then (spec_AcctOk.j0 k (decide ((l0_4.length : Int) > 4)) a0_0 a0_1 a0_2 a0_3 l0_4) else (spec_AcctOk.j0 k true a0_0 a0_1 a0_2 a0_3 l0_4))) else (spec_AcctOk.j0 k true a0_0 a0_1 a0_2 a0_3 l0_4))) else (spec_AcctOk.j0 k true a0_0 a0_1 a0_2 a0_3 l0_4))) else (spec_AcctOk.j0 k true a0_0 a0_1 a0_2 a0_3 l0_4)) = some r := H;have A4 := Aside0.mk A40;clear A40
  by_cases c5 : t105 = true
  ·subst c5
   rw [if_pos rfl] at H
   replace H := Option.bind_eq_some_iff.mp H;obtain ⟨t106,A60,H⟩ := H;replace H : (if t106 = true then ((spec_l1In.f a0_2 0 10000).bind fun t107 => (if t107 = true then ((spec_l1In.f a0_3 0 1000000).bind fun t108 => (if t108 = true then (spec_AcctOk.j0 k (decide ((l0_4.length : Int) > 4)) a0_0 a0_1 a0_2 a0_3 l0_4) else (spec_AcctOk.j0 k true a0_0 a0_1 a0_2 a0_3 l0_4))) else (spec_AcctOk.j0 k true a0_0 a0_1 a0_2 a0_3 l0_4))) else (spec_AcctOk.j0 k true a0_0 a0_1 a0_2 a0_3 l0_4)) = some r := H;have A6 := Aside0.mk A60;clear A60
   by_cases c7 : t106 = true
   ·subst c7
    rw [if_pos rfl] at H
    replace H := Option.bind_eq_some_iff.mp H;obtain ⟨t107,A80,H⟩ := H;replace H : (if t107 = true then ((spec_l1In.f a0_3 0 1000000).bind fun t108 => (if t108 = true then (spec_AcctOk.j0 k (decide ((l0_4.length : Int) > 4)) a0_0 a0_1 a0_2 a0_3 l0_4) else (spec_AcctOk.j0 k true a0_0 a0_1 a0_2 a0_3 l0_4))) else (spec_AcctOk.j0 k true a0_0 a0_1 a0_2 a0_3 l0_4)) = some r := H;have A8 := Aside0.mk A80;clear A80
    by_cases c9 : t107 = true
    ·subst c9
     rw [if_pos rfl] at H
     replace H := Option.bind_eq_some_iff.mp H;obtain ⟨t108,A100,H⟩ := H;replace H : (if t108 = true then (spec_AcctOk.j0 k (decide ((l0_4.length : Int) > 4)) a0_0 a0_1 a0_2 a0_3 l0_4) else (spec_AcctOk.j0 k true a0_0 a0_1 a0_2 a0_3 l0_4)) = some r := H;have A10 := Aside0.mk A100;clear A100
     by_cases c11 : t108 = true
     ·subst c11
      rw [if_pos rfl] at H
      have H' := Aside0.mk H;clear H;obtain ⟨⟨hcz12_0,hcz12_1,hcz12_2,hcz12_3,hcz12_4⟩,hfz12_0,hfz12_1,hfz12_2,hfz12_3,hfz12_4⟩ := bc5 BK104.out
      go_wp2_with (first | (go_at_call 90; (with_reducible refine (spec_NameOk.calls k a0_0 true _ A4.out).mono ?_); rintro e w' ⟨rfl,⟨nd,rfl⟩⟩; skip) | (go_at_call 91; (with_reducible refine (spec_l1In.calls a0_1 0 1000000 true _ A6.out).mono ?_); rintro e w' ⟨rfl,⟨nd,rfl⟩⟩; skip) | (go_at_call 91; (with_reducible refine (spec_l1In.calls a0_2 0 10000 true _ A8.out).mono ?_); rintro e w' ⟨rfl,⟨nd,rfl⟩⟩; skip) | (go_at_call 91; (with_reducible refine (spec_l1In.calls a0_3 0 1000000 true _ A10.out).mono ?_); rintro e w' ⟨rfl,⟨nd,rfl⟩⟩; skip))
      repeat (go_quiet (fail); try go_wp2_with (fail))
      go_meet
      case rel => exact ⟨_,(decide ((l0_4.length : Int) > 4)),(by rfl),H',⟨by omega⟩,⟨by (with_reducible repeat (refine blk_drewN ?_ _)); exact BK104.out⟩,⟨by repeat (with_reducible first | exact HB.out | apply pw_below_drewN)⟩⟩
     ·replace c11 := Bool.eq_false_iff.mpr c11;subst c11
      rw [if_neg (show ¬ (false = true) by decide)] at H
      have H' := Aside0.mk H;clear H;obtain ⟨⟨hcz13_0,hcz13_1,hcz13_2,hcz13_3,hcz13_4⟩,hfz13_0,hfz13_1,hfz13_2,hfz13_3,hfz13_4⟩ := bc5 BK104.out
      go_wp2_with (first | (go_at_call 90; (with_reducible refine (spec_NameOk.calls k a0_0 true _ A4.out).mono ?_); rintro e w' ⟨rfl,⟨nd,rfl⟩⟩; skip) | (go_at_call 91; (with_reducible refine (spec_l1In.calls a0_1 0 1000000 true _ A6.out).mono ?_); rintro e w' ⟨rfl,⟨nd,rfl⟩⟩; skip) | (go_at_call 91; (with_reducible refine (spec_l1In.calls a0_2 0 10000 true _ A8.out).mono ?_); rintro e w' ⟨rfl,⟨nd,rfl⟩⟩; skip) | (go_at_call 91; (with_reducible refine (spec_l1In.calls a0_3 0 1000000 false _ A10.out).mono ?_); rintro e w' ⟨rfl,⟨nd,rfl⟩⟩; skip))
      repeat (go_quiet (fail); try go_wp2_with (fail))
      go_meet
      case rel => exact ⟨_,(true),(by rfl),H',⟨by omega⟩,⟨by (with_reducible repeat (refine blk_drewN ?_ _)); exact BK104.out⟩,⟨by repeat (with_reducible first | exact HB.out | apply pw_below_drewN)⟩⟩
    ·replace c9 := Bool.eq_false_iff.mpr c9;subst c9
     rw [if_neg (show ¬ (false = true) by decide)] at H
     have H' := Aside0.mk H;clear H;obtain ⟨⟨hcz14_0,hcz14_1,hcz14_2,hcz14_3,hcz14_4⟩,hfz14_0,hfz14_1,hfz14_2,hfz14_3,hfz14_4⟩ := bc5 BK104.out
     go_wp2_with (first | (go_at_call 90; (with_reducible refine (spec_NameOk.calls k a0_0 true _ A4.out).mono ?_); rintro e w' ⟨rfl,⟨nd,rfl⟩⟩; skip) | (go_at_call 91; (with_reducible refine (spec_l1In.calls a0_1 0 1000000 true _ A6.out).mono ?_); rintro e w' ⟨rfl,⟨nd,rfl⟩⟩; skip) | (go_at_call 91; (with_reducible refine (spec_l1In.calls a0_2 0 10000 false _ A8.out).mono ?_); rintro e w' ⟨rfl,⟨nd,rfl⟩⟩; skip))
     repeat (go_quiet (fail); try go_wp2_with (fail))
     go_meet
     case rel => exact ⟨_,(true),(by rfl),H',⟨by omega⟩,⟨by (with_reducible repeat (refine blk_drewN ?_ _)); exact BK104.out⟩,⟨by repeat (with_reducible first | exact HB.out | apply pw_below_drewN)⟩⟩
   ·replace c7 := Bool.eq_false_iff.mpr c7;subst c7
    rw [if_neg (show ¬ (false = true) by decide)] at H
    have H' := Aside0.mk H;clear H;obtain ⟨⟨hcz15_0,hcz15_1,hcz15_2,hcz15_3,hcz15_4⟩,hfz15_0,hfz15_1,hfz15_2,hfz15_3,hfz15_4⟩ := bc5 BK104.out
    go_wp2_with (first | (go_at_call 90; (with_reducible refine (spec_NameOk.calls k a0_0 true _ A4.out).mono ?_); rintro e w' ⟨rfl,⟨nd,rfl⟩⟩; skip) | (go_at_call 91; (with_reducible refine (spec_l1In.calls a0_1 0 1000000 false _ A6.out).mono ?_); rintro e w' ⟨rfl,⟨nd,rfl⟩⟩; skip))
    repeat (go_quiet (fail); try go_wp2_with (fail))
    go_meet
    case rel => exact ⟨_,(true),(by rfl),H',⟨by omega⟩,⟨by (with_reducible repeat (refine blk_drewN ?_ _)); exact BK104.out⟩,⟨by repeat (with_reducible first | exact HB.out | apply pw_below_drewN)⟩⟩
  ·replace c5 := Bool.eq_false_iff.mpr c5;subst c5
   rw [if_neg (show ¬ (false = true) by decide)] at H
   have H' := Aside0.mk H;clear H;obtain ⟨⟨hcz16_0,hcz16_1,hcz16_2,hcz16_3,hcz16_4⟩,hfz16_0,hfz16_1,hfz16_2,hfz16_3,hfz16_4⟩ := bc5 BK104.out
   go_wp2_with ((go_at_call 90; (with_reducible refine (spec_NameOk.calls k a0_0 false _ A4.out).mono ?_); rintro e w' ⟨rfl,⟨nd,rfl⟩⟩; skip))
   repeat (go_quiet (fail); try go_wp2_with (fail))
   go_meet
   case rel => exact ⟨_,(true),(by rfl),H',⟨by omega⟩,⟨by (with_reducible repeat (refine blk_drewN ?_ _)); exact BK104.out⟩,⟨by repeat (with_reducible first | exact HB.out | apply pw_below_drewN)⟩⟩
 case rest =>
  clear HC2
  try clear c1
  try clear p2
  try clear c5
  try clear c7
  try clear c9
  try clear c11
  try clear c12
  try clear hcz12_0
  try clear hcz12_1
  try clear hcz12_2
  try clear hcz12_3
  try clear hcz12_4
  try clear hcz13_0
  try clear hcz13_1
  try clear hcz13_2
  try clear hcz13_3
  try clear hcz13_4
  try clear hcz14_0
  try clear hcz14_1
  try clear hcz14_2
  try clear hcz14_3
  try clear hcz14_4
  try clear hcz15_0
  try clear hcz15_1
  try clear hcz15_2
  try clear hcz15_3
  try clear hcz15_4
  try clear hcz16_0
  try clear hcz16_1
  try clear hcz16_2
  try clear hcz16_3
  try clear hcz16_4
  try clear hfz12_0
  try clear hfz12_1
  try clear hfz12_2
  try clear hfz12_3
  try clear hfz12_4
  try clear hfz13_0
  try clear hfz13_1
  try clear hfz13_2
  try clear hfz13_3
  try clear hfz13_4
  try clear hfz14_0
  try clear hfz14_1
  try clear hfz14_2
  try clear hfz14_3
  try clear hfz14_4
  try clear hfz15_0
  try clear hfz15_1
  try clear hfz15_2
  try clear hfz15_3
  try clear hfz15_4
  try clear hfz16_0
  try clear hfz16_1
  try clear hfz16_2
  try clear hfz16_3
  try clear hfz16_4
  obtain ⟨kq,x32_1,rfl,HA,HJ1,BK104,HB⟩ := hcut
  cases kq with
  | zero => exact absurd HA.out (by simp [spec_AcctOk.j0])
  | succ kj1 =>
   have H := HA.out;clear HA;simp only [spec_AcctOk.j0] at H
   by_cases c17 : x32_1 = true
   ·subst c17
    rw [if_pos rfl] at H
    obtain rfl := Option.some.inj H;go_wp2
    repeat (go_quiet (fail); try go_wp2)
    go_ret;exact ⟨by rfl,HB.out⟩
   ·replace c17 := Bool.eq_false_iff.mpr c17;subst c17
    rw [if_neg (show ¬ (false = true) by decide)] at H
    have H' := Aside0.mk H;clear H;go_wp2
    repeat (go_quiet (fail); try go_wp2)
    go_loopg [3] kj1 (fun kq v3 w' => ∃ (x3_2 : Int),v3 = .int .i64 x3_2 ∧ Aside0 (spec_AcctOk.l0 kq x3_2 a0_0 a0_1 a0_2 a0_3 l0_4 = some r) ∧ Aside0 (kq ≤ kj1) ∧ Aside0 (w'.heap[gb104]? = some (.cells #[.string a0_0,.int .i64 a0_1,.int .i64 a0_2,.int .i64 a0_3,(.slice A0_4 l0_4.length c0_4)] 63 (0,0))) ∧ Aside0 (Below w.heap.size w w'))
    case atStart => exact ⟨(0),(by rfl),H',⟨Nat.le_refl _⟩,⟨by exact BK104.out⟩,⟨HB.out⟩⟩
    case round =>
     clear H'
     try clear c1
     try clear p2
     try clear c5
     try clear c7
     try clear c9
     try clear c11
     try clear c12
     try clear c17
     try clear hcz12_0
     try clear hcz12_1
     try clear hcz12_2
     try clear hcz12_3
     try clear hcz12_4
     try clear hcz13_0
     try clear hcz13_1
     try clear hcz13_2
     try clear hcz13_3
     try clear hcz13_4
     try clear hcz14_0
     try clear hcz14_1
     try clear hcz14_2
     try clear hcz14_3
     try clear hcz14_4
     try clear hcz15_0
     try clear hcz15_1
     try clear hcz15_2
     try clear hcz15_3
     try clear hcz15_4
     try clear hcz16_0
     try clear hcz16_1
     try clear hcz16_2
     try clear hcz16_3
     try clear hcz16_4
     try clear hfz12_0
     try clear hfz12_1
     try clear hfz12_2
     try clear hfz12_3
     try clear hfz12_4
     try clear hfz13_0
     try clear hfz13_1
     try clear hfz13_2
     try clear hfz13_3
     try clear hfz13_4
     try clear hfz14_0
     try clear hfz14_1
     try clear hfz14_2
     try clear hfz14_3
     try clear hfz14_4
     try clear hfz15_0
     try clear hfz15_1
     try clear hfz15_2
     try clear hfz15_3
     try clear hfz15_4
     try clear hfz16_0
     try clear hfz16_1
     try clear hfz16_2
     try clear hfz16_3
     try clear hfz16_4
     try clear p2
     obtain ⟨x3_2,rfl,HA,HK2,BK104,HB⟩ := hrel
     cases gk with
     | zero => exact absurd HA.out (by simp [spec_AcctOk.l0])
     | succ k2 =>
      have H := HA.out;clear HA;simp only [spec_AcctOk.l0] at H
      by_cases c18 : x3_2 < (l0_4.length : Int)
      ·rw [if_pos c18] at H;have c18b0 : decide (x3_2 < (l0_4.length : Int)) = true := decide_eq_true c18;clear c18
       by_cases c19 : 0 ≤ x3_2
       ·rw [if_pos c19] at H;have c19b0 : decide (0 ≤ x3_2) = true := decide_eq_true c19;clear c19;replace H := Option.bind_eq_some_iff.mp H;obtain ⟨t111,A200,H⟩ := H;replace H : (if t111 = true then ((spec_l1In.f ((rd_T65 l0_4 x3_2).f1) 0 1000).bind fun t112 => (if t112 = true then (if x3_2 > 0 then (if 0 ≤ (wrap64 (x3_2 - 1)) then (if (wrap64 (x3_2 - 1)) < (l0_4.length : Int) then (if ((rd_T65 l0_4 (wrap64 (x3_2 - 1))).f1) ≥ ((rd_T65 l0_4 x3_2).f1) then (some false) else (spec_AcctOk.l0 k2 (wrap64 (x3_2 + 1)) a0_0 a0_1 a0_2 a0_3 l0_4)) else (none)) else (none)) else (spec_AcctOk.l0 k2 (wrap64 (x3_2 + 1)) a0_0 a0_1 a0_2 a0_3 l0_4)) else (some false))) else (some false)) = some r := H;have A20 := Aside0.mk A200;clear A200
        by_cases c21 : t111 = true
        ·subst c21
         rw [if_pos rfl] at H
         replace H := Option.bind_eq_some_iff.mp H;obtain ⟨t112,A220,H⟩ := H;replace H : (if t112 = true then (if x3_2 > 0 then (if 0 ≤ (wrap64 (x3_2 - 1)) then (if (wrap64 (x3_2 - 1)) < (l0_4.length : Int) then (if ((rd_T65 l0_4 (wrap64 (x3_2 - 1))).f1) ≥ ((rd_T65 l0_4 x3_2).f1) then (some false) else (spec_AcctOk.l0 k2 (wrap64 (x3_2 + 1)) a0_0 a0_1 a0_2 a0_3 l0_4)) else (none)) else (none)) else (spec_AcctOk.l0 k2 (wrap64 (x3_2 + 1)) a0_0 a0_1 a0_2 a0_3 l0_4)) else (some false)) = some r := H;have A22 := Aside0.mk A220;clear A220
         by_cases c23 : t112 = true
         ·subst c23
          rw [if_pos rfl] at H
          by_cases c24 : x3_2 > 0
          ·rw [if_pos c24] at H;have c24b0 : decide (0 < x3_2) = true := decide_eq_true c24;clear c24;obtain ⟨ji25,hji25⟩ : ∃ j_ : Int,(wrap64 (x3_2 - 1)) = j_ := ⟨_,rfl⟩
           replace H : (if 0 ≤ (ji25) then (if (ji25) < (l0_4.length : Int) then (if ((rd_T65 l0_4 (ji25)).f1) ≥ ((rd_T65 l0_4 x3_2).f1) then (some false) else (spec_AcctOk.l0 k2 (wrap64 (x3_2 + 1)) a0_0 a0_1 a0_2 a0_3 l0_4)) else (none)) else (none)) = some r := by (rw [hji25] at H; exact H)
           skip
           skip
           have hji25w : (IntKind.i64.wrap (x3_2 - 1)) = ji25 := (i64_w _).trans hji25
           by_cases c26 : 0 ≤ (ji25)
           ·rw [if_pos c26] at H;have c26b0 : decide (0 ≤ (ji25)) = true := decide_eq_true c26;clear c26
            by_cases c27 : (ji25) < (l0_4.length : Int)
            ·rw [if_pos c27] at H;have c27b0 : decide ((ji25) < (l0_4.length : Int)) = true := decide_eq_true c27;clear c27
             by_cases c28 : ((rd_T65 l0_4 (ji25)).f1) ≥ ((rd_T65 l0_4 x3_2).f1)
             ·rw [if_pos c28] at H;have c28b0 : decide (((rd_T65 l0_4 x3_2).f1) ≤ ((rd_T65 l0_4 (ji25)).f1)) = true := decide_eq_true c28;clear c28;obtain rfl := Option.some.inj H;obtain ⟨⟨hcz29_0,hcz29_1,hcz29_2,hcz29_3,hcz29_4⟩,hfz29_0,hfz29_1,hfz29_2,hfz29_3,hfz29_4⟩ := bc5 BK104.out;have p109 : 0 ≤ (x3_2 : Int) := of_decide_eq_true (by (with_reducible assumption));have q109 : x3_2 < (l0_4.length : Int) := of_decide_eq_true (by (with_reducible assumption));obtain ⟨ad109,e109,hx109_0,hx109_1⟩ := at_T65 HR0_4.out x3_2 p109 q109
              cases e109
              replace hx109_0 := up_ HB.out hx109_0;replace hx109_1 := up_ HB.out hx109_1;replace p109 := eq_true p109;replace q109 := eq_true q109
              go_wp2_with ((with_reducible refine gate_dst (N := 4) rfl ?_); (try (refine gate_guard (by rfl) ?_; dsimp only)); refine box_event ?hg (N := 4) ?hd (cs := #[.int .i64 0,.int .i64 0]) (t := 65) ?hr ?_; (case hd => rfl); (case hg => rfl); (case hr => (go_simp; done)); intro gb110 hg w30 hbox hb; have n0_ := Aside0.mk (blk_below (g := gb104) (o := .cells #[.string a0_0,.int .i64 a0_1,.int .i64 a0_2,.int .i64 a0_3,.slice (some ad109) l0_4.length c0_4] 63 (0,0)) (by exact BK104.out) hb); have n1_ := Aside0.mk (below_step HB.out hb); have n2_ := Aside0.mk (hbox); have n3_ := Aside0.mk (by rw [hg]; exact (below_size HB.out) : w.heap.size ≤ gb110); have n4_ := Aside0.mk (by rw [hg]; exact (below_size HB.out) : w.heap.size ≤ gb110); have n5_ := Aside0.mk (by rw [hg]; exact Nat.ne_of_lt (blk_lt (g := gb104) (o := .cells #[.string a0_0,.int .i64 a0_1,.int .i64 a0_2,.int .i64 a0_3,.slice (some ad109) l0_4.length c0_4] 63 (0,0)) (by exact BK104.out)) : gb104 ≠ gb110); have n6_ := Aside0.mk (by rw [hg]; exact Nat.ne_of_gt (blk_lt (g := gb104) (o := .cells #[.string a0_0,.int .i64 a0_1,.int .i64 a0_2,.int .i64 a0_3,.slice (some ad109) l0_4.length c0_4] 63 (0,0)) (by exact BK104.out)) : gb110 ≠ gb104); clear BK104; clear HB; have BK104 := n0_; have HB := n1_; have BK110 := n2_; have GW110 := n3_; have GE110 := n4_; have NB104_110 := n5_; have NB110_104 := n6_; clear n0_ n1_ n2_ n3_ n4_ n5_ n6_; clear hb hbox hg; have hnb31 := NB110_104.out; have hnc31 := NB104_110.out; have hcz32_0 : w30.cell? ⟨gb110,0,none⟩ = some (.int .i64 0) := (blk_cell BK110.out 0).trans rfl; have hcz32_1 : w30.cell? ⟨gb110,1,none⟩ = some (.int .i64 0) := (blk_cell BK110.out 1).trans rfl; have hfz32_0 := blk_frozen BK110.out 0; have hfz32_1 := blk_frozen BK110.out 1)
              repeat (go_quiet (first | (go_at_call 91; (with_reducible refine (spec_l1In.calls ((rd_T65 l0_4 x3_2).f0) 1 1000000 true _ A20.out).mono ?_); rintro e w' ⟨rfl,⟨nd,rfl⟩⟩; (try first | exact ⟨rfl,_,World.drewN_drewN _ _ _⟩ | exact ⟨rfl,_,Eq.trans (World.drewN_drewN _ _ _) (congrArg (World.drewN _) (Nat.add_assoc _ _ _))⟩)) | (go_at_call 91; (with_reducible refine (spec_l1In.calls ((rd_T65 l0_4 x3_2).f1) 0 1000 true _ A22.out).mono ?_); rintro e w' ⟨rfl,⟨nd,rfl⟩⟩; (try first | exact ⟨rfl,_,World.drewN_drewN _ _ _⟩ | exact ⟨rfl,_,Eq.trans (World.drewN_drewN _ _ _) (congrArg (World.drewN _) (Nat.add_assoc _ _ _))⟩); have hcz33_0 : w30.cell? ⟨gb104,0,none⟩ = some (.string a0_0) := (blk_cell BK104.out 0).trans rfl; have hcz33_1 : w30.cell? ⟨gb104,1,none⟩ = some (.int .i64 a0_1) := (blk_cell BK104.out 1).trans rfl; have hcz33_2 : w30.cell? ⟨gb104,2,none⟩ = some (.int .i64 a0_2) := (blk_cell BK104.out 2).trans rfl; have hcz33_3 : w30.cell? ⟨gb104,3,none⟩ = some (.int .i64 a0_3) := (blk_cell BK104.out 3).trans rfl; have hcz33_4 : w30.cell? ⟨gb104,4,none⟩ = some (.slice (some ad109) l0_4.length c0_4) := (blk_cell BK104.out 4).trans rfl; have hfz33_0 := blk_frozen BK104.out 0; have hfz33_1 := blk_frozen BK104.out 1; have hfz33_2 := blk_frozen BK104.out 2; have hfz33_3 := blk_frozen BK104.out 3; have hfz33_4 := blk_frozen BK104.out 4; have p113 : 0 ≤ ((ji25) : Int) := of_decide_eq_true (by first | (with_reducible assumption) | assumption); have q113 : (ji25) < (l0_4.length : Int) := of_decide_eq_true (by first | (with_reducible assumption) | assumption); obtain ⟨ad113,e113,hx113_0,hx113_1⟩ := at_T65 HR0_4.out (ji25) p113 q113; obtain rfl : ad109 = ad113 := (by injection e113); have hn113_0 : ad109.block ≠ gb110 := Nat.ne_of_lt (Nat.lt_of_lt_of_le (by have := World.block_lt_of_cell? _ _ hx113_0; first | rwa [add_block] at this | exact this) GW110.out); have hn113_1 : ad109.block ≠ gb110 := Nat.ne_of_lt (Nat.lt_of_lt_of_le (by have := World.block_lt_of_cell? _ _ hx113_0; first | rwa [add_block] at this | exact this) GW110.out); replace hx113_0 := up_ HB.out hx113_0; replace hx113_1 := up_ HB.out hx113_1; replace hx113_0 := (cell_far (p := ⟨gb110,0,none⟩) (by first | (rw [add_block]; exact hn113_0) | (show (Addr.add _ _).block ≠ _; rw [add_block]; exact hn113_0) | exact hn113_0) (.int .i64 ((rd_T65 l0_4 x3_2).f0))).trans hx113_0; replace hx113_1 := (cell_far (p := ⟨gb110,0,none⟩) (by first | (rw [add_block]; exact hn113_0) | (show (Addr.add _ _).block ≠ _; rw [add_block]; exact hn113_0) | exact hn113_0) (.int .i64 ((rd_T65 l0_4 x3_2).f0))).trans hx113_1; replace hx113_0 := (cell_far (p := ⟨gb110,1,none⟩) (by first | (rw [add_block]; exact hn113_1) | (show (Addr.add _ _).block ≠ _; rw [add_block]; exact hn113_1) | exact hn113_1) (.int .i64 ((rd_T65 l0_4 x3_2).f1))).trans hx113_0; replace hx113_1 := (cell_far (p := ⟨gb110,1,none⟩) (by first | (rw [add_block]; exact hn113_1) | (show (Addr.add _ _).block ≠ _; rw [add_block]; exact hn113_1) | exact hn113_1) (.int .i64 ((rd_T65 l0_4 x3_2).f1))).trans hx113_1; (try have hy113_0 := fun (n_ : Nat) => (show (((w30.drewN n_).setCell ⟨gb110,0,none⟩ (.int .i64 ((rd_T65 l0_4 x3_2).f0))).setCell ⟨gb110,1,none⟩ (.int .i64 ((rd_T65 l0_4 x3_2).f1))).cell? _ = some _ from hx113_0)); (try have hy113_1 := fun (n_ : Nat) => (show (((w30.drewN n_).setCell ⟨gb110,0,none⟩ (.int .i64 ((rd_T65 l0_4 x3_2).f0))).setCell ⟨gb110,1,none⟩ (.int .i64 ((rd_T65 l0_4 x3_2).f1))).cell? _ = some _ from hx113_1)); clear hn113_0; clear hn113_1; replace p113 := eq_true p113; replace q113 := eq_true q113)); try go_wp2_with (fail))
              go_ret;exact ⟨by rfl,by repeat (with_reducible first | exact HB.out | apply pw_below_drewN | refine below_set ?_ GE110.out)⟩
             ·rw [if_neg c28] at H;have c28b0 : decide (((rd_T65 l0_4 x3_2).f1) ≤ ((rd_T65 l0_4 (ji25)).f1)) = false := decide_eq_false c28;clear c28;have H' := Aside0.mk H;clear H;obtain ⟨⟨hcz34_0,hcz34_1,hcz34_2,hcz34_3,hcz34_4⟩,hfz34_0,hfz34_1,hfz34_2,hfz34_3,hfz34_4⟩ := bc5 BK104.out;have p109 : 0 ≤ (x3_2 : Int) := of_decide_eq_true (by (with_reducible assumption));have q109 : x3_2 < (l0_4.length : Int) := of_decide_eq_true (by (with_reducible assumption));obtain ⟨ad109,e109,hx109_0,hx109_1⟩ := at_T65 HR0_4.out x3_2 p109 q109
              cases e109
              replace hx109_0 := up_ HB.out hx109_0;replace hx109_1 := up_ HB.out hx109_1;replace p109 := eq_true p109;replace q109 := eq_true q109
              go_wp2_with ((with_reducible refine gate_dst (N := 4) rfl ?_); (try (refine gate_guard (by rfl) ?_; dsimp only)); refine box_event ?hg (N := 4) ?hd (cs := #[.int .i64 0,.int .i64 0]) (t := 65) ?hr ?_; (case hd => rfl); (case hg => rfl); (case hr => (go_simp; done)); intro gb110 hg w35 hbox hb; have n0_ := Aside0.mk (blk_below (g := gb104) (o := .cells #[.string a0_0,.int .i64 a0_1,.int .i64 a0_2,.int .i64 a0_3,.slice (some ad109) l0_4.length c0_4] 63 (0,0)) (by exact BK104.out) hb); have n1_ := Aside0.mk (below_step HB.out hb); have n2_ := Aside0.mk (hbox); have n3_ := Aside0.mk (by rw [hg]; exact (below_size HB.out) : w.heap.size ≤ gb110); have n4_ := Aside0.mk (by rw [hg]; exact (below_size HB.out) : w.heap.size ≤ gb110); have n5_ := Aside0.mk (by rw [hg]; exact Nat.ne_of_lt (blk_lt (g := gb104) (o := .cells #[.string a0_0,.int .i64 a0_1,.int .i64 a0_2,.int .i64 a0_3,.slice (some ad109) l0_4.length c0_4] 63 (0,0)) (by exact BK104.out)) : gb104 ≠ gb110); have n6_ := Aside0.mk (by rw [hg]; exact Nat.ne_of_gt (blk_lt (g := gb104) (o := .cells #[.string a0_0,.int .i64 a0_1,.int .i64 a0_2,.int .i64 a0_3,.slice (some ad109) l0_4.length c0_4] 63 (0,0)) (by exact BK104.out)) : gb110 ≠ gb104); clear BK104; clear HB; have BK104 := n0_; have HB := n1_; have BK110 := n2_; have GW110 := n3_; have GE110 := n4_; have NB104_110 := n5_; have NB110_104 := n6_; clear n0_ n1_ n2_ n3_ n4_ n5_ n6_; clear hb hbox hg; have hnb36 := NB110_104.out; have hnc36 := NB104_110.out; have hcz37_0 : w35.cell? ⟨gb110,0,none⟩ = some (.int .i64 0) := (blk_cell BK110.out 0).trans rfl; have hcz37_1 : w35.cell? ⟨gb110,1,none⟩ = some (.int .i64 0) := (blk_cell BK110.out 1).trans rfl; have hfz37_0 := blk_frozen BK110.out 0; have hfz37_1 := blk_frozen BK110.out 1)
              repeat (go_quiet (first | (go_at_call 91; (with_reducible refine (spec_l1In.calls ((rd_T65 l0_4 x3_2).f0) 1 1000000 true _ A20.out).mono ?_); rintro e w' ⟨rfl,⟨nd,rfl⟩⟩; (try first | exact ⟨rfl,_,World.drewN_drewN _ _ _⟩ | exact ⟨rfl,_,Eq.trans (World.drewN_drewN _ _ _) (congrArg (World.drewN _) (Nat.add_assoc _ _ _))⟩)) | (go_at_call 91; (with_reducible refine (spec_l1In.calls ((rd_T65 l0_4 x3_2).f1) 0 1000 true _ A22.out).mono ?_); rintro e w' ⟨rfl,⟨nd,rfl⟩⟩; (try first | exact ⟨rfl,_,World.drewN_drewN _ _ _⟩ | exact ⟨rfl,_,Eq.trans (World.drewN_drewN _ _ _) (congrArg (World.drewN _) (Nat.add_assoc _ _ _))⟩); have hcz38_0 : w35.cell? ⟨gb104,0,none⟩ = some (.string a0_0) := (blk_cell BK104.out 0).trans rfl; have hcz38_1 : w35.cell? ⟨gb104,1,none⟩ = some (.int .i64 a0_1) := (blk_cell BK104.out 1).trans rfl; have hcz38_2 : w35.cell? ⟨gb104,2,none⟩ = some (.int .i64 a0_2) := (blk_cell BK104.out 2).trans rfl; have hcz38_3 : w35.cell? ⟨gb104,3,none⟩ = some (.int .i64 a0_3) := (blk_cell BK104.out 3).trans rfl; have hcz38_4 : w35.cell? ⟨gb104,4,none⟩ = some (.slice (some ad109) l0_4.length c0_4) := (blk_cell BK104.out 4).trans rfl; have hfz38_0 := blk_frozen BK104.out 0; have hfz38_1 := blk_frozen BK104.out 1; have hfz38_2 := blk_frozen BK104.out 2; have hfz38_3 := blk_frozen BK104.out 3; have hfz38_4 := blk_frozen BK104.out 4; have p113 : 0 ≤ ((ji25) : Int) := of_decide_eq_true (by first | (with_reducible assumption) | assumption); have q113 : (ji25) < (l0_4.length : Int) := of_decide_eq_true (by first | (with_reducible assumption) | assumption); obtain ⟨ad113,e113,hx113_0,hx113_1⟩ := at_T65 HR0_4.out (ji25) p113 q113; obtain rfl : ad109 = ad113 := (by injection e113); have hn113_0 : ad109.block ≠ gb110 := Nat.ne_of_lt (Nat.lt_of_lt_of_le (by have := World.block_lt_of_cell? _ _ hx113_0; first | rwa [add_block] at this | exact this) GW110.out); have hn113_1 : ad109.block ≠ gb110 := Nat.ne_of_lt (Nat.lt_of_lt_of_le (by have := World.block_lt_of_cell? _ _ hx113_0; first | rwa [add_block] at this | exact this) GW110.out); replace hx113_0 := up_ HB.out hx113_0; replace hx113_1 := up_ HB.out hx113_1; replace hx113_0 := (cell_far (p := ⟨gb110,0,none⟩) (by first | (rw [add_block]; exact hn113_0) | (show (Addr.add _ _).block ≠ _; rw [add_block]; exact hn113_0) | exact hn113_0) (.int .i64 ((rd_T65 l0_4 x3_2).f0))).trans hx113_0; replace hx113_1 := (cell_far (p := ⟨gb110,0,none⟩) (by first | (rw [add_block]; exact hn113_0) | (show (Addr.add _ _).block ≠ _; rw [add_block]; exact hn113_0) | exact hn113_0) (.int .i64 ((rd_T65 l0_4 x3_2).f0))).trans hx113_1; replace hx113_0 := (cell_far (p := ⟨gb110,1,none⟩) (by first | (rw [add_block]; exact hn113_1) | (show (Addr.add _ _).block ≠ _; rw [add_block]; exact hn113_1) | exact hn113_1) (.int .i64 ((rd_T65 l0_4 x3_2).f1))).trans hx113_0; replace hx113_1 := (cell_far (p := ⟨gb110,1,none⟩) (by first | (rw [add_block]; exact hn113_1) | (show (Addr.add _ _).block ≠ _; rw [add_block]; exact hn113_1) | exact hn113_1) (.int .i64 ((rd_T65 l0_4 x3_2).f1))).trans hx113_1; (try have hy113_0 := fun (n_ : Nat) => (show (((w35.drewN n_).setCell ⟨gb110,0,none⟩ (.int .i64 ((rd_T65 l0_4 x3_2).f0))).setCell ⟨gb110,1,none⟩ (.int .i64 ((rd_T65 l0_4 x3_2).f1))).cell? _ = some _ from hx113_0)); (try have hy113_1 := fun (n_ : Nat) => (show (((w35.drewN n_).setCell ⟨gb110,0,none⟩ (.int .i64 ((rd_T65 l0_4 x3_2).f0))).setCell ⟨gb110,1,none⟩ (.int .i64 ((rd_T65 l0_4 x3_2).f1))).cell? _ = some _ from hx113_1)); clear hn113_0; clear hn113_1; replace p113 := eq_true p113; replace q113 := eq_true q113)); try go_wp2_with (fail))
              go_roundg k2
              case measure => have := HJ1.out; have := HK2.out; omega
              case rel => exact ⟨(wrap64 (x3_2 + 1)),(by rfl),H',⟨by have := HJ1.out; have := HK2.out; omega⟩,⟨by (with_reducible repeat (refine blk_drewN ?_ _)); refine blk_far ?_ NB104_110.out _; refine blk_far ?_ NB104_110.out _; exact BK104.out⟩,⟨by repeat (with_reducible first | exact HB.out | apply pw_below_drewN | refine below_set ?_ GE110.out)⟩⟩
            ·rw [if_neg c27] at H;exact absurd H (by simp)
           ·rw [if_neg c26] at H;exact absurd H (by simp)
          ·rw [if_neg c24] at H;have c24b0 : decide (0 < x3_2) = false := decide_eq_false c24;clear c24;have H' := Aside0.mk H;clear H;obtain ⟨⟨hcz39_0,hcz39_1,hcz39_2,hcz39_3,hcz39_4⟩,hfz39_0,hfz39_1,hfz39_2,hfz39_3,hfz39_4⟩ := bc5 BK104.out;have p109 : 0 ≤ (x3_2 : Int) := of_decide_eq_true (by (with_reducible assumption));have q109 : x3_2 < (l0_4.length : Int) := of_decide_eq_true (by (with_reducible assumption));obtain ⟨ad109,e109,hx109_0,hx109_1⟩ := at_T65 HR0_4.out x3_2 p109 q109
           cases e109
           replace hx109_0 := up_ HB.out hx109_0;replace hx109_1 := up_ HB.out hx109_1;replace p109 := eq_true p109;replace q109 := eq_true q109
           go_wp2_with ((with_reducible refine gate_dst (N := 4) rfl ?_); (try (refine gate_guard (by rfl) ?_; dsimp only)); refine box_event ?hg (N := 4) ?hd (cs := #[.int .i64 0,.int .i64 0]) (t := 65) ?hr ?_; (case hd => rfl); (case hg => rfl); (case hr => (go_simp; done)); intro gb110 hg w40 hbox hb; have n0_ := Aside0.mk (blk_below (g := gb104) (o := .cells #[.string a0_0,.int .i64 a0_1,.int .i64 a0_2,.int .i64 a0_3,.slice (some ad109) l0_4.length c0_4] 63 (0,0)) (by exact BK104.out) hb); have n1_ := Aside0.mk (below_step HB.out hb); have n2_ := Aside0.mk (hbox); have n3_ := Aside0.mk (by rw [hg]; exact (below_size HB.out) : w.heap.size ≤ gb110); have n4_ := Aside0.mk (by rw [hg]; exact (below_size HB.out) : w.heap.size ≤ gb110); have n5_ := Aside0.mk (by rw [hg]; exact Nat.ne_of_lt (blk_lt (g := gb104) (o := .cells #[.string a0_0,.int .i64 a0_1,.int .i64 a0_2,.int .i64 a0_3,.slice (some ad109) l0_4.length c0_4] 63 (0,0)) (by exact BK104.out)) : gb104 ≠ gb110); have n6_ := Aside0.mk (by rw [hg]; exact Nat.ne_of_gt (blk_lt (g := gb104) (o := .cells #[.string a0_0,.int .i64 a0_1,.int .i64 a0_2,.int .i64 a0_3,.slice (some ad109) l0_4.length c0_4] 63 (0,0)) (by exact BK104.out)) : gb110 ≠ gb104); clear BK104; clear HB; have BK104 := n0_; have HB := n1_; have BK110 := n2_; have GW110 := n3_; have GE110 := n4_; have NB104_110 := n5_; have NB110_104 := n6_; clear n0_ n1_ n2_ n3_ n4_ n5_ n6_; clear hb hbox hg; have hnb41 := NB110_104.out; have hnc41 := NB104_110.out; have hcz42_0 : w40.cell? ⟨gb110,0,none⟩ = some (.int .i64 0) := (blk_cell BK110.out 0).trans rfl; have hcz42_1 : w40.cell? ⟨gb110,1,none⟩ = some (.int .i64 0) := (blk_cell BK110.out 1).trans rfl; have hfz42_0 := blk_frozen BK110.out 0; have hfz42_1 := blk_frozen BK110.out 1)
           repeat (go_quiet (first | (go_at_call 91; (with_reducible refine (spec_l1In.calls ((rd_T65 l0_4 x3_2).f0) 1 1000000 true _ A20.out).mono ?_); rintro e w' ⟨rfl,⟨nd,rfl⟩⟩; (try first | exact ⟨rfl,_,World.drewN_drewN _ _ _⟩ | exact ⟨rfl,_,Eq.trans (World.drewN_drewN _ _ _) (congrArg (World.drewN _) (Nat.add_assoc _ _ _))⟩)) | (go_at_call 91; (with_reducible refine (spec_l1In.calls ((rd_T65 l0_4 x3_2).f1) 0 1000 true _ A22.out).mono ?_); rintro e w' ⟨rfl,⟨nd,rfl⟩⟩; (try first | exact ⟨rfl,_,World.drewN_drewN _ _ _⟩ | exact ⟨rfl,_,Eq.trans (World.drewN_drewN _ _ _) (congrArg (World.drewN _) (Nat.add_assoc _ _ _))⟩))); try go_wp2_with (fail))
           go_roundg k2
           case measure => have := HJ1.out; have := HK2.out; omega
           case rel => exact ⟨(wrap64 (x3_2 + 1)),(by rfl),H',⟨by have := HJ1.out; have := HK2.out; omega⟩,⟨by (with_reducible repeat (refine blk_drewN ?_ _)); refine blk_far ?_ NB104_110.out _; refine blk_far ?_ NB104_110.out _; exact BK104.out⟩,⟨by repeat (with_reducible first | exact HB.out | apply pw_below_drewN | refine below_set ?_ GE110.out)⟩⟩
         ·replace c23 := Bool.eq_false_iff.mpr c23;subst c23
          rw [if_neg (show ¬ (false = true) by decide)] at H
          obtain rfl := Option.some.inj H;obtain ⟨⟨hcz43_0,hcz43_1,hcz43_2,hcz43_3,hcz43_4⟩,hfz43_0,hfz43_1,hfz43_2,hfz43_3,hfz43_4⟩ := bc5 BK104.out;have p109 : 0 ≤ (x3_2 : Int) := of_decide_eq_true (by (with_reducible assumption));have q109 : x3_2 < (l0_4.length : Int) := of_decide_eq_true (by (with_reducible assumption));obtain ⟨ad109,e109,hx109_0,hx109_1⟩ := at_T65 HR0_4.out x3_2 p109 q109
          cases e109
          replace hx109_0 := up_ HB.out hx109_0;replace hx109_1 := up_ HB.out hx109_1;replace p109 := eq_true p109;replace q109 := eq_true q109
          go_wp2_with ((with_reducible refine gate_dst (N := 4) rfl ?_); (try (refine gate_guard (by rfl) ?_; dsimp only)); refine box_event ?hg (N := 4) ?hd (cs := #[.int .i64 0,.int .i64 0]) (t := 65) ?hr ?_; (case hd => rfl); (case hg => rfl); (case hr => (go_simp; done)); intro gb110 hg w44 hbox hb; have n0_ := Aside0.mk (blk_below (g := gb104) (o := .cells #[.string a0_0,.int .i64 a0_1,.int .i64 a0_2,.int .i64 a0_3,.slice (some ad109) l0_4.length c0_4] 63 (0,0)) (by exact BK104.out) hb); have n1_ := Aside0.mk (below_step HB.out hb); have n2_ := Aside0.mk (hbox); have n3_ := Aside0.mk (by rw [hg]; exact (below_size HB.out) : w.heap.size ≤ gb110); have n4_ := Aside0.mk (by rw [hg]; exact (below_size HB.out) : w.heap.size ≤ gb110); have n5_ := Aside0.mk (by rw [hg]; exact Nat.ne_of_lt (blk_lt (g := gb104) (o := .cells #[.string a0_0,.int .i64 a0_1,.int .i64 a0_2,.int .i64 a0_3,.slice (some ad109) l0_4.length c0_4] 63 (0,0)) (by exact BK104.out)) : gb104 ≠ gb110); have n6_ := Aside0.mk (by rw [hg]; exact Nat.ne_of_gt (blk_lt (g := gb104) (o := .cells #[.string a0_0,.int .i64 a0_1,.int .i64 a0_2,.int .i64 a0_3,.slice (some ad109) l0_4.length c0_4] 63 (0,0)) (by exact BK104.out)) : gb110 ≠ gb104); clear BK104; clear HB; have BK104 := n0_; have HB := n1_; have BK110 := n2_; have GW110 := n3_; have GE110 := n4_; have NB104_110 := n5_; have NB110_104 := n6_; clear n0_ n1_ n2_ n3_ n4_ n5_ n6_; clear hb hbox hg; have hnb45 := NB110_104.out; have hnc45 := NB104_110.out; have hcz46_0 : w44.cell? ⟨gb110,0,none⟩ = some (.int .i64 0) := (blk_cell BK110.out 0).trans rfl; have hcz46_1 : w44.cell? ⟨gb110,1,none⟩ = some (.int .i64 0) := (blk_cell BK110.out 1).trans rfl; have hfz46_0 := blk_frozen BK110.out 0; have hfz46_1 := blk_frozen BK110.out 1)
          repeat (go_quiet (first | (go_at_call 91; (with_reducible refine (spec_l1In.calls ((rd_T65 l0_4 x3_2).f0) 1 1000000 true _ A20.out).mono ?_); rintro e w' ⟨rfl,⟨nd,rfl⟩⟩; (try first | exact ⟨rfl,_,World.drewN_drewN _ _ _⟩ | exact ⟨rfl,_,Eq.trans (World.drewN_drewN _ _ _) (congrArg (World.drewN _) (Nat.add_assoc _ _ _))⟩)) | (go_at_call 91; (with_reducible refine (spec_l1In.calls ((rd_T65 l0_4 x3_2).f1) 0 1000 false _ A22.out).mono ?_); rintro e w' ⟨rfl,⟨nd,rfl⟩⟩; (try first | exact ⟨rfl,_,World.drewN_drewN _ _ _⟩ | exact ⟨rfl,_,Eq.trans (World.drewN_drewN _ _ _) (congrArg (World.drewN _) (Nat.add_assoc _ _ _))⟩))); try go_wp2_with (fail))
          go_ret;exact ⟨by rfl,by repeat (with_reducible first | exact HB.out | apply pw_below_drewN | refine below_set ?_ GE110.out)⟩
        ·replace c21 := Bool.eq_false_iff.mpr c21;subst c21
         rw [if_neg (show ¬ (false = true) by decide)] at H
         obtain rfl := Option.some.inj H;obtain ⟨⟨hcz47_0,hcz47_1,hcz47_2,hcz47_3,hcz47_4⟩,hfz47_0,hfz47_1,hfz47_2,hfz47_3,hfz47_4⟩ := bc5 BK104.out;have p109 : 0 ≤ (x3_2 : Int) := of_decide_eq_true (by (with_reducible assumption));have q109 : x3_2 < (l0_4.length : Int) := of_decide_eq_true (by (with_reducible assumption));obtain ⟨ad109,e109,hx109_0,hx109_1⟩ := at_T65 HR0_4.out x3_2 p109 q109
         cases e109
         replace hx109_0 := up_ HB.out hx109_0;replace hx109_1 := up_ HB.out hx109_1;replace p109 := eq_true p109;replace q109 := eq_true q109
         go_wp2_with ((with_reducible refine gate_dst (N := 4) rfl ?_); (try (refine gate_guard (by rfl) ?_; dsimp only)); refine box_event ?hg (N := 4) ?hd (cs := #[.int .i64 0,.int .i64 0]) (t := 65) ?hr ?_; (case hd => rfl); (case hg => rfl); (case hr => (go_simp; done)); intro gb110 hg w48 hbox hb; have n0_ := Aside0.mk (blk_below (g := gb104) (o := .cells #[.string a0_0,.int .i64 a0_1,.int .i64 a0_2,.int .i64 a0_3,.slice (some ad109) l0_4.length c0_4] 63 (0,0)) (by exact BK104.out) hb); have n1_ := Aside0.mk (below_step HB.out hb); have n2_ := Aside0.mk (hbox); have n3_ := Aside0.mk (by rw [hg]; exact (below_size HB.out) : w.heap.size ≤ gb110); have n4_ := Aside0.mk (by rw [hg]; exact (below_size HB.out) : w.heap.size ≤ gb110); have n5_ := Aside0.mk (by rw [hg]; exact Nat.ne_of_lt (blk_lt (g := gb104) (o := .cells #[.string a0_0,.int .i64 a0_1,.int .i64 a0_2,.int .i64 a0_3,.slice (some ad109) l0_4.length c0_4] 63 (0,0)) (by exact BK104.out)) : gb104 ≠ gb110); have n6_ := Aside0.mk (by rw [hg]; exact Nat.ne_of_gt (blk_lt (g := gb104) (o := .cells #[.string a0_0,.int .i64 a0_1,.int .i64 a0_2,.int .i64 a0_3,.slice (some ad109) l0_4.length c0_4] 63 (0,0)) (by exact BK104.out)) : gb110 ≠ gb104); clear BK104; clear HB; have BK104 := n0_; have HB := n1_; have BK110 := n2_; have GW110 := n3_; have GE110 := n4_; have NB104_110 := n5_; have NB110_104 := n6_; clear n0_ n1_ n2_ n3_ n4_ n5_ n6_; clear hb hbox hg; have hnb49 := NB110_104.out; have hnc49 := NB104_110.out; have hcz50_0 : w48.cell? ⟨gb110,0,none⟩ = some (.int .i64 0) := (blk_cell BK110.out 0).trans rfl; have hcz50_1 : w48.cell? ⟨gb110,1,none⟩ = some (.int .i64 0) := (blk_cell BK110.out 1).trans rfl; have hfz50_0 := blk_frozen BK110.out 0; have hfz50_1 := blk_frozen BK110.out 1)
         repeat (go_quiet ((go_at_call 91; (with_reducible refine (spec_l1In.calls ((rd_T65 l0_4 x3_2).f0) 1 1000000 false _ A20.out).mono ?_); rintro e w' ⟨rfl,⟨nd,rfl⟩⟩; (try first | exact ⟨rfl,_,World.drewN_drewN _ _ _⟩ | exact ⟨rfl,_,Eq.trans (World.drewN_drewN _ _ _) (congrArg (World.drewN _) (Nat.add_assoc _ _ _))⟩))); try go_wp2_with (fail))
         go_ret;exact ⟨by rfl,by repeat (with_reducible first | exact HB.out | apply pw_below_drewN | refine below_set ?_ GE110.out)⟩
       ·rw [if_neg c19] at H;exact absurd H (by simp)
      ·rw [if_neg c18] at H;have c18b0 : decide (x3_2 < (l0_4.length : Int)) = false := decide_eq_false c18;clear c18;obtain rfl := Option.some.inj H;obtain ⟨⟨hcz51_0,hcz51_1,hcz51_2,hcz51_3,hcz51_4⟩,hfz51_0,hfz51_1,hfz51_2,hfz51_3,hfz51_4⟩ := bc5 BK104.out;go_wp2
       repeat (go_quiet (fail); try go_wp2)
       go_ret;exact ⟨by rfl,HB.out⟩

/-! ### spec_l4Of: function 139 -/
def spec_l4Of.l0 : Nat → Int → Int → ByteArray → Int → Int → Int → List (S65) → Option (Int)
 | 0,_,_,_,_,_,_,_ => none
 | k + 1,x3,x4,x115000,x115001,x115002,x115003,x115004 => if x4 < (x115004.length : Int) then (if 0 ≤ x4 then (spec_l4Of.l0 k (wrap64 (x3 + ((rd_T65 x115004 x4).f0))) (wrap64 (x4 + 1)) x115000 x115001 x115002 x115003 x115004) else (none)) else (some x3)
def spec_l4Of.f (k : Nat) (a0_0 : ByteArray) (a0_1 : Int) (a0_2 : Int) (a0_3 : Int) (l0_4 : List (S65)) : Option (Int) := spec_l4Of.l0 k (wrap64 (a0_1 + a0_3)) 0 a0_0 a0_1 a0_2 a0_3 l0_4
set_option maxHeartbeats 8000000 in
set_option maxRecDepth 100000 in
theorem spec_l4Of.calls (k : Nat) (a0_0 : ByteArray) (a0_1 : Int) (a0_2 : Int) (a0_3 : Int) (A0_4 : Option Addr) (c0_4 : Nat) (l0_4 : List (S65)) (r : Int) (w : World) (hr0_4 : Kd.C k65 w A0_4 l0_4.length l0_4) (hc0_4 : l0_4.length ≤ c0_4) (h : spec_l4Of.f k a0_0 a0_1 a0_2 a0_3 l0_4 = some r) :
  Calls Try.prog 139 #[.agg #[.string a0_0,.int .i64 a0_1,.int .i64 a0_2,.int .i64 a0_3,.slice A0_4 l0_4.length c0_4]] w fun e w' => e = .returned (.int .i64 r) ∧ Below w.heap.size w w' := by
 have hu63 := Try.underlying63;have HR0_4 := Aside0.mk hr0_4;have HC0_4 := Aside0.mk hc0_4;clear hr0_4 hc0_4;have HB := Aside0.mk (Below.refl w.heap.size w);have H : (spec_l4Of.l0 k (wrap64 (a0_1 + a0_3)) 0 a0_0 a0_1 a0_2 a0_3 l0_4) = some r := h;clear h;have H' := Aside0.mk H;clear H;go_enter Try.func139,Try.ntmps139
 go_wp2_with (((with_reducible refine gate_dst (N := 1) rfl ?_); refine box_event ?hg (N := 1) ?hd (cs := #[.string a0_0,.int .i64 a0_1,.int .i64 a0_2,.int .i64 a0_3,.slice A0_4 l0_4.length c0_4]) (t := 63) ?hr ?_; (case hd => rfl); (case hg => rfl); (case hr => (go_simp; done)); intro gb114 hg w2 hbox hb; have n0_ := Aside0.mk (below_step HB.out hb); have n1_ := Aside0.mk (hbox); have n2_ := Aside0.mk (by rw [hg]; exact (below_size HB.out) : w.heap.size ≤ gb114); have n3_ := Aside0.mk (by rw [hg]; exact (below_size HB.out) : w.heap.size ≤ gb114); clear HB; have HB := n0_; have BK114 := n1_; have GW114 := n2_; have GE114 := n3_; clear n0_ n1_ n2_ n3_; clear hb hbox hg; have hcz3_0 : w2.cell? ⟨gb114,0,none⟩ = some (.string a0_0) := (blk_cell BK114.out 0).trans rfl; have hcz3_1 : w2.cell? ⟨gb114,1,none⟩ = some (.int .i64 a0_1) := (blk_cell BK114.out 1).trans rfl; have hcz3_2 : w2.cell? ⟨gb114,2,none⟩ = some (.int .i64 a0_2) := (blk_cell BK114.out 2).trans rfl; have hcz3_3 : w2.cell? ⟨gb114,3,none⟩ = some (.int .i64 a0_3) := (blk_cell BK114.out 3).trans rfl; have hcz3_4 : w2.cell? ⟨gb114,4,none⟩ = some (.slice A0_4 l0_4.length c0_4) := (blk_cell BK114.out 4).trans rfl; have hfz3_0 := blk_frozen BK114.out 0; have hfz3_1 := blk_frozen BK114.out 1; have hfz3_2 := blk_frozen BK114.out 2; have hfz3_3 := blk_frozen BK114.out 3; have hfz3_4 := blk_frozen BK114.out 4))
 go_loopg [3,4] k (fun kq v3 v4 w' => ∃ (x3_1 : Int) (x4_1 : Int),v3 = .int .i64 x3_1 ∧ v4 = .int .i64 x4_1 ∧ Aside0 (spec_l4Of.l0 kq x3_1 x4_1 a0_0 a0_1 a0_2 a0_3 l0_4 = some r) ∧ Aside0 (kq ≤ k) ∧ Aside0 (w'.heap[gb114]? = some (.cells #[.string a0_0,.int .i64 a0_1,.int .i64 a0_2,.int .i64 a0_3,(.slice A0_4 l0_4.length c0_4)] 63 (0,0))) ∧ Aside0 (Below w.heap.size w w'))
 case atStart => exact ⟨(wrap64 (a0_1 + a0_3)),(0),(by rfl),(by rfl),H',⟨Nat.le_refl _⟩,⟨by exact BK114.out⟩,⟨HB.out⟩⟩
 case round =>
  clear H'
  try clear c1
  try clear p2
  try clear hcz3_0
  try clear hcz3_1
  try clear hcz3_2
  try clear hcz3_3
  try clear hcz3_4
  try clear hfz3_0
  try clear hfz3_1
  try clear hfz3_2
  try clear hfz3_3
  try clear hfz3_4
  obtain ⟨x3_1,x4_1,rfl,rfl,HA,HK1,BK114,HB⟩ := hrel
  cases gk with
  | zero => exact absurd HA.out (by simp [spec_l4Of.l0])
  | succ k1 =>
   have H := HA.out;clear HA;simp only [spec_l4Of.l0] at H
   by_cases c4 : x4_1 < (l0_4.length : Int)
   ·rw [if_pos c4] at H;have c4b0 : decide (x4_1 < (l0_4.length : Int)) = true := decide_eq_true c4;clear c4
    by_cases c5 : 0 ≤ x4_1
    ·rw [if_pos c5] at H;have c5b0 : decide (0 ≤ x4_1) = true := decide_eq_true c5;clear c5;have H' := Aside0.mk H;clear H;obtain ⟨⟨hcz6_0,hcz6_1,hcz6_2,hcz6_3,hcz6_4⟩,hfz6_0,hfz6_1,hfz6_2,hfz6_3,hfz6_4⟩ := bc5 BK114.out;have p115 : 0 ≤ (x4_1 : Int) := of_decide_eq_true (by (with_reducible assumption));have q115 : x4_1 < (l0_4.length : Int) := of_decide_eq_true (by (with_reducible assumption));obtain ⟨ad115,e115,hx115_0,hx115_1⟩ := at_T65 HR0_4.out x4_1 p115 q115
     cases e115
     replace hx115_0 := up_ HB.out hx115_0;replace hx115_1 := up_ HB.out hx115_1;replace p115 := eq_true p115;replace q115 := eq_true q115;go_wp2
     go_roundg k1
     case measure => have := HK1.out; omega
     case rel => exact ⟨(wrap64 (x3_1 + ((rd_T65 l0_4 x4_1).f0))),(wrap64 (x4_1 + 1)),(by rfl),(by rfl),H',⟨by have := HK1.out; omega⟩,⟨by exact BK114.out⟩,⟨HB.out⟩⟩
    ·rw [if_neg c5] at H;exact absurd H (by simp)
   ·rw [if_neg c4] at H;have c4b0 : decide (x4_1 < (l0_4.length : Int)) = false := decide_eq_false c4;clear c4;obtain rfl := Option.some.inj H;obtain ⟨⟨hcz7_0,hcz7_1,hcz7_2,hcz7_3,hcz7_4⟩,hfz7_0,hfz7_1,hfz7_2,hfz7_3,hfz7_4⟩ := bc5 BK114.out;go_wp2;go_ret;exact ⟨by rfl,HB.out⟩

end Go.Proofs.Ytcbpfofkdipjhaa.PM
