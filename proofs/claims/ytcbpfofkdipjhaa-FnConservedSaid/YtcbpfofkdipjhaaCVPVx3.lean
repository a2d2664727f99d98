/- The machine's side of Go functions: each as a plain function,and that the call does what it says. Written by a program (wip/mprint). -/
import Derived.Test.YtcbpfofkdipjhaaCVPVx0
import Derived.Test.YtcbpfofkdipjhaaCVPVx1
import Derived.Test.YtcbpfofkdipjhaaCVPVx2
import Derived.Lib.Hide
import Derived.Lib.Builder
import Derived.Lib.Hide
namespace Go.Proofs.Ytcbpfofkdipjhaa.PV
open Go.RowKit Go.Proofs.YtcbpfofkdipjhaaW.PrintWords Go.Proofs.YtcbpfofkdipjhaaW.PrintLast Go.Proofs.YtcbpfofkdipjhaaW.PrintMore
attribute [local wf_preprocess] Act.put List.setIfInBounds_toArray List.set_cons_zero List.set_cons_succ i64_w i32_w
set_option maxHeartbeats 8000000
set_option maxRecDepth 100000
attribute [local go_sem] max2_int min2_int max_two min_two max_three min_three max_four min_four   -- for this text's walks alone
set_option linter.unusedVariables false
set_option linter.unusedSimpArgs false

/-! ### impl_LedgerOk: function 27 -/
def impl_LedgerOk.f (k : Nat) (a0_0 : Int) (l0_1 : List (S63)) : Option (Bool) := (impl_inRange.f a0_0 0 900).bind fun t123 => (if t123 = true then ((impl_AcctsOk.f k l0_1).bind fun t124 => (some t124)) else (some false))
theorem impl_LedgerOk.calls (k : Nat) (a0_0 : Int) (A0_1 : Option Addr) (c0_1 : Nat) (l0_1 : List (S63)) (r : Bool) (w : World) (hr0_1 : Kd.C k63 w A0_1 l0_1.length l0_1) (hc0_1 : l0_1.length ≤ c0_1) (h : impl_LedgerOk.f k a0_0 l0_1 = some r) :
  Calls Try.prog 27 #[.agg #[.int .i64 a0_0,.slice A0_1 l0_1.length c0_1]] w fun e w' => e = .returned (.bool r) ∧ Below w.heap.size w w' := by
 have hu31 := Try.underlying31;have HR0_1 := Aside0.mk hr0_1;have HC0_1 := Aside0.mk hc0_1;clear hr0_1 hc0_1;have HB := Aside0.mk (Below.refl w.heap.size w);have H : ((impl_inRange.f a0_0 0 900).bind fun t123 => (if t123 = true then ((impl_AcctsOk.f k l0_1).bind fun t124 => (some t124)) else (some false))) = some r := h;clear h;replace H := Option.bind_eq_some_iff.mp H;obtain ⟨t123,A20,H⟩ := H;replace H : (if t123 = true then ((impl_AcctsOk.f k l0_1).bind fun t124 => (some t124)) else (some false)) = some r := H;have A2 := Aside0.mk A20;clear A20
 by_cases c3 : t123 = true
 ·subst c3
  rw [if_pos rfl] at H
  replace H := Option.bind_eq_some_iff.mp H;obtain ⟨t124,A40,H⟩ := H;replace H : (some t124) = some r := H;have A4 := Aside0.mk A40;clear A40;obtain rfl := Option.some.inj H;go_enter Try.func27,Try.ntmps27
  go_wp2_with (first | ((with_reducible refine gate_dst (N := 1) rfl ?_); refine box_event (by rfl) (N := 1) (by rfl) (cs := #[.int .i64 a0_0,.slice A0_1 l0_1.length c0_1]) (t := 31) (by go_simp; done) ?_; intro gb122 hg w5 hbox hb; have BK122 := Aside0.mk hbox; have GW122 := gsz HB hg; have GE122 := GW122; replace HB := bst HB hb; clear hb hbox hg; obtain ⟨⟨hcz6_0,hcz6_1⟩,hfz6_0,hfz6_1⟩ := bc2 BK122.out) | ((with_reducible refine gate_callee (f := 69) rfl ?_); refine goesL_ (some 5) rfl rfl Try.func69 (by kernel_rfl) rfl #[.int .i64 a0_0,.int .i64 0,.int .i64 900] rfl (by (try simp only [List.map_toArray,List.map_cons,List.map_nil]); rfl) ?_; (with_reducible refine (impl_inRange.calls a0_0 0 900 true _ A2.out).mono ?_); rintro e w' ⟨rfl,⟨nd,rfl⟩⟩; refine ⟨_,rfl,?_⟩) | (go_at_call 44; (with_reducible refine (impl_AcctsOk.calls k _ _ l0_1 t124 _ ?side1 ?side2 A4.out).mono ?_); (case side1 => repeat (exact (Kd.C_below HR0_1.out (by repeat (with_reducible first | exact HB.out | apply pw_below_drewN))))); (case side2 => exact HC0_1.out); rintro e w7 ⟨rfl,hb⟩; replace BK122 := Aside0.mk (blk_below (g := gb122) (o := .cells #[.int .i64 a0_0,.slice A0_1 l0_1.length c0_1] 31 (0,0)) (by (with_reducible repeat (refine blk_drewN ?_ _)); exact BK122.out) hb); replace HB := Aside0.mk (below_step (by repeat (with_reducible first | exact HB.out | apply pw_below_drewN)) hb); (try clear hb); skip))
  go_ret;exact ⟨by rfl,HB.out⟩
 ·replace c3 := Bool.eq_false_iff.mpr c3;subst c3
  rw [if_neg (show ¬ (false = true) by decide)] at H
  obtain rfl := Option.some.inj H;go_enter Try.func27,Try.ntmps27
  go_wp2_with (first | ((with_reducible refine gate_dst (N := 1) rfl ?_); refine box_event (by rfl) (N := 1) (by rfl) (cs := #[.int .i64 a0_0,.slice A0_1 l0_1.length c0_1]) (t := 31) (by go_simp; done) ?_; intro gb122 hg w8 hbox hb; have BK122 := Aside0.mk hbox; have GW122 := gsz HB hg; have GE122 := GW122; replace HB := bst HB hb; clear hb hbox hg; obtain ⟨⟨hcz9_0,hcz9_1⟩,hfz9_0,hfz9_1⟩ := bc2 BK122.out) | ((with_reducible refine gate_callee (f := 69) rfl ?_); refine goesL_ (some 5) rfl rfl Try.func69 (by kernel_rfl) rfl #[.int .i64 a0_0,.int .i64 0,.int .i64 900] rfl (by (try simp only [List.map_toArray,List.map_cons,List.map_nil]); rfl) ?_; (with_reducible refine (impl_inRange.calls a0_0 0 900 false _ A2.out).mono ?_); rintro e w' ⟨rfl,⟨nd,rfl⟩⟩; refine ⟨_,rfl,?_⟩))
  go_ret;exact ⟨by rfl,by repeat (with_reducible first | exact HB.out | apply pw_below_drewN)⟩

-- NOT PRINTED: function 94 (impl_Acct_94)

/-! ### impl_AcctAt: function 43 -/
theorem acctEq_calls (f0 : ByteArray) (f1 f2 f3 : Int) (v4 : Value) (nm : ByteArray) (B : Nat) (w : World) (hc : w.cell? ⟨B,0,none⟩ = some (.string nm)) :
  Calls Try.prog 95 #[.agg #[.string f0,.int .i64 f1,.int .i64 f2,.int .i64 f3,v4],.pointer (some ⟨B,0,none⟩)] w fun e w' => e = .returned (.bool (f0.toList == nm.toList)) ∧ Below w.heap.size w w' := by
 have hc' : (w.alloc (.cells #[.string f0,.int .i64 f1,.int .i64 f2,.int .i64 f3,v4] 63)).cell? ⟨B,0,none⟩ = some (.string nm) := ((below_alloc (Below.refl w.heap.size w) _).cell (World.block_lt_of_cell? w _ hc)).trans hc;go_enter Try.func95,Try.ntmps95;go_wp2;go_ret;exact ⟨rfl,below_alloc (Below.refl _ _) _⟩
def atFrom (l : List S63) (nm : ByteArray) : Nat → Nat → Int
 | 0,_ => -1
 | d + 1,i => if ((rd_T63 l (i : Int)).f0.toList == nm.toList) = true then (i : Int) else atFrom l nm d (i + 1)
def impl_AcctAt.f (l0 : List S63) (a1 : ByteArray) : Option (Int) := some (atFrom l0 a1 l0.length 0)
theorem indexFunc_calls (A0 : Option Addr) (c0 : Nat) (l0 : List S63) (nm : ByteArray) (B : Nat) (w : World) (hr0 : Kd.C k63 w A0 l0.length l0) (hl : l0.length ≤ 9223372036854775807) (hc : w.cell? ⟨B,0,none⟩ = some (.string nm)) :
  Calls Try.prog 94 #[.slice A0 l0.length c0,.func (.func 95) #[] #[.pointer (some ⟨B,0,none⟩)]] w fun e w' => e = .returned (.int .i64 (atFrom l0 nm l0.length 0)) ∧ Below w.heap.size w w' := by
 go_enter Try.func94,Try.ntmps94;go_wp2
 go_loopw [8] (fun i wr => ∃ k : Nat,k ≤ l0.length ∧ i = .int .i64 k ∧ atFrom l0 nm l0.length 0 = atFrom l0 nm (l0.length - k) k ∧ Below w.heap.size w wr) (fun i _ => l0.length - (intOf i).toNat)
 case atStart => exact ⟨0,Nat.zero_le _,rfl,rfl,Below.refl _ _⟩
 case round =>
  obtain ⟨k,hk,rfl,hR,hB⟩ := hrel;have HB := Lib.hid hB;have HR := Lib.hid hR;clear hB hR
  by_cases hlt : k < l0.length
  ·obtain ⟨ad,A4,c4,e,hx0,hx1,hx2,hx3,hx4,_,_⟩ := at_T63 hr0 (k : Int) (by omega) (by omega)
   cases e
   replace hx0 := up_ HB.out hx0;replace hx1 := up_ HB.out hx1;replace hx2 := up_ HB.out hx2;replace hx3 := up_ HB.out hx3;replace hx4 := up_ HB.out hx4;simp only [Int.toNat_natCast] at hx0 hx1 hx2 hx3 hx4;have hcb := up_ HB.out hc;have n0 : (0 ≤ (k : Int)) = True := eq_true (by omega);have n1 : ((k : Int) < (l0.length : Int)) = True := eq_true (by omega)
   have h01 : wrap64 ((k : Int) + 1) = ((k + 1 : Nat) : Int) := by unfold wrap64; omega
   obtain ⟨m,hm⟩ : ∃ m,l0.length - k = m + 1 := ⟨l0.length - k - 1,by omega⟩;have HM := Lib.hid hm;clear hm
   cases hq : ((rd_T63 l0 (k : Int)).f0.toList == nm.toList) with
   | true =>
    have HQ := Lib.hid hq;clear hq
    go_wp2_with (go_at_call 95; refine (acctEq_calls _ _ _ _ _ nm B _ hcb).mono ?_; rintro e w1 ⟨rfl,hb1⟩; rw [HQ.out])
    go_ret;refine ⟨?_,below_step HB.out hb1⟩;rw [HR.out,HM.out];unfold atFrom;rw [HQ.out,if_pos rfl];rfl
   | false =>
    have HQ := Lib.hid hq;clear hq
    go_wp2_with (go_at_call 95; refine (acctEq_calls _ _ _ _ _ nm B _ hcb).mono ?_; rintro e w1 ⟨rfl,hb1⟩; rw [HQ.out])
    go_roundw
    case rel =>
     refine ⟨k + 1,by omega,by go_num,?_,below_step HB.out hb1⟩;rw [HR.out,HM.out,show l0.length - (k + 1) = m by have := HM.out; omega]
     conv => lhs; unfold atFrom
     rw [HQ.out,if_neg (by simp)]
    case measure => simp [intOf]; omega
  ·have hke : k = l0.length := by omega
   subst hke;have n1 : ((l0.length : Int) < (l0.length : Int)) = False := eq_false (by omega);go_wp2;go_ret;refine ⟨?_,HB.out⟩;rw [HR.out,Nat.sub_self];rfl
theorem impl_AcctAt.calls (A0 : Option Addr) (c0 : Nat) (l0 : List S63) (a1 : ByteArray) (r : Int) (w : World) (hr0 : Kd.C k63 w A0 l0.length l0) (hc0 : l0.length ≤ c0) (h : impl_AcctAt.f l0 a1 = some r) :
  Calls Try.prog 43 #[.slice A0 l0.length c0,.string a1] w fun e w' => e = .returned (.int .i64 r) ∧ Below w.heap.size w w' := by
 obtain rfl := Option.some.inj h
 have hcn : (w.alloc (.cells #[.string a1] 9)).cell? ⟨w.heap.size,0,none⟩ = some (.string a1) := by rw [Lib.cell_of_heap (heap_alloc_new w _)]; rfl
 have hrn : Kd.C k63 (w.alloc (.cells #[.string a1] 9)) A0 l0.length l0 := Kd.C_below hr0 (below_alloc (Below.refl _ _) _);go_enter Try.func43,Try.ntmps43
 go_wp2_with (go_at_call 94; refine (indexFunc_calls A0 c0 l0 a1 w.heap.size _ hrn (hrn.2.1) hcn).mono ?_; rintro e w1 ⟨rfl,hb1⟩)
 go_ret;exact ⟨rfl,below_step (below_alloc (Below.refl _ _) _) hb1⟩

/-! ### impl_TxOk: function 62 -/
def impl_TxOk.j0 : Nat → Bool → Int → ByteArray → ByteArray → Int → Int → Option (Bool)
 | 0,_,_,_,_,_,_ => none
 | k + 1,x24,x126000,x126001,x126002,x126003,x126004 => if x24 = true then (some false) else (if x126000 = 1 then ((impl_NameOk.f k x126002).bind fun t130 => (some t130)) else (some (x126002.toList == ([] : List UInt8))))
def impl_TxOk.f (k : Nat) (a0_0 : Int) (a0_1 : ByteArray) (a0_2 : ByteArray) (a0_3 : Int) (a0_4 : Int) : Option (Bool) := (impl_inRange.f a0_0 1 3).bind fun t126 => (if t126 = true then ((impl_NameOk.f k a0_1).bind fun t127 => (if t127 = true then ((impl_inRange.f a0_3 1 1000000).bind fun t128 => (if t128 = true then ((impl_inRange.f a0_4 0 10000).bind fun t129 => (impl_TxOk.j0 k (!t129) a0_0 a0_1 a0_2 a0_3 a0_4)) else (impl_TxOk.j0 k true a0_0 a0_1 a0_2 a0_3 a0_4))) else (impl_TxOk.j0 k true a0_0 a0_1 a0_2 a0_3 a0_4))) else (impl_TxOk.j0 k true a0_0 a0_1 a0_2 a0_3 a0_4))
theorem impl_TxOk.calls (k : Nat) (a0_0 : Int) (a0_1 : ByteArray) (a0_2 : ByteArray) (a0_3 : Int) (a0_4 : Int) (r : Bool) (w : World) (h : impl_TxOk.f k a0_0 a0_1 a0_2 a0_3 a0_4 = some r) :
  Calls Try.prog 62 #[.agg #[.int .i64 a0_0,.string a0_1,.string a0_2,.int .i64 a0_3,.int .i64 a0_4]] w fun e w' => e = .returned (.bool r) ∧ Below w.heap.size w w' := by
 have hu35 := Try.underlying35;have HB := Aside0.mk (Below.refl w.heap.size w);have H : ((impl_inRange.f a0_0 1 3).bind fun t126 => (if t126 = true then ((impl_NameOk.f k a0_1).bind fun t127 => (if t127 = true then ((impl_inRange.f a0_3 1 1000000).bind fun t128 => (if t128 = true then ((impl_inRange.f a0_4 0 10000).bind fun t129 => (impl_TxOk.j0 k (!t129) a0_0 a0_1 a0_2 a0_3 a0_4)) else (impl_TxOk.j0 k true a0_0 a0_1 a0_2 a0_3 a0_4))) else (impl_TxOk.j0 k true a0_0 a0_1 a0_2 a0_3 a0_4))) else (impl_TxOk.j0 k true a0_0 a0_1 a0_2 a0_3 a0_4))) = some r := h;clear h;have HC2 := Aside0.mk H;clear H;go_enter Try.func62,Try.ntmps62
 go_upto_region 1 with (((with_reducible refine gate_dst (N := 1) rfl ?_); refine box_event (by rfl) (N := 1) (by rfl) (cs := #[.int .i64 a0_0,.string a0_1,.string a0_2,.int .i64 a0_3,.int .i64 a0_4]) (t := 35) (by go_simp; done) ?_; intro gb125 hg w3 hbox hb; have BK125 := Aside0.mk hbox; have GW125 := gsz HB hg; have GE125 := GW125; replace HB := bst HB hb; clear hb hbox hg))
 skip
 go_cut [24] (fun v24 wc => ∃ (kq : Nat) (x24_1 : Bool),v24 = .bool x24_1 ∧ Aside0 (impl_TxOk.j0 kq x24_1 a0_0 a0_1 a0_2 a0_3 a0_4 = some r) ∧ Aside0 (kq ≤ k) ∧ Aside0 (wc.heap[gb125]? = some (.cells #[.int .i64 a0_0,.string a0_1,.string a0_2,.int .i64 a0_3,.int .i64 a0_4] 35 (0,0))) ∧ Aside0 (Below w.heap.size w wc))
 case first =>
  have H := HC2.out;clear HC2;replace H := Option.bind_eq_some_iff.mp H;obtain ⟨t126,A40,H⟩ := H;replace H : (if t126 = true then ((impl_NameOk.f k a0_1).bind fun t127 => (if t127 = true then ((impl_inRange.f a0_3 1 1000000).bind fun t128 => (if t128 = true then ((impl_inRange.f a0_4 0 10000).bind fun t129 => (impl_TxOk.j0 k (!t129) a0_0 a0_1 a0_2 a0_3 a0_4)) else (impl_TxOk.j0 k true a0_0 a0_1 a0_2 a0_3 a0_4))) else (impl_TxOk.j0 k true a0_0 a0_1 a0_2 a0_3 a0_4))) else (impl_TxOk.j0 k true a0_0 a0_1 a0_2 a0_3 a0_4)) = some r := H;have A4 := Aside0.mk A40;clear A40
  by_cases c5 : t126 = true
  ·subst c5
   rw [if_pos rfl] at H
   replace H := Option.bind_eq_some_iff.mp H;obtain ⟨t127,A60,H⟩ := H;replace H : (if t127 = true then ((impl_inRange.f a0_3 1 1000000).bind fun t128 => (if t128 = true then ((impl_inRange.f a0_4 0 10000).bind fun t129 => (impl_TxOk.j0 k (!t129) a0_0 a0_1 a0_2 a0_3 a0_4)) else (impl_TxOk.j0 k true a0_0 a0_1 a0_2 a0_3 a0_4))) else (impl_TxOk.j0 k true a0_0 a0_1 a0_2 a0_3 a0_4)) = some r := H;have A6 := Aside0.mk A60;clear A60
   by_cases c7 : t127 = true
   ·subst c7
    rw [if_pos rfl] at H
    replace H := Option.bind_eq_some_iff.mp H;obtain ⟨t128,A80,H⟩ := H;replace H : (if t128 = true then ((impl_inRange.f a0_4 0 10000).bind fun t129 => (impl_TxOk.j0 k (!t129) a0_0 a0_1 a0_2 a0_3 a0_4)) else (impl_TxOk.j0 k true a0_0 a0_1 a0_2 a0_3 a0_4)) = some r := H;have A8 := Aside0.mk A80;clear A80
    by_cases c9 : t128 = true
    ·subst c9
     rw [if_pos rfl] at H
     replace H := Option.bind_eq_some_iff.mp H;obtain ⟨t129,A100,H⟩ := H;replace H : (impl_TxOk.j0 k (!t129) a0_0 a0_1 a0_2 a0_3 a0_4) = some r := H;have A10 := Aside0.mk A100;clear A100;have H' := Aside0.mk H;clear H;obtain ⟨⟨hcz11_0,hcz11_1,hcz11_2,hcz11_3,hcz11_4⟩,hfz11_0,hfz11_1,hfz11_2,hfz11_3,hfz11_4⟩ := bc5 BK125.out
     go_wp2_with (first | ((with_reducible refine gate_callee (f := 69) rfl ?_); refine goesL_ (some 5) rfl rfl Try.func69 (by kernel_rfl) rfl #[.int .i64 a0_0,.int .i64 1,.int .i64 3] rfl (by (try simp only [List.map_toArray,List.map_cons,List.map_nil]); rfl) ?_; (with_reducible refine (impl_inRange.calls a0_0 1 3 true _ A4.out).mono ?_); rintro e w' ⟨rfl,⟨nd,rfl⟩⟩; refine ⟨_,rfl,?_⟩) | (go_at_call 86; (with_reducible refine (impl_NameOk.calls k a0_1 true _ A6.out).mono ?_); rintro e w' ⟨rfl,⟨nd,rfl⟩⟩) | (go_at_call 69; (with_reducible refine (impl_inRange.calls a0_3 1 1000000 true _ A8.out).mono ?_); rintro e w' ⟨rfl,⟨nd,rfl⟩⟩) | (go_at_call 69; (with_reducible refine (impl_inRange.calls a0_4 0 10000 t129 _ A10.out).mono ?_); rintro e w' ⟨rfl,⟨nd,rfl⟩⟩))
     go_meet
     case rel => exact ⟨_,(!t129),(by rfl),H',⟨by omega⟩,⟨by (with_reducible repeat (refine blk_drewN ?_ _)); exact BK125.out⟩,⟨by repeat (with_reducible first | exact HB.out | apply pw_below_drewN)⟩⟩
    ·replace c9 := Bool.eq_false_iff.mpr c9;subst c9
     rw [if_neg (show ¬ (false = true) by decide)] at H
     have H' := Aside0.mk H;clear H;obtain ⟨⟨hcz12_0,hcz12_1,hcz12_2,hcz12_3,hcz12_4⟩,hfz12_0,hfz12_1,hfz12_2,hfz12_3,hfz12_4⟩ := bc5 BK125.out
     go_wp2_with (first | ((with_reducible refine gate_callee (f := 69) rfl ?_); refine goesL_ (some 5) rfl rfl Try.func69 (by kernel_rfl) rfl #[.int .i64 a0_0,.int .i64 1,.int .i64 3] rfl (by (try simp only [List.map_toArray,List.map_cons,List.map_nil]); rfl) ?_; (with_reducible refine (impl_inRange.calls a0_0 1 3 true _ A4.out).mono ?_); rintro e w' ⟨rfl,⟨nd,rfl⟩⟩; refine ⟨_,rfl,?_⟩) | (go_at_call 86; (with_reducible refine (impl_NameOk.calls k a0_1 true _ A6.out).mono ?_); rintro e w' ⟨rfl,⟨nd,rfl⟩⟩) | (go_at_call 69; (with_reducible refine (impl_inRange.calls a0_3 1 1000000 false _ A8.out).mono ?_); rintro e w' ⟨rfl,⟨nd,rfl⟩⟩))
     go_meet
     case rel => exact ⟨_,(true),(by rfl),H',⟨by omega⟩,⟨by (with_reducible repeat (refine blk_drewN ?_ _)); exact BK125.out⟩,⟨by repeat (with_reducible first | exact HB.out | apply pw_below_drewN)⟩⟩
   ·replace c7 := Bool.eq_false_iff.mpr c7;subst c7
    rw [if_neg (show ¬ (false = true) by decide)] at H
    have H' := Aside0.mk H;clear H;obtain ⟨⟨hcz13_0,hcz13_1,hcz13_2,hcz13_3,hcz13_4⟩,hfz13_0,hfz13_1,hfz13_2,hfz13_3,hfz13_4⟩ := bc5 BK125.out
    go_wp2_with (first | ((with_reducible refine gate_callee (f := 69) rfl ?_); refine goesL_ (some 5) rfl rfl Try.func69 (by kernel_rfl) rfl #[.int .i64 a0_0,.int .i64 1,.int .i64 3] rfl (by (try simp only [List.map_toArray,List.map_cons,List.map_nil]); rfl) ?_; (with_reducible refine (impl_inRange.calls a0_0 1 3 true _ A4.out).mono ?_); rintro e w' ⟨rfl,⟨nd,rfl⟩⟩; refine ⟨_,rfl,?_⟩) | (go_at_call 86; (with_reducible refine (impl_NameOk.calls k a0_1 false _ A6.out).mono ?_); rintro e w' ⟨rfl,⟨nd,rfl⟩⟩))
    go_meet
    case rel => exact ⟨_,(true),(by rfl),H',⟨by omega⟩,⟨by (with_reducible repeat (refine blk_drewN ?_ _)); exact BK125.out⟩,⟨by repeat (with_reducible first | exact HB.out | apply pw_below_drewN)⟩⟩
  ·replace c5 := Bool.eq_false_iff.mpr c5;subst c5
   rw [if_neg (show ¬ (false = true) by decide)] at H
   have H' := Aside0.mk H;clear H;obtain ⟨⟨hcz14_0,hcz14_1,hcz14_2,hcz14_3,hcz14_4⟩,hfz14_0,hfz14_1,hfz14_2,hfz14_3,hfz14_4⟩ := bc5 BK125.out
   go_wp2_with (((with_reducible refine gate_callee (f := 69) rfl ?_); refine goesL_ (some 5) rfl rfl Try.func69 (by kernel_rfl) rfl #[.int .i64 a0_0,.int .i64 1,.int .i64 3] rfl (by (try simp only [List.map_toArray,List.map_cons,List.map_nil]); rfl) ?_; (with_reducible refine (impl_inRange.calls a0_0 1 3 false _ A4.out).mono ?_); rintro e w' ⟨rfl,⟨nd,rfl⟩⟩; refine ⟨_,rfl,?_⟩))
   go_meet
   case rel => exact ⟨_,(true),(by rfl),H',⟨by omega⟩,⟨by (with_reducible repeat (refine blk_drewN ?_ _)); exact BK125.out⟩,⟨by repeat (with_reducible first | exact HB.out | apply pw_below_drewN)⟩⟩
 case rest =>
  clear HC2
  try clear p2
  try clear c5
  try clear c6
  try clear c7
  try clear c9
  try clear hcz11_0
  try clear hcz11_1
  try clear hcz11_2
  try clear hcz11_3
  try clear hcz11_4
  try clear hcz12_0
  try clear hcz12_1
  try clear hcz12_2
  try clear hcz12_3
  try clear hcz12_4
  try clear hcz13_0
  try clear hcz13_1
  try clear hcz13_2
  try clear hcz13_3
  try clear hcz13_4
  try clear hcz14_0
  try clear hcz14_1
  try clear hcz14_2
  try clear hcz14_3
  try clear hcz14_4
  try clear hfz11_0
  try clear hfz11_1
  try clear hfz11_2
  try clear hfz11_3
  try clear hfz11_4
  try clear hfz12_0
  try clear hfz12_1
  try clear hfz12_2
  try clear hfz12_3
  try clear hfz12_4
  try clear hfz13_0
  try clear hfz13_1
  try clear hfz13_2
  try clear hfz13_3
  try clear hfz13_4
  try clear hfz14_0
  try clear hfz14_1
  try clear hfz14_2
  try clear hfz14_3
  try clear hfz14_4
  obtain ⟨kq,x24_1,rfl,HA,HJ1,BK125,HB⟩ := hcut
  cases kq with
  | zero => exact absurd HA.out (by simp [impl_TxOk.j0])
  | succ kj1 =>
   have H := HA.out;clear HA;simp only [impl_TxOk.j0] at H
   by_cases c15 : x24_1 = true
   ·subst c15
    rw [if_pos rfl] at H
    obtain rfl := Option.some.inj H;go_wp2;go_ret;exact ⟨by rfl,HB.out⟩
   ·replace c15 := Bool.eq_false_iff.mpr c15;subst c15
    rw [if_neg (show ¬ (false = true) by decide)] at H
    by_cases c16 : a0_0 = 1
    ·rw [if_pos c16] at H;have c16b0 : (a0_0 == 1) = true := beq_iff_eq.mpr c16;have c16b1 : (a0_0 != 1) = false := bne_eq_false_iff_eq.mpr c16;clear c16;replace H := Option.bind_eq_some_iff.mp H;obtain ⟨t130,A170,H⟩ := H;replace H : (some t130) = some r := H;have A17 := Aside0.mk A170;clear A170;obtain rfl := Option.some.inj H;obtain ⟨⟨hcz18_0,hcz18_1,hcz18_2,hcz18_3,hcz18_4⟩,hfz18_0,hfz18_1,hfz18_2,hfz18_3,hfz18_4⟩ := bc5 BK125.out
     go_wp2_with (((with_reducible refine gate_callee (f := 86) rfl ?_); refine goesL_ (some 30) rfl rfl Try.func86 (by kernel_rfl) rfl #[.string a0_2] rfl (by (try simp only [List.map_toArray,List.map_cons,List.map_nil]); rfl) ?_; (with_reducible refine (impl_NameOk.calls kj1 a0_2 t130 _ A17.out).mono ?_); rintro e w' ⟨rfl,⟨nd,rfl⟩⟩; refine ⟨_,rfl,?_⟩))
     go_ret;exact ⟨by rfl,by repeat (with_reducible first | exact HB.out | apply pw_below_drewN)⟩
    ·rw [if_neg c16] at H;have c16b0 : (a0_0 == 1) = false := beq_eq_false_iff_ne.mpr c16;have c16b1 : (a0_0 != 1) = true := bne_iff_ne.mpr c16;obtain rfl := Option.some.inj H;obtain ⟨⟨hcz19_0,hcz19_1,hcz19_2,hcz19_3,hcz19_4⟩,hfz19_0,hfz19_1,hfz19_2,hfz19_3,hfz19_4⟩ := bc5 BK125.out;go_wp2;go_ret;exact ⟨by rfl,HB.out⟩

/-! ### impl_Leave_121: function 121 -/
def impl_Leave_121.f (l0 : List S65) : Option (List S65) := if l0.length < 8796093022208 then (some l0) else (none)
theorem impl_Leave_121.calls (A0 : Option Addr) (c0 : Nat) (l0 : List S65) (r : List S65) (w : World) (hr0 : Kd.C k65 w A0 l0.length l0) (hc0 : l0.length ≤ c0) (h : impl_Leave_121.f l0 = some r) :
  Calls Try.prog 121 #[.slice A0 l0.length c0] w fun e w' => ∃ v0_ : Value,e = .returned (v0_) ∧ Kd.R k65 65 w' w.heap.size (fun _ => True) v0_ r ∧ Below w.heap.size w w' := by
 have HR0 := Aside0.mk hr0;have HC0 := Aside0.mk hc0;have HB := Aside0.mk (Below.refl w.heap.size w);have H : (if l0.length < 8796093022208 then (some l0) else (none)) = some r := h;clear h
 by_cases c2 : l0.length < 8796093022208
 ·rw [if_pos c2] at H;have LM := Aside0.mk c2;clear c2;obtain rfl := Option.some.inj H;clear H
  cases A0 with
  | none =>
   have hl : l0 = [] := by
    cases l0 with
    | nil => rfl
    | cons x t =>
     obtain ⟨_,_,h2⟩ := hr0;obtain ⟨ad,e,_⟩ := h2 (by simp)
     cases e
   clear hr0 hc0;subst hl
   have heq := fun (W : World) (c : Nat) => Lib.run_eql_slice_nil (P := Try.prog) W 61 65 none 0 c 0 0 Try.underlying61
   go_enter Try.func121,Try.ntmps121;go_wp2;go_ret;exact ⟨_,rfl,Kd.R_nil _ _ _ _ _,Below.refl _ _⟩
  | some ad =>
   clear hr0 hc0
   have heq := fun (W : World) (n c : Nat) => Lib.run_eql_slice_nil (P := Try.prog) W 61 65 (some ad) n c 0 0 Try.underlying61
   go_enter Try.func121,Try.ntmps121
   go_wp2_with (first | ((with_reducible refine gate_dst (N := 5) rfl ?_); refine Kd.R_lit k65 _ 65 ?hg (N := 5) ?hd (xs := ([] : List S65)) (inner := []) (ok := fun _ => True) (okp := fun _ => True) ?hr ?hp (fun _ hk => hk) trivial (Below.refl _ _) (Nat.le_refl _) (by simp) ?_; (case hd => rfl); (case hg => rfl); (case hr => (go_simp; done)); (case hp => exact (Reps.none _ _)); intro v109 w4 ho5 hb hg_ hnew_; clear hg_ hnew_; have HO110 := Aside0.mk (Kd.R_lower ho5 (below_size HB.out)); replace HB := bst HB hb; clear hb ho5) | ((with_reducible refine gate_builtin (b := .append) (xs := #[.tmp 5,.tmp 6]) rfl ?_); at_builtin; refine Kd.R_append_rows k65 (w0 := w) w.heap.size rfl (.tmp 5) (.tmp 6) 61 65 (.agg #[.int .i64 0,.int .i64 0]) 16 rfl Try.underlying61 info65 rfl (by decide) (by omega) v109 ([] : List S65) l0 _ _ _ (fun _ => True) (fun _ => False) rfl rfl ?aO ?aR (fun _ _ h => h) (fun _ h => h.elim) ?aF ?aB ?aS ?aL ?_; (case aR => repeat (exact (Kd.C_below HR0.out HB.out))); (case aB => exact HB.out); (case aF => exact (fun _ _ => trivial)); (case aO => exact (by exact HO110.out)); (case aS => exact (below_size HB.out)); (case aL => have := LM.out; simp only [List.length_nil]; omega); intro v112 w6 ho hb hg hat; replace HB := Aside0.mk (hb); have HO113 := Aside0.mk (ho); clear HO110; clear ho hb hg hat))
   go_ret;exact ⟨_,rfl,HO113.out,HB.out⟩
 ·rw [if_neg c2] at H;exact absurd H (by simp)

/-! ### impl_copyAccts: function 87 -/
def impl_copyAccts.l0 : Nat → List (S63) → List (S63) → Int → Int → Option (List (S63))
 | 0,_,_,_,_ => none
 | k + 1,x3,x6,x7,x8 => if x8 < x7 then (if 0 ≤ x8 then (if x8 < (x6.length : Int) then ((impl_Leave_121.f ((rd_T63 x6 x8).f4)).bind fun t133 => (if x3.length < 2199023255552 then (impl_copyAccts.l0 k (x3 ++ [(⟨(rd_T63 x6 x8).f0,(rd_T63 x6 x8).f1,(rd_T63 x6 x8).f2,(rd_T63 x6 x8).f3,t133⟩ : S63)]) x6 x7 (wrap64 (x8 + 1))) else (none))) else (none)) else (none)) else (some x3)
def impl_copyAccts.f (k : Nat) (l0 : List (S63)) : Option (List (S63)) := impl_copyAccts.l0 k ([] : List (S63)) l0 (l0.length : Int) 0
theorem impl_copyAccts.calls (k : Nat) (A0 : Option Addr) (c0 : Nat) (l0 : List (S63)) (r : List (S63)) (w : World) (hr0 : Kd.C k63 w A0 l0.length l0) (hc0 : l0.length ≤ c0) (h : impl_copyAccts.f k l0 = some r) :
  Calls Try.prog 87 #[.slice A0 l0.length c0] w fun e w' => ∃ v0_ : Value,e = .returned (v0_) ∧ Kd.S k63 63 w' w.heap.size (fun _ => True) v0_ r ∧ Below w.heap.size w w' := by
 have hu63 := Try.underlying63;have HR0 := Aside0.mk hr0;have HC0 := Aside0.mk hc0;clear hr0 hc0;have HB := Aside0.mk (Below.refl w.heap.size w);have H : (impl_copyAccts.l0 k ([] : List (S63)) l0 (l0.length : Int) 0) = some r := h;clear h;have H' := Aside0.mk H;clear H;go_enter Try.func87,Try.ntmps87;go_wp2
 go_loopg [3,8] k (fun kq v3 v8 w' => ∃ (x3_1 : List (S63)) (x8_1 : Int),v8 = .int .i64 x8_1 ∧ Aside0 (impl_copyAccts.l0 kq x3_1 l0 (l0.length : Int) x8_1 = some r) ∧ Aside0 (kq ≤ k) ∧ Aside0 (Kd.S k63 63 w' w.heap.size (fun _ => True) v3 x3_1) ∧ Aside0 (Below w.heap.size w w'))
 case atStart => exact ⟨([] : List (S63)),(0),(by rfl),H',⟨Nat.le_refl _⟩,⟨by exact Kd.S_nil _ _ _ _ _⟩,⟨HB.out⟩⟩
 case round =>
  clear H';obtain ⟨x3_1,x8_1,rfl,HA,HK1,HO_3,HB⟩ := hrel
  cases gk with
  | zero => exact absurd HA.out (by simp [impl_copyAccts.l0])
  | succ k1 =>
   have H := HA.out;clear HA;simp only [impl_copyAccts.l0] at H
   by_cases c2 : x8_1 < (l0.length : Int)
   ·rw [if_pos c2] at H;have c2b0 := decide_eq_true c2;clear c2
    by_cases c3 : 0 ≤ x8_1
    ·rw [if_pos c3] at H;have c3b0 := decide_eq_true c3;clear c3
     by_cases c4 : x8_1 < (l0.length : Int)
     ·rw [if_pos c4] at H;have c4b0 := decide_eq_true c4;clear c4;replace H := Option.bind_eq_some_iff.mp H;obtain ⟨t133,A50,H⟩ := H;replace H : (if x3_1.length < 2199023255552 then (impl_copyAccts.l0 k1 (x3_1 ++ [(⟨(rd_T63 l0 x8_1).f0,(rd_T63 l0 x8_1).f1,(rd_T63 l0 x8_1).f2,(rd_T63 l0 x8_1).f3,t133⟩ : S63)]) l0 (l0.length : Int) (wrap64 (x8_1 + 1))) else (none)) = some r := H;have A5 := Aside0.mk A50;clear A50
      by_cases c6 : x3_1.length < 2199023255552
      ·rw [if_pos c6] at H;have LMc6 := Aside0.mk c6;clear c6;obtain ⟨y136,hy136⟩ : ∃ y_ : List (S63),y_ = (x3_1 ++ [(⟨(rd_T63 l0 x8_1).f0,(rd_T63 l0 x8_1).f1,(rd_T63 l0 x8_1).f2,(rd_T63 l0 x8_1).f3,t133⟩ : S63)]) := ⟨_,rfl⟩
       replace H : (impl_copyAccts.l0 k1 y136 l0 (l0.length : Int) (wrap64 (x8_1 + 1))) = some r := by (rw [hy136]; with_reducible exact H)
       have Ny136 := Aside0.mk hy136;clear hy136;have H' := Aside0.mk H;clear H;have p131 : 0 ≤ (x8_1 : Int) := odt (by with_reducible assumption);have q131 : x8_1 < (l0.length : Int) := odt (by with_reducible assumption);obtain ⟨ad131,A131_4,c131_4,e131,hx131_0,hx131_1,hx131_2,hx131_3,hx131_4,hl131_4,hi131_4⟩ := at_T63 HR0.out x8_1 p131 q131
       cases e131
       replace ⟨hx131_0,hx131_1,hx131_2,hx131_3,hx131_4⟩ := up5 HB.out hx131_0 hx131_1 hx131_2 hx131_3 hx131_4;have HR131_4 := Aside0.mk hi131_4;have HC131_4 := Aside0.mk hl131_4;clear hi131_4 hl131_4;replace p131 := eq_true p131;replace q131 := eq_true q131
       go_wp2_with (first | ((with_reducible refine gate_dst (N := 5) rfl ?_); refine box_event (by rfl) (N := 5) (by rfl) (cs := #[.string (⟨#[]⟩ : ByteArray),.int .i64 0,.int .i64 0,.int .i64 0,.slice none 0 0]) (t := 63) (by go_simp; done) ?_; intro gb132 hg w7 hbox hb; replace HO_3 := Aside0.mk (Kd.S_below (Kd.S_elderB (by exact HO_3.out) gb132 (Nat.le_of_eq hg.symm)) hb); have BK132 := Aside0.mk hbox; have GW132 := gsz HB hg; have GE132 := GW132; replace HB := bst HB hb; clear hb hbox hg; obtain ⟨⟨hcz8_0,hcz8_1,hcz8_2,hcz8_3,hcz8_4⟩,hfz8_0,hfz8_1,hfz8_2,hfz8_3,hfz8_4⟩ := bc5 BK132.out) | ((with_reducible refine gate_callee (f := 121) rfl ?_); refine goesL_ (some 14) rfl rfl Try.func121 (by kernel_rfl) rfl #[.slice A131_4 ((rd_T63 l0 x8_1).f4).length c131_4] rfl (by (try simp only [List.map_toArray,List.map_cons,List.map_nil]); rfl) ?_; (with_reducible refine (impl_Leave_121.calls _ _ ((rd_T63 l0 x8_1).f4) t133 _ ?side1 ?side2 A5.out).mono ?_); (case side1 => exact Kd.C_below HR131_4.out (by repeat (with_reducible first | exact HB.out | refine below_set ?_ GE132.out))); (case side2 => exact HC131_4.out); rintro e w9 ⟨v134,rfl,ho0,hb⟩; refine ⟨_,rfl,?_⟩; replace HO_3 := Aside0.mk (Kd.S_elder' (by exact (Kd.S_mono (Kd.S_far (p := ⟨gb132,4,none⟩) (Kd.S_far (p := ⟨gb132,3,none⟩) (Kd.S_far (p := ⟨gb132,2,none⟩) (Kd.S_far (p := ⟨gb132,1,none⟩) (Kd.S_far (p := ⟨gb132,0,none⟩) (Kd.S_mono HO_3.out (fun k_ hk => (⟨hk,hk.2⟩ : _ ∧ k_ ≠ gb132))) (fun _ hk => hk.2) (.string ((rd_T63 l0 x8_1).f0))) (fun _ hk => hk.2) (.int .i64 ((rd_T63 l0 x8_1).f1))) (fun _ hk => hk.2) (.int .i64 ((rd_T63 l0 x8_1).f2))) (fun _ hk => hk.2) (.int .i64 ((rd_T63 l0 x8_1).f3))) (fun _ hk => hk.2) (.slice A131_4 ((rd_T63 l0 x8_1).f4).length c131_4)) (fun _ h_ => h_.1))) (Kd.R_base ho0) hb); have HO135 := Aside0.mk (Kd.R_lower ho0 (below_size (by repeat (with_reducible first | exact HB.out | refine below_set ?_ GE132.out)))); replace BK132 := Aside0.mk (blk_below (g := gb132) (o := .cells #[.string ((rd_T63 l0 x8_1).f0),.int .i64 ((rd_T63 l0 x8_1).f1),.int .i64 ((rd_T63 l0 x8_1).f2),.int .i64 ((rd_T63 l0 x8_1).f3),.slice A131_4 ((rd_T63 l0 x8_1).f4).length c131_4] 63 (0,0)) (by refine blk_put (cs := #[.string ((rd_T63 l0 x8_1).f0),.int .i64 ((rd_T63 l0 x8_1).f1),.int .i64 ((rd_T63 l0 x8_1).f2),.int .i64 ((rd_T63 l0 x8_1).f3),.slice none 0 0]) ?_ 4 _ rfl; refine blk_put (cs := #[.string ((rd_T63 l0 x8_1).f0),.int .i64 ((rd_T63 l0 x8_1).f1),.int .i64 ((rd_T63 l0 x8_1).f2),.int .i64 0,.slice none 0 0]) ?_ 3 _ rfl; refine blk_put (cs := #[.string ((rd_T63 l0 x8_1).f0),.int .i64 ((rd_T63 l0 x8_1).f1),.int .i64 0,.int .i64 0,.slice none 0 0]) ?_ 2 _ rfl; refine blk_put (cs := #[.string ((rd_T63 l0 x8_1).f0),.int .i64 0,.int .i64 0,.int .i64 0,.slice none 0 0]) ?_ 1 _ rfl; refine blk_put (cs := #[.string (⟨#[]⟩ : ByteArray),.int .i64 0,.int .i64 0,.int .i64 0,.slice none 0 0]) ?_ 0 _ rfl; exact BK132.out) hb); replace HB := Aside0.mk (below_step (by repeat (with_reducible first | exact HB.out | refine below_set ?_ GE132.out)) hb); (try clear hb); (try clear ho0); obtain ⟨Ao10,co10,eo10⟩ := Kd.R_slice HO135.out; subst eo10; obtain ⟨⟨hcz11_0,hcz11_1,hcz11_2,hcz11_3,hcz11_4⟩,hfz11_0,hfz11_1,hfz11_2,hfz11_3,hfz11_4⟩ := bc5 BK132.out) | ((with_reducible refine gate_store (t := 61) (p := 15) rfl ?_); refine store_event (t := 61) (p := 15) (v := ?vo_w12) (w1 := (w9.setCell ⟨gb132,4,none⟩ (.slice Ao10 t133.length co10))) ?hg ?ho ?hn ?hr ?_; (case ho => rfl); (case hg => rfl); (case hn => rfl); (case hr => (go_simp; done)); intro w12 hw; have n0_ : Aside0 (Kd.S k63 63 w12 w.heap.size (fun k_ => some k_ ≠ (.slice Ao10 t133.length co10 : Value).ownBlock ∧ k_ ≠ gb132) u3 x3_1) := ⟨(by rw [hw]; exact (by exact Kd.S_mono (Kd.S_far (p := ⟨gb132,4,none⟩) (Kd.S_mono HO_3.out (fun k_ hk => (⟨hk,hk.1.2⟩ : _ ∧ k_ ≠ gb132))) (fun _ hk => hk.2) (.slice Ao10 t133.length co10)) (fun _ hk => ⟨hk.1.2,hk.1.1.2⟩)))⟩; have n1_ : Aside0 (Kd.R k65 65 w12 w.heap.size (fun _ => True) (.slice Ao10 t133.length co10) t133) := ⟨(by rw [hw]; exact (by exact Kd.R_mono (Kd.R_far (p := ⟨gb132,4,none⟩) (Kd.R_types HO135.out BK132.out (by decide)) (fun _ hk => hk.2) (.slice Ao10 t133.length co10)) (fun _ hk => trivial)))⟩; have n2_ : Aside0 (w12.heap[gb132]? = some (.cells #[.string ((rd_T63 l0 x8_1).f0),.int .i64 ((rd_T63 l0 x8_1).f1),.int .i64 ((rd_T63 l0 x8_1).f2),.int .i64 ((rd_T63 l0 x8_1).f3),.slice Ao10 t133.length co10] 63 (0,0))) := ⟨(by rw [hw]; exact (by refine blk_put (cs := #[.string ((rd_T63 l0 x8_1).f0),.int .i64 ((rd_T63 l0 x8_1).f1),.int .i64 ((rd_T63 l0 x8_1).f2),.int .i64 ((rd_T63 l0 x8_1).f3),.slice A131_4 ((rd_T63 l0 x8_1).f4).length c131_4]) ?_ 4 _ rfl; exact BK132.out))⟩; have n3_ : Aside0 (Below w.heap.size w w12) := ⟨(by rw [hw]; exact (by repeat (with_reducible first | exact HB.out | refine below_set ?_ GE132.out)))⟩; clear hw; clear HO_3; clear HO135; clear BK132; clear HB; have HO_3 := n0_; have HO135 := n1_; have BK132 := n2_; have HB := n3_; clear n0_ n1_ n2_ n3_; obtain ⟨⟨hcz13_0,hcz13_1,hcz13_2,hcz13_3,hcz13_4⟩,hfz13_0,hfz13_1,hfz13_2,hfz13_3,hfz13_4⟩ := bc5 BK132.out) | ((with_reducible refine gate_builtin (b := .append) (xs := #[.tmp 16,.tmp 18]) rfl ?_); at_builtin; refine Kd.S_append k63 (w0 := w) w.heap.size rfl (.tmp 16) (.tmp 18) 29 63 (.agg #[(.string ⟨#[]⟩),(.int .i64 0),(.int .i64 0),(.int .i64 0),(.slice none 0 0)]) 64 rfl Try.underlying29 info63 rfl (by decide) (by omega) u3 x3_1 (⟨(rd_T63 l0 x8_1).f0,(rd_T63 l0 x8_1).f1,(rd_T63 l0 x8_1).f2,(rd_T63 l0 x8_1).f3,t133⟩ : S63) [.string ((rd_T63 l0 x8_1).f0),.int .i64 ((rd_T63 l0 x8_1).f1),.int .i64 ((rd_T63 l0 x8_1).f2),.int .i64 ((rd_T63 l0 x8_1).f3),.slice Ao10 t133.length co10] (fun k_ => k_ ≠ gb132) (fun k_ => some k_ = (.slice Ao10 t133.length co10 : Value).ownBlock) rfl rfl ?aP (fun k_ hk_ => (Kd.R_mono (ok' := fun k_ => (fun k_ => k_ ≠ gb132) k_ ∧ some k_ ≠ (u3 : Value).ownBlock) (Kd.R_types (Kd.R_apart' (HO135.out) (Kd.S_typed HO_3.out) (by decide)) BK132.out (by decide)) (fun k_ hk => ⟨hk.2,hk.1.2⟩)).1 k_ hk_.symm) ?aF ?aO ?aB ?aS ?aL ?_; (case aP => exact k63_mkM _ _ _ (⟨(rd_T63 l0 x8_1).f0,(rd_T63 l0 x8_1).f1,(rd_T63 l0 x8_1).f2,(rd_T63 l0 x8_1).f3,t133⟩ : S63) (Kd.R_mono (Kd.R_tight rfl (Kd.R_mono (ok' := fun k_ => (fun k_ => k_ ≠ gb132) k_ ∧ some k_ ≠ (u3 : Value).ownBlock) (Kd.R_types (Kd.R_apart' (HO135.out) (Kd.S_typed HO_3.out) (by decide)) BK132.out (by decide)) (fun k_ hk => ⟨hk.2,hk.1.2⟩))) (fun _ h_ => h_))); (case aB => exact HB.out); (case aF => exact (fun k_ hk => Kd.freshB BK132.out k_ hk)); (case aO => exact (by exact Kd.S_mono HO_3.out (fun k_ hk => ⟨hk.2,fun e_ => hk.1 e_⟩))); (case aS => exact (below_size HB.out)); (case aL => have := LMc6.out; omega); intro v137 w14 ho hb hg hat; rw [← Ny136.out] at ho; replace BK132 := Aside0.mk (blk_grown BK132.out hg (Kd.S_away HO_3.out (fun _ hk => hk.2))); replace HB := Aside0.mk (hb); have HO138 := Aside0.mk (ho); clear HO_3 HO135; clear ho hb hg hat))
       go_roundg k1
       case measure => have := HK1.out; omega
       case rel => exact ⟨(y136),(wrap64 (x8_1 + 1)),(by rfl),H',⟨by have := HK1.out; omega⟩,⟨by exact Kd.S_mono HO138.out (fun _ hk => trivial)⟩,⟨HB.out⟩⟩
      ·rw [if_neg c6] at H;exact absurd H (by simp)
     ·rw [if_neg c4] at H;exact absurd H (by simp)
    ·rw [if_neg c3] at H;exact absurd H (by simp)
   ·rw [if_neg c2] at H;have c2b0 := decide_eq_false c2;clear c2;obtain rfl := Option.some.inj H;go_wp2;go_ret;exact ⟨_,by rfl,by exact HO_3.out,HB.out⟩

/-! ### impl_copyLedger: function 63 -/
def impl_copyLedger.f (k : Nat) (a0_0 : Int) (l0_1 : List (S63)) : Option (Int × (List (S63))) := (impl_copyAccts.f k l0_1).bind fun t141 => (some (a0_0,t141))
theorem impl_copyLedger.calls (k : Nat) (a0_0 : Int) (A0_1 : Option Addr) (c0_1 : Nat) (l0_1 : List (S63)) (r1 : Int) (r2 : List (S63)) (w : World) (hr0_1 : Kd.C k63 w A0_1 l0_1.length l0_1) (hc0_1 : l0_1.length ≤ c0_1) (h : impl_copyLedger.f k a0_0 l0_1 = some (r1,r2)) :
  Calls Try.prog 63 #[.agg #[.int .i64 a0_0,.slice A0_1 l0_1.length c0_1]] w fun e w' => ∃ v1_ : Value,e = .returned (.agg #[.int .i64 r1,v1_]) ∧ Kd.S k63 63 w' w.heap.size (fun _ => True) v1_ r2 ∧ Below w.heap.size w w' := by
 have hu31 := Try.underlying31;have HR0_1 := Aside0.mk hr0_1;have HC0_1 := Aside0.mk hc0_1;clear hr0_1 hc0_1;have HB := Aside0.mk (Below.refl w.heap.size w);have H : ((impl_copyAccts.f k l0_1).bind fun t141 => (some (a0_0,t141))) = some (r1,r2) := h;clear h;replace H := Option.bind_eq_some_iff.mp H;obtain ⟨t141,A20,H⟩ := H;replace H : (some (a0_0,t141)) = some (r1,r2) := H;have A2 := Aside0.mk A20;clear A20;simp only [Option.some.injEq,Prod.mk.injEq] at H;obtain ⟨rfl,rfl⟩ := H;go_enter Try.func63,Try.ntmps63
 try go_wp2_with (first | ((with_reducible refine gate_dst (N := 1) rfl ?_); refine box_event (by rfl) (N := 1) (by rfl) (cs := #[.int .i64 a0_0,.slice A0_1 l0_1.length c0_1]) (t := 31) (by go_simp; done) ?_; intro gb139 hg w3 hbox hb; have BK139 := Aside0.mk hbox; have GW139 := gsz HB hg; have GE139 := GW139; replace HB := bst HB hb; clear hb hbox hg) | ((with_reducible refine gate_dst (N := 2) rfl ?_); refine box_event (by rfl) (N := 2) (by rfl) (cs := #[.int .i64 0,.slice none 0 0]) (t := 31) (by go_simp; done) ?_; intro gb140 hg w4 hbox hb; have BK140 := Aside0.mk hbox; have GW140 := gsz HB hg; have GE140 := GW140; replace HB := bst HB hb; obtain ⟨NB139_140,NB140_139⟩ := nbb BK139 hg; replace BK139 := bkb BK139 hb; clear hb hbox hg))
 replace BK139 := Aside0.mk (blk_drew BK139.out);replace BK140 := Aside0.mk (blk_drew BK140.out);replace HB := Aside0.mk (below_drew1 HB.out);refine start_ (n := 7) (S := fun w' => w'.cell? ⟨gb139,0,none⟩ = some (.int .i64 a0_0) ∧ w'.cell? ⟨gb139,1,none⟩ = some (.slice A0_1 l0_1.length c0_1)) (ds := []) (Array.replicate 7 false) (by kernel_rfl) rfl rfl ⟨(blk_cell BK139.out 0).trans rfl,(blk_cell BK139.out 1).trans rfl⟩ (fun hHeld => ?_)
 generalize w4.drew = w5 at BK139 BK140 HB hHeld ⊢
 refine pure_ (i := 0) (N := some 3) (v := ?_) (a' := ?_) (fl 7 1) rfl rfl (by kernel_rfl) (fun _ _ _ h => h) (Or.inl ⟨by rfl,?_⟩) ?_ ?_;rotate_left
 ·intro w';go_simp;with_reducible rfl
 rotate_left
 ·simp only [wf_preprocess];rfl
 refine pure_ (i := 2) (N := some 5) (v := ?_) (a' := ?_) (fl 7 5) rfl rfl (by kernel_rfl) (fun _ _ _ h => h) (Or.inl ⟨by rfl,?_⟩) ?_ ?_;rotate_left
 ·intro w';go_simp;with_reducible rfl
 rotate_left
 ·simp only [wf_preprocess];rfl
 refine take_ (i := 1) (N := some 4) (v := ?_) (a' := ?_) (fl 7 7) rfl rfl (by kernel_rfl) (fun _ _ _ h => h) (Or.inl ⟨by rfl,?_⟩) hHeld ?_ ?_;rotate_left
 ·rintro w' ⟨s0,s1⟩;go_simp;with_reducible rfl
 rotate_left
 ·simp only [wf_preprocess];rfl
 refine take_ (i := 3) (N := some 6) (v := ?_) (a' := ?_) (fl 7 15) rfl rfl (by kernel_rfl) (fun _ _ _ h => h) (Or.inl ⟨by rfl,?_⟩) hHeld ?_ ?_;rotate_left
 ·rintro w' ⟨s0,s1⟩;go_simp;with_reducible rfl
 rotate_left
 ·simp only [wf_preprocess];rfl
 refine one_ (i := 4) (N := some 7) (fl 7 31) rfl rfl (by kernel_rfl) (by decide) (fun K hK => ?_);refine goes_ Try.func87 (by kernel_rfl) rfl #[.slice A0_1 l0_1.length c0_1] (by rfl) rfl rfl (by (try simp only [List.map_toArray,List.map_cons,List.map_nil]); rfl) ?_
 with_reducible refine (impl_copyAccts.calls k _ _ l0_1 t141 _ ?side1 ?side2 A2.out).mono ?_
 (case side1 => repeat (exact (Kd.C_below HR0_1.out HB.out)))
 (case side2 => exact HC0_1.out)
 rintro e w6 ⟨v142,rfl,ho0,hb⟩;refine ⟨_,rfl,?_⟩;have HO143 := Aside0.mk (Kd.S_lower ho0 (below_size HB.out));replace BK139 := bkb BK139 hb;replace BK140 := bkb BK140 hb;replace HB := bst HB hb
 (try clear hb)
 skip
 skip
 skip
 (try clear ho0)
 obtain ⟨Ao7,co7,eo7⟩ := Kd.S_slice HO143.out
 (subst eo7)
 refine hK.out _ _ ⟨(blk_cell BK139.out 0).trans rfl,(blk_cell BK139.out 1).trans rfl⟩ (fun hHeld => ?_);clear hK K;refine norm_ (a' := ?_) ?_ ?_;rotate_left
 ·show Act.put _ (some 7) _ = _
  simp only [wf_preprocess];rfl
 refine pure_ (i := 5) (N := some 8) (v := ?_) (a' := ?_) (fl 7 63) rfl rfl (by kernel_rfl) (fun _ _ _ h => h) (Or.inl ⟨by rfl,?_⟩) ?_ ?_;rotate_left
 ·intro w';go_simp;with_reducible rfl
 rotate_left
 ·simp only [wf_preprocess];rfl
 refine one_ (i := 6) (N := none) (fl 7 127) rfl rfl (by kernel_rfl) (by decide) (fun K hK => ?_);have hs8 : w6.cell? ⟨gb140,0,none⟩ = some (.int .i64 0) := (blk_cell BK140.out 0).trans rfl;have hfs8 := blk_frozen BK140.out 0;have hns8_0 := NB139_140.out;have hms8_0 := NB140_139.out;have hs9 : w6.cell? ⟨gb140,1,none⟩ = some (.slice none 0 0) := (blk_cell BK140.out 1).trans rfl;have hfs9 := blk_frozen BK140.out 1;have hns9_0 := NB139_140.out;have hms9_0 := NB140_139.out;refine skip_ (w1 := ?_) (by rfl) rfl ?_ ?_;rotate_left
 ·go_simp;rfl
 refine hK.out _ _ ⟨((cell_far (p := ⟨gb140,_,none⟩) NB139_140.out _).trans ((cell_far (p := ⟨gb140,_,none⟩) NB139_140.out _).trans (hHeld.1))),((cell_far (p := ⟨gb140,_,none⟩) NB139_140.out _).trans ((cell_far (p := ⟨gb140,_,none⟩) NB139_140.out _).trans (hHeld.2)))⟩ (fun hHeld => ?_);clear hK K;refine done_ (by kernel_rfl) ?_
 try go_wp2
 refine bodyPost_ret (results_cell_row rfl _ _ gb140 31 #[.int .i64 a0_0,.slice Ao7 t141.length co7] (0,0) _ rfl (by refine blk_put (cs := #[.int .i64 a0_0,.slice none 0 0]) ?_ 1 _ rfl; refine blk_put (cs := #[.int .i64 0,.slice none 0 0]) ?_ 0 _ rfl; exact BK140.out) Try.underlying31 rfl (by kernel_rfl)) rfl ?_;exact ⟨_,by rfl,by exact Kd.S_mono (Kd.S_far (p := ⟨gb140,1,none⟩) (Kd.S_far (p := ⟨gb140,0,none⟩) (Kd.S_types HO143.out BK140.out (by decide)) (fun _ hk => hk.2) (.int .i64 a0_0)) (fun _ hk => hk.2) (.slice Ao7 t141.length co7)) (fun _ hk => trivial),by repeat (with_reducible first | exact HB.out | refine below_set ?_ GE140.out)⟩

/-! ### impl_Acct_has: function 64 -/
def impl_Acct_has.f (f1 f3 : Int) (a1 : Int) : Option Int := if a1 = 3 then some f3 else some f1
theorem impl_Acct_has.calls (p : Addr) (f1 f3 a1 r : Int) (w : World) (h1 : w.cell? ⟨p.block,p.off + 1,none⟩ = some (.int .i64 f1)) (h3 : w.cell? ⟨p.block,p.off + 3,none⟩ = some (.int .i64 f3)) (h : impl_Acct_has.f f1 f3 a1 = some r) :
  Calls Try.prog 64 #[.pointer (some p),.int .i64 a1] w fun e w' => e = .returned (.int .i64 r) ∧ w' = w := by
 unfold impl_Acct_has.f at h
 by_cases k3 : a1 = 3
 ·rw [if_pos k3] at h;obtain rfl := Option.some.inj h;have k3b : (a1 == 3) = true := beq_iff_eq.mpr k3;clear h k3;go_enter Try.func64,Try.ntmps64;go_wp2;go_ret;exact ⟨rfl,rfl⟩
 ·rw [if_neg k3] at h;obtain rfl := Option.some.inj h;have k3b : (a1 == 3) = false := beq_eq_false_iff_ne.mpr k3;clear h k3;go_enter Try.func64,Try.ntmps64;go_wp2;go_ret;exact ⟨rfl,rfl⟩

-- NOT PRINTED: function 137 (impl_Acct_137)

-- NOT PRINTED: function 149 (impl_Acct_149)

-- NOT PRINTED: function 147 (impl_Acct_147)

-- NOT PRINTED: function 138 (impl_Acct_138)

end Go.Proofs.Ytcbpfofkdipjhaa.PV
