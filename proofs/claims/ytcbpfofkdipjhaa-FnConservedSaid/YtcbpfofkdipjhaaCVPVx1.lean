/- The machine's side of Go functions: each as a plain function,and that the call does what it says. Written by a program (wip/mprint). -/
import Derived.Test.YtcbpfofkdipjhaaCVPVx0
namespace Go.Proofs.Ytcbpfofkdipjhaa.PV
open Go.RowKit Go.Proofs.YtcbpfofkdipjhaaW.PrintWords Go.Proofs.YtcbpfofkdipjhaaW.PrintLast Go.Proofs.YtcbpfofkdipjhaaW.PrintMore
set_option maxHeartbeats 8000000
set_option maxRecDepth 100000
attribute [local go_sem] max2_int min2_int max_two min_two max_three min_three max_four min_four   -- for this text's walks alone
set_option linter.unusedVariables false
set_option linter.unusedSimpArgs false

/-! ### impl_Wealth: function 26 -/
mutual
def impl_Wealth.l0 : Nat → Int → List (S63) → Int → Int → Option (Int)
 | 0,_,_,_,_ => none
 | k + 1,x3,x8,x9,x10 => if x10 < x9 then (if 0 ≤ x10 then (if x10 < (x8.length : Int) then (impl_Wealth.l1 k (wrap64 (x3 + (wrap64 (((rd_T63 x8 x10).f1) + ((rd_T63 x8 x10).f3))))) x8 x9 x10 ((rd_T63 x8 x10).f4) (((rd_T63 x8 x10).f4).length : Int) 0) else (none)) else (none)) else (some x3)
def impl_Wealth.l1 : Nat → Int → List (S63) → Int → Int → List (S65) → Int → Int → Option (Int)
 | 0,_,_,_,_,_,_,_ => none
 | k + 1,x3,x8,x9,x10,x22,x23,x24 => if x24 < x23 then (if 0 ≤ x24 then (if x24 < (x22.length : Int) then (impl_Wealth.l1 k (wrap64 (x3 + ((rd_T65 x22 x24).f0))) x8 x9 x10 x22 x23 (wrap64 (x24 + 1))) else (none)) else (none)) else (impl_Wealth.l0 k x3 x8 x9 (wrap64 (x10 + 1)))
end
def impl_Wealth.f (k : Nat) (l0 : List (S63)) : Option (Int) := impl_Wealth.l0 k 0 l0 (l0.length : Int) 0
theorem impl_Wealth.calls (k : Nat) (A0 : Option Addr) (c0 : Nat) (l0 : List (S63)) (r : Int) (w : World) (hr0 : Kd.C k63 w A0 l0.length l0) (hc0 : l0.length ≤ c0) (h : impl_Wealth.f k l0 = some r) :
  Calls Try.prog 26 #[.slice A0 l0.length c0] w fun e w' => e = .returned (.int .i64 r) ∧ Below w.heap.size w w' := by
 have hu63 := Try.underlying63;have hu65 := Try.underlying65;have HR0 := Aside0.mk hr0;have HC0 := Aside0.mk hc0;clear hr0 hc0;have HB := Aside0.mk (Below.refl w.heap.size w);have H : (impl_Wealth.l0 k 0 l0 (l0.length : Int) 0) = some r := h;clear h;have H' := Aside0.mk H;clear H;go_enter Try.func26,Try.ntmps26;go_wp2
 go_loopg [3,10] k (fun kq v3 v10 w' => ∃ (x3_1 : Int) (x10_1 : Int),v3 = .int .i64 x3_1 ∧ v10 = .int .i64 x10_1 ∧ Aside0 (impl_Wealth.l0 kq x3_1 l0 (l0.length : Int) x10_1 = some r) ∧ Aside0 (kq ≤ k) ∧ Aside0 (Below w.heap.size w w'))
 case atStart => exact ⟨(0),(0),(by rfl),(by rfl),H',⟨Nat.le_refl _⟩,⟨HB.out⟩⟩
 case round =>
  clear H';obtain ⟨x3_1,x10_1,rfl,rfl,HA,HK1,HB⟩ := hrel
  cases gk with
  | zero => exact absurd HA.out (by simp [impl_Wealth.l0])
  | succ k1 =>
   have H := HA.out;clear HA;simp only [impl_Wealth.l0] at H
   by_cases c2 : x10_1 < (l0.length : Int)
   ·rw [if_pos c2] at H;have c2b0 := decide_eq_true c2;clear c2
    by_cases c3 : 0 ≤ x10_1
    ·rw [if_pos c3] at H;have c3b0 := decide_eq_true c3;clear c3
     by_cases c4 : x10_1 < (l0.length : Int)
     ·rw [if_pos c4] at H;have c4b0 := decide_eq_true c4;clear c4;have H' := Aside0.mk H;clear H;have p101 : 0 ≤ (x10_1 : Int) := odt (by with_reducible assumption);have q101 : x10_1 < (l0.length : Int) := odt (by with_reducible assumption);obtain ⟨ad101,A101_4,c101_4,e101,hx101_0,hx101_1,hx101_2,hx101_3,hx101_4,hl101_4,hi101_4⟩ := at_T63 HR0.out x10_1 p101 q101
      cases e101
      replace ⟨hx101_0,hx101_1,hx101_2,hx101_3,hx101_4⟩ := up5 HB.out hx101_0 hx101_1 hx101_2 hx101_3 hx101_4;have HR101_4 := Aside0.mk hi101_4;have HC101_4 := Aside0.mk hl101_4;clear hi101_4 hl101_4;replace p101 := eq_true p101;replace q101 := eq_true q101
      go_wp2_with (((with_reducible refine gate_dst (N := 5) rfl ?_); refine box_event (by rfl) (N := 5) (by rfl) (cs := #[.string (⟨#[]⟩ : ByteArray),.int .i64 0,.int .i64 0,.int .i64 0,.slice none 0 0]) (t := 63) (by go_simp; done) ?_; intro gb102 hg w5 hbox hb; have BK102 := Aside0.mk hbox; have GW102 := gsz HB hg; have GE102 := GW102; replace HB := bst HB hb; clear hb hbox hg; obtain ⟨⟨hcz6_0,hcz6_1,hcz6_2,hcz6_3,hcz6_4⟩,hfz6_0,hfz6_1,hfz6_2,hfz6_3,hfz6_4⟩ := bc5 BK102.out))
      go_loopg [3,24] k1 (fun kq v3 v24 w' => ∃ (x3_2 : Int) (x24_2 : Int),v3 = .int .i64 x3_2 ∧ v24 = .int .i64 x24_2 ∧ Aside0 (impl_Wealth.l1 kq x3_2 l0 (l0.length : Int) x10_1 ((rd_T63 l0 x10_1).f4) (((rd_T63 l0 x10_1).f4).length : Int) x24_2 = some r) ∧ Aside0 (kq ≤ k1) ∧ Aside0 (w'.heap[gb102]? = some (.cells #[.string ((rd_T63 l0 x10_1).f0),.int .i64 ((rd_T63 l0 x10_1).f1),.int .i64 ((rd_T63 l0 x10_1).f2),.int .i64 ((rd_T63 l0 x10_1).f3),(.slice A101_4 ((rd_T63 l0 x10_1).f4).length c101_4)] 63 (0,0))) ∧ Aside0 (Below w.heap.size w w'))
      case atStart => exact ⟨(wrap64 (x3_1 + (wrap64 (((rd_T63 l0 x10_1).f1) + ((rd_T63 l0 x10_1).f3))))),(0),(by rfl),(by rfl),H',⟨Nat.le_refl _⟩,⟨by refine blk_put (cs := #[.string ((rd_T63 l0 x10_1).f0),.int .i64 ((rd_T63 l0 x10_1).f1),.int .i64 ((rd_T63 l0 x10_1).f2),.int .i64 ((rd_T63 l0 x10_1).f3),.slice none 0 0]) ?_ 4 _ rfl; refine blk_put (cs := #[.string ((rd_T63 l0 x10_1).f0),.int .i64 ((rd_T63 l0 x10_1).f1),.int .i64 ((rd_T63 l0 x10_1).f2),.int .i64 0,.slice none 0 0]) ?_ 3 _ rfl; refine blk_put (cs := #[.string ((rd_T63 l0 x10_1).f0),.int .i64 ((rd_T63 l0 x10_1).f1),.int .i64 0,.int .i64 0,.slice none 0 0]) ?_ 2 _ rfl; refine blk_put (cs := #[.string ((rd_T63 l0 x10_1).f0),.int .i64 0,.int .i64 0,.int .i64 0,.slice none 0 0]) ?_ 1 _ rfl; refine blk_put (cs := #[.string (⟨#[]⟩ : ByteArray),.int .i64 0,.int .i64 0,.int .i64 0,.slice none 0 0]) ?_ 0 _ rfl; exact BK102.out⟩,⟨by repeat (with_reducible first | exact HB.out | refine below_set ?_ GE102.out)⟩⟩
      case round =>
       clear H'
       try clear c1
       try clear p1
       try clear q1
       try clear hx1
       try clear c2
       try clear c2b0
       try clear p2
       try clear c3
       try clear c3b0
       try clear c4
       try clear c4b0
       try clear p6
       try clear hcz6_0
       try clear hcz6_1
       try clear hcz6_2
       try clear hcz6_3
       try clear hcz6_4
       try clear hfz6_0
       try clear hfz6_1
       try clear hfz6_2
       try clear hfz6_3
       try clear hfz6_4
       try clear hx101_0
       try clear hx101_1
       try clear hx101_2
       try clear hx101_3
       try clear hx101_4
       try clear p101
       try clear q101
       obtain ⟨x3_2,x24_2,rfl,rfl,HA,HK2,BK102,HB⟩ := hrel
       cases gk with
       | zero => exact absurd HA.out (by simp [impl_Wealth.l1])
       | succ k2 =>
        have H := HA.out;clear HA;simp only [impl_Wealth.l1] at H
        by_cases c7 : x24_2 < (((rd_T63 l0 x10_1).f4).length : Int)
        ·rw [if_pos c7] at H;have c7b0 := decide_eq_true c7;clear c7
         by_cases c8 : 0 ≤ x24_2
         ·rw [if_pos c8] at H;have c8b0 := decide_eq_true c8;clear c8
          by_cases c9 : x24_2 < (((rd_T63 l0 x10_1).f4).length : Int)
          ·rw [if_pos c9] at H;have c9b0 := decide_eq_true c9;clear c9;have H' := Aside0.mk H;clear H;have p103 : 0 ≤ (x24_2 : Int) := odt (by with_reducible assumption);have q103 : x24_2 < (((rd_T63 l0 x10_1).f4).length : Int) := odt (by with_reducible assumption);obtain ⟨ad103,e103,hx103_0,hx103_1⟩ := at_T65 HR101_4.out x24_2 p103 q103
           cases e103
           replace hx103_0 := up_ HB.out hx103_0;replace hx103_1 := up_ HB.out hx103_1;replace p103 := eq_true p103;replace q103 := eq_true q103
           go_wp2_with (((with_reducible refine gate_dst (N := 7) rfl ?_); refine box_event (by rfl) (N := 7) (by rfl) (cs := #[.int .i64 0,.int .i64 0]) (t := 65) (by go_simp; done) ?_; intro gb104 hg w10 hbox hb; have BK104 := Aside0.mk hbox; have GW104 := gsz HB hg; have GE104 := GW104; replace HB := bst HB hb; obtain ⟨NB102_104,NB104_102⟩ := nbb BK102 hg; replace BK102 := bkb BK102 hb; clear hb hbox hg; have hnb11 := NB104_102.out; have hnc11 := NB102_104.out; obtain ⟨⟨hcz12_0,hcz12_1⟩,hfz12_0,hfz12_1⟩ := bc2 BK104.out))
           go_roundg k2
           case measure => have := HK1.out; have := HK2.out; omega
           case rel => exact ⟨(wrap64 (x3_2 + ((rd_T65 ((rd_T63 l0 x10_1).f4) x24_2).f0))),(wrap64 (x24_2 + 1)),(by rfl),(by rfl),H',⟨by have := HK1.out; have := HK2.out; omega⟩,⟨by refine blk_far ?_ NB102_104.out _; refine blk_far ?_ NB102_104.out _; exact BK102.out⟩,⟨by repeat (with_reducible first | exact HB.out | refine below_set ?_ GE104.out)⟩⟩
          ·rw [if_neg c9] at H;exact absurd H (by simp)
         ·rw [if_neg c8] at H;exact absurd H (by simp)
        ·rw [if_neg c7] at H;have c7b0 := decide_eq_false c7;clear c7;have H' := Aside0.mk H;clear H;go_wp2
         go_roundg k2
         case measure => have := HK1.out; have := HK2.out; omega
         case rel => exact ⟨(x3_2),(wrap64 (x10_1 + 1)),(by rfl),(by rfl),H',⟨by have := HK1.out; have := HK2.out; omega⟩,⟨HB.out⟩⟩
     ·rw [if_neg c4] at H;exact absurd H (by simp)
    ·rw [if_neg c3] at H;exact absurd H (by simp)
   ·rw [if_neg c2] at H;have c2b0 := decide_eq_false c2;clear c2;obtain rfl := Option.some.inj H;go_wp2;go_ret;exact ⟨by rfl,HB.out⟩

/-! ### impl_inRange: function 69 -/
def impl_inRange.f (a0 : Int) (a1 : Int) (a2 : Int) : Option (Bool) := if a0 ≥ a1 then (some (decide (a0 ≤ a2))) else (some false)
theorem impl_inRange.calls (a0 : Int) (a1 : Int) (a2 : Int) (r : Bool) (w : World) (h : impl_inRange.f a0 a1 a2 = some r) :
  Calls Try.prog 69 #[.int .i64 a0,.int .i64 a1,.int .i64 a2] w fun e w' => e = .returned (.bool r) ∧ Drawn0 w w' := by
 have H : (if a0 ≥ a1 then (some (decide (a0 ≤ a2))) else (some false)) = some r := h;clear h
 by_cases c4 : a0 ≥ a1
 ·rw [if_pos c4] at H;have c4b0 := decide_eq_true c4;clear c4;obtain rfl := Option.some.inj H;go_enter Try.func69,Try.ntmps69;go_wp2;go_ret;exact ⟨by rfl,by repeat (exact Drawn0.refl _)⟩
 ·rw [if_neg c4] at H;have c4b0 := decide_eq_false c4;clear c4;obtain rfl := Option.some.inj H;go_enter Try.func69,Try.ntmps69;go_wp2;go_ret;exact ⟨by rfl,by repeat (exact Drawn0.refl _)⟩

/-! ### impl_isAmount: function 85 -/
def impl_isAmount.f (a0 : Int) : Option (Bool) := (impl_inRange.f a0 0 1000000).bind fun t105 => (some t105)
theorem impl_isAmount.calls (a0 : Int) (r : Bool) (w : World) (h : impl_isAmount.f a0 = some r) :
  Calls Try.prog 85 #[.int .i64 a0] w fun e w' => e = .returned (.bool r) ∧ Drawn0 w w' := by
 have H : ((impl_inRange.f a0 0 1000000).bind fun t105 => (some t105)) = some r := h;clear h;replace H := Option.bind_eq_some_iff.mp H;obtain ⟨t105,A20,H⟩ := H;replace H : (some t105) = some r := H;have A2 := Aside0.mk A20;clear A20;obtain rfl := Option.some.inj H;go_enter Try.func85,Try.ntmps85
 go_wp2_with (((with_reducible refine gate_callee (f := 69) rfl ?_); refine goesL_ (some 4) rfl rfl Try.func69 (by kernel_rfl) rfl #[.int .i64 a0,.int .i64 0,.int .i64 1000000] rfl (by (try simp only [List.map_toArray,List.map_cons,List.map_nil]); rfl) ?_; (with_reducible refine (impl_inRange.calls a0 0 1000000 t105 _ A2.out).mono ?_); rintro e w' ⟨rfl,⟨nd,rfl⟩⟩; refine ⟨_,rfl,?_⟩))
 go_ret;exact ⟨by rfl,by repeat (first | exact Drawn0.refl _ | apply Drawn0.step)⟩

/-! ### impl_NameOk: function 86 -/
def impl_NameOk.l0 : Nat → ByteArray → Int → Option (Bool)
 | 0,_,_ => none
 | k + 1,x0,x3 => if x3 < (x0.size : Int) then (if 0 ≤ x3 then (if (bt x0 x3) ≥ 97 then (if (bt x0 x3) ≤ 122 then (impl_NameOk.l0 k x0 (wrap64 (x3 + 1))) else (if (bt x0 x3) ≥ 48 then (if ((bt x0 x3) ≤ 57) then (impl_NameOk.l0 k x0 (wrap64 (x3 + 1))) else (some false)) else (some false))) else (if (bt x0 x3) ≥ 48 then (if ((bt x0 x3) ≤ 57) then (impl_NameOk.l0 k x0 (wrap64 (x3 + 1))) else (some false)) else (some false))) else (none)) else ((impl_inRange.f (x0.size : Int) 1 8).bind fun t106 => (some t106))
def impl_NameOk.f (k : Nat) (a0 : ByteArray) : Option (Bool) := impl_NameOk.l0 k a0 0
theorem impl_NameOk.calls (k : Nat) (a0 : ByteArray) (r : Bool) (w : World) (h : impl_NameOk.f k a0 = some r) :
  Calls Try.prog 86 #[.string a0] w fun e w' => e = .returned (.bool r) ∧ Drawn0 w w' := by
 have H : (impl_NameOk.l0 k a0 0) = some r := h;clear h;have H' := Aside0.mk H;clear H;go_enter Try.func86,Try.ntmps86;go_wp2
 go_loopg [3] k (fun kq v3 w' => ∃ (x3_1 : Int),v3 = .int .i64 x3_1 ∧ Aside0 (impl_NameOk.l0 kq a0 x3_1 = some r) ∧ Aside0 (kq ≤ k) ∧ Drawn0 w w')
 case atStart => exact ⟨(0),(by rfl),H',⟨Nat.le_refl _⟩,by repeat (exact Drawn0.refl _)⟩
 case round =>
  clear H';obtain ⟨x3_1,rfl,HA,HK1,⟨m1,rfl⟩⟩ := hrel
  cases gk with
  | zero => exact absurd HA.out (by simp [impl_NameOk.l0])
  | succ k1 =>
   have H := HA.out;clear HA;simp only [impl_NameOk.l0] at H
   by_cases c2 : x3_1 < (a0.size : Int)
   ·rw [if_pos c2] at H;have c2b0 := decide_eq_true c2;clear c2
    by_cases c3 : 0 ≤ x3_1
    ·rw [if_pos c3] at H;have c3b0 := decide_eq_true c3;clear c3
     by_cases c5 : (bt a0 x3_1) ≥ 97
     ·rw [if_pos c5] at H;have c5b0 := decide_eq_true c5;clear c5
      by_cases c7 : (bt a0 x3_1) ≤ 122
      ·rw [if_pos c7] at H;have c7b0 := decide_eq_true c7;clear c7;have H' := Aside0.mk H;clear H;have p4 : 0 ≤ (x3_1 : Int) := odt (by with_reducible assumption);have q4 : x3_1 < (a0.size : Int) := odt (by with_reducible assumption);have hx4 := bt_at a0 x3_1;replace p4 := eq_true p4;replace q4 := eq_true q4;have p6 : 0 ≤ (x3_1 : Int) := odt (by with_reducible assumption);have q6 : x3_1 < (a0.size : Int) := odt (by with_reducible assumption);have hx6 := bt_at a0 x3_1;replace p6 := eq_true p6;replace q6 := eq_true q6;go_wp2
       go_roundg k1
       case measure => have := HK1.out; omega
       case rel => exact ⟨(wrap64 (x3_1 + 1)),(by rfl),H',⟨by have := HK1.out; omega⟩,by repeat (first | exact Drawn0.refl _ | apply Drawn0.step)⟩
      ·rw [if_neg c7] at H;have c7b0 := decide_eq_false c7;clear c7
       by_cases c9 : (bt a0 x3_1) ≥ 48
       ·rw [if_pos c9] at H;have c9b0 := decide_eq_true c9;clear c9
        by_cases c11 : ((bt a0 x3_1) ≤ 57)
        ·rw [if_pos c11] at H;have c11b0 := decide_eq_true c11;clear c11;have H' := Aside0.mk H;clear H;have p4 : 0 ≤ (x3_1 : Int) := odt (by with_reducible assumption);have q4 : x3_1 < (a0.size : Int) := odt (by with_reducible assumption);have hx4 := bt_at a0 x3_1;replace p4 := eq_true p4;replace q4 := eq_true q4;have p6 : 0 ≤ (x3_1 : Int) := odt (by with_reducible assumption);have q6 : x3_1 < (a0.size : Int) := odt (by with_reducible assumption);have hx6 := bt_at a0 x3_1;replace p6 := eq_true p6;replace q6 := eq_true q6;have p8 : 0 ≤ (x3_1 : Int) := odt (by with_reducible assumption);have q8 : x3_1 < (a0.size : Int) := odt (by with_reducible assumption);have hx8 := bt_at a0 x3_1;replace p8 := eq_true p8;replace q8 := eq_true q8;have p10 : 0 ≤ (x3_1 : Int) := odt (by with_reducible assumption);have q10 : x3_1 < (a0.size : Int) := odt (by with_reducible assumption);have hx10 := bt_at a0 x3_1;replace p10 := eq_true p10;replace q10 := eq_true q10;go_wp2
         go_roundg k1
         case measure => have := HK1.out; omega
         case rel => exact ⟨(wrap64 (x3_1 + 1)),(by rfl),H',⟨by have := HK1.out; omega⟩,by repeat (first | exact Drawn0.refl _ | apply Drawn0.step)⟩
        ·rw [if_neg c11] at H;have c11b0 := decide_eq_false c11;clear c11;obtain rfl := Option.some.inj H;have p4 : 0 ≤ (x3_1 : Int) := odt (by with_reducible assumption);have q4 : x3_1 < (a0.size : Int) := odt (by with_reducible assumption);have hx4 := bt_at a0 x3_1;replace p4 := eq_true p4;replace q4 := eq_true q4;have p6 : 0 ≤ (x3_1 : Int) := odt (by with_reducible assumption);have q6 : x3_1 < (a0.size : Int) := odt (by with_reducible assumption);have hx6 := bt_at a0 x3_1;replace p6 := eq_true p6;replace q6 := eq_true q6;have p8 : 0 ≤ (x3_1 : Int) := odt (by with_reducible assumption);have q8 : x3_1 < (a0.size : Int) := odt (by with_reducible assumption);have hx8 := bt_at a0 x3_1;replace p8 := eq_true p8;replace q8 := eq_true q8;have p10 : 0 ≤ (x3_1 : Int) := odt (by with_reducible assumption);have q10 : x3_1 < (a0.size : Int) := odt (by with_reducible assumption);have hx10 := bt_at a0 x3_1;replace p10 := eq_true p10;replace q10 := eq_true q10;go_wp2;go_ret;exact ⟨by rfl,by repeat (first | exact Drawn0.refl _ | apply Drawn0.step)⟩
       ·rw [if_neg c9] at H;have c9b0 := decide_eq_false c9;clear c9;obtain rfl := Option.some.inj H;have p4 : 0 ≤ (x3_1 : Int) := odt (by with_reducible assumption);have q4 : x3_1 < (a0.size : Int) := odt (by with_reducible assumption);have hx4 := bt_at a0 x3_1;replace p4 := eq_true p4;replace q4 := eq_true q4;have p6 : 0 ≤ (x3_1 : Int) := odt (by with_reducible assumption);have q6 : x3_1 < (a0.size : Int) := odt (by with_reducible assumption);have hx6 := bt_at a0 x3_1;replace p6 := eq_true p6;replace q6 := eq_true q6;have p8 : 0 ≤ (x3_1 : Int) := odt (by with_reducible assumption);have q8 : x3_1 < (a0.size : Int) := odt (by with_reducible assumption);have hx8 := bt_at a0 x3_1;replace p8 := eq_true p8;replace q8 := eq_true q8;go_wp2;go_ret;exact ⟨by rfl,by repeat (first | exact Drawn0.refl _ | apply Drawn0.step)⟩
     ·rw [if_neg c5] at H;have c5b0 := decide_eq_false c5;clear c5
      by_cases c13 : (bt a0 x3_1) ≥ 48
      ·rw [if_pos c13] at H;have c13b0 := decide_eq_true c13;clear c13
       by_cases c15 : ((bt a0 x3_1) ≤ 57)
       ·rw [if_pos c15] at H;have c15b0 := decide_eq_true c15;clear c15;have H' := Aside0.mk H;clear H;have p4 : 0 ≤ (x3_1 : Int) := odt (by with_reducible assumption);have q4 : x3_1 < (a0.size : Int) := odt (by with_reducible assumption);have hx4 := bt_at a0 x3_1;replace p4 := eq_true p4;replace q4 := eq_true q4;have p12 : 0 ≤ (x3_1 : Int) := odt (by with_reducible assumption);have q12 : x3_1 < (a0.size : Int) := odt (by with_reducible assumption);have hx12 := bt_at a0 x3_1;replace p12 := eq_true p12;replace q12 := eq_true q12;have p14 : 0 ≤ (x3_1 : Int) := odt (by with_reducible assumption);have q14 : x3_1 < (a0.size : Int) := odt (by with_reducible assumption);have hx14 := bt_at a0 x3_1;replace p14 := eq_true p14;replace q14 := eq_true q14;go_wp2
        go_roundg k1
        case measure => have := HK1.out; omega
        case rel => exact ⟨(wrap64 (x3_1 + 1)),(by rfl),H',⟨by have := HK1.out; omega⟩,by repeat (first | exact Drawn0.refl _ | apply Drawn0.step)⟩
       ·rw [if_neg c15] at H;have c15b0 := decide_eq_false c15;clear c15;obtain rfl := Option.some.inj H;have p4 : 0 ≤ (x3_1 : Int) := odt (by with_reducible assumption);have q4 : x3_1 < (a0.size : Int) := odt (by with_reducible assumption);have hx4 := bt_at a0 x3_1;replace p4 := eq_true p4;replace q4 := eq_true q4;have p12 : 0 ≤ (x3_1 : Int) := odt (by with_reducible assumption);have q12 : x3_1 < (a0.size : Int) := odt (by with_reducible assumption);have hx12 := bt_at a0 x3_1;replace p12 := eq_true p12;replace q12 := eq_true q12;have p14 : 0 ≤ (x3_1 : Int) := odt (by with_reducible assumption);have q14 : x3_1 < (a0.size : Int) := odt (by with_reducible assumption);have hx14 := bt_at a0 x3_1;replace p14 := eq_true p14;replace q14 := eq_true q14;go_wp2;go_ret;exact ⟨by rfl,by repeat (first | exact Drawn0.refl _ | apply Drawn0.step)⟩
      ·rw [if_neg c13] at H;have c13b0 := decide_eq_false c13;clear c13;obtain rfl := Option.some.inj H;have p4 : 0 ≤ (x3_1 : Int) := odt (by with_reducible assumption);have q4 : x3_1 < (a0.size : Int) := odt (by with_reducible assumption);have hx4 := bt_at a0 x3_1;replace p4 := eq_true p4;replace q4 := eq_true q4;have p12 : 0 ≤ (x3_1 : Int) := odt (by with_reducible assumption);have q12 : x3_1 < (a0.size : Int) := odt (by with_reducible assumption);have hx12 := bt_at a0 x3_1;replace p12 := eq_true p12;replace q12 := eq_true q12;go_wp2;go_ret;exact ⟨by rfl,by repeat (first | exact Drawn0.refl _ | apply Drawn0.step)⟩
    ·rw [if_neg c3] at H;exact absurd H (by simp)
   ·rw [if_neg c2] at H;have c2b0 := decide_eq_false c2;clear c2;replace H := Option.bind_eq_some_iff.mp H;obtain ⟨t106,A160,H⟩ := H;replace H : (some t106) = some r := H;have A16 := Aside0.mk A160;clear A160;obtain rfl := Option.some.inj H
    go_wp2_with (((with_reducible refine gate_callee (f := 69) rfl ?_); refine goesL_ (some 35) rfl rfl Try.func69 (by kernel_rfl) rfl #[.int .i64 (a0.size : Int),.int .i64 1,.int .i64 8] rfl (by (try simp only [List.map_toArray,List.map_cons,List.map_nil]); rfl) ?_; (with_reducible refine (impl_inRange.calls (a0.size : Int) 1 8 t106 _ A16.out).mono ?_); rintro e w' ⟨rfl,⟨nd,rfl⟩⟩; refine ⟨_,rfl,?_⟩))
    go_ret;exact ⟨by rfl,by repeat (first | exact Drawn0.refl _ | apply Drawn0.step)⟩

/-! ### impl_AcctOk: function 45 -/
def impl_AcctOk.l0 : Nat → List (S65) → Int → Int → ByteArray → Int → Int → Int → List (S65) → Option (Bool)
 | 0,_,_,_,_,_,_,_,_ => none
 | k + 1,x6,x7,x8,x108000,x108001,x108002,x108003,x108004 => if x8 < x7 then (if 0 ≤ x8 then (if x8 < (x6.length : Int) then ((impl_inRange.f ((rd_T65 x6 x8).f0) 1 1000000).bind fun t110 => (if t110 = true then ((impl_inRange.f ((rd_T65 x6 x8).f1) 0 1000).bind fun t111 => (if t111 = true then (if x8 > 0 then (if 0 ≤ (wrap64 (x8 - 1)) then (if (wrap64 (x8 - 1)) < (x108004.length : Int) then (if ((rd_T65 x6 x8).f1) ≤ ((rd_T65 x108004 (wrap64 (x8 - 1))).f1) then (some false) else (impl_AcctOk.l0 k x6 x7 (wrap64 (x8 + 1)) x108000 x108001 x108002 x108003 x108004)) else (none)) else (none)) else (impl_AcctOk.l0 k x6 x7 (wrap64 (x8 + 1)) x108000 x108001 x108002 x108003 x108004)) else (some false))) else (some false))) else (none)) else (none)) else ((impl_NameOk.f k x108000).bind fun t113 => (if t113 = true then ((impl_isAmount.f x108001).bind fun t114 => (if t114 = true then ((impl_isAmount.f x108003).bind fun t115 => (if t115 = true then ((impl_inRange.f x108002 0 10000).bind fun t116 => (if t116 = true then (some (decide ((x108004.length : Int) ≤ 4))) else (some false))) else (some false))) else (some false))) else (some false)))
def impl_AcctOk.f (k : Nat) (a0_0 : ByteArray) (a0_1 : Int) (a0_2 : Int) (a0_3 : Int) (l0_4 : List (S65)) : Option (Bool) := impl_AcctOk.l0 k l0_4 (l0_4.length : Int) 0 a0_0 a0_1 a0_2 a0_3 l0_4
theorem impl_AcctOk.calls (k : Nat) (a0_0 : ByteArray) (a0_1 : Int) (a0_2 : Int) (a0_3 : Int) (A0_4 : Option Addr) (c0_4 : Nat) (l0_4 : List (S65)) (r : Bool) (w : World) (hr0_4 : Kd.C k65 w A0_4 l0_4.length l0_4) (hc0_4 : l0_4.length ≤ c0_4) (h : impl_AcctOk.f k a0_0 a0_1 a0_2 a0_3 l0_4 = some r) :
  Calls Try.prog 45 #[.agg #[.string a0_0,.int .i64 a0_1,.int .i64 a0_2,.int .i64 a0_3,.slice A0_4 l0_4.length c0_4]] w fun e w' => e = .returned (.bool r) ∧ Below w.heap.size w w' := by
 have hu63 := Try.underlying63;have hu65 := Try.underlying65;have HR0_4 := Aside0.mk hr0_4;have HC0_4 := Aside0.mk hc0_4;clear hr0_4 hc0_4;have HB := Aside0.mk (Below.refl w.heap.size w);have H : (impl_AcctOk.l0 k l0_4 (l0_4.length : Int) 0 a0_0 a0_1 a0_2 a0_3 l0_4) = some r := h;clear h;have H' := Aside0.mk H;clear H;go_enter Try.func45,Try.ntmps45
 go_wp2_with (((with_reducible refine gate_dst (N := 1) rfl ?_); (try (refine gate_guard (by rfl) ?_; dsimp only)); refine box_event (by rfl) (N := 1) (by rfl) (cs := #[.string a0_0,.int .i64 a0_1,.int .i64 a0_2,.int .i64 a0_3,.slice A0_4 l0_4.length c0_4]) (t := 63) (by go_simp; done) ?_; intro gb107 hg w2 hbox hb; have BK107 := Aside0.mk hbox; have GW107 := gsz HB hg; have GE107 := GW107; replace HB := bst HB hb; clear hb hbox hg; obtain ⟨⟨hcz3_0,hcz3_1,hcz3_2,hcz3_3,hcz3_4⟩,hfz3_0,hfz3_1,hfz3_2,hfz3_3,hfz3_4⟩ := bc5 BK107.out))
 repeat (go_quiet (fail); try go_wp2_with (fail))
 go_loopg [8] k (fun kq v8 w' => ∃ (x8_1 : Int),v8 = .int .i64 x8_1 ∧ Aside0 (impl_AcctOk.l0 kq l0_4 (l0_4.length : Int) x8_1 a0_0 a0_1 a0_2 a0_3 l0_4 = some r) ∧ Aside0 (kq ≤ k) ∧ Aside0 (w'.heap[gb107]? = some (.cells #[.string a0_0,.int .i64 a0_1,.int .i64 a0_2,.int .i64 a0_3,(.slice A0_4 l0_4.length c0_4)] 63 (0,0))) ∧ Aside0 (Below w.heap.size w w'))
 case atStart => exact ⟨(0),(by rfl),H',⟨Nat.le_refl _⟩,⟨by exact BK107.out⟩,⟨HB.out⟩⟩
 case round =>
  clear H'
  try clear p2
  try clear hcz3_0
  try clear hcz3_1
  try clear hcz3_2
  try clear hcz3_3
  try clear hcz3_4
  try clear hfz3_0
  try clear hfz3_1
  try clear hfz3_2
  try clear hfz3_3
  try clear hfz3_4
  obtain ⟨x8_1,rfl,HA,HK1,BK107,HB⟩ := hrel
  cases gk with
  | zero => exact absurd HA.out (by simp [impl_AcctOk.l0])
  | succ k1 =>
   have H := HA.out;clear HA;simp only [impl_AcctOk.l0] at H
   by_cases c4 : x8_1 < (l0_4.length : Int)
   ·rw [if_pos c4] at H;have c4b0 := decide_eq_true c4;clear c4
    by_cases c5 : 0 ≤ x8_1
    ·rw [if_pos c5] at H;have c5b0 := decide_eq_true c5;clear c5
     by_cases c6 : x8_1 < (l0_4.length : Int)
     ·rw [if_pos c6] at H;have c6b0 := decide_eq_true c6;clear c6;replace H := Option.bind_eq_some_iff.mp H;obtain ⟨t110,A70,H⟩ := H;replace H : (if t110 = true then ((impl_inRange.f ((rd_T65 l0_4 x8_1).f1) 0 1000).bind fun t111 => (if t111 = true then (if x8_1 > 0 then (if 0 ≤ (wrap64 (x8_1 - 1)) then (if (wrap64 (x8_1 - 1)) < (l0_4.length : Int) then (if ((rd_T65 l0_4 x8_1).f1) ≤ ((rd_T65 l0_4 (wrap64 (x8_1 - 1))).f1) then (some false) else (impl_AcctOk.l0 k1 l0_4 (l0_4.length : Int) (wrap64 (x8_1 + 1)) a0_0 a0_1 a0_2 a0_3 l0_4)) else (none)) else (none)) else (impl_AcctOk.l0 k1 l0_4 (l0_4.length : Int) (wrap64 (x8_1 + 1)) a0_0 a0_1 a0_2 a0_3 l0_4)) else (some false))) else (some false)) = some r := H;have A7 := Aside0.mk A70;clear A70
      by_cases c8 : t110 = true
      ·subst c8
       rw [if_pos rfl] at H
       replace H := Option.bind_eq_some_iff.mp H;obtain ⟨t111,A90,H⟩ := H;replace H : (if t111 = true then (if x8_1 > 0 then (if 0 ≤ (wrap64 (x8_1 - 1)) then (if (wrap64 (x8_1 - 1)) < (l0_4.length : Int) then (if ((rd_T65 l0_4 x8_1).f1) ≤ ((rd_T65 l0_4 (wrap64 (x8_1 - 1))).f1) then (some false) else (impl_AcctOk.l0 k1 l0_4 (l0_4.length : Int) (wrap64 (x8_1 + 1)) a0_0 a0_1 a0_2 a0_3 l0_4)) else (none)) else (none)) else (impl_AcctOk.l0 k1 l0_4 (l0_4.length : Int) (wrap64 (x8_1 + 1)) a0_0 a0_1 a0_2 a0_3 l0_4)) else (some false)) = some r := H;have A9 := Aside0.mk A90;clear A90
       by_cases c10 : t111 = true
       ·subst c10
        rw [if_pos rfl] at H
        by_cases c11 : x8_1 > 0
        ·rw [if_pos c11] at H;have c11b0 := decide_eq_true c11;clear c11;obtain ⟨ji12,hji12⟩ : ∃ j_ : Int,(wrap64 (x8_1 - 1)) = j_ := ⟨_,rfl⟩
         replace H : (if 0 ≤ (ji12) then (if (ji12) < (l0_4.length : Int) then (if ((rd_T65 l0_4 x8_1).f1) ≤ ((rd_T65 l0_4 (ji12)).f1) then (some false) else (impl_AcctOk.l0 k1 l0_4 (l0_4.length : Int) (wrap64 (x8_1 + 1)) a0_0 a0_1 a0_2 a0_3 l0_4)) else (none)) else (none)) = some r := by (rw [hji12] at H; exact H)
         skip
         skip
         have hji12w : (IntKind.i64.wrap (x8_1 - 1)) = ji12 := (i64_w _).trans hji12
         by_cases c13 : 0 ≤ (ji12)
         ·rw [if_pos c13] at H;have c13b0 := decide_eq_true c13;clear c13
          by_cases c14 : (ji12) < (l0_4.length : Int)
          ·rw [if_pos c14] at H;have c14b0 := decide_eq_true c14;clear c14
           by_cases c15 : ((rd_T65 l0_4 x8_1).f1) ≤ ((rd_T65 l0_4 (ji12)).f1)
           ·rw [if_pos c15] at H;have c15b0 := decide_eq_true c15;clear c15;obtain rfl := Option.some.inj H;have p108 : 0 ≤ (x8_1 : Int) := odt (by with_reducible assumption);have q108 : x8_1 < (l0_4.length : Int) := odt (by with_reducible assumption);obtain ⟨ad108,e108,hx108_0,hx108_1⟩ := at_T65 HR0_4.out x8_1 p108 q108
            cases e108
            replace hx108_0 := up_ HB.out hx108_0;replace hx108_1 := up_ HB.out hx108_1;replace p108 := eq_true p108;replace q108 := eq_true q108
            go_wp2_with ((with_reducible refine gate_dst (N := 4) rfl ?_); (try (refine gate_guard (by rfl) ?_; dsimp only)); refine box_event (by rfl) (N := 4) (by rfl) (cs := #[.int .i64 0,.int .i64 0]) (t := 65) (by go_simp; done) ?_; intro gb109 hg w16 hbox hb; have BK109 := Aside0.mk hbox; have GW109 := gsz HB hg; have GE109 := GW109; replace HB := bst HB hb; obtain ⟨NB107_109,NB109_107⟩ := nbb BK107 hg; replace BK107 := bkb BK107 hb; clear hb hbox hg; have hnb17 := NB109_107.out; have hnc17 := NB107_109.out; obtain ⟨⟨hcz18_0,hcz18_1⟩,hfz18_0,hfz18_1⟩ := bc2 BK109.out)
            repeat (go_quiet (first | (go_at_call 69; (with_reducible refine (impl_inRange.calls ((rd_T65 l0_4 x8_1).f0) 1 1000000 true _ A7.out).mono ?_); rintro e w' ⟨rfl,⟨nd,rfl⟩⟩; (try first | exact ⟨rfl,_,World.drewN_drewN _ _ _⟩ | exact ⟨rfl,_,Eq.trans (World.drewN_drewN _ _ _) (congrArg (World.drewN _) (Nat.add_assoc _ _ _))⟩)) | (go_at_call 69; (with_reducible refine (impl_inRange.calls ((rd_T65 l0_4 x8_1).f1) 0 1000 true _ A9.out).mono ?_); rintro e w' ⟨rfl,⟨nd,rfl⟩⟩; (try first | exact ⟨rfl,_,World.drewN_drewN _ _ _⟩ | exact ⟨rfl,_,Eq.trans (World.drewN_drewN _ _ _) (congrArg (World.drewN _) (Nat.add_assoc _ _ _))⟩); obtain ⟨⟨hcz19_0,hcz19_1,hcz19_2,hcz19_3,hcz19_4⟩,hfz19_0,hfz19_1,hfz19_2,hfz19_3,hfz19_4⟩ := bc5 BK107.out; have p112 : 0 ≤ ((ji12) : Int) := odt (by first | (with_reducible assumption) | assumption); have q112 : (ji12) < (l0_4.length : Int) := odt (by first | (with_reducible assumption) | assumption); obtain ⟨ad112,e112,hx112_0,hx112_1⟩ := at_T65 HR0_4.out (ji12) p112 q112; obtain rfl : ad108 = ad112 := (by injection e112); have hn112_0 : ad108.block ≠ gb109 := Nat.ne_of_lt (Nat.lt_of_lt_of_le (by have := World.block_lt_of_cell? _ _ hx112_0; first | rwa [add_block] at this | exact this) GW109.out); have hn112_1 : ad108.block ≠ gb109 := Nat.ne_of_lt (Nat.lt_of_lt_of_le (by have := World.block_lt_of_cell? _ _ hx112_0; first | rwa [add_block] at this | exact this) GW109.out); replace hx112_0 := up_ HB.out hx112_0; replace hx112_1 := up_ HB.out hx112_1; replace hx112_0 := (cell_far (p := ⟨gb109,0,none⟩) (by first | (rw [add_block]; exact hn112_0) | (show (Addr.add _ _).block ≠ _; rw [add_block]; exact hn112_0) | exact hn112_0) (.int .i64 ((rd_T65 l0_4 x8_1).f0))).trans hx112_0; replace hx112_1 := (cell_far (p := ⟨gb109,0,none⟩) (by first | (rw [add_block]; exact hn112_0) | (show (Addr.add _ _).block ≠ _; rw [add_block]; exact hn112_0) | exact hn112_0) (.int .i64 ((rd_T65 l0_4 x8_1).f0))).trans hx112_1; replace hx112_0 := (cell_far (p := ⟨gb109,1,none⟩) (by first | (rw [add_block]; exact hn112_1) | (show (Addr.add _ _).block ≠ _; rw [add_block]; exact hn112_1) | exact hn112_1) (.int .i64 ((rd_T65 l0_4 x8_1).f1))).trans hx112_0; replace hx112_1 := (cell_far (p := ⟨gb109,1,none⟩) (by first | (rw [add_block]; exact hn112_1) | (show (Addr.add _ _).block ≠ _; rw [add_block]; exact hn112_1) | exact hn112_1) (.int .i64 ((rd_T65 l0_4 x8_1).f1))).trans hx112_1; (try have hy112_0 := fun (n_ : Nat) => (show (((w16.drewN n_).setCell ⟨gb109,0,none⟩ (.int .i64 ((rd_T65 l0_4 x8_1).f0))).setCell ⟨gb109,1,none⟩ (.int .i64 ((rd_T65 l0_4 x8_1).f1))).cell? _ = some _ from hx112_0)); (try have hy112_1 := fun (n_ : Nat) => (show (((w16.drewN n_).setCell ⟨gb109,0,none⟩ (.int .i64 ((rd_T65 l0_4 x8_1).f0))).setCell ⟨gb109,1,none⟩ (.int .i64 ((rd_T65 l0_4 x8_1).f1))).cell? _ = some _ from hx112_1)); clear hn112_0; clear hn112_1; replace p112 := eq_true p112; replace q112 := eq_true q112)); try go_wp2_with (fail))
            go_ret;exact ⟨by rfl,by repeat (with_reducible first | exact HB.out | apply pw_below_drewN | refine below_set ?_ GE109.out)⟩
           ·rw [if_neg c15] at H;have c15b0 := decide_eq_false c15;clear c15;have H' := Aside0.mk H;clear H;have p108 : 0 ≤ (x8_1 : Int) := odt (by with_reducible assumption);have q108 : x8_1 < (l0_4.length : Int) := odt (by with_reducible assumption);obtain ⟨ad108,e108,hx108_0,hx108_1⟩ := at_T65 HR0_4.out x8_1 p108 q108
            cases e108
            replace hx108_0 := up_ HB.out hx108_0;replace hx108_1 := up_ HB.out hx108_1;replace p108 := eq_true p108;replace q108 := eq_true q108
            go_wp2_with ((with_reducible refine gate_dst (N := 4) rfl ?_); (try (refine gate_guard (by rfl) ?_; dsimp only)); refine box_event (by rfl) (N := 4) (by rfl) (cs := #[.int .i64 0,.int .i64 0]) (t := 65) (by go_simp; done) ?_; intro gb109 hg w20 hbox hb; have BK109 := Aside0.mk hbox; have GW109 := gsz HB hg; have GE109 := GW109; replace HB := bst HB hb; obtain ⟨NB107_109,NB109_107⟩ := nbb BK107 hg; replace BK107 := bkb BK107 hb; clear hb hbox hg; have hnb21 := NB109_107.out; have hnc21 := NB107_109.out; obtain ⟨⟨hcz22_0,hcz22_1⟩,hfz22_0,hfz22_1⟩ := bc2 BK109.out)
            repeat (go_quiet (first | (go_at_call 69; (with_reducible refine (impl_inRange.calls ((rd_T65 l0_4 x8_1).f0) 1 1000000 true _ A7.out).mono ?_); rintro e w' ⟨rfl,⟨nd,rfl⟩⟩; (try first | exact ⟨rfl,_,World.drewN_drewN _ _ _⟩ | exact ⟨rfl,_,Eq.trans (World.drewN_drewN _ _ _) (congrArg (World.drewN _) (Nat.add_assoc _ _ _))⟩)) | (go_at_call 69; (with_reducible refine (impl_inRange.calls ((rd_T65 l0_4 x8_1).f1) 0 1000 true _ A9.out).mono ?_); rintro e w' ⟨rfl,⟨nd,rfl⟩⟩; (try first | exact ⟨rfl,_,World.drewN_drewN _ _ _⟩ | exact ⟨rfl,_,Eq.trans (World.drewN_drewN _ _ _) (congrArg (World.drewN _) (Nat.add_assoc _ _ _))⟩); obtain ⟨⟨hcz23_0,hcz23_1,hcz23_2,hcz23_3,hcz23_4⟩,hfz23_0,hfz23_1,hfz23_2,hfz23_3,hfz23_4⟩ := bc5 BK107.out; have p112 : 0 ≤ ((ji12) : Int) := odt (by first | (with_reducible assumption) | assumption); have q112 : (ji12) < (l0_4.length : Int) := odt (by first | (with_reducible assumption) | assumption); obtain ⟨ad112,e112,hx112_0,hx112_1⟩ := at_T65 HR0_4.out (ji12) p112 q112; obtain rfl : ad108 = ad112 := (by injection e112); have hn112_0 : ad108.block ≠ gb109 := Nat.ne_of_lt (Nat.lt_of_lt_of_le (by have := World.block_lt_of_cell? _ _ hx112_0; first | rwa [add_block] at this | exact this) GW109.out); have hn112_1 : ad108.block ≠ gb109 := Nat.ne_of_lt (Nat.lt_of_lt_of_le (by have := World.block_lt_of_cell? _ _ hx112_0; first | rwa [add_block] at this | exact this) GW109.out); replace hx112_0 := up_ HB.out hx112_0; replace hx112_1 := up_ HB.out hx112_1; replace hx112_0 := (cell_far (p := ⟨gb109,0,none⟩) (by first | (rw [add_block]; exact hn112_0) | (show (Addr.add _ _).block ≠ _; rw [add_block]; exact hn112_0) | exact hn112_0) (.int .i64 ((rd_T65 l0_4 x8_1).f0))).trans hx112_0; replace hx112_1 := (cell_far (p := ⟨gb109,0,none⟩) (by first | (rw [add_block]; exact hn112_0) | (show (Addr.add _ _).block ≠ _; rw [add_block]; exact hn112_0) | exact hn112_0) (.int .i64 ((rd_T65 l0_4 x8_1).f0))).trans hx112_1; replace hx112_0 := (cell_far (p := ⟨gb109,1,none⟩) (by first | (rw [add_block]; exact hn112_1) | (show (Addr.add _ _).block ≠ _; rw [add_block]; exact hn112_1) | exact hn112_1) (.int .i64 ((rd_T65 l0_4 x8_1).f1))).trans hx112_0; replace hx112_1 := (cell_far (p := ⟨gb109,1,none⟩) (by first | (rw [add_block]; exact hn112_1) | (show (Addr.add _ _).block ≠ _; rw [add_block]; exact hn112_1) | exact hn112_1) (.int .i64 ((rd_T65 l0_4 x8_1).f1))).trans hx112_1; (try have hy112_0 := fun (n_ : Nat) => (show (((w20.drewN n_).setCell ⟨gb109,0,none⟩ (.int .i64 ((rd_T65 l0_4 x8_1).f0))).setCell ⟨gb109,1,none⟩ (.int .i64 ((rd_T65 l0_4 x8_1).f1))).cell? _ = some _ from hx112_0)); (try have hy112_1 := fun (n_ : Nat) => (show (((w20.drewN n_).setCell ⟨gb109,0,none⟩ (.int .i64 ((rd_T65 l0_4 x8_1).f0))).setCell ⟨gb109,1,none⟩ (.int .i64 ((rd_T65 l0_4 x8_1).f1))).cell? _ = some _ from hx112_1)); clear hn112_0; clear hn112_1; replace p112 := eq_true p112; replace q112 := eq_true q112)); try go_wp2_with (fail))
            go_roundg k1
            case measure => have := HK1.out; omega
            case rel => exact ⟨(wrap64 (x8_1 + 1)),(by rfl),H',⟨by have := HK1.out; omega⟩,⟨by (with_reducible repeat (refine blk_drewN ?_ _)); refine blk_far ?_ NB107_109.out _; refine blk_far ?_ NB107_109.out _; exact BK107.out⟩,⟨by repeat (with_reducible first | exact HB.out | apply pw_below_drewN | refine below_set ?_ GE109.out)⟩⟩
          ·rw [if_neg c14] at H;exact absurd H (by simp)
         ·rw [if_neg c13] at H;exact absurd H (by simp)
        ·rw [if_neg c11] at H;have c11b0 := decide_eq_false c11;clear c11;have H' := Aside0.mk H;clear H;have p108 : 0 ≤ (x8_1 : Int) := odt (by with_reducible assumption);have q108 : x8_1 < (l0_4.length : Int) := odt (by with_reducible assumption);obtain ⟨ad108,e108,hx108_0,hx108_1⟩ := at_T65 HR0_4.out x8_1 p108 q108
         cases e108
         replace hx108_0 := up_ HB.out hx108_0;replace hx108_1 := up_ HB.out hx108_1;replace p108 := eq_true p108;replace q108 := eq_true q108
         go_wp2_with ((with_reducible refine gate_dst (N := 4) rfl ?_); (try (refine gate_guard (by rfl) ?_; dsimp only)); refine box_event (by rfl) (N := 4) (by rfl) (cs := #[.int .i64 0,.int .i64 0]) (t := 65) (by go_simp; done) ?_; intro gb109 hg w24 hbox hb; have BK109 := Aside0.mk hbox; have GW109 := gsz HB hg; have GE109 := GW109; replace HB := bst HB hb; obtain ⟨NB107_109,NB109_107⟩ := nbb BK107 hg; replace BK107 := bkb BK107 hb; clear hb hbox hg; have hnb25 := NB109_107.out; have hnc25 := NB107_109.out; obtain ⟨⟨hcz26_0,hcz26_1⟩,hfz26_0,hfz26_1⟩ := bc2 BK109.out)
         repeat (go_quiet (first | (go_at_call 69; (with_reducible refine (impl_inRange.calls ((rd_T65 l0_4 x8_1).f0) 1 1000000 true _ A7.out).mono ?_); rintro e w' ⟨rfl,⟨nd,rfl⟩⟩; (try first | exact ⟨rfl,_,World.drewN_drewN _ _ _⟩ | exact ⟨rfl,_,Eq.trans (World.drewN_drewN _ _ _) (congrArg (World.drewN _) (Nat.add_assoc _ _ _))⟩)) | (go_at_call 69; (with_reducible refine (impl_inRange.calls ((rd_T65 l0_4 x8_1).f1) 0 1000 true _ A9.out).mono ?_); rintro e w' ⟨rfl,⟨nd,rfl⟩⟩; (try first | exact ⟨rfl,_,World.drewN_drewN _ _ _⟩ | exact ⟨rfl,_,Eq.trans (World.drewN_drewN _ _ _) (congrArg (World.drewN _) (Nat.add_assoc _ _ _))⟩))); try go_wp2_with (fail))
         go_roundg k1
         case measure => have := HK1.out; omega
         case rel => exact ⟨(wrap64 (x8_1 + 1)),(by rfl),H',⟨by have := HK1.out; omega⟩,⟨by (with_reducible repeat (refine blk_drewN ?_ _)); refine blk_far ?_ NB107_109.out _; refine blk_far ?_ NB107_109.out _; exact BK107.out⟩,⟨by repeat (with_reducible first | exact HB.out | apply pw_below_drewN | refine below_set ?_ GE109.out)⟩⟩
       ·replace c10 := Bool.eq_false_iff.mpr c10;subst c10
        rw [if_neg (show ¬ (false = true) by decide)] at H
        obtain rfl := Option.some.inj H;have p108 : 0 ≤ (x8_1 : Int) := odt (by with_reducible assumption);have q108 : x8_1 < (l0_4.length : Int) := odt (by with_reducible assumption);obtain ⟨ad108,e108,hx108_0,hx108_1⟩ := at_T65 HR0_4.out x8_1 p108 q108
        cases e108
        replace hx108_0 := up_ HB.out hx108_0;replace hx108_1 := up_ HB.out hx108_1;replace p108 := eq_true p108;replace q108 := eq_true q108
        go_wp2_with ((with_reducible refine gate_dst (N := 4) rfl ?_); (try (refine gate_guard (by rfl) ?_; dsimp only)); refine box_event (by rfl) (N := 4) (by rfl) (cs := #[.int .i64 0,.int .i64 0]) (t := 65) (by go_simp; done) ?_; intro gb109 hg w27 hbox hb; have BK109 := Aside0.mk hbox; have GW109 := gsz HB hg; have GE109 := GW109; replace HB := bst HB hb; obtain ⟨NB107_109,NB109_107⟩ := nbb BK107 hg; replace BK107 := bkb BK107 hb; clear hb hbox hg; have hnb28 := NB109_107.out; have hnc28 := NB107_109.out; obtain ⟨⟨hcz29_0,hcz29_1⟩,hfz29_0,hfz29_1⟩ := bc2 BK109.out)
        repeat (go_quiet (first | (go_at_call 69; (with_reducible refine (impl_inRange.calls ((rd_T65 l0_4 x8_1).f0) 1 1000000 true _ A7.out).mono ?_); rintro e w' ⟨rfl,⟨nd,rfl⟩⟩; (try first | exact ⟨rfl,_,World.drewN_drewN _ _ _⟩ | exact ⟨rfl,_,Eq.trans (World.drewN_drewN _ _ _) (congrArg (World.drewN _) (Nat.add_assoc _ _ _))⟩)) | (go_at_call 69; (with_reducible refine (impl_inRange.calls ((rd_T65 l0_4 x8_1).f1) 0 1000 false _ A9.out).mono ?_); rintro e w' ⟨rfl,⟨nd,rfl⟩⟩; (try first | exact ⟨rfl,_,World.drewN_drewN _ _ _⟩ | exact ⟨rfl,_,Eq.trans (World.drewN_drewN _ _ _) (congrArg (World.drewN _) (Nat.add_assoc _ _ _))⟩))); try go_wp2_with (fail))
        go_ret;exact ⟨by rfl,by repeat (with_reducible first | exact HB.out | apply pw_below_drewN | refine below_set ?_ GE109.out)⟩
      ·replace c8 := Bool.eq_false_iff.mpr c8;subst c8
       rw [if_neg (show ¬ (false = true) by decide)] at H
       obtain rfl := Option.some.inj H;have p108 : 0 ≤ (x8_1 : Int) := odt (by with_reducible assumption);have q108 : x8_1 < (l0_4.length : Int) := odt (by with_reducible assumption);obtain ⟨ad108,e108,hx108_0,hx108_1⟩ := at_T65 HR0_4.out x8_1 p108 q108
       cases e108
       replace hx108_0 := up_ HB.out hx108_0;replace hx108_1 := up_ HB.out hx108_1;replace p108 := eq_true p108;replace q108 := eq_true q108
       go_wp2_with ((with_reducible refine gate_dst (N := 4) rfl ?_); (try (refine gate_guard (by rfl) ?_; dsimp only)); refine box_event (by rfl) (N := 4) (by rfl) (cs := #[.int .i64 0,.int .i64 0]) (t := 65) (by go_simp; done) ?_; intro gb109 hg w30 hbox hb; have BK109 := Aside0.mk hbox; have GW109 := gsz HB hg; have GE109 := GW109; replace HB := bst HB hb; obtain ⟨NB107_109,NB109_107⟩ := nbb BK107 hg; replace BK107 := bkb BK107 hb; clear hb hbox hg; have hnb31 := NB109_107.out; have hnc31 := NB107_109.out; obtain ⟨⟨hcz32_0,hcz32_1⟩,hfz32_0,hfz32_1⟩ := bc2 BK109.out)
       repeat (go_quiet ((go_at_call 69; (with_reducible refine (impl_inRange.calls ((rd_T65 l0_4 x8_1).f0) 1 1000000 false _ A7.out).mono ?_); rintro e w' ⟨rfl,⟨nd,rfl⟩⟩; (try first | exact ⟨rfl,_,World.drewN_drewN _ _ _⟩ | exact ⟨rfl,_,Eq.trans (World.drewN_drewN _ _ _) (congrArg (World.drewN _) (Nat.add_assoc _ _ _))⟩))); try go_wp2_with (fail))
       go_ret;exact ⟨by rfl,by repeat (with_reducible first | exact HB.out | apply pw_below_drewN | refine below_set ?_ GE109.out)⟩
     ·rw [if_neg c6] at H;exact absurd H (by simp)
    ·rw [if_neg c5] at H;exact absurd H (by simp)
   ·rw [if_neg c4] at H;have c4b0 := decide_eq_false c4;clear c4;replace H := Option.bind_eq_some_iff.mp H;obtain ⟨t113,A330,H⟩ := H;replace H : (if t113 = true then ((impl_isAmount.f a0_1).bind fun t114 => (if t114 = true then ((impl_isAmount.f a0_3).bind fun t115 => (if t115 = true then ((impl_inRange.f a0_2 0 10000).bind fun t116 => (if t116 = true then (some (decide ((l0_4.length : Int) ≤ 4))) else (some false))) else (some false))) else (some false))) else (some false)) = some r := H;have A33 := Aside0.mk A330;clear A330
    by_cases c34 : t113 = true
    ·subst c34
     rw [if_pos rfl] at H
     replace H := Option.bind_eq_some_iff.mp H;obtain ⟨t114,A350,H⟩ := H;replace H : (if t114 = true then ((impl_isAmount.f a0_3).bind fun t115 => (if t115 = true then ((impl_inRange.f a0_2 0 10000).bind fun t116 => (if t116 = true then (some (decide ((l0_4.length : Int) ≤ 4))) else (some false))) else (some false))) else (some false)) = some r := H;have A35 := Aside0.mk A350;clear A350
     by_cases c36 : t114 = true
     ·subst c36
      rw [if_pos rfl] at H
      replace H := Option.bind_eq_some_iff.mp H;obtain ⟨t115,A370,H⟩ := H;replace H : (if t115 = true then ((impl_inRange.f a0_2 0 10000).bind fun t116 => (if t116 = true then (some (decide ((l0_4.length : Int) ≤ 4))) else (some false))) else (some false)) = some r := H;have A37 := Aside0.mk A370;clear A370
      by_cases c38 : t115 = true
      ·subst c38
       rw [if_pos rfl] at H
       replace H := Option.bind_eq_some_iff.mp H;obtain ⟨t116,A390,H⟩ := H;replace H : (if t116 = true then (some (decide ((l0_4.length : Int) ≤ 4))) else (some false)) = some r := H;have A39 := Aside0.mk A390;clear A390
       by_cases c40 : t116 = true
       ·subst c40
        rw [if_pos rfl] at H
        obtain rfl := Option.some.inj H;obtain ⟨⟨hcz41_0,hcz41_1,hcz41_2,hcz41_3,hcz41_4⟩,hfz41_0,hfz41_1,hfz41_2,hfz41_3,hfz41_4⟩ := bc5 BK107.out
        go_wp2_with (first | (go_at_call 86; (with_reducible refine (impl_NameOk.calls k1 a0_0 true _ A33.out).mono ?_); rintro e w' ⟨rfl,⟨nd,rfl⟩⟩; skip) | (go_at_call 85; (with_reducible refine (impl_isAmount.calls a0_1 true _ A35.out).mono ?_); rintro e w' ⟨rfl,⟨nd,rfl⟩⟩; skip) | (go_at_call 85; (with_reducible refine (impl_isAmount.calls a0_3 true _ A37.out).mono ?_); rintro e w' ⟨rfl,⟨nd,rfl⟩⟩; skip) | (go_at_call 69; (with_reducible refine (impl_inRange.calls a0_2 0 10000 true _ A39.out).mono ?_); rintro e w' ⟨rfl,⟨nd,rfl⟩⟩; skip))
        repeat (go_quiet (fail); try go_wp2_with (fail))
        go_ret;exact ⟨by rfl,by repeat (with_reducible first | exact HB.out | apply pw_below_drewN)⟩
       ·replace c40 := Bool.eq_false_iff.mpr c40;subst c40
        rw [if_neg (show ¬ (false = true) by decide)] at H
        obtain rfl := Option.some.inj H;obtain ⟨⟨hcz42_0,hcz42_1,hcz42_2,hcz42_3,hcz42_4⟩,hfz42_0,hfz42_1,hfz42_2,hfz42_3,hfz42_4⟩ := bc5 BK107.out
        go_wp2_with (first | (go_at_call 86; (with_reducible refine (impl_NameOk.calls k1 a0_0 true _ A33.out).mono ?_); rintro e w' ⟨rfl,⟨nd,rfl⟩⟩; skip) | (go_at_call 85; (with_reducible refine (impl_isAmount.calls a0_1 true _ A35.out).mono ?_); rintro e w' ⟨rfl,⟨nd,rfl⟩⟩; skip) | (go_at_call 85; (with_reducible refine (impl_isAmount.calls a0_3 true _ A37.out).mono ?_); rintro e w' ⟨rfl,⟨nd,rfl⟩⟩; skip) | (go_at_call 69; (with_reducible refine (impl_inRange.calls a0_2 0 10000 false _ A39.out).mono ?_); rintro e w' ⟨rfl,⟨nd,rfl⟩⟩; skip))
        repeat (go_quiet (fail); try go_wp2_with (fail))
        go_ret;exact ⟨by rfl,by repeat (with_reducible first | exact HB.out | apply pw_below_drewN)⟩
      ·replace c38 := Bool.eq_false_iff.mpr c38;subst c38
       rw [if_neg (show ¬ (false = true) by decide)] at H
       obtain rfl := Option.some.inj H;obtain ⟨⟨hcz43_0,hcz43_1,hcz43_2,hcz43_3,hcz43_4⟩,hfz43_0,hfz43_1,hfz43_2,hfz43_3,hfz43_4⟩ := bc5 BK107.out
       go_wp2_with (first | (go_at_call 86; (with_reducible refine (impl_NameOk.calls k1 a0_0 true _ A33.out).mono ?_); rintro e w' ⟨rfl,⟨nd,rfl⟩⟩; skip) | (go_at_call 85; (with_reducible refine (impl_isAmount.calls a0_1 true _ A35.out).mono ?_); rintro e w' ⟨rfl,⟨nd,rfl⟩⟩; skip) | (go_at_call 85; (with_reducible refine (impl_isAmount.calls a0_3 false _ A37.out).mono ?_); rintro e w' ⟨rfl,⟨nd,rfl⟩⟩; skip))
       repeat (go_quiet (fail); try go_wp2_with (fail))
       go_ret;exact ⟨by rfl,by repeat (with_reducible first | exact HB.out | apply pw_below_drewN)⟩
     ·replace c36 := Bool.eq_false_iff.mpr c36;subst c36
      rw [if_neg (show ¬ (false = true) by decide)] at H
      obtain rfl := Option.some.inj H;obtain ⟨⟨hcz44_0,hcz44_1,hcz44_2,hcz44_3,hcz44_4⟩,hfz44_0,hfz44_1,hfz44_2,hfz44_3,hfz44_4⟩ := bc5 BK107.out
      go_wp2_with (first | (go_at_call 86; (with_reducible refine (impl_NameOk.calls k1 a0_0 true _ A33.out).mono ?_); rintro e w' ⟨rfl,⟨nd,rfl⟩⟩; skip) | (go_at_call 85; (with_reducible refine (impl_isAmount.calls a0_1 false _ A35.out).mono ?_); rintro e w' ⟨rfl,⟨nd,rfl⟩⟩; skip))
      repeat (go_quiet (fail); try go_wp2_with (fail))
      go_ret;exact ⟨by rfl,by repeat (with_reducible first | exact HB.out | apply pw_below_drewN)⟩
    ·replace c34 := Bool.eq_false_iff.mpr c34;subst c34
     rw [if_neg (show ¬ (false = true) by decide)] at H
     obtain rfl := Option.some.inj H;obtain ⟨⟨hcz45_0,hcz45_1,hcz45_2,hcz45_3,hcz45_4⟩,hfz45_0,hfz45_1,hfz45_2,hfz45_3,hfz45_4⟩ := bc5 BK107.out
     go_wp2_with ((go_at_call 86; (with_reducible refine (impl_NameOk.calls k1 a0_0 false _ A33.out).mono ?_); rintro e w' ⟨rfl,⟨nd,rfl⟩⟩; skip))
     repeat (go_quiet (fail); try go_wp2_with (fail))
     go_ret;exact ⟨by rfl,by repeat (with_reducible first | exact HB.out | apply pw_below_drewN)⟩

end Go.Proofs.Ytcbpfofkdipjhaa.PV
