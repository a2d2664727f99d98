/- The machine's side of Go functions: each as a plain function,and that the call does what it says. Written by a program (wip/mprint). -/
import Derived.Test.YtcbpfofkdipjhaaAQPMx0
namespace Go.Proofs.Ytcbpfofkdipjhaa.PM
open Go.RowKit Go.Proofs.YtcbpfofkdipjhaaW.PrintWords Go.Proofs.YtcbpfofkdipjhaaW.PrintLast Go.Proofs.YtcbpfofkdipjhaaW.PrintMore
attribute [local go_sem] max2_int min2_int max_two min_two max_three min_three max_four min_four   -- for this text's walks alone
set_option linter.unusedVariables false
set_option linter.unusedSimpArgs false

/-! ### impl_Wealth: function 26 -/
mutual
def impl_Wealth.l0 : Nat → Int → List (S63) → Int → Int → Option (Int)
 | 0,_,_,_,_ => none
 | k + 1,x3,x8,x9,x10 => if x10 < x9 then (if 0 ≤ x10 then (if x10 < (x8.length : Int) then (impl_Wealth.l1 k (wrap64 (x3 + (wrap64 (((rd_T63 x8 x10).f1) + ((rd_T63 x8 x10).f3))))) x8 x9 x10 ((rd_T63 x8 x10).f4) (((rd_T63 x8 x10).f4).length : Int) 0) else (none)) else (none)) else (some x3)
def impl_Wealth.l1 : Nat → Int → List (S63) → Int → Int → List (S65) → Int → Int → Option (Int)
 | 0,_,_,_,_,_,_,_ => none
 | k + 1,x3,x8,x9,x10,x22,x23,x24 => if x24 < x23 then (if 0 ≤ x24 then (if x24 < (x22.length : Int) then (impl_Wealth.l1 k (wrap64 (x3 + ((rd_T65 x22 x24).f0))) x8 x9 x10 x22 x23 (wrap64 (x24 + 1))) else (none)) else (none)) else (impl_Wealth.l0 k x3 x8 x9 (wrap64 (x10 + 1)))
end
def impl_Wealth.f (k : Nat) (l0 : List (S63)) : Option (Int) := impl_Wealth.l0 k 0 l0 (l0.length : Int) 0
set_option maxHeartbeats 8000000 in
set_option maxRecDepth 100000 in
theorem impl_Wealth.calls (k : Nat) (A0 : Option Addr) (c0 : Nat) (l0 : List (S63)) (r : Int) (w : World) (hr0 : Kd.C k63 w A0 l0.length l0) (hc0 : l0.length ≤ c0) (h : impl_Wealth.f k l0 = some r) :
  Calls Try.prog 26 #[.slice A0 l0.length c0] w fun e w' => e = .returned (.int .i64 r) ∧ Below w.heap.size w w' := by
 have hu63 := Try.underlying63;have hu65 := Try.underlying65;have HR0 := Aside0.mk hr0;have HC0 := Aside0.mk hc0;clear hr0 hc0;have HB := Aside0.mk (Below.refl w.heap.size w);have H : (impl_Wealth.l0 k 0 l0 (l0.length : Int) 0) = some r := h;clear h;have H' := Aside0.mk H;clear H;go_enter Try.func26,Try.ntmps26;go_wp2
 go_loopg [3,10] k (fun kq v3 v10 w' => ∃ (x3_1 : Int) (x10_1 : Int),v3 = .int .i64 x3_1 ∧ v10 = .int .i64 x10_1 ∧ Aside0 (impl_Wealth.l0 kq x3_1 l0 (l0.length : Int) x10_1 = some r) ∧ Aside0 (kq ≤ k) ∧ Aside0 (Below w.heap.size w w'))
 case atStart => exact ⟨(0),(0),(by rfl),(by rfl),H',⟨Nat.le_refl _⟩,⟨HB.out⟩⟩
 case round =>
  clear H';obtain ⟨x3_1,x10_1,rfl,rfl,HA,HK1,HB⟩ := hrel
  cases gk with
  | zero => exact absurd HA.out (by simp [impl_Wealth.l0])
  | succ k1 =>
   have H := HA.out;clear HA;simp only [impl_Wealth.l0] at H
   by_cases c2 : x10_1 < (l0.length : Int)
   ·rw [if_pos c2] at H;have c2b0 : decide (x10_1 < (l0.length : Int)) = true := decide_eq_true c2;clear c2
    by_cases c3 : 0 ≤ x10_1
    ·rw [if_pos c3] at H;have c3b0 : decide (0 ≤ x10_1) = true := decide_eq_true c3;clear c3
     by_cases c4 : x10_1 < (l0.length : Int)
     ·rw [if_pos c4] at H;have c4b0 : decide (x10_1 < (l0.length : Int)) = true := decide_eq_true c4;clear c4;have H' := Aside0.mk H;clear H;have p206 : 0 ≤ (x10_1 : Int) := of_decide_eq_true (by (with_reducible assumption));have q206 : x10_1 < (l0.length : Int) := of_decide_eq_true (by (with_reducible assumption));obtain ⟨ad206,A206_4,c206_4,e206,hx206_0,hx206_1,hx206_2,hx206_3,hx206_4,hl206_4,hi206_4⟩ := at_T63 HR0.out x10_1 p206 q206
      cases e206
      replace hx206_0 := up_ HB.out hx206_0;replace hx206_1 := up_ HB.out hx206_1;replace hx206_2 := up_ HB.out hx206_2;replace hx206_3 := up_ HB.out hx206_3;replace hx206_4 := up_ HB.out hx206_4;have HR206_4 := Aside0.mk hi206_4;have HC206_4 := Aside0.mk hl206_4;clear hi206_4 hl206_4;replace p206 := eq_true p206;replace q206 := eq_true q206
      go_wp2_with (((with_reducible refine gate_dst (N := 5) rfl ?_); refine box_event ?hg (N := 5) ?hd (cs := #[.string (⟨#[]⟩ : ByteArray),.int .i64 0,.int .i64 0,.int .i64 0,.slice none 0 0]) (t := 63) ?hr ?_; (case hd => rfl); (case hg => rfl); (case hr => (go_simp; done)); intro gb207 hg w5 hbox hb; have n0_ := Aside0.mk (below_step HB.out hb); have n1_ := Aside0.mk (hbox); have n2_ := Aside0.mk (by rw [hg]; exact (below_size HB.out) : w.heap.size ≤ gb207); have n3_ := Aside0.mk (by rw [hg]; exact (below_size HB.out) : w.heap.size ≤ gb207); clear HB; have HB := n0_; have BK207 := n1_; have GW207 := n2_; have GE207 := n3_; clear n0_ n1_ n2_ n3_; clear hb hbox hg; have hcz6_0 : w5.cell? ⟨gb207,0,none⟩ = some (.string (⟨#[]⟩ : ByteArray)) := (blk_cell BK207.out 0).trans rfl; have hcz6_1 : w5.cell? ⟨gb207,1,none⟩ = some (.int .i64 0) := (blk_cell BK207.out 1).trans rfl; have hcz6_2 : w5.cell? ⟨gb207,2,none⟩ = some (.int .i64 0) := (blk_cell BK207.out 2).trans rfl; have hcz6_3 : w5.cell? ⟨gb207,3,none⟩ = some (.int .i64 0) := (blk_cell BK207.out 3).trans rfl; have hcz6_4 : w5.cell? ⟨gb207,4,none⟩ = some (.slice none 0 0) := (blk_cell BK207.out 4).trans rfl; have hfz6_0 := blk_frozen BK207.out 0; have hfz6_1 := blk_frozen BK207.out 1; have hfz6_2 := blk_frozen BK207.out 2; have hfz6_3 := blk_frozen BK207.out 3; have hfz6_4 := blk_frozen BK207.out 4))
      go_loopg [3,24] k1 (fun kq v3 v24 w' => ∃ (x3_2 : Int) (x24_2 : Int),v3 = .int .i64 x3_2 ∧ v24 = .int .i64 x24_2 ∧ Aside0 (impl_Wealth.l1 kq x3_2 l0 (l0.length : Int) x10_1 ((rd_T63 l0 x10_1).f4) (((rd_T63 l0 x10_1).f4).length : Int) x24_2 = some r) ∧ Aside0 (kq ≤ k1) ∧ Aside0 (w'.heap[gb207]? = some (.cells #[.string ((rd_T63 l0 x10_1).f0),.int .i64 ((rd_T63 l0 x10_1).f1),.int .i64 ((rd_T63 l0 x10_1).f2),.int .i64 ((rd_T63 l0 x10_1).f3),(.slice A206_4 ((rd_T63 l0 x10_1).f4).length c206_4)] 63 (0,0))) ∧ Aside0 (Below w.heap.size w w'))
      case atStart => exact ⟨(wrap64 (x3_1 + (wrap64 (((rd_T63 l0 x10_1).f1) + ((rd_T63 l0 x10_1).f3))))),(0),(by rfl),(by rfl),H',⟨Nat.le_refl _⟩,⟨by refine blk_put (cs := #[.string ((rd_T63 l0 x10_1).f0),.int .i64 ((rd_T63 l0 x10_1).f1),.int .i64 ((rd_T63 l0 x10_1).f2),.int .i64 ((rd_T63 l0 x10_1).f3),.slice none 0 0]) ?_ 4 _ rfl; refine blk_put (cs := #[.string ((rd_T63 l0 x10_1).f0),.int .i64 ((rd_T63 l0 x10_1).f1),.int .i64 ((rd_T63 l0 x10_1).f2),.int .i64 0,.slice none 0 0]) ?_ 3 _ rfl; refine blk_put (cs := #[.string ((rd_T63 l0 x10_1).f0),.int .i64 ((rd_T63 l0 x10_1).f1),.int .i64 0,.int .i64 0,.slice none 0 0]) ?_ 2 _ rfl; refine blk_put (cs := #[.string ((rd_T63 l0 x10_1).f0),.int .i64 0,.int .i64 0,.int .i64 0,.slice none 0 0]) ?_ 1 _ rfl; refine blk_put (cs := #[.string (⟨#[]⟩ : ByteArray),.int .i64 0,.int .i64 0,.int .i64 0,.slice none 0 0]) ?_ 0 _ rfl; exact BK207.out⟩,⟨by repeat (with_reducible first | exact HB.out | refine below_set ?_ GE207.out)⟩⟩
      case round =>
       clear H'
       try clear c2
       try clear c2b0
       try clear p2
       try clear q2
       try clear hx2
       try clear c3
       try clear c3b0
       try clear c4
       try clear c4b0
       try clear p6
       try clear hcz6_0
       try clear hcz6_1
       try clear hcz6_2
       try clear hcz6_3
       try clear hcz6_4
       try clear hfz6_0
       try clear hfz6_1
       try clear hfz6_2
       try clear hfz6_3
       try clear hfz6_4
       try clear hx206_0
       try clear hx206_1
       try clear hx206_2
       try clear hx206_3
       try clear hx206_4
       try clear p206
       try clear q206
       obtain ⟨x3_2,x24_2,rfl,rfl,HA,HK2,BK207,HB⟩ := hrel
       cases gk with
       | zero => exact absurd HA.out (by simp [impl_Wealth.l1])
       | succ k2 =>
        have H := HA.out;clear HA;simp only [impl_Wealth.l1] at H
        by_cases c7 : x24_2 < (((rd_T63 l0 x10_1).f4).length : Int)
        ·rw [if_pos c7] at H;have c7b0 : decide (x24_2 < (((rd_T63 l0 x10_1).f4).length : Int)) = true := decide_eq_true c7;clear c7
         by_cases c8 : 0 ≤ x24_2
         ·rw [if_pos c8] at H;have c8b0 : decide (0 ≤ x24_2) = true := decide_eq_true c8;clear c8
          by_cases c9 : x24_2 < (((rd_T63 l0 x10_1).f4).length : Int)
          ·rw [if_pos c9] at H;have c9b0 : decide (x24_2 < (((rd_T63 l0 x10_1).f4).length : Int)) = true := decide_eq_true c9;clear c9;have H' := Aside0.mk H;clear H;have p208 : 0 ≤ (x24_2 : Int) := of_decide_eq_true (by (with_reducible assumption));have q208 : x24_2 < (((rd_T63 l0 x10_1).f4).length : Int) := of_decide_eq_true (by (with_reducible assumption));obtain ⟨ad208,e208,hx208_0,hx208_1⟩ := at_T65 HR206_4.out x24_2 p208 q208
           cases e208
           replace hx208_0 := up_ HB.out hx208_0;replace hx208_1 := up_ HB.out hx208_1;replace p208 := eq_true p208;replace q208 := eq_true q208
           go_wp2_with (((with_reducible refine gate_dst (N := 7) rfl ?_); refine box_event ?hg (N := 7) ?hd (cs := #[.int .i64 0,.int .i64 0]) (t := 65) ?hr ?_; (case hd => rfl); (case hg => rfl); (case hr => (go_simp; done)); intro gb209 hg w10 hbox hb; have n0_ := Aside0.mk (blk_below (g := gb207) (o := .cells #[.string ((rd_T63 l0 x10_1).f0),.int .i64 ((rd_T63 l0 x10_1).f1),.int .i64 ((rd_T63 l0 x10_1).f2),.int .i64 ((rd_T63 l0 x10_1).f3),.slice (some ad208) ((rd_T63 l0 x10_1).f4).length c206_4] 63 (0,0)) (by exact BK207.out) hb); have n1_ := Aside0.mk (below_step HB.out hb); have n2_ := Aside0.mk (hbox); have n3_ := Aside0.mk (by rw [hg]; exact (below_size HB.out) : w.heap.size ≤ gb209); have n4_ := Aside0.mk (by rw [hg]; exact (below_size HB.out) : w.heap.size ≤ gb209); have n5_ := Aside0.mk (by rw [hg]; exact Nat.ne_of_lt (blk_lt (g := gb207) (o := .cells #[.string ((rd_T63 l0 x10_1).f0),.int .i64 ((rd_T63 l0 x10_1).f1),.int .i64 ((rd_T63 l0 x10_1).f2),.int .i64 ((rd_T63 l0 x10_1).f3),.slice (some ad208) ((rd_T63 l0 x10_1).f4).length c206_4] 63 (0,0)) (by exact BK207.out)) : gb207 ≠ gb209); have n6_ := Aside0.mk (by rw [hg]; exact Nat.ne_of_gt (blk_lt (g := gb207) (o := .cells #[.string ((rd_T63 l0 x10_1).f0),.int .i64 ((rd_T63 l0 x10_1).f1),.int .i64 ((rd_T63 l0 x10_1).f2),.int .i64 ((rd_T63 l0 x10_1).f3),.slice (some ad208) ((rd_T63 l0 x10_1).f4).length c206_4] 63 (0,0)) (by exact BK207.out)) : gb209 ≠ gb207); clear BK207; clear HB; have BK207 := n0_; have HB := n1_; have BK209 := n2_; have GW209 := n3_; have GE209 := n4_; have NB207_209 := n5_; have NB209_207 := n6_; clear n0_ n1_ n2_ n3_ n4_ n5_ n6_; clear hb hbox hg; have hnb11 := NB209_207.out; have hnc11 := NB207_209.out; have hcz12_0 : w10.cell? ⟨gb209,0,none⟩ = some (.int .i64 0) := (blk_cell BK209.out 0).trans rfl; have hcz12_1 : w10.cell? ⟨gb209,1,none⟩ = some (.int .i64 0) := (blk_cell BK209.out 1).trans rfl; have hfz12_0 := blk_frozen BK209.out 0; have hfz12_1 := blk_frozen BK209.out 1))
           go_roundg k2
           case measure => have := HK1.out; have := HK2.out; omega
           case rel => exact ⟨(wrap64 (x3_2 + ((rd_T65 ((rd_T63 l0 x10_1).f4) x24_2).f0))),(wrap64 (x24_2 + 1)),(by rfl),(by rfl),H',⟨by have := HK1.out; have := HK2.out; omega⟩,⟨by refine blk_far ?_ NB207_209.out _; refine blk_far ?_ NB207_209.out _; exact BK207.out⟩,⟨by repeat (with_reducible first | exact HB.out | refine below_set ?_ GE209.out)⟩⟩
          ·rw [if_neg c9] at H;exact absurd H (by simp)
         ·rw [if_neg c8] at H;exact absurd H (by simp)
        ·rw [if_neg c7] at H;have c7b0 : decide (x24_2 < (((rd_T63 l0 x10_1).f4).length : Int)) = false := decide_eq_false c7;clear c7;have H' := Aside0.mk H;clear H;go_wp2
         go_roundg k2
         case measure => have := HK1.out; have := HK2.out; omega
         case rel => exact ⟨(x3_2),(wrap64 (x10_1 + 1)),(by rfl),(by rfl),H',⟨by have := HK1.out; have := HK2.out; omega⟩,⟨HB.out⟩⟩
     ·rw [if_neg c4] at H;exact absurd H (by simp)
    ·rw [if_neg c3] at H;exact absurd H (by simp)
   ·rw [if_neg c2] at H;have c2b0 : decide (x10_1 < (l0.length : Int)) = false := decide_eq_false c2;clear c2;obtain rfl := Option.some.inj H;go_wp2;go_ret;exact ⟨by rfl,HB.out⟩

/-! ### impl_inRange: function 69 -/
def impl_inRange.f (a0 : Int) (a1 : Int) (a2 : Int) : Option (Bool) := if a0 ≥ a1 then (some (decide (a0 ≤ a2))) else (some false)
set_option maxHeartbeats 8000000 in
set_option maxRecDepth 100000 in
theorem impl_inRange.calls (a0 : Int) (a1 : Int) (a2 : Int) (r : Bool) (w : World) (h : impl_inRange.f a0 a1 a2 = some r) :
  Calls Try.prog 69 #[.int .i64 a0,.int .i64 a1,.int .i64 a2] w fun e w' => e = .returned (.bool r) ∧ Drawn0 w w' := by
 have H : (if a0 ≥ a1 then (some (decide (a0 ≤ a2))) else (some false)) = some r := h;clear h
 by_cases c4 : a0 ≥ a1
 ·rw [if_pos c4] at H;have c4b0 : decide (a1 ≤ a0) = true := decide_eq_true c4;clear c4;obtain rfl := Option.some.inj H;go_enter Try.func69,Try.ntmps69;go_wp2;go_ret;exact ⟨by rfl,by repeat (exact Drawn0.refl _)⟩
 ·rw [if_neg c4] at H;have c4b0 : decide (a1 ≤ a0) = false := decide_eq_false c4;clear c4;obtain rfl := Option.some.inj H;go_enter Try.func69,Try.ntmps69;go_wp2;go_ret;exact ⟨by rfl,by repeat (exact Drawn0.refl _)⟩

/-! ### impl_isAmount: function 85 -/
def impl_isAmount.f (a0 : Int) : Option (Bool) := (impl_inRange.f a0 0 1000000).bind fun t210 => (some t210)
set_option maxHeartbeats 8000000 in
set_option maxRecDepth 100000 in
theorem impl_isAmount.calls (a0 : Int) (r : Bool) (w : World) (h : impl_isAmount.f a0 = some r) :
  Calls Try.prog 85 #[.int .i64 a0] w fun e w' => e = .returned (.bool r) ∧ Drawn0 w w' := by
 have H : ((impl_inRange.f a0 0 1000000).bind fun t210 => (some t210)) = some r := h;clear h;replace H := Option.bind_eq_some_iff.mp H;obtain ⟨t210,A20,H⟩ := H;replace H : (some t210) = some r := H;have A2 := Aside0.mk A20;clear A20;obtain rfl := Option.some.inj H;go_enter Try.func85,Try.ntmps85
 go_wp2_with (((with_reducible refine gate_callee (f := 69) rfl ?_); refine goesL_ (some 4) rfl rfl Try.func69 (by kernel_rfl) rfl #[.int .i64 a0,.int .i64 0,.int .i64 1000000] rfl (by (try simp only [List.map_toArray,List.map_cons,List.map_nil]); rfl) ?_; (with_reducible refine (impl_inRange.calls a0 0 1000000 t210 _ A2.out).mono ?_); rintro e w' ⟨rfl,⟨nd,rfl⟩⟩; refine ⟨_,rfl,?_⟩))
 go_ret;exact ⟨by rfl,by repeat (first | exact Drawn0.refl _ | apply Drawn0.step)⟩

/-! ### impl_NameOk: function 86 -/
def impl_NameOk.l0 : Nat → ByteArray → Int → Option (Bool)
 | 0,_,_ => none
 | k + 1,x0,x3 => if x3 < (x0.size : Int) then (if 0 ≤ x3 then (if (bt x0 x3) ≥ 97 then (if (bt x0 x3) ≤ 122 then (impl_NameOk.l0 k x0 (wrap64 (x3 + 1))) else (if (bt x0 x3) ≥ 48 then (if ((bt x0 x3) ≤ 57) then (impl_NameOk.l0 k x0 (wrap64 (x3 + 1))) else (some false)) else (some false))) else (if (bt x0 x3) ≥ 48 then (if ((bt x0 x3) ≤ 57) then (impl_NameOk.l0 k x0 (wrap64 (x3 + 1))) else (some false)) else (some false))) else (none)) else ((impl_inRange.f (x0.size : Int) 1 8).bind fun t211 => (some t211))
def impl_NameOk.f (k : Nat) (a0 : ByteArray) : Option (Bool) := impl_NameOk.l0 k a0 0
set_option maxHeartbeats 8000000 in
set_option maxRecDepth 100000 in
theorem impl_NameOk.calls (k : Nat) (a0 : ByteArray) (r : Bool) (w : World) (h : impl_NameOk.f k a0 = some r) :
  Calls Try.prog 86 #[.string a0] w fun e w' => e = .returned (.bool r) ∧ Drawn0 w w' := by
 have H : (impl_NameOk.l0 k a0 0) = some r := h;clear h;have H' := Aside0.mk H;clear H;go_enter Try.func86,Try.ntmps86;go_wp2
 go_loopg [3] k (fun kq v3 w' => ∃ (x3_1 : Int),v3 = .int .i64 x3_1 ∧ Aside0 (impl_NameOk.l0 kq a0 x3_1 = some r) ∧ Aside0 (kq ≤ k) ∧ Drawn0 w w')
 case atStart => exact ⟨(0),(by rfl),H',⟨Nat.le_refl _⟩,by repeat (exact Drawn0.refl _)⟩
 case round =>
  clear H';obtain ⟨x3_1,rfl,HA,HK1,⟨m1,rfl⟩⟩ := hrel
  cases gk with
  | zero => exact absurd HA.out (by simp [impl_NameOk.l0])
  | succ k1 =>
   have H := HA.out;clear HA;simp only [impl_NameOk.l0] at H
   by_cases c2 : x3_1 < (a0.size : Int)
   ·rw [if_pos c2] at H;have c2b0 : decide (x3_1 < (a0.size : Int)) = true := decide_eq_true c2;clear c2
    by_cases c3 : 0 ≤ x3_1
    ·rw [if_pos c3] at H;have c3b0 : decide (0 ≤ x3_1) = true := decide_eq_true c3;clear c3
     by_cases c5 : (bt a0 x3_1) ≥ 97
     ·rw [if_pos c5] at H;have c5b0 : decide (97 ≤ (bt a0 x3_1)) = true := decide_eq_true c5;clear c5
      by_cases c7 : (bt a0 x3_1) ≤ 122
      ·rw [if_pos c7] at H;have c7b0 : decide ((bt a0 x3_1) ≤ 122) = true := decide_eq_true c7;clear c7;have H' := Aside0.mk H;clear H;have p4 : 0 ≤ (x3_1 : Int) := of_decide_eq_true (by (with_reducible assumption));have q4 : x3_1 < (a0.size : Int) := of_decide_eq_true (by (with_reducible assumption));have hx4 := bt_at a0 x3_1;replace p4 := eq_true p4;replace q4 := eq_true q4;have p6 : 0 ≤ (x3_1 : Int) := of_decide_eq_true (by (with_reducible assumption));have q6 : x3_1 < (a0.size : Int) := of_decide_eq_true (by (with_reducible assumption));have hx6 := bt_at a0 x3_1;replace p6 := eq_true p6;replace q6 := eq_true q6;go_wp2
       go_roundg k1
       case measure => have := HK1.out; omega
       case rel => exact ⟨(wrap64 (x3_1 + 1)),(by rfl),H',⟨by have := HK1.out; omega⟩,by repeat (first | exact Drawn0.refl _ | apply Drawn0.step)⟩
      ·rw [if_neg c7] at H;have c7b0 : decide ((bt a0 x3_1) ≤ 122) = false := decide_eq_false c7;clear c7
       by_cases c9 : (bt a0 x3_1) ≥ 48
       ·rw [if_pos c9] at H;have c9b0 : decide (48 ≤ (bt a0 x3_1)) = true := decide_eq_true c9;clear c9
        by_cases c11 : ((bt a0 x3_1) ≤ 57)
        ·rw [if_pos c11] at H;have c11b0 : decide ((bt a0 x3_1) ≤ 57) = true := decide_eq_true c11;clear c11;have H' := Aside0.mk H;clear H;have p4 : 0 ≤ (x3_1 : Int) := of_decide_eq_true (by (with_reducible assumption));have q4 : x3_1 < (a0.size : Int) := of_decide_eq_true (by (with_reducible assumption));have hx4 := bt_at a0 x3_1;replace p4 := eq_true p4;replace q4 := eq_true q4;have p6 : 0 ≤ (x3_1 : Int) := of_decide_eq_true (by (with_reducible assumption));have q6 : x3_1 < (a0.size : Int) := of_decide_eq_true (by (with_reducible assumption));have hx6 := bt_at a0 x3_1;replace p6 := eq_true p6;replace q6 := eq_true q6;have p8 : 0 ≤ (x3_1 : Int) := of_decide_eq_true (by (with_reducible assumption));have q8 : x3_1 < (a0.size : Int) := of_decide_eq_true (by (with_reducible assumption));have hx8 := bt_at a0 x3_1;replace p8 := eq_true p8;replace q8 := eq_true q8;have p10 : 0 ≤ (x3_1 : Int) := of_decide_eq_true (by (with_reducible assumption));have q10 : x3_1 < (a0.size : Int) := of_decide_eq_true (by (with_reducible assumption));have hx10 := bt_at a0 x3_1;replace p10 := eq_true p10;replace q10 := eq_true q10;go_wp2
         go_roundg k1
         case measure => have := HK1.out; omega
         case rel => exact ⟨(wrap64 (x3_1 + 1)),(by rfl),H',⟨by have := HK1.out; omega⟩,by repeat (first | exact Drawn0.refl _ | apply Drawn0.step)⟩
        ·rw [if_neg c11] at H;have c11b0 : decide ((bt a0 x3_1) ≤ 57) = false := decide_eq_false c11;clear c11;obtain rfl := Option.some.inj H;have p4 : 0 ≤ (x3_1 : Int) := of_decide_eq_true (by (with_reducible assumption));have q4 : x3_1 < (a0.size : Int) := of_decide_eq_true (by (with_reducible assumption));have hx4 := bt_at a0 x3_1;replace p4 := eq_true p4;replace q4 := eq_true q4;have p6 : 0 ≤ (x3_1 : Int) := of_decide_eq_true (by (with_reducible assumption));have q6 : x3_1 < (a0.size : Int) := of_decide_eq_true (by (with_reducible assumption));have hx6 := bt_at a0 x3_1;replace p6 := eq_true p6;replace q6 := eq_true q6;have p8 : 0 ≤ (x3_1 : Int) := of_decide_eq_true (by (with_reducible assumption));have q8 : x3_1 < (a0.size : Int) := of_decide_eq_true (by (with_reducible assumption));have hx8 := bt_at a0 x3_1;replace p8 := eq_true p8;replace q8 := eq_true q8;have p10 : 0 ≤ (x3_1 : Int) := of_decide_eq_true (by (with_reducible assumption));have q10 : x3_1 < (a0.size : Int) := of_decide_eq_true (by (with_reducible assumption));have hx10 := bt_at a0 x3_1;replace p10 := eq_true p10;replace q10 := eq_true q10;go_wp2;go_ret;exact ⟨by rfl,by repeat (first | exact Drawn0.refl _ | apply Drawn0.step)⟩
       ·rw [if_neg c9] at H;have c9b0 : decide (48 ≤ (bt a0 x3_1)) = false := decide_eq_false c9;clear c9;obtain rfl := Option.some.inj H;have p4 : 0 ≤ (x3_1 : Int) := of_decide_eq_true (by (with_reducible assumption));have q4 : x3_1 < (a0.size : Int) := of_decide_eq_true (by (with_reducible assumption));have hx4 := bt_at a0 x3_1;replace p4 := eq_true p4;replace q4 := eq_true q4;have p6 : 0 ≤ (x3_1 : Int) := of_decide_eq_true (by (with_reducible assumption));have q6 : x3_1 < (a0.size : Int) := of_decide_eq_true (by (with_reducible assumption));have hx6 := bt_at a0 x3_1;replace p6 := eq_true p6;replace q6 := eq_true q6;have p8 : 0 ≤ (x3_1 : Int) := of_decide_eq_true (by (with_reducible assumption));have q8 : x3_1 < (a0.size : Int) := of_decide_eq_true (by (with_reducible assumption));have hx8 := bt_at a0 x3_1;replace p8 := eq_true p8;replace q8 := eq_true q8;go_wp2;go_ret;exact ⟨by rfl,by repeat (first | exact Drawn0.refl _ | apply Drawn0.step)⟩
     ·rw [if_neg c5] at H;have c5b0 : decide (97 ≤ (bt a0 x3_1)) = false := decide_eq_false c5;clear c5
      by_cases c13 : (bt a0 x3_1) ≥ 48
      ·rw [if_pos c13] at H;have c13b0 : decide (48 ≤ (bt a0 x3_1)) = true := decide_eq_true c13;clear c13
       by_cases c15 : ((bt a0 x3_1) ≤ 57)
       ·rw [if_pos c15] at H;have c15b0 : decide ((bt a0 x3_1) ≤ 57) = true := decide_eq_true c15;clear c15;have H' := Aside0.mk H;clear H;have p4 : 0 ≤ (x3_1 : Int) := of_decide_eq_true (by (with_reducible assumption));have q4 : x3_1 < (a0.size : Int) := of_decide_eq_true (by (with_reducible assumption));have hx4 := bt_at a0 x3_1;replace p4 := eq_true p4;replace q4 := eq_true q4;have p12 : 0 ≤ (x3_1 : Int) := of_decide_eq_true (by (with_reducible assumption));have q12 : x3_1 < (a0.size : Int) := of_decide_eq_true (by (with_reducible assumption));have hx12 := bt_at a0 x3_1;replace p12 := eq_true p12;replace q12 := eq_true q12;have p14 : 0 ≤ (x3_1 : Int) := of_decide_eq_true (by (with_reducible assumption));have q14 : x3_1 < (a0.size : Int) := of_decide_eq_true (by (with_reducible assumption));have hx14 := bt_at a0 x3_1;replace p14 := eq_true p14;replace q14 := eq_true q14;go_wp2
        go_roundg k1
        case measure => have := HK1.out; omega
        case rel => exact ⟨(wrap64 (x3_1 + 1)),(by rfl),H',⟨by have := HK1.out; omega⟩,by repeat (first | exact Drawn0.refl _ | apply Drawn0.step)⟩
       ·rw [if_neg c15] at H;have c15b0 : decide ((bt a0 x3_1) ≤ 57) = false := decide_eq_false c15;clear c15;obtain rfl := Option.some.inj H;have p4 : 0 ≤ (x3_1 : Int) := of_decide_eq_true (by (with_reducible assumption));have q4 : x3_1 < (a0.size : Int) := of_decide_eq_true (by (with_reducible assumption));have hx4 := bt_at a0 x3_1;replace p4 := eq_true p4;replace q4 := eq_true q4;have p12 : 0 ≤ (x3_1 : Int) := of_decide_eq_true (by (with_reducible assumption));have q12 : x3_1 < (a0.size : Int) := of_decide_eq_true (by (with_reducible assumption));have hx12 := bt_at a0 x3_1;replace p12 := eq_true p12;replace q12 := eq_true q12;have p14 : 0 ≤ (x3_1 : Int) := of_decide_eq_true (by (with_reducible assumption));have q14 : x3_1 < (a0.size : Int) := of_decide_eq_true (by (with_reducible assumption));have hx14 := bt_at a0 x3_1;replace p14 := eq_true p14;replace q14 := eq_true q14;go_wp2;go_ret;exact ⟨by rfl,by repeat (first | exact Drawn0.refl _ | apply Drawn0.step)⟩
      ·rw [if_neg c13] at H;have c13b0 : decide (48 ≤ (bt a0 x3_1)) = false := decide_eq_false c13;clear c13;obtain rfl := Option.some.inj H;have p4 : 0 ≤ (x3_1 : Int) := of_decide_eq_true (by (with_reducible assumption));have q4 : x3_1 < (a0.size : Int) := of_decide_eq_true (by (with_reducible assumption));have hx4 := bt_at a0 x3_1;replace p4 := eq_true p4;replace q4 := eq_true q4;have p12 : 0 ≤ (x3_1 : Int) := of_decide_eq_true (by (with_reducible assumption));have q12 : x3_1 < (a0.size : Int) := of_decide_eq_true (by (with_reducible assumption));have hx12 := bt_at a0 x3_1;replace p12 := eq_true p12;replace q12 := eq_true q12;go_wp2;go_ret;exact ⟨by rfl,by repeat (first | exact Drawn0.refl _ | apply Drawn0.step)⟩
    ·rw [if_neg c3] at H;exact absurd H (by simp)
   ·rw [if_neg c2] at H;have c2b0 : decide (x3_1 < (a0.size : Int)) = false := decide_eq_false c2;clear c2;replace H := Option.bind_eq_some_iff.mp H;obtain ⟨t211,A160,H⟩ := H;replace H : (some t211) = some r := H;have A16 := Aside0.mk A160;clear A160;obtain rfl := Option.some.inj H
    go_wp2_with (((with_reducible refine gate_callee (f := 69) rfl ?_); refine goesL_ (some 35) rfl rfl Try.func69 (by kernel_rfl) rfl #[.int .i64 (a0.size : Int),.int .i64 1,.int .i64 8] rfl (by (try simp only [List.map_toArray,List.map_cons,List.map_nil]); rfl) ?_; (with_reducible refine (impl_inRange.calls (a0.size : Int) 1 8 t211 _ A16.out).mono ?_); rintro e w' ⟨rfl,⟨nd,rfl⟩⟩; refine ⟨_,rfl,?_⟩))
    go_ret;exact ⟨by rfl,by repeat (first | exact Drawn0.refl _ | apply Drawn0.step)⟩

/-! ### impl_AcctOk: function 45 -/
def impl_AcctOk.l0 : Nat → List (S65) → Int → Int → ByteArray → Int → Int → Int → List (S65) → Option (Bool)
 | 0,_,_,_,_,_,_,_,_ => none
 | k + 1,x6,x7,x8,x213000,x213001,x213002,x213003,x213004 => if x8 < x7 then (if 0 ≤ x8 then (if x8 < (x6.length : Int) then ((impl_inRange.f ((rd_T65 x6 x8).f0) 1 1000000).bind fun t215 => (if t215 = true then ((impl_inRange.f ((rd_T65 x6 x8).f1) 0 1000).bind fun t216 => (if t216 = true then (if x8 > 0 then (if 0 ≤ (wrap64 (x8 - 1)) then (if (wrap64 (x8 - 1)) < (x213004.length : Int) then (if ((rd_T65 x6 x8).f1) ≤ ((rd_T65 x213004 (wrap64 (x8 - 1))).f1) then (some false) else (impl_AcctOk.l0 k x6 x7 (wrap64 (x8 + 1)) x213000 x213001 x213002 x213003 x213004)) else (none)) else (none)) else (impl_AcctOk.l0 k x6 x7 (wrap64 (x8 + 1)) x213000 x213001 x213002 x213003 x213004)) else (some false))) else (some false))) else (none)) else (none)) else ((impl_NameOk.f k x213000).bind fun t218 => (if t218 = true then ((impl_isAmount.f x213001).bind fun t219 => (if t219 = true then ((impl_isAmount.f x213003).bind fun t220 => (if t220 = true then ((impl_inRange.f x213002 0 10000).bind fun t221 => (if t221 = true then (some (decide ((x213004.length : Int) ≤ 4))) else (some false))) else (some false))) else (some false))) else (some false)))
def impl_AcctOk.f (k : Nat) (a0_0 : ByteArray) (a0_1 : Int) (a0_2 : Int) (a0_3 : Int) (l0_4 : List (S65)) : Option (Bool) := impl_AcctOk.l0 k l0_4 (l0_4.length : Int) 0 a0_0 a0_1 a0_2 a0_3 l0_4
set_option maxHeartbeats 8000000 in
set_option maxRecDepth 100000 in
theorem impl_AcctOk.calls (k : Nat) (a0_0 : ByteArray) (a0_1 : Int) (a0_2 : Int) (a0_3 : Int) (A0_4 : Option Addr) (c0_4 : Nat) (l0_4 : List (S65)) (r : Bool) (w : World) (hr0_4 : Kd.C k65 w A0_4 l0_4.length l0_4) (hc0_4 : l0_4.length ≤ c0_4) (h : impl_AcctOk.f k a0_0 a0_1 a0_2 a0_3 l0_4 = some r) :
  Calls Try.prog 45 #[.agg #[.string a0_0,.int .i64 a0_1,.int .i64 a0_2,.int .i64 a0_3,.slice A0_4 l0_4.length c0_4]] w fun e w' => e = .returned (.bool r) ∧ Below w.heap.size w w' := by
 have hu63 := Try.underlying63;have hu65 := Try.underlying65;have HR0_4 := Aside0.mk hr0_4;have HC0_4 := Aside0.mk hc0_4;clear hr0_4 hc0_4;have HB := Aside0.mk (Below.refl w.heap.size w);have H : (impl_AcctOk.l0 k l0_4 (l0_4.length : Int) 0 a0_0 a0_1 a0_2 a0_3 l0_4) = some r := h;clear h;have H' := Aside0.mk H;clear H;go_enter Try.func45,Try.ntmps45
 go_wp2_with (((with_reducible refine gate_dst (N := 1) rfl ?_); (try (refine gate_guard (by rfl) ?_; dsimp only)); refine box_event ?hg (N := 1) ?hd (cs := #[.string a0_0,.int .i64 a0_1,.int .i64 a0_2,.int .i64 a0_3,.slice A0_4 l0_4.length c0_4]) (t := 63) ?hr ?_; (case hd => rfl); (case hg => rfl); (case hr => (go_simp; done)); intro gb212 hg w2 hbox hb; have n0_ := Aside0.mk (below_step HB.out hb); have n1_ := Aside0.mk (hbox); have n2_ := Aside0.mk (by rw [hg]; exact (below_size HB.out) : w.heap.size ≤ gb212); have n3_ := Aside0.mk (by rw [hg]; exact (below_size HB.out) : w.heap.size ≤ gb212); clear HB; have HB := n0_; have BK212 := n1_; have GW212 := n2_; have GE212 := n3_; clear n0_ n1_ n2_ n3_; clear hb hbox hg; have hcz3_0 : w2.cell? ⟨gb212,0,none⟩ = some (.string a0_0) := (blk_cell BK212.out 0).trans rfl; have hcz3_1 : w2.cell? ⟨gb212,1,none⟩ = some (.int .i64 a0_1) := (blk_cell BK212.out 1).trans rfl; have hcz3_2 : w2.cell? ⟨gb212,2,none⟩ = some (.int .i64 a0_2) := (blk_cell BK212.out 2).trans rfl; have hcz3_3 : w2.cell? ⟨gb212,3,none⟩ = some (.int .i64 a0_3) := (blk_cell BK212.out 3).trans rfl; have hcz3_4 : w2.cell? ⟨gb212,4,none⟩ = some (.slice A0_4 l0_4.length c0_4) := (blk_cell BK212.out 4).trans rfl; have hfz3_0 := blk_frozen BK212.out 0; have hfz3_1 := blk_frozen BK212.out 1; have hfz3_2 := blk_frozen BK212.out 2; have hfz3_3 := blk_frozen BK212.out 3; have hfz3_4 := blk_frozen BK212.out 4))
 repeat (go_quiet (fail); try go_wp2_with (fail))
 go_loopg [8] k (fun kq v8 w' => ∃ (x8_1 : Int),v8 = .int .i64 x8_1 ∧ Aside0 (impl_AcctOk.l0 kq l0_4 (l0_4.length : Int) x8_1 a0_0 a0_1 a0_2 a0_3 l0_4 = some r) ∧ Aside0 (kq ≤ k) ∧ Aside0 (w'.heap[gb212]? = some (.cells #[.string a0_0,.int .i64 a0_1,.int .i64 a0_2,.int .i64 a0_3,(.slice A0_4 l0_4.length c0_4)] 63 (0,0))) ∧ Aside0 (Below w.heap.size w w'))
 case atStart => exact ⟨(0),(by rfl),H',⟨Nat.le_refl _⟩,⟨by exact BK212.out⟩,⟨HB.out⟩⟩
 case round =>
  clear H'
  try clear p2
  try clear hcz3_0
  try clear hcz3_1
  try clear hcz3_2
  try clear hcz3_3
  try clear hcz3_4
  try clear hfz3_0
  try clear hfz3_1
  try clear hfz3_2
  try clear hfz3_3
  try clear hfz3_4
  obtain ⟨x8_1,rfl,HA,HK1,BK212,HB⟩ := hrel
  cases gk with
  | zero => exact absurd HA.out (by simp [impl_AcctOk.l0])
  | succ k1 =>
   have H := HA.out;clear HA;simp only [impl_AcctOk.l0] at H
   by_cases c4 : x8_1 < (l0_4.length : Int)
   ·rw [if_pos c4] at H;have c4b0 : decide (x8_1 < (l0_4.length : Int)) = true := decide_eq_true c4;clear c4
    by_cases c5 : 0 ≤ x8_1
    ·rw [if_pos c5] at H;have c5b0 : decide (0 ≤ x8_1) = true := decide_eq_true c5;clear c5
     by_cases c6 : x8_1 < (l0_4.length : Int)
     ·rw [if_pos c6] at H;have c6b0 : decide (x8_1 < (l0_4.length : Int)) = true := decide_eq_true c6;clear c6;replace H := Option.bind_eq_some_iff.mp H;obtain ⟨t215,A70,H⟩ := H;replace H : (if t215 = true then ((impl_inRange.f ((rd_T65 l0_4 x8_1).f1) 0 1000).bind fun t216 => (if t216 = true then (if x8_1 > 0 then (if 0 ≤ (wrap64 (x8_1 - 1)) then (if (wrap64 (x8_1 - 1)) < (l0_4.length : Int) then (if ((rd_T65 l0_4 x8_1).f1) ≤ ((rd_T65 l0_4 (wrap64 (x8_1 - 1))).f1) then (some false) else (impl_AcctOk.l0 k1 l0_4 (l0_4.length : Int) (wrap64 (x8_1 + 1)) a0_0 a0_1 a0_2 a0_3 l0_4)) else (none)) else (none)) else (impl_AcctOk.l0 k1 l0_4 (l0_4.length : Int) (wrap64 (x8_1 + 1)) a0_0 a0_1 a0_2 a0_3 l0_4)) else (some false))) else (some false)) = some r := H;have A7 := Aside0.mk A70;clear A70
      by_cases c8 : t215 = true
      ·subst c8
       rw [if_pos rfl] at H
       replace H := Option.bind_eq_some_iff.mp H;obtain ⟨t216,A90,H⟩ := H;replace H : (if t216 = true then (if x8_1 > 0 then (if 0 ≤ (wrap64 (x8_1 - 1)) then (if (wrap64 (x8_1 - 1)) < (l0_4.length : Int) then (if ((rd_T65 l0_4 x8_1).f1) ≤ ((rd_T65 l0_4 (wrap64 (x8_1 - 1))).f1) then (some false) else (impl_AcctOk.l0 k1 l0_4 (l0_4.length : Int) (wrap64 (x8_1 + 1)) a0_0 a0_1 a0_2 a0_3 l0_4)) else (none)) else (none)) else (impl_AcctOk.l0 k1 l0_4 (l0_4.length : Int) (wrap64 (x8_1 + 1)) a0_0 a0_1 a0_2 a0_3 l0_4)) else (some false)) = some r := H;have A9 := Aside0.mk A90;clear A90
       by_cases c10 : t216 = true
       ·subst c10
        rw [if_pos rfl] at H
        by_cases c11 : x8_1 > 0
        ·rw [if_pos c11] at H;have c11b0 : decide (0 < x8_1) = true := decide_eq_true c11;clear c11;obtain ⟨ji12,hji12⟩ : ∃ j_ : Int,(wrap64 (x8_1 - 1)) = j_ := ⟨_,rfl⟩
         replace H : (if 0 ≤ (ji12) then (if (ji12) < (l0_4.length : Int) then (if ((rd_T65 l0_4 x8_1).f1) ≤ ((rd_T65 l0_4 (ji12)).f1) then (some false) else (impl_AcctOk.l0 k1 l0_4 (l0_4.length : Int) (wrap64 (x8_1 + 1)) a0_0 a0_1 a0_2 a0_3 l0_4)) else (none)) else (none)) = some r := by (rw [hji12] at H; exact H)
         skip
         skip
         have hji12w : (IntKind.i64.wrap (x8_1 - 1)) = ji12 := (i64_w _).trans hji12
         by_cases c13 : 0 ≤ (ji12)
         ·rw [if_pos c13] at H;have c13b0 : decide (0 ≤ (ji12)) = true := decide_eq_true c13;clear c13
          by_cases c14 : (ji12) < (l0_4.length : Int)
          ·rw [if_pos c14] at H;have c14b0 : decide ((ji12) < (l0_4.length : Int)) = true := decide_eq_true c14;clear c14
           by_cases c15 : ((rd_T65 l0_4 x8_1).f1) ≤ ((rd_T65 l0_4 (ji12)).f1)
           ·rw [if_pos c15] at H;have c15b0 : decide (((rd_T65 l0_4 x8_1).f1) ≤ ((rd_T65 l0_4 (ji12)).f1)) = true := decide_eq_true c15;clear c15;obtain rfl := Option.some.inj H;have p213 : 0 ≤ (x8_1 : Int) := of_decide_eq_true (by (with_reducible assumption));have q213 : x8_1 < (l0_4.length : Int) := of_decide_eq_true (by (with_reducible assumption));obtain ⟨ad213,e213,hx213_0,hx213_1⟩ := at_T65 HR0_4.out x8_1 p213 q213
            cases e213
            replace hx213_0 := up_ HB.out hx213_0;replace hx213_1 := up_ HB.out hx213_1;replace p213 := eq_true p213;replace q213 := eq_true q213
            go_wp2_with ((with_reducible refine gate_dst (N := 4) rfl ?_); (try (refine gate_guard (by rfl) ?_; dsimp only)); refine box_event ?hg (N := 4) ?hd (cs := #[.int .i64 0,.int .i64 0]) (t := 65) ?hr ?_; (case hd => rfl); (case hg => rfl); (case hr => (go_simp; done)); intro gb214 hg w16 hbox hb; have n0_ := Aside0.mk (blk_below (g := gb212) (o := .cells #[.string a0_0,.int .i64 a0_1,.int .i64 a0_2,.int .i64 a0_3,.slice (some ad213) l0_4.length c0_4] 63 (0,0)) (by exact BK212.out) hb); have n1_ := Aside0.mk (below_step HB.out hb); have n2_ := Aside0.mk (hbox); have n3_ := Aside0.mk (by rw [hg]; exact (below_size HB.out) : w.heap.size ≤ gb214); have n4_ := Aside0.mk (by rw [hg]; exact (below_size HB.out) : w.heap.size ≤ gb214); have n5_ := Aside0.mk (by rw [hg]; exact Nat.ne_of_lt (blk_lt (g := gb212) (o := .cells #[.string a0_0,.int .i64 a0_1,.int .i64 a0_2,.int .i64 a0_3,.slice (some ad213) l0_4.length c0_4] 63 (0,0)) (by exact BK212.out)) : gb212 ≠ gb214); have n6_ := Aside0.mk (by rw [hg]; exact Nat.ne_of_gt (blk_lt (g := gb212) (o := .cells #[.string a0_0,.int .i64 a0_1,.int .i64 a0_2,.int .i64 a0_3,.slice (some ad213) l0_4.length c0_4] 63 (0,0)) (by exact BK212.out)) : gb214 ≠ gb212); clear BK212; clear HB; have BK212 := n0_; have HB := n1_; have BK214 := n2_; have GW214 := n3_; have GE214 := n4_; have NB212_214 := n5_; have NB214_212 := n6_; clear n0_ n1_ n2_ n3_ n4_ n5_ n6_; clear hb hbox hg; have hnb17 := NB214_212.out; have hnc17 := NB212_214.out; have hcz18_0 : w16.cell? ⟨gb214,0,none⟩ = some (.int .i64 0) := (blk_cell BK214.out 0).trans rfl; have hcz18_1 : w16.cell? ⟨gb214,1,none⟩ = some (.int .i64 0) := (blk_cell BK214.out 1).trans rfl; have hfz18_0 := blk_frozen BK214.out 0; have hfz18_1 := blk_frozen BK214.out 1)
            repeat (go_quiet (first | (go_at_call 69; (with_reducible refine (impl_inRange.calls ((rd_T65 l0_4 x8_1).f0) 1 1000000 true _ A7.out).mono ?_); rintro e w' ⟨rfl,⟨nd,rfl⟩⟩; (try first | exact ⟨rfl,_,World.drewN_drewN _ _ _⟩ | exact ⟨rfl,_,Eq.trans (World.drewN_drewN _ _ _) (congrArg (World.drewN _) (Nat.add_assoc _ _ _))⟩)) | (go_at_call 69; (with_reducible refine (impl_inRange.calls ((rd_T65 l0_4 x8_1).f1) 0 1000 true _ A9.out).mono ?_); rintro e w' ⟨rfl,⟨nd,rfl⟩⟩; (try first | exact ⟨rfl,_,World.drewN_drewN _ _ _⟩ | exact ⟨rfl,_,Eq.trans (World.drewN_drewN _ _ _) (congrArg (World.drewN _) (Nat.add_assoc _ _ _))⟩); have hcz19_0 : w16.cell? ⟨gb212,0,none⟩ = some (.string a0_0) := (blk_cell BK212.out 0).trans rfl; have hcz19_1 : w16.cell? ⟨gb212,1,none⟩ = some (.int .i64 a0_1) := (blk_cell BK212.out 1).trans rfl; have hcz19_2 : w16.cell? ⟨gb212,2,none⟩ = some (.int .i64 a0_2) := (blk_cell BK212.out 2).trans rfl; have hcz19_3 : w16.cell? ⟨gb212,3,none⟩ = some (.int .i64 a0_3) := (blk_cell BK212.out 3).trans rfl; have hcz19_4 : w16.cell? ⟨gb212,4,none⟩ = some (.slice (some ad213) l0_4.length c0_4) := (blk_cell BK212.out 4).trans rfl; have hfz19_0 := blk_frozen BK212.out 0; have hfz19_1 := blk_frozen BK212.out 1; have hfz19_2 := blk_frozen BK212.out 2; have hfz19_3 := blk_frozen BK212.out 3; have hfz19_4 := blk_frozen BK212.out 4; have p217 : 0 ≤ ((ji12) : Int) := of_decide_eq_true (by first | (with_reducible assumption) | assumption); have q217 : (ji12) < (l0_4.length : Int) := of_decide_eq_true (by first | (with_reducible assumption) | assumption); obtain ⟨ad217,e217,hx217_0,hx217_1⟩ := at_T65 HR0_4.out (ji12) p217 q217; obtain rfl : ad213 = ad217 := (by injection e217); have hn217_0 : ad213.block ≠ gb214 := Nat.ne_of_lt (Nat.lt_of_lt_of_le (by have := World.block_lt_of_cell? _ _ hx217_0; first | rwa [add_block] at this | exact this) GW214.out); have hn217_1 : ad213.block ≠ gb214 := Nat.ne_of_lt (Nat.lt_of_lt_of_le (by have := World.block_lt_of_cell? _ _ hx217_0; first | rwa [add_block] at this | exact this) GW214.out); replace hx217_0 := up_ HB.out hx217_0; replace hx217_1 := up_ HB.out hx217_1; replace hx217_0 := (cell_far (p := ⟨gb214,0,none⟩) (by first | (rw [add_block]; exact hn217_0) | (show (Addr.add _ _).block ≠ _; rw [add_block]; exact hn217_0) | exact hn217_0) (.int .i64 ((rd_T65 l0_4 x8_1).f0))).trans hx217_0; replace hx217_1 := (cell_far (p := ⟨gb214,0,none⟩) (by first | (rw [add_block]; exact hn217_0) | (show (Addr.add _ _).block ≠ _; rw [add_block]; exact hn217_0) | exact hn217_0) (.int .i64 ((rd_T65 l0_4 x8_1).f0))).trans hx217_1; replace hx217_0 := (cell_far (p := ⟨gb214,1,none⟩) (by first | (rw [add_block]; exact hn217_1) | (show (Addr.add _ _).block ≠ _; rw [add_block]; exact hn217_1) | exact hn217_1) (.int .i64 ((rd_T65 l0_4 x8_1).f1))).trans hx217_0; replace hx217_1 := (cell_far (p := ⟨gb214,1,none⟩) (by first | (rw [add_block]; exact hn217_1) | (show (Addr.add _ _).block ≠ _; rw [add_block]; exact hn217_1) | exact hn217_1) (.int .i64 ((rd_T65 l0_4 x8_1).f1))).trans hx217_1; (try have hy217_0 := fun (n_ : Nat) => (show (((w16.drewN n_).setCell ⟨gb214,0,none⟩ (.int .i64 ((rd_T65 l0_4 x8_1).f0))).setCell ⟨gb214,1,none⟩ (.int .i64 ((rd_T65 l0_4 x8_1).f1))).cell? _ = some _ from hx217_0)); (try have hy217_1 := fun (n_ : Nat) => (show (((w16.drewN n_).setCell ⟨gb214,0,none⟩ (.int .i64 ((rd_T65 l0_4 x8_1).f0))).setCell ⟨gb214,1,none⟩ (.int .i64 ((rd_T65 l0_4 x8_1).f1))).cell? _ = some _ from hx217_1)); clear hn217_0; clear hn217_1; replace p217 := eq_true p217; replace q217 := eq_true q217)); try go_wp2_with (fail))
            go_ret;exact ⟨by rfl,by repeat (with_reducible first | exact HB.out | apply pw_below_drewN | refine below_set ?_ GE214.out)⟩
           ·rw [if_neg c15] at H;have c15b0 : decide (((rd_T65 l0_4 x8_1).f1) ≤ ((rd_T65 l0_4 (ji12)).f1)) = false := decide_eq_false c15;clear c15;have H' := Aside0.mk H;clear H;have p213 : 0 ≤ (x8_1 : Int) := of_decide_eq_true (by (with_reducible assumption));have q213 : x8_1 < (l0_4.length : Int) := of_decide_eq_true (by (with_reducible assumption));obtain ⟨ad213,e213,hx213_0,hx213_1⟩ := at_T65 HR0_4.out x8_1 p213 q213
            cases e213
            replace hx213_0 := up_ HB.out hx213_0;replace hx213_1 := up_ HB.out hx213_1;replace p213 := eq_true p213;replace q213 := eq_true q213
            go_wp2_with ((with_reducible refine gate_dst (N := 4) rfl ?_); (try (refine gate_guard (by rfl) ?_; dsimp only)); refine box_event ?hg (N := 4) ?hd (cs := #[.int .i64 0,.int .i64 0]) (t := 65) ?hr ?_; (case hd => rfl); (case hg => rfl); (case hr => (go_simp; done)); intro gb214 hg w20 hbox hb; have n0_ := Aside0.mk (blk_below (g := gb212) (o := .cells #[.string a0_0,.int .i64 a0_1,.int .i64 a0_2,.int .i64 a0_3,.slice (some ad213) l0_4.length c0_4] 63 (0,0)) (by exact BK212.out) hb); have n1_ := Aside0.mk (below_step HB.out hb); have n2_ := Aside0.mk (hbox); have n3_ := Aside0.mk (by rw [hg]; exact (below_size HB.out) : w.heap.size ≤ gb214); have n4_ := Aside0.mk (by rw [hg]; exact (below_size HB.out) : w.heap.size ≤ gb214); have n5_ := Aside0.mk (by rw [hg]; exact Nat.ne_of_lt (blk_lt (g := gb212) (o := .cells #[.string a0_0,.int .i64 a0_1,.int .i64 a0_2,.int .i64 a0_3,.slice (some ad213) l0_4.length c0_4] 63 (0,0)) (by exact BK212.out)) : gb212 ≠ gb214); have n6_ := Aside0.mk (by rw [hg]; exact Nat.ne_of_gt (blk_lt (g := gb212) (o := .cells #[.string a0_0,.int .i64 a0_1,.int .i64 a0_2,.int .i64 a0_3,.slice (some ad213) l0_4.length c0_4] 63 (0,0)) (by exact BK212.out)) : gb214 ≠ gb212); clear BK212; clear HB; have BK212 := n0_; have HB := n1_; have BK214 := n2_; have GW214 := n3_; have GE214 := n4_; have NB212_214 := n5_; have NB214_212 := n6_; clear n0_ n1_ n2_ n3_ n4_ n5_ n6_; clear hb hbox hg; have hnb21 := NB214_212.out; have hnc21 := NB212_214.out; have hcz22_0 : w20.cell? ⟨gb214,0,none⟩ = some (.int .i64 0) := (blk_cell BK214.out 0).trans rfl; have hcz22_1 : w20.cell? ⟨gb214,1,none⟩ = some (.int .i64 0) := (blk_cell BK214.out 1).trans rfl; have hfz22_0 := blk_frozen BK214.out 0; have hfz22_1 := blk_frozen BK214.out 1)
            repeat (go_quiet (first | (go_at_call 69; (with_reducible refine (impl_inRange.calls ((rd_T65 l0_4 x8_1).f0) 1 1000000 true _ A7.out).mono ?_); rintro e w' ⟨rfl,⟨nd,rfl⟩⟩; (try first | exact ⟨rfl,_,World.drewN_drewN _ _ _⟩ | exact ⟨rfl,_,Eq.trans (World.drewN_drewN _ _ _) (congrArg (World.drewN _) (Nat.add_assoc _ _ _))⟩)) | (go_at_call 69; (with_reducible refine (impl_inRange.calls ((rd_T65 l0_4 x8_1).f1) 0 1000 true _ A9.out).mono ?_); rintro e w' ⟨rfl,⟨nd,rfl⟩⟩; (try first | exact ⟨rfl,_,World.drewN_drewN _ _ _⟩ | exact ⟨rfl,_,Eq.trans (World.drewN_drewN _ _ _) (congrArg (World.drewN _) (Nat.add_assoc _ _ _))⟩); have hcz23_0 : w20.cell? ⟨gb212,0,none⟩ = some (.string a0_0) := (blk_cell BK212.out 0).trans rfl; have hcz23_1 : w20.cell? ⟨gb212,1,none⟩ = some (.int .i64 a0_1) := (blk_cell BK212.out 1).trans rfl; have hcz23_2 : w20.cell? ⟨gb212,2,none⟩ = some (.int .i64 a0_2) := (blk_cell BK212.out 2).trans rfl; have hcz23_3 : w20.cell? ⟨gb212,3,none⟩ = some (.int .i64 a0_3) := (blk_cell BK212.out 3).trans rfl; have hcz23_4 : w20.cell? ⟨gb212,4,none⟩ = some (.slice (some ad213) l0_4.length c0_4) := (blk_cell BK212.out 4).trans rfl; have hfz23_0 := blk_frozen BK212.out 0; have hfz23_1 := blk_frozen BK212.out 1; have hfz23_2 := blk_frozen BK212.out 2; have hfz23_3 := blk_frozen BK212.out 3; have hfz23_4 := blk_frozen BK212.out 4; have p217 : 0 ≤ ((ji12) : Int) := of_decide_eq_true (by first | (with_reducible assumption) | assumption); have q217 : (ji12) < (l0_4.length : Int) := of_decide_eq_true (by first | (with_reducible assumption) | assumption); obtain ⟨ad217,e217,hx217_0,hx217_1⟩ := at_T65 HR0_4.out (ji12) p217 q217; obtain rfl : ad213 = ad217 := (by injection e217); have hn217_0 : ad213.block ≠ gb214 := Nat.ne_of_lt (Nat.lt_of_lt_of_le (by have := World.block_lt_of_cell? _ _ hx217_0; first | rwa [add_block] at this | exact this) GW214.out); have hn217_1 : ad213.block ≠ gb214 := Nat.ne_of_lt (Nat.lt_of_lt_of_le (by have := World.block_lt_of_cell? _ _ hx217_0; first | rwa [add_block] at this | exact this) GW214.out); replace hx217_0 := up_ HB.out hx217_0; replace hx217_1 := up_ HB.out hx217_1; replace hx217_0 := (cell_far (p := ⟨gb214,0,none⟩) (by first | (rw [add_block]; exact hn217_0) | (show (Addr.add _ _).block ≠ _; rw [add_block]; exact hn217_0) | exact hn217_0) (.int .i64 ((rd_T65 l0_4 x8_1).f0))).trans hx217_0; replace hx217_1 := (cell_far (p := ⟨gb214,0,none⟩) (by first | (rw [add_block]; exact hn217_0) | (show (Addr.add _ _).block ≠ _; rw [add_block]; exact hn217_0) | exact hn217_0) (.int .i64 ((rd_T65 l0_4 x8_1).f0))).trans hx217_1; replace hx217_0 := (cell_far (p := ⟨gb214,1,none⟩) (by first | (rw [add_block]; exact hn217_1) | (show (Addr.add _ _).block ≠ _; rw [add_block]; exact hn217_1) | exact hn217_1) (.int .i64 ((rd_T65 l0_4 x8_1).f1))).trans hx217_0; replace hx217_1 := (cell_far (p := ⟨gb214,1,none⟩) (by first | (rw [add_block]; exact hn217_1) | (show (Addr.add _ _).block ≠ _; rw [add_block]; exact hn217_1) | exact hn217_1) (.int .i64 ((rd_T65 l0_4 x8_1).f1))).trans hx217_1; (try have hy217_0 := fun (n_ : Nat) => (show (((w20.drewN n_).setCell ⟨gb214,0,none⟩ (.int .i64 ((rd_T65 l0_4 x8_1).f0))).setCell ⟨gb214,1,none⟩ (.int .i64 ((rd_T65 l0_4 x8_1).f1))).cell? _ = some _ from hx217_0)); (try have hy217_1 := fun (n_ : Nat) => (show (((w20.drewN n_).setCell ⟨gb214,0,none⟩ (.int .i64 ((rd_T65 l0_4 x8_1).f0))).setCell ⟨gb214,1,none⟩ (.int .i64 ((rd_T65 l0_4 x8_1).f1))).cell? _ = some _ from hx217_1)); clear hn217_0; clear hn217_1; replace p217 := eq_true p217; replace q217 := eq_true q217)); try go_wp2_with (fail))
            go_roundg k1
            case measure => have := HK1.out; omega
            case rel => exact ⟨(wrap64 (x8_1 + 1)),(by rfl),H',⟨by have := HK1.out; omega⟩,⟨by (with_reducible repeat (refine blk_drewN ?_ _)); refine blk_far ?_ NB212_214.out _; refine blk_far ?_ NB212_214.out _; exact BK212.out⟩,⟨by repeat (with_reducible first | exact HB.out | apply pw_below_drewN | refine below_set ?_ GE214.out)⟩⟩
          ·rw [if_neg c14] at H;exact absurd H (by simp)
         ·rw [if_neg c13] at H;exact absurd H (by simp)
        ·rw [if_neg c11] at H;have c11b0 : decide (0 < x8_1) = false := decide_eq_false c11;clear c11;have H' := Aside0.mk H;clear H;have p213 : 0 ≤ (x8_1 : Int) := of_decide_eq_true (by (with_reducible assumption));have q213 : x8_1 < (l0_4.length : Int) := of_decide_eq_true (by (with_reducible assumption));obtain ⟨ad213,e213,hx213_0,hx213_1⟩ := at_T65 HR0_4.out x8_1 p213 q213
         cases e213
         replace hx213_0 := up_ HB.out hx213_0;replace hx213_1 := up_ HB.out hx213_1;replace p213 := eq_true p213;replace q213 := eq_true q213
         go_wp2_with ((with_reducible refine gate_dst (N := 4) rfl ?_); (try (refine gate_guard (by rfl) ?_; dsimp only)); refine box_event ?hg (N := 4) ?hd (cs := #[.int .i64 0,.int .i64 0]) (t := 65) ?hr ?_; (case hd => rfl); (case hg => rfl); (case hr => (go_simp; done)); intro gb214 hg w24 hbox hb; have n0_ := Aside0.mk (blk_below (g := gb212) (o := .cells #[.string a0_0,.int .i64 a0_1,.int .i64 a0_2,.int .i64 a0_3,.slice (some ad213) l0_4.length c0_4] 63 (0,0)) (by exact BK212.out) hb); have n1_ := Aside0.mk (below_step HB.out hb); have n2_ := Aside0.mk (hbox); have n3_ := Aside0.mk (by rw [hg]; exact (below_size HB.out) : w.heap.size ≤ gb214); have n4_ := Aside0.mk (by rw [hg]; exact (below_size HB.out) : w.heap.size ≤ gb214); have n5_ := Aside0.mk (by rw [hg]; exact Nat.ne_of_lt (blk_lt (g := gb212) (o := .cells #[.string a0_0,.int .i64 a0_1,.int .i64 a0_2,.int .i64 a0_3,.slice (some ad213) l0_4.length c0_4] 63 (0,0)) (by exact BK212.out)) : gb212 ≠ gb214); have n6_ := Aside0.mk (by rw [hg]; exact Nat.ne_of_gt (blk_lt (g := gb212) (o := .cells #[.string a0_0,.int .i64 a0_1,.int .i64 a0_2,.int .i64 a0_3,.slice (some ad213) l0_4.length c0_4] 63 (0,0)) (by exact BK212.out)) : gb214 ≠ gb212); clear BK212; clear HB; have BK212 := n0_; have HB := n1_; have BK214 := n2_; have GW214 := n3_; have GE214 := n4_; have NB212_214 := n5_; have NB214_212 := n6_; clear n0_ n1_ n2_ n3_ n4_ n5_ n6_; clear hb hbox hg; have hnb25 := NB214_212.out; have hnc25 := NB212_214.out; have hcz26_0 : w24.cell? ⟨gb214,0,none⟩ = some (.int .i64 0) := (blk_cell BK214.out 0).trans rfl; have hcz26_1 : w24.cell? ⟨gb214,1,none⟩ = some (.int .i64 0) := (blk_cell BK214.out 1).trans rfl; have hfz26_0 := blk_frozen BK214.out 0; have hfz26_1 := blk_frozen BK214.out 1)
         repeat (go_quiet (first | (go_at_call 69; (with_reducible refine (impl_inRange.calls ((rd_T65 l0_4 x8_1).f0) 1 1000000 true _ A7.out).mono ?_); rintro e w' ⟨rfl,⟨nd,rfl⟩⟩; (try first | exact ⟨rfl,_,World.drewN_drewN _ _ _⟩ | exact ⟨rfl,_,Eq.trans (World.drewN_drewN _ _ _) (congrArg (World.drewN _) (Nat.add_assoc _ _ _))⟩)) | (go_at_call 69; (with_reducible refine (impl_inRange.calls ((rd_T65 l0_4 x8_1).f1) 0 1000 true _ A9.out).mono ?_); rintro e w' ⟨rfl,⟨nd,rfl⟩⟩; (try first | exact ⟨rfl,_,World.drewN_drewN _ _ _⟩ | exact ⟨rfl,_,Eq.trans (World.drewN_drewN _ _ _) (congrArg (World.drewN _) (Nat.add_assoc _ _ _))⟩))); try go_wp2_with (fail))
         go_roundg k1
         case measure => have := HK1.out; omega
         case rel => exact ⟨(wrap64 (x8_1 + 1)),(by rfl),H',⟨by have := HK1.out; omega⟩,⟨by (with_reducible repeat (refine blk_drewN ?_ _)); refine blk_far ?_ NB212_214.out _; refine blk_far ?_ NB212_214.out _; exact BK212.out⟩,⟨by repeat (with_reducible first | exact HB.out | apply pw_below_drewN | refine below_set ?_ GE214.out)⟩⟩
       ·replace c10 := Bool.eq_false_iff.mpr c10;subst c10
        rw [if_neg (show ¬ (false = true) by decide)] at H
        obtain rfl := Option.some.inj H;have p213 : 0 ≤ (x8_1 : Int) := of_decide_eq_true (by (with_reducible assumption));have q213 : x8_1 < (l0_4.length : Int) := of_decide_eq_true (by (with_reducible assumption));obtain ⟨ad213,e213,hx213_0,hx213_1⟩ := at_T65 HR0_4.out x8_1 p213 q213
        cases e213
        replace hx213_0 := up_ HB.out hx213_0;replace hx213_1 := up_ HB.out hx213_1;replace p213 := eq_true p213;replace q213 := eq_true q213
        go_wp2_with ((with_reducible refine gate_dst (N := 4) rfl ?_); (try (refine gate_guard (by rfl) ?_; dsimp only)); refine box_event ?hg (N := 4) ?hd (cs := #[.int .i64 0,.int .i64 0]) (t := 65) ?hr ?_; (case hd => rfl); (case hg => rfl); (case hr => (go_simp; done)); intro gb214 hg w27 hbox hb; have n0_ := Aside0.mk (blk_below (g := gb212) (o := .cells #[.string a0_0,.int .i64 a0_1,.int .i64 a0_2,.int .i64 a0_3,.slice (some ad213) l0_4.length c0_4] 63 (0,0)) (by exact BK212.out) hb); have n1_ := Aside0.mk (below_step HB.out hb); have n2_ := Aside0.mk (hbox); have n3_ := Aside0.mk (by rw [hg]; exact (below_size HB.out) : w.heap.size ≤ gb214); have n4_ := Aside0.mk (by rw [hg]; exact (below_size HB.out) : w.heap.size ≤ gb214); have n5_ := Aside0.mk (by rw [hg]; exact Nat.ne_of_lt (blk_lt (g := gb212) (o := .cells #[.string a0_0,.int .i64 a0_1,.int .i64 a0_2,.int .i64 a0_3,.slice (some ad213) l0_4.length c0_4] 63 (0,0)) (by exact BK212.out)) : gb212 ≠ gb214); have n6_ := Aside0.mk (by rw [hg]; exact Nat.ne_of_gt (blk_lt (g := gb212) (o := .cells #[.string a0_0,.int .i64 a0_1,.int .i64 a0_2,.int .i64 a0_3,.slice (some ad213) l0_4.length c0_4] 63 (0,0)) (by exact BK212.out)) : gb214 ≠ gb212); clear BK212; clear HB; have BK212 := n0_; have HB := n1_; have BK214 := n2_; have GW214 := n3_; have GE214 := n4_; have NB212_214 := n5_; have NB214_212 := n6_; clear n0_ n1_ n2_ n3_ n4_ n5_ n6_; clear hb hbox hg; have hnb28 := NB214_212.out; have hnc28 := NB212_214.out; have hcz29_0 : w27.cell? ⟨gb214,0,none⟩ = some (.int .i64 0) := (blk_cell BK214.out 0).trans rfl; have hcz29_1 : w27.cell? ⟨gb214,1,none⟩ = some (.int .i64 0) := (blk_cell BK214.out 1).trans rfl; have hfz29_0 := blk_frozen BK214.out 0; have hfz29_1 := blk_frozen BK214.out 1)
        repeat (go_quiet (first | (go_at_call 69; (with_reducible refine (impl_inRange.calls ((rd_T65 l0_4 x8_1).f0) 1 1000000 true _ A7.out).mono ?_); rintro e w' ⟨rfl,⟨nd,rfl⟩⟩; (try first | exact ⟨rfl,_,World.drewN_drewN _ _ _⟩ | exact ⟨rfl,_,Eq.trans (World.drewN_drewN _ _ _) (congrArg (World.drewN _) (Nat.add_assoc _ _ _))⟩)) | (go_at_call 69; (with_reducible refine (impl_inRange.calls ((rd_T65 l0_4 x8_1).f1) 0 1000 false _ A9.out).mono ?_); rintro e w' ⟨rfl,⟨nd,rfl⟩⟩; (try first | exact ⟨rfl,_,World.drewN_drewN _ _ _⟩ | exact ⟨rfl,_,Eq.trans (World.drewN_drewN _ _ _) (congrArg (World.drewN _) (Nat.add_assoc _ _ _))⟩))); try go_wp2_with (fail))
        go_ret;exact ⟨by rfl,by repeat (with_reducible first | exact HB.out | apply pw_below_drewN | refine below_set ?_ GE214.out)⟩
      ·replace c8 := Bool.eq_false_iff.mpr c8;subst c8
       rw [if_neg (show ¬ (false = true) by decide)] at H
       obtain rfl := Option.some.inj H;have p213 : 0 ≤ (x8_1 : Int) := of_decide_eq_true (by (with_reducible assumption));have q213 : x8_1 < (l0_4.length : Int) := of_decide_eq_true (by (with_reducible assumption));obtain ⟨ad213,e213,hx213_0,hx213_1⟩ := at_T65 HR0_4.out x8_1 p213 q213
       cases e213
       replace hx213_0 := up_ HB.out hx213_0;replace hx213_1 := up_ HB.out hx213_1;replace p213 := eq_true p213;replace q213 := eq_true q213
       go_wp2_with ((with_reducible refine gate_dst (N := 4) rfl ?_); (try (refine gate_guard (by rfl) ?_; dsimp only)); refine box_event ?hg (N := 4) ?hd (cs := #[.int .i64 0,.int .i64 0]) (t := 65) ?hr ?_; (case hd => rfl); (case hg => rfl); (case hr => (go_simp; done)); intro gb214 hg w30 hbox hb; have n0_ := Aside0.mk (blk_below (g := gb212) (o := .cells #[.string a0_0,.int .i64 a0_1,.int .i64 a0_2,.int .i64 a0_3,.slice (some ad213) l0_4.length c0_4] 63 (0,0)) (by exact BK212.out) hb); have n1_ := Aside0.mk (below_step HB.out hb); have n2_ := Aside0.mk (hbox); have n3_ := Aside0.mk (by rw [hg]; exact (below_size HB.out) : w.heap.size ≤ gb214); have n4_ := Aside0.mk (by rw [hg]; exact (below_size HB.out) : w.heap.size ≤ gb214); have n5_ := Aside0.mk (by rw [hg]; exact Nat.ne_of_lt (blk_lt (g := gb212) (o := .cells #[.string a0_0,.int .i64 a0_1,.int .i64 a0_2,.int .i64 a0_3,.slice (some ad213) l0_4.length c0_4] 63 (0,0)) (by exact BK212.out)) : gb212 ≠ gb214); have n6_ := Aside0.mk (by rw [hg]; exact Nat.ne_of_gt (blk_lt (g := gb212) (o := .cells #[.string a0_0,.int .i64 a0_1,.int .i64 a0_2,.int .i64 a0_3,.slice (some ad213) l0_4.length c0_4] 63 (0,0)) (by exact BK212.out)) : gb214 ≠ gb212); clear BK212; clear HB; have BK212 := n0_; have HB := n1_; have BK214 := n2_; have GW214 := n3_; have GE214 := n4_; have NB212_214 := n5_; have NB214_212 := n6_; clear n0_ n1_ n2_ n3_ n4_ n5_ n6_; clear hb hbox hg; have hnb31 := NB214_212.out; have hnc31 := NB212_214.out; have hcz32_0 : w30.cell? ⟨gb214,0,none⟩ = some (.int .i64 0) := (blk_cell BK214.out 0).trans rfl; have hcz32_1 : w30.cell? ⟨gb214,1,none⟩ = some (.int .i64 0) := (blk_cell BK214.out 1).trans rfl; have hfz32_0 := blk_frozen BK214.out 0; have hfz32_1 := blk_frozen BK214.out 1)
       repeat (go_quiet ((go_at_call 69; (with_reducible refine (impl_inRange.calls ((rd_T65 l0_4 x8_1).f0) 1 1000000 false _ A7.out).mono ?_); rintro e w' ⟨rfl,⟨nd,rfl⟩⟩; (try first | exact ⟨rfl,_,World.drewN_drewN _ _ _⟩ | exact ⟨rfl,_,Eq.trans (World.drewN_drewN _ _ _) (congrArg (World.drewN _) (Nat.add_assoc _ _ _))⟩))); try go_wp2_with (fail))
       go_ret;exact ⟨by rfl,by repeat (with_reducible first | exact HB.out | apply pw_below_drewN | refine below_set ?_ GE214.out)⟩
     ·rw [if_neg c6] at H;exact absurd H (by simp)
    ·rw [if_neg c5] at H;exact absurd H (by simp)
   ·rw [if_neg c4] at H;have c4b0 : decide (x8_1 < (l0_4.length : Int)) = false := decide_eq_false c4;clear c4;replace H := Option.bind_eq_some_iff.mp H;obtain ⟨t218,A330,H⟩ := H;replace H : (if t218 = true then ((impl_isAmount.f a0_1).bind fun t219 => (if t219 = true then ((impl_isAmount.f a0_3).bind fun t220 => (if t220 = true then ((impl_inRange.f a0_2 0 10000).bind fun t221 => (if t221 = true then (some (decide ((l0_4.length : Int) ≤ 4))) else (some false))) else (some false))) else (some false))) else (some false)) = some r := H;have A33 := Aside0.mk A330;clear A330
    by_cases c34 : t218 = true
    ·subst c34
     rw [if_pos rfl] at H
     replace H := Option.bind_eq_some_iff.mp H;obtain ⟨t219,A350,H⟩ := H;replace H : (if t219 = true then ((impl_isAmount.f a0_3).bind fun t220 => (if t220 = true then ((impl_inRange.f a0_2 0 10000).bind fun t221 => (if t221 = true then (some (decide ((l0_4.length : Int) ≤ 4))) else (some false))) else (some false))) else (some false)) = some r := H;have A35 := Aside0.mk A350;clear A350
     by_cases c36 : t219 = true
     ·subst c36
      rw [if_pos rfl] at H
      replace H := Option.bind_eq_some_iff.mp H;obtain ⟨t220,A370,H⟩ := H;replace H : (if t220 = true then ((impl_inRange.f a0_2 0 10000).bind fun t221 => (if t221 = true then (some (decide ((l0_4.length : Int) ≤ 4))) else (some false))) else (some false)) = some r := H;have A37 := Aside0.mk A370;clear A370
      by_cases c38 : t220 = true
      ·subst c38
       rw [if_pos rfl] at H
       replace H := Option.bind_eq_some_iff.mp H;obtain ⟨t221,A390,H⟩ := H;replace H : (if t221 = true then (some (decide ((l0_4.length : Int) ≤ 4))) else (some false)) = some r := H;have A39 := Aside0.mk A390;clear A390
       by_cases c40 : t221 = true
       ·subst c40
        rw [if_pos rfl] at H
        obtain rfl := Option.some.inj H;obtain ⟨⟨hcz41_0,hcz41_1,hcz41_2,hcz41_3,hcz41_4⟩,hfz41_0,hfz41_1,hfz41_2,hfz41_3,hfz41_4⟩ := bc5 BK212.out
        go_wp2_with (first | (go_at_call 86; (with_reducible refine (impl_NameOk.calls k1 a0_0 true _ A33.out).mono ?_); rintro e w' ⟨rfl,⟨nd,rfl⟩⟩; skip) | (go_at_call 85; (with_reducible refine (impl_isAmount.calls a0_1 true _ A35.out).mono ?_); rintro e w' ⟨rfl,⟨nd,rfl⟩⟩; skip) | (go_at_call 85; (with_reducible refine (impl_isAmount.calls a0_3 true _ A37.out).mono ?_); rintro e w' ⟨rfl,⟨nd,rfl⟩⟩; skip) | (go_at_call 69; (with_reducible refine (impl_inRange.calls a0_2 0 10000 true _ A39.out).mono ?_); rintro e w' ⟨rfl,⟨nd,rfl⟩⟩; skip))
        repeat (go_quiet (fail); try go_wp2_with (fail))
        go_ret;exact ⟨by rfl,by repeat (with_reducible first | exact HB.out | apply pw_below_drewN)⟩
       ·replace c40 := Bool.eq_false_iff.mpr c40;subst c40
        rw [if_neg (show ¬ (false = true) by decide)] at H
        obtain rfl := Option.some.inj H;obtain ⟨⟨hcz42_0,hcz42_1,hcz42_2,hcz42_3,hcz42_4⟩,hfz42_0,hfz42_1,hfz42_2,hfz42_3,hfz42_4⟩ := bc5 BK212.out
        go_wp2_with (first | (go_at_call 86; (with_reducible refine (impl_NameOk.calls k1 a0_0 true _ A33.out).mono ?_); rintro e w' ⟨rfl,⟨nd,rfl⟩⟩; skip) | (go_at_call 85; (with_reducible refine (impl_isAmount.calls a0_1 true _ A35.out).mono ?_); rintro e w' ⟨rfl,⟨nd,rfl⟩⟩; skip) | (go_at_call 85; (with_reducible refine (impl_isAmount.calls a0_3 true _ A37.out).mono ?_); rintro e w' ⟨rfl,⟨nd,rfl⟩⟩; skip) | (go_at_call 69; (with_reducible refine (impl_inRange.calls a0_2 0 10000 false _ A39.out).mono ?_); rintro e w' ⟨rfl,⟨nd,rfl⟩⟩; skip))
        repeat (go_quiet (fail); try go_wp2_with (fail))
        go_ret;exact ⟨by rfl,by repeat (with_reducible first | exact HB.out | apply pw_below_drewN)⟩
      ·replace c38 := Bool.eq_false_iff.mpr c38;subst c38
       rw [if_neg (show ¬ (false = true) by decide)] at H
       obtain rfl := Option.some.inj H;obtain ⟨⟨hcz43_0,hcz43_1,hcz43_2,hcz43_3,hcz43_4⟩,hfz43_0,hfz43_1,hfz43_2,hfz43_3,hfz43_4⟩ := bc5 BK212.out
       go_wp2_with (first | (go_at_call 86; (with_reducible refine (impl_NameOk.calls k1 a0_0 true _ A33.out).mono ?_); rintro e w' ⟨rfl,⟨nd,rfl⟩⟩; skip) | (go_at_call 85; (with_reducible refine (impl_isAmount.calls a0_1 true _ A35.out).mono ?_); rintro e w' ⟨rfl,⟨nd,rfl⟩⟩; skip) | (go_at_call 85; (with_reducible refine (impl_isAmount.calls a0_3 false _ A37.out).mono ?_); rintro e w' ⟨rfl,⟨nd,rfl⟩⟩; skip))
       repeat (go_quiet (fail); try go_wp2_with (fail))
       go_ret;exact ⟨by rfl,by repeat (with_reducible first | exact HB.out | apply pw_below_drewN)⟩
     ·replace c36 := Bool.eq_false_iff.mpr c36;subst c36
      rw [if_neg (show ¬ (false = true) by decide)] at H
      obtain rfl := Option.some.inj H;obtain ⟨⟨hcz44_0,hcz44_1,hcz44_2,hcz44_3,hcz44_4⟩,hfz44_0,hfz44_1,hfz44_2,hfz44_3,hfz44_4⟩ := bc5 BK212.out
      go_wp2_with (first | (go_at_call 86; (with_reducible refine (impl_NameOk.calls k1 a0_0 true _ A33.out).mono ?_); rintro e w' ⟨rfl,⟨nd,rfl⟩⟩; skip) | (go_at_call 85; (with_reducible refine (impl_isAmount.calls a0_1 false _ A35.out).mono ?_); rintro e w' ⟨rfl,⟨nd,rfl⟩⟩; skip))
      repeat (go_quiet (fail); try go_wp2_with (fail))
      go_ret;exact ⟨by rfl,by repeat (with_reducible first | exact HB.out | apply pw_below_drewN)⟩
    ·replace c34 := Bool.eq_false_iff.mpr c34;subst c34
     rw [if_neg (show ¬ (false = true) by decide)] at H
     obtain rfl := Option.some.inj H;obtain ⟨⟨hcz45_0,hcz45_1,hcz45_2,hcz45_3,hcz45_4⟩,hfz45_0,hfz45_1,hfz45_2,hfz45_3,hfz45_4⟩ := bc5 BK212.out
     go_wp2_with ((go_at_call 86; (with_reducible refine (impl_NameOk.calls k1 a0_0 false _ A33.out).mono ?_); rintro e w' ⟨rfl,⟨nd,rfl⟩⟩; skip))
     repeat (go_quiet (fail); try go_wp2_with (fail))
     go_ret;exact ⟨by rfl,by repeat (with_reducible first | exact HB.out | apply pw_below_drewN)⟩

end Go.Proofs.Ytcbpfofkdipjhaa.PM
