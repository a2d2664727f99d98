/- The machine's side of Go functions: each as a plain function,and that the call does what it says. Written by a program (wip/mprint). -/
import Derived.Test.YtcbpfofkdipjhaaAPPLx0
import Derived.Test.YtcbpfofkdipjhaaAPPLx7
namespace Go.Proofs.Ytcbpfofkdipjhaa.PL
open Go.RowKit Go.Proofs.YtcbpfofkdipjhaaW.PrintWords Go.Proofs.YtcbpfofkdipjhaaW.PrintLast Go.Proofs.YtcbpfofkdipjhaaW.PrintMore
attribute [local go_sem] max2_int min2_int max_two min_two max_three min_three max_four min_four   -- for this text's walks alone
set_option linter.unusedVariables false
set_option linter.unusedSimpArgs false

/-! ### laws_toLeaveS: function 126 -/
def laws_toLeaveS.l0 : Nat → List (S163) → List (S65) → Int → Option (List (S65))
 | 0,_,_,_ => none
 | k + 1,x0,x3,x4 => if x4 < (x0.length : Int) then (if 0 ≤ x4 then ((laws_toLeave.f ((rd_T163 x0 x4).f0) ((rd_T163 x0 x4).f1)).bind fun bt220 => (if x4 < (x3.length : Int) then (laws_toLeaveS.l0 k x0 (x3.set (x4 : Int).toNat (⟨bt220.1,bt220.2⟩ : S65)) (wrap64 (x4 + 1))) else (none))) else (none)) else (some x3)
def laws_toLeaveS.f (k : Nat) (l0 : List (S163)) : Option (List (S65)) := if 0 ≤ (l0.length : Int) then (if ((l0.length : Int) : Int).toNat ≤ 17592186044416 then (laws_toLeaveS.l0 k l0 (List.replicate ((l0.length : Int) : Int).toNat z65) 0) else (none)) else (none)
theorem laws_toLeaveS.mono_l : ∀ k,(∀ y0 y1 y2,LeO (laws_toLeaveS.l0 k y0 y1 y2) (laws_toLeaveS.l0 (k + 1) y0 y1 y2))
 | 0 => fun _ _ _ r h => by simp [laws_toLeaveS.l0] at h
 | k + 1 => by
  have ih0 := laws_toLeaveS.mono_l k
  ·intro y0 y1 y2;unfold laws_toLeaveS.l0
   repeat' first
   | (with_reducible exact ih0 _ _ _)
   | (with_reducible exact LeO.refl _)
   | (with_reducible exact LeO.none _)
   | (with_reducible refine LeO.ite ?_ ?_)
   | (with_reducible refine LeO.bind ?_ (fun _ => ?_))
   | exact ih0 _ _ _
   | exact LeO.none _
theorem laws_toLeaveS.mono : ∀ a0 k,LeO (laws_toLeaveS.f k a0) (laws_toLeaveS.f (k + 1) a0) := by
 intro a0 k;have ih0 := laws_toLeaveS.mono_l k;unfold laws_toLeaveS.f
 repeat' first
   | (with_reducible exact ih0 _ _ _)
   | (with_reducible exact LeO.refl _)
   | (with_reducible exact LeO.none _)
   | (with_reducible refine LeO.ite ?_ ?_)
   | (with_reducible refine LeO.bind ?_ (fun _ => ?_))
   | exact ih0 _ _ _
   | exact LeO.none _
set_option maxHeartbeats 8000000 in
set_option maxRecDepth 100000 in
theorem laws_toLeaveS.calls (k : Nat) (A0 : Option Addr) (c0 : Nat) (l0 : List (S163)) (r : List (S65)) (w : World) (hr0 : Kd.C k163 w A0 l0.length l0) (hc0 : l0.length ≤ c0) (h : laws_toLeaveS.f k l0 = some r) :
  Calls Try.prog 126 #[.slice A0 l0.length c0] w fun e w' => ∃ v0_ : Value,e = .returned (v0_) ∧ Kd.R k65 65 w' w.heap.size (fun _ => True) v0_ r ∧ Below w.heap.size w w' := by
 have hu163 := Try.underlying163;have hu65 := Try.underlying65;have HR0 := Aside0.mk hr0;have HC0 := Aside0.mk hc0;clear hr0 hc0;have HB := Aside0.mk (Below.refl w.heap.size w);have H : (if 0 ≤ (l0.length : Int) then (if ((l0.length : Int) : Int).toNat ≤ 17592186044416 then (laws_toLeaveS.l0 k l0 (List.replicate ((l0.length : Int) : Int).toNat z65) 0) else (none)) else (none)) = some r := h;clear h
 by_cases c2 : 0 ≤ (l0.length : Int)
 ·rw [if_pos c2] at H;have c2b0 := eq_true c2;have c2b1 : decide (0 ≤ (l0.length : Int)) = true := decide_eq_true c2;clear c2
  by_cases c3 : ((l0.length : Int) : Int).toNat ≤ 17592186044416
  ·rw [if_pos c3] at H;have c3b0 := eq_true c3;have c3b1 : decide (((l0.length : Int) : Int).toNat ≤ 17592186044416) = true := decide_eq_true c3;clear c3;obtain ⟨y216,hy216⟩ : ∃ y_ : List (S65),y_ = (List.replicate ((l0.length : Int) : Int).toNat z65) := ⟨_,rfl⟩
   replace H : (laws_toLeaveS.l0 k l0 y216 0) = some r := by (rw [hy216]; with_reducible exact H)
   have Ny216 := Aside0.mk hy216;clear hy216;have H' := Aside0.mk H;clear H;go_enter Try.func126,Try.ntmps126
   go_wp2_with (((with_reducible refine gate_dst (N := 7) rfl ?_); refine Kd.R_make k65 _ 65 rfl (N := 7) rfl 61 _ _ rfl (l0.length : Int) rfl rfl Try.underlying61 (.agg #[(.int .i64 0),(.int .i64 0)]) 16 info65 rfl (by decide) (by omega) z65 (ok := fun _ => True) (okp := fun _ => True) (k65_mkM _ _ _ z65 ) (fun _ hk => hk) trivial (of_decide_eq_true (by (with_reducible assumption))) (Nat.le_trans (Nat.mul_le_mul_right _ (of_decide_eq_true (by (with_reducible assumption)) : (l0.length : Int).toNat ≤ 17592186044416)) (by omega)) (Below.refl _ _) (Nat.le_refl _) ?_; intro v217 w4 ho5 hb hg_ hnew_; clear hg_ hnew_; (rw [← Ny216.out] at ho5); have n0_ := Aside0.mk (Kd.R_lower ho5 (below_size HB.out)); have n1_ := Aside0.mk (below_step HB.out hb); clear HB; have HO218 := n0_; have HB := n1_; clear n0_ n1_; clear hb ho5))
   go_loopg [4] k (fun kq v4 w' => ∃ (x3_1 : List (S65)) (x4_1 : Int),v4 = .int .i64 x4_1 ∧ Aside0 (laws_toLeaveS.l0 kq l0 x3_1 x4_1 = some r) ∧ Aside0 (kq ≤ k) ∧ Aside0 (Kd.R k65 65 w' w.heap.size (fun _ => True) v217 x3_1) ∧ Aside0 (Below w.heap.size w w'))
   case atStart => exact ⟨(y216),(0),(by rfl),H',⟨Nat.le_refl _⟩,⟨by exact HO218.out⟩,⟨HB.out⟩⟩
   case round =>
    clear H'
    try clear c1
    try clear c2
    try clear c2b0
    try clear c2b1
    try clear p2
    try clear c3
    try clear c3b0
    try clear c3b1
    obtain ⟨x3_1,x4_1,rfl,HA,HK1,HO_3,HB⟩ := hrel
    cases gk with
    | zero => exact absurd HA.out (by simp [laws_toLeaveS.l0])
    | succ k1 =>
     have H := HA.out;clear HA;simp only [laws_toLeaveS.l0] at H
     by_cases c6 : x4_1 < (l0.length : Int)
     ·rw [if_pos c6] at H;have c6b0 : decide (x4_1 < (l0.length : Int)) = true := decide_eq_true c6;clear c6
      by_cases c7 : 0 ≤ x4_1
      ·rw [if_pos c7] at H;have c7b0 : decide (0 ≤ x4_1) = true := decide_eq_true c7;clear c7;replace H := Option.bind_eq_some_iff.mp H;obtain ⟨⟨t220,t221⟩,A80,H⟩ := H;replace H : (if x4_1 < (x3_1.length : Int) then (laws_toLeaveS.l0 k1 l0 (x3_1.set (x4_1 : Int).toNat (⟨t220,t221⟩ : S65)) (wrap64 (x4_1 + 1))) else (none)) = some r := H;have A8 := Aside0.mk A80;clear A80
       by_cases c9 : x4_1 < (x3_1.length : Int)
       ·rw [if_pos c9] at H;have c9b0 : decide (x4_1 < (x3_1.length : Int)) = true := decide_eq_true c9;clear c9;obtain ⟨y222,hy222⟩ : ∃ y_ : List (S65),y_ = (x3_1.set (x4_1 : Int).toNat (⟨t220,t221⟩ : S65)) := ⟨_,rfl⟩
        replace H : (laws_toLeaveS.l0 k1 l0 y222 (wrap64 (x4_1 + 1))) = some r := by (rw [hy222]; with_reducible exact H)
        have Ny222 := Aside0.mk hy222;clear hy222;have H' := Aside0.mk H;clear H;have p219 : 0 ≤ (x4_1 : Int) := of_decide_eq_true (by (with_reducible assumption));have q219 : x4_1 < (l0.length : Int) := of_decide_eq_true (by (with_reducible assumption));obtain ⟨ad219,e219,hx219_0,hx219_1⟩ := at_T163 HR0.out x4_1 p219 q219
        cases e219
        replace hx219_0 := (HB.out.cell (World.block_lt_of_cell? w _ hx219_0)).trans hx219_0;replace hx219_1 := (HB.out.cell (World.block_lt_of_cell? w _ hx219_1)).trans hx219_1;replace p219 := eq_true p219;replace q219 := eq_true q219
        go_wp2_with (first | ((with_reducible refine gate_callee (f := 140) rfl ?_); refine goesL_ (some 20) rfl rfl Try.func140 (by kernel_rfl) rfl #[.agg #[.int .i64 ((rd_T163 l0 x4_1).f0),.int .i64 ((rd_T163 l0 x4_1).f1)]] rfl (by (try simp only [List.map_toArray,List.map_cons,List.map_nil]); rfl) ?_; (with_reducible refine (laws_toLeave.calls ((rd_T163 l0 x4_1).f0) ((rd_T163 l0 x4_1).f1) t220 t221 _ A8.out).mono ?_); rintro e w11 ⟨rfl,hb⟩; refine ⟨_,rfl,?_⟩; have n0_ := Aside0.mk (Kd.R_below (by exact HO_3.out) hb); have n1_ := Aside0.mk (below_step HB.out hb); clear HO_3; clear HB; have HO_3 := n0_; have HB := n1_; clear n0_ n1_; (try clear hb); have p10 : 0 ≤ (x4_1 : Int) := of_decide_eq_true (by (with_reducible assumption)); have q10 : (x4_1 : Int) < ((x3_1.length : Int) : Int) := of_decide_eq_true (by (with_reducible assumption)); obtain ⟨go10,co10,eo10,gb10,gl10,cl10,HG10⟩ := Kd.R_form HO_3.out (by omega); (cases eo10); have GB10 := Aside0.mk gb10; have GG10 := Aside0.mk HG10; clear gb10 gl10 HG10; obtain ⟨ce10,hcl10,hM10,hcc10,hfr10⟩ := Kd.R_elem HO_3.out z65 (x4_1 : Int) p10 q10; obtain rfl := k65_openM hM10; have hx10_0 : w11.cell? ⟨go10,(x4_1 : Int).toNat * 2,none⟩ = some (.int .i64 ((rd_T65 x3_1 x4_1).f0)) := hcc10 0 _ rfl; have hx10_1 : w11.cell? ⟨go10,(x4_1 : Int).toNat * 2 + 1,none⟩ = some (.int .i64 ((rd_T65 x3_1 x4_1).f1)) := hcc10 1 _ rfl; have hf10_0 : w11.frozen? ⟨go10,(x4_1 : Int).toNat * 2,none⟩ = false := hfr10 0; have hf10_1 : w11.frozen? ⟨go10,(x4_1 : Int).toNat * 2 + 1,none⟩ = false := hfr10 1; clear hcl10 hcc10 hfr10 hM10; replace p10 := eq_true p10; replace q10 := eq_true q10; have HX12 := Aside0.mk (show Kd.R k65 65 w11 w.heap.size (fun _ => True) (.slice (some ⟨go10,0,none⟩) x3_1.length co10) x3_1 from (by exact HO_3.out)); obtain ⟨ce12,hcl12,hM12,hcc12,hfr12⟩ := Kd.R_elem HX12.out z65 (x4_1 : Int) (of_decide_eq_true (by (with_reducible assumption))) (by have h_ : (x4_1 : Int) < ((x3_1.length : Int) : Int) := of_decide_eq_true (by (with_reducible assumption)); exact h_); obtain rfl := k65_openM hM12; have HP12 := Kd.R_seg HX12.out (x4_1 : Int) (of_decide_eq_true (by (with_reducible assumption))) (by have h_ : (x4_1 : Int) < ((x3_1.length : Int) : Int) := of_decide_eq_true (by (with_reducible assumption)); exact h_) (seg := [.int .i64 t220,.int .i64 t221]) (j := 0) hcl12 hcc12 (show 2 ≤ 2 from by decide) (x' := (⟨t220,t221⟩ : S65)) (k65_mkM _ _ _ (⟨t220,t221⟩ : S65) ) (fun _ hk => hk); have hx12_0 := hcc12 0 _ rfl; (try simp only [show (k65).sz = 2 from rfl,Nat.mul_one,Nat.add_zero] at hx12_0); have hf12_0 := hfr12 0; (try simp only [show (k65).sz = 2 from rfl,Nat.mul_one,Nat.add_zero] at hf12_0); have hx12_1 := hcc12 1 _ rfl; (try simp only [show (k65).sz = 2 from rfl,Nat.mul_one,Nat.add_zero] at hx12_1); have hf12_1 := hfr12 1; (try simp only [show (k65).sz = 2 from rfl,Nat.mul_one,Nat.add_zero] at hf12_1); clear hcl12 hcc12 hfr12 hM12) | ((with_reducible refine gate_store (t := 65) (p := 21) rfl ?_); refine store_event (t := 65) (p := 21) (v := ?vo_w13) (w1 := ((w11.setCell ⟨go10,(x4_1 : Int).toNat * 2,none⟩ (.int .i64 t220)).setCell ⟨go10,(x4_1 : Int).toNat * 2 + 1,none⟩ (.int .i64 t221))) ?hg ?ho ?hn ?hr ?_; (case ho => rfl); (case hg => rfl); (case hn => rfl); (case hr => (go_simp; done)); intro w13 hw; have hg : w11.grownBy w13 (some go10) := (by rw [hw]; exact HP12.2); have hp_ : Kd.R k65 65 w13 w.heap.size (fun _ => True) (.slice (some ⟨go10,0,none⟩) x3_1.length co10) y222 := (by rw [hw,Ny222.out]; exact HP12.1); clear HP12; have n0_ := Aside0.mk (hp_); have n1_ := Aside0.mk (by rw [hw]; exact below_set (below_set (HB.out) GB10.out) GB10.out : Below w.heap.size w w13); clear HO_3; clear HB; have HO_3 := n0_; have HB := n1_; clear n0_ n1_; clear hg hw hp_))
        go_roundg k1
        case measure => have := HK1.out; omega
        case rel => exact ⟨(y222),(wrap64 (x4_1 + 1)),(by rfl),H',⟨by have := HK1.out; omega⟩,⟨by exact HO_3.out⟩,⟨HB.out⟩⟩
       ·rw [if_neg c9] at H;exact absurd H (by simp)
      ·rw [if_neg c7] at H;exact absurd H (by simp)
     ·rw [if_neg c6] at H;have c6b0 : decide (x4_1 < (l0.length : Int)) = false := decide_eq_false c6;clear c6;obtain rfl := Option.some.inj H;go_wp2;go_ret;exact ⟨_,by rfl,by exact HO_3.out,HB.out⟩
  ·rw [if_neg c3] at H;exact absurd H (by simp)
 ·rw [if_neg c2] at H;exact absurd H (by simp)

/-! ### laws_toAcct: function 100 -/
def laws_toAcct.f (k : Nat) (a0_0 : ByteArray) (a0_1 : Int) (a0_2 : Int) (a0_3 : Int) (l0_4 : List (S163)) : Option (ByteArray × Int × Int × Int × (List (S65))) := (laws_toLeaveS.f k l0_4).bind fun t226 => (some (a0_0,a0_1,a0_2,a0_3,t226))
theorem laws_toAcct.mono : ∀ a0 a1 a2 a3 a4 k,LeO (laws_toAcct.f k a0 a1 a2 a3 a4) (laws_toAcct.f (k + 1) a0 a1 a2 a3 a4) := by
 intro a0 a1 a2 a3 a4 k;unfold laws_toAcct.f
 repeat' first
   | (with_reducible exact laws_toLeaveS.mono _ _)
   | (with_reducible exact LeO.refl _)
   | (with_reducible exact LeO.none _)
   | (with_reducible refine LeO.ite ?_ ?_)
   | (with_reducible refine LeO.bind ?_ (fun _ => ?_))
   | exact laws_toLeaveS.mono _ _
   | exact LeO.none _
set_option maxHeartbeats 8000000 in
set_option maxRecDepth 100000 in
theorem laws_toAcct.calls (k : Nat) (a0_0 : ByteArray) (a0_1 : Int) (a0_2 : Int) (a0_3 : Int) (A0_4 : Option Addr) (c0_4 : Nat) (l0_4 : List (S163)) (r1 : ByteArray) (r2 : Int) (r3 : Int) (r4 : Int) (r5 : List (S65)) (w : World) (hr0_4 : Kd.C k163 w A0_4 l0_4.length l0_4) (hc0_4 : l0_4.length ≤ c0_4) (h : laws_toAcct.f k a0_0 a0_1 a0_2 a0_3 l0_4 = some (r1,r2,r3,r4,r5)) :
  Calls Try.prog 100 #[.agg #[.string a0_0,.int .i64 a0_1,.int .i64 a0_2,.int .i64 a0_3,.slice A0_4 l0_4.length c0_4]] w fun e w' => ∃ v4_ : Value,e = .returned (.agg #[.string r1,.int .i64 r2,.int .i64 r3,.int .i64 r4,v4_]) ∧ Kd.R k65 65 w' w.heap.size (fun _ => True) v4_ r5 ∧ Below w.heap.size w w' := by
 have hu125 := Try.underlying125;have hu63 := Try.underlying63;have HR0_4 := Aside0.mk hr0_4;have HC0_4 := Aside0.mk hc0_4;clear hr0_4 hc0_4;have HB := Aside0.mk (Below.refl w.heap.size w);have H : ((laws_toLeaveS.f k l0_4).bind fun t226 => (some (a0_0,a0_1,a0_2,a0_3,t226))) = some (r1,r2,r3,r4,r5) := h;clear h;replace H := Option.bind_eq_some_iff.mp H;obtain ⟨t226,A20,H⟩ := H;replace H : (some (a0_0,a0_1,a0_2,a0_3,t226)) = some (r1,r2,r3,r4,r5) := H;have A2 := Aside0.mk A20;clear A20;simp only [Option.some.injEq,Prod.mk.injEq] at H;obtain ⟨rfl,rfl,rfl,rfl,rfl⟩ := H;go_enter Try.func100,Try.ntmps100
 go_wp2_with (first | ((with_reducible refine gate_dst (N := 1) rfl ?_); refine box_event ?hg (N := 1) ?hd (cs := #[.string a0_0,.int .i64 a0_1,.int .i64 a0_2,.int .i64 a0_3,.slice A0_4 l0_4.length c0_4]) (t := 125) ?hr ?_; (case hd => rfl); (case hg => rfl); (case hr => (go_simp; done)); intro gb223 hg w3 hbox hb; have n0_ := Aside0.mk (below_step HB.out hb); have n1_ := Aside0.mk (hbox); have n2_ := Aside0.mk (by rw [hg]; exact (below_size HB.out) : w.heap.size ≤ gb223); have n3_ := Aside0.mk (by rw [hg]; exact (below_size HB.out) : w.heap.size ≤ gb223); clear HB; have HB := n0_; have BK223 := n1_; have GW223 := n2_; have GE223 := n3_; clear n0_ n1_ n2_ n3_; clear hb hbox hg) | ((with_reducible refine gate_dst (N := 2) rfl ?_); refine box_event ?hg (N := 2) ?hd (cs := #[.string (⟨#[]⟩ : ByteArray),.int .i64 0,.int .i64 0,.int .i64 0,.slice none 0 0]) (t := 63) ?hr ?_; (case hd => rfl); (case hg => rfl); (case hr => (go_simp; done)); intro gb224 hg w4 hbox hb; have n0_ := Aside0.mk (blk_below (g := gb223) (o := .cells #[.string a0_0,.int .i64 a0_1,.int .i64 a0_2,.int .i64 a0_3,.slice A0_4 l0_4.length c0_4] 125 (0,0)) (by exact BK223.out) hb); have n1_ := Aside0.mk (below_step HB.out hb); have n2_ := Aside0.mk (hbox); have n3_ := Aside0.mk (by rw [hg]; exact (below_size HB.out) : w.heap.size ≤ gb224); have n4_ := Aside0.mk (by rw [hg]; exact (below_size HB.out) : w.heap.size ≤ gb224); have n5_ := Aside0.mk (by rw [hg]; exact Nat.ne_of_lt (blk_lt (g := gb223) (o := .cells #[.string a0_0,.int .i64 a0_1,.int .i64 a0_2,.int .i64 a0_3,.slice A0_4 l0_4.length c0_4] 125 (0,0)) (by exact BK223.out)) : gb223 ≠ gb224); have n6_ := Aside0.mk (by rw [hg]; exact Nat.ne_of_gt (blk_lt (g := gb223) (o := .cells #[.string a0_0,.int .i64 a0_1,.int .i64 a0_2,.int .i64 a0_3,.slice A0_4 l0_4.length c0_4] 125 (0,0)) (by exact BK223.out)) : gb224 ≠ gb223); clear BK223; clear HB; have BK223 := n0_; have HB := n1_; have BK224 := n2_; have GW224 := n3_; have GE224 := n4_; have NB223_224 := n5_; have NB224_223 := n6_; clear n0_ n1_ n2_ n3_ n4_ n5_ n6_; clear hb hbox hg) | ((with_reducible refine gate_dst (N := 3) rfl ?_); refine box_event ?hg (N := 3) ?hd (cs := #[.string (⟨#[]⟩ : ByteArray),.int .i64 0,.int .i64 0,.int .i64 0,.slice none 0 0]) (t := 63) ?hr ?_; (case hd => rfl); (case hg => rfl); (case hr => (go_simp; done)); intro gb225 hg w5 hbox hb; have n0_ := Aside0.mk (blk_below (g := gb223) (o := .cells #[.string a0_0,.int .i64 a0_1,.int .i64 a0_2,.int .i64 a0_3,.slice A0_4 l0_4.length c0_4] 125 (0,0)) (by exact BK223.out) hb); have n1_ := Aside0.mk (blk_below (g := gb224) (o := .cells #[.string (⟨#[]⟩ : ByteArray),.int .i64 0,.int .i64 0,.int .i64 0,.slice none 0 0] 63 (0,0)) (by exact BK224.out) hb); have n2_ := Aside0.mk (below_step HB.out hb); have n3_ := Aside0.mk (hbox); have n4_ := Aside0.mk (by rw [hg]; exact (below_size HB.out) : w.heap.size ≤ gb225); have n5_ := Aside0.mk (by rw [hg]; exact (below_size HB.out) : w.heap.size ≤ gb225); have n6_ := Aside0.mk (by rw [hg]; exact Nat.ne_of_lt (blk_lt (g := gb223) (o := .cells #[.string a0_0,.int .i64 a0_1,.int .i64 a0_2,.int .i64 a0_3,.slice A0_4 l0_4.length c0_4] 125 (0,0)) (by exact BK223.out)) : gb223 ≠ gb225); have n7_ := Aside0.mk (by rw [hg]; exact Nat.ne_of_gt (blk_lt (g := gb223) (o := .cells #[.string a0_0,.int .i64 a0_1,.int .i64 a0_2,.int .i64 a0_3,.slice A0_4 l0_4.length c0_4] 125 (0,0)) (by exact BK223.out)) : gb225 ≠ gb223); have n8_ := Aside0.mk (by rw [hg]; exact Nat.ne_of_lt (blk_lt (g := gb224) (o := .cells #[.string (⟨#[]⟩ : ByteArray),.int .i64 0,.int .i64 0,.int .i64 0,.slice none 0 0] 63 (0,0)) (by exact BK224.out)) : gb224 ≠ gb225); have n9_ := Aside0.mk (by rw [hg]; exact Nat.ne_of_gt (blk_lt (g := gb224) (o := .cells #[.string (⟨#[]⟩ : ByteArray),.int .i64 0,.int .i64 0,.int .i64 0,.slice none 0 0] 63 (0,0)) (by exact BK224.out)) : gb225 ≠ gb224); clear BK223; clear BK224; clear HB; have BK223 := n0_; have BK224 := n1_; have HB := n2_; have BK225 := n3_; have GW225 := n4_; have GE225 := n5_; have NB223_225 := n6_; have NB225_223 := n7_; have NB224_225 := n8_; have NB225_224 := n9_; clear n0_ n1_ n2_ n3_ n4_ n5_ n6_ n7_ n8_ n9_; clear hb hbox hg; have hnb6 := NB223_224.out; have hnc6 := NB224_223.out; have hnb7 := NB223_225.out; have hnc7 := NB225_223.out; have hcz8_0 : w5.cell? ⟨gb223,0,none⟩ = some (.string a0_0) := (blk_cell BK223.out 0).trans rfl; have hcz8_1 : w5.cell? ⟨gb223,1,none⟩ = some (.int .i64 a0_1) := (blk_cell BK223.out 1).trans rfl; have hcz8_2 : w5.cell? ⟨gb223,2,none⟩ = some (.int .i64 a0_2) := (blk_cell BK223.out 2).trans rfl; have hcz8_3 : w5.cell? ⟨gb223,3,none⟩ = some (.int .i64 a0_3) := (blk_cell BK223.out 3).trans rfl; have hcz8_4 : w5.cell? ⟨gb223,4,none⟩ = some (.slice A0_4 l0_4.length c0_4) := (blk_cell BK223.out 4).trans rfl; have hfz8_0 := blk_frozen BK223.out 0; have hfz8_1 := blk_frozen BK223.out 1; have hfz8_2 := blk_frozen BK223.out 2; have hfz8_3 := blk_frozen BK223.out 3; have hfz8_4 := blk_frozen BK223.out 4; have hnb9 := NB225_224.out; have hnc9 := NB224_225.out; have hcz10_0 : w5.cell? ⟨gb225,0,none⟩ = some (.string (⟨#[]⟩ : ByteArray)) := (blk_cell BK225.out 0).trans rfl; have hcz10_1 : w5.cell? ⟨gb225,1,none⟩ = some (.int .i64 0) := (blk_cell BK225.out 1).trans rfl; have hcz10_2 : w5.cell? ⟨gb225,2,none⟩ = some (.int .i64 0) := (blk_cell BK225.out 2).trans rfl; have hcz10_3 : w5.cell? ⟨gb225,3,none⟩ = some (.int .i64 0) := (blk_cell BK225.out 3).trans rfl; have hcz10_4 : w5.cell? ⟨gb225,4,none⟩ = some (.slice none 0 0) := (blk_cell BK225.out 4).trans rfl; have hfz10_0 := blk_frozen BK225.out 0; have hfz10_1 := blk_frozen BK225.out 1; have hfz10_2 := blk_frozen BK225.out 2; have hfz10_3 := blk_frozen BK225.out 3; have hfz10_4 := blk_frozen BK225.out 4) | ((with_reducible refine gate_callee (f := 126) rfl ?_); refine goesL_ (some 18) rfl rfl Try.func126 (by kernel_rfl) rfl #[.slice A0_4 l0_4.length c0_4] rfl (by (try simp only [List.map_toArray,List.map_cons,List.map_nil]); rfl) ?_; (with_reducible refine (laws_toLeaveS.calls k _ _ l0_4 t226 _ ?side1 ?side2 A2.out).mono ?_); (case side1 => exact Kd.C_below HR0_4.out (by repeat (with_reducible first | exact HB.out | refine below_set ?_ GE225.out))); (case side2 => exact HC0_4.out); rintro e w11 ⟨v227,rfl,ho0,hb⟩; refine ⟨_,rfl,?_⟩; have n0_ := Aside0.mk (Kd.R_lower ho0 (below_size (by repeat (with_reducible first | exact HB.out | refine below_set ?_ GE225.out)))); have n1_ := Aside0.mk (blk_below (g := gb223) (o := .cells #[.string a0_0,.int .i64 a0_1,.int .i64 a0_2,.int .i64 a0_3,.slice A0_4 l0_4.length c0_4] 125 (0,0)) (by refine blk_far ?_ NB223_225.out _; refine blk_far ?_ NB223_225.out _; refine blk_far ?_ NB223_225.out _; refine blk_far ?_ NB223_225.out _; exact BK223.out) hb); have n2_ := Aside0.mk (blk_below (g := gb224) (o := .cells #[.string (⟨#[]⟩ : ByteArray),.int .i64 0,.int .i64 0,.int .i64 0,.slice none 0 0] 63 (0,0)) (by refine blk_far ?_ NB224_225.out _; refine blk_far ?_ NB224_225.out _; refine blk_far ?_ NB224_225.out _; refine blk_far ?_ NB224_225.out _; exact BK224.out) hb); have n3_ := Aside0.mk (blk_below (g := gb225) (o := .cells #[.string a0_0,.int .i64 a0_1,.int .i64 a0_2,.int .i64 a0_3,.slice none 0 0] 63 (0,0)) (by refine blk_put (cs := #[.string a0_0,.int .i64 a0_1,.int .i64 a0_2,.int .i64 0,.slice none 0 0]) ?_ 3 _ rfl; refine blk_put (cs := #[.string a0_0,.int .i64 a0_1,.int .i64 0,.int .i64 0,.slice none 0 0]) ?_ 2 _ rfl; refine blk_put (cs := #[.string a0_0,.int .i64 0,.int .i64 0,.int .i64 0,.slice none 0 0]) ?_ 1 _ rfl; refine blk_put (cs := #[.string (⟨#[]⟩ : ByteArray),.int .i64 0,.int .i64 0,.int .i64 0,.slice none 0 0]) ?_ 0 _ rfl; exact BK225.out) hb); have n4_ := Aside0.mk (below_step (by repeat (with_reducible first | exact HB.out | refine below_set ?_ GE225.out)) hb); clear BK223; clear BK224; clear BK225; clear HB; have HO228 := n0_; have BK223 := n1_; have BK224 := n2_; have BK225 := n3_; have HB := n4_; clear n0_ n1_ n2_ n3_ n4_; (try clear hb); (try clear ho0); obtain ⟨Ao12,co12,eo12⟩ := Kd.R_slice HO228.out; subst eo12; have hcz13_0 : w11.cell? ⟨gb225,0,none⟩ = some (.string a0_0) := (blk_cell BK225.out 0).trans rfl; have hcz13_1 : w11.cell? ⟨gb225,1,none⟩ = some (.int .i64 a0_1) := (blk_cell BK225.out 1).trans rfl; have hcz13_2 : w11.cell? ⟨gb225,2,none⟩ = some (.int .i64 a0_2) := (blk_cell BK225.out 2).trans rfl; have hcz13_3 : w11.cell? ⟨gb225,3,none⟩ = some (.int .i64 a0_3) := (blk_cell BK225.out 3).trans rfl; have hcz13_4 : w11.cell? ⟨gb225,4,none⟩ = some (.slice none 0 0) := (blk_cell BK225.out 4).trans rfl; have hfz13_0 := blk_frozen BK225.out 0; have hfz13_1 := blk_frozen BK225.out 1; have hfz13_2 := blk_frozen BK225.out 2; have hfz13_3 := blk_frozen BK225.out 3; have hfz13_4 := blk_frozen BK225.out 4; have hcz14_0 : w11.cell? ⟨gb224,0,none⟩ = some (.string (⟨#[]⟩ : ByteArray)) := (blk_cell BK224.out 0).trans rfl; have hcz14_1 : w11.cell? ⟨gb224,1,none⟩ = some (.int .i64 0) := (blk_cell BK224.out 1).trans rfl; have hcz14_2 : w11.cell? ⟨gb224,2,none⟩ = some (.int .i64 0) := (blk_cell BK224.out 2).trans rfl; have hcz14_3 : w11.cell? ⟨gb224,3,none⟩ = some (.int .i64 0) := (blk_cell BK224.out 3).trans rfl; have hcz14_4 : w11.cell? ⟨gb224,4,none⟩ = some (.slice none 0 0) := (blk_cell BK224.out 4).trans rfl; have hfz14_0 := blk_frozen BK224.out 0; have hfz14_1 := blk_frozen BK224.out 1; have hfz14_2 := blk_frozen BK224.out 2; have hfz14_3 := blk_frozen BK224.out 3; have hfz14_4 := blk_frozen BK224.out 4))
 refine bodyPost_ret (results_cell_row rfl _ _ gb224 63 #[.string a0_0,.int .i64 a0_1,.int .i64 a0_2,.int .i64 a0_3,.slice Ao12 t226.length co12] (0,0) _ rfl (by refine blk_put (cs := #[.string a0_0,.int .i64 a0_1,.int .i64 a0_2,.int .i64 a0_3,.slice none 0 0]) ?_ 4 _ rfl; refine blk_put (cs := #[.string a0_0,.int .i64 a0_1,.int .i64 a0_2,.int .i64 0,.slice none 0 0]) ?_ 3 _ rfl; refine blk_put (cs := #[.string a0_0,.int .i64 a0_1,.int .i64 0,.int .i64 0,.slice none 0 0]) ?_ 2 _ rfl; refine blk_put (cs := #[.string a0_0,.int .i64 0,.int .i64 0,.int .i64 0,.slice none 0 0]) ?_ 1 _ rfl; refine blk_put (cs := #[.string (⟨#[]⟩ : ByteArray),.int .i64 0,.int .i64 0,.int .i64 0,.slice none 0 0]) ?_ 0 _ rfl; refine blk_far ?_ NB224_225.out _; exact BK224.out) Try.underlying63 rfl (by kernel_rfl)) rfl ?_;exact ⟨_,by rfl,by exact Kd.R_mono (Kd.R_far (p := ⟨gb224,4,none⟩) (Kd.R_far (p := ⟨gb224,3,none⟩) (Kd.R_far (p := ⟨gb224,2,none⟩) (Kd.R_far (p := ⟨gb224,1,none⟩) (Kd.R_far (p := ⟨gb224,0,none⟩) (Kd.R_far (p := ⟨gb225,4,none⟩) (Kd.R_types (Kd.R_types HO228.out BK225.out (by decide)) BK224.out (by decide)) (fun _ hk => hk.1.2) (.slice Ao12 t226.length co12)) (fun _ hk => hk.2) (.string a0_0)) (fun _ hk => hk.2) (.int .i64 a0_1)) (fun _ hk => hk.2) (.int .i64 a0_2)) (fun _ hk => hk.2) (.int .i64 a0_3)) (fun _ hk => hk.2) (.slice Ao12 t226.length co12)) (fun _ hk => trivial),by repeat (with_reducible first | exact HB.out | refine below_set ?_ GE224.out | refine below_set ?_ GE225.out)⟩

/-! ### laws_toAcctS: function 53 -/
def laws_toAcctS.l0 : Nat → List (S125) → List (S63) → Int → Option (List (S63))
 | 0,_,_,_ => none
 | k + 1,x0,x3,x4 => if x4 < (x0.length : Int) then (if 0 ≤ x4 then ((laws_toAcct.f k ((rd_T125 x0 x4).f0) ((rd_T125 x0 x4).f1) ((rd_T125 x0 x4).f2) ((rd_T125 x0 x4).f3) ((rd_T125 x0 x4).f4)).bind fun bt233 => (if x4 < (x3.length : Int) then (laws_toAcctS.l0 k x0 (x3.set (x4 : Int).toNat (⟨bt233.1,bt233.2.1,bt233.2.2.1,bt233.2.2.2.1,bt233.2.2.2.2⟩ : S63)) (wrap64 (x4 + 1))) else (none))) else (none)) else (some x3)
def laws_toAcctS.f (k : Nat) (l0 : List (S125)) : Option (List (S63)) := if 0 ≤ (l0.length : Int) then (if ((l0.length : Int) : Int).toNat ≤ 4398046511104 then (laws_toAcctS.l0 k l0 (List.replicate ((l0.length : Int) : Int).toNat z63) 0) else (none)) else (none)
theorem laws_toAcctS.mono_l : ∀ k,(∀ y0 y1 y2,LeO (laws_toAcctS.l0 k y0 y1 y2) (laws_toAcctS.l0 (k + 1) y0 y1 y2))
 | 0 => fun _ _ _ r h => by simp [laws_toAcctS.l0] at h
 | k + 1 => by
  have ih0 := laws_toAcctS.mono_l k
  ·intro y0 y1 y2;unfold laws_toAcctS.l0
   repeat' first
   | (with_reducible exact ih0 _ _ _)
   | (with_reducible exact laws_toAcct.mono _ _ _ _ _ _)
   | (with_reducible exact LeO.refl _)
   | (with_reducible exact LeO.none _)
   | (with_reducible refine LeO.ite ?_ ?_)
   | (with_reducible refine LeO.bind ?_ (fun _ => ?_))
   | exact ih0 _ _ _
   | exact laws_toAcct.mono _ _ _ _ _ _
   | exact LeO.none _
theorem laws_toAcctS.mono : ∀ a0 k,LeO (laws_toAcctS.f k a0) (laws_toAcctS.f (k + 1) a0) := by
 intro a0 k;have ih0 := laws_toAcctS.mono_l k;unfold laws_toAcctS.f
 repeat' first
   | (with_reducible exact ih0 _ _ _)
   | (with_reducible exact laws_toAcct.mono _ _ _ _ _ _)
   | (with_reducible exact LeO.refl _)
   | (with_reducible exact LeO.none _)
   | (with_reducible refine LeO.ite ?_ ?_)
   | (with_reducible refine LeO.bind ?_ (fun _ => ?_))
   | exact ih0 _ _ _
   | exact laws_toAcct.mono _ _ _ _ _ _
   | exact LeO.none _
set_option maxHeartbeats 8000000 in
set_option maxRecDepth 100000 in
theorem laws_toAcctS.calls (k : Nat) (A0 : Option Addr) (c0 : Nat) (l0 : List (S125)) (r : List (S63)) (w : World) (hr0 : Kd.C k125 w A0 l0.length l0) (hc0 : l0.length ≤ c0) (h : laws_toAcctS.f k l0 = some r) :
  Calls Try.prog 53 #[.slice A0 l0.length c0] w fun e w' => ∃ v0_ : Value,e = .returned (v0_) ∧ Kd.S k63 63 w' w.heap.size (fun _ => True) v0_ r ∧ Below w.heap.size w w' := by
 have hu125 := Try.underlying125;have hu63 := Try.underlying63;have HR0 := Aside0.mk hr0;have HC0 := Aside0.mk hc0;clear hr0 hc0;have HB := Aside0.mk (Below.refl w.heap.size w);have H : (if 0 ≤ (l0.length : Int) then (if ((l0.length : Int) : Int).toNat ≤ 4398046511104 then (laws_toAcctS.l0 k l0 (List.replicate ((l0.length : Int) : Int).toNat z63) 0) else (none)) else (none)) = some r := h;clear h
 by_cases c2 : 0 ≤ (l0.length : Int)
 ·rw [if_pos c2] at H;have c2b0 := eq_true c2;have c2b1 : decide (0 ≤ (l0.length : Int)) = true := decide_eq_true c2;clear c2
  by_cases c3 : ((l0.length : Int) : Int).toNat ≤ 4398046511104
  ·rw [if_pos c3] at H;have c3b0 := eq_true c3;have c3b1 : decide (((l0.length : Int) : Int).toNat ≤ 4398046511104) = true := decide_eq_true c3;clear c3;obtain ⟨y229,hy229⟩ : ∃ y_ : List (S63),y_ = (List.replicate ((l0.length : Int) : Int).toNat z63) := ⟨_,rfl⟩
   replace H : (laws_toAcctS.l0 k l0 y229 0) = some r := by (rw [hy229]; with_reducible exact H)
   have Ny229 := Aside0.mk hy229;clear hy229;have H' := Aside0.mk H;clear H;go_enter Try.func53,Try.ntmps53
   go_wp2_with (((with_reducible refine gate_dst (N := 7) rfl ?_); refine Kd.S_make k63 _ 63 rfl (N := 7) rfl 29 _ _ rfl (l0.length : Int) rfl rfl Try.underlying29 (.agg #[(.string ⟨#[]⟩),(.int .i64 0),(.int .i64 0),(.int .i64 0),(.slice none 0 0)]) 64 info63 rfl (by decide) (by omega) z63 (ok := fun _ => True) (okp := fun _ => True) (k63_mkM _ _ _ z63 (Kd.R_nil _ _ _ _ _)) (fun _ hk => hk) trivial (of_decide_eq_true (by (with_reducible assumption))) (Nat.le_trans (Nat.mul_le_mul_right _ (of_decide_eq_true (by (with_reducible assumption)) : (l0.length : Int).toNat ≤ 4398046511104)) (by omega)) (Below.refl _ _) (Nat.le_refl _) ?_; intro v230 w4 ho5 hb hg_ hnew_; clear hg_ hnew_; (rw [← Ny229.out] at ho5); have n0_ := Aside0.mk (Kd.S_lower ho5 (below_size HB.out)); have n1_ := Aside0.mk (below_step HB.out hb); clear HB; have HO231 := n0_; have HB := n1_; clear n0_ n1_; clear hb ho5))
   go_loopg [4] k (fun kq v4 w' => ∃ (x3_1 : List (S63)) (x4_1 : Int),v4 = .int .i64 x4_1 ∧ Aside0 (laws_toAcctS.l0 kq l0 x3_1 x4_1 = some r) ∧ Aside0 (kq ≤ k) ∧ Aside0 (Kd.S k63 63 w' w.heap.size (fun _ => True) v230 x3_1) ∧ Aside0 (Below w.heap.size w w'))
   case atStart => exact ⟨(y229),(0),(by rfl),H',⟨Nat.le_refl _⟩,⟨by exact HO231.out⟩,⟨HB.out⟩⟩
   case round =>
    clear H'
    try clear c2
    try clear c2b0
    try clear c2b1
    try clear p2
    try clear c3
    try clear c3b0
    try clear c3b1
    try clear c5
    obtain ⟨x3_1,x4_1,rfl,HA,HK1,HO_3,HB⟩ := hrel
    cases gk with
    | zero => exact absurd HA.out (by simp [laws_toAcctS.l0])
    | succ k1 =>
     have H := HA.out;clear HA;simp only [laws_toAcctS.l0] at H
     by_cases c6 : x4_1 < (l0.length : Int)
     ·rw [if_pos c6] at H;have c6b0 : decide (x4_1 < (l0.length : Int)) = true := decide_eq_true c6;clear c6
      by_cases c7 : 0 ≤ x4_1
      ·rw [if_pos c7] at H;have c7b0 : decide (0 ≤ x4_1) = true := decide_eq_true c7;clear c7;replace H := Option.bind_eq_some_iff.mp H;obtain ⟨⟨t233,t234,t235,t236,t237⟩,A80,H⟩ := H;replace H : (if x4_1 < (x3_1.length : Int) then (laws_toAcctS.l0 k1 l0 (x3_1.set (x4_1 : Int).toNat (⟨t233,t234,t235,t236,t237⟩ : S63)) (wrap64 (x4_1 + 1))) else (none)) = some r := H;have A8 := Aside0.mk A80;clear A80
       by_cases c9 : x4_1 < (x3_1.length : Int)
       ·rw [if_pos c9] at H;have c9b0 : decide (x4_1 < (x3_1.length : Int)) = true := decide_eq_true c9;clear c9;obtain ⟨y240,hy240⟩ : ∃ y_ : List (S63),y_ = (x3_1.set (x4_1 : Int).toNat (⟨t233,t234,t235,t236,t237⟩ : S63)) := ⟨_,rfl⟩
        replace H : (laws_toAcctS.l0 k1 l0 y240 (wrap64 (x4_1 + 1))) = some r := by (rw [hy240]; with_reducible exact H)
        have Ny240 := Aside0.mk hy240;clear hy240;have H' := Aside0.mk H;clear H;have p232 : 0 ≤ (x4_1 : Int) := of_decide_eq_true (by (with_reducible assumption));have q232 : x4_1 < (l0.length : Int) := of_decide_eq_true (by (with_reducible assumption));obtain ⟨ad232,A232_4,c232_4,e232,hx232_0,hx232_1,hx232_2,hx232_3,hx232_4,hl232_4,hi232_4⟩ := at_T125 HR0.out x4_1 p232 q232
        cases e232
        replace hx232_0 := (HB.out.cell (World.block_lt_of_cell? w _ hx232_0)).trans hx232_0;replace hx232_1 := (HB.out.cell (World.block_lt_of_cell? w _ hx232_1)).trans hx232_1;replace hx232_2 := (HB.out.cell (World.block_lt_of_cell? w _ hx232_2)).trans hx232_2;replace hx232_3 := (HB.out.cell (World.block_lt_of_cell? w _ hx232_3)).trans hx232_3;replace hx232_4 := (HB.out.cell (World.block_lt_of_cell? w _ hx232_4)).trans hx232_4;have HR232_4 := Aside0.mk hi232_4;have HC232_4 := Aside0.mk hl232_4;clear hi232_4 hl232_4;replace p232 := eq_true p232;replace q232 := eq_true q232
        go_wp2_with (first | ((with_reducible refine gate_callee (f := 100) rfl ?_); refine goesL_ (some 20) rfl rfl Try.func100 (by kernel_rfl) rfl #[.agg #[.string ((rd_T125 l0 x4_1).f0),.int .i64 ((rd_T125 l0 x4_1).f1),.int .i64 ((rd_T125 l0 x4_1).f2),.int .i64 ((rd_T125 l0 x4_1).f3),.slice A232_4 ((rd_T125 l0 x4_1).f4).length c232_4]] rfl (by (try simp only [List.map_toArray,List.map_cons,List.map_nil]); rfl) ?_; (with_reducible refine (laws_toAcct.calls k1 ((rd_T125 l0 x4_1).f0) ((rd_T125 l0 x4_1).f1) ((rd_T125 l0 x4_1).f2) ((rd_T125 l0 x4_1).f3) _ _ ((rd_T125 l0 x4_1).f4) t233 t234 t235 t236 t237 _ ?side1 ?side2 A8.out).mono ?_); (case side1 => repeat (exact (Kd.C_below HR232_4.out HB.out))); (case side2 => exact HC232_4.out); rintro e w11 ⟨v238,rfl,ho0,hb⟩; refine ⟨_,rfl,?_⟩; have n0_ := Aside0.mk (Kd.S_elder' (by exact HO_3.out) (Kd.R_base ho0) hb); have n1_ := Aside0.mk (Kd.R_lower ho0 (below_size HB.out)); have n2_ := Aside0.mk (below_step HB.out hb); clear HO_3; clear HB; have HO_3 := n0_; have HO239 := n1_; have HB := n2_; clear n0_ n1_ n2_; (try clear hb); (try clear ho0); have p10 : 0 ≤ (x4_1 : Int) := of_decide_eq_true (by (with_reducible assumption)); have q10 : (x4_1 : Int) < ((x3_1.length : Int) : Int) := of_decide_eq_true (by (with_reducible assumption)); obtain ⟨go10,co10,eo10,gb10,gl10,cl10,HG10⟩ := Kd.S_form HO_3.out (by omega); (cases eo10); have GB10 := Aside0.mk gb10; have GG10 := Aside0.mk HG10; clear gb10 gl10 HG10; obtain ⟨_,ce10,hcl10,hM10,hcc10,hfr10,_,_⟩ := Kd.S_elem HO_3.out z63 (x4_1 : Int) p10 q10; obtain ⟨ve10_4,rfl,ge10_4⟩ := k63_openM hM10; have hx10_0 : w11.cell? ⟨go10,(x4_1 : Int).toNat * 5,none⟩ = some (.string ((rd_T63 x3_1 x4_1).f0)) := hcc10 0 _ rfl; have hx10_1 : w11.cell? ⟨go10,(x4_1 : Int).toNat * 5 + 1,none⟩ = some (.int .i64 ((rd_T63 x3_1 x4_1).f1)) := hcc10 1 _ rfl; have hx10_2 : w11.cell? ⟨go10,(x4_1 : Int).toNat * 5 + 2,none⟩ = some (.int .i64 ((rd_T63 x3_1 x4_1).f2)) := hcc10 2 _ rfl; have hx10_3 : w11.cell? ⟨go10,(x4_1 : Int).toNat * 5 + 3,none⟩ = some (.int .i64 ((rd_T63 x3_1 x4_1).f3)) := hcc10 3 _ rfl; have hx10_4 : w11.cell? ⟨go10,(x4_1 : Int).toNat * 5 + 4,none⟩ = some (ve10_4) := hcc10 4 _ rfl; have hf10_0 : w11.frozen? ⟨go10,(x4_1 : Int).toNat * 5,none⟩ = false := hfr10 0; have hf10_1 : w11.frozen? ⟨go10,(x4_1 : Int).toNat * 5 + 1,none⟩ = false := hfr10 1; have hf10_2 : w11.frozen? ⟨go10,(x4_1 : Int).toNat * 5 + 2,none⟩ = false := hfr10 2; have hf10_3 : w11.frozen? ⟨go10,(x4_1 : Int).toNat * 5 + 3,none⟩ = false := hfr10 3; have hf10_4 : w11.frozen? ⟨go10,(x4_1 : Int).toNat * 5 + 4,none⟩ = false := hfr10 4; clear hcl10 hcc10 hfr10 hM10; replace p10 := eq_true p10; replace q10 := eq_true q10; have n_ := Aside0.mk (Kd.S_mono (ok' := (fun k_ => some k_ ≠ (v238 : Value).ownBlock)) HO_3.out (fun k_ hk => hk.2)); clear HO_3; have HO_3 := n_; clear n_; have HX12 := Aside0.mk (show Kd.S k63 63 w11 w.heap.size (fun k_ => (fun _ => True) k_ ∧ ¬ (fun k_ => some k_ = (v238 : Value).ownBlock) k_) (.slice (some ⟨go10,0,none⟩) x3_1.length co10) x3_1 from (by exact Kd.S_mono HO_3.out (fun k_ hk => ⟨trivial,fun e_ => hk e_⟩))); obtain ⟨oki12,ce12,hcl12,hM12,hcc12,hfr12,hoki12,hH12⟩ := Kd.S_elem HX12.out z63 (x4_1 : Int) (of_decide_eq_true (by (with_reducible assumption))) (by have h_ : (x4_1 : Int) < ((x3_1.length : Int) : Int) := of_decide_eq_true (by (with_reducible assumption)); exact h_); obtain ⟨ve12_4,rfl,ge12_4⟩ := k63_openM hM12; have HP12 := Kd.S_seg hH12 (of_decide_eq_true (by (with_reducible assumption))) (by have h_ : (x4_1 : Int) < ((x3_1.length : Int) : Int) := of_decide_eq_true (by (with_reducible assumption)); exact h_) (seg := [.string t233,.int .i64 t234,.int .i64 t235,.int .i64 t236,v238]) (j := 0) (show 5 ≤ 5 from by decide) (x' := (⟨t233,t234,t235,t236,t237⟩ : S63)) (k63_mkM _ _ _ (⟨t233,t234,t235,t236,t237⟩ : S63) (Kd.R_mono (Kd.R_tight rfl (Kd.R_mono (ok' := fun k_ => (fun _ => True) k_ ∧ k_ ≠ go10) (Kd.R_apart' (HO239.out) (Kd.S_typed HO_3.out) (by decide)) (fun k_ hk => ⟨trivial,fun e_ => (hk.2) (by rw [e_]; rfl)⟩))) (fun _ h_ => Or.inr (h_)))) (fun _ hk => hk) (fun k_ hk_ => (Kd.R_mono (ok' := fun k_ => (fun _ => True) k_ ∧ k_ ≠ go10) (Kd.R_apart' (HO239.out) (Kd.S_typed HO_3.out) (by decide)) (fun k_ hk => ⟨trivial,fun e_ => (hk.2) (by rw [e_]; rfl)⟩)).1 k_ hk_.symm); have hx12_0 := hcc12 0 _ rfl; (try simp only [show (k63).sz = 5 from rfl,Nat.mul_one,Nat.add_zero] at hx12_0); have hf12_0 := hfr12 0; (try simp only [show (k63).sz = 5 from rfl,Nat.mul_one,Nat.add_zero] at hf12_0); have hx12_1 := hcc12 1 _ rfl; (try simp only [show (k63).sz = 5 from rfl,Nat.mul_one,Nat.add_zero] at hx12_1); have hf12_1 := hfr12 1; (try simp only [show (k63).sz = 5 from rfl,Nat.mul_one,Nat.add_zero] at hf12_1); have hx12_2 := hcc12 2 _ rfl; (try simp only [show (k63).sz = 5 from rfl,Nat.mul_one,Nat.add_zero] at hx12_2); have hf12_2 := hfr12 2; (try simp only [show (k63).sz = 5 from rfl,Nat.mul_one,Nat.add_zero] at hf12_2); have hx12_3 := hcc12 3 _ rfl; (try simp only [show (k63).sz = 5 from rfl,Nat.mul_one,Nat.add_zero] at hx12_3); have hf12_3 := hfr12 3; (try simp only [show (k63).sz = 5 from rfl,Nat.mul_one,Nat.add_zero] at hf12_3); have hx12_4 := hcc12 4 _ rfl; (try simp only [show (k63).sz = 5 from rfl,Nat.mul_one,Nat.add_zero] at hx12_4); have hf12_4 := hfr12 4; (try simp only [show (k63).sz = 5 from rfl,Nat.mul_one,Nat.add_zero] at hf12_4); clear hcl12 hcc12 hfr12 hM12 hoki12 hH12) | ((with_reducible refine gate_store (t := 63) (p := 21) rfl ?_); refine store_event (t := 63) (p := 21) (v := ?vo_w13) (w1 := (((((w11.setCell ⟨go10,(x4_1 : Int).toNat * 5,none⟩ (.string t233)).setCell ⟨go10,(x4_1 : Int).toNat * 5 + 1,none⟩ (.int .i64 t234)).setCell ⟨go10,(x4_1 : Int).toNat * 5 + 2,none⟩ (.int .i64 t235)).setCell ⟨go10,(x4_1 : Int).toNat * 5 + 3,none⟩ (.int .i64 t236)).setCell ⟨go10,(x4_1 : Int).toNat * 5 + 4,none⟩ (v238))) ?hg ?ho ?hn ?hr ?_; (case ho => rfl); (case hg => rfl); (case hn => rfl); (case hr => (obtain ⟨_,_,rfl⟩ := Kd.R_slice HO239.out; (go_simp; done))); intro w13 hw; have hg : w11.grownBy w13 (some go10) := (by rw [hw]; exact HP12.2); have hp_ : Kd.S k63 63 w13 w.heap.size (fun _ => True) (.slice (some ⟨go10,0,none⟩) x3_1.length co10) y240 := (by rw [hw,Ny240.out]; exact HP12.1); clear HP12; have n0_ := Aside0.mk (hp_); have n1_ := Aside0.mk (by rw [hw]; exact below_set (below_set (below_set (below_set (below_set (HB.out) GB10.out) GB10.out) GB10.out) GB10.out) GB10.out : Below w.heap.size w w13); clear HO_3; clear HB; clear HO239; have HO_3 := n0_; have HB := n1_; clear n0_ n1_; clear hg hw hp_))
        go_roundg k1
        case measure => have := HK1.out; omega
        case rel => exact ⟨(y240),(wrap64 (x4_1 + 1)),(by rfl),H',⟨by have := HK1.out; omega⟩,⟨by exact HO_3.out⟩,⟨HB.out⟩⟩
       ·rw [if_neg c9] at H;exact absurd H (by simp)
      ·rw [if_neg c7] at H;exact absurd H (by simp)
     ·rw [if_neg c6] at H;have c6b0 : decide (x4_1 < (l0.length : Int)) = false := decide_eq_false c6;clear c6;obtain rfl := Option.some.inj H;go_wp2;go_ret;exact ⟨_,by rfl,by exact HO_3.out,HB.out⟩
  ·rw [if_neg c3] at H;exact absurd H (by simp)
 ·rw [if_neg c2] at H;exact absurd H (by simp)

/-! ### laws_toLedger: function 16 -/
def laws_toLedger.f (k : Nat) (a0_0 : Int) (l0_1 : List (S125)) : Option (Int × (List (S63))) := (laws_toAcctS.f k l0_1).bind fun t244 => (some (a0_0,t244))
theorem laws_toLedger.mono : ∀ a0 a1 k,LeO (laws_toLedger.f k a0 a1) (laws_toLedger.f (k + 1) a0 a1) := by
 intro a0 a1 k;unfold laws_toLedger.f
 repeat' first
   | (with_reducible exact laws_toAcctS.mono _ _)
   | (with_reducible exact LeO.refl _)
   | (with_reducible exact LeO.none _)
   | (with_reducible refine LeO.ite ?_ ?_)
   | (with_reducible refine LeO.bind ?_ (fun _ => ?_))
   | exact laws_toAcctS.mono _ _
   | exact LeO.none _
set_option maxHeartbeats 8000000 in
set_option maxRecDepth 100000 in
theorem laws_toLedger.calls (k : Nat) (a0_0 : Int) (A0_1 : Option Addr) (c0_1 : Nat) (l0_1 : List (S125)) (r1 : Int) (r2 : List (S63)) (w : World) (hr0_1 : Kd.C k125 w A0_1 l0_1.length l0_1) (hc0_1 : l0_1.length ≤ c0_1) (h : laws_toLedger.f k a0_0 l0_1 = some (r1,r2)) :
  Calls Try.prog 16 #[.agg #[.int .i64 a0_0,.slice A0_1 l0_1.length c0_1]] w fun e w' => ∃ v1_ : Value,e = .returned (.agg #[.int .i64 r1,v1_]) ∧ Kd.S k63 63 w' w.heap.size (fun _ => True) v1_ r2 ∧ Below w.heap.size w w' := by
 have hu24 := Try.underlying24;have hu31 := Try.underlying31;have HR0_1 := Aside0.mk hr0_1;have HC0_1 := Aside0.mk hc0_1;clear hr0_1 hc0_1;have HB := Aside0.mk (Below.refl w.heap.size w);have H : ((laws_toAcctS.f k l0_1).bind fun t244 => (some (a0_0,t244))) = some (r1,r2) := h;clear h;replace H := Option.bind_eq_some_iff.mp H;obtain ⟨t244,A20,H⟩ := H;replace H : (some (a0_0,t244)) = some (r1,r2) := H;have A2 := Aside0.mk A20;clear A20;simp only [Option.some.injEq,Prod.mk.injEq] at H;obtain ⟨rfl,rfl⟩ := H;go_enter Try.func16,Try.ntmps16
 go_wp2_with (first | ((with_reducible refine gate_dst (N := 1) rfl ?_); refine box_event ?hg (N := 1) ?hd (cs := #[.int .i64 a0_0,.slice A0_1 l0_1.length c0_1]) (t := 24) ?hr ?_; (case hd => rfl); (case hg => rfl); (case hr => (go_simp; done)); intro gb241 hg w3 hbox hb; have n0_ := Aside0.mk (below_step HB.out hb); have n1_ := Aside0.mk (hbox); have n2_ := Aside0.mk (by rw [hg]; exact (below_size HB.out) : w.heap.size ≤ gb241); have n3_ := Aside0.mk (by rw [hg]; exact (below_size HB.out) : w.heap.size ≤ gb241); clear HB; have HB := n0_; have BK241 := n1_; have GW241 := n2_; have GE241 := n3_; clear n0_ n1_ n2_ n3_; clear hb hbox hg) | ((with_reducible refine gate_dst (N := 2) rfl ?_); refine box_event ?hg (N := 2) ?hd (cs := #[.int .i64 0,.slice none 0 0]) (t := 31) ?hr ?_; (case hd => rfl); (case hg => rfl); (case hr => (go_simp; done)); intro gb242 hg w4 hbox hb; have n0_ := Aside0.mk (blk_below (g := gb241) (o := .cells #[.int .i64 a0_0,.slice A0_1 l0_1.length c0_1] 24 (0,0)) (by exact BK241.out) hb); have n1_ := Aside0.mk (below_step HB.out hb); have n2_ := Aside0.mk (hbox); have n3_ := Aside0.mk (by rw [hg]; exact (below_size HB.out) : w.heap.size ≤ gb242); have n4_ := Aside0.mk (by rw [hg]; exact (below_size HB.out) : w.heap.size ≤ gb242); have n5_ := Aside0.mk (by rw [hg]; exact Nat.ne_of_lt (blk_lt (g := gb241) (o := .cells #[.int .i64 a0_0,.slice A0_1 l0_1.length c0_1] 24 (0,0)) (by exact BK241.out)) : gb241 ≠ gb242); have n6_ := Aside0.mk (by rw [hg]; exact Nat.ne_of_gt (blk_lt (g := gb241) (o := .cells #[.int .i64 a0_0,.slice A0_1 l0_1.length c0_1] 24 (0,0)) (by exact BK241.out)) : gb242 ≠ gb241); clear BK241; clear HB; have BK241 := n0_; have HB := n1_; have BK242 := n2_; have GW242 := n3_; have GE242 := n4_; have NB241_242 := n5_; have NB242_241 := n6_; clear n0_ n1_ n2_ n3_ n4_ n5_ n6_; clear hb hbox hg) | ((with_reducible refine gate_dst (N := 3) rfl ?_); refine box_event ?hg (N := 3) ?hd (cs := #[.int .i64 0,.slice none 0 0]) (t := 31) ?hr ?_; (case hd => rfl); (case hg => rfl); (case hr => (go_simp; done)); intro gb243 hg w5 hbox hb; have n0_ := Aside0.mk (blk_below (g := gb241) (o := .cells #[.int .i64 a0_0,.slice A0_1 l0_1.length c0_1] 24 (0,0)) (by exact BK241.out) hb); have n1_ := Aside0.mk (blk_below (g := gb242) (o := .cells #[.int .i64 0,.slice none 0 0] 31 (0,0)) (by exact BK242.out) hb); have n2_ := Aside0.mk (below_step HB.out hb); have n3_ := Aside0.mk (hbox); have n4_ := Aside0.mk (by rw [hg]; exact (below_size HB.out) : w.heap.size ≤ gb243); have n5_ := Aside0.mk (by rw [hg]; exact (below_size HB.out) : w.heap.size ≤ gb243); have n6_ := Aside0.mk (by rw [hg]; exact Nat.ne_of_lt (blk_lt (g := gb241) (o := .cells #[.int .i64 a0_0,.slice A0_1 l0_1.length c0_1] 24 (0,0)) (by exact BK241.out)) : gb241 ≠ gb243); have n7_ := Aside0.mk (by rw [hg]; exact Nat.ne_of_gt (blk_lt (g := gb241) (o := .cells #[.int .i64 a0_0,.slice A0_1 l0_1.length c0_1] 24 (0,0)) (by exact BK241.out)) : gb243 ≠ gb241); have n8_ := Aside0.mk (by rw [hg]; exact Nat.ne_of_lt (blk_lt (g := gb242) (o := .cells #[.int .i64 0,.slice none 0 0] 31 (0,0)) (by exact BK242.out)) : gb242 ≠ gb243); have n9_ := Aside0.mk (by rw [hg]; exact Nat.ne_of_gt (blk_lt (g := gb242) (o := .cells #[.int .i64 0,.slice none 0 0] 31 (0,0)) (by exact BK242.out)) : gb243 ≠ gb242); clear BK241; clear BK242; clear HB; have BK241 := n0_; have BK242 := n1_; have HB := n2_; have BK243 := n3_; have GW243 := n4_; have GE243 := n5_; have NB241_243 := n6_; have NB243_241 := n7_; have NB242_243 := n8_; have NB243_242 := n9_; clear n0_ n1_ n2_ n3_ n4_ n5_ n6_ n7_ n8_ n9_; clear hb hbox hg; have hnb6 := NB241_242.out; have hnc6 := NB242_241.out; have hnb7 := NB241_243.out; have hnc7 := NB243_241.out; have hcz8_0 : w5.cell? ⟨gb241,0,none⟩ = some (.int .i64 a0_0) := (blk_cell BK241.out 0).trans rfl; have hcz8_1 : w5.cell? ⟨gb241,1,none⟩ = some (.slice A0_1 l0_1.length c0_1) := (blk_cell BK241.out 1).trans rfl; have hfz8_0 := blk_frozen BK241.out 0; have hfz8_1 := blk_frozen BK241.out 1; have hnb9 := NB243_242.out; have hnc9 := NB242_243.out; have hcz10_0 : w5.cell? ⟨gb243,0,none⟩ = some (.int .i64 0) := (blk_cell BK243.out 0).trans rfl; have hcz10_1 : w5.cell? ⟨gb243,1,none⟩ = some (.slice none 0 0) := (blk_cell BK243.out 1).trans rfl; have hfz10_0 := blk_frozen BK243.out 0; have hfz10_1 := blk_frozen BK243.out 1) | ((with_reducible refine gate_callee (f := 53) rfl ?_); refine goesL_ (some 9) rfl rfl Try.func53 (by kernel_rfl) rfl #[.slice A0_1 l0_1.length c0_1] rfl (by (try simp only [List.map_toArray,List.map_cons,List.map_nil]); rfl) ?_; (with_reducible refine (laws_toAcctS.calls k _ _ l0_1 t244 _ ?side1 ?side2 A2.out).mono ?_); (case side1 => exact Kd.C_below HR0_1.out (by repeat (with_reducible first | exact HB.out | refine below_set ?_ GE243.out))); (case side2 => exact HC0_1.out); rintro e w11 ⟨v245,rfl,ho0,hb⟩; refine ⟨_,rfl,?_⟩; have n0_ := Aside0.mk (Kd.S_lower ho0 (below_size (by repeat (with_reducible first | exact HB.out | refine below_set ?_ GE243.out)))); have n1_ := Aside0.mk (blk_below (g := gb241) (o := .cells #[.int .i64 a0_0,.slice A0_1 l0_1.length c0_1] 24 (0,0)) (by refine blk_far ?_ NB241_243.out _; exact BK241.out) hb); have n2_ := Aside0.mk (blk_below (g := gb242) (o := .cells #[.int .i64 0,.slice none 0 0] 31 (0,0)) (by refine blk_far ?_ NB242_243.out _; exact BK242.out) hb); have n3_ := Aside0.mk (blk_below (g := gb243) (o := .cells #[.int .i64 a0_0,.slice none 0 0] 31 (0,0)) (by refine blk_put (cs := #[.int .i64 0,.slice none 0 0]) ?_ 0 _ rfl; exact BK243.out) hb); have n4_ := Aside0.mk (below_step (by repeat (with_reducible first | exact HB.out | refine below_set ?_ GE243.out)) hb); clear BK241; clear BK242; clear BK243; clear HB; have HO246 := n0_; have BK241 := n1_; have BK242 := n2_; have BK243 := n3_; have HB := n4_; clear n0_ n1_ n2_ n3_ n4_; (try clear hb); (try clear ho0); obtain ⟨Ao12,co12,eo12⟩ := Kd.S_slice HO246.out; subst eo12; have hcz13_0 : w11.cell? ⟨gb243,0,none⟩ = some (.int .i64 a0_0) := (blk_cell BK243.out 0).trans rfl; have hcz13_1 : w11.cell? ⟨gb243,1,none⟩ = some (.slice none 0 0) := (blk_cell BK243.out 1).trans rfl; have hfz13_0 := blk_frozen BK243.out 0; have hfz13_1 := blk_frozen BK243.out 1; have hcz14_0 : w11.cell? ⟨gb242,0,none⟩ = some (.int .i64 0) := (blk_cell BK242.out 0).trans rfl; have hcz14_1 : w11.cell? ⟨gb242,1,none⟩ = some (.slice none 0 0) := (blk_cell BK242.out 1).trans rfl; have hfz14_0 := blk_frozen BK242.out 0; have hfz14_1 := blk_frozen BK242.out 1))
 refine bodyPost_ret (results_cell_row rfl _ _ gb242 31 #[.int .i64 a0_0,.slice Ao12 t244.length co12] (0,0) _ rfl (by refine blk_put (cs := #[.int .i64 a0_0,.slice none 0 0]) ?_ 1 _ rfl; refine blk_put (cs := #[.int .i64 0,.slice none 0 0]) ?_ 0 _ rfl; refine blk_far ?_ NB242_243.out _; exact BK242.out) Try.underlying31 rfl (by kernel_rfl)) rfl ?_;exact ⟨_,by rfl,by exact Kd.S_mono (Kd.S_far (p := ⟨gb242,1,none⟩) (Kd.S_far (p := ⟨gb242,0,none⟩) (Kd.S_far (p := ⟨gb243,1,none⟩) (Kd.S_types (Kd.S_types HO246.out BK243.out (by decide)) BK242.out (by decide)) (fun _ hk => hk.1.2) (.slice Ao12 t244.length co12)) (fun _ hk => hk.2) (.int .i64 a0_0)) (fun _ hk => hk.2) (.slice Ao12 t244.length co12)) (fun _ hk => trivial),by repeat (with_reducible first | exact HB.out | refine below_set ?_ GE242.out | refine below_set ?_ GE243.out)⟩

/-! ### laws_toTx: function 17 -/
def laws_toTx.f (a0_0 : Int) (a0_1 : ByteArray) (a0_2 : ByteArray) (a0_3 : Int) (a0_4 : Int) : Option (Int × ByteArray × ByteArray × Int × Int) := some (a0_0,a0_1,a0_2,a0_3,a0_4)
set_option maxHeartbeats 8000000 in
set_option maxRecDepth 100000 in
theorem laws_toTx.calls (a0_0 : Int) (a0_1 : ByteArray) (a0_2 : ByteArray) (a0_3 : Int) (a0_4 : Int) (r1 : Int) (r2 : ByteArray) (r3 : ByteArray) (r4 : Int) (r5 : Int) (w : World) (h : laws_toTx.f a0_0 a0_1 a0_2 a0_3 a0_4 = some (r1,r2,r3,r4,r5)) :
  Calls Try.prog 17 #[.agg #[.int .i64 a0_0,.string a0_1,.string a0_2,.int .i64 a0_3,.int .i64 a0_4]] w fun e w' => e = .returned (.agg #[.int .i64 r1,.string r2,.string r3,.int .i64 r4,.int .i64 r5]) ∧ Below w.heap.size w w' := by
 have hu26 := Try.underlying26;have hu35 := Try.underlying35;have HB := Aside0.mk (Below.refl w.heap.size w);have H : (some (a0_0,a0_1,a0_2,a0_3,a0_4)) = some (r1,r2,r3,r4,r5) := h;clear h;simp only [Option.some.injEq,Prod.mk.injEq] at H;obtain ⟨rfl,rfl,rfl,rfl,rfl⟩ := H;go_enter Try.func17,Try.ntmps17
 go_wp2_with (first | ((with_reducible refine gate_dst (N := 1) rfl ?_); refine box_event ?hg (N := 1) ?hd (cs := #[.int .i64 a0_0,.string a0_1,.string a0_2,.int .i64 a0_3,.int .i64 a0_4]) (t := 26) ?hr ?_; (case hd => rfl); (case hg => rfl); (case hr => (go_simp; done)); intro gb247 hg w2 hbox hb; have n0_ := Aside0.mk (below_step HB.out hb); have n1_ := Aside0.mk (hbox); have n2_ := Aside0.mk (by rw [hg]; exact (below_size HB.out) : w.heap.size ≤ gb247); have n3_ := Aside0.mk (by rw [hg]; exact (below_size HB.out) : w.heap.size ≤ gb247); clear HB; have HB := n0_; have BK247 := n1_; have GW247 := n2_; have GE247 := n3_; clear n0_ n1_ n2_ n3_; clear hb hbox hg) | ((with_reducible refine gate_dst (N := 2) rfl ?_); refine box_event ?hg (N := 2) ?hd (cs := #[.int .i64 0,.string (⟨#[]⟩ : ByteArray),.string (⟨#[]⟩ : ByteArray),.int .i64 0,.int .i64 0]) (t := 35) ?hr ?_; (case hd => rfl); (case hg => rfl); (case hr => (go_simp; done)); intro gb248 hg w3 hbox hb; have n0_ := Aside0.mk (blk_below (g := gb247) (o := .cells #[.int .i64 a0_0,.string a0_1,.string a0_2,.int .i64 a0_3,.int .i64 a0_4] 26 (0,0)) (by exact BK247.out) hb); have n1_ := Aside0.mk (below_step HB.out hb); have n2_ := Aside0.mk (hbox); have n3_ := Aside0.mk (by rw [hg]; exact (below_size HB.out) : w.heap.size ≤ gb248); have n4_ := Aside0.mk (by rw [hg]; exact (below_size HB.out) : w.heap.size ≤ gb248); have n5_ := Aside0.mk (by rw [hg]; exact Nat.ne_of_lt (blk_lt (g := gb247) (o := .cells #[.int .i64 a0_0,.string a0_1,.string a0_2,.int .i64 a0_3,.int .i64 a0_4] 26 (0,0)) (by exact BK247.out)) : gb247 ≠ gb248); have n6_ := Aside0.mk (by rw [hg]; exact Nat.ne_of_gt (blk_lt (g := gb247) (o := .cells #[.int .i64 a0_0,.string a0_1,.string a0_2,.int .i64 a0_3,.int .i64 a0_4] 26 (0,0)) (by exact BK247.out)) : gb248 ≠ gb247); clear BK247; clear HB; have BK247 := n0_; have HB := n1_; have BK248 := n2_; have GW248 := n3_; have GE248 := n4_; have NB247_248 := n5_; have NB248_247 := n6_; clear n0_ n1_ n2_ n3_ n4_ n5_ n6_; clear hb hbox hg) | ((with_reducible refine gate_dst (N := 3) rfl ?_); refine box_event ?hg (N := 3) ?hd (cs := #[.int .i64 0,.string (⟨#[]⟩ : ByteArray),.string (⟨#[]⟩ : ByteArray),.int .i64 0,.int .i64 0]) (t := 35) ?hr ?_; (case hd => rfl); (case hg => rfl); (case hr => (go_simp; done)); intro gb249 hg w4 hbox hb; have n0_ := Aside0.mk (blk_below (g := gb247) (o := .cells #[.int .i64 a0_0,.string a0_1,.string a0_2,.int .i64 a0_3,.int .i64 a0_4] 26 (0,0)) (by exact BK247.out) hb); have n1_ := Aside0.mk (blk_below (g := gb248) (o := .cells #[.int .i64 0,.string (⟨#[]⟩ : ByteArray),.string (⟨#[]⟩ : ByteArray),.int .i64 0,.int .i64 0] 35 (0,0)) (by exact BK248.out) hb); have n2_ := Aside0.mk (below_step HB.out hb); have n3_ := Aside0.mk (hbox); have n4_ := Aside0.mk (by rw [hg]; exact (below_size HB.out) : w.heap.size ≤ gb249); have n5_ := Aside0.mk (by rw [hg]; exact (below_size HB.out) : w.heap.size ≤ gb249); have n6_ := Aside0.mk (by rw [hg]; exact Nat.ne_of_lt (blk_lt (g := gb247) (o := .cells #[.int .i64 a0_0,.string a0_1,.string a0_2,.int .i64 a0_3,.int .i64 a0_4] 26 (0,0)) (by exact BK247.out)) : gb247 ≠ gb249); have n7_ := Aside0.mk (by rw [hg]; exact Nat.ne_of_gt (blk_lt (g := gb247) (o := .cells #[.int .i64 a0_0,.string a0_1,.string a0_2,.int .i64 a0_3,.int .i64 a0_4] 26 (0,0)) (by exact BK247.out)) : gb249 ≠ gb247); have n8_ := Aside0.mk (by rw [hg]; exact Nat.ne_of_lt (blk_lt (g := gb248) (o := .cells #[.int .i64 0,.string (⟨#[]⟩ : ByteArray),.string (⟨#[]⟩ : ByteArray),.int .i64 0,.int .i64 0] 35 (0,0)) (by exact BK248.out)) : gb248 ≠ gb249); have n9_ := Aside0.mk (by rw [hg]; exact Nat.ne_of_gt (blk_lt (g := gb248) (o := .cells #[.int .i64 0,.string (⟨#[]⟩ : ByteArray),.string (⟨#[]⟩ : ByteArray),.int .i64 0,.int .i64 0] 35 (0,0)) (by exact BK248.out)) : gb249 ≠ gb248); clear BK247; clear BK248; clear HB; have BK247 := n0_; have BK248 := n1_; have HB := n2_; have BK249 := n3_; have GW249 := n4_; have GE249 := n5_; have NB247_249 := n6_; have NB249_247 := n7_; have NB248_249 := n8_; have NB249_248 := n9_; clear n0_ n1_ n2_ n3_ n4_ n5_ n6_ n7_ n8_ n9_; clear hb hbox hg; have hnb5 := NB247_248.out; have hnc5 := NB248_247.out; have hnb6 := NB247_249.out; have hnc6 := NB249_247.out; have hcz7_0 : w4.cell? ⟨gb247,0,none⟩ = some (.int .i64 a0_0) := (blk_cell BK247.out 0).trans rfl; have hcz7_1 : w4.cell? ⟨gb247,1,none⟩ = some (.string a0_1) := (blk_cell BK247.out 1).trans rfl; have hcz7_2 : w4.cell? ⟨gb247,2,none⟩ = some (.string a0_2) := (blk_cell BK247.out 2).trans rfl; have hcz7_3 : w4.cell? ⟨gb247,3,none⟩ = some (.int .i64 a0_3) := (blk_cell BK247.out 3).trans rfl; have hcz7_4 : w4.cell? ⟨gb247,4,none⟩ = some (.int .i64 a0_4) := (blk_cell BK247.out 4).trans rfl; have hfz7_0 := blk_frozen BK247.out 0; have hfz7_1 := blk_frozen BK247.out 1; have hfz7_2 := blk_frozen BK247.out 2; have hfz7_3 := blk_frozen BK247.out 3; have hfz7_4 := blk_frozen BK247.out 4; have hnb8 := NB249_248.out; have hnc8 := NB248_249.out; have hcz9_0 : w4.cell? ⟨gb249,0,none⟩ = some (.int .i64 0) := (blk_cell BK249.out 0).trans rfl; have hcz9_1 : w4.cell? ⟨gb249,1,none⟩ = some (.string (⟨#[]⟩ : ByteArray)) := (blk_cell BK249.out 1).trans rfl; have hcz9_2 : w4.cell? ⟨gb249,2,none⟩ = some (.string (⟨#[]⟩ : ByteArray)) := (blk_cell BK249.out 2).trans rfl; have hcz9_3 : w4.cell? ⟨gb249,3,none⟩ = some (.int .i64 0) := (blk_cell BK249.out 3).trans rfl; have hcz9_4 : w4.cell? ⟨gb249,4,none⟩ = some (.int .i64 0) := (blk_cell BK249.out 4).trans rfl; have hfz9_0 := blk_frozen BK249.out 0; have hfz9_1 := blk_frozen BK249.out 1; have hfz9_2 := blk_frozen BK249.out 2; have hfz9_3 := blk_frozen BK249.out 3; have hfz9_4 := blk_frozen BK249.out 4; have hcz10_0 : w4.cell? ⟨gb248,0,none⟩ = some (.int .i64 0) := (blk_cell BK248.out 0).trans rfl; have hcz10_1 : w4.cell? ⟨gb248,1,none⟩ = some (.string (⟨#[]⟩ : ByteArray)) := (blk_cell BK248.out 1).trans rfl; have hcz10_2 : w4.cell? ⟨gb248,2,none⟩ = some (.string (⟨#[]⟩ : ByteArray)) := (blk_cell BK248.out 2).trans rfl; have hcz10_3 : w4.cell? ⟨gb248,3,none⟩ = some (.int .i64 0) := (blk_cell BK248.out 3).trans rfl; have hcz10_4 : w4.cell? ⟨gb248,4,none⟩ = some (.int .i64 0) := (blk_cell BK248.out 4).trans rfl; have hfz10_0 := blk_frozen BK248.out 0; have hfz10_1 := blk_frozen BK248.out 1; have hfz10_2 := blk_frozen BK248.out 2; have hfz10_3 := blk_frozen BK248.out 3; have hfz10_4 := blk_frozen BK248.out 4))
 refine bodyPost_ret (results_cell_row rfl _ _ gb248 35 #[.int .i64 a0_0,.string a0_1,.string a0_2,.int .i64 a0_3,.int .i64 a0_4] (0,0) _ rfl (by refine blk_put (cs := #[.int .i64 a0_0,.string a0_1,.string a0_2,.int .i64 a0_3,.int .i64 0]) ?_ 4 _ rfl; refine blk_put (cs := #[.int .i64 a0_0,.string a0_1,.string a0_2,.int .i64 0,.int .i64 0]) ?_ 3 _ rfl; refine blk_put (cs := #[.int .i64 a0_0,.string a0_1,.string (⟨#[]⟩ : ByteArray),.int .i64 0,.int .i64 0]) ?_ 2 _ rfl; refine blk_put (cs := #[.int .i64 a0_0,.string (⟨#[]⟩ : ByteArray),.string (⟨#[]⟩ : ByteArray),.int .i64 0,.int .i64 0]) ?_ 1 _ rfl; refine blk_put (cs := #[.int .i64 0,.string (⟨#[]⟩ : ByteArray),.string (⟨#[]⟩ : ByteArray),.int .i64 0,.int .i64 0]) ?_ 0 _ rfl; refine blk_far ?_ NB248_249.out _; refine blk_far ?_ NB248_249.out _; refine blk_far ?_ NB248_249.out _; refine blk_far ?_ NB248_249.out _; refine blk_far ?_ NB248_249.out _; exact BK248.out) Try.underlying35 rfl (by kernel_rfl)) rfl ?_;exact ⟨by rfl,by repeat (with_reducible first | exact HB.out | refine below_set ?_ GE248.out | refine below_set ?_ GE249.out)⟩

/-! ### impl_Wealth: function 26 -/
mutual
def impl_Wealth.l0 : Nat → Int → List (S63) → Int → Int → Option (Int)
 | 0,_,_,_,_ => none
 | k + 1,x3,x8,x9,x10 => if x10 < x9 then (if 0 ≤ x10 then (if x10 < (x8.length : Int) then (impl_Wealth.l1 k (wrap64 (x3 + (wrap64 (((rd_T63 x8 x10).f1) + ((rd_T63 x8 x10).f3))))) x8 x9 x10 ((rd_T63 x8 x10).f4) (((rd_T63 x8 x10).f4).length : Int) 0) else (none)) else (none)) else (some x3)
def impl_Wealth.l1 : Nat → Int → List (S63) → Int → Int → List (S65) → Int → Int → Option (Int)
 | 0,_,_,_,_,_,_,_ => none
 | k + 1,x3,x8,x9,x10,x22,x23,x24 => if x24 < x23 then (if 0 ≤ x24 then (if x24 < (x22.length : Int) then (impl_Wealth.l1 k (wrap64 (x3 + ((rd_T65 x22 x24).f0))) x8 x9 x10 x22 x23 (wrap64 (x24 + 1))) else (none)) else (none)) else (impl_Wealth.l0 k x3 x8 x9 (wrap64 (x10 + 1)))
end
def impl_Wealth.f (k : Nat) (l0 : List (S63)) : Option (Int) := impl_Wealth.l0 k 0 l0 (l0.length : Int) 0
theorem impl_Wealth.mono_l : ∀ k,(∀ y0 y1 y2 y3,LeO (impl_Wealth.l0 k y0 y1 y2 y3) (impl_Wealth.l0 (k + 1) y0 y1 y2 y3)) ∧ (∀ y0 y1 y2 y3 y4 y5 y6,LeO (impl_Wealth.l1 k y0 y1 y2 y3 y4 y5 y6) (impl_Wealth.l1 (k + 1) y0 y1 y2 y3 y4 y5 y6))
 | 0 => ⟨fun _ _ _ _ r h => by simp [impl_Wealth.l0] at h,fun _ _ _ _ _ _ _ r h => by simp [impl_Wealth.l1] at h⟩
 | k + 1 => by
  obtain ⟨ih0,ih1⟩ := impl_Wealth.mono_l k;refine ⟨?_,?_⟩
  ·intro y0 y1 y2 y3;unfold impl_Wealth.l0
   repeat' first
   | (with_reducible exact ih0 _ _ _ _)
   | (with_reducible exact ih1 _ _ _ _ _ _ _)
   | (with_reducible exact LeO.refl _)
   | (with_reducible exact LeO.none _)
   | (with_reducible refine LeO.ite ?_ ?_)
   | (with_reducible refine LeO.bind ?_ (fun _ => ?_))
   | exact ih0 _ _ _ _
   | exact ih1 _ _ _ _ _ _ _
   | exact LeO.none _
  ·intro y0 y1 y2 y3 y4 y5 y6;unfold impl_Wealth.l1
   repeat' first
   | (with_reducible exact ih0 _ _ _ _)
   | (with_reducible exact ih1 _ _ _ _ _ _ _)
   | (with_reducible exact LeO.refl _)
   | (with_reducible exact LeO.none _)
   | (with_reducible refine LeO.ite ?_ ?_)
   | (with_reducible refine LeO.bind ?_ (fun _ => ?_))
   | exact ih0 _ _ _ _
   | exact ih1 _ _ _ _ _ _ _
   | exact LeO.none _
theorem impl_Wealth.mono : ∀ a0 k,LeO (impl_Wealth.f k a0) (impl_Wealth.f (k + 1) a0) := by
 intro a0 k;obtain ⟨ih0,ih1⟩ := impl_Wealth.mono_l k;unfold impl_Wealth.f
 repeat' first
   | (with_reducible exact ih0 _ _ _ _)
   | (with_reducible exact ih1 _ _ _ _ _ _ _)
   | (with_reducible exact LeO.refl _)
   | (with_reducible exact LeO.none _)
   | (with_reducible refine LeO.ite ?_ ?_)
   | (with_reducible refine LeO.bind ?_ (fun _ => ?_))
   | exact ih0 _ _ _ _
   | exact ih1 _ _ _ _ _ _ _
   | exact LeO.none _
set_option maxHeartbeats 8000000 in
set_option maxRecDepth 100000 in
theorem impl_Wealth.calls (k : Nat) (A0 : Option Addr) (c0 : Nat) (l0 : List (S63)) (r : Int) (w : World) (hr0 : Kd.C k63 w A0 l0.length l0) (hc0 : l0.length ≤ c0) (h : impl_Wealth.f k l0 = some r) :
  Calls Try.prog 26 #[.slice A0 l0.length c0] w fun e w' => e = .returned (.int .i64 r) ∧ Below w.heap.size w w' := by
 have hu63 := Try.underlying63;have hu65 := Try.underlying65;have HR0 := Aside0.mk hr0;have HC0 := Aside0.mk hc0;clear hr0 hc0;have HB := Aside0.mk (Below.refl w.heap.size w);have H : (impl_Wealth.l0 k 0 l0 (l0.length : Int) 0) = some r := h;clear h;have H' := Aside0.mk H;clear H;go_enter Try.func26,Try.ntmps26;go_wp2
 go_loopg [3,10] k (fun kq v3 v10 w' => ∃ (x3_1 : Int) (x10_1 : Int),v3 = .int .i64 x3_1 ∧ v10 = .int .i64 x10_1 ∧ Aside0 (impl_Wealth.l0 kq x3_1 l0 (l0.length : Int) x10_1 = some r) ∧ Aside0 (kq ≤ k) ∧ Aside0 (Below w.heap.size w w'))
 case atStart => exact ⟨(0),(0),(by rfl),(by rfl),H',⟨Nat.le_refl _⟩,⟨HB.out⟩⟩
 case round =>
  clear H';obtain ⟨x3_1,x10_1,rfl,rfl,HA,HK1,HB⟩ := hrel
  cases gk with
  | zero => exact absurd HA.out (by simp [impl_Wealth.l0])
  | succ k1 =>
   have H := HA.out;clear HA;simp only [impl_Wealth.l0] at H
   by_cases c2 : x10_1 < (l0.length : Int)
   ·rw [if_pos c2] at H;have c2b0 : decide (x10_1 < (l0.length : Int)) = true := decide_eq_true c2;clear c2
    by_cases c3 : 0 ≤ x10_1
    ·rw [if_pos c3] at H;have c3b0 : decide (0 ≤ x10_1) = true := decide_eq_true c3;clear c3
     by_cases c4 : x10_1 < (l0.length : Int)
     ·rw [if_pos c4] at H;have c4b0 : decide (x10_1 < (l0.length : Int)) = true := decide_eq_true c4;clear c4;have H' := Aside0.mk H;clear H;have p250 : 0 ≤ (x10_1 : Int) := of_decide_eq_true (by (with_reducible assumption));have q250 : x10_1 < (l0.length : Int) := of_decide_eq_true (by (with_reducible assumption));obtain ⟨ad250,A250_4,c250_4,e250,hx250_0,hx250_1,hx250_2,hx250_3,hx250_4,hl250_4,hi250_4⟩ := at_T63 HR0.out x10_1 p250 q250
      cases e250
      replace hx250_0 := (HB.out.cell (World.block_lt_of_cell? w _ hx250_0)).trans hx250_0;replace hx250_1 := (HB.out.cell (World.block_lt_of_cell? w _ hx250_1)).trans hx250_1;replace hx250_2 := (HB.out.cell (World.block_lt_of_cell? w _ hx250_2)).trans hx250_2;replace hx250_3 := (HB.out.cell (World.block_lt_of_cell? w _ hx250_3)).trans hx250_3;replace hx250_4 := (HB.out.cell (World.block_lt_of_cell? w _ hx250_4)).trans hx250_4;have HR250_4 := Aside0.mk hi250_4;have HC250_4 := Aside0.mk hl250_4;clear hi250_4 hl250_4;replace p250 := eq_true p250;replace q250 := eq_true q250
      go_wp2_with (((with_reducible refine gate_dst (N := 5) rfl ?_); refine box_event ?hg (N := 5) ?hd (cs := #[.string (⟨#[]⟩ : ByteArray),.int .i64 0,.int .i64 0,.int .i64 0,.slice none 0 0]) (t := 63) ?hr ?_; (case hd => rfl); (case hg => rfl); (case hr => (go_simp; done)); intro gb251 hg w5 hbox hb; have n0_ := Aside0.mk (below_step HB.out hb); have n1_ := Aside0.mk (hbox); have n2_ := Aside0.mk (by rw [hg]; exact (below_size HB.out) : w.heap.size ≤ gb251); have n3_ := Aside0.mk (by rw [hg]; exact (below_size HB.out) : w.heap.size ≤ gb251); clear HB; have HB := n0_; have BK251 := n1_; have GW251 := n2_; have GE251 := n3_; clear n0_ n1_ n2_ n3_; clear hb hbox hg; have hcz6_0 : w5.cell? ⟨gb251,0,none⟩ = some (.string (⟨#[]⟩ : ByteArray)) := (blk_cell BK251.out 0).trans rfl; have hcz6_1 : w5.cell? ⟨gb251,1,none⟩ = some (.int .i64 0) := (blk_cell BK251.out 1).trans rfl; have hcz6_2 : w5.cell? ⟨gb251,2,none⟩ = some (.int .i64 0) := (blk_cell BK251.out 2).trans rfl; have hcz6_3 : w5.cell? ⟨gb251,3,none⟩ = some (.int .i64 0) := (blk_cell BK251.out 3).trans rfl; have hcz6_4 : w5.cell? ⟨gb251,4,none⟩ = some (.slice none 0 0) := (blk_cell BK251.out 4).trans rfl; have hfz6_0 := blk_frozen BK251.out 0; have hfz6_1 := blk_frozen BK251.out 1; have hfz6_2 := blk_frozen BK251.out 2; have hfz6_3 := blk_frozen BK251.out 3; have hfz6_4 := blk_frozen BK251.out 4))
      go_loopg [3,24] k1 (fun kq v3 v24 w' => ∃ (x3_2 : Int) (x24_2 : Int),v3 = .int .i64 x3_2 ∧ v24 = .int .i64 x24_2 ∧ Aside0 (impl_Wealth.l1 kq x3_2 l0 (l0.length : Int) x10_1 ((rd_T63 l0 x10_1).f4) (((rd_T63 l0 x10_1).f4).length : Int) x24_2 = some r) ∧ Aside0 (kq ≤ k1) ∧ Aside0 (w'.heap[gb251]? = some (.cells #[.string ((rd_T63 l0 x10_1).f0),.int .i64 ((rd_T63 l0 x10_1).f1),.int .i64 ((rd_T63 l0 x10_1).f2),.int .i64 ((rd_T63 l0 x10_1).f3),(.slice A250_4 ((rd_T63 l0 x10_1).f4).length c250_4)] 63 (0,0))) ∧ Aside0 (Below w.heap.size w w'))
      case atStart => exact ⟨(wrap64 (x3_1 + (wrap64 (((rd_T63 l0 x10_1).f1) + ((rd_T63 l0 x10_1).f3))))),(0),(by rfl),(by rfl),H',⟨Nat.le_refl _⟩,⟨by refine blk_put (cs := #[.string ((rd_T63 l0 x10_1).f0),.int .i64 ((rd_T63 l0 x10_1).f1),.int .i64 ((rd_T63 l0 x10_1).f2),.int .i64 ((rd_T63 l0 x10_1).f3),.slice none 0 0]) ?_ 4 _ rfl; refine blk_put (cs := #[.string ((rd_T63 l0 x10_1).f0),.int .i64 ((rd_T63 l0 x10_1).f1),.int .i64 ((rd_T63 l0 x10_1).f2),.int .i64 0,.slice none 0 0]) ?_ 3 _ rfl; refine blk_put (cs := #[.string ((rd_T63 l0 x10_1).f0),.int .i64 ((rd_T63 l0 x10_1).f1),.int .i64 0,.int .i64 0,.slice none 0 0]) ?_ 2 _ rfl; refine blk_put (cs := #[.string ((rd_T63 l0 x10_1).f0),.int .i64 0,.int .i64 0,.int .i64 0,.slice none 0 0]) ?_ 1 _ rfl; refine blk_put (cs := #[.string (⟨#[]⟩ : ByteArray),.int .i64 0,.int .i64 0,.int .i64 0,.slice none 0 0]) ?_ 0 _ rfl; exact BK251.out⟩,⟨by repeat (with_reducible first | exact HB.out | refine below_set ?_ GE251.out)⟩⟩
      case round =>
       clear H'
       try clear c2
       try clear c2b0
       try clear p2
       try clear q2
       try clear hx2
       try clear c3
       try clear c3b0
       try clear c4
       try clear c4b0
       try clear p6
       try clear hcz6_0
       try clear hcz6_1
       try clear hcz6_2
       try clear hcz6_3
       try clear hcz6_4
       try clear hfz6_0
       try clear hfz6_1
       try clear hfz6_2
       try clear hfz6_3
       try clear hfz6_4
       try clear hx250_0
       try clear hx250_1
       try clear hx250_2
       try clear hx250_3
       try clear hx250_4
       try clear p250
       try clear q250
       obtain ⟨x3_2,x24_2,rfl,rfl,HA,HK2,BK251,HB⟩ := hrel
       cases gk with
       | zero => exact absurd HA.out (by simp [impl_Wealth.l1])
       | succ k2 =>
        have H := HA.out;clear HA;simp only [impl_Wealth.l1] at H
        by_cases c7 : x24_2 < (((rd_T63 l0 x10_1).f4).length : Int)
        ·rw [if_pos c7] at H;have c7b0 : decide (x24_2 < (((rd_T63 l0 x10_1).f4).length : Int)) = true := decide_eq_true c7;clear c7
         by_cases c8 : 0 ≤ x24_2
         ·rw [if_pos c8] at H;have c8b0 : decide (0 ≤ x24_2) = true := decide_eq_true c8;clear c8
          by_cases c9 : x24_2 < (((rd_T63 l0 x10_1).f4).length : Int)
          ·rw [if_pos c9] at H;have c9b0 : decide (x24_2 < (((rd_T63 l0 x10_1).f4).length : Int)) = true := decide_eq_true c9;clear c9;have H' := Aside0.mk H;clear H;have p252 : 0 ≤ (x24_2 : Int) := of_decide_eq_true (by (with_reducible assumption));have q252 : x24_2 < (((rd_T63 l0 x10_1).f4).length : Int) := of_decide_eq_true (by (with_reducible assumption));obtain ⟨ad252,e252,hx252_0,hx252_1⟩ := at_T65 HR250_4.out x24_2 p252 q252
           cases e252
           replace hx252_0 := (HB.out.cell (World.block_lt_of_cell? w _ hx252_0)).trans hx252_0;replace hx252_1 := (HB.out.cell (World.block_lt_of_cell? w _ hx252_1)).trans hx252_1;replace p252 := eq_true p252;replace q252 := eq_true q252
           go_wp2_with (((with_reducible refine gate_dst (N := 7) rfl ?_); refine box_event ?hg (N := 7) ?hd (cs := #[.int .i64 0,.int .i64 0]) (t := 65) ?hr ?_; (case hd => rfl); (case hg => rfl); (case hr => (go_simp; done)); intro gb253 hg w10 hbox hb; have n0_ := Aside0.mk (blk_below (g := gb251) (o := .cells #[.string ((rd_T63 l0 x10_1).f0),.int .i64 ((rd_T63 l0 x10_1).f1),.int .i64 ((rd_T63 l0 x10_1).f2),.int .i64 ((rd_T63 l0 x10_1).f3),.slice (some ad252) ((rd_T63 l0 x10_1).f4).length c250_4] 63 (0,0)) (by exact BK251.out) hb); have n1_ := Aside0.mk (below_step HB.out hb); have n2_ := Aside0.mk (hbox); have n3_ := Aside0.mk (by rw [hg]; exact (below_size HB.out) : w.heap.size ≤ gb253); have n4_ := Aside0.mk (by rw [hg]; exact (below_size HB.out) : w.heap.size ≤ gb253); have n5_ := Aside0.mk (by rw [hg]; exact Nat.ne_of_lt (blk_lt (g := gb251) (o := .cells #[.string ((rd_T63 l0 x10_1).f0),.int .i64 ((rd_T63 l0 x10_1).f1),.int .i64 ((rd_T63 l0 x10_1).f2),.int .i64 ((rd_T63 l0 x10_1).f3),.slice (some ad252) ((rd_T63 l0 x10_1).f4).length c250_4] 63 (0,0)) (by exact BK251.out)) : gb251 ≠ gb253); have n6_ := Aside0.mk (by rw [hg]; exact Nat.ne_of_gt (blk_lt (g := gb251) (o := .cells #[.string ((rd_T63 l0 x10_1).f0),.int .i64 ((rd_T63 l0 x10_1).f1),.int .i64 ((rd_T63 l0 x10_1).f2),.int .i64 ((rd_T63 l0 x10_1).f3),.slice (some ad252) ((rd_T63 l0 x10_1).f4).length c250_4] 63 (0,0)) (by exact BK251.out)) : gb253 ≠ gb251); clear BK251; clear HB; have BK251 := n0_; have HB := n1_; have BK253 := n2_; have GW253 := n3_; have GE253 := n4_; have NB251_253 := n5_; have NB253_251 := n6_; clear n0_ n1_ n2_ n3_ n4_ n5_ n6_; clear hb hbox hg; have hnb11 := NB253_251.out; have hnc11 := NB251_253.out; have hcz12_0 : w10.cell? ⟨gb253,0,none⟩ = some (.int .i64 0) := (blk_cell BK253.out 0).trans rfl; have hcz12_1 : w10.cell? ⟨gb253,1,none⟩ = some (.int .i64 0) := (blk_cell BK253.out 1).trans rfl; have hfz12_0 := blk_frozen BK253.out 0; have hfz12_1 := blk_frozen BK253.out 1))
           go_roundg k2
           case measure => have := HK1.out; have := HK2.out; omega
           case rel => exact ⟨(wrap64 (x3_2 + ((rd_T65 ((rd_T63 l0 x10_1).f4) x24_2).f0))),(wrap64 (x24_2 + 1)),(by rfl),(by rfl),H',⟨by have := HK1.out; have := HK2.out; omega⟩,⟨by refine blk_far ?_ NB251_253.out _; refine blk_far ?_ NB251_253.out _; exact BK251.out⟩,⟨by repeat (with_reducible first | exact HB.out | refine below_set ?_ GE253.out)⟩⟩
          ·rw [if_neg c9] at H;exact absurd H (by simp)
         ·rw [if_neg c8] at H;exact absurd H (by simp)
        ·rw [if_neg c7] at H;have c7b0 : decide (x24_2 < (((rd_T63 l0 x10_1).f4).length : Int)) = false := decide_eq_false c7;clear c7;have H' := Aside0.mk H;clear H;go_wp2
         go_roundg k2
         case measure => have := HK1.out; have := HK2.out; omega
         case rel => exact ⟨(x3_2),(wrap64 (x10_1 + 1)),(by rfl),(by rfl),H',⟨by have := HK1.out; have := HK2.out; omega⟩,⟨HB.out⟩⟩
     ·rw [if_neg c4] at H;exact absurd H (by simp)
    ·rw [if_neg c3] at H;exact absurd H (by simp)
   ·rw [if_neg c2] at H;have c2b0 : decide (x10_1 < (l0.length : Int)) = false := decide_eq_false c2;clear c2;obtain rfl := Option.some.inj H;go_wp2;go_ret;exact ⟨by rfl,HB.out⟩

/-! ### impl_inRange: function 69 -/
def impl_inRange.f (a0 : Int) (a1 : Int) (a2 : Int) : Option (Bool) := if a0 ≥ a1 then (some (decide (a0 ≤ a2))) else (some false)
set_option maxHeartbeats 8000000 in
set_option maxRecDepth 100000 in
theorem impl_inRange.calls (a0 : Int) (a1 : Int) (a2 : Int) (r : Bool) (w : World) (h : impl_inRange.f a0 a1 a2 = some r) :
  Calls Try.prog 69 #[.int .i64 a0,.int .i64 a1,.int .i64 a2] w fun e w' => e = .returned (.bool r) ∧ Drawn0 w w' := by
 have H : (if a0 ≥ a1 then (some (decide (a0 ≤ a2))) else (some false)) = some r := h;clear h
 by_cases c4 : a0 ≥ a1
 ·rw [if_pos c4] at H;have c4b0 : decide (a1 ≤ a0) = true := decide_eq_true c4;clear c4;obtain rfl := Option.some.inj H;go_enter Try.func69,Try.ntmps69;go_wp2;go_ret;exact ⟨by rfl,by repeat (exact Drawn0.refl _)⟩
 ·rw [if_neg c4] at H;have c4b0 : decide (a1 ≤ a0) = false := decide_eq_false c4;clear c4;obtain rfl := Option.some.inj H;go_enter Try.func69,Try.ntmps69;go_wp2;go_ret;exact ⟨by rfl,by repeat (exact Drawn0.refl _)⟩

/-! ### impl_isAmount: function 85 -/
def impl_isAmount.f (a0 : Int) : Option (Bool) := (impl_inRange.f a0 0 1000000).bind fun t254 => (some t254)
set_option maxHeartbeats 8000000 in
set_option maxRecDepth 100000 in
theorem impl_isAmount.calls (a0 : Int) (r : Bool) (w : World) (h : impl_isAmount.f a0 = some r) :
  Calls Try.prog 85 #[.int .i64 a0] w fun e w' => e = .returned (.bool r) ∧ Drawn0 w w' := by
 have H : ((impl_inRange.f a0 0 1000000).bind fun t254 => (some t254)) = some r := h;clear h;replace H := Option.bind_eq_some_iff.mp H;obtain ⟨t254,A20,H⟩ := H;replace H : (some t254) = some r := H;have A2 := Aside0.mk A20;clear A20;obtain rfl := Option.some.inj H;go_enter Try.func85,Try.ntmps85
 go_wp2_with (((with_reducible refine gate_callee (f := 69) rfl ?_); refine goesL_ (some 4) rfl rfl Try.func69 (by kernel_rfl) rfl #[.int .i64 a0,.int .i64 0,.int .i64 1000000] rfl (by (try simp only [List.map_toArray,List.map_cons,List.map_nil]); rfl) ?_; (with_reducible refine (impl_inRange.calls a0 0 1000000 t254 _ A2.out).mono ?_); rintro e w' ⟨rfl,⟨nd,rfl⟩⟩; refine ⟨_,rfl,?_⟩))
 go_ret;exact ⟨by rfl,by repeat (first | exact Drawn0.refl _ | apply Drawn0.step)⟩

/-! ### impl_NameOk: function 86 -/
def impl_NameOk.l0 : Nat → ByteArray → Int → Option (Bool)
 | 0,_,_ => none
 | k + 1,x0,x3 => if x3 < (x0.size : Int) then (if 0 ≤ x3 then (if (bt x0 x3) ≥ 97 then (if (bt x0 x3) ≤ 122 then (impl_NameOk.l0 k x0 (wrap64 (x3 + 1))) else (if (bt x0 x3) ≥ 48 then (if ((bt x0 x3) ≤ 57) then (impl_NameOk.l0 k x0 (wrap64 (x3 + 1))) else (some false)) else (some false))) else (if (bt x0 x3) ≥ 48 then (if ((bt x0 x3) ≤ 57) then (impl_NameOk.l0 k x0 (wrap64 (x3 + 1))) else (some false)) else (some false))) else (none)) else ((impl_inRange.f (x0.size : Int) 1 8).bind fun t255 => (some t255))
def impl_NameOk.f (k : Nat) (a0 : ByteArray) : Option (Bool) := impl_NameOk.l0 k a0 0
theorem impl_NameOk.mono_l : ∀ k,(∀ y0 y1,LeO (impl_NameOk.l0 k y0 y1) (impl_NameOk.l0 (k + 1) y0 y1))
 | 0 => fun _ _ r h => by simp [impl_NameOk.l0] at h
 | k + 1 => by
  have ih0 := impl_NameOk.mono_l k
  ·intro y0 y1;unfold impl_NameOk.l0
   repeat' first
   | (with_reducible exact ih0 _ _)
   | (with_reducible exact LeO.refl _)
   | (with_reducible exact LeO.none _)
   | (with_reducible refine LeO.ite ?_ ?_)
   | (with_reducible refine LeO.bind ?_ (fun _ => ?_))
   | exact ih0 _ _
   | exact LeO.none _
theorem impl_NameOk.mono : ∀ a0 k,LeO (impl_NameOk.f k a0) (impl_NameOk.f (k + 1) a0) := by
 intro a0 k;have ih0 := impl_NameOk.mono_l k;unfold impl_NameOk.f
 repeat' first
   | (with_reducible exact ih0 _ _)
   | (with_reducible exact LeO.refl _)
   | (with_reducible exact LeO.none _)
   | (with_reducible refine LeO.ite ?_ ?_)
   | (with_reducible refine LeO.bind ?_ (fun _ => ?_))
   | exact ih0 _ _
   | exact LeO.none _
set_option maxHeartbeats 8000000 in
set_option maxRecDepth 100000 in
theorem impl_NameOk.calls (k : Nat) (a0 : ByteArray) (r : Bool) (w : World) (h : impl_NameOk.f k a0 = some r) :
  Calls Try.prog 86 #[.string a0] w fun e w' => e = .returned (.bool r) ∧ Drawn0 w w' := by
 have H : (impl_NameOk.l0 k a0 0) = some r := h;clear h;have H' := Aside0.mk H;clear H;go_enter Try.func86,Try.ntmps86;go_wp2
 go_loopg [3] k (fun kq v3 w' => ∃ (x3_1 : Int),v3 = .int .i64 x3_1 ∧ Aside0 (impl_NameOk.l0 kq a0 x3_1 = some r) ∧ Aside0 (kq ≤ k) ∧ Drawn0 w w')
 case atStart => exact ⟨(0),(by rfl),H',⟨Nat.le_refl _⟩,by repeat (exact Drawn0.refl _)⟩
 case round =>
  clear H';obtain ⟨x3_1,rfl,HA,HK1,⟨m1,rfl⟩⟩ := hrel
  cases gk with
  | zero => exact absurd HA.out (by simp [impl_NameOk.l0])
  | succ k1 =>
   have H := HA.out;clear HA;simp only [impl_NameOk.l0] at H
   by_cases c2 : x3_1 < (a0.size : Int)
   ·rw [if_pos c2] at H;have c2b0 : decide (x3_1 < (a0.size : Int)) = true := decide_eq_true c2;clear c2
    by_cases c3 : 0 ≤ x3_1
    ·rw [if_pos c3] at H;have c3b0 : decide (0 ≤ x3_1) = true := decide_eq_true c3;clear c3
     by_cases c5 : (bt a0 x3_1) ≥ 97
     ·rw [if_pos c5] at H;have c5b0 : decide (97 ≤ (bt a0 x3_1)) = true := decide_eq_true c5;clear c5
      by_cases c7 : (bt a0 x3_1) ≤ 122
      ·rw [if_pos c7] at H;have c7b0 : decide ((bt a0 x3_1) ≤ 122) = true := decide_eq_true c7;clear c7;have H' := Aside0.mk H;clear H;have p4 : 0 ≤ (x3_1 : Int) := of_decide_eq_true (by (with_reducible assumption));have q4 : x3_1 < (a0.size : Int) := of_decide_eq_true (by (with_reducible assumption));have hx4 := bt_at a0 x3_1;replace p4 := eq_true p4;replace q4 := eq_true q4;have p6 : 0 ≤ (x3_1 : Int) := of_decide_eq_true (by (with_reducible assumption));have q6 : x3_1 < (a0.size : Int) := of_decide_eq_true (by (with_reducible assumption));have hx6 := bt_at a0 x3_1;replace p6 := eq_true p6;replace q6 := eq_true q6;go_wp2
       go_roundg k1
       case measure => have := HK1.out; omega
       case rel => exact ⟨(wrap64 (x3_1 + 1)),(by rfl),H',⟨by have := HK1.out; omega⟩,by repeat (first | exact Drawn0.refl _ | apply Drawn0.step)⟩
      ·rw [if_neg c7] at H;have c7b0 : decide ((bt a0 x3_1) ≤ 122) = false := decide_eq_false c7;clear c7
       by_cases c9 : (bt a0 x3_1) ≥ 48
       ·rw [if_pos c9] at H;have c9b0 : decide (48 ≤ (bt a0 x3_1)) = true := decide_eq_true c9;clear c9
        by_cases c11 : ((bt a0 x3_1) ≤ 57)
        ·rw [if_pos c11] at H;have c11b0 : decide ((bt a0 x3_1) ≤ 57) = true := decide_eq_true c11;clear c11;have H' := Aside0.mk H;clear H;have p4 : 0 ≤ (x3_1 : Int) := of_decide_eq_true (by (with_reducible assumption));have q4 : x3_1 < (a0.size : Int) := of_decide_eq_true (by (with_reducible assumption));have hx4 := bt_at a0 x3_1;replace p4 := eq_true p4;replace q4 := eq_true q4;have p6 : 0 ≤ (x3_1 : Int) := of_decide_eq_true (by (with_reducible assumption));have q6 : x3_1 < (a0.size : Int) := of_decide_eq_true (by (with_reducible assumption));have hx6 := bt_at a0 x3_1;replace p6 := eq_true p6;replace q6 := eq_true q6;have p8 : 0 ≤ (x3_1 : Int) := of_decide_eq_true (by (with_reducible assumption));have q8 : x3_1 < (a0.size : Int) := of_decide_eq_true (by (with_reducible assumption));have hx8 := bt_at a0 x3_1;replace p8 := eq_true p8;replace q8 := eq_true q8;have p10 : 0 ≤ (x3_1 : Int) := of_decide_eq_true (by (with_reducible assumption));have q10 : x3_1 < (a0.size : Int) := of_decide_eq_true (by (with_reducible assumption));have hx10 := bt_at a0 x3_1;replace p10 := eq_true p10;replace q10 := eq_true q10;go_wp2
         go_roundg k1
         case measure => have := HK1.out; omega
         case rel => exact ⟨(wrap64 (x3_1 + 1)),(by rfl),H',⟨by have := HK1.out; omega⟩,by repeat (first | exact Drawn0.refl _ | apply Drawn0.step)⟩
        ·rw [if_neg c11] at H;have c11b0 : decide ((bt a0 x3_1) ≤ 57) = false := decide_eq_false c11;clear c11;obtain rfl := Option.some.inj H;have p4 : 0 ≤ (x3_1 : Int) := of_decide_eq_true (by (with_reducible assumption));have q4 : x3_1 < (a0.size : Int) := of_decide_eq_true (by (with_reducible assumption));have hx4 := bt_at a0 x3_1;replace p4 := eq_true p4;replace q4 := eq_true q4;have p6 : 0 ≤ (x3_1 : Int) := of_decide_eq_true (by (with_reducible assumption));have q6 : x3_1 < (a0.size : Int) := of_decide_eq_true (by (with_reducible assumption));have hx6 := bt_at a0 x3_1;replace p6 := eq_true p6;replace q6 := eq_true q6;have p8 : 0 ≤ (x3_1 : Int) := of_decide_eq_true (by (with_reducible assumption));have q8 : x3_1 < (a0.size : Int) := of_decide_eq_true (by (with_reducible assumption));have hx8 := bt_at a0 x3_1;replace p8 := eq_true p8;replace q8 := eq_true q8;have p10 : 0 ≤ (x3_1 : Int) := of_decide_eq_true (by (with_reducible assumption));have q10 : x3_1 < (a0.size : Int) := of_decide_eq_true (by (with_reducible assumption));have hx10 := bt_at a0 x3_1;replace p10 := eq_true p10;replace q10 := eq_true q10;go_wp2;go_ret;exact ⟨by rfl,by repeat (first | exact Drawn0.refl _ | apply Drawn0.step)⟩
       ·rw [if_neg c9] at H;have c9b0 : decide (48 ≤ (bt a0 x3_1)) = false := decide_eq_false c9;clear c9;obtain rfl := Option.some.inj H;have p4 : 0 ≤ (x3_1 : Int) := of_decide_eq_true (by (with_reducible assumption));have q4 : x3_1 < (a0.size : Int) := of_decide_eq_true (by (with_reducible assumption));have hx4 := bt_at a0 x3_1;replace p4 := eq_true p4;replace q4 := eq_true q4;have p6 : 0 ≤ (x3_1 : Int) := of_decide_eq_true (by (with_reducible assumption));have q6 : x3_1 < (a0.size : Int) := of_decide_eq_true (by (with_reducible assumption));have hx6 := bt_at a0 x3_1;replace p6 := eq_true p6;replace q6 := eq_true q6;have p8 : 0 ≤ (x3_1 : Int) := of_decide_eq_true (by (with_reducible assumption));have q8 : x3_1 < (a0.size : Int) := of_decide_eq_true (by (with_reducible assumption));have hx8 := bt_at a0 x3_1;replace p8 := eq_true p8;replace q8 := eq_true q8;go_wp2;go_ret;exact ⟨by rfl,by repeat (first | exact Drawn0.refl _ | apply Drawn0.step)⟩
     ·rw [if_neg c5] at H;have c5b0 : decide (97 ≤ (bt a0 x3_1)) = false := decide_eq_false c5;clear c5
      by_cases c13 : (bt a0 x3_1) ≥ 48
      ·rw [if_pos c13] at H;have c13b0 : decide (48 ≤ (bt a0 x3_1)) = true := decide_eq_true c13;clear c13
       by_cases c15 : ((bt a0 x3_1) ≤ 57)
       ·rw [if_pos c15] at H;have c15b0 : decide ((bt a0 x3_1) ≤ 57) = true := decide_eq_true c15;clear c15;have H' := Aside0.mk H;clear H;have p4 : 0 ≤ (x3_1 : Int) := of_decide_eq_true (by (with_reducible assumption));have q4 : x3_1 < (a0.size : Int) := of_decide_eq_true (by (with_reducible assumption));have hx4 := bt_at a0 x3_1;replace p4 := eq_true p4;replace q4 := eq_true q4;have p12 : 0 ≤ (x3_1 : Int) := of_decide_eq_true (by (with_reducible assumption));have q12 : x3_1 < (a0.size : Int) := of_decide_eq_true (by (with_reducible assumption));have hx12 := bt_at a0 x3_1;replace p12 := eq_true p12;replace q12 := eq_true q12;have p14 : 0 ≤ (x3_1 : Int) := of_decide_eq_true (by (with_reducible assumption));have q14 : x3_1 < (a0.size : Int) := of_decide_eq_true (by (with_reducible assumption));have hx14 := bt_at a0 x3_1;replace p14 := eq_true p14;replace q14 := eq_true q14;go_wp2
        go_roundg k1
        case measure => have := HK1.out; omega
        case rel => exact ⟨(wrap64 (x3_1 + 1)),(by rfl),H',⟨by have := HK1.out; omega⟩,by repeat (first | exact Drawn0.refl _ | apply Drawn0.step)⟩
       ·rw [if_neg c15] at H;have c15b0 : decide ((bt a0 x3_1) ≤ 57) = false := decide_eq_false c15;clear c15;obtain rfl := Option.some.inj H;have p4 : 0 ≤ (x3_1 : Int) := of_decide_eq_true (by (with_reducible assumption));have q4 : x3_1 < (a0.size : Int) := of_decide_eq_true (by (with_reducible assumption));have hx4 := bt_at a0 x3_1;replace p4 := eq_true p4;replace q4 := eq_true q4;have p12 : 0 ≤ (x3_1 : Int) := of_decide_eq_true (by (with_reducible assumption));have q12 : x3_1 < (a0.size : Int) := of_decide_eq_true (by (with_reducible assumption));have hx12 := bt_at a0 x3_1;replace p12 := eq_true p12;replace q12 := eq_true q12;have p14 : 0 ≤ (x3_1 : Int) := of_decide_eq_true (by (with_reducible assumption));have q14 : x3_1 < (a0.size : Int) := of_decide_eq_true (by (with_reducible assumption));have hx14 := bt_at a0 x3_1;replace p14 := eq_true p14;replace q14 := eq_true q14;go_wp2;go_ret;exact ⟨by rfl,by repeat (first | exact Drawn0.refl _ | apply Drawn0.step)⟩
      ·rw [if_neg c13] at H;have c13b0 : decide (48 ≤ (bt a0 x3_1)) = false := decide_eq_false c13;clear c13;obtain rfl := Option.some.inj H;have p4 : 0 ≤ (x3_1 : Int) := of_decide_eq_true (by (with_reducible assumption));have q4 : x3_1 < (a0.size : Int) := of_decide_eq_true (by (with_reducible assumption));have hx4 := bt_at a0 x3_1;replace p4 := eq_true p4;replace q4 := eq_true q4;have p12 : 0 ≤ (x3_1 : Int) := of_decide_eq_true (by (with_reducible assumption));have q12 : x3_1 < (a0.size : Int) := of_decide_eq_true (by (with_reducible assumption));have hx12 := bt_at a0 x3_1;replace p12 := eq_true p12;replace q12 := eq_true q12;go_wp2;go_ret;exact ⟨by rfl,by repeat (first | exact Drawn0.refl _ | apply Drawn0.step)⟩
    ·rw [if_neg c3] at H;exact absurd H (by simp)
   ·rw [if_neg c2] at H;have c2b0 : decide (x3_1 < (a0.size : Int)) = false := decide_eq_false c2;clear c2;replace H := Option.bind_eq_some_iff.mp H;obtain ⟨t255,A160,H⟩ := H;replace H : (some t255) = some r := H;have A16 := Aside0.mk A160;clear A160;obtain rfl := Option.some.inj H
    go_wp2_with (((with_reducible refine gate_callee (f := 69) rfl ?_); refine goesL_ (some 35) rfl rfl Try.func69 (by kernel_rfl) rfl #[.int .i64 (a0.size : Int),.int .i64 1,.int .i64 8] rfl (by (try simp only [List.map_toArray,List.map_cons,List.map_nil]); rfl) ?_; (with_reducible refine (impl_inRange.calls (a0.size : Int) 1 8 t255 _ A16.out).mono ?_); rintro e w' ⟨rfl,⟨nd,rfl⟩⟩; refine ⟨_,rfl,?_⟩))
    go_ret;exact ⟨by rfl,by repeat (first | exact Drawn0.refl _ | apply Drawn0.step)⟩

end Go.Proofs.Ytcbpfofkdipjhaa.PL
