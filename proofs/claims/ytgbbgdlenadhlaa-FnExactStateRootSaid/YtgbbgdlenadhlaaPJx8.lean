/- The machine's side of Go functions: each as a plain function,and that the call does what it says. Written by a program (wip/mprint). -/
import Derived.Test.YtgbbgdlenadhlaaPJx0
import Derived.Test.YtgbbgdlenadhlaaPJx6
import Derived.Test.YtgbbgdlenadhlaaPJx7
namespace Go.Proofs.Ytgbbgdlenadhlaa.PJ
open Go.RowKit Go.Proofs.YtgbbgdlenadhlaaW.PrintWords Go.Proofs.YtgbbgdlenadhlaaW.PrintLast Go.Proofs.YtgbbgdlenadhlaaW.PrintMore
attribute [local wf_preprocess] Act.put List.setIfInBounds_toArray List.set_cons_zero List.set_cons_succ i64_w i32_w
attribute [local go_sem] max2_int min2_int max_two min_two max_three min_three max_four min_four   -- for this text's walks alone
set_option linter.unusedVariables false
set_option linter.unusedSimpArgs false

/-! ### spec_l2Block: function 53 -/
mutual
def spec_l2Block.l0 : Nat → List Int → List Int → List Int → List Int → Int → Option (List Int)
 | 0,_,_,_,_,_ => none
 | k + 1,x0,x2,x7,x8,x9 => if x9 < 64 then (if 4 < (x8.length : Int) then ((spec_l2Turn.f (rd x8 4) 6).bind fun t261 => ((spec_l2Turn.f (rd x8 4) 11).bind fun t262 => ((spec_l2Turn.f (rd x8 4) 25).bind fun t263 => (if 5 < (x8.length : Int) then (if 6 < (x8.length : Int) then (if 7 < (x8.length : Int) then (if 0 ≤ x9 then (if x9 < (x2.length : Int) then (if x9 < (x7.length : Int) then (if 0 < (x8.length : Int) then ((spec_l2Turn.f (rd x8 0) 2).bind fun t270 => ((spec_l2Turn.f (rd x8 0) 13).bind fun t271 => ((spec_l2Turn.f (rd x8 0) 22).bind fun t272 => (if 1 < (x8.length : Int) then (if 2 < (x8.length : Int) then (if 3 < (x8.length : Int) then (spec_l2Block.l0 k x0 x2 x7 ([Go.bits .and .i64 (wrap64 ((wrap64 ((wrap64 ((wrap64 ((wrap64 ((rd x8 7) + (Go.bits .xor .i64 (Go.bits .xor .i64 t261 t262) t263))) + (Go.bits .xor .i64 (Go.bits .and .i64 (rd x8 4) (rd x8 5)) (Go.bits .and .i64 (Go.bits .xor .i64 4294967295 (rd x8 4)) (rd x8 6))))) + (rd x2 x9))) + (rd x7 x9))) + (wrap64 ((Go.bits .xor .i64 (Go.bits .xor .i64 t270 t271) t272) + (Go.bits .xor .i64 (Go.bits .xor .i64 (Go.bits .and .i64 (rd x8 0) (rd x8 1)) (Go.bits .and .i64 (rd x8 0) (rd x8 2))) (Go.bits .and .i64 (rd x8 1) (rd x8 2))))))) 4294967295,rd x8 0,rd x8 1,rd x8 2,Go.bits .and .i64 (wrap64 ((rd x8 3) + (wrap64 ((wrap64 ((wrap64 ((wrap64 ((rd x8 7) + (Go.bits .xor .i64 (Go.bits .xor .i64 t261 t262) t263))) + (Go.bits .xor .i64 (Go.bits .and .i64 (rd x8 4) (rd x8 5)) (Go.bits .and .i64 (Go.bits .xor .i64 4294967295 (rd x8 4)) (rd x8 6))))) + (rd x2 x9))) + (rd x7 x9))))) 4294967295,rd x8 4,rd x8 5,rd x8 6] : List Int) (wrap64 (x9 + 1))) else (none)) else (none)) else (none))))) else (none)) else (none)) else (none)) else (none)) else (none)) else (none)) else (none))))) else (none)) else (spec_l2Block.l1 k x0 x8 0)
def spec_l2Block.l1 : Nat → List Int → List Int → Int → Option (List Int)
 | 0,_,_,_ => none
 | k + 1,x0,x8,x18 => if x18 < 8 then (if 0 ≤ x18 then (if x18 < (x8.length : Int) then (if x18 < (x0.length : Int) then (spec_l2Block.l1 k x0 (x8.set (x18 : Int).toNat (Go.bits .and .i64 (wrap64 ((rd x8 x18) + (rd x0 x18))) 4294967295)) (wrap64 (x18 + 1))) else (none)) else (none)) else (none)) else (some x8)
end
def spec_l2Block.f (k : Nat) (l0 : List Int) (l1 : List Int) (l2 : List Int) : Option (List Int) := (spec_l2Words.f k l1).bind fun t251 => ((some (([] : List Int) : List Int)).bind fun y254 => (if y254.length + l0.length < 17592186044416 then (spec_l2Block.l0 k l0 l2 t251 (y254 ++ l0) 0) else (none)))
theorem spec_l2Block.mono_l : ∀ k,(∀ y0 y1 y2 y3 y4,LeO (spec_l2Block.l0 k y0 y1 y2 y3 y4) (spec_l2Block.l0 (k + 1) y0 y1 y2 y3 y4)) ∧ (∀ y0 y1 y2,LeO (spec_l2Block.l1 k y0 y1 y2) (spec_l2Block.l1 (k + 1) y0 y1 y2))
 | 0 => ⟨fun _ _ _ _ _ r h => by simp [spec_l2Block.l0] at h,fun _ _ _ r h => by simp [spec_l2Block.l1] at h⟩
 | k + 1 => by
  obtain ⟨ih0,ih1⟩ := spec_l2Block.mono_l k;refine ⟨?_,?_⟩
  ·intro y0 y1 y2 y3 y4;unfold spec_l2Block.l0
   repeat' first
   | (with_reducible exact ih0 _ _ _ _ _)
   | (with_reducible exact ih1 _ _ _)
   | (with_reducible exact spec_l2Words.mono _ _)
   | (with_reducible exact LeO.refl _)
   | (with_reducible exact LeO.none _)
   | (with_reducible refine LeO.ite ?_ ?_)
   | (with_reducible refine LeO.bind ?_ (fun _ => ?_))
   | exact ih0 _ _ _ _ _
   | exact ih1 _ _ _
   | exact spec_l2Words.mono _ _
   | exact LeO.none _
  ·intro y0 y1 y2;unfold spec_l2Block.l1
   repeat' first
   | (with_reducible exact ih0 _ _ _ _ _)
   | (with_reducible exact ih1 _ _ _)
   | (with_reducible exact spec_l2Words.mono _ _)
   | (with_reducible exact LeO.refl _)
   | (with_reducible exact LeO.none _)
   | (with_reducible refine LeO.ite ?_ ?_)
   | (with_reducible refine LeO.bind ?_ (fun _ => ?_))
   | exact ih0 _ _ _ _ _
   | exact ih1 _ _ _
   | exact spec_l2Words.mono _ _
   | exact LeO.none _
theorem spec_l2Block.mono : ∀ a0 a1 a2 k,LeO (spec_l2Block.f k a0 a1 a2) (spec_l2Block.f (k + 1) a0 a1 a2) := by
 intro a0 a1 a2 k;obtain ⟨ih0,ih1⟩ := spec_l2Block.mono_l k;unfold spec_l2Block.f
 repeat' first
   | (with_reducible exact ih0 _ _ _ _ _)
   | (with_reducible exact ih1 _ _ _)
   | (with_reducible exact spec_l2Words.mono _ _)
   | (with_reducible exact LeO.refl _)
   | (with_reducible exact LeO.none _)
   | (with_reducible refine LeO.ite ?_ ?_)
   | (with_reducible refine LeO.bind ?_ (fun _ => ?_))
   | exact ih0 _ _ _ _ _
   | exact ih1 _ _ _
   | exact spec_l2Words.mono _ _
   | exact LeO.none _
def spec_l2Block.T8 : Bool × List (List Nat × List Nat) := (true,[([],[]),([],[]),([1],[1]),([2],[2]),([0,3],[0,3]),([],[]),([5],[5]),([],[]),([7],[7]),([8],[8]),([6,9],[6,9]),([4,10],[4,10]),([11,0,1,2,3,4,5,6,7,8,9,10,11],[11])])
def spec_l2Block.B8 : List Nat := [0,0,2,6,15,0,32,0,128,384,992,2047,4095]
theorem spec_l2Block.tab8 : rtab .any (opsOf Try.f53 8) = spec_l2Block.T8 := by kernel_rfl
theorem spec_l2Block.bits8 : waitsOk spec_l2Block.T8.2 spec_l2Block.B8 = true := by kernel_rfl
def spec_l2Block.T9 : Bool × List (List Nat × List Nat) := (true,[([],[]),([0],[0]),([1],[1]),([],[]),([2,3],[2,3]),([],[]),([4,5],[4,5]),([],[]),([],[]),([7,8],[7,8]),([9],[9]),([6,10],[6,10]),([],[]),([],[]),([12,13],[12,13]),([14],[14]),([11,15],[11,15]),([16,0,1,2,3,4,5,6,7,8,9,10,11,12,13,14,15,16],[16])])
def spec_l2Block.B9 : List Nat := [0,1,3,0,15,0,63,0,0,384,896,2047,0,0,12288,28672,65535,131071]
theorem spec_l2Block.tab9 : rtab .any (opsOf Try.f53 9) = spec_l2Block.T9 := by kernel_rfl
theorem spec_l2Block.bits9 : waitsOk spec_l2Block.T9.2 spec_l2Block.B9 = true := by kernel_rfl
def spec_l2Block.T12 : Bool × List (List Nat × List Nat) := (true,[([],[]),([],[]),([1],[1]),([2],[2]),([0,3],[0,3]),([],[]),([],[]),([6],[6]),([7],[7]),([5,8],[5,8]),([4,9],[4,9]),([],[]),([11],[11]),([12],[12]),([],[]),([14],[14]),([15],[15]),([13,16],[13,16]),([10,17],[10,17]),([18,0,1,2,3,4,5,6,7,8,9,10,11,12,13,14,15,16,17,18],[18])])
def spec_l2Block.B12 : List Nat := [0,0,2,6,15,0,0,64,192,480,1023,0,2048,6144,0,16384,49152,129024,262143,524287]
theorem spec_l2Block.tab12 : rtab .any (opsOf Try.f53 12) = spec_l2Block.T12 := by kernel_rfl
theorem spec_l2Block.bits12 : waitsOk spec_l2Block.T12.2 spec_l2Block.B12 = true := by kernel_rfl
def spec_l2Block.T14 : Bool × List (List Nat × List Nat) := (true,[([],[]),([],[]),([0,1],[0,1]),([2],[2]),([],[]),([],[]),([5],[5]),([6],[6]),([],[]),([8],[8]),([9],[9]),([],[]),([11],[11]),([12],[12]),([],[]),([13,14],[13,14]),([15],[15]),([],[]),([],[]),([18],[18]),([19],[19]),([],[]),([21],[21]),([22],[22]),([3,4,7,10,16,17,20,23],[3,4,7,10,16,17,20,23]),([24,0,1,2,3,4,5,6,7,8,9,10,11,12,13,14,15,16,17,18,19,20,21,22,23,24],[5,8,11,18,21,24])])
def spec_l2Block.B14 : List Nat := [0,0,3,7,0,0,32,96,0,256,768,0,2048,6144,0,30720,63488,0,0,262144,786432,0,2097152,6291456,16777215,33554431]
theorem spec_l2Block.tab14 : rtab .any (opsOf Try.f53 14) = spec_l2Block.T14 := by kernel_rfl
theorem spec_l2Block.bits14 : waitsOk spec_l2Block.T14.2 spec_l2Block.B14 = true := by kernel_rfl
def spec_l2Block.T18 : Bool × List (List Nat × List Nat) := (true,[([],[]),([],[]),([],[]),([],[]),([2,3],[2,3]),([4],[4]),([],[]),([],[]),([6,7],[6,7]),([8],[8]),([5,9],[5,9]),([10],[10]),([0,1,0,1,2,3,4,5,6,7,8,9,10,11],[0,1]),([12,11,0,1,2,3,4,5,6,7,8,9,10,11],[11,12])])
def spec_l2Block.B18 : List Nat := [0,0,0,0,12,28,0,0,192,448,1020,2044,4095,8191]
theorem spec_l2Block.tab18 : rtab .any (opsOf Try.f53 18) = spec_l2Block.T18 := by kernel_rfl
theorem spec_l2Block.bits18 : waitsOk spec_l2Block.T18.2 spec_l2Block.B18 = true := by kernel_rfl
set_option maxHeartbeats 8000000 in
set_option maxRecDepth 100000 in
theorem spec_l2Block.calls (k : Nat) (A0 : Option Addr) (c0 : Nat) (l0 : List Int) (A1 : Option Addr) (c1 : Nat) (l1 : List Int) (A2 : Option Addr) (c2 : Nat) (l2 : List Int) (r : List Int) (w : World) (hr0 : Kd.C (Kd.int .i64) w A0 l0.length l0) (hc0 : l0.length ≤ c0) (hr1 : Kd.C (Kd.int .u8) w A1 l1.length l1) (hc1 : l1.length ≤ c1) (hr2 : Kd.C (Kd.int .i64) w A2 l2.length l2) (hc2 : l2.length ≤ c2) (h : spec_l2Block.f k l0 l1 l2 = some r) :
  Calls Try.prog 53 #[.slice A0 l0.length c0,.slice A1 l1.length c1,.slice A2 l2.length c2] w fun e w' => ∃ v0_ : Value,e = .returned (v0_) ∧ Kd.R (Kd.int .i64) 3 w' w.heap.size (fun _ => True) v0_ r ∧ Below w.heap.size w w' := by
 have HR0 := Aside0.mk hr0;have HC0 := Aside0.mk hc0;clear hr0 hc0;have HR1 := Aside0.mk hr1;have HC1 := Aside0.mk hc1;clear hr1 hc1;have HR2 := Aside0.mk hr2;have HC2 := Aside0.mk hc2;clear hr2 hc2;have HB := Aside0.mk (Below.refl w.heap.size w);have H : ((spec_l2Words.f k l1).bind fun t251 => ((some (([] : List Int) : List Int)).bind fun y254 => (if y254.length + l0.length < 17592186044416 then (spec_l2Block.l0 k l0 l2 t251 (y254 ++ l0) 0) else (none)))) = some r := h;clear h;replace H := Option.bind_eq_some_iff.mp H;obtain ⟨t251,A40,H⟩ := H;replace H : ((some (([] : List Int) : List Int)).bind fun y254 => (if y254.length + l0.length < 17592186044416 then (spec_l2Block.l0 k l0 l2 t251 (y254 ++ l0) 0) else (none))) = some r := H;have A4 := Aside0.mk A40;clear A40;obtain ⟨y254,hy254⟩ : ∃ y_ : List Int,y_ = ([] : List Int) := ⟨_,rfl⟩
 replace H : (if y254.length + l0.length < 17592186044416 then (spec_l2Block.l0 k l0 l2 t251 (y254 ++ l0) 0) else (none)) = some r := by (have H2_ := (Option.bind_some _ _).symm.trans H; rw [hy254]; with_reducible exact H2_)
 have Ny254 := Aside0.mk hy254;clear hy254
 by_cases c5 : y254.length + l0.length < 17592186044416
 ·rw [if_pos c5] at H;have LMc5 := Aside0.mk c5;clear c5;obtain ⟨y257,hy257⟩ : ∃ y_ : List Int,y_ = (y254 ++ l0) := ⟨_,rfl⟩
  replace H : (spec_l2Block.l0 k l0 l2 t251 y257 0) = some r := by (rw [hy257]; with_reducible exact H)
  have Ny257 := Aside0.mk hy257;clear hy257;have H' := Aside0.mk H;clear H;go_enter Try.func53,Try.ntmps53
  go_wp2_with (first | ((with_reducible refine gate_callee (f := 80) rfl ?_); refine goesL_ (some 20) rfl rfl Try.func80 (by kernel_rfl) rfl #[.slice A1 l1.length c1] rfl (by (try simp only [List.map_toArray,List.map_cons,List.map_nil]); rfl) ?_; (with_reducible refine (spec_l2Words.calls k _ _ l1 t251 _ ?side1 ?side2 A4.out).mono ?_); (case side1 => repeat (exact HR1.out)); (case side2 => exact HC1.out); rintro e w6 ⟨v252,rfl,ho0,hb⟩; refine ⟨_,rfl,?_⟩; have n0_ := Aside0.mk (Kd.R_lower ho0 (below_size HB.out)); have n1_ := Aside0.mk (below_step HB.out hb); clear HB; have HO253 := n0_; have HB := n1_; clear n0_ n1_; (try clear hb); (try clear ho0)) | ((with_reducible refine gate_dst (N := 21) rfl ?_); refine Kd.R_lit (Kd.int .i64) _ 3 ?hg (N := 21) ?hd (xs := ([] : List Int)) (inner := []) (ok := fun _ => True) (okp := fun _ => True) ?hr ?hp (fun _ hk => hk) trivial (Below.refl _ _) (Nat.le_refl _) (by simp) ?_; (case hd => rfl); (case hg => rfl); (case hr => (go_simp; done)); (case hp => exact (Reps.none _ _)); intro v255 w7 ho8 hb hg_ hnew_; clear hg_ hnew_; (rw [← Ny254.out] at ho8); have n0_ := Aside0.mk (Kd.R_elder' (by exact HO253.out) (Kd.R_base ho8) hb); have n1_ := Aside0.mk (Kd.R_lower (Kd.R_new' ho8 (Kd.R_lt (by exact HO253.out))) (below_size HB.out)); have n2_ := Aside0.mk (below_step HB.out hb); clear HO253; clear HB; have HO253 := n0_; have HO256 := n1_; have HB := n2_; clear n0_ n1_ n2_; clear hb ho8) | ((with_reducible refine gate_builtin (b := .append) (xs := #[.tmp 21,.tmp 22]) rfl ?_); at_builtin; refine Kd.R_append_rows (Kd.int .i64) (w0 := w) w.heap.size rfl (.tmp 21) (.tmp 22) 66 3 (.int .i64 0) 8 rfl Try.underlying66 info3 rfl (by decide) (by omega) v255 y254 l0 _ _ _ (fun k_ => some k_ ≠ (v252 : Value).ownBlock) (fun _ => False) rfl rfl ?aO ?aR (fun _ _ h => h) (fun _ h => h.elim) ?aF ?aB ?aS ?aL ?_; (case aR => repeat (exact (Kd.C_below HR0.out HB.out))); (case aB => exact HB.out); (case aF => exact (fun k_ hk => Kd.fresh' (Kd.R_lt (by exact HO253.out)) k_ hk)); (case aO => exact (by exact Kd.R_mono HO256.out (fun _ hk => hk.2))); (case aS => exact (below_size HB.out)); (case aL => have := LMc5.out; omega); intro v258 w9 ho hb hg hat; rw [← Ny257.out] at ho; have n0_ := Aside0.mk (Kd.R_after (ok := (fun _ => True)) (by exact HO253.out) hg hat); have n1_ := Aside0.mk (hb); have n2_ := Aside0.mk (ho); clear HO253; clear HB; clear HO256; have HO253 := n0_; have HB := n1_; have HO259 := n2_; clear n0_ n1_ n2_; clear ho hb hg hat))
  go_loopg [8,9] k (fun kq v8 v9 w' => ∃ (x8_1 : List Int) (x9_1 : Int),v9 = .int .i64 x9_1 ∧ Aside0 (spec_l2Block.l0 kq l0 l2 t251 x8_1 x9_1 = some r) ∧ Aside0 (kq ≤ k) ∧ Aside0 (Kd.R (Kd.int .i64) 3 w' w.heap.size (fun k_ => some k_ ≠ (v8 : Value).ownBlock) v252 t251) ∧ Aside0 (Kd.R (Kd.int .i64) 3 w' w.heap.size (fun k_ => some k_ ≠ (v252 : Value).ownBlock) v8 x8_1) ∧ Aside0 (Below w.heap.size w w'))
  case atStart => exact ⟨(y257),(0),(by rfl),H',⟨Nat.le_refl _⟩,⟨by exact Kd.R_mono HO253.out (fun _ hk => hk.2)⟩,⟨by exact HO259.out⟩,⟨HB.out⟩⟩
  case round =>
   clear H'
   try clear c1
   try clear c2
   try clear p2
   try clear c5
   try clear c8
   obtain ⟨x8_1,x9_1,rfl,HA,HK1,HO_7,HO_8,HB⟩ := hrel
   cases gk with
   | zero => exact absurd HA.out (by simp [spec_l2Block.l0])
   | succ k1 =>
    have H := HA.out;clear HA;simp only [spec_l2Block.l0] at H
    by_cases c10 : x9_1 < 64
    ·rw [if_pos c10] at H;have c10b0 : decide (x9_1 < 64) = true := decide_eq_true c10;clear c10
     by_cases c11 : 4 < (x8_1.length : Int)
     ·rw [if_pos c11] at H;have c11b0 : decide (4 < (x8_1.length : Int)) = true := decide_eq_true c11;have c11b1 : decide (4 < x8_1.length) = true := decide_eq_true (by omega);clear c11;replace H := Option.bind_eq_some_iff.mp H;obtain ⟨t261,A120,H⟩ := H;replace H : ((spec_l2Turn.f (rd x8_1 4) 11).bind fun t262 => ((spec_l2Turn.f (rd x8_1 4) 25).bind fun t263 => (if 5 < (x8_1.length : Int) then (if 6 < (x8_1.length : Int) then (if 7 < (x8_1.length : Int) then (if 0 ≤ x9_1 then (if x9_1 < (l2.length : Int) then (if x9_1 < (t251.length : Int) then (if 0 < (x8_1.length : Int) then ((spec_l2Turn.f (rd x8_1 0) 2).bind fun t270 => ((spec_l2Turn.f (rd x8_1 0) 13).bind fun t271 => ((spec_l2Turn.f (rd x8_1 0) 22).bind fun t272 => (if 1 < (x8_1.length : Int) then (if 2 < (x8_1.length : Int) then (if 3 < (x8_1.length : Int) then (spec_l2Block.l0 k1 l0 l2 t251 ([Go.bits .and .i64 (wrap64 ((wrap64 ((wrap64 ((wrap64 ((wrap64 ((rd x8_1 7) + (Go.bits .xor .i64 (Go.bits .xor .i64 t261 t262) t263))) + (Go.bits .xor .i64 (Go.bits .and .i64 (rd x8_1 4) (rd x8_1 5)) (Go.bits .and .i64 (Go.bits .xor .i64 4294967295 (rd x8_1 4)) (rd x8_1 6))))) + (rd l2 x9_1))) + (rd t251 x9_1))) + (wrap64 ((Go.bits .xor .i64 (Go.bits .xor .i64 t270 t271) t272) + (Go.bits .xor .i64 (Go.bits .xor .i64 (Go.bits .and .i64 (rd x8_1 0) (rd x8_1 1)) (Go.bits .and .i64 (rd x8_1 0) (rd x8_1 2))) (Go.bits .and .i64 (rd x8_1 1) (rd x8_1 2))))))) 4294967295,rd x8_1 0,rd x8_1 1,rd x8_1 2,Go.bits .and .i64 (wrap64 ((rd x8_1 3) + (wrap64 ((wrap64 ((wrap64 ((wrap64 ((rd x8_1 7) + (Go.bits .xor .i64 (Go.bits .xor .i64 t261 t262) t263))) + (Go.bits .xor .i64 (Go.bits .and .i64 (rd x8_1 4) (rd x8_1 5)) (Go.bits .and .i64 (Go.bits .xor .i64 4294967295 (rd x8_1 4)) (rd x8_1 6))))) + (rd l2 x9_1))) + (rd t251 x9_1))))) 4294967295,rd x8_1 4,rd x8_1 5,rd x8_1 6] : List Int) (wrap64 (x9_1 + 1))) else (none)) else (none)) else (none))))) else (none)) else (none)) else (none)) else (none)) else (none)) else (none)) else (none)))) = some r := H;have A12 := Aside0.mk A120;clear A120;replace H := Option.bind_eq_some_iff.mp H;obtain ⟨t262,A130,H⟩ := H;replace H : ((spec_l2Turn.f (rd x8_1 4) 25).bind fun t263 => (if 5 < (x8_1.length : Int) then (if 6 < (x8_1.length : Int) then (if 7 < (x8_1.length : Int) then (if 0 ≤ x9_1 then (if x9_1 < (l2.length : Int) then (if x9_1 < (t251.length : Int) then (if 0 < (x8_1.length : Int) then ((spec_l2Turn.f (rd x8_1 0) 2).bind fun t270 => ((spec_l2Turn.f (rd x8_1 0) 13).bind fun t271 => ((spec_l2Turn.f (rd x8_1 0) 22).bind fun t272 => (if 1 < (x8_1.length : Int) then (if 2 < (x8_1.length : Int) then (if 3 < (x8_1.length : Int) then (spec_l2Block.l0 k1 l0 l2 t251 ([Go.bits .and .i64 (wrap64 ((wrap64 ((wrap64 ((wrap64 ((wrap64 ((rd x8_1 7) + (Go.bits .xor .i64 (Go.bits .xor .i64 t261 t262) t263))) + (Go.bits .xor .i64 (Go.bits .and .i64 (rd x8_1 4) (rd x8_1 5)) (Go.bits .and .i64 (Go.bits .xor .i64 4294967295 (rd x8_1 4)) (rd x8_1 6))))) + (rd l2 x9_1))) + (rd t251 x9_1))) + (wrap64 ((Go.bits .xor .i64 (Go.bits .xor .i64 t270 t271) t272) + (Go.bits .xor .i64 (Go.bits .xor .i64 (Go.bits .and .i64 (rd x8_1 0) (rd x8_1 1)) (Go.bits .and .i64 (rd x8_1 0) (rd x8_1 2))) (Go.bits .and .i64 (rd x8_1 1) (rd x8_1 2))))))) 4294967295,rd x8_1 0,rd x8_1 1,rd x8_1 2,Go.bits .and .i64 (wrap64 ((rd x8_1 3) + (wrap64 ((wrap64 ((wrap64 ((wrap64 ((rd x8_1 7) + (Go.bits .xor .i64 (Go.bits .xor .i64 t261 t262) t263))) + (Go.bits .xor .i64 (Go.bits .and .i64 (rd x8_1 4) (rd x8_1 5)) (Go.bits .and .i64 (Go.bits .xor .i64 4294967295 (rd x8_1 4)) (rd x8_1 6))))) + (rd l2 x9_1))) + (rd t251 x9_1))))) 4294967295,rd x8_1 4,rd x8_1 5,rd x8_1 6] : List Int) (wrap64 (x9_1 + 1))) else (none)) else (none)) else (none))))) else (none)) else (none)) else (none)) else (none)) else (none)) else (none)) else (none))) = some r := H;have A13 := Aside0.mk A130;clear A130;replace H := Option.bind_eq_some_iff.mp H;obtain ⟨t263,A140,H⟩ := H;replace H : (if 5 < (x8_1.length : Int) then (if 6 < (x8_1.length : Int) then (if 7 < (x8_1.length : Int) then (if 0 ≤ x9_1 then (if x9_1 < (l2.length : Int) then (if x9_1 < (t251.length : Int) then (if 0 < (x8_1.length : Int) then ((spec_l2Turn.f (rd x8_1 0) 2).bind fun t270 => ((spec_l2Turn.f (rd x8_1 0) 13).bind fun t271 => ((spec_l2Turn.f (rd x8_1 0) 22).bind fun t272 => (if 1 < (x8_1.length : Int) then (if 2 < (x8_1.length : Int) then (if 3 < (x8_1.length : Int) then (spec_l2Block.l0 k1 l0 l2 t251 ([Go.bits .and .i64 (wrap64 ((wrap64 ((wrap64 ((wrap64 ((wrap64 ((rd x8_1 7) + (Go.bits .xor .i64 (Go.bits .xor .i64 t261 t262) t263))) + (Go.bits .xor .i64 (Go.bits .and .i64 (rd x8_1 4) (rd x8_1 5)) (Go.bits .and .i64 (Go.bits .xor .i64 4294967295 (rd x8_1 4)) (rd x8_1 6))))) + (rd l2 x9_1))) + (rd t251 x9_1))) + (wrap64 ((Go.bits .xor .i64 (Go.bits .xor .i64 t270 t271) t272) + (Go.bits .xor .i64 (Go.bits .xor .i64 (Go.bits .and .i64 (rd x8_1 0) (rd x8_1 1)) (Go.bits .and .i64 (rd x8_1 0) (rd x8_1 2))) (Go.bits .and .i64 (rd x8_1 1) (rd x8_1 2))))))) 4294967295,rd x8_1 0,rd x8_1 1,rd x8_1 2,Go.bits .and .i64 (wrap64 ((rd x8_1 3) + (wrap64 ((wrap64 ((wrap64 ((wrap64 ((rd x8_1 7) + (Go.bits .xor .i64 (Go.bits .xor .i64 t261 t262) t263))) + (Go.bits .xor .i64 (Go.bits .and .i64 (rd x8_1 4) (rd x8_1 5)) (Go.bits .and .i64 (Go.bits .xor .i64 4294967295 (rd x8_1 4)) (rd x8_1 6))))) + (rd l2 x9_1))) + (rd t251 x9_1))))) 4294967295,rd x8_1 4,rd x8_1 5,rd x8_1 6] : List Int) (wrap64 (x9_1 + 1))) else (none)) else (none)) else (none))))) else (none)) else (none)) else (none)) else (none)) else (none)) else (none)) else (none)) = some r := H;have A14 := Aside0.mk A140;clear A140
      by_cases c15 : 5 < (x8_1.length : Int)
      ·rw [if_pos c15] at H;have c15b0 : decide (5 < (x8_1.length : Int)) = true := decide_eq_true c15;have c15b1 : decide (5 < x8_1.length) = true := decide_eq_true (by omega);clear c15
       by_cases c16 : 6 < (x8_1.length : Int)
       ·rw [if_pos c16] at H;have c16b0 : decide (6 < (x8_1.length : Int)) = true := decide_eq_true c16;have c16b1 : decide (6 < x8_1.length) = true := decide_eq_true (by omega);clear c16
        by_cases c17 : 7 < (x8_1.length : Int)
        ·rw [if_pos c17] at H;have c17b0 : decide (7 < (x8_1.length : Int)) = true := decide_eq_true c17;have c17b1 : decide (7 < x8_1.length) = true := decide_eq_true (by omega);clear c17
         by_cases c18 : 0 ≤ x9_1
         ·rw [if_pos c18] at H;have c18b0 : decide (0 ≤ x9_1) = true := decide_eq_true c18;clear c18
          by_cases c19 : x9_1 < (l2.length : Int)
          ·rw [if_pos c19] at H;have c19b0 : decide (x9_1 < (l2.length : Int)) = true := decide_eq_true c19;clear c19
           by_cases c20 : x9_1 < (t251.length : Int)
           ·rw [if_pos c20] at H;have c20b0 : decide (x9_1 < (t251.length : Int)) = true := decide_eq_true c20;clear c20
            by_cases c21 : 0 < (x8_1.length : Int)
            ·rw [if_pos c21] at H;have c21b0 : decide (0 < (x8_1.length : Int)) = true := decide_eq_true c21;have c21b1 : decide (0 < x8_1.length) = true := decide_eq_true (by omega);clear c21;replace H := Option.bind_eq_some_iff.mp H;obtain ⟨t270,A220,H⟩ := H;replace H : ((spec_l2Turn.f (rd x8_1 0) 13).bind fun t271 => ((spec_l2Turn.f (rd x8_1 0) 22).bind fun t272 => (if 1 < (x8_1.length : Int) then (if 2 < (x8_1.length : Int) then (if 3 < (x8_1.length : Int) then (spec_l2Block.l0 k1 l0 l2 t251 ([Go.bits .and .i64 (wrap64 ((wrap64 ((wrap64 ((wrap64 ((wrap64 ((rd x8_1 7) + (Go.bits .xor .i64 (Go.bits .xor .i64 t261 t262) t263))) + (Go.bits .xor .i64 (Go.bits .and .i64 (rd x8_1 4) (rd x8_1 5)) (Go.bits .and .i64 (Go.bits .xor .i64 4294967295 (rd x8_1 4)) (rd x8_1 6))))) + (rd l2 x9_1))) + (rd t251 x9_1))) + (wrap64 ((Go.bits .xor .i64 (Go.bits .xor .i64 t270 t271) t272) + (Go.bits .xor .i64 (Go.bits .xor .i64 (Go.bits .and .i64 (rd x8_1 0) (rd x8_1 1)) (Go.bits .and .i64 (rd x8_1 0) (rd x8_1 2))) (Go.bits .and .i64 (rd x8_1 1) (rd x8_1 2))))))) 4294967295,rd x8_1 0,rd x8_1 1,rd x8_1 2,Go.bits .and .i64 (wrap64 ((rd x8_1 3) + (wrap64 ((wrap64 ((wrap64 ((wrap64 ((rd x8_1 7) + (Go.bits .xor .i64 (Go.bits .xor .i64 t261 t262) t263))) + (Go.bits .xor .i64 (Go.bits .and .i64 (rd x8_1 4) (rd x8_1 5)) (Go.bits .and .i64 (Go.bits .xor .i64 4294967295 (rd x8_1 4)) (rd x8_1 6))))) + (rd l2 x9_1))) + (rd t251 x9_1))))) 4294967295,rd x8_1 4,rd x8_1 5,rd x8_1 6] : List Int) (wrap64 (x9_1 + 1))) else (none)) else (none)) else (none)))) = some r := H;have A22 := Aside0.mk A220;clear A220;replace H := Option.bind_eq_some_iff.mp H;obtain ⟨t271,A230,H⟩ := H;replace H : ((spec_l2Turn.f (rd x8_1 0) 22).bind fun t272 => (if 1 < (x8_1.length : Int) then (if 2 < (x8_1.length : Int) then (if 3 < (x8_1.length : Int) then (spec_l2Block.l0 k1 l0 l2 t251 ([Go.bits .and .i64 (wrap64 ((wrap64 ((wrap64 ((wrap64 ((wrap64 ((rd x8_1 7) + (Go.bits .xor .i64 (Go.bits .xor .i64 t261 t262) t263))) + (Go.bits .xor .i64 (Go.bits .and .i64 (rd x8_1 4) (rd x8_1 5)) (Go.bits .and .i64 (Go.bits .xor .i64 4294967295 (rd x8_1 4)) (rd x8_1 6))))) + (rd l2 x9_1))) + (rd t251 x9_1))) + (wrap64 ((Go.bits .xor .i64 (Go.bits .xor .i64 t270 t271) t272) + (Go.bits .xor .i64 (Go.bits .xor .i64 (Go.bits .and .i64 (rd x8_1 0) (rd x8_1 1)) (Go.bits .and .i64 (rd x8_1 0) (rd x8_1 2))) (Go.bits .and .i64 (rd x8_1 1) (rd x8_1 2))))))) 4294967295,rd x8_1 0,rd x8_1 1,rd x8_1 2,Go.bits .and .i64 (wrap64 ((rd x8_1 3) + (wrap64 ((wrap64 ((wrap64 ((wrap64 ((rd x8_1 7) + (Go.bits .xor .i64 (Go.bits .xor .i64 t261 t262) t263))) + (Go.bits .xor .i64 (Go.bits .and .i64 (rd x8_1 4) (rd x8_1 5)) (Go.bits .and .i64 (Go.bits .xor .i64 4294967295 (rd x8_1 4)) (rd x8_1 6))))) + (rd l2 x9_1))) + (rd t251 x9_1))))) 4294967295,rd x8_1 4,rd x8_1 5,rd x8_1 6] : List Int) (wrap64 (x9_1 + 1))) else (none)) else (none)) else (none))) = some r := H;have A23 := Aside0.mk A230;clear A230;replace H := Option.bind_eq_some_iff.mp H;obtain ⟨t272,A240,H⟩ := H;replace H : (if 1 < (x8_1.length : Int) then (if 2 < (x8_1.length : Int) then (if 3 < (x8_1.length : Int) then (spec_l2Block.l0 k1 l0 l2 t251 ([Go.bits .and .i64 (wrap64 ((wrap64 ((wrap64 ((wrap64 ((wrap64 ((rd x8_1 7) + (Go.bits .xor .i64 (Go.bits .xor .i64 t261 t262) t263))) + (Go.bits .xor .i64 (Go.bits .and .i64 (rd x8_1 4) (rd x8_1 5)) (Go.bits .and .i64 (Go.bits .xor .i64 4294967295 (rd x8_1 4)) (rd x8_1 6))))) + (rd l2 x9_1))) + (rd t251 x9_1))) + (wrap64 ((Go.bits .xor .i64 (Go.bits .xor .i64 t270 t271) t272) + (Go.bits .xor .i64 (Go.bits .xor .i64 (Go.bits .and .i64 (rd x8_1 0) (rd x8_1 1)) (Go.bits .and .i64 (rd x8_1 0) (rd x8_1 2))) (Go.bits .and .i64 (rd x8_1 1) (rd x8_1 2))))))) 4294967295,rd x8_1 0,rd x8_1 1,rd x8_1 2,Go.bits .and .i64 (wrap64 ((rd x8_1 3) + (wrap64 ((wrap64 ((wrap64 ((wrap64 ((rd x8_1 7) + (Go.bits .xor .i64 (Go.bits .xor .i64 t261 t262) t263))) + (Go.bits .xor .i64 (Go.bits .and .i64 (rd x8_1 4) (rd x8_1 5)) (Go.bits .and .i64 (Go.bits .xor .i64 4294967295 (rd x8_1 4)) (rd x8_1 6))))) + (rd l2 x9_1))) + (rd t251 x9_1))))) 4294967295,rd x8_1 4,rd x8_1 5,rd x8_1 6] : List Int) (wrap64 (x9_1 + 1))) else (none)) else (none)) else (none)) = some r := H;have A24 := Aside0.mk A240;clear A240
             by_cases c25 : 1 < (x8_1.length : Int)
             ·rw [if_pos c25] at H;have c25b0 : decide (1 < (x8_1.length : Int)) = true := decide_eq_true c25;have c25b1 : decide (1 < x8_1.length) = true := decide_eq_true (by omega);clear c25
              by_cases c26 : 2 < (x8_1.length : Int)
              ·rw [if_pos c26] at H;have c26b0 : decide (2 < (x8_1.length : Int)) = true := decide_eq_true c26;have c26b1 : decide (2 < x8_1.length) = true := decide_eq_true (by omega);clear c26
               by_cases c27 : 3 < (x8_1.length : Int)
               ·rw [if_pos c27] at H;have c27b0 : decide (3 < (x8_1.length : Int)) = true := decide_eq_true c27;have c27b1 : decide (3 < x8_1.length) = true := decide_eq_true (by omega);clear c27;obtain ⟨y282,hy282⟩ : ∃ y_ : List Int,y_ = ([Go.bits .and .i64 (wrap64 ((wrap64 ((wrap64 ((wrap64 ((wrap64 ((rd x8_1 7) + (Go.bits .xor .i64 (Go.bits .xor .i64 t261 t262) t263))) + (Go.bits .xor .i64 (Go.bits .and .i64 (rd x8_1 4) (rd x8_1 5)) (Go.bits .and .i64 (Go.bits .xor .i64 4294967295 (rd x8_1 4)) (rd x8_1 6))))) + (rd l2 x9_1))) + (rd t251 x9_1))) + (wrap64 ((Go.bits .xor .i64 (Go.bits .xor .i64 t270 t271) t272) + (Go.bits .xor .i64 (Go.bits .xor .i64 (Go.bits .and .i64 (rd x8_1 0) (rd x8_1 1)) (Go.bits .and .i64 (rd x8_1 0) (rd x8_1 2))) (Go.bits .and .i64 (rd x8_1 1) (rd x8_1 2))))))) 4294967295,rd x8_1 0,rd x8_1 1,rd x8_1 2,Go.bits .and .i64 (wrap64 ((rd x8_1 3) + (wrap64 ((wrap64 ((wrap64 ((wrap64 ((rd x8_1 7) + (Go.bits .xor .i64 (Go.bits .xor .i64 t261 t262) t263))) + (Go.bits .xor .i64 (Go.bits .and .i64 (rd x8_1 4) (rd x8_1 5)) (Go.bits .and .i64 (Go.bits .xor .i64 4294967295 (rd x8_1 4)) (rd x8_1 6))))) + (rd l2 x9_1))) + (rd t251 x9_1))))) 4294967295,rd x8_1 4,rd x8_1 5,rd x8_1 6] : List Int) := ⟨_,rfl⟩
                replace H : (spec_l2Block.l0 k1 l0 l2 t251 y282 (wrap64 (x9_1 + 1))) = some r := by (rw [hy282]; with_reducible exact H)
                have Ny282 := Aside0.mk hy282;clear hy282;have H' := Aside0.mk H;clear H;obtain ⟨Ao28,co28,eo28⟩ := Kd.R_slice HO_8.out;subst eo28;have p260 : 0 ≤ (4 : Int) := (by omega);have q260 : 4 < (x8_1.length : Int) := of_decide_eq_true (by (with_reducible assumption));obtain ⟨ad260,e260,hx260_0⟩ := Kd.at_int (Kd.R_reads' HO_8.out).2.2 4 p260 q260
                cases e260
                (try simp only [show (4 : Int).toNat = 4 from rfl,Nat.reduceMul,Nat.reduceEqDiff,Go.Addr.add,↓reduceIte] at hx260_0)
                have qi260 : (4 < x8_1.length) = True := eq_true (by omega)
                skip
                replace p260 := eq_true p260;replace q260 := eq_true q260
                try go_wp2_with (first | ((with_reducible refine gate_callee (f := 81) rfl ?_); refine goesL_ (some 32) rfl rfl Try.func81 (by kernel_rfl) rfl #[.int .i64 (rd x8_1 4),.int .i64 6] rfl (by (try simp only [List.map_toArray,List.map_cons,List.map_nil]); rfl) ?_; (with_reducible refine (spec_l2Turn.calls (rd x8_1 4) 6 t261 _ A12.out).mono ?_); rintro e w' ⟨rfl,⟨nd,rfl⟩⟩; refine ⟨_,rfl,?_⟩) | ((with_reducible refine gate_callee (f := 81) rfl ?_); refine goesL_ (some 34) rfl rfl Try.func81 (by kernel_rfl) rfl #[.int .i64 (rd x8_1 4),.int .i64 11] rfl (by (try simp only [List.map_toArray,List.map_cons,List.map_nil]); rfl) ?_; (with_reducible refine (spec_l2Turn.calls (rd x8_1 4) 11 t262 _ A13.out).mono ?_); rintro e w' ⟨rfl,⟨nd,rfl⟩⟩; refine ⟨_,rfl,?_⟩) | ((with_reducible refine gate_callee (f := 81) rfl ?_); refine goesL_ (some 37) rfl rfl Try.func81 (by kernel_rfl) rfl #[.int .i64 (rd x8_1 4),.int .i64 25] rfl (by (try simp only [List.map_toArray,List.map_cons,List.map_nil]); rfl) ?_; (with_reducible refine (spec_l2Turn.calls (rd x8_1 4) 25 t263 _ A14.out).mono ?_); rintro e w' ⟨rfl,⟨nd,rfl⟩⟩; refine ⟨_,rfl,?_⟩))
                (try (rw [drewN_self wr]; generalize hq_ : World.drewN wr _ = wr; have n0_ : Aside0 (Kd.R (Kd.int .i64) 3 wr w.heap.size (fun k_ => some k_ ≠ (.slice (some ad260) x8_1.length co28 : Value).ownBlock) v252 t251) := ⟨by rw [← hq_]; exact (by (with_reducible repeat (apply Kd.R_drewN)); exact HO_7.out)⟩; have n1_ : Aside0 (Kd.R (Kd.int .i64) 3 wr w.heap.size (fun k_ => some k_ ≠ (v252 : Value).ownBlock) (.slice (some ad260) x8_1.length co28) x8_1) := ⟨by rw [← hq_]; exact (by (with_reducible repeat (apply Kd.R_drewN)); exact HO_8.out)⟩; have n2_ : Aside0 (Below w.heap.size w wr) := ⟨by rw [← hq_]; exact (by repeat (with_reducible first | exact HB.out | apply pw_below_drewN))⟩; clear HO_7 HO_8 HB hq_; have HO_7 := n0_; have HO_8 := n1_; have HB := n2_; clear n0_ n1_ n2_))
                have n0_ := Aside0.mk (Kd.R_drew HO_7.out);have n1_ := Aside0.mk (Kd.R_drew HO_8.out);have n2_ := Aside0.mk (below_drew1 HB.out);clear HO_7;clear HO_8;clear HB;have HO_7 := n0_;have HO_8 := n1_;have HB := n2_;clear n0_ n1_ n2_;have p264 : 0 ≤ (5 : Int) := (by omega);have q264 : 5 < (x8_1.length : Int) := of_decide_eq_true (by (with_reducible assumption));obtain ⟨ad264,e264,hx264_0⟩ := Kd.at_int (Kd.R_reads' HO_8.out).2.2 5 p264 q264;obtain rfl : ad260 = ad264 := (by injection e264)
                (try simp only [show (5 : Int).toNat = 5 from rfl,Nat.reduceMul,Nat.reduceEqDiff,Go.Addr.add,↓reduceIte] at hx264_0)
                have qi264 : (5 < x8_1.length) = True := eq_true (by omega)
                skip
                replace p264 := eq_true p264;replace q264 := eq_true q264;have p265 : 0 ≤ (6 : Int) := (by omega);have q265 : 6 < (x8_1.length : Int) := of_decide_eq_true (by (with_reducible assumption));obtain ⟨ad265,e265,hx265_0⟩ := Kd.at_int (Kd.R_reads' HO_8.out).2.2 6 p265 q265;obtain rfl : ad260 = ad265 := (by injection e265)
                (try simp only [show (6 : Int).toNat = 6 from rfl,Nat.reduceMul,Nat.reduceEqDiff,Go.Addr.add,↓reduceIte] at hx265_0)
                have qi265 : (6 < x8_1.length) = True := eq_true (by omega)
                skip
                replace p265 := eq_true p265;replace q265 := eq_true q265;refine start_ (n := 13) (S := fun w' => w'.cell? ⟨ad260.block,ad260.off + 5,none⟩ = some (.int .i64 (rd x8_1 5)) ∧ w'.cell? ⟨ad260.block,ad260.off + 6,none⟩ = some (.int .i64 (rd x8_1 6))) (ds := []) #[false,false,false,false,false,false,false,false,false,false,false,false,false] (by kernel_rfl) rfl rfl ⟨hx264_0,hx265_0⟩ (fun hHeld => ?_); refine with_tabW spec_l2Block.tab8 spec_l2Block.bits8 (fun HT_ HW_ => ?_)
                generalize wr.drew = w29 at HO_7 HO_8 HB hx264_0 hx265_0 hHeld ⊢
                refine pure_ (i := 0) (N := some 39) (v := ?_) (a' := ?_) #[true,false,false,false,false,false,false,false,false,false,false,false,false] rfl rfl (any_of HT_.out (by kernel_rfl)) (fun _ _ _ h => h) (Or.inl ⟨by rfl,?_⟩) ?_ ?_;rotate_left
                ·intro w';go_simp;with_reducible rfl
                rotate_left
                ·simp only [wf_preprocess];rfl
                refine pure_ (i := 1) (N := some 40) (v := ?_) (a' := ?_) #[true,true,false,false,false,false,false,false,false,false,false,false,false] rfl rfl (any_of HT_.out (by kernel_rfl)) (fun _ _ _ h => h) (Or.inl ⟨by rfl,?_⟩) ?_ ?_;rotate_left
                ·intro w';go_simp;with_reducible rfl
                rotate_left
                ·simp only [wf_preprocess];rfl
                refine pure_ (i := 2) (N := some 41) (v := ?_) (a' := ?_) #[true,true,true,false,false,false,false,false,false,false,false,false,false] rfl rfl (any_of HT_.out (by kernel_rfl)) (fun _ _ _ h => h) (Or.inl ⟨by rfl,?_⟩) ?_ ?_;rotate_left
                ·intro w';go_simp;with_reducible rfl
                rotate_left
                ·simp only [wf_preprocess];rfl
                refine pure_ (i := 5) (N := some 44) (v := ?_) (a' := ?_) #[true,true,true,false,false,true,false,false,false,false,false,false,false] rfl rfl (any_of HT_.out (by kernel_rfl)) (fun _ _ _ h => h) (Or.inl ⟨by rfl,?_⟩) ?_ ?_;rotate_left
                ·intro w';go_simp;with_reducible rfl
                rotate_left
                ·simp only [wf_preprocess];rfl
                refine pure_ (i := 6) (N := some 45) (v := ?_) (a' := ?_) #[true,true,true,false,false,true,true,false,false,false,false,false,false] rfl rfl (any_of HT_.out (by kernel_rfl)) (fun _ _ _ h => h) (Or.inl ⟨by rfl,?_⟩) ?_ ?_;rotate_left
                ·intro w';go_simp;with_reducible rfl
                rotate_left
                ·simp only [wf_preprocess];rfl
                refine pure_ (i := 7) (N := some 46) (v := ?_) (a' := ?_) #[true,true,true,false,false,true,true,true,false,false,false,false,false] rfl rfl (any_of HT_.out (by kernel_rfl)) (fun _ _ _ h => h) (Or.inl ⟨by rfl,?_⟩) ?_ ?_;rotate_left
                ·intro w';go_simp;with_reducible rfl
                rotate_left
                ·simp only [wf_preprocess];rfl
                refine pure_ (i := 8) (N := some 47) (v := ?_) (a' := ?_) #[true,true,true,false,false,true,true,true,true,false,false,false,false] rfl rfl (any_of HT_.out (by kernel_rfl)) (fun _ _ _ h => h) (Or.inl ⟨by rfl,?_⟩) ?_ ?_;rotate_left
                ·intro w';go_simp;with_reducible rfl
                rotate_left
                ·simp only [wf_preprocess];rfl
                refine take_ (i := 3) (N := some 42) (v := ?_) (a' := ?_) #[true,true,true,true,false,true,true,true,true,false,false,false,false] rfl rfl (take_ofW HT_.out HW_.out (by kernel_rfl)) (fun _ _ _ h => h) (Or.inl ⟨by rfl,?_⟩) hHeld ?_ ?_;rotate_left
                ·rintro w' ⟨s0,s1⟩;go_simp;with_reducible rfl
                rotate_left
                ·simp only [wf_preprocess];rfl
                refine pure_ (i := 4) (N := some 43) (v := ?_) (a' := ?_) #[true,true,true,true,true,true,true,true,true,false,false,false,false] rfl rfl (any_of HT_.out (by kernel_rfl)) (fun _ _ _ h => h) (Or.inl ⟨by rfl,?_⟩) ?_ ?_;rotate_left
                ·intro w';go_simp;with_reducible rfl
                rotate_left
                ·simp only [wf_preprocess];rfl
                refine take_ (i := 9) (N := some 48) (v := ?_) (a' := ?_) #[true,true,true,true,true,true,true,true,true,true,false,false,false] rfl rfl (take_ofW HT_.out HW_.out (by kernel_rfl)) (fun _ _ _ h => h) (Or.inl ⟨by rfl,?_⟩) hHeld ?_ ?_;rotate_left
                ·rintro w' ⟨s0,s1⟩;go_simp;with_reducible rfl
                rotate_left
                ·simp only [wf_preprocess];rfl
                refine pure_ (i := 10) (N := some 49) (v := ?_) (a' := ?_) #[true,true,true,true,true,true,true,true,true,true,true,false,false] rfl rfl (any_of HT_.out (by kernel_rfl)) (fun _ _ _ h => h) (Or.inl ⟨by rfl,?_⟩) ?_ ?_;rotate_left
                ·intro w';go_simp;with_reducible rfl
                rotate_left
                ·simp only [wf_preprocess];rfl
                refine pure_ (i := 11) (N := some 50) (v := ?_) (a' := ?_) #[true,true,true,true,true,true,true,true,true,true,true,true,false] rfl rfl (any_of HT_.out (by kernel_rfl)) (fun _ _ _ h => h) (Or.inl ⟨by rfl,?_⟩) ?_ ?_;rotate_left
                ·intro w';go_simp;with_reducible rfl
                rotate_left
                ·simp only [wf_preprocess];rfl
                refine pure_ (i := 12) (N := some 12) (v := ?_) (a' := ?_) #[true,true,true,true,true,true,true,true,true,true,true,true,true] rfl rfl (any_of HT_.out (by kernel_rfl)) (fun _ _ _ h => h) (Or.inl ⟨by rfl,?_⟩) ?_ ?_;rotate_left
                ·intro w';go_simp;with_reducible rfl
                rotate_left
                ·simp only [wf_preprocess];rfl
                refine done_ (done_of HT_.out (by kernel_rfl)) ?_
                try go_wp2
                have n0_ := Aside0.mk (Kd.R_drew HO_7.out);have n1_ := Aside0.mk (Kd.R_drew HO_8.out);have n2_ := Aside0.mk (below_drew1 HB.out);clear HO_7;clear HO_8;clear HB;have HO_7 := n0_;have HO_8 := n1_;have HB := n2_;clear n0_ n1_ n2_;have p266 : 0 ≤ (7 : Int) := (by omega);have q266 : 7 < (x8_1.length : Int) := of_decide_eq_true (by (with_reducible assumption));obtain ⟨ad266,e266,hx266_0⟩ := Kd.at_int (Kd.R_reads' HO_8.out).2.2 7 p266 q266;obtain rfl : ad260 = ad266 := (by injection e266)
                (try simp only [show (7 : Int).toNat = 7 from rfl,Nat.reduceMul,Nat.reduceEqDiff,Go.Addr.add,↓reduceIte] at hx266_0)
                have qi266 : (7 < x8_1.length) = True := eq_true (by omega)
                skip
                replace p266 := eq_true p266;replace q266 := eq_true q266;have p267 : 0 ≤ (x9_1 : Int) := of_decide_eq_true (by (with_reducible assumption));have q267 : x9_1 < (l2.length : Int) := of_decide_eq_true (by (with_reducible assumption));obtain ⟨ad267,e267,hx267_0⟩ := Kd.at_int HR2.out x9_1 p267 q267;have hw267_0 := hx267_0
                cases e267
                replace hx267_0 := (HB.out.cell (World.block_lt_of_cell? w _ hx267_0)).trans hx267_0;replace p267 := eq_true p267;replace q267 := eq_true q267;obtain ⟨Ao31,co31,eo31⟩ := Kd.R_slice HO_7.out
                (subst eo31)
                have p268 : 0 ≤ (x9_1 : Int) := of_decide_eq_true (by (with_reducible assumption));have q268 : x9_1 < (t251.length : Int) := of_decide_eq_true (by (with_reducible assumption));obtain ⟨ad268,e268,hx268_0⟩ := Kd.at_int (Kd.R_reads' HO_7.out).2.2 x9_1 p268 q268
                cases e268
                replace p268 := eq_true p268;replace q268 := eq_true q268;refine start_ (n := 18) (S := fun w' => w'.cell? ⟨ad260.block,ad260.off + 7,none⟩ = some (.int .i64 (rd x8_1 7)) ∧ w'.cell? (ad267.add (x9_1).toNat) = some (.int .i64 (rd l2 x9_1)) ∧ w'.cell? (ad268.add (x9_1).toNat) = some (.int .i64 (rd t251 x9_1))) (ds := []) #[false,false,false,false,false,false,false,false,false,false,false,false,false,false,false,false,false,false] (by kernel_rfl) rfl rfl ⟨hx266_0,((HB.out.cell (World.block_lt_of_cell? w _ hw267_0)).trans hw267_0),hx268_0⟩ (fun hHeld => ?_); refine with_tabW spec_l2Block.tab9 spec_l2Block.bits9 (fun HT_ HW_ => ?_)
                generalize w29.drew = w30 at HO_7 HO_8 HB hx266_0 hx267_0 hx268_0 hHeld ⊢
                refine pure_ (i := 0) (N := some 51) (v := ?_) (a' := ?_) #[true,false,false,false,false,false,false,false,false,false,false,false,false,false,false,false,false,false] rfl rfl (any_of HT_.out (by kernel_rfl)) (fun _ _ _ h => h) (Or.inl ⟨by rfl,?_⟩) ?_ ?_;rotate_left
                ·intro w';go_simp;with_reducible rfl
                rotate_left
                ·simp only [wf_preprocess];rfl
                refine pure_ (i := 1) (N := some 52) (v := ?_) (a' := ?_) #[true,true,false,false,false,false,false,false,false,false,false,false,false,false,false,false,false,false] rfl rfl (any_of HT_.out (by kernel_rfl)) (fun _ _ _ h => h) (Or.inl ⟨by rfl,?_⟩) ?_ ?_;rotate_left
                ·intro w';go_simp;with_reducible rfl
                rotate_left
                ·simp only [wf_preprocess];rfl
                refine pure_ (i := 3) (N := some 54) (v := ?_) (a' := ?_) #[true,true,false,true,false,false,false,false,false,false,false,false,false,false,false,false,false,false] rfl rfl (any_of HT_.out (by kernel_rfl)) (fun _ _ _ h => h) (Or.inl ⟨by rfl,?_⟩) ?_ ?_;rotate_left
                ·intro w';go_simp;with_reducible rfl
                rotate_left
                ·simp only [wf_preprocess];rfl
                refine pure_ (i := 5) (N := some 56) (v := ?_) (a' := ?_) #[true,true,false,true,false,true,false,false,false,false,false,false,false,false,false,false,false,false] rfl rfl (any_of HT_.out (by kernel_rfl)) (fun _ _ _ h => h) (Or.inl ⟨by rfl,?_⟩) ?_ ?_;rotate_left
                ·intro w';go_simp;with_reducible rfl
                rotate_left
                ·simp only [wf_preprocess];rfl
                refine pure_ (i := 7) (N := some 58) (v := ?_) (a' := ?_) #[true,true,false,true,false,true,false,true,false,false,false,false,false,false,false,false,false,false] rfl rfl (any_of HT_.out (by kernel_rfl)) (fun _ _ _ h => h) (Or.inl ⟨by rfl,?_⟩) ?_ ?_;rotate_left
                ·intro w';go_simp;with_reducible rfl
                rotate_left
                ·simp only [wf_preprocess];rfl
                refine pure_ (i := 8) (N := some 59) (v := ?_) (a' := ?_) #[true,true,false,true,false,true,false,true,true,false,false,false,false,false,false,false,false,false] rfl rfl (any_of HT_.out (by kernel_rfl)) (fun _ _ _ h => h) (Or.inl ⟨by rfl,?_⟩) ?_ ?_;rotate_left
                ·intro w';go_simp;with_reducible rfl
                rotate_left
                ·simp only [wf_preprocess];rfl
                refine pure_ (i := 9) (N := some 60) (v := ?_) (a' := ?_) #[true,true,false,true,false,true,false,true,true,true,false,false,false,false,false,false,false,false] rfl rfl (any_of HT_.out (by kernel_rfl)) (fun _ _ _ h => h) (Or.inl ⟨by rfl,?_⟩) ?_ ?_;rotate_left
                ·intro w';go_simp;with_reducible rfl
                rotate_left
                ·simp only [wf_preprocess];rfl
                refine pure_ (i := 12) (N := some 63) (v := ?_) (a' := ?_) #[true,true,false,true,false,true,false,true,true,true,false,false,true,false,false,false,false,false] rfl rfl (any_of HT_.out (by kernel_rfl)) (fun _ _ _ h => h) (Or.inl ⟨by rfl,?_⟩) ?_ ?_;rotate_left
                ·intro w';go_simp;with_reducible rfl
                rotate_left
                ·simp only [wf_preprocess];rfl
                refine pure_ (i := 13) (N := some 64) (v := ?_) (a' := ?_) #[true,true,false,true,false,true,false,true,true,true,false,false,true,true,false,false,false,false] rfl rfl (any_of HT_.out (by kernel_rfl)) (fun _ _ _ h => h) (Or.inl ⟨by rfl,?_⟩) ?_ ?_;rotate_left
                ·intro w';go_simp;with_reducible rfl
                rotate_left
                ·simp only [wf_preprocess];rfl
                refine pure_ (i := 14) (N := some 65) (v := ?_) (a' := ?_) #[true,true,false,true,false,true,false,true,true,true,false,false,true,true,true,false,false,false] rfl rfl (any_of HT_.out (by kernel_rfl)) (fun _ _ _ h => h) (Or.inl ⟨by rfl,?_⟩) ?_ ?_;rotate_left
                ·intro w';go_simp;with_reducible rfl
                rotate_left
                ·simp only [wf_preprocess];rfl
                refine take_ (i := 2) (N := some 53) (v := ?_) (a' := ?_) #[true,true,true,true,false,true,false,true,true,true,false,false,true,true,true,false,false,false] rfl rfl (take_ofW HT_.out HW_.out (by kernel_rfl)) (fun _ _ _ h => h) (Or.inl ⟨by rfl,?_⟩) hHeld ?_ ?_;rotate_left
                ·rintro w' ⟨s0,s1,s2⟩;go_simp;with_reducible rfl
                rotate_left
                ·simp only [wf_preprocess];rfl
                refine pure_ (i := 4) (N := some 55) (v := ?_) (a' := ?_) #[true,true,true,true,true,true,false,true,true,true,false,false,true,true,true,false,false,false] rfl rfl (any_of HT_.out (by kernel_rfl)) (fun _ _ _ h => h) (Or.inl ⟨by rfl,?_⟩) ?_ ?_;rotate_left
                ·intro w';go_simp;with_reducible rfl
                rotate_left
                ·simp only [wf_preprocess];rfl
                refine pure_ (i := 6) (N := some 57) (v := ?_) (a' := ?_) #[true,true,true,true,true,true,true,true,true,true,false,false,true,true,true,false,false,false] rfl rfl (any_of HT_.out (by kernel_rfl)) (fun _ _ _ h => h) (Or.inl ⟨by rfl,?_⟩) ?_ ?_;rotate_left
                ·intro w';go_simp;with_reducible rfl
                rotate_left
                ·simp only [wf_preprocess];rfl
                refine take_ (i := 10) (N := some 61) (v := ?_) (a' := ?_) #[true,true,true,true,true,true,true,true,true,true,true,false,true,true,true,false,false,false] rfl rfl (take_ofW HT_.out HW_.out (by kernel_rfl)) (fun _ _ _ h => h) (Or.inl ⟨by rfl,?_⟩) hHeld ?_ ?_;rotate_left
                ·rintro w' ⟨s0,s1,s2⟩;go_simp;with_reducible rfl
                rotate_left
                ·simp only [wf_preprocess];rfl
                refine pure_ (i := 11) (N := some 62) (v := ?_) (a' := ?_) #[true,true,true,true,true,true,true,true,true,true,true,true,true,true,true,false,false,false] rfl rfl (any_of HT_.out (by kernel_rfl)) (fun _ _ _ h => h) (Or.inl ⟨by rfl,?_⟩) ?_ ?_;rotate_left
                ·intro w';go_simp;with_reducible rfl
                rotate_left
                ·simp only [wf_preprocess];rfl
                refine take_ (i := 15) (N := some 66) (v := ?_) (a' := ?_) #[true,true,true,true,true,true,true,true,true,true,true,true,true,true,true,true,false,false] rfl rfl (take_ofW HT_.out HW_.out (by kernel_rfl)) (fun _ _ _ h => h) (Or.inl ⟨by rfl,?_⟩) hHeld ?_ ?_;rotate_left
                ·rintro w' ⟨s0,s1,s2⟩;go_simp;with_reducible rfl
                rotate_left
                ·simp only [wf_preprocess];rfl
                refine pure_ (i := 16) (N := some 67) (v := ?_) (a' := ?_) #[true,true,true,true,true,true,true,true,true,true,true,true,true,true,true,true,true,false] rfl rfl (any_of HT_.out (by kernel_rfl)) (fun _ _ _ h => h) (Or.inl ⟨by rfl,?_⟩) ?_ ?_;rotate_left
                ·intro w';go_simp;with_reducible rfl
                rotate_left
                ·simp only [wf_preprocess];rfl
                refine pure_ (i := 17) (N := some 13) (v := ?_) (a' := ?_) #[true,true,true,true,true,true,true,true,true,true,true,true,true,true,true,true,true,true] rfl rfl (any_of HT_.out (by kernel_rfl)) (fun _ _ _ h => h) (Or.inl ⟨by rfl,?_⟩) ?_ ?_;rotate_left
                ·intro w';go_simp;with_reducible rfl
                rotate_left
                ·simp only [wf_preprocess];rfl
                refine done_ (done_of HT_.out (by kernel_rfl)) ?_;have p269 : 0 ≤ (0 : Int) := (by omega);have q269 : 0 < (x8_1.length : Int) := of_decide_eq_true (by (with_reducible assumption));obtain ⟨ad269,e269,hx269_0⟩ := Kd.at_int (Kd.R_reads' HO_8.out).2.2 0 p269 q269;obtain rfl : ad260 = ad269 := (by injection e269);have qi269 : (0 < x8_1.length) = True := eq_true (by omega)
                (try rw [show (0 : Int).toNat = 0 from rfl] at hx269_0)
                (try rw [Addr.add_zero'] at hx269_0)
                replace p269 := eq_true p269;replace q269 := eq_true q269
                try go_wp2_with (first | ((with_reducible refine gate_callee (f := 81) rfl ?_); refine goesL_ (some 72) rfl rfl Try.func81 (by kernel_rfl) rfl #[.int .i64 (rd x8_1 0),.int .i64 2] rfl (by (try simp only [List.map_toArray,List.map_cons,List.map_nil]); rfl) ?_; (with_reducible refine (spec_l2Turn.calls (rd x8_1 0) 2 t270 _ A22.out).mono ?_); rintro e w' ⟨rfl,⟨nd,rfl⟩⟩; refine ⟨_,rfl,?_⟩) | ((with_reducible refine gate_callee (f := 81) rfl ?_); refine goesL_ (some 74) rfl rfl Try.func81 (by kernel_rfl) rfl #[.int .i64 (rd x8_1 0),.int .i64 13] rfl (by (try simp only [List.map_toArray,List.map_cons,List.map_nil]); rfl) ?_; (with_reducible refine (spec_l2Turn.calls (rd x8_1 0) 13 t271 _ A23.out).mono ?_); rintro e w' ⟨rfl,⟨nd,rfl⟩⟩; refine ⟨_,rfl,?_⟩) | ((with_reducible refine gate_callee (f := 81) rfl ?_); refine goesL_ (some 77) rfl rfl Try.func81 (by kernel_rfl) rfl #[.int .i64 (rd x8_1 0),.int .i64 22] rfl (by (try simp only [List.map_toArray,List.map_cons,List.map_nil]); rfl) ?_; (with_reducible refine (spec_l2Turn.calls (rd x8_1 0) 22 t272 _ A24.out).mono ?_); rintro e w' ⟨rfl,⟨nd,rfl⟩⟩; refine ⟨_,rfl,?_⟩))
                (try (rw [drewN_self w30]; generalize hq_ : World.drewN w30 _ = w30; have n0_ : Aside0 (Kd.R (Kd.int .i64) 3 w30 w.heap.size (fun k_ => some k_ ≠ (.slice (some ad260) x8_1.length co28 : Value).ownBlock) (.slice (some ad268) t251.length co31) t251) := ⟨by rw [← hq_]; exact (by (with_reducible repeat (apply Kd.R_drewN)); exact HO_7.out)⟩; have n1_ : Aside0 (Kd.R (Kd.int .i64) 3 w30 w.heap.size (fun k_ => some k_ ≠ (.slice (some ad268) t251.length co31 : Value).ownBlock) (.slice (some ad260) x8_1.length co28) x8_1) := ⟨by rw [← hq_]; exact (by (with_reducible repeat (apply Kd.R_drewN)); exact HO_8.out)⟩; have n2_ : Aside0 (Below w.heap.size w w30) := ⟨by rw [← hq_]; exact (by repeat (with_reducible first | exact HB.out | apply pw_below_drewN))⟩; clear HO_7 HO_8 HB hq_; have HO_7 := n0_; have HO_8 := n1_; have HB := n2_; clear n0_ n1_ n2_))
                have n0_ := Aside0.mk (Kd.R_drew HO_7.out);have n1_ := Aside0.mk (Kd.R_drew HO_8.out);have n2_ := Aside0.mk (below_drew1 HB.out);clear HO_7;clear HO_8;clear HB;have HO_7 := n0_;have HO_8 := n1_;have HB := n2_;clear n0_ n1_ n2_;have p273 : 0 ≤ (1 : Int) := (by omega);have q273 : 1 < (x8_1.length : Int) := of_decide_eq_true (by (with_reducible assumption));obtain ⟨ad273,e273,hx273_0⟩ := Kd.at_int (Kd.R_reads' HO_8.out).2.2 1 p273 q273;obtain rfl : ad260 = ad273 := (by injection e273)
                (try simp only [show (1 : Int).toNat = 1 from rfl,Nat.reduceMul,Nat.reduceEqDiff,Go.Addr.add,↓reduceIte] at hx273_0)
                have qi273 : (1 < x8_1.length) = True := eq_true (by omega)
                skip
                replace p273 := eq_true p273;replace q273 := eq_true q273;have p274 : 0 ≤ (2 : Int) := (by omega);have q274 : 2 < (x8_1.length : Int) := of_decide_eq_true (by (with_reducible assumption));obtain ⟨ad274,e274,hx274_0⟩ := Kd.at_int (Kd.R_reads' HO_8.out).2.2 2 p274 q274;obtain rfl : ad260 = ad274 := (by injection e274)
                (try simp only [show (2 : Int).toNat = 2 from rfl,Nat.reduceMul,Nat.reduceEqDiff,Go.Addr.add,↓reduceIte] at hx274_0)
                have qi274 : (2 < x8_1.length) = True := eq_true (by omega)
                skip
                replace p274 := eq_true p274;replace q274 := eq_true q274;have p275 : 0 ≤ (1 : Int) := (by omega);have q275 : 1 < (x8_1.length : Int) := of_decide_eq_true (by (with_reducible assumption));obtain ⟨ad275,e275,hx275_0⟩ := Kd.at_int (Kd.R_reads' HO_8.out).2.2 1 p275 q275;obtain rfl : ad260 = ad275 := (by injection e275)
                (try simp only [show (1 : Int).toNat = 1 from rfl,Nat.reduceMul,Nat.reduceEqDiff,Go.Addr.add,↓reduceIte] at hx275_0)
                have qi275 : (1 < x8_1.length) = True := eq_true (by omega)
                skip
                replace p275 := eq_true p275;replace q275 := eq_true q275;have p276 : 0 ≤ (2 : Int) := (by omega);have q276 : 2 < (x8_1.length : Int) := of_decide_eq_true (by (with_reducible assumption));obtain ⟨ad276,e276,hx276_0⟩ := Kd.at_int (Kd.R_reads' HO_8.out).2.2 2 p276 q276;obtain rfl : ad260 = ad276 := (by injection e276)
                (try simp only [show (2 : Int).toNat = 2 from rfl,Nat.reduceMul,Nat.reduceEqDiff,Go.Addr.add,↓reduceIte] at hx276_0)
                have qi276 : (2 < x8_1.length) = True := eq_true (by omega)
                skip
                replace p276 := eq_true p276;replace q276 := eq_true q276;refine start_ (n := 20) (S := fun w' => w'.cell? ⟨ad260.block,ad260.off + 1,none⟩ = some (.int .i64 (rd x8_1 1)) ∧ w'.cell? ⟨ad260.block,ad260.off + 2,none⟩ = some (.int .i64 (rd x8_1 2)) ∧ w'.cell? ⟨ad260.block,ad260.off + 1,none⟩ = some (.int .i64 (rd x8_1 1)) ∧ w'.cell? ⟨ad260.block,ad260.off + 2,none⟩ = some (.int .i64 (rd x8_1 2))) (ds := []) #[false,false,false,false,false,false,false,false,false,false,false,false,false,false,false,false,false,false,false,false] (by kernel_rfl) rfl rfl ⟨hx273_0,hx274_0,hx275_0,hx276_0⟩ (fun hHeld => ?_); refine with_tabW spec_l2Block.tab12 spec_l2Block.bits12 (fun HT_ HW_ => ?_)
                generalize w30.drew = w32 at HO_7 HO_8 HB hx273_0 hx274_0 hx275_0 hx276_0 hHeld ⊢
                refine pure_ (i := 0) (N := some 79) (v := ?_) (a' := ?_) #[true,false,false,false,false,false,false,false,false,false,false,false,false,false,false,false,false,false,false,false] rfl rfl (any_of HT_.out (by kernel_rfl)) (fun _ _ _ h => h) (Or.inl ⟨by rfl,?_⟩) ?_ ?_;rotate_left
                ·intro w';go_simp;with_reducible rfl
                rotate_left
                ·simp only [wf_preprocess];rfl
                refine pure_ (i := 1) (N := some 80) (v := ?_) (a' := ?_) #[true,true,false,false,false,false,false,false,false,false,false,false,false,false,false,false,false,false,false,false] rfl rfl (any_of HT_.out (by kernel_rfl)) (fun _ _ _ h => h) (Or.inl ⟨by rfl,?_⟩) ?_ ?_;rotate_left
                ·intro w';go_simp;with_reducible rfl
                rotate_left
                ·simp only [wf_preprocess];rfl
                refine pure_ (i := 2) (N := some 81) (v := ?_) (a' := ?_) #[true,true,true,false,false,false,false,false,false,false,false,false,false,false,false,false,false,false,false,false] rfl rfl (any_of HT_.out (by kernel_rfl)) (fun _ _ _ h => h) (Or.inl ⟨by rfl,?_⟩) ?_ ?_;rotate_left
                ·intro w';go_simp;with_reducible rfl
                rotate_left
                ·simp only [wf_preprocess];rfl
                refine pure_ (i := 5) (N := some 84) (v := ?_) (a' := ?_) #[true,true,true,false,false,true,false,false,false,false,false,false,false,false,false,false,false,false,false,false] rfl rfl (any_of HT_.out (by kernel_rfl)) (fun _ _ _ h => h) (Or.inl ⟨by rfl,?_⟩) ?_ ?_;rotate_left
                ·intro w';go_simp;with_reducible rfl
                rotate_left
                ·simp only [wf_preprocess];rfl
                refine pure_ (i := 6) (N := some 85) (v := ?_) (a' := ?_) #[true,true,true,false,false,true,true,false,false,false,false,false,false,false,false,false,false,false,false,false] rfl rfl (any_of HT_.out (by kernel_rfl)) (fun _ _ _ h => h) (Or.inl ⟨by rfl,?_⟩) ?_ ?_;rotate_left
                ·intro w';go_simp;with_reducible rfl
                rotate_left
                ·simp only [wf_preprocess];rfl
                refine pure_ (i := 7) (N := some 86) (v := ?_) (a' := ?_) #[true,true,true,false,false,true,true,true,false,false,false,false,false,false,false,false,false,false,false,false] rfl rfl (any_of HT_.out (by kernel_rfl)) (fun _ _ _ h => h) (Or.inl ⟨by rfl,?_⟩) ?_ ?_;rotate_left
                ·intro w';go_simp;with_reducible rfl
                rotate_left
                ·simp only [wf_preprocess];rfl
                refine pure_ (i := 11) (N := some 90) (v := ?_) (a' := ?_) #[true,true,true,false,false,true,true,true,false,false,false,true,false,false,false,false,false,false,false,false] rfl rfl (any_of HT_.out (by kernel_rfl)) (fun _ _ _ h => h) (Or.inl ⟨by rfl,?_⟩) ?_ ?_;rotate_left
                ·intro w';go_simp;with_reducible rfl
                rotate_left
                ·simp only [wf_preprocess];rfl
                refine pure_ (i := 12) (N := some 91) (v := ?_) (a' := ?_) #[true,true,true,false,false,true,true,true,false,false,false,true,true,false,false,false,false,false,false,false] rfl rfl (any_of HT_.out (by kernel_rfl)) (fun _ _ _ h => h) (Or.inl ⟨by rfl,?_⟩) ?_ ?_;rotate_left
                ·intro w';go_simp;with_reducible rfl
                rotate_left
                ·simp only [wf_preprocess];rfl
                refine pure_ (i := 14) (N := some 93) (v := ?_) (a' := ?_) #[true,true,true,false,false,true,true,true,false,false,false,true,true,false,true,false,false,false,false,false] rfl rfl (any_of HT_.out (by kernel_rfl)) (fun _ _ _ h => h) (Or.inl ⟨by rfl,?_⟩) ?_ ?_;rotate_left
                ·intro w';go_simp;with_reducible rfl
                rotate_left
                ·simp only [wf_preprocess];rfl
                refine pure_ (i := 15) (N := some 94) (v := ?_) (a' := ?_) #[true,true,true,false,false,true,true,true,false,false,false,true,true,false,true,true,false,false,false,false] rfl rfl (any_of HT_.out (by kernel_rfl)) (fun _ _ _ h => h) (Or.inl ⟨by rfl,?_⟩) ?_ ?_;rotate_left
                ·intro w';go_simp;with_reducible rfl
                rotate_left
                ·simp only [wf_preprocess];rfl
                refine take_ (i := 3) (N := some 82) (v := ?_) (a' := ?_) #[true,true,true,true,false,true,true,true,false,false,false,true,true,false,true,true,false,false,false,false] rfl rfl (take_ofW HT_.out HW_.out (by kernel_rfl)) (fun _ _ _ h => h) (Or.inl ⟨by rfl,?_⟩) hHeld ?_ ?_;rotate_left
                ·rintro w' ⟨s0,s1,s2,s3⟩;go_simp;with_reducible rfl
                rotate_left
                ·simp only [wf_preprocess];rfl
                refine pure_ (i := 4) (N := some 83) (v := ?_) (a' := ?_) #[true,true,true,true,true,true,true,true,false,false,false,true,true,false,true,true,false,false,false,false] rfl rfl (any_of HT_.out (by kernel_rfl)) (fun _ _ _ h => h) (Or.inl ⟨by rfl,?_⟩) ?_ ?_;rotate_left
                ·intro w';go_simp;with_reducible rfl
                rotate_left
                ·simp only [wf_preprocess];rfl
                refine take_ (i := 8) (N := some 87) (v := ?_) (a' := ?_) #[true,true,true,true,true,true,true,true,true,false,false,true,true,false,true,true,false,false,false,false] rfl rfl (take_ofW HT_.out HW_.out (by kernel_rfl)) (fun _ _ _ h => h) (Or.inl ⟨by rfl,?_⟩) hHeld ?_ ?_;rotate_left
                ·rintro w' ⟨s0,s1,s2,s3⟩;go_simp;with_reducible rfl
                rotate_left
                ·simp only [wf_preprocess];rfl
                refine pure_ (i := 9) (N := some 88) (v := ?_) (a' := ?_) #[true,true,true,true,true,true,true,true,true,true,false,true,true,false,true,true,false,false,false,false] rfl rfl (any_of HT_.out (by kernel_rfl)) (fun _ _ _ h => h) (Or.inl ⟨by rfl,?_⟩) ?_ ?_;rotate_left
                ·intro w';go_simp;with_reducible rfl
                rotate_left
                ·simp only [wf_preprocess];rfl
                refine pure_ (i := 10) (N := some 89) (v := ?_) (a' := ?_) #[true,true,true,true,true,true,true,true,true,true,true,true,true,false,true,true,false,false,false,false] rfl rfl (any_of HT_.out (by kernel_rfl)) (fun _ _ _ h => h) (Or.inl ⟨by rfl,?_⟩) ?_ ?_;rotate_left
                ·intro w';go_simp;with_reducible rfl
                rotate_left
                ·simp only [wf_preprocess];rfl
                refine take_ (i := 13) (N := some 92) (v := ?_) (a' := ?_) #[true,true,true,true,true,true,true,true,true,true,true,true,true,true,true,true,false,false,false,false] rfl rfl (take_ofW HT_.out HW_.out (by kernel_rfl)) (fun _ _ _ h => h) (Or.inl ⟨by rfl,?_⟩) hHeld ?_ ?_;rotate_left
                ·rintro w' ⟨s0,s1,s2,s3⟩;go_simp;with_reducible rfl
                rotate_left
                ·simp only [wf_preprocess];rfl
                refine take_ (i := 16) (N := some 95) (v := ?_) (a' := ?_) #[true,true,true,true,true,true,true,true,true,true,true,true,true,true,true,true,true,false,false,false] rfl rfl (take_ofW HT_.out HW_.out (by kernel_rfl)) (fun _ _ _ h => h) (Or.inl ⟨by rfl,?_⟩) hHeld ?_ ?_;rotate_left
                ·rintro w' ⟨s0,s1,s2,s3⟩;go_simp;with_reducible rfl
                rotate_left
                ·simp only [wf_preprocess];rfl
                refine pure_ (i := 17) (N := some 96) (v := ?_) (a' := ?_) #[true,true,true,true,true,true,true,true,true,true,true,true,true,true,true,true,true,true,false,false] rfl rfl (any_of HT_.out (by kernel_rfl)) (fun _ _ _ h => h) (Or.inl ⟨by rfl,?_⟩) ?_ ?_;rotate_left
                ·intro w';go_simp;with_reducible rfl
                rotate_left
                ·simp only [wf_preprocess];rfl
                refine pure_ (i := 18) (N := some 97) (v := ?_) (a' := ?_) #[true,true,true,true,true,true,true,true,true,true,true,true,true,true,true,true,true,true,true,false] rfl rfl (any_of HT_.out (by kernel_rfl)) (fun _ _ _ h => h) (Or.inl ⟨by rfl,?_⟩) ?_ ?_;rotate_left
                ·intro w';go_simp;with_reducible rfl
                rotate_left
                ·simp only [wf_preprocess];rfl
                refine pure_ (i := 19) (N := some 16) (v := ?_) (a' := ?_) #[true,true,true,true,true,true,true,true,true,true,true,true,true,true,true,true,true,true,true,true] rfl rfl (any_of HT_.out (by kernel_rfl)) (fun _ _ _ h => h) (Or.inl ⟨by rfl,?_⟩) ?_ ?_;rotate_left
                ·intro w';go_simp;with_reducible rfl
                rotate_left
                ·simp only [wf_preprocess];rfl
                refine done_ (done_of HT_.out (by kernel_rfl)) ?_
                try go_wp2
                have n0_ := Aside0.mk (Kd.R_drew HO_7.out);have n1_ := Aside0.mk (Kd.R_drew HO_8.out);have n2_ := Aside0.mk (below_drew1 HB.out);clear HO_7;clear HO_8;clear HB;have HO_7 := n0_;have HO_8 := n1_;have HB := n2_;clear n0_ n1_ n2_;have p277 : 0 ≤ (1 : Int) := (by omega);have q277 : 1 < (x8_1.length : Int) := of_decide_eq_true (by (with_reducible assumption));obtain ⟨ad277,e277,hx277_0⟩ := Kd.at_int (Kd.R_reads' HO_8.out).2.2 1 p277 q277;obtain rfl : ad260 = ad277 := (by injection e277)
                (try simp only [show (1 : Int).toNat = 1 from rfl,Nat.reduceMul,Nat.reduceEqDiff,Go.Addr.add,↓reduceIte] at hx277_0)
                have qi277 : (1 < x8_1.length) = True := eq_true (by omega)
                skip
                replace p277 := eq_true p277;replace q277 := eq_true q277;have p278 : 0 ≤ (2 : Int) := (by omega);have q278 : 2 < (x8_1.length : Int) := of_decide_eq_true (by (with_reducible assumption));obtain ⟨ad278,e278,hx278_0⟩ := Kd.at_int (Kd.R_reads' HO_8.out).2.2 2 p278 q278;obtain rfl : ad260 = ad278 := (by injection e278)
                (try simp only [show (2 : Int).toNat = 2 from rfl,Nat.reduceMul,Nat.reduceEqDiff,Go.Addr.add,↓reduceIte] at hx278_0)
                have qi278 : (2 < x8_1.length) = True := eq_true (by omega)
                skip
                replace p278 := eq_true p278;replace q278 := eq_true q278;have p279 : 0 ≤ (3 : Int) := (by omega);have q279 : 3 < (x8_1.length : Int) := of_decide_eq_true (by (with_reducible assumption));obtain ⟨ad279,e279,hx279_0⟩ := Kd.at_int (Kd.R_reads' HO_8.out).2.2 3 p279 q279;obtain rfl : ad260 = ad279 := (by injection e279)
                (try simp only [show (3 : Int).toNat = 3 from rfl,Nat.reduceMul,Nat.reduceEqDiff,Go.Addr.add,↓reduceIte] at hx279_0)
                have qi279 : (3 < x8_1.length) = True := eq_true (by omega)
                skip
                replace p279 := eq_true p279;replace q279 := eq_true q279;have p280 : 0 ≤ (5 : Int) := (by omega);have q280 : 5 < (x8_1.length : Int) := of_decide_eq_true (by (with_reducible assumption));obtain ⟨ad280,e280,hx280_0⟩ := Kd.at_int (Kd.R_reads' HO_8.out).2.2 5 p280 q280;obtain rfl : ad260 = ad280 := (by injection e280)
                (try simp only [show (5 : Int).toNat = 5 from rfl,Nat.reduceMul,Nat.reduceEqDiff,Go.Addr.add,↓reduceIte] at hx280_0)
                have qi280 : (5 < x8_1.length) = True := eq_true (by omega)
                skip
                replace p280 := eq_true p280;replace q280 := eq_true q280;have p281 : 0 ≤ (6 : Int) := (by omega);have q281 : 6 < (x8_1.length : Int) := of_decide_eq_true (by (with_reducible assumption));obtain ⟨ad281,e281,hx281_0⟩ := Kd.at_int (Kd.R_reads' HO_8.out).2.2 6 p281 q281;obtain rfl : ad260 = ad281 := (by injection e281)
                (try simp only [show (6 : Int).toNat = 6 from rfl,Nat.reduceMul,Nat.reduceEqDiff,Go.Addr.add,↓reduceIte] at hx281_0)
                have qi281 : (6 < x8_1.length) = True := eq_true (by omega)
                skip
                replace p281 := eq_true p281;replace q281 := eq_true q281;refine start_ (n := 26) (S := fun w' => w'.cell? ⟨ad260.block,ad260.off + 1,none⟩ = some (.int .i64 (rd x8_1 1)) ∧ w'.cell? ⟨ad260.block,ad260.off + 2,none⟩ = some (.int .i64 (rd x8_1 2)) ∧ w'.cell? ⟨ad260.block,ad260.off + 3,none⟩ = some (.int .i64 (rd x8_1 3)) ∧ w'.cell? ⟨ad260.block,ad260.off + 5,none⟩ = some (.int .i64 (rd x8_1 5)) ∧ w'.cell? ⟨ad260.block,ad260.off + 6,none⟩ = some (.int .i64 (rd x8_1 6))) (ds := []) #[false,false,false,false,false,false,false,false,false,false,false,false,false,false,false,false,false,false,false,false,false,false,false,false,false,false] (by kernel_rfl) rfl rfl ⟨hx277_0,hx278_0,hx279_0,hx280_0,hx281_0⟩ (fun hHeld => ?_); refine with_tabW spec_l2Block.tab14 spec_l2Block.bits14 (fun HT_ HW_ => ?_)
                generalize w32.drew = w33 at HO_7 HO_8 HB hx277_0 hx278_0 hx279_0 hx280_0 hx281_0 hHeld ⊢
                refine pure_ (i := 0) (N := some 101) (v := ?_) (a' := ?_) #[true,false,false,false,false,false,false,false,false,false,false,false,false,false,false,false,false,false,false,false,false,false,false,false,false,false] rfl rfl (any_of HT_.out (by kernel_rfl)) (fun _ _ _ h => h) (Or.inl ⟨by rfl,?_⟩) ?_ ?_;rotate_left
                ·intro w';go_simp;with_reducible rfl
                rotate_left
                ·simp only [wf_preprocess];rfl
                refine pure_ (i := 1) (N := some 102) (v := ?_) (a' := ?_) #[true,true,false,false,false,false,false,false,false,false,false,false,false,false,false,false,false,false,false,false,false,false,false,false,false,false] rfl rfl (any_of HT_.out (by kernel_rfl)) (fun _ _ _ h => h) (Or.inl ⟨by rfl,?_⟩) ?_ ?_;rotate_left
                ·intro w';go_simp;with_reducible rfl
                rotate_left
                ·simp only [wf_preprocess];rfl
                refine pure_ (i := 2) (N := some 103) (v := ?_) (a' := ?_) #[true,true,true,false,false,false,false,false,false,false,false,false,false,false,false,false,false,false,false,false,false,false,false,false,false,false] rfl rfl (any_of HT_.out (by kernel_rfl)) (fun _ _ _ h => h) (Or.inl ⟨by rfl,?_⟩) ?_ ?_;rotate_left
                ·intro w';go_simp;with_reducible rfl
                rotate_left
                ·simp only [wf_preprocess];rfl
                refine pure_ (i := 3) (N := some 104) (v := ?_) (a' := ?_) #[true,true,true,true,false,false,false,false,false,false,false,false,false,false,false,false,false,false,false,false,false,false,false,false,false,false] rfl rfl (any_of HT_.out (by kernel_rfl)) (fun _ _ _ h => h) (Or.inl ⟨by rfl,?_⟩) ?_ ?_;rotate_left
                ·intro w';go_simp;with_reducible rfl
                rotate_left
                ·simp only [wf_preprocess];rfl
                refine pure_ (i := 4) (N := some 105) (v := ?_) (a' := ?_) #[true,true,true,true,true,false,false,false,false,false,false,false,false,false,false,false,false,false,false,false,false,false,false,false,false,false] rfl rfl (any_of HT_.out (by kernel_rfl)) (fun _ _ _ h => h) (Or.inl ⟨by rfl,?_⟩) ?_ ?_;rotate_left
                ·intro w';go_simp;with_reducible rfl
                rotate_left
                ·simp only [wf_preprocess];rfl
                refine pure_ (i := 5) (N := some 106) (v := ?_) (a' := ?_) #[true,true,true,true,true,true,false,false,false,false,false,false,false,false,false,false,false,false,false,false,false,false,false,false,false,false] rfl rfl (any_of HT_.out (by kernel_rfl)) (fun _ _ _ h => h) (Or.inl ⟨by rfl,?_⟩) ?_ ?_;rotate_left
                ·intro w';go_simp;with_reducible rfl
                rotate_left
                ·simp only [wf_preprocess];rfl
                refine pure_ (i := 6) (N := some 107) (v := ?_) (a' := ?_) #[true,true,true,true,true,true,true,false,false,false,false,false,false,false,false,false,false,false,false,false,false,false,false,false,false,false] rfl rfl (any_of HT_.out (by kernel_rfl)) (fun _ _ _ h => h) (Or.inl ⟨by rfl,?_⟩) ?_ ?_;rotate_left
                ·intro w';go_simp;with_reducible rfl
                rotate_left
                ·simp only [wf_preprocess];rfl
                refine pure_ (i := 8) (N := some 109) (v := ?_) (a' := ?_) #[true,true,true,true,true,true,true,false,true,false,false,false,false,false,false,false,false,false,false,false,false,false,false,false,false,false] rfl rfl (any_of HT_.out (by kernel_rfl)) (fun _ _ _ h => h) (Or.inl ⟨by rfl,?_⟩) ?_ ?_;rotate_left
                ·intro w';go_simp;with_reducible rfl
                rotate_left
                ·simp only [wf_preprocess];rfl
                refine pure_ (i := 9) (N := some 110) (v := ?_) (a' := ?_) #[true,true,true,true,true,true,true,false,true,true,false,false,false,false,false,false,false,false,false,false,false,false,false,false,false,false] rfl rfl (any_of HT_.out (by kernel_rfl)) (fun _ _ _ h => h) (Or.inl ⟨by rfl,?_⟩) ?_ ?_;rotate_left
                ·intro w';go_simp;with_reducible rfl
                rotate_left
                ·simp only [wf_preprocess];rfl
                refine pure_ (i := 11) (N := some 112) (v := ?_) (a' := ?_) #[true,true,true,true,true,true,true,false,true,true,false,true,false,false,false,false,false,false,false,false,false,false,false,false,false,false] rfl rfl (any_of HT_.out (by kernel_rfl)) (fun _ _ _ h => h) (Or.inl ⟨by rfl,?_⟩) ?_ ?_;rotate_left
                ·intro w';go_simp;with_reducible rfl
                rotate_left
                ·simp only [wf_preprocess];rfl
                refine pure_ (i := 12) (N := some 113) (v := ?_) (a' := ?_) #[true,true,true,true,true,true,true,false,true,true,false,true,true,false,false,false,false,false,false,false,false,false,false,false,false,false] rfl rfl (any_of HT_.out (by kernel_rfl)) (fun _ _ _ h => h) (Or.inl ⟨by rfl,?_⟩) ?_ ?_;rotate_left
                ·intro w';go_simp;with_reducible rfl
                rotate_left
                ·simp only [wf_preprocess];rfl
                refine pure_ (i := 14) (N := some 115) (v := ?_) (a' := ?_) #[true,true,true,true,true,true,true,false,true,true,false,true,true,false,true,false,false,false,false,false,false,false,false,false,false,false] rfl rfl (any_of HT_.out (by kernel_rfl)) (fun _ _ _ h => h) (Or.inl ⟨by rfl,?_⟩) ?_ ?_;rotate_left
                ·intro w';go_simp;with_reducible rfl
                rotate_left
                ·simp only [wf_preprocess];rfl
                refine pure_ (i := 17) (N := some 118) (v := ?_) (a' := ?_) #[true,true,true,true,true,true,true,false,true,true,false,true,true,false,true,false,false,true,false,false,false,false,false,false,false,false] rfl rfl (any_of HT_.out (by kernel_rfl)) (fun _ _ _ h => h) (Or.inl ⟨by rfl,?_⟩) ?_ ?_;rotate_left
                ·intro w';go_simp;with_reducible rfl
                rotate_left
                ·simp only [wf_preprocess];rfl
                refine pure_ (i := 18) (N := some 119) (v := ?_) (a' := ?_) #[true,true,true,true,true,true,true,false,true,true,false,true,true,false,true,false,false,true,true,false,false,false,false,false,false,false] rfl rfl (any_of HT_.out (by kernel_rfl)) (fun _ _ _ h => h) (Or.inl ⟨by rfl,?_⟩) ?_ ?_;rotate_left
                ·intro w';go_simp;with_reducible rfl
                rotate_left
                ·simp only [wf_preprocess];rfl
                refine pure_ (i := 19) (N := some 120) (v := ?_) (a' := ?_) #[true,true,true,true,true,true,true,false,true,true,false,true,true,false,true,false,false,true,true,true,false,false,false,false,false,false] rfl rfl (any_of HT_.out (by kernel_rfl)) (fun _ _ _ h => h) (Or.inl ⟨by rfl,?_⟩) ?_ ?_;rotate_left
                ·intro w';go_simp;with_reducible rfl
                rotate_left
                ·simp only [wf_preprocess];rfl
                refine pure_ (i := 21) (N := some 122) (v := ?_) (a' := ?_) #[true,true,true,true,true,true,true,false,true,true,false,true,true,false,true,false,false,true,true,true,false,true,false,false,false,false] rfl rfl (any_of HT_.out (by kernel_rfl)) (fun _ _ _ h => h) (Or.inl ⟨by rfl,?_⟩) ?_ ?_;rotate_left
                ·intro w';go_simp;with_reducible rfl
                rotate_left
                ·simp only [wf_preprocess];rfl
                refine pure_ (i := 22) (N := some 123) (v := ?_) (a' := ?_) #[true,true,true,true,true,true,true,false,true,true,false,true,true,false,true,false,false,true,true,true,false,true,true,false,false,false] rfl rfl (any_of HT_.out (by kernel_rfl)) (fun _ _ _ h => h) (Or.inl ⟨by rfl,?_⟩) ?_ ?_;rotate_left
                ·intro w';go_simp;with_reducible rfl
                rotate_left
                ·simp only [wf_preprocess];rfl
                refine take_ (i := 7) (N := some 108) (v := ?_) (a' := ?_) #[true,true,true,true,true,true,true,true,true,true,false,true,true,false,true,false,false,true,true,true,false,true,true,false,false,false] rfl rfl (take_ofW HT_.out HW_.out (by kernel_rfl)) (fun _ _ _ h => h) (Or.inl ⟨by rfl,?_⟩) hHeld ?_ ?_;rotate_left
                ·rintro w' ⟨s0,s1,s2,s3,s4⟩;go_simp;with_reducible rfl
                rotate_left
                ·simp only [wf_preprocess];rfl
                refine take_ (i := 10) (N := some 111) (v := ?_) (a' := ?_) #[true,true,true,true,true,true,true,true,true,true,true,true,true,false,true,false,false,true,true,true,false,true,true,false,false,false] rfl rfl (take_ofW HT_.out HW_.out (by kernel_rfl)) (fun _ _ _ h => h) (Or.inl ⟨by rfl,?_⟩) hHeld ?_ ?_;rotate_left
                ·rintro w' ⟨s0,s1,s2,s3,s4⟩;go_simp;with_reducible rfl
                rotate_left
                ·simp only [wf_preprocess];rfl
                refine take_ (i := 13) (N := some 114) (v := ?_) (a' := ?_) #[true,true,true,true,true,true,true,true,true,true,true,true,true,true,true,false,false,true,true,true,false,true,true,false,false,false] rfl rfl (take_ofW HT_.out HW_.out (by kernel_rfl)) (fun _ _ _ h => h) (Or.inl ⟨by rfl,?_⟩) hHeld ?_ ?_;rotate_left
                ·rintro w' ⟨s0,s1,s2,s3,s4⟩;go_simp;with_reducible rfl
                rotate_left
                ·simp only [wf_preprocess];rfl
                refine pure_ (i := 15) (N := some 116) (v := ?_) (a' := ?_) #[true,true,true,true,true,true,true,true,true,true,true,true,true,true,true,true,false,true,true,true,false,true,true,false,false,false] rfl rfl (any_of HT_.out (by kernel_rfl)) (fun _ _ _ h => h) (Or.inl ⟨by rfl,?_⟩) ?_ ?_;rotate_left
                ·intro w';go_simp;with_reducible rfl
                rotate_left
                ·simp only [wf_preprocess];rfl
                refine pure_ (i := 16) (N := some 117) (v := ?_) (a' := ?_) #[true,true,true,true,true,true,true,true,true,true,true,true,true,true,true,true,true,true,true,true,false,true,true,false,false,false] rfl rfl (any_of HT_.out (by kernel_rfl)) (fun _ _ _ h => h) (Or.inl ⟨by rfl,?_⟩) ?_ ?_;rotate_left
                ·intro w';go_simp;with_reducible rfl
                rotate_left
                ·simp only [wf_preprocess];rfl
                refine take_ (i := 20) (N := some 121) (v := ?_) (a' := ?_) #[true,true,true,true,true,true,true,true,true,true,true,true,true,true,true,true,true,true,true,true,true,true,true,false,false,false] rfl rfl (take_ofW HT_.out HW_.out (by kernel_rfl)) (fun _ _ _ h => h) (Or.inl ⟨by rfl,?_⟩) hHeld ?_ ?_;rotate_left
                ·rintro w' ⟨s0,s1,s2,s3,s4⟩;go_simp;with_reducible rfl
                rotate_left
                ·simp only [wf_preprocess];rfl
                refine take_ (i := 23) (N := some 124) (v := ?_) (a' := ?_) #[true,true,true,true,true,true,true,true,true,true,true,true,true,true,true,true,true,true,true,true,true,true,true,true,false,false] rfl rfl (take_ofW HT_.out HW_.out (by kernel_rfl)) (fun _ _ _ h => h) (Or.inl ⟨by rfl,?_⟩) hHeld ?_ ?_;rotate_left
                ·rintro w' ⟨s0,s1,s2,s3,s4⟩;go_simp;with_reducible rfl
                rotate_left
                ·simp only [wf_preprocess];rfl
                refine one_ (i := 24) (N := some 125) #[true,true,true,true,true,true,true,true,true,true,true,true,true,true,true,true,true,true,true,true,true,true,true,true,true,false] rfl rfl (one_of HT_.out (by kernel_rfl)) (by decide) (fun K hK => ?_);refine Kd.R_lit_step (Kd.int .i64) _ 3 ?hg (N := 125) ?hd (xs := ([Go.bits .and .i64 (wrap64 ((wrap64 ((wrap64 ((wrap64 ((wrap64 ((rd x8_1 7) + (Go.bits .xor .i64 (Go.bits .xor .i64 t261 t262) t263))) + (Go.bits .xor .i64 (Go.bits .and .i64 (rd x8_1 4) (rd x8_1 5)) (Go.bits .and .i64 (Go.bits .xor .i64 4294967295 (rd x8_1 4)) (rd x8_1 6))))) + (rd l2 x9_1))) + (rd t251 x9_1))) + (wrap64 ((Go.bits .xor .i64 (Go.bits .xor .i64 t270 t271) t272) + (Go.bits .xor .i64 (Go.bits .xor .i64 (Go.bits .and .i64 (rd x8_1 0) (rd x8_1 1)) (Go.bits .and .i64 (rd x8_1 0) (rd x8_1 2))) (Go.bits .and .i64 (rd x8_1 1) (rd x8_1 2))))))) 4294967295,rd x8_1 0,rd x8_1 1,rd x8_1 2,Go.bits .and .i64 (wrap64 ((rd x8_1 3) + (wrap64 ((wrap64 ((wrap64 ((wrap64 ((rd x8_1 7) + (Go.bits .xor .i64 (Go.bits .xor .i64 t261 t262) t263))) + (Go.bits .xor .i64 (Go.bits .and .i64 (rd x8_1 4) (rd x8_1 5)) (Go.bits .and .i64 (Go.bits .xor .i64 4294967295 (rd x8_1 4)) (rd x8_1 6))))) + (rd l2 x9_1))) + (rd t251 x9_1))))) 4294967295,rd x8_1 4,rd x8_1 5,rd x8_1 6] : List Int)) (inner := [.int .i64 (Go.bits .and .i64 (wrap64 ((wrap64 ((wrap64 ((wrap64 ((wrap64 ((rd x8_1 7) + (Go.bits .xor .i64 (Go.bits .xor .i64 t261 t262) t263))) + (Go.bits .xor .i64 (Go.bits .and .i64 (rd x8_1 4) (rd x8_1 5)) (Go.bits .and .i64 (Go.bits .xor .i64 4294967295 (rd x8_1 4)) (rd x8_1 6))))) + (rd l2 x9_1))) + (rd t251 x9_1))) + (wrap64 ((Go.bits .xor .i64 (Go.bits .xor .i64 t270 t271) t272) + (Go.bits .xor .i64 (Go.bits .xor .i64 (Go.bits .and .i64 (rd x8_1 0) (rd x8_1 1)) (Go.bits .and .i64 (rd x8_1 0) (rd x8_1 2))) (Go.bits .and .i64 (rd x8_1 1) (rd x8_1 2))))))) 4294967295),.int .i64 (rd x8_1 0),.int .i64 (rd x8_1 1),.int .i64 (rd x8_1 2),.int .i64 (Go.bits .and .i64 (wrap64 ((rd x8_1 3) + (wrap64 ((wrap64 ((wrap64 ((wrap64 ((rd x8_1 7) + (Go.bits .xor .i64 (Go.bits .xor .i64 t261 t262) t263))) + (Go.bits .xor .i64 (Go.bits .and .i64 (rd x8_1 4) (rd x8_1 5)) (Go.bits .and .i64 (Go.bits .xor .i64 4294967295 (rd x8_1 4)) (rd x8_1 6))))) + (rd l2 x9_1))) + (rd t251 x9_1))))) 4294967295),.int .i64 (rd x8_1 4),.int .i64 (rd x8_1 5),.int .i64 (rd x8_1 6)]) (ok := fun _ => True) (okp := fun _ => True) ?hr ?hp (fun _ hk => hk) trivial (Below.refl _ _) (Nat.le_refl _) (by simp) ?_; (case hd => rfl); (case hg => rfl); (case hr => (go_simp; done)); (case hp => exact (Reps.one (show Kd.M (Kd.int .i64) _ _ _ (Go.bits .and .i64 (wrap64 ((wrap64 ((wrap64 ((wrap64 ((wrap64 ((rd x8_1 7) + (Go.bits .xor .i64 (Go.bits .xor .i64 t261 t262) t263))) + (Go.bits .xor .i64 (Go.bits .and .i64 (rd x8_1 4) (rd x8_1 5)) (Go.bits .and .i64 (Go.bits .xor .i64 4294967295 (rd x8_1 4)) (rd x8_1 6))))) + (rd l2 x9_1))) + (rd t251 x9_1))) + (wrap64 ((Go.bits .xor .i64 (Go.bits .xor .i64 t270 t271) t272) + (Go.bits .xor .i64 (Go.bits .xor .i64 (Go.bits .and .i64 (rd x8_1 0) (rd x8_1 1)) (Go.bits .and .i64 (rd x8_1 0) (rd x8_1 2))) (Go.bits .and .i64 (rd x8_1 1) (rd x8_1 2))))))) 4294967295) [.int .i64 (Go.bits .and .i64 (wrap64 ((wrap64 ((wrap64 ((wrap64 ((wrap64 ((rd x8_1 7) + (Go.bits .xor .i64 (Go.bits .xor .i64 t261 t262) t263))) + (Go.bits .xor .i64 (Go.bits .and .i64 (rd x8_1 4) (rd x8_1 5)) (Go.bits .and .i64 (Go.bits .xor .i64 4294967295 (rd x8_1 4)) (rd x8_1 6))))) + (rd l2 x9_1))) + (rd t251 x9_1))) + (wrap64 ((Go.bits .xor .i64 (Go.bits .xor .i64 t270 t271) t272) + (Go.bits .xor .i64 (Go.bits .xor .i64 (Go.bits .and .i64 (rd x8_1 0) (rd x8_1 1)) (Go.bits .and .i64 (rd x8_1 0) (rd x8_1 2))) (Go.bits .and .i64 (rd x8_1 1) (rd x8_1 2))))))) 4294967295)] from rfl) (Reps.one (show Kd.M (Kd.int .i64) _ _ _ (rd x8_1 0) [.int .i64 (rd x8_1 0)] from rfl) (Reps.one (show Kd.M (Kd.int .i64) _ _ _ (rd x8_1 1) [.int .i64 (rd x8_1 1)] from rfl) (Reps.one (show Kd.M (Kd.int .i64) _ _ _ (rd x8_1 2) [.int .i64 (rd x8_1 2)] from rfl) (Reps.one (show Kd.M (Kd.int .i64) _ _ _ (Go.bits .and .i64 (wrap64 ((rd x8_1 3) + (wrap64 ((wrap64 ((wrap64 ((wrap64 ((rd x8_1 7) + (Go.bits .xor .i64 (Go.bits .xor .i64 t261 t262) t263))) + (Go.bits .xor .i64 (Go.bits .and .i64 (rd x8_1 4) (rd x8_1 5)) (Go.bits .and .i64 (Go.bits .xor .i64 4294967295 (rd x8_1 4)) (rd x8_1 6))))) + (rd l2 x9_1))) + (rd t251 x9_1))))) 4294967295) [.int .i64 (Go.bits .and .i64 (wrap64 ((rd x8_1 3) + (wrap64 ((wrap64 ((wrap64 ((wrap64 ((rd x8_1 7) + (Go.bits .xor .i64 (Go.bits .xor .i64 t261 t262) t263))) + (Go.bits .xor .i64 (Go.bits .and .i64 (rd x8_1 4) (rd x8_1 5)) (Go.bits .and .i64 (Go.bits .xor .i64 4294967295 (rd x8_1 4)) (rd x8_1 6))))) + (rd l2 x9_1))) + (rd t251 x9_1))))) 4294967295)] from rfl) (Reps.one (show Kd.M (Kd.int .i64) _ _ _ (rd x8_1 4) [.int .i64 (rd x8_1 4)] from rfl) (Reps.one (show Kd.M (Kd.int .i64) _ _ _ (rd x8_1 5) [.int .i64 (rd x8_1 5)] from rfl) (Reps.one (show Kd.M (Kd.int .i64) _ _ _ (rd x8_1 6) [.int .i64 (rd x8_1 6)] from rfl) (Reps.none _ _))))))))));intro v283 w34 ho35 hb hg_ hnew_;have HS0_ := (hb.cell (World.block_lt_of_cell? _ _ (hHeld.1))).trans (hHeld.1);have HS1_ := (hb.cell (World.block_lt_of_cell? _ _ (hHeld.2.1))).trans (hHeld.2.1);have HS2_ := (hb.cell (World.block_lt_of_cell? _ _ (hHeld.2.2.1))).trans (hHeld.2.2.1);have HS3_ := (hb.cell (World.block_lt_of_cell? _ _ (hHeld.2.2.2.1))).trans (hHeld.2.2.2.1);have HS4_ := (hb.cell (World.block_lt_of_cell? _ _ (hHeld.2.2.2.2))).trans (hHeld.2.2.2.2);clear hg_ hnew_
                (rw [← Ny282.out] at ho35)
                have n0_ := Aside0.mk (Kd.R_elder' (by exact HO_7.out) (Kd.R_base ho35) hb);have n1_ := Aside0.mk (Kd.R_elder' (by exact HO_8.out) (Kd.R_base ho35) hb);have n2_ := Aside0.mk (Kd.R_lower (Kd.R_new' (Kd.R_new' ho35 (Kd.R_lt (by exact HO_7.out))) (Kd.R_lt (by exact HO_8.out))) (below_size HB.out));have n3_ := Aside0.mk (below_step HB.out hb);clear HO_7;clear HO_8;clear HB;have HO_7 := n0_;have HO_8 := n1_;have HO284 := n2_;have HB := n3_;clear n0_ n1_ n2_ n3_;clear hb ho35;refine hK.out _ _ ⟨HS0_,HS1_,HS2_,HS3_,HS4_⟩ (fun hHeld => ?_);clear hK K;refine norm_ (a' := ?_) ?_ ?_;rotate_left
                ·show Act.put _ (some 125) _ = _
                 simp only [wf_preprocess];rfl
                refine pure_ (i := 25) (N := some 8) (v := ?_) (a' := ?_) #[true,true,true,true,true,true,true,true,true,true,true,true,true,true,true,true,true,true,true,true,true,true,true,true,true,true] rfl rfl (any_of HT_.out (by kernel_rfl)) (fun _ _ _ h => h) (Or.inl ⟨by rfl,?_⟩) ?_ ?_;rotate_left
                ·intro w';go_simp;with_reducible rfl
                rotate_left
                ·simp only [wf_preprocess];rfl
                refine done_ (done_of HT_.out (by kernel_rfl)) ?_
                try go_wp2
                go_roundg k1
                case measure => have := HK1.out; omega
                case rel => exact ⟨(y282),(wrap64 (x9_1 + 1)),(by rfl),H',⟨by have := HK1.out; omega⟩,⟨by exact Kd.R_mono HO_7.out (fun _ hk => hk.2)⟩,⟨by exact Kd.R_mono HO284.out (fun _ hk => hk.1.2)⟩,⟨HB.out⟩⟩
               ·rw [if_neg c27] at H;exact absurd H (by simp)
              ·rw [if_neg c26] at H;exact absurd H (by simp)
             ·rw [if_neg c25] at H;exact absurd H (by simp)
            ·rw [if_neg c21] at H;exact absurd H (by simp)
           ·rw [if_neg c20] at H;exact absurd H (by simp)
          ·rw [if_neg c19] at H;exact absurd H (by simp)
         ·rw [if_neg c18] at H;exact absurd H (by simp)
        ·rw [if_neg c17] at H;exact absurd H (by simp)
       ·rw [if_neg c16] at H;exact absurd H (by simp)
      ·rw [if_neg c15] at H;exact absurd H (by simp)
     ·rw [if_neg c11] at H;exact absurd H (by simp)
    ·rw [if_neg c10] at H;have c10b0 : decide (x9_1 < 64) = false := decide_eq_false c10;clear c10;have H' := Aside0.mk H;clear H;go_wp2
     go_loopg [18] k1 (fun kq v18 w' => ∃ (x8_2 : List Int) (x18_2 : Int),v18 = .int .i64 x18_2 ∧ Aside0 (spec_l2Block.l1 kq l0 x8_2 x18_2 = some r) ∧ Aside0 (kq ≤ k1) ∧ Aside0 (Kd.R (Kd.int .i64) 3 w' w.heap.size (fun _ => True) u8 x8_2) ∧ Aside0 (Below w.heap.size w w'))
     case atStart => exact ⟨(x8_1),(0),(by rfl),H',⟨Nat.le_refl _⟩,⟨by exact Kd.R_mono HO_8.out (fun _ hk => trivial)⟩,⟨HB.out⟩⟩
     case round =>
      clear H'
      try clear c1
      try clear c2
      try clear p2
      try clear q2
      try clear hx2
      try clear qi2
      try clear p6
      try clear c8
      try clear c10
      try clear c10b0
      try clear c11
      try clear c15
      try clear c16
      try clear c17
      try clear c18
      try clear c19
      try clear c20
      try clear c21
      try clear c25
      try clear c26
      try clear p26
      try clear q26
      try clear hx26
      try clear qi26
      try clear c27
      try clear p27
      try clear q27
      try clear hx27
      try clear qi27
      try clear p28
      try clear q28
      try clear hx28
      try clear qi28
      try clear hx269_0
      try clear hx273_0
      try clear hx274_0
      try clear hx275_0
      try clear hx276_0
      try clear hx277_0
      try clear hx278_0
      try clear hx279_0
      try clear hx280_0
      try clear hx281_0
      try clear p269
      try clear p273
      try clear p274
      try clear p275
      try clear p276
      try clear p277
      try clear p278
      try clear p279
      try clear p280
      try clear p281
      try clear q269
      try clear q273
      try clear q274
      try clear q275
      try clear q276
      try clear q277
      try clear q278
      try clear q279
      try clear q280
      try clear q281
      obtain ⟨x8_2,x18_2,rfl,HA,HK2,HO_8,HB⟩ := hrel
      cases gk with
      | zero => exact absurd HA.out (by simp [spec_l2Block.l1])
      | succ k2 =>
       have H := HA.out;clear HA;simp only [spec_l2Block.l1] at H
       by_cases c36 : x18_2 < 8
       ·rw [if_pos c36] at H;have c36b0 : decide (x18_2 < 8) = true := decide_eq_true c36;clear c36
        by_cases c37 : 0 ≤ x18_2
        ·rw [if_pos c37] at H;have c37b0 : decide (0 ≤ x18_2) = true := decide_eq_true c37;clear c37
         by_cases c38 : x18_2 < (x8_2.length : Int)
         ·rw [if_pos c38] at H;have c38b0 : decide (x18_2 < (x8_2.length : Int)) = true := decide_eq_true c38;clear c38
          by_cases c39 : x18_2 < (l0.length : Int)
          ·rw [if_pos c39] at H;have c39b0 : decide (x18_2 < (l0.length : Int)) = true := decide_eq_true c39;clear c39;obtain ⟨y287,hy287⟩ : ∃ y_ : List Int,y_ = (x8_2.set (x18_2 : Int).toNat (Go.bits .and .i64 (wrap64 ((rd x8_2 x18_2) + (rd l0 x18_2))) 4294967295)) := ⟨_,rfl⟩
           replace H : (spec_l2Block.l1 k2 l0 y287 (wrap64 (x18_2 + 1))) = some r := by (rw [hy287]; with_reducible exact H)
           have Ny287 := Aside0.mk hy287;clear hy287;have H' := Aside0.mk H;clear H
           try go_wp2
           have n0_ := Aside0.mk (Kd.R_drew HO_8.out);have n1_ := Aside0.mk (below_drew1 HB.out);clear HO_8;clear HB;have HO_8 := n0_;have HB := n1_;clear n0_ n1_;obtain ⟨Ao42,co42,eo42⟩ := Kd.R_slice HO_8.out
           (subst eo42)
           have p285 : 0 ≤ (x18_2 : Int) := of_decide_eq_true (by (with_reducible assumption));have q285 : x18_2 < (x8_2.length : Int) := of_decide_eq_true (by (with_reducible assumption));obtain ⟨ad285,e285,hx285_0⟩ := Kd.at_int (Kd.R_reads' HO_8.out).2.2 x18_2 p285 q285
           cases e285
           replace p285 := eq_true p285;replace q285 := eq_true q285;have p286 : 0 ≤ (x18_2 : Int) := of_decide_eq_true (by (with_reducible assumption));have q286 : x18_2 < (l0.length : Int) := of_decide_eq_true (by (with_reducible assumption));obtain ⟨ad286,e286,hx286_0⟩ := Kd.at_int HR0.out x18_2 p286 q286;have hw286_0 := hx286_0
           cases e286
           replace hx286_0 := (HB.out.cell (World.block_lt_of_cell? w _ hx286_0)).trans hx286_0;replace p286 := eq_true p286;replace q286 := eq_true q286;have p40 : 0 ≤ (x18_2 : Int) := of_decide_eq_true (by (with_reducible assumption));have q40 : (x18_2 : Int) < ((x8_2.length : Int) : Int) := of_decide_eq_true (by (with_reducible assumption));obtain ⟨go40,co40,eo40,gb40,gl40,cl40,HG40⟩ := Kd.R_form HO_8.out (by omega)
           (cases eo40)
           have GB40 := Aside0.mk gb40;have GG40 := Aside0.mk HG40;clear gb40 gl40 HG40
           (simp only [add_plain] at hx285_0)
           obtain ⟨hx40_0,hf40_0⟩ := Kd.R_celln 0 HO_8.out (x18_2 : Int) p40 q40;replace p40 := eq_true p40;replace q40 := eq_true q40;have HP43 := Kd.R_putn HO_8.out (x18_2 : Int) (Go.bits .and .i64 (wrap64 ((rd x8_2 x18_2) + (rd l0 x18_2))) 4294967295);rw [← Ny287.out] at HP43;have HQ43 := Aside0.mk HP43;clear HP43;refine start_ (n := 14) (S := fun w' => w'.cell? ⟨go40,(x18_2).toNat,none⟩ = some (.int .i64 (rd x8_2 x18_2)) ∧ w'.cell? (ad286.add (x18_2).toNat) = some (.int .i64 (rd l0 x18_2))) (ds := [13]) #[false,false,false,false,false,false,false,false,false,false,false,false,false,false] (by kernel_rfl) rfl rfl ⟨hx285_0,((HB.out.cell (World.block_lt_of_cell? w _ hw286_0)).trans hw286_0)⟩ (fun hHeld => ?_); refine with_tabW spec_l2Block.tab18 spec_l2Block.bits18 (fun HT_ HW_ => ?_)
           generalize wr.drew = w41 at HO_8 HB GG40 HQ43 hf40_0 hx285_0 hx286_0 hx40_0 hHeld ⊢
           refine pure_ (i := 0) (N := some 130) (v := ?_) (a' := ?_) #[true,false,false,false,false,false,false,false,false,false,false,false,false,false] rfl rfl (any_of HT_.out (by kernel_rfl)) (fun _ _ _ h => h) (Or.inl ⟨by rfl,?_⟩) ?_ ?_;rotate_left
           ·intro w';go_simp;with_reducible rfl
           rotate_left
           ·simp only [wf_preprocess];rfl
           refine pure_ (i := 1) (N := some 131) (v := ?_) (a' := ?_) #[true,true,false,false,false,false,false,false,false,false,false,false,false,false] rfl rfl (any_of HT_.out (by kernel_rfl)) (fun _ _ _ h => h) (Or.inl ⟨by rfl,?_⟩) ?_ ?_;rotate_left
           ·intro w';go_simp;with_reducible rfl
           rotate_left
           ·simp only [wf_preprocess];rfl
           refine pure_ (i := 2) (N := some 132) (v := ?_) (a' := ?_) #[true,true,true,false,false,false,false,false,false,false,false,false,false,false] rfl rfl (any_of HT_.out (by kernel_rfl)) (fun _ _ _ h => h) (Or.inl ⟨by rfl,?_⟩) ?_ ?_;rotate_left
           ·intro w';go_simp;with_reducible rfl
           rotate_left
           ·simp only [wf_preprocess];rfl
           refine pure_ (i := 3) (N := some 133) (v := ?_) (a' := ?_) #[true,true,true,true,false,false,false,false,false,false,false,false,false,false] rfl rfl (any_of HT_.out (by kernel_rfl)) (fun _ _ _ h => h) (Or.inl ⟨by rfl,?_⟩) ?_ ?_;rotate_left
           ·intro w';go_simp;with_reducible rfl
           rotate_left
           ·simp only [wf_preprocess];rfl
           refine pure_ (i := 4) (N := some 134) (v := ?_) (a' := ?_) #[true,true,true,true,true,false,false,false,false,false,false,false,false,false] rfl rfl (any_of HT_.out (by kernel_rfl)) (fun _ _ _ h => h) (Or.inl ⟨by rfl,?_⟩) ?_ ?_;rotate_left
           ·intro w';go_simp;with_reducible rfl
           rotate_left
           ·simp only [wf_preprocess];rfl
           refine pure_ (i := 6) (N := some 136) (v := ?_) (a' := ?_) #[true,true,true,true,true,false,true,false,false,false,false,false,false,false] rfl rfl (any_of HT_.out (by kernel_rfl)) (fun _ _ _ h => h) (Or.inl ⟨by rfl,?_⟩) ?_ ?_;rotate_left
           ·intro w';go_simp;with_reducible rfl
           rotate_left
           ·simp only [wf_preprocess];rfl
           refine pure_ (i := 7) (N := some 137) (v := ?_) (a' := ?_) #[true,true,true,true,true,false,true,true,false,false,false,false,false,false] rfl rfl (any_of HT_.out (by kernel_rfl)) (fun _ _ _ h => h) (Or.inl ⟨by rfl,?_⟩) ?_ ?_;rotate_left
           ·intro w';go_simp;with_reducible rfl
           rotate_left
           ·simp only [wf_preprocess];rfl
           refine pure_ (i := 8) (N := some 138) (v := ?_) (a' := ?_) #[true,true,true,true,true,false,true,true,true,false,false,false,false,false] rfl rfl (any_of HT_.out (by kernel_rfl)) (fun _ _ _ h => h) (Or.inl ⟨by rfl,?_⟩) ?_ ?_;rotate_left
           ·intro w';go_simp;with_reducible rfl
           rotate_left
           ·simp only [wf_preprocess];rfl
           refine take_ (i := 5) (N := some 135) (v := ?_) (a' := ?_) #[true,true,true,true,true,true,true,true,true,false,false,false,false,false] rfl rfl (take_ofW HT_.out HW_.out (by kernel_rfl)) (fun _ _ _ h => h) (Or.inl ⟨by rfl,?_⟩) hHeld ?_ ?_;rotate_left
           ·rintro w' ⟨s0,s1⟩;go_simp;with_reducible rfl
           rotate_left
           ·simp only [wf_preprocess];rfl
           refine take_ (i := 9) (N := some 139) (v := ?_) (a' := ?_) #[true,true,true,true,true,true,true,true,true,true,false,false,false,false] rfl rfl (take_ofW HT_.out HW_.out (by kernel_rfl)) (fun _ _ _ h => h) (Or.inl ⟨by rfl,?_⟩) hHeld ?_ ?_;rotate_left
           ·rintro w' ⟨s0,s1⟩;go_simp;with_reducible rfl
           rotate_left
           ·simp only [wf_preprocess];rfl
           refine pure_ (i := 10) (N := some 140) (v := ?_) (a' := ?_) #[true,true,true,true,true,true,true,true,true,true,true,false,false,false] rfl rfl (any_of HT_.out (by kernel_rfl)) (fun _ _ _ h => h) (Or.inl ⟨by rfl,?_⟩) ?_ ?_;rotate_left
           ·intro w';go_simp;with_reducible rfl
           rotate_left
           ·simp only [wf_preprocess];rfl
           refine pure_ (i := 11) (N := some 141) (v := ?_) (a' := ?_) #[true,true,true,true,true,true,true,true,true,true,true,true,false,false] rfl rfl (any_of HT_.out (by kernel_rfl)) (fun _ _ _ h => h) (Or.inl ⟨by rfl,?_⟩) ?_ ?_;rotate_left
           ·intro w';go_simp;with_reducible rfl
           rotate_left
           ·simp only [wf_preprocess];rfl
           refine pure_ (i := 12) (N := some 142) (v := ?_) (a' := ?_) #[true,true,true,true,true,true,true,true,true,true,true,true,true,false] rfl rfl (any_of HT_.out (by kernel_rfl)) (fun _ _ _ h => h) (Or.inl ⟨by rfl,?_⟩) ?_ ?_;rotate_left
           ·intro w';go_simp;with_reducible rfl
           rotate_left
           ·simp only [wf_preprocess];rfl
           refine last_ (i := 13) (N := none) #[true,true,true,true,true,true,true,true,true,true,true,true,true,true] rfl rfl (one_of HT_.out (by kernel_rfl)) (by decide) (fun K hK => ?_);refine skip_ (w1 := ?_) (by rfl) rfl ?_ ?_;rotate_left
           ·go_simp;rfl
           refine hK.out _ _ ?_;clear hK K;refine done_ (done_of HT_.out (by kernel_rfl)) ?_
           try go_wp2
           go_roundg k2
           case measure => have := HK1.out; have := HK2.out; omega
           case rel => exact ⟨(y287),(wrap64 (x18_2 + 1)),(by rfl),H',⟨by have := HK1.out; have := HK2.out; omega⟩,⟨by exact HQ43.out⟩,⟨by repeat (with_reducible first | exact HB.out | refine below_set ?_ GB40.out)⟩⟩
          ·rw [if_neg c39] at H;exact absurd H (by simp)
         ·rw [if_neg c38] at H;exact absurd H (by simp)
        ·rw [if_neg c37] at H;exact absurd H (by simp)
       ·rw [if_neg c36] at H;have c36b0 : decide (x18_2 < 8) = false := decide_eq_false c36;clear c36;obtain rfl := Option.some.inj H;go_wp2;go_ret;exact ⟨_,by rfl,by exact HO_8.out,HB.out⟩
 ·rw [if_neg c5] at H;exact absurd H (by simp)

end Go.Proofs.Ytgbbgdlenadhlaa.PJ
