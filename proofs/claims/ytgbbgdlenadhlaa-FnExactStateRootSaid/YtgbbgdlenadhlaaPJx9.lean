/- The machine's side of Go functions: each as a plain function,and that the call does what it says. Written by a program (wip/mprint). -/
import Derived.Test.YtgbbgdlenadhlaaPJx0
import Derived.Test.YtgbbgdlenadhlaaPJx6
import Derived.Test.YtgbbgdlenadhlaaPJx8
namespace Go.Proofs.Ytgbbgdlenadhlaa.PJ
open Go.RowKit Go.Proofs.YtgbbgdlenadhlaaW.PrintWords Go.Proofs.YtgbbgdlenadhlaaW.PrintLast Go.Proofs.YtgbbgdlenadhlaaW.PrintMore
attribute [local wf_preprocess] Act.put List.setIfInBounds_toArray List.set_cons_zero List.set_cons_succ i64_w i32_w
attribute [local go_sem] max2_int min2_int max_two min_two max_three min_three max_four min_four   -- for this text's walks alone
set_option linter.unusedVariables false
set_option linter.unusedSimpArgs false

/-! ### spec_Digest: function 21 -/
mutual
def spec_Digest.l0 : Nat → List Int → List Int → List Int → Int → Option (ByteArray)
 | 0,_,_,_,_ => none
 | k + 1,x3,x4,x5,x6 => if x6 < (x3.length : Int) then (if 0 ≤ x6 then (if x6 ≤ (wrap64 (x6 + 64)) then (if (wrap64 (x6 + 64)) ≤ (x3.length : Int) then ((spec_l2Block.f k x4 ((x3.take ((wrap64 (x6 + 64)) : Int).toNat).drop (x6 : Int).toNat) x5).bind fun t301 => (spec_Digest.l0 k x3 t301 x5 (wrap64 (x6 + 64)))) else (none)) else (none)) else (none)) else (spec_Digest.l1 k x4 ([] : List Int) 0)
def spec_Digest.l1 : Nat → List Int → List Int → Int → Option (ByteArray)
 | 0,_,_,_ => none
 | k + 1,x4,x7,x8 => if x8 < 8 then (if 0 ≤ x8 then (if x8 < (x4.length : Int) then ((some (([((rd x4 x8) / 16777216) % 256,((rd x4 x8) / 65536) % 256,((rd x4 x8) / 256) % 256,(rd x4 x8) % 256] : List Int) : List Int)).bind fun y311 => (if x7.length + y311.length < 140737488355328 then (spec_Digest.l1 k x4 (x7 ++ y311) (wrap64 (x8 + 1))) else (none))) else (none)) else (none)) else (some (strOfNums x7))
end
def spec_Digest.f (k : Nat) (l0 : List Int) : Option (ByteArray) := (spec_Padded.f k l0).bind fun t288 => ((spec_l2K.f).bind fun t294 => (spec_Digest.l0 k t288 ([1779033703,3144134277,1013904242,2773480762,1359893119,2600822924,528734635,1541459225] : List Int) t294 0))
theorem spec_Digest.mono_l : ∀ k,(∀ y0 y1 y2 y3,LeO (spec_Digest.l0 k y0 y1 y2 y3) (spec_Digest.l0 (k + 1) y0 y1 y2 y3)) ∧ (∀ y0 y1 y2,LeO (spec_Digest.l1 k y0 y1 y2) (spec_Digest.l1 (k + 1) y0 y1 y2))
 | 0 => ⟨fun _ _ _ _ r h => by simp [spec_Digest.l0] at h,fun _ _ _ r h => by simp [spec_Digest.l1] at h⟩
 | k + 1 => by
  obtain ⟨ih0,ih1⟩ := spec_Digest.mono_l k;refine ⟨?_,?_⟩
  ·intro y0 y1 y2 y3;unfold spec_Digest.l0
   repeat' first
   | (with_reducible exact ih0 _ _ _ _)
   | (with_reducible exact ih1 _ _ _)
   | (with_reducible exact spec_Padded.mono _ _)
   | (with_reducible exact spec_l2Block.mono _ _ _ _)
   | (with_reducible exact LeO.refl _)
   | (with_reducible exact LeO.none _)
   | (with_reducible refine LeO.ite ?_ ?_)
   | (with_reducible refine LeO.bind ?_ (fun _ => ?_))
   | exact ih0 _ _ _ _
   | exact ih1 _ _ _
   | exact spec_Padded.mono _ _
   | exact spec_l2Block.mono _ _ _ _
   | exact LeO.none _
  ·intro y0 y1 y2;unfold spec_Digest.l1
   repeat' first
   | (with_reducible exact ih0 _ _ _ _)
   | (with_reducible exact ih1 _ _ _)
   | (with_reducible exact spec_Padded.mono _ _)
   | (with_reducible exact spec_l2Block.mono _ _ _ _)
   | (with_reducible exact LeO.refl _)
   | (with_reducible exact LeO.none _)
   | (with_reducible refine LeO.ite ?_ ?_)
   | (with_reducible refine LeO.bind ?_ (fun _ => ?_))
   | exact ih0 _ _ _ _
   | exact ih1 _ _ _
   | exact spec_Padded.mono _ _
   | exact spec_l2Block.mono _ _ _ _
   | exact LeO.none _
theorem spec_Digest.mono : ∀ a0 k,LeO (spec_Digest.f k a0) (spec_Digest.f (k + 1) a0) := by
 intro a0 k;obtain ⟨ih0,ih1⟩ := spec_Digest.mono_l k;unfold spec_Digest.f
 repeat' first
   | (with_reducible exact ih0 _ _ _ _)
   | (with_reducible exact ih1 _ _ _)
   | (with_reducible exact spec_Padded.mono _ _)
   | (with_reducible exact spec_l2Block.mono _ _ _ _)
   | (with_reducible exact LeO.refl _)
   | (with_reducible exact LeO.none _)
   | (with_reducible refine LeO.ite ?_ ?_)
   | (with_reducible refine LeO.bind ?_ (fun _ => ?_))
   | exact ih0 _ _ _ _
   | exact ih1 _ _ _
   | exact spec_Padded.mono _ _
   | exact spec_l2Block.mono _ _ _ _
   | exact LeO.none _
def spec_Digest.T12 : Bool × List (List Nat × List Nat) := (true,[([],[]),([],[]),([],[]),([1,2],[1,2]),([3],[3]),([4],[4]),([5],[5]),([],[]),([],[]),([7,8],[7,8]),([9],[9]),([10],[10]),([11],[11]),([],[]),([],[]),([13,14],[13,14]),([15],[15]),([16],[16]),([17],[17]),([],[]),([],[]),([19,20],[19,20]),([21],[21]),([22],[22]),([6,12,18,23],[6,12,18,23]),([0,24],[0,24]),([25,25,0,1,2,3,4,5,6,7,8,9,10,11,12,13,14,15,16,17,18,19,20,21,22,23,24,25],[0,25])])
def spec_Digest.B12 : List Nat := [0,0,0,6,14,30,62,0,0,384,896,1920,3968,0,0,24576,57344,122880,253952,0,0,1572864,3670016,7864320,16777214,33554431,67108863]
theorem spec_Digest.tab12 : rtab .any (opsOf Try.f21 12) = spec_Digest.T12 := by kernel_rfl
theorem spec_Digest.bits12 : waitsOk spec_Digest.T12.2 spec_Digest.B12 = true := by kernel_rfl
set_option maxHeartbeats 8000000 in
set_option maxRecDepth 100000 in
theorem spec_Digest.calls (k : Nat) (A0 : Option Addr) (c0 : Nat) (l0 : List Int) (r : ByteArray) (w : World) (hr0 : Kd.C (Kd.int .u8) w A0 l0.length l0) (hc0 : l0.length ≤ c0) (h : spec_Digest.f k l0 = some r) :
  Calls Try.prog 21 #[.slice A0 l0.length c0] w fun e w' => e = .returned (.string r) ∧ Below w.heap.size w w' := by
 have HR0 := Aside0.mk hr0;have HC0 := Aside0.mk hc0;clear hr0 hc0;have HB := Aside0.mk (Below.refl w.heap.size w);have H : ((spec_Padded.f k l0).bind fun t288 => ((spec_l2K.f).bind fun t294 => (spec_Digest.l0 k t288 ([1779033703,3144134277,1013904242,2773480762,1359893119,2600822924,528734635,1541459225] : List Int) t294 0))) = some r := h;clear h;replace H := Option.bind_eq_some_iff.mp H;obtain ⟨t288,A20,H⟩ := H;replace H : ((spec_l2K.f).bind fun t294 => (spec_Digest.l0 k t288 ([1779033703,3144134277,1013904242,2773480762,1359893119,2600822924,528734635,1541459225] : List Int) t294 0)) = some r := H;have A2 := Aside0.mk A20;clear A20;obtain ⟨y291,hy291⟩ : ∃ y_ : List Int,y_ = ([1779033703,3144134277,1013904242,2773480762,1359893119,2600822924,528734635,1541459225] : List Int) := ⟨_,rfl⟩
 replace H : ((spec_l2K.f).bind fun t294 => (spec_Digest.l0 k t288 y291 t294 0)) = some r := by (rw [hy291]; with_reducible exact H)
 have Ny291 := Aside0.mk hy291;clear hy291;replace H := Option.bind_eq_some_iff.mp H;obtain ⟨t294,A30,H⟩ := H;replace H : (spec_Digest.l0 k t288 y291 t294 0) = some r := H;have A3 := Aside0.mk A30;clear A30;have H' := Aside0.mk H;clear H;go_enter Try.func21,Try.ntmps21
 go_wp2_with (first | ((with_reducible refine gate_callee (f := 51) rfl ?_); refine goesL_ (some 10) rfl rfl Try.func51 (by kernel_rfl) rfl #[.slice A0 l0.length c0] rfl (by (try simp only [List.map_toArray,List.map_cons,List.map_nil]); rfl) ?_; (with_reducible refine (spec_Padded.calls k _ _ l0 t288 _ ?side1 ?side2 A2.out).mono ?_); (case side1 => repeat (exact HR0.out)); (case side2 => exact HC0.out); rintro e w4 ⟨v289,rfl,ho0,hb⟩; refine ⟨_,rfl,?_⟩; have n0_ := Aside0.mk (Kd.R_lower ho0 (below_size HB.out)); have n1_ := Aside0.mk (below_step HB.out hb); clear HB; have HO290 := n0_; have HB := n1_; clear n0_ n1_; (try clear hb); (try clear ho0)) | ((with_reducible refine gate_dst (N := 11) rfl ?_); refine Kd.R_lit (Kd.int .i64) _ 3 ?hg (N := 11) ?hd (xs := ([1779033703,3144134277,1013904242,2773480762,1359893119,2600822924,528734635,1541459225] : List Int)) (inner := [.int .i64 1779033703,.int .i64 3144134277,.int .i64 1013904242,.int .i64 2773480762,.int .i64 1359893119,.int .i64 2600822924,.int .i64 528734635,.int .i64 1541459225]) (ok := fun _ => True) (okp := fun _ => True) ?hr ?hp (fun _ hk => hk) trivial (Below.refl _ _) (Nat.le_refl _) (by simp) ?_; (case hd => rfl); (case hg => rfl); (case hr => (go_simp; done)); (case hp => exact (Reps.one (show Kd.M (Kd.int .i64) _ _ _ 1779033703 [.int .i64 1779033703] from rfl) (Reps.one (show Kd.M (Kd.int .i64) _ _ _ 3144134277 [.int .i64 3144134277] from rfl) (Reps.one (show Kd.M (Kd.int .i64) _ _ _ 1013904242 [.int .i64 1013904242] from rfl) (Reps.one (show Kd.M (Kd.int .i64) _ _ _ 2773480762 [.int .i64 2773480762] from rfl) (Reps.one (show Kd.M (Kd.int .i64) _ _ _ 1359893119 [.int .i64 1359893119] from rfl) (Reps.one (show Kd.M (Kd.int .i64) _ _ _ 2600822924 [.int .i64 2600822924] from rfl) (Reps.one (show Kd.M (Kd.int .i64) _ _ _ 528734635 [.int .i64 528734635] from rfl) (Reps.one (show Kd.M (Kd.int .i64) _ _ _ 1541459225 [.int .i64 1541459225] from rfl) (Reps.none _ _)))))))))); intro v292 w5 ho6 hb hg_ hnew_; clear hg_ hnew_; (rw [← Ny291.out] at ho6); have n0_ := Aside0.mk (Kd.R_below (by exact HO290.out) hb); have n1_ := Aside0.mk (Kd.R_lower ho6 (below_size HB.out)); have n2_ := Aside0.mk (below_step HB.out hb); clear HO290; clear HB; have HO290 := n0_; have HO293 := n1_; have HB := n2_; clear n0_ n1_ n2_; clear hb ho6) | ((with_reducible refine gate_callee (f := 52) rfl ?_); refine goesL_ (some 12) rfl rfl Try.func52 (by kernel_rfl) rfl #[] rfl (by (try simp only [List.map_toArray,List.map_cons,List.map_nil]); done) ?_; (with_reducible refine (spec_l2K.calls  t294 _ A3.out).mono ?_); rintro e w7 ⟨v295,rfl,ho0,hb⟩; refine ⟨_,rfl,?_⟩; have n0_ := Aside0.mk (Kd.R_below (by exact HO290.out) hb); have n1_ := Aside0.mk (Kd.R_elder' (by exact HO293.out) (Kd.R_base ho0) hb); have n2_ := Aside0.mk (Kd.R_lower (Kd.R_new' ho0 (Kd.R_lt (by exact HO293.out))) (below_size HB.out)); have n3_ := Aside0.mk (below_step HB.out hb); clear HO290; clear HO293; clear HB; have HO290 := n0_; have HO293 := n1_; have HO296 := n2_; have HB := n3_; clear n0_ n1_ n2_ n3_; (try clear hb); (try clear ho0)))
 go_loopg [4,6] k (fun kq v4 v6 w' => ∃ (x4_1 : List Int) (x6_1 : Int),v6 = .int .i64 x6_1 ∧ Aside0 (spec_Digest.l0 kq t288 x4_1 t294 x6_1 = some r) ∧ Aside0 (kq ≤ k) ∧ Aside0 (Kd.R (Kd.int .u8) 5 w' w.heap.size (fun _ => True) v289 t288) ∧ Aside0 (Kd.R (Kd.int .i64) 3 w' w.heap.size (fun k_ => some k_ ≠ (v295 : Value).ownBlock) v4 x4_1) ∧ Aside0 (Kd.R (Kd.int .i64) 3 w' w.heap.size (fun k_ => some k_ ≠ (v4 : Value).ownBlock) v295 t294) ∧ Aside0 (Below w.heap.size w w'))
 case atStart => exact ⟨(y291),(0),(by rfl),H',⟨Nat.le_refl _⟩,⟨by exact HO290.out⟩,⟨by exact Kd.R_mono HO293.out (fun _ hk => hk.2)⟩,⟨by exact Kd.R_mono HO296.out (fun _ hk => hk.2)⟩,⟨HB.out⟩⟩
 case round =>
  clear H'
  try clear c2
  try clear p2
  try clear c5
  obtain ⟨x4_1,x6_1,rfl,HA,HK1,HO_3,HO_4,HO_5,HB⟩ := hrel
  cases gk with
  | zero => exact absurd HA.out (by simp [spec_Digest.l0])
  | succ k1 =>
   have H := HA.out;clear HA;simp only [spec_Digest.l0] at H
   by_cases c8 : x6_1 < (t288.length : Int)
   ·rw [if_pos c8] at H;have c8b0 : decide (x6_1 < (t288.length : Int)) = true := decide_eq_true c8;clear c8
    by_cases c9 : 0 ≤ x6_1
    ·rw [if_pos c9] at H;have c9b0 := eq_true c9;have c9b1 : decide (0 ≤ x6_1) = true := decide_eq_true c9;clear c9
     by_cases c10 : x6_1 ≤ (wrap64 (x6_1 + 64))
     ·rw [if_pos c10] at H;have c10b0 := eq_true c10;have c10b1 : decide (x6_1 ≤ (wrap64 (x6_1 + 64))) = true := decide_eq_true c10
      by_cases c11 : (wrap64 (x6_1 + 64)) ≤ (t288.length : Int)
      ·rw [if_pos c11] at H;have c11b0 := eq_true c11;have c11b1 : decide ((wrap64 (x6_1 + 64)) ≤ (t288.length : Int)) = true := decide_eq_true c11;obtain ⟨y297,hy297⟩ : ∃ y_ : List Int,y_ = ((t288.take ((wrap64 (x6_1 + 64)) : Int).toNat).drop (x6_1 : Int).toNat) := ⟨_,rfl⟩
       replace H : ((spec_l2Block.f k1 x4_1 y297 t294).bind fun t301 => (spec_Digest.l0 k1 t288 t301 t294 (wrap64 (x6_1 + 64)))) = some r := by (rw [hy297]; with_reducible exact H)
       have Ny297 := Aside0.mk hy297;clear hy297;replace H := Option.bind_eq_some_iff.mp H;obtain ⟨t301,A120,H⟩ := H;replace H : (spec_Digest.l0 k1 t288 t301 t294 (wrap64 (x6_1 + 64))) = some r := H;have A12 := Aside0.mk A120;clear A120;have H' := Aside0.mk H;clear H;obtain ⟨Ao13,co13,eo13⟩ := Kd.R_slice HO_3.out;subst eo13;have q14 : ((wrap64 (x6_1 + 64)) : Int) ≤ ((t288.length : Int) : Int) := of_decide_eq_true (by (with_reducible assumption));obtain ⟨i014,hi014,_,hsz14,_⟩ := info_parts info5;have hroom14 : t288.length ≤ co13 := (Kd.R_reads' HO_3.out).2.1;have hC14 : Kd.C (Kd.int .u8) _ Ao13 t288.length t288 := (Kd.R_reads' HO_3.out).2.2;have ql14 : (x6_1 : Int) ≤ ((wrap64 (x6_1 + 64)) : Int) := of_decide_eq_true (by (with_reducible assumption));have q014 : (0 : Int) ≤ (x6_1 : Int) := of_decide_eq_true (by (with_reducible assumption));have hcut14 := cut_mid (P := Try.prog) 22 5 .i64 .i64 Try.underlying22 hi014 1 hsz14 Ao13 t288.length co13 x6_1 (wrap64 (x6_1 + 64)) q014 ql14 q14 hroom14;have hr14 := Kd.C_mid (lo := (x6_1 : Int).toNat) (hi := ((wrap64 (x6_1 + 64)) : Int).toNat) (c := co13) hC14 (by omega) (by omega) hroom14;obtain ⟨A14,hA14⟩ : ∃ A1,A1 = (if co13 = (x6_1 : Int).toNat then Ao13 else (Ao13 : Option Addr).map (·.add ((x6_1 : Int).toNat * 1))) := ⟨_,rfl⟩;obtain ⟨c14,hc14⟩ : ∃ c1,c1 = co13 - (x6_1 : Int).toNat := ⟨_,rfl⟩;have hy14 : y297.length = ((wrap64 (x6_1 + 64)) : Int).toNat - (x6_1 : Int).toNat := (by rw [Ny297.out,List.length_drop,List.length_take] <;> omega);rw [show ((t288).take ((wrap64 (x6_1 + 64)) : Int).toNat).drop (x6_1 : Int).toNat = y297 from Ny297.out.symm] at hr14;replace hr14 : Kd.C (Kd.int .u8) _ A14 y297.length y297 := (by rw [hA14]; exact hr14);rw [← hy14,← hA14,← hc14] at hcut14;have HR300 := Aside0.mk hr14;have HC300 := Aside0.mk (show y297.length ≤ c14 from by rw [hy14,hc14]; exact Nat.sub_le_sub_right (Nat.le_trans (by omega) hroom14) _);clear hr14 hC14 hroom14 hi014 hsz14 hc14;have KY14 := Aside0.mk hy14;have KA14 := Aside0.mk hA14;clear hy14 hA14;have KL14 := Aside0.mk (show ((wrap64 (x6_1 + 64)) : Int).toNat ≤ t288.length from by omega);have KM14 := Aside0.mk (show (x6_1 : Int).toNat ≤ ((wrap64 (x6_1 + 64)) : Int).toNat from by omega);replace q14 := eq_true q14;obtain ⟨Ao15,co15,eo15⟩ := Kd.R_slice HO_4.out;subst eo15;obtain ⟨Ao16,co16,eo16⟩ := Kd.R_slice HO_5.out;subst eo16
       go_wp2_with ((with_reducible refine gate_callee (f := 53) rfl ?_); refine goesL_ (some 26) rfl rfl Try.func53 (by kernel_rfl) rfl #[.slice Ao15 x4_1.length co15,.slice A14 y297.length c14,.slice Ao16 t294.length co16] rfl (by (try simp only [List.map_toArray,List.map_cons,List.map_nil]); rfl) ?_; (with_reducible refine (spec_l2Block.calls k1 _ _ x4_1 _ _ y297 _ _ t294 t301 _ ?side1 ?side2 ?side3 ?side4 ?side5 ?side6 A12.out).mono ?_); (case side1 => repeat (exact (Kd.R_reads' HO_4.out).2.2)); (case side2 => exact (Kd.R_reads' HO_4.out).2.1); (case side3 => repeat (exact HR300.out)); (case side4 => exact HC300.out); (case side5 => repeat (exact (Kd.R_reads' HO_5.out).2.2)); (case side6 => exact (Kd.R_reads' HO_5.out).2.1); rintro e w17 ⟨v302,rfl,ho0,hb⟩; refine ⟨_,rfl,?_⟩; have n0_ := Aside0.mk (Kd.R_below (by exact HO_3.out) hb); have n1_ := Aside0.mk (Kd.R_elder' (by exact HO_4.out) (Kd.R_base ho0) hb); have n2_ := Aside0.mk (Kd.R_elder' (by exact HO_5.out) (Kd.R_base ho0) hb); have n3_ := Aside0.mk (Kd.R_lower (Kd.R_new' (Kd.R_new' ho0 (Kd.R_lt (by exact HO_4.out))) (Kd.R_lt (by exact HO_5.out))) (below_size HB.out)); have n4_ := Aside0.mk (Kd.C_below HR300.out hb); have n5_ := Aside0.mk (below_step HB.out hb); clear HO_3; clear HO_4; clear HO_5; clear HR300; clear HB; have HO_3 := n0_; have HO_4 := n1_; have HO_5 := n2_; have HO303 := n3_; have HR300 := n4_; have HB := n5_; clear n0_ n1_ n2_ n3_ n4_ n5_; (try clear hb); (try clear ho0))
       go_roundg k1
       case measure => have := HK1.out; omega
       case rel => exact ⟨(t301),(wrap64 (x6_1 + 64)),(by rfl),H',⟨by have := HK1.out; omega⟩,⟨by exact HO_3.out⟩,⟨by exact Kd.R_mono HO303.out (fun _ hk => hk.2)⟩,⟨by exact Kd.R_mono HO_5.out (fun _ hk => hk.2)⟩,⟨HB.out⟩⟩
      ·rw [if_neg c11] at H;exact absurd H (by simp)
     ·rw [if_neg c10] at H;exact absurd H (by simp)
    ·rw [if_neg c9] at H;exact absurd H (by simp)
   ·rw [if_neg c8] at H;have c8b0 : decide (x6_1 < (t288.length : Int)) = false := decide_eq_false c8;clear c8;obtain ⟨y304,hy304⟩ : ∃ y_ : List Int,y_ = ([] : List Int) := ⟨_,rfl⟩
    replace H : (spec_Digest.l1 k1 x4_1 y304 0) = some r := by (rw [hy304]; with_reducible exact H)
    have Ny304 := Aside0.mk hy304;clear hy304;have H' := Aside0.mk H;clear H;obtain ⟨Ao18,co18,eo18⟩ := Kd.R_slice HO_3.out;subst eo18
    go_wp2_with ((with_reducible refine gate_dst (N := 27) rfl ?_); refine Kd.R_lit (Kd.int .u8) _ 5 ?hg (N := 27) ?hd (xs := ([] : List Int)) (inner := []) (ok := fun _ => True) (okp := fun _ => True) ?hr ?hp (fun _ hk => hk) trivial (Below.refl _ _) (Nat.le_refl _) (by simp) ?_; (case hd => rfl); (case hg => rfl); (case hr => (go_simp; done)); (case hp => exact (Reps.none _ _)); intro v305 w19 ho20 hb hg_ hnew_; clear hg_ hnew_; (rw [← Ny304.out] at ho20); have n0_ := Aside0.mk (Kd.R_elder' (by exact HO_3.out) (Kd.R_base ho20) hb); have n1_ := Aside0.mk (Kd.R_below (by exact HO_4.out) hb); have n2_ := Aside0.mk (Kd.R_below (by exact HO_5.out) hb); have n3_ := Aside0.mk (Kd.R_lower (Kd.R_new' ho20 (Kd.R_lt (by exact HO_3.out))) (below_size HB.out)); have n4_ := Aside0.mk (below_step HB.out hb); clear HO_3; clear HO_4; clear HO_5; clear HB; have HO_3 := n0_; have HO_4 := n1_; have HO_5 := n2_; have HO306 := n3_; have HB := n4_; clear n0_ n1_ n2_ n3_ n4_; clear hb ho20)
    go_loopg [7,8] k1 (fun kq v7 v8 w' => ∃ (x7_2 : List Int) (x8_2 : Int),v8 = .int .i64 x8_2 ∧ Aside0 (spec_Digest.l1 kq x4_1 x7_2 x8_2 = some r) ∧ Aside0 (kq ≤ k1) ∧ Aside0 (Kd.R (Kd.int .i64) 3 w' w.heap.size (fun _ => True) u4 x4_1) ∧ Aside0 (Kd.R (Kd.int .u8) 5 w' w.heap.size (fun _ => True) v7 x7_2) ∧ Aside0 (Below w.heap.size w w'))
    case atStart => exact ⟨(y304),(0),(by rfl),H',⟨Nat.le_refl _⟩,⟨by exact Kd.R_mono HO_4.out (fun _ hk => trivial)⟩,⟨by exact Kd.R_mono HO306.out (fun _ hk => trivial)⟩,⟨HB.out⟩⟩
    case round =>
     clear H'
     try clear c1
     try clear q1
     try clear c2
     try clear p2
     try clear c5
     try clear p6
     try clear c8
     try clear c8b0
     try clear c9
     try clear c9b0
     try clear c9b1
     try clear c10
     try clear c10b0
     try clear c10b1
     try clear c11
     try clear c11b0
     try clear c11b1
     try clear c14
     try clear q14
     try clear p2
     try clear q014
     try clear q14
     obtain ⟨x7_2,x8_2,rfl,HA,HK2,HO_4,HO_7,HB⟩ := hrel
     cases gk with
     | zero => exact absurd HA.out (by simp [spec_Digest.l1])
     | succ k2 =>
      have H := HA.out;clear HA;simp only [spec_Digest.l1] at H
      by_cases c21 : x8_2 < 8
      ·rw [if_pos c21] at H;have c21b0 : decide (x8_2 < 8) = true := decide_eq_true c21;clear c21
       by_cases c22 : 0 ≤ x8_2
       ·rw [if_pos c22] at H;have c22b0 : decide (0 ≤ x8_2) = true := decide_eq_true c22;clear c22
        by_cases c23 : x8_2 < (x4_1.length : Int)
        ·rw [if_pos c23] at H;have c23b0 : decide (x8_2 < (x4_1.length : Int)) = true := decide_eq_true c23;clear c23;obtain ⟨y311,hy311⟩ : ∃ y_ : List Int,y_ = ([((rd x4_1 x8_2) / 16777216) % 256,((rd x4_1 x8_2) / 65536) % 256,((rd x4_1 x8_2) / 256) % 256,(rd x4_1 x8_2) % 256] : List Int) := ⟨_,rfl⟩
         replace H : (if x7_2.length + y311.length < 140737488355328 then (spec_Digest.l1 k2 x4_1 (x7_2 ++ y311) (wrap64 (x8_2 + 1))) else (none)) = some r := by (have H2_ := (Option.bind_some _ _).symm.trans H; rw [hy311]; with_reducible exact H2_)
         have Ny311 := Aside0.mk hy311;clear hy311
         by_cases c24 : x7_2.length + y311.length < 140737488355328
         ·rw [if_pos c24] at H;have LMc24 := Aside0.mk c24;clear c24;obtain ⟨y314,hy314⟩ : ∃ y_ : List Int,y_ = (x7_2 ++ y311) := ⟨_,rfl⟩
          replace H : (spec_Digest.l1 k2 x4_1 y314 (wrap64 (x8_2 + 1))) = some r := by (rw [hy314]; with_reducible exact H)
          have Ny314 := Aside0.mk hy314;clear hy314;have H' := Aside0.mk H;clear H
          try go_wp2
          have n0_ := Aside0.mk (Kd.R_drew HO_4.out);have n1_ := Aside0.mk (Kd.R_drew HO_7.out);have n2_ := Aside0.mk (below_drew1 HB.out);clear HO_4;clear HO_7;clear HB;have HO_4 := n0_;have HO_7 := n1_;have HB := n2_;clear n0_ n1_ n2_;obtain ⟨Ao26,co26,eo26⟩ := Kd.R_slice HO_4.out
          (subst eo26)
          have p307 : 0 ≤ (x8_2 : Int) := of_decide_eq_true (by (with_reducible assumption));have q307 : x8_2 < (x4_1.length : Int) := of_decide_eq_true (by (with_reducible assumption));obtain ⟨ad307,e307,hx307_0⟩ := Kd.at_int (Kd.R_reads' HO_4.out).2.2 x8_2 p307 q307
          cases e307
          replace p307 := eq_true p307;replace q307 := eq_true q307;have p308 : 0 ≤ (x8_2 : Int) := of_decide_eq_true (by (with_reducible assumption));have q308 : x8_2 < (x4_1.length : Int) := of_decide_eq_true (by (with_reducible assumption));obtain ⟨ad308,e308,hx308_0⟩ := Kd.at_int (Kd.R_reads' HO_4.out).2.2 x8_2 p308 q308;obtain rfl : ad307 = ad308 := (by injection e308);replace p308 := eq_true p308;replace q308 := eq_true q308;have p309 : 0 ≤ (x8_2 : Int) := of_decide_eq_true (by (with_reducible assumption));have q309 : x8_2 < (x4_1.length : Int) := of_decide_eq_true (by (with_reducible assumption));obtain ⟨ad309,e309,hx309_0⟩ := Kd.at_int (Kd.R_reads' HO_4.out).2.2 x8_2 p309 q309;obtain rfl : ad307 = ad309 := (by injection e309);replace p309 := eq_true p309;replace q309 := eq_true q309;have p310 : 0 ≤ (x8_2 : Int) := of_decide_eq_true (by (with_reducible assumption));have q310 : x8_2 < (x4_1.length : Int) := of_decide_eq_true (by (with_reducible assumption));obtain ⟨ad310,e310,hx310_0⟩ := Kd.at_int (Kd.R_reads' HO_4.out).2.2 x8_2 p310 q310;obtain rfl : ad307 = ad310 := (by injection e310);replace p310 := eq_true p310;replace q310 := eq_true q310;refine start_ (n := 27) (S := fun w' => w'.cell? (ad307.add (x8_2).toNat) = some (.int .i64 (rd x4_1 x8_2)) ∧ w'.cell? (ad307.add (x8_2).toNat) = some (.int .i64 (rd x4_1 x8_2)) ∧ w'.cell? (ad307.add (x8_2).toNat) = some (.int .i64 (rd x4_1 x8_2)) ∧ w'.cell? (ad307.add (x8_2).toNat) = some (.int .i64 (rd x4_1 x8_2))) (ds := [25]) #[false,false,false,false,false,false,false,false,false,false,false,false,false,false,false,false,false,false,false,false,false,false,false,false,false,false,false] (by kernel_rfl) rfl rfl ⟨hx307_0,hx308_0,hx309_0,hx310_0⟩ (fun hHeld => ?_); refine with_tabW spec_Digest.tab12 spec_Digest.bits12 (fun HT_ HW_ => ?_)
          generalize wr.drew = w25 at HO_4 HO_7 HB hx307_0 hx308_0 hx309_0 hx310_0 hHeld ⊢
          refine pure_ (i := 0) (N := some 32) (v := ?_) (a' := ?_) #[true,false,false,false,false,false,false,false,false,false,false,false,false,false,false,false,false,false,false,false,false,false,false,false,false,false,false] rfl rfl (any_of HT_.out (by kernel_rfl)) (fun _ _ _ h => h) (Or.inl ⟨by rfl,?_⟩) ?_ ?_;rotate_left
          ·intro w';go_simp;with_reducible rfl
          rotate_left
          ·simp only [wf_preprocess];rfl
          refine pure_ (i := 1) (N := some 33) (v := ?_) (a' := ?_) #[true,true,false,false,false,false,false,false,false,false,false,false,false,false,false,false,false,false,false,false,false,false,false,false,false,false,false] rfl rfl (any_of HT_.out (by kernel_rfl)) (fun _ _ _ h => h) (Or.inl ⟨by rfl,?_⟩) ?_ ?_;rotate_left
          ·intro w';go_simp;with_reducible rfl
          rotate_left
          ·simp only [wf_preprocess];rfl
          refine pure_ (i := 2) (N := some 34) (v := ?_) (a' := ?_) #[true,true,true,false,false,false,false,false,false,false,false,false,false,false,false,false,false,false,false,false,false,false,false,false,false,false,false] rfl rfl (any_of HT_.out (by kernel_rfl)) (fun _ _ _ h => h) (Or.inl ⟨by rfl,?_⟩) ?_ ?_;rotate_left
          ·intro w';go_simp;with_reducible rfl
          rotate_left
          ·simp only [wf_preprocess];rfl
          refine pure_ (i := 3) (N := some 35) (v := ?_) (a' := ?_) #[true,true,true,true,false,false,false,false,false,false,false,false,false,false,false,false,false,false,false,false,false,false,false,false,false,false,false] rfl rfl (any_of HT_.out (by kernel_rfl)) (fun _ _ _ h => h) (Or.inl ⟨by rfl,?_⟩) ?_ ?_;rotate_left
          ·intro w';go_simp;with_reducible rfl
          rotate_left
          ·simp only [wf_preprocess];rfl
          refine pure_ (i := 7) (N := some 39) (v := ?_) (a' := ?_) #[true,true,true,true,false,false,false,true,false,false,false,false,false,false,false,false,false,false,false,false,false,false,false,false,false,false,false] rfl rfl (any_of HT_.out (by kernel_rfl)) (fun _ _ _ h => h) (Or.inl ⟨by rfl,?_⟩) ?_ ?_;rotate_left
          ·intro w';go_simp;with_reducible rfl
          rotate_left
          ·simp only [wf_preprocess];rfl
          refine pure_ (i := 8) (N := some 40) (v := ?_) (a' := ?_) #[true,true,true,true,false,false,false,true,true,false,false,false,false,false,false,false,false,false,false,false,false,false,false,false,false,false,false] rfl rfl (any_of HT_.out (by kernel_rfl)) (fun _ _ _ h => h) (Or.inl ⟨by rfl,?_⟩) ?_ ?_;rotate_left
          ·intro w';go_simp;with_reducible rfl
          rotate_left
          ·simp only [wf_preprocess];rfl
          refine pure_ (i := 9) (N := some 41) (v := ?_) (a' := ?_) #[true,true,true,true,false,false,false,true,true,true,false,false,false,false,false,false,false,false,false,false,false,false,false,false,false,false,false] rfl rfl (any_of HT_.out (by kernel_rfl)) (fun _ _ _ h => h) (Or.inl ⟨by rfl,?_⟩) ?_ ?_;rotate_left
          ·intro w';go_simp;with_reducible rfl
          rotate_left
          ·simp only [wf_preprocess];rfl
          refine pure_ (i := 13) (N := some 45) (v := ?_) (a' := ?_) #[true,true,true,true,false,false,false,true,true,true,false,false,false,true,false,false,false,false,false,false,false,false,false,false,false,false,false] rfl rfl (any_of HT_.out (by kernel_rfl)) (fun _ _ _ h => h) (Or.inl ⟨by rfl,?_⟩) ?_ ?_;rotate_left
          ·intro w';go_simp;with_reducible rfl
          rotate_left
          ·simp only [wf_preprocess];rfl
          refine pure_ (i := 14) (N := some 46) (v := ?_) (a' := ?_) #[true,true,true,true,false,false,false,true,true,true,false,false,false,true,true,false,false,false,false,false,false,false,false,false,false,false,false] rfl rfl (any_of HT_.out (by kernel_rfl)) (fun _ _ _ h => h) (Or.inl ⟨by rfl,?_⟩) ?_ ?_;rotate_left
          ·intro w';go_simp;with_reducible rfl
          rotate_left
          ·simp only [wf_preprocess];rfl
          refine pure_ (i := 15) (N := some 47) (v := ?_) (a' := ?_) #[true,true,true,true,false,false,false,true,true,true,false,false,false,true,true,true,false,false,false,false,false,false,false,false,false,false,false] rfl rfl (any_of HT_.out (by kernel_rfl)) (fun _ _ _ h => h) (Or.inl ⟨by rfl,?_⟩) ?_ ?_;rotate_left
          ·intro w';go_simp;with_reducible rfl
          rotate_left
          ·simp only [wf_preprocess];rfl
          refine pure_ (i := 19) (N := some 51) (v := ?_) (a' := ?_) #[true,true,true,true,false,false,false,true,true,true,false,false,false,true,true,true,false,false,false,true,false,false,false,false,false,false,false] rfl rfl (any_of HT_.out (by kernel_rfl)) (fun _ _ _ h => h) (Or.inl ⟨by rfl,?_⟩) ?_ ?_;rotate_left
          ·intro w';go_simp;with_reducible rfl
          rotate_left
          ·simp only [wf_preprocess];rfl
          refine pure_ (i := 20) (N := some 52) (v := ?_) (a' := ?_) #[true,true,true,true,false,false,false,true,true,true,false,false,false,true,true,true,false,false,false,true,true,false,false,false,false,false,false] rfl rfl (any_of HT_.out (by kernel_rfl)) (fun _ _ _ h => h) (Or.inl ⟨by rfl,?_⟩) ?_ ?_;rotate_left
          ·intro w';go_simp;with_reducible rfl
          rotate_left
          ·simp only [wf_preprocess];rfl
          refine pure_ (i := 21) (N := some 53) (v := ?_) (a' := ?_) #[true,true,true,true,false,false,false,true,true,true,false,false,false,true,true,true,false,false,false,true,true,true,false,false,false,false,false] rfl rfl (any_of HT_.out (by kernel_rfl)) (fun _ _ _ h => h) (Or.inl ⟨by rfl,?_⟩) ?_ ?_;rotate_left
          ·intro w';go_simp;with_reducible rfl
          rotate_left
          ·simp only [wf_preprocess];rfl
          refine take_ (i := 4) (N := some 36) (v := ?_) (a' := ?_) #[true,true,true,true,true,false,false,true,true,true,false,false,false,true,true,true,false,false,false,true,true,true,false,false,false,false,false] rfl rfl (take_ofW HT_.out HW_.out (by kernel_rfl)) (fun _ _ _ h => h) (Or.inl ⟨by rfl,?_⟩) hHeld ?_ ?_;rotate_left
          ·rintro w' ⟨s0,s1,s2,s3⟩;go_simp;with_reducible rfl
          rotate_left
          ·simp only [wf_preprocess];rfl
          refine pure_ (i := 5) (N := some 37) (v := ?_) (a' := ?_) #[true,true,true,true,true,true,false,true,true,true,false,false,false,true,true,true,false,false,false,true,true,true,false,false,false,false,false] rfl rfl (any_of HT_.out (by kernel_rfl)) (fun _ _ _ h => h) (Or.inl ⟨by rfl,?_⟩) ?_ ?_;rotate_left
          ·intro w';go_simp;with_reducible rfl
          rotate_left
          ·simp only [wf_preprocess];rfl
          refine pure_ (i := 6) (N := some 38) (v := ?_) (a' := ?_) #[true,true,true,true,true,true,true,true,true,true,false,false,false,true,true,true,false,false,false,true,true,true,false,false,false,false,false] rfl rfl (any_of HT_.out (by kernel_rfl)) (fun _ _ _ h => h) (Or.inl ⟨by rfl,?_⟩) ?_ ?_;rotate_left
          ·intro w';go_simp;with_reducible rfl
          rotate_left
          ·simp only [wf_preprocess];rfl
          refine take_ (i := 10) (N := some 42) (v := ?_) (a' := ?_) #[true,true,true,true,true,true,true,true,true,true,true,false,false,true,true,true,false,false,false,true,true,true,false,false,false,false,false] rfl rfl (take_ofW HT_.out HW_.out (by kernel_rfl)) (fun _ _ _ h => h) (Or.inl ⟨by rfl,?_⟩) hHeld ?_ ?_;rotate_left
          ·rintro w' ⟨s0,s1,s2,s3⟩;go_simp;with_reducible rfl
          rotate_left
          ·simp only [wf_preprocess];rfl
          refine pure_ (i := 11) (N := some 43) (v := ?_) (a' := ?_) #[true,true,true,true,true,true,true,true,true,true,true,true,false,true,true,true,false,false,false,true,true,true,false,false,false,false,false] rfl rfl (any_of HT_.out (by kernel_rfl)) (fun _ _ _ h => h) (Or.inl ⟨by rfl,?_⟩) ?_ ?_;rotate_left
          ·intro w';go_simp;with_reducible rfl
          rotate_left
          ·simp only [wf_preprocess];rfl
          refine pure_ (i := 12) (N := some 44) (v := ?_) (a' := ?_) #[true,true,true,true,true,true,true,true,true,true,true,true,true,true,true,true,false,false,false,true,true,true,false,false,false,false,false] rfl rfl (any_of HT_.out (by kernel_rfl)) (fun _ _ _ h => h) (Or.inl ⟨by rfl,?_⟩) ?_ ?_;rotate_left
          ·intro w';go_simp;with_reducible rfl
          rotate_left
          ·simp only [wf_preprocess];rfl
          refine take_ (i := 16) (N := some 48) (v := ?_) (a' := ?_) #[true,true,true,true,true,true,true,true,true,true,true,true,true,true,true,true,true,false,false,true,true,true,false,false,false,false,false] rfl rfl (take_ofW HT_.out HW_.out (by kernel_rfl)) (fun _ _ _ h => h) (Or.inl ⟨by rfl,?_⟩) hHeld ?_ ?_;rotate_left
          ·rintro w' ⟨s0,s1,s2,s3⟩;go_simp;with_reducible rfl
          rotate_left
          ·simp only [wf_preprocess];rfl
          refine pure_ (i := 17) (N := some 49) (v := ?_) (a' := ?_) #[true,true,true,true,true,true,true,true,true,true,true,true,true,true,true,true,true,true,false,true,true,true,false,false,false,false,false] rfl rfl (any_of HT_.out (by kernel_rfl)) (fun _ _ _ h => h) (Or.inl ⟨by rfl,?_⟩) ?_ ?_;rotate_left
          ·intro w';go_simp;with_reducible rfl
          rotate_left
          ·simp only [wf_preprocess];rfl
          refine pure_ (i := 18) (N := some 50) (v := ?_) (a' := ?_) #[true,true,true,true,true,true,true,true,true,true,true,true,true,true,true,true,true,true,true,true,true,true,false,false,false,false,false] rfl rfl (any_of HT_.out (by kernel_rfl)) (fun _ _ _ h => h) (Or.inl ⟨by rfl,?_⟩) ?_ ?_;rotate_left
          ·intro w';go_simp;with_reducible rfl
          rotate_left
          ·simp only [wf_preprocess];rfl
          refine take_ (i := 22) (N := some 54) (v := ?_) (a' := ?_) #[true,true,true,true,true,true,true,true,true,true,true,true,true,true,true,true,true,true,true,true,true,true,true,false,false,false,false] rfl rfl (take_ofW HT_.out HW_.out (by kernel_rfl)) (fun _ _ _ h => h) (Or.inl ⟨by rfl,?_⟩) hHeld ?_ ?_;rotate_left
          ·rintro w' ⟨s0,s1,s2,s3⟩;go_simp;with_reducible rfl
          rotate_left
          ·simp only [wf_preprocess];rfl
          refine pure_ (i := 23) (N := some 55) (v := ?_) (a' := ?_) #[true,true,true,true,true,true,true,true,true,true,true,true,true,true,true,true,true,true,true,true,true,true,true,true,false,false,false] rfl rfl (any_of HT_.out (by kernel_rfl)) (fun _ _ _ h => h) (Or.inl ⟨by rfl,?_⟩) ?_ ?_;rotate_left
          ·intro w';go_simp;with_reducible rfl
          rotate_left
          ·simp only [wf_preprocess];rfl
          refine one_ (i := 24) (N := some 56) #[true,true,true,true,true,true,true,true,true,true,true,true,true,true,true,true,true,true,true,true,true,true,true,true,true,false,false] rfl rfl (one_of HT_.out (by kernel_rfl)) (by decide) (fun K hK => ?_);refine Kd.R_lit_step (Kd.int .u8) _ 5 ?hg (N := 56) ?hd (xs := ([((rd x4_1 x8_2) / 16777216) % 256,((rd x4_1 x8_2) / 65536) % 256,((rd x4_1 x8_2) / 256) % 256,(rd x4_1 x8_2) % 256] : List Int)) (inner := [.int .u8 (((rd x4_1 x8_2) / 16777216) % 256),.int .u8 (((rd x4_1 x8_2) / 65536) % 256),.int .u8 (((rd x4_1 x8_2) / 256) % 256),.int .u8 ((rd x4_1 x8_2) % 256)]) (ok := fun _ => True) (okp := fun _ => True) ?hr ?hp (fun _ hk => hk) trivial (Below.refl _ _) (Nat.le_refl _) (by simp) ?_; (case hd => rfl); (case hg => rfl); (case hr => (go_simp; rfl)); (case hp => exact (Reps.one (show Kd.M (Kd.int .u8) _ _ _ (((rd x4_1 x8_2) / 16777216) % 256) [.int .u8 (((rd x4_1 x8_2) / 16777216) % 256)] from rfl) (Reps.one (show Kd.M (Kd.int .u8) _ _ _ (((rd x4_1 x8_2) / 65536) % 256) [.int .u8 (((rd x4_1 x8_2) / 65536) % 256)] from rfl) (Reps.one (show Kd.M (Kd.int .u8) _ _ _ (((rd x4_1 x8_2) / 256) % 256) [.int .u8 (((rd x4_1 x8_2) / 256) % 256)] from rfl) (Reps.one (show Kd.M (Kd.int .u8) _ _ _ ((rd x4_1 x8_2) % 256) [.int .u8 ((rd x4_1 x8_2) % 256)] from rfl) (Reps.none _ _))))));intro v312 w27 ho28 hb hg_ hnew_;have HS0_ := (hb.cell (World.block_lt_of_cell? _ _ (hHeld.1))).trans (hHeld.1);have HS1_ := (hb.cell (World.block_lt_of_cell? _ _ (hHeld.2.1))).trans (hHeld.2.1);have HS2_ := (hb.cell (World.block_lt_of_cell? _ _ (hHeld.2.2.1))).trans (hHeld.2.2.1);have HS3_ := (hb.cell (World.block_lt_of_cell? _ _ (hHeld.2.2.2))).trans (hHeld.2.2.2);clear hg_ hnew_
          (rw [← Ny311.out] at ho28)
          have n0_ := Aside0.mk (Kd.R_below (by exact HO_4.out) hb);have n1_ := Aside0.mk (Kd.R_elder' (by exact HO_7.out) (Kd.R_base ho28) hb);have n2_ := Aside0.mk (Kd.R_lower (Kd.R_new' ho28 (Kd.R_lt (by exact HO_7.out))) (below_size HB.out));have n3_ := Aside0.mk (below_step HB.out hb);clear HO_4;clear HO_7;clear HB;have HO_4 := n0_;have HO_7 := n1_;have HO313 := n2_;have HB := n3_;clear n0_ n1_ n2_ n3_;clear hb ho28;obtain ⟨Ao30,co30,eo30⟩ := Kd.R_slice HO313.out
          (subst eo30)
          refine hK.out _ _ ⟨HS0_,HS1_,HS2_,HS3_⟩ (fun hHeld => ?_);clear hK K;refine norm_ (a' := ?_) ?_ ?_;rotate_left
          ·show Act.put _ (some 56) _ = _
           simp only [wf_preprocess];rfl
          refine last_ (i := 25) (N := some 57) #[true,true,true,true,true,true,true,true,true,true,true,true,true,true,true,true,true,true,true,true,true,true,true,true,true,true,false] rfl rfl (one_of HT_.out (by kernel_rfl)) (by decide) (fun K hK => ?_);refine Kd.R_append_rows_step (Kd.int .u8) (w0 := w) w.heap.size (by rfl) (.tmp 32) (.tmp 56) 22 5 (.int .u8 0) 1 rfl Try.underlying22 info5 rfl (by decide) (by omega) u7 x7_2 y311 _ _ _ (fun k_ => some k_ ≠ (.slice Ao30 y311.length co30 : Value).ownBlock) (fun _ => False) rfl rfl ?aO ?aR (fun _ _ h => h) (fun _ h => h.elim) ?aF ?aB ?aS ?aL ?_
          (case aR => repeat (exact (Kd.R_reads' HO313.out).2.2))
          (case aB => exact HB.out)
          (case aF => exact (fun k_ hk => Kd.fresh' (Kd.R_lt (by exact HO313.out)) k_ hk))
          (case aO => exact (by exact Kd.R_mono HO_7.out (fun _ hk => hk.2)))
          (case aS => exact (below_size HB.out))
          (case aL => have := LMc24.out; omega)
          intro v315 w29 ho hb hg hat;rw [← Ny314.out] at ho;have n0_ := Aside0.mk (Kd.R_over' (by exact HO_4.out) (Kd.R_typed (by exact HO_7.out)) (by decide) hg);have n1_ := Aside0.mk (Kd.R_after (ok := (fun _ => True)) (by exact HO313.out) hg hat);have n2_ := Aside0.mk (hb);have n3_ := Aside0.mk (ho);clear HO_4;clear HO313;clear HB;clear HO_7;have HO_4 := n0_;have HO313 := n1_;have HB := n2_;have HO316 := n3_;clear n0_ n1_ n2_ n3_;clear ho hb hg hat;refine hK.out _ _ ?_;clear hK K;refine norm_ (a' := ?_) ?_ ?_;rotate_left
          ·show Act.put _ (some 57) _ = _
           simp only [wf_preprocess];rfl
          refine pure_ (i := 26) (N := some 7) (v := ?_) (a' := ?_) #[true,true,true,true,true,true,true,true,true,true,true,true,true,true,true,true,true,true,true,true,true,true,true,true,true,true,true] rfl rfl (any_of HT_.out (by kernel_rfl)) (fun _ _ _ h => h) (Or.inl ⟨by rfl,?_⟩) ?_ ?_;rotate_left
          ·intro w';go_simp;with_reducible rfl
          rotate_left
          ·simp only [wf_preprocess];rfl
          refine done_ (done_of HT_.out (by kernel_rfl)) ?_
          try go_wp2
          go_roundg k2
          case measure => have := HK1.out; have := HK2.out; omega
          case rel => exact ⟨(y314),(wrap64 (x8_2 + 1)),(by rfl),H',⟨by have := HK1.out; have := HK2.out; omega⟩,⟨by exact HO_4.out⟩,⟨by exact Kd.R_mono HO316.out (fun _ hk => trivial)⟩,⟨HB.out⟩⟩
         ·rw [if_neg c24] at H;exact absurd H (by simp)
        ·rw [if_neg c23] at H;exact absurd H (by simp)
       ·rw [if_neg c22] at H;exact absurd H (by simp)
      ·rw [if_neg c21] at H;have c21b0 : decide (x8_2 < 8) = false := decide_eq_false c21;clear c21;obtain rfl := Option.some.inj H;have hcv31 := own_string (P := Try.prog) Try.underlying22 Try.underlying5 Try.underlying9 (Kd.own_of_R HO_7.out);go_wp2;go_ret;exact ⟨by rfl,HB.out⟩

/-! ### spec_LeafDigest: function 19 -/
def spec_LeafDigest.f (k : Nat) (a0 : ByteArray) : Option (ByteArray) := (some (([0] : List Int) : List Int)).bind fun y317 => (if y317.length + a0.size < 140737488355328 then ((spec_Digest.f k (y317 ++ bytesOf a0)).bind fun t323 => (some t323)) else (none))
theorem spec_LeafDigest.mono : ∀ a0 k,LeO (spec_LeafDigest.f k a0) (spec_LeafDigest.f (k + 1) a0) := by
 intro a0 k;unfold spec_LeafDigest.f
 repeat' first
   | (with_reducible exact spec_Digest.mono _ _)
   | (with_reducible exact LeO.refl _)
   | (with_reducible exact LeO.none _)
   | (with_reducible refine LeO.ite ?_ ?_)
   | (with_reducible refine LeO.bind ?_ (fun _ => ?_))
   | exact spec_Digest.mono _ _
   | exact LeO.none _
set_option maxHeartbeats 8000000 in
set_option maxRecDepth 100000 in
theorem spec_LeafDigest.calls (k : Nat) (a0 : ByteArray) (r : ByteArray) (w : World) (h : spec_LeafDigest.f k a0 = some r) :
  Calls Try.prog 19 #[.string a0] w fun e w' => e = .returned (.string r) ∧ Below w.heap.size w w' := by
 have HB := Aside0.mk (Below.refl w.heap.size w);have H : ((some (([0] : List Int) : List Int)).bind fun y317 => (if y317.length + a0.size < 140737488355328 then ((spec_Digest.f k (y317 ++ bytesOf a0)).bind fun t323 => (some t323)) else (none))) = some r := h;clear h;obtain ⟨y317,hy317⟩ : ∃ y_ : List Int,y_ = ([0] : List Int) := ⟨_,rfl⟩
 replace H : (if y317.length + a0.size < 140737488355328 then ((spec_Digest.f k (y317 ++ bytesOf a0)).bind fun t323 => (some t323)) else (none)) = some r := by (have H2_ := (Option.bind_some _ _).symm.trans H; rw [hy317]; with_reducible exact H2_)
 have Ny317 := Aside0.mk hy317;clear hy317
 by_cases c2 : y317.length + a0.size < 140737488355328
 ·rw [if_pos c2] at H;have LMc2 := Aside0.mk c2;clear c2;obtain ⟨y320,hy320⟩ : ∃ y_ : List Int,y_ = (y317 ++ bytesOf a0) := ⟨_,rfl⟩
  replace H : ((spec_Digest.f k y320).bind fun t323 => (some t323)) = some r := by (rw [hy320]; with_reducible exact H)
  have Ny320 := Aside0.mk hy320;clear hy320;replace H := Option.bind_eq_some_iff.mp H;obtain ⟨t323,A30,H⟩ := H;replace H : (some t323) = some r := H;have A3 := Aside0.mk A30;clear A30;obtain rfl := Option.some.inj H;go_enter Try.func19,Try.ntmps19
  go_wp2_with (first | ((with_reducible refine gate_dst (N := 3) rfl ?_); refine Kd.R_lit (Kd.int .u8) _ 5 ?hg (N := 3) ?hd (xs := ([0] : List Int)) (inner := [.int .u8 0]) (ok := fun _ => True) (okp := fun _ => True) ?hr ?hp (fun _ hk => hk) trivial (Below.refl _ _) (Nat.le_refl _) (by simp) ?_; (case hd => rfl); (case hg => rfl); (case hr => (go_simp; done)); (case hp => exact (Reps.one (show Kd.M (Kd.int .u8) _ _ _ 0 [.int .u8 0] from rfl) (Reps.none _ _))); intro v318 w4 ho5 hb hg_ hnew_; clear hg_ hnew_; (rw [← Ny317.out] at ho5); have n0_ := Aside0.mk (Kd.R_lower ho5 (below_size HB.out)); have n1_ := Aside0.mk (below_step HB.out hb); clear HB; have HO319 := n0_; have HB := n1_; clear n0_ n1_; clear hb ho5) | (at_builtin; refine print_append_str (w0 := w) w.heap.size rfl (.tmp 3) _ 22 9 5 rfl Try.underlying22 Try.underlying9 info5 v318 y317 a0 rfl rfl ?aO ?aB ?aS ?aL ?_; (case aB => exact HB.out); (case aO => exact (Kd.own_of_R (by exact HO319.out))); (case aS => exact (below_size HB.out)); (case aL => have := LMc2.out; omega); intro v321 w6 ho0 hb hg; have ho := Kd.R_of_own (h1 := fun _ => rfl) (ok := fun _ => True) ho0 (fun _ _ => trivial); clear ho0; have hat := True.intro; rw [← Ny320.out] at ho; change Kd.R (Kd.int .u8) 5 w6 w.heap.size (fun _ => True) v321 y320 at ho; have n0_ := Aside0.mk (hb); have n1_ := Aside0.mk (ho); clear HB; clear HO319; have HB := n0_; have HO322 := n1_; clear n0_ n1_; clear ho hb hg hat; obtain ⟨Ao7,co7,eo7⟩ := Kd.R_slice HO322.out; subst eo7) | ((with_reducible refine gate_callee (f := 21) rfl ?_); refine goesL_ (some 6) rfl rfl Try.func21 (by kernel_rfl) rfl #[.slice Ao7 y320.length co7] rfl (by (try simp only [List.map_toArray,List.map_cons,List.map_nil]); rfl) ?_; (with_reducible refine (spec_Digest.calls k _ _ y320 t323 _ ?side1 ?side2 A3.out).mono ?_); (case side1 => repeat (exact (Kd.R_reads' HO322.out).2.2)); (case side2 => exact (Kd.R_reads' HO322.out).2.1); rintro e w8 ⟨rfl,hb⟩; refine ⟨_,rfl,?_⟩; have n0_ := Aside0.mk (Kd.R_below (by exact HO322.out) hb); have n1_ := Aside0.mk (below_step HB.out hb); clear HO322; clear HB; have HO322 := n0_; have HB := n1_; clear n0_ n1_; (try clear hb); skip))
  go_ret;exact ⟨by rfl,HB.out⟩
 ·rw [if_neg c2] at H;exact absurd H (by simp)

/-! ### spec_NodeDigest: function 20 -/
def spec_NodeDigest.f (k : Nat) (a0 : ByteArray) (a1 : ByteArray) : Option (ByteArray) := (some (([1] : List Int) : List Int)).bind fun y324 => (if y324.length + a0.size < 140737488355328 then ((some (y324 ++ bytesOf a0 : List Int)).bind fun y327 => (if y327.length + a1.size < 140737488355328 then ((spec_Digest.f k (y327 ++ bytesOf a1)).bind fun t333 => (some t333)) else (none))) else (none))
theorem spec_NodeDigest.mono : ∀ a0 a1 k,LeO (spec_NodeDigest.f k a0 a1) (spec_NodeDigest.f (k + 1) a0 a1) := by
 intro a0 a1 k;unfold spec_NodeDigest.f
 repeat' first
   | (with_reducible exact spec_Digest.mono _ _)
   | (with_reducible exact LeO.refl _)
   | (with_reducible exact LeO.none _)
   | (with_reducible refine LeO.ite ?_ ?_)
   | (with_reducible refine LeO.bind ?_ (fun _ => ?_))
   | exact spec_Digest.mono _ _
   | exact LeO.none _
set_option maxHeartbeats 8000000 in
set_option maxRecDepth 100000 in
theorem spec_NodeDigest.calls (k : Nat) (a0 : ByteArray) (a1 : ByteArray) (r : ByteArray) (w : World) (h : spec_NodeDigest.f k a0 a1 = some r) :
  Calls Try.prog 20 #[.string a0,.string a1] w fun e w' => e = .returned (.string r) ∧ Below w.heap.size w w' := by
 have HB := Aside0.mk (Below.refl w.heap.size w);have H : ((some (([1] : List Int) : List Int)).bind fun y324 => (if y324.length + a0.size < 140737488355328 then ((some (y324 ++ bytesOf a0 : List Int)).bind fun y327 => (if y327.length + a1.size < 140737488355328 then ((spec_Digest.f k (y327 ++ bytesOf a1)).bind fun t333 => (some t333)) else (none))) else (none))) = some r := h;clear h;obtain ⟨y324,hy324⟩ : ∃ y_ : List Int,y_ = ([1] : List Int) := ⟨_,rfl⟩
 replace H : (if y324.length + a0.size < 140737488355328 then ((some (y324 ++ bytesOf a0 : List Int)).bind fun y327 => (if y327.length + a1.size < 140737488355328 then ((spec_Digest.f k (y327 ++ bytesOf a1)).bind fun t333 => (some t333)) else (none))) else (none)) = some r := by (have H2_ := (Option.bind_some _ _).symm.trans H; rw [hy324]; with_reducible exact H2_)
 have Ny324 := Aside0.mk hy324;clear hy324
 by_cases c3 : y324.length + a0.size < 140737488355328
 ·rw [if_pos c3] at H;have LMc3 := Aside0.mk c3;clear c3;obtain ⟨y327,hy327⟩ : ∃ y_ : List Int,y_ = (y324 ++ bytesOf a0) := ⟨_,rfl⟩
  replace H : (if y327.length + a1.size < 140737488355328 then ((spec_Digest.f k (y327 ++ bytesOf a1)).bind fun t333 => (some t333)) else (none)) = some r := by (have H2_ := (Option.bind_some _ _).symm.trans H; rw [hy327]; with_reducible exact H2_)
  have Ny327 := Aside0.mk hy327;clear hy327
  by_cases c4 : y327.length + a1.size < 140737488355328
  ·rw [if_pos c4] at H;have LMc4 := Aside0.mk c4;clear c4;obtain ⟨y330,hy330⟩ : ∃ y_ : List Int,y_ = (y327 ++ bytesOf a1) := ⟨_,rfl⟩
   replace H : ((spec_Digest.f k y330).bind fun t333 => (some t333)) = some r := by (rw [hy330]; with_reducible exact H)
   have Ny330 := Aside0.mk hy330;clear hy330;replace H := Option.bind_eq_some_iff.mp H;obtain ⟨t333,A50,H⟩ := H;replace H : (some t333) = some r := H;have A5 := Aside0.mk A50;clear A50;obtain rfl := Option.some.inj H;go_enter Try.func20,Try.ntmps20
   go_wp2_with (first | ((with_reducible refine gate_dst (N := 5) rfl ?_); refine Kd.R_lit (Kd.int .u8) _ 5 ?hg (N := 5) ?hd (xs := ([1] : List Int)) (inner := [.int .u8 1]) (ok := fun _ => True) (okp := fun _ => True) ?hr ?hp (fun _ hk => hk) trivial (Below.refl _ _) (Nat.le_refl _) (by simp) ?_; (case hd => rfl); (case hg => rfl); (case hr => (go_simp; done)); (case hp => exact (Reps.one (show Kd.M (Kd.int .u8) _ _ _ 1 [.int .u8 1] from rfl) (Reps.none _ _))); intro v325 w6 ho7 hb hg_ hnew_; clear hg_ hnew_; (rw [← Ny324.out] at ho7); have n0_ := Aside0.mk (Kd.R_lower ho7 (below_size HB.out)); have n1_ := Aside0.mk (below_step HB.out hb); clear HB; have HO326 := n0_; have HB := n1_; clear n0_ n1_; clear hb ho7) | (at_builtin; refine print_append_str (w0 := w) w.heap.size rfl (.tmp 5) _ 22 9 5 rfl Try.underlying22 Try.underlying9 info5 v325 y324 a0 rfl rfl ?aO ?aB ?aS ?aL ?_; (case aB => exact HB.out); (case aO => exact (Kd.own_of_R (by exact HO326.out))); (case aS => exact (below_size HB.out)); (case aL => have := LMc3.out; omega); intro v328 w8 ho0 hb hg; have ho := Kd.R_of_own (h1 := fun _ => rfl) (ok := fun _ => True) ho0 (fun _ _ => trivial); clear ho0; have hat := True.intro; rw [← Ny327.out] at ho; change Kd.R (Kd.int .u8) 5 w8 w.heap.size (fun _ => True) v328 y327 at ho; have n0_ := Aside0.mk (hb); have n1_ := Aside0.mk (ho); clear HB; clear HO326; have HB := n0_; have HO329 := n1_; clear n0_ n1_; clear ho hb hg hat) | (at_builtin; refine print_append_str (w0 := w) w.heap.size rfl (.tmp 7) _ 22 9 5 rfl Try.underlying22 Try.underlying9 info5 v328 y327 a1 rfl rfl ?aO ?aB ?aS ?aL ?_; (case aB => exact HB.out); (case aO => exact (Kd.own_of_R (by exact HO329.out))); (case aS => exact (below_size HB.out)); (case aL => have := LMc4.out; omega); intro v331 w9 ho0 hb hg; have ho := Kd.R_of_own (h1 := fun _ => rfl) (ok := fun _ => True) ho0 (fun _ _ => trivial); clear ho0; have hat := True.intro; rw [← Ny330.out] at ho; change Kd.R (Kd.int .u8) 5 w9 w.heap.size (fun _ => True) v331 y330 at ho; have n0_ := Aside0.mk (hb); have n1_ := Aside0.mk (ho); clear HB; clear HO329; have HB := n0_; have HO332 := n1_; clear n0_ n1_; clear ho hb hg hat; obtain ⟨Ao10,co10,eo10⟩ := Kd.R_slice HO332.out; subst eo10) | ((with_reducible refine gate_callee (f := 21) rfl ?_); refine goesL_ (some 10) rfl rfl Try.func21 (by kernel_rfl) rfl #[.slice Ao10 y330.length co10] rfl (by (try simp only [List.map_toArray,List.map_cons,List.map_nil]); rfl) ?_; (with_reducible refine (spec_Digest.calls k _ _ y330 t333 _ ?side1 ?side2 A5.out).mono ?_); (case side1 => repeat (exact (Kd.R_reads' HO332.out).2.2)); (case side2 => exact (Kd.R_reads' HO332.out).2.1); rintro e w11 ⟨rfl,hb⟩; refine ⟨_,rfl,?_⟩; have n0_ := Aside0.mk (Kd.R_below (by exact HO332.out) hb); have n1_ := Aside0.mk (below_step HB.out hb); clear HO332; clear HB; have HO332 := n0_; have HB := n1_; clear n0_ n1_; (try clear hb); skip))
   go_ret;exact ⟨by rfl,HB.out⟩
  ·rw [if_neg c4] at H;exact absurd H (by simp)
 ·rw [if_neg c3] at H;exact absurd H (by simp)

/-! ### spec_l3Half: function 86 -/
def spec_l3Half.l0 : Nat → Int → Int → Option (Int)
 | 0,_,_ => none
 | k + 1,x0,x3 => if (wrap64 (2 * x3)) < x0 then (spec_l3Half.l0 k x0 (wrap64 (2 * x3))) else (some x3)
def spec_l3Half.f (k : Nat) (a0 : Int) : Option (Int) := spec_l3Half.l0 k a0 1
theorem spec_l3Half.mono_l : ∀ k,(∀ y0 y1,LeO (spec_l3Half.l0 k y0 y1) (spec_l3Half.l0 (k + 1) y0 y1))
 | 0 => fun _ _ r h => by simp [spec_l3Half.l0] at h
 | k + 1 => by
  have ih0 := spec_l3Half.mono_l k
  ·intro y0 y1;unfold spec_l3Half.l0
   repeat' first
   | (with_reducible exact ih0 _ _)
   | (with_reducible exact LeO.refl _)
   | (with_reducible exact LeO.none _)
   | (with_reducible refine LeO.ite ?_ ?_)
   | (with_reducible refine LeO.bind ?_ (fun _ => ?_))
   | exact ih0 _ _
   | exact LeO.none _
theorem spec_l3Half.mono : ∀ a0 k,LeO (spec_l3Half.f k a0) (spec_l3Half.f (k + 1) a0) := by
 intro a0 k;have ih0 := spec_l3Half.mono_l k;unfold spec_l3Half.f
 repeat' first
   | (with_reducible exact ih0 _ _)
   | (with_reducible exact LeO.refl _)
   | (with_reducible exact LeO.none _)
   | (with_reducible refine LeO.ite ?_ ?_)
   | (with_reducible refine LeO.bind ?_ (fun _ => ?_))
   | exact ih0 _ _
   | exact LeO.none _
set_option maxHeartbeats 8000000 in
set_option maxRecDepth 100000 in
theorem spec_l3Half.calls (k : Nat) (a0 : Int) (r : Int) (w : World) (h : spec_l3Half.f k a0 = some r) :
  Calls Try.prog 86 #[.int .i64 a0] w fun e w' => e = .returned (.int .i64 r) ∧ Drawn0 w w' := by
 have H : (spec_l3Half.l0 k a0 1) = some r := h;clear h;have H' := Aside0.mk H;clear H;go_enter Try.func86,Try.ntmps86;go_wp2
 go_loopg [3] k (fun kq v3 w' => ∃ (x3_1 : Int),v3 = .int .i64 x3_1 ∧ Aside0 (spec_l3Half.l0 kq a0 x3_1 = some r) ∧ Aside0 (kq ≤ k) ∧ Drawn0 w w')
 case atStart => exact ⟨(1),(by rfl),H',⟨Nat.le_refl _⟩,by repeat (exact Drawn0.refl _)⟩
 case round =>
  clear H';obtain ⟨x3_1,rfl,HA,HK1,⟨m1,rfl⟩⟩ := hrel
  cases gk with
  | zero => exact absurd HA.out (by simp [spec_l3Half.l0])
  | succ k1 =>
   have H := HA.out;clear HA;simp only [spec_l3Half.l0] at H
   by_cases c2 : (wrap64 (2 * x3_1)) < a0
   ·rw [if_pos c2] at H;have c2b0 : decide ((wrap64 (2 * x3_1)) < a0) = true := decide_eq_true c2;clear c2;have H' := Aside0.mk H;clear H;go_wp2
    go_roundg k1
    case measure => have := HK1.out; omega
    case rel => exact ⟨(wrap64 (2 * x3_1)),(by rfl),H',⟨by have := HK1.out; omega⟩,by repeat (first | exact Drawn0.refl _ | apply Drawn0.step)⟩
   ·rw [if_neg c2] at H;have c2b0 : decide ((wrap64 (2 * x3_1)) < a0) = false := decide_eq_false c2;clear c2;obtain rfl := Option.some.inj H;go_wp2;go_ret;exact ⟨by rfl,by repeat (first | exact Drawn0.refl _ | apply Drawn0.step)⟩

end Go.Proofs.Ytgbbgdlenadhlaa.PJ
