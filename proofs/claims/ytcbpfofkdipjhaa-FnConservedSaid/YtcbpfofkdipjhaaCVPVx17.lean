/- The machine's side of Go functions: each as a plain function,and that the call does what it says. Written by a program (wip/mprint). -/
import Derived.Test.YtcbpfofkdipjhaaCVPVx0
import Derived.Test.YtcbpfofkdipjhaaCVPVx3
import Derived.Test.YtcbpfofkdipjhaaCVPVx15
import Derived.Test.YtcbpfofkdipjhaaCVPVx16
namespace Go.Proofs.Ytcbpfofkdipjhaa.PV
open Go.RowKit Go.Proofs.YtcbpfofkdipjhaaW.PrintWords Go.Proofs.YtcbpfofkdipjhaaW.PrintLast Go.Proofs.YtcbpfofkdipjhaaW.PrintMore
attribute [local wf_preprocess] Act.put List.setIfInBounds_toArray List.set_cons_zero List.set_cons_succ i64_w i32_w
attribute [local go_sem] max2_int min2_int max_two min_two max_three min_three max_four min_four   -- for this text's walks alone
set_option linter.unusedVariables false
set_option linter.unusedSimpArgs false

/-! ### impl_StateRoot: function 28 -/
mutual
def impl_StateRoot.l0 : Nat → List ByteArray → List (S63) → Int → Int → Option (ByteArray)
 | 0,_,_,_,_ => none
 | k + 1,x3,x13,x14,x15 => if x15 < x14 then (if 0 ≤ x15 then (if x15 < (x13.length : Int) then ((impl_putText.f k ([] : List Int) ((rd_T63 x13 x15).f0)).bind fun t466 => ((impl_putNum.f k t466 ((rd_T63 x13 x15).f1)).bind fun t469 => ((impl_putNum.f k t469 ((rd_T63 x13 x15).f2)).bind fun t472 => ((impl_putNum.f k t472 ((rd_T63 x13 x15).f3)).bind fun t475 => ((impl_putNum.f k t475 (((rd_T63 x13 x15).f4).length : Int)).bind fun t478 => (impl_StateRoot.l1 k x3 t478 x13 x14 x15 ((rd_T63 x13 x15).f4) (((rd_T63 x13 x15).f4).length : Int) 0)))))) else (none)) else (none)) else ((impl_rootOf.f k x3).bind fun t463 => (some t463))
def impl_StateRoot.l1 : Nat → List ByteArray → List Int → List (S63) → Int → Int → List (S65) → Int → Int → Option (ByteArray)
 | 0,_,_,_,_,_,_,_,_ => none
 | k + 1,x3,x6,x13,x14,x15,x37,x38,x39 => if x39 < x38 then (if 0 ≤ x39 then (if x39 < (x37.length : Int) then ((impl_putNum.f k x6 ((rd_T65 x37 x39).f0)).bind fun t483 => ((impl_putNum.f k t483 ((rd_T65 x37 x39).f1)).bind fun t486 => (impl_StateRoot.l1 k x3 t486 x13 x14 x15 x37 x38 (wrap64 (x39 + 1))))) else (none)) else (none)) else (if x3.length < 8796093022208 then (impl_StateRoot.l0 k (x3 ++ [strOfNums x6]) x13 x14 (wrap64 (x15 + 1))) else (none))
end
def impl_StateRoot.f (k : Nat) (a0_0 : Int) (l0_1 : List (S63)) : Option (ByteArray) := (impl_LedgerOk.f k a0_0 l0_1).bind fun t462 => (if t462 = true then (impl_StateRoot.l0 k ([] : List ByteArray) l0_1 (l0_1.length : Int) 0) else (some (⟨#[]⟩ : ByteArray)))
def impl_StateRoot.T8 : Bool × List (List Nat × List Nat) := (true,[([],[]),([],[]),([1],[1]),([0,2],[0,2]),([],[]),([4],[4]),([3,5,3],[3,5]),([],[]),([7],[7]),([8],[8]),([6,9,6],[6,9]),([10,10,0,1,2,3,4,5,6,7,8,9,10],[0,10])])
def impl_StateRoot.B8 : List Nat := [0,0,2,7,0,16,63,0,128,384,1023,2047]
theorem impl_StateRoot.tab8 : rtab .any (opsOf Try.f28 8) = impl_StateRoot.T8 := by kernel_rfl
theorem impl_StateRoot.bits8 : waitsOk impl_StateRoot.T8.2 impl_StateRoot.B8 = true := by kernel_rfl
def impl_StateRoot.T12 : Bool × List (List Nat × List Nat) := (true,[([],[]),([],[]),([1],[1]),([0,2],[0,2]),([],[]),([4],[4]),([3,5,3],[3,5]),([6,6,0,1,2,3,4,5,6],[0,6])])
def impl_StateRoot.B12 : List Nat := [0,0,2,7,0,16,63,127]
theorem impl_StateRoot.tab12 : rtab .any (opsOf Try.f28 12) = impl_StateRoot.T12 := by kernel_rfl
theorem impl_StateRoot.bits12 : waitsOk impl_StateRoot.T12.2 impl_StateRoot.B12 = true := by kernel_rfl
set_option maxHeartbeats 8000000 in
set_option maxRecDepth 100000 in
theorem impl_StateRoot.calls (k : Nat) (a0_0 : Int) (A0_1 : Option Addr) (c0_1 : Nat) (l0_1 : List (S63)) (r : ByteArray) (w : World) (hr0_1 : Kd.C k63 w A0_1 l0_1.length l0_1) (hc0_1 : l0_1.length ≤ c0_1) (h : impl_StateRoot.f k a0_0 l0_1 = some r) :
  Calls Try.prog 28 #[.agg #[.int .i64 a0_0,.slice A0_1 l0_1.length c0_1]] w fun e w' => e = .returned (.string r) ∧ Below w.heap.size w w' := by
 have hu31 := Try.underlying31;have hu63 := Try.underlying63;have hu65 := Try.underlying65;have HR0_1 := Aside0.mk hr0_1;have HC0_1 := Aside0.mk hc0_1;clear hr0_1 hc0_1;have HB := Aside0.mk (Below.refl w.heap.size w);have H : ((impl_LedgerOk.f k a0_0 l0_1).bind fun t462 => (if t462 = true then (impl_StateRoot.l0 k ([] : List ByteArray) l0_1 (l0_1.length : Int) 0) else (some (⟨#[]⟩ : ByteArray)))) = some r := h;clear h;replace H := Option.bind_eq_some_iff.mp H;obtain ⟨t462,A20,H⟩ := H;replace H : (if t462 = true then (impl_StateRoot.l0 k ([] : List ByteArray) l0_1 (l0_1.length : Int) 0) else (some (⟨#[]⟩ : ByteArray))) = some r := H;have A2 := Aside0.mk A20;clear A20
 by_cases c3 : t462 = true
 ·subst c3
  rw [if_pos rfl] at H
  have H' := Aside0.mk H;clear H;go_enter Try.func28,Try.ntmps28
  go_wp2_with (first | ((with_reducible refine gate_dst (N := 1) rfl ?_); refine box_event (by rfl) (N := 1) (by rfl) (cs := #[.int .i64 a0_0,.slice A0_1 l0_1.length c0_1]) (t := 31) (by go_simp; done) ?_; intro gb461 hg w4 hbox hb; have BK461 := Aside0.mk hbox; have GW461 := gsz HB hg; have GE461 := GW461; replace HB := bst HB hb; clear hb hbox hg; obtain ⟨⟨hcz5_0,hcz5_1⟩,hfz5_0,hfz5_1⟩ := bc2 BK461.out) | ((with_reducible refine gate_callee (f := 27) rfl ?_); refine goesL_ (some 10) rfl rfl Try.func27 (by kernel_rfl) rfl #[.agg #[.int .i64 a0_0,.slice A0_1 l0_1.length c0_1]] rfl (by (try simp only [List.map_toArray,List.map_cons,List.map_nil]); rfl) ?_; (with_reducible refine (impl_LedgerOk.calls k a0_0 _ _ l0_1 true _ ?side1 ?side2 A2.out).mono ?_); (case side1 => repeat (exact (Kd.C_below HR0_1.out HB.out))); (case side2 => exact HC0_1.out); rintro e w6 ⟨rfl,hb⟩; refine ⟨_,rfl,?_⟩; replace BK461 := bkb BK461 hb; replace HB := bst HB hb; (try clear hb); obtain ⟨⟨hcz7_0,hcz7_1⟩,hfz7_0,hfz7_1⟩ := bc2 BK461.out))
  go_loopg [3,15] k (fun kq v3 v15 w' => ∃ (x3_1 : List ByteArray) (x15_1 : Int),v15 = .int .i64 x15_1 ∧ Aside0 (impl_StateRoot.l0 kq x3_1 l0_1 (l0_1.length : Int) x15_1 = some r) ∧ Aside0 (kq ≤ k) ∧ Aside0 (Kd.R Kd.string 9 w' w.heap.size (fun _ => True) v3 x3_1) ∧ Aside0 (w'.heap[gb461]? = some (.cells #[.int .i64 a0_0,(.slice A0_1 l0_1.length c0_1)] 31 (0,0))) ∧ Aside0 (Below w.heap.size w w'))
  case atStart => exact ⟨([] : List ByteArray),(0),(by rfl),H',⟨Nat.le_refl _⟩,⟨by exact Kd.R_nil _ _ _ _ _⟩,⟨by exact BK461.out⟩,⟨HB.out⟩⟩
  case round =>
   clear H'
   try clear c2
   try clear p2
   try clear c3
   try clear hcz5_0
   try clear hcz5_1
   try clear hcz7_0
   try clear hcz7_1
   try clear hfz5_0
   try clear hfz5_1
   try clear hfz7_0
   try clear hfz7_1
   obtain ⟨x3_1,x15_1,rfl,HA,HK1,HO_3,BK461,HB⟩ := hrel
   cases gk with
   | zero => exact absurd HA.out (by simp [impl_StateRoot.l0])
   | succ k1 =>
    have H := HA.out;clear HA;simp only [impl_StateRoot.l0] at H
    by_cases c8 : x15_1 < (l0_1.length : Int)
    ·rw [if_pos c8] at H;have c8b0 := decide_eq_true c8;clear c8
     by_cases c9 : 0 ≤ x15_1
     ·rw [if_pos c9] at H;have c9b0 := decide_eq_true c9;clear c9
      by_cases c10 : x15_1 < (l0_1.length : Int)
      ·rw [if_pos c10] at H;have c10b0 := decide_eq_true c10;clear c10;replace H := Option.bind_eq_some_iff.mp H;obtain ⟨t466,A110,H⟩ := H;replace H : ((impl_putNum.f k1 t466 ((rd_T63 l0_1 x15_1).f1)).bind fun t469 => ((impl_putNum.f k1 t469 ((rd_T63 l0_1 x15_1).f2)).bind fun t472 => ((impl_putNum.f k1 t472 ((rd_T63 l0_1 x15_1).f3)).bind fun t475 => ((impl_putNum.f k1 t475 (((rd_T63 l0_1 x15_1).f4).length : Int)).bind fun t478 => (impl_StateRoot.l1 k1 x3_1 t478 l0_1 (l0_1.length : Int) x15_1 ((rd_T63 l0_1 x15_1).f4) (((rd_T63 l0_1 x15_1).f4).length : Int) 0))))) = some r := H;have A11 := Aside0.mk A110;clear A110;replace H := Option.bind_eq_some_iff.mp H;obtain ⟨t469,A120,H⟩ := H;replace H : ((impl_putNum.f k1 t469 ((rd_T63 l0_1 x15_1).f2)).bind fun t472 => ((impl_putNum.f k1 t472 ((rd_T63 l0_1 x15_1).f3)).bind fun t475 => ((impl_putNum.f k1 t475 (((rd_T63 l0_1 x15_1).f4).length : Int)).bind fun t478 => (impl_StateRoot.l1 k1 x3_1 t478 l0_1 (l0_1.length : Int) x15_1 ((rd_T63 l0_1 x15_1).f4) (((rd_T63 l0_1 x15_1).f4).length : Int) 0)))) = some r := H;have A12 := Aside0.mk A120;clear A120;replace H := Option.bind_eq_some_iff.mp H;obtain ⟨t472,A130,H⟩ := H;replace H : ((impl_putNum.f k1 t472 ((rd_T63 l0_1 x15_1).f3)).bind fun t475 => ((impl_putNum.f k1 t475 (((rd_T63 l0_1 x15_1).f4).length : Int)).bind fun t478 => (impl_StateRoot.l1 k1 x3_1 t478 l0_1 (l0_1.length : Int) x15_1 ((rd_T63 l0_1 x15_1).f4) (((rd_T63 l0_1 x15_1).f4).length : Int) 0))) = some r := H;have A13 := Aside0.mk A130;clear A130;replace H := Option.bind_eq_some_iff.mp H;obtain ⟨t475,A140,H⟩ := H;replace H : ((impl_putNum.f k1 t475 (((rd_T63 l0_1 x15_1).f4).length : Int)).bind fun t478 => (impl_StateRoot.l1 k1 x3_1 t478 l0_1 (l0_1.length : Int) x15_1 ((rd_T63 l0_1 x15_1).f4) (((rd_T63 l0_1 x15_1).f4).length : Int) 0)) = some r := H;have A14 := Aside0.mk A140;clear A140;replace H := Option.bind_eq_some_iff.mp H;obtain ⟨t478,A150,H⟩ := H;replace H : (impl_StateRoot.l1 k1 x3_1 t478 l0_1 (l0_1.length : Int) x15_1 ((rd_T63 l0_1 x15_1).f4) (((rd_T63 l0_1 x15_1).f4).length : Int) 0) = some r := H;have A15 := Aside0.mk A150;clear A150;have H' := Aside0.mk H;clear H;have p464 : 0 ≤ (x15_1 : Int) := odt (by with_reducible assumption);have q464 : x15_1 < (l0_1.length : Int) := odt (by with_reducible assumption);obtain ⟨ad464,A464_4,c464_4,e464,hx464_0,hx464_1,hx464_2,hx464_3,hx464_4,hl464_4,hi464_4⟩ := at_T63 HR0_1.out x15_1 p464 q464
       cases e464
       replace ⟨hx464_0,hx464_1,hx464_2,hx464_3,hx464_4⟩ := up5 HB.out hx464_0 hx464_1 hx464_2 hx464_3 hx464_4;have HR464_4 := Aside0.mk hi464_4;have HC464_4 := Aside0.mk hl464_4;clear hi464_4 hl464_4;replace p464 := eq_true p464;replace q464 := eq_true q464
       try go_wp2_with (((with_reducible refine gate_dst (N := 5) rfl ?_); refine box_event (by rfl) (N := 5) (by rfl) (cs := #[.string (⟨#[]⟩ : ByteArray),.int .i64 0,.int .i64 0,.int .i64 0,.slice none 0 0]) (t := 63) (by go_simp; done) ?_; intro gb465 hg w16 hbox hb; replace HO_3 := Aside0.mk (Kd.R_below (by exact HO_3.out) hb); have BK465 := Aside0.mk hbox; have GW465 := gsz HB hg; have GE465 := GW465; replace HB := bst HB hb; obtain ⟨NB461_465,NB465_461⟩ := nbb BK461 hg; replace BK461 := bkb BK461 hb; clear hb hbox hg; have hnb17 := NB465_461.out; have hnc17 := NB461_465.out; obtain ⟨⟨hcz18_0,hcz18_1,hcz18_2,hcz18_3,hcz18_4⟩,hfz18_0,hfz18_1,hfz18_2,hfz18_3,hfz18_4⟩ := bc5 BK465.out))
       have n0_ : Aside0 (Kd.R Kd.string 9 (((((w16.setCell ⟨gb465,0,none⟩ (.string ((rd_T63 l0_1 x15_1).f0))).setCell ⟨gb465,1,none⟩ (.int .i64 ((rd_T63 l0_1 x15_1).f1))).setCell ⟨gb465,2,none⟩ (.int .i64 ((rd_T63 l0_1 x15_1).f2))).setCell ⟨gb465,3,none⟩ (.int .i64 ((rd_T63 l0_1 x15_1).f3))).setCell ⟨gb465,4,none⟩ (.slice A464_4 ((rd_T63 l0_1 x15_1).f4).length c464_4)) w.heap.size (fun _ => True) u3 x3_1) := ⟨by exact Kd.R_mono (Kd.R_far (p := ⟨gb465,4,none⟩) (Kd.R_far (p := ⟨gb465,3,none⟩) (Kd.R_far (p := ⟨gb465,2,none⟩) (Kd.R_far (p := ⟨gb465,1,none⟩) (Kd.R_far (p := ⟨gb465,0,none⟩) (Kd.R_types HO_3.out BK465.out (by decide)) (fun _ hk => hk.2) (.string ((rd_T63 l0_1 x15_1).f0))) (fun _ hk => hk.2) (.int .i64 ((rd_T63 l0_1 x15_1).f1))) (fun _ hk => hk.2) (.int .i64 ((rd_T63 l0_1 x15_1).f2))) (fun _ hk => hk.2) (.int .i64 ((rd_T63 l0_1 x15_1).f3))) (fun _ hk => hk.2) (.slice A464_4 ((rd_T63 l0_1 x15_1).f4).length c464_4)) (fun _ hk => trivial)⟩;have n1_ : Aside0 ((((((w16.setCell ⟨gb465,0,none⟩ (.string ((rd_T63 l0_1 x15_1).f0))).setCell ⟨gb465,1,none⟩ (.int .i64 ((rd_T63 l0_1 x15_1).f1))).setCell ⟨gb465,2,none⟩ (.int .i64 ((rd_T63 l0_1 x15_1).f2))).setCell ⟨gb465,3,none⟩ (.int .i64 ((rd_T63 l0_1 x15_1).f3))).setCell ⟨gb465,4,none⟩ (.slice A464_4 ((rd_T63 l0_1 x15_1).f4).length c464_4)).heap[gb461]? = some (.cells #[.int .i64 a0_0,.slice (some ad464) l0_1.length c0_1] 31 (0,0))) := ⟨by refine blk_far ?_ NB461_465.out _; refine blk_far ?_ NB461_465.out _; refine blk_far ?_ NB461_465.out _; refine blk_far ?_ NB461_465.out _; refine blk_far ?_ NB461_465.out _; exact BK461.out⟩;have n2_ : Aside0 ((((((w16.setCell ⟨gb465,0,none⟩ (.string ((rd_T63 l0_1 x15_1).f0))).setCell ⟨gb465,1,none⟩ (.int .i64 ((rd_T63 l0_1 x15_1).f1))).setCell ⟨gb465,2,none⟩ (.int .i64 ((rd_T63 l0_1 x15_1).f2))).setCell ⟨gb465,3,none⟩ (.int .i64 ((rd_T63 l0_1 x15_1).f3))).setCell ⟨gb465,4,none⟩ (.slice A464_4 ((rd_T63 l0_1 x15_1).f4).length c464_4)).heap[gb465]? = some (.cells #[.string ((rd_T63 l0_1 x15_1).f0),.int .i64 ((rd_T63 l0_1 x15_1).f1),.int .i64 ((rd_T63 l0_1 x15_1).f2),.int .i64 ((rd_T63 l0_1 x15_1).f3),.slice A464_4 ((rd_T63 l0_1 x15_1).f4).length c464_4] 63 (0,0))) := ⟨by refine blk_put (cs := #[.string ((rd_T63 l0_1 x15_1).f0),.int .i64 ((rd_T63 l0_1 x15_1).f1),.int .i64 ((rd_T63 l0_1 x15_1).f2),.int .i64 ((rd_T63 l0_1 x15_1).f3),.slice none 0 0]) ?_ 4 _ rfl; refine blk_put (cs := #[.string ((rd_T63 l0_1 x15_1).f0),.int .i64 ((rd_T63 l0_1 x15_1).f1),.int .i64 ((rd_T63 l0_1 x15_1).f2),.int .i64 0,.slice none 0 0]) ?_ 3 _ rfl; refine blk_put (cs := #[.string ((rd_T63 l0_1 x15_1).f0),.int .i64 ((rd_T63 l0_1 x15_1).f1),.int .i64 0,.int .i64 0,.slice none 0 0]) ?_ 2 _ rfl; refine blk_put (cs := #[.string ((rd_T63 l0_1 x15_1).f0),.int .i64 0,.int .i64 0,.int .i64 0,.slice none 0 0]) ?_ 1 _ rfl; refine blk_put (cs := #[.string (⟨#[]⟩ : ByteArray),.int .i64 0,.int .i64 0,.int .i64 0,.slice none 0 0]) ?_ 0 _ rfl; exact BK465.out⟩;have n3_ : Aside0 (Below w.heap.size w (((((w16.setCell ⟨gb465,0,none⟩ (.string ((rd_T63 l0_1 x15_1).f0))).setCell ⟨gb465,1,none⟩ (.int .i64 ((rd_T63 l0_1 x15_1).f1))).setCell ⟨gb465,2,none⟩ (.int .i64 ((rd_T63 l0_1 x15_1).f2))).setCell ⟨gb465,3,none⟩ (.int .i64 ((rd_T63 l0_1 x15_1).f3))).setCell ⟨gb465,4,none⟩ (.slice A464_4 ((rd_T63 l0_1 x15_1).f4).length c464_4))) := ⟨by repeat (with_reducible first | exact HB.out | refine below_set ?_ GE465.out)⟩
       (try clear HO_3)
       (try clear BK461)
       (try clear BK465)
       (try clear HB)
       generalize (((((w16.setCell ⟨gb465,0,none⟩ (.string ((rd_T63 l0_1 x15_1).f0))).setCell ⟨gb465,1,none⟩ (.int .i64 ((rd_T63 l0_1 x15_1).f1))).setCell ⟨gb465,2,none⟩ (.int .i64 ((rd_T63 l0_1 x15_1).f2))).setCell ⟨gb465,3,none⟩ (.int .i64 ((rd_T63 l0_1 x15_1).f3))).setCell ⟨gb465,4,none⟩ (.slice A464_4 ((rd_T63 l0_1 x15_1).f4).length c464_4)) = w19 at n0_ n1_ n2_ n3_ ⊢
       have HO_3 := n0_;have BK461 := n1_;have BK465 := n2_;have HB := n3_;clear n0_ n1_ n2_ n3_;replace HO_3 := Aside0.mk (Kd.R_drew HO_3.out);replace BK461 := Aside0.mk (blk_drew BK461.out);replace BK465 := Aside0.mk (blk_drew BK465.out);replace HB := Aside0.mk (below_drew1 HB.out);refine start_ (n := 7) (S := fun w' => w'.cell? ⟨gb465,0,none⟩ = some (.string ((rd_T63 l0_1 x15_1).f0)) ∧ w'.cell? ⟨gb465,1,none⟩ = some (.int .i64 ((rd_T63 l0_1 x15_1).f1)) ∧ w'.cell? ⟨gb465,2,none⟩ = some (.int .i64 ((rd_T63 l0_1 x15_1).f2)) ∧ w'.cell? ⟨gb465,3,none⟩ = some (.int .i64 ((rd_T63 l0_1 x15_1).f3)) ∧ w'.cell? ⟨gb465,4,none⟩ = some (.slice A464_4 ((rd_T63 l0_1 x15_1).f4).length c464_4)) (ds := []) (Array.replicate 7 false) (by kernel_rfl) rfl rfl ⟨(blk_cell BK465.out 0).trans rfl,(blk_cell BK465.out 1).trans rfl,(blk_cell BK465.out 2).trans rfl,(blk_cell BK465.out 3).trans rfl,(blk_cell BK465.out 4).trans rfl⟩ (fun hHeld => ?_)
       generalize w19.drew = w20 at HO_3 BK461 BK465 HB hHeld ⊢
       refine pure_ (i := 0) (N := some 19) (v := ?_) (a' := ?_) (fl 7 1) rfl rfl (by kernel_rfl) (fun _ _ _ h => h) (Or.inl ⟨by rfl,?_⟩) ?_ ?_;rotate_left
       ·intro w';go_simp;with_reducible rfl
       rotate_left
       ·simp only [wf_preprocess];rfl
       refine pure_ (i := 3) (N := some 22) (v := ?_) (a' := ?_) (fl 7 9) rfl rfl (by kernel_rfl) (fun _ _ _ h => h) (Or.inl ⟨by rfl,?_⟩) ?_ ?_;rotate_left
       ·intro w';go_simp;with_reducible rfl
       rotate_left
       ·simp only [wf_preprocess];rfl
       refine take_ (i := 1) (N := some 20) (v := ?_) (a' := ?_) (fl 7 11) rfl rfl (by kernel_rfl) (fun _ _ _ h => h) (Or.inl ⟨by rfl,?_⟩) hHeld ?_ ?_;rotate_left
       ·rintro w' ⟨s0,s1,s2,s3,s4⟩;go_simp;with_reducible rfl
       rotate_left
       ·simp only [wf_preprocess];rfl
       refine take_ (i := 4) (N := some 23) (v := ?_) (a' := ?_) (fl 7 27) rfl rfl (by kernel_rfl) (fun _ _ _ h => h) (Or.inl ⟨by rfl,?_⟩) hHeld ?_ ?_;rotate_left
       ·rintro w' ⟨s0,s1,s2,s3,s4⟩;go_simp;with_reducible rfl
       rotate_left
       ·simp only [wf_preprocess];rfl
       refine one_ (i := 2) (N := some 21) (fl 7 31) rfl rfl (by kernel_rfl) (by decide) (fun K hK => ?_);refine goes_ Try.func71 (by kernel_rfl) rfl #[.slice none 0 0,.string ((rd_T63 l0_1 x15_1).f0)] (by rfl) rfl rfl (by (try simp only [List.map_toArray,List.map_cons,List.map_nil]); rfl) ?_;refine (impl_putText.calls k1 (fun k_ => some k_ = (.slice none 0 0 : Value).ownBlock) (.slice none 0 0) ([] : List Int) ((rd_T63 l0_1 x15_1).f0) t466 w _ ?side1 ?side2 A11.out).mono ?_
       (case side1 => repeat (with_reducible exact HB.out))
       (case side2 => exact Kd.R_nil _ _ _ _ _)
       rintro e w21 ⟨v467,rfl,ho0,hb,hkp⟩;refine ⟨_,rfl,?_⟩;replace HO_3 := Aside0.mk (Kd.R_mono (ok' := fun k_ => True) (Kd.R_keptB (HO_3.out) hkp (fun k_ hk_ hs_ => (fun e_ => by simp [Value.ownBlock] at e_) hs_)) (fun k_ hk_ => trivial));replace BK461 := Aside0.mk (blk_kept (by exact BK461.out) hkp (fun hs_ => (fun e_ => by simp [Value.ownBlock] at e_) hs_));replace BK465 := Aside0.mk (blk_kept (by exact BK465.out) hkp (fun hs_ => (fun e_ => by simp [Value.ownBlock] at e_) hs_));have HO468 := Aside0.mk (Kd.R_mono (ok' := fun k_ => True) ho0 (fun k_ hk_ => trivial));replace HB := Aside0.mk (hb)
       (try clear hb)
       (try clear hkp)
       (try clear ho0)
       obtain ⟨Ao22,co22,eo22⟩ := Kd.R_slice HO468.out
       (subst eo22)
       refine hK.out _ _ ⟨(blk_cell BK465.out 0).trans rfl,(blk_cell BK465.out 1).trans rfl,(blk_cell BK465.out 2).trans rfl,(blk_cell BK465.out 3).trans rfl,(blk_cell BK465.out 4).trans rfl⟩ (fun hHeld => ?_);clear hK K;refine norm_ (a' := ?_) ?_ ?_;rotate_left
       ·show Act.put _ (some 21) _ = _
        simp only [wf_preprocess];rfl
       refine one_ (i := 5) (N := some 24) (fl 7 63) rfl rfl (by kernel_rfl) (by decide) (fun K hK => ?_);refine goes_ Try.func70 (by kernel_rfl) rfl #[.slice Ao22 t466.length co22,.int .i64 ((rd_T63 l0_1 x15_1).f1)] (by rfl) rfl rfl (by (try simp only [List.map_toArray,List.map_cons,List.map_nil]); rfl) ?_
       with_reducible refine (impl_putNum.calls k1 (fun k_ => some k_ = (.slice Ao22 t466.length co22 : Value).ownBlock) (.slice Ao22 t466.length co22) t466 ((rd_T63 l0_1 x15_1).f1) t469 w _ ?side1 ?side2 A12.out).mono ?_
       (case side1 => repeat (with_reducible exact HB.out))
       (case side2 => exact Kd.R_tight rfl HO468.out)
       rintro e w23 ⟨v470,rfl,ho0,hb,hkp⟩;refine ⟨_,rfl,?_⟩;replace HO_3 := Aside0.mk (Kd.R_mono (ok' := fun k_ => True) (Kd.R_keptB (Kd.R_apart' HO_3.out (Kd.R_typed HO468.out) (by decide)) hkp (fun k_ hk_ hs_ => (hk_.2) hs_)) (fun k_ hk_ => trivial));replace BK461 := Aside0.mk (blk_kept (by exact BK461.out) hkp (fun hs_ => (fun e_ => (Kd.R_ne HO468.out BK461.out (by decide)) e_) hs_));replace BK465 := Aside0.mk (blk_kept (by exact BK465.out) hkp (fun hs_ => (fun e_ => (Kd.R_ne HO468.out BK465.out (by decide)) e_) hs_));have HO471 := Aside0.mk (Kd.R_mono (ok' := fun k_ => True) ho0 (fun k_ hk_ => trivial));replace HB := Aside0.mk (hb);clear HO468
       (try clear hb)
       (try clear hkp)
       (try clear ho0)
       refine hK.out _ _ ⟨(blk_cell BK465.out 0).trans rfl,(blk_cell BK465.out 1).trans rfl,(blk_cell BK465.out 2).trans rfl,(blk_cell BK465.out 3).trans rfl,(blk_cell BK465.out 4).trans rfl⟩ (fun hHeld => ?_);clear hK K;refine norm_ (a' := ?_) ?_ ?_;rotate_left
       ·show Act.put _ (some 24) _ = _
        simp only [wf_preprocess];rfl
       refine pure_ (i := 6) (N := some 6) (v := ?_) (a' := ?_) (fl 7 127) rfl rfl (by kernel_rfl) (fun _ _ _ h => h) (Or.inl ⟨by rfl,?_⟩) ?_ ?_;rotate_left
       ·intro w';go_simp;with_reducible rfl
       rotate_left
       ·simp only [wf_preprocess];rfl
       refine done_ (by kernel_rfl) ?_
       try go_wp2
       replace HO_3 := Aside0.mk (Kd.R_drew HO_3.out);replace HO471 := Aside0.mk (Kd.R_drew HO471.out);replace BK461 := Aside0.mk (blk_drew BK461.out);replace BK465 := Aside0.mk (blk_drew BK465.out);replace HB := Aside0.mk (below_drew1 HB.out);obtain ⟨Ao25,co25,eo25⟩ := Kd.R_slice HO471.out
       (subst eo25)
       refine start_ (n := 12) (S := fun w' => w'.cell? ⟨gb465,0,none⟩ = some (.string ((rd_T63 l0_1 x15_1).f0)) ∧ w'.cell? ⟨gb465,1,none⟩ = some (.int .i64 ((rd_T63 l0_1 x15_1).f1)) ∧ w'.cell? ⟨gb465,2,none⟩ = some (.int .i64 ((rd_T63 l0_1 x15_1).f2)) ∧ w'.cell? ⟨gb465,3,none⟩ = some (.int .i64 ((rd_T63 l0_1 x15_1).f3)) ∧ w'.cell? ⟨gb465,4,none⟩ = some (.slice A464_4 ((rd_T63 l0_1 x15_1).f4).length c464_4)) (ds := []) (Array.replicate 12 false) (by kernel_rfl) rfl rfl ⟨(blk_cell BK465.out 0).trans rfl,(blk_cell BK465.out 1).trans rfl,(blk_cell BK465.out 2).trans rfl,(blk_cell BK465.out 3).trans rfl,(blk_cell BK465.out 4).trans rfl⟩ (fun hHeld => ?_); refine with_tabW impl_StateRoot.tab8 impl_StateRoot.bits8 (fun HT_ HW_ => ?_)
       generalize w23.drew = w24 at HO_3 HO471 BK461 BK465 HB hHeld ⊢
       refine pu 0 (some 25) (fl 12 1) HT_ rfl rfl (by kernel_rfl) (fun _ _ _ h => h) (by rfl) (fun w' => by go_simp;with_reducible rfl) (by simp only [wf_preprocess];rfl) ?_
       refine pu 1 (some 26) (fl 12 3) HT_ rfl rfl (by kernel_rfl) (fun _ _ _ h => h) (by rfl) (fun w' => by go_simp;with_reducible rfl) (by simp only [wf_preprocess];rfl) ?_
       refine pu 4 (some 29) (fl 12 19) HT_ rfl rfl (by kernel_rfl) (fun _ _ _ h => h) (by rfl) (fun w' => by go_simp;with_reducible rfl) (by simp only [wf_preprocess];rfl) ?_
       refine pu 7 (some 32) (fl 12 147) HT_ rfl rfl (by kernel_rfl) (fun _ _ _ h => h) (by rfl) (fun w' => by go_simp;with_reducible rfl) (by simp only [wf_preprocess];rfl) ?_
       refine tk 2 (some 27) (fl 12 151) HT_ HW_ rfl rfl (by kernel_rfl) (fun _ _ _ h => h) (by rfl) (by rintro w' ⟨s0,s1,s2,s3,s4⟩;go_simp;with_reducible rfl) hHeld (by simp only [wf_preprocess];rfl) ?_
       refine tk 5 (some 30) (fl 12 183) HT_ HW_ rfl rfl (by kernel_rfl) (fun _ _ _ h => h) (by rfl) (by rintro w' ⟨s0,s1,s2,s3,s4⟩;go_simp;with_reducible rfl) hHeld (by simp only [wf_preprocess];rfl) ?_
       refine tk 8 (some 33) (fl 12 439) HT_ HW_ rfl rfl (by kernel_rfl) (fun _ _ _ h => h) (by rfl) (by rintro w' ⟨s0,s1,s2,s3,s4⟩;go_simp;with_reducible rfl) hHeld (by simp only [wf_preprocess];rfl) ?_
       refine pu 9 (some 34) (fl 12 951) HT_ rfl rfl (by kernel_rfl) (fun _ _ _ h => h) (by rfl) (fun w' => by go_simp;with_reducible rfl) (by simp only [wf_preprocess];rfl) ?_
       refine one_ (i := 3) (N := some 28) (fl 12 959) rfl rfl (one_of HT_.out (by kernel_rfl)) (by decide) (fun K hK => ?_);refine goes_ Try.func70 (by kernel_rfl) rfl #[.slice Ao25 t469.length co25,.int .i64 ((rd_T63 l0_1 x15_1).f2)] (by rfl) rfl rfl (by (try simp only [List.map_toArray,List.map_cons,List.map_nil]); rfl) ?_
       with_reducible refine (impl_putNum.calls k1 (fun k_ => some k_ = (.slice Ao25 t469.length co25 : Value).ownBlock) (.slice Ao25 t469.length co25) t469 ((rd_T63 l0_1 x15_1).f2) t472 w _ ?side1 ?side2 A13.out).mono ?_
       (case side1 => repeat (with_reducible exact HB.out))
       (case side2 => exact Kd.R_tight rfl HO471.out)
       rintro e w26 ⟨v473,rfl,ho0,hb,hkp⟩;refine ⟨_,rfl,?_⟩;replace HO_3 := Aside0.mk (Kd.R_mono (ok' := fun k_ => True) (Kd.R_keptB (Kd.R_apart' HO_3.out (Kd.R_typed HO471.out) (by decide)) hkp (fun k_ hk_ hs_ => (hk_.2) hs_)) (fun k_ hk_ => trivial));replace BK461 := Aside0.mk (blk_kept (by exact BK461.out) hkp (fun hs_ => (fun e_ => (Kd.R_ne HO471.out BK461.out (by decide)) e_) hs_));replace BK465 := Aside0.mk (blk_kept (by exact BK465.out) hkp (fun hs_ => (fun e_ => (Kd.R_ne HO471.out BK465.out (by decide)) e_) hs_));have HO474 := Aside0.mk (Kd.R_mono (ok' := fun k_ => True) ho0 (fun k_ hk_ => trivial));replace HB := Aside0.mk (hb);clear HO471
       (try clear hb)
       (try clear hkp)
       (try clear ho0)
       obtain ⟨Ao27,co27,eo27⟩ := Kd.R_slice HO474.out
       (subst eo27)
       refine hK.out _ _ ⟨(blk_cell BK465.out 0).trans rfl,(blk_cell BK465.out 1).trans rfl,(blk_cell BK465.out 2).trans rfl,(blk_cell BK465.out 3).trans rfl,(blk_cell BK465.out 4).trans rfl⟩ (fun hHeld => ?_);clear hK K;refine norm_ (a' := ?_) ?_ ?_;rotate_left
       ·show Act.put _ (some 28) _ = _
        simp only [wf_preprocess];rfl
       refine one_ (i := 6) (N := some 31) (fl 12 1023) rfl rfl (one_of HT_.out (by kernel_rfl)) (by decide) (fun K hK => ?_);refine goes_ Try.func70 (by kernel_rfl) rfl #[.slice Ao27 t472.length co27,.int .i64 ((rd_T63 l0_1 x15_1).f3)] (by rfl) rfl rfl (by (try simp only [List.map_toArray,List.map_cons,List.map_nil]); rfl) ?_
       with_reducible refine (impl_putNum.calls k1 (fun k_ => some k_ = (.slice Ao27 t472.length co27 : Value).ownBlock) (.slice Ao27 t472.length co27) t472 ((rd_T63 l0_1 x15_1).f3) t475 w _ ?side1 ?side2 A14.out).mono ?_
       (case side1 => repeat (with_reducible exact HB.out))
       (case side2 => exact Kd.R_tight rfl HO474.out)
       rintro e w28 ⟨v476,rfl,ho0,hb,hkp⟩;refine ⟨_,rfl,?_⟩;replace HO_3 := Aside0.mk (Kd.R_mono (ok' := fun k_ => True) (Kd.R_keptB (Kd.R_apart' HO_3.out (Kd.R_typed HO474.out) (by decide)) hkp (fun k_ hk_ hs_ => (hk_.2) hs_)) (fun k_ hk_ => trivial));replace BK461 := Aside0.mk (blk_kept (by exact BK461.out) hkp (fun hs_ => (fun e_ => (Kd.R_ne HO474.out BK461.out (by decide)) e_) hs_));replace BK465 := Aside0.mk (blk_kept (by exact BK465.out) hkp (fun hs_ => (fun e_ => (Kd.R_ne HO474.out BK465.out (by decide)) e_) hs_));have HO477 := Aside0.mk (Kd.R_mono (ok' := fun k_ => True) ho0 (fun k_ hk_ => trivial));replace HB := Aside0.mk (hb);clear HO474
       (try clear hb)
       (try clear hkp)
       (try clear ho0)
       obtain ⟨Ao29,co29,eo29⟩ := Kd.R_slice HO477.out
       (subst eo29)
       refine hK.out _ _ ⟨(blk_cell BK465.out 0).trans rfl,(blk_cell BK465.out 1).trans rfl,(blk_cell BK465.out 2).trans rfl,(blk_cell BK465.out 3).trans rfl,(blk_cell BK465.out 4).trans rfl⟩ (fun hHeld => ?_);clear hK K;refine norm_ (a' := ?_) ?_ ?_;rotate_left
       ·show Act.put _ (some 31) _ = _
        simp only [wf_preprocess];rfl
       refine one_ (i := 10) (N := some 35) (fl 12 2047) rfl rfl (one_of HT_.out (by kernel_rfl)) (by decide) (fun K hK => ?_);refine goes_ Try.func70 (by kernel_rfl) rfl #[.slice Ao29 t475.length co29,.int .i64 (((rd_T63 l0_1 x15_1).f4).length : Int)] (by rfl) rfl rfl (by (try simp only [List.map_toArray,List.map_cons,List.map_nil]); rfl) ?_
       with_reducible refine (impl_putNum.calls k1 (fun k_ => some k_ = (.slice Ao29 t475.length co29 : Value).ownBlock) (.slice Ao29 t475.length co29) t475 (((rd_T63 l0_1 x15_1).f4).length : Int) t478 w _ ?side1 ?side2 A15.out).mono ?_
       (case side1 => repeat (with_reducible exact HB.out))
       (case side2 => exact Kd.R_tight rfl HO477.out)
       rintro e w30 ⟨v479,rfl,ho0,hb,hkp⟩;refine ⟨_,rfl,?_⟩;replace HO_3 := Aside0.mk (Kd.R_mono (ok' := fun k_ => True) (Kd.R_keptB (Kd.R_apart' HO_3.out (Kd.R_typed HO477.out) (by decide)) hkp (fun k_ hk_ hs_ => (hk_.2) hs_)) (fun k_ hk_ => trivial));replace BK461 := Aside0.mk (blk_kept (by exact BK461.out) hkp (fun hs_ => (fun e_ => (Kd.R_ne HO477.out BK461.out (by decide)) e_) hs_));replace BK465 := Aside0.mk (blk_kept (by exact BK465.out) hkp (fun hs_ => (fun e_ => (Kd.R_ne HO477.out BK465.out (by decide)) e_) hs_));have HO480 := Aside0.mk (Kd.R_mono (ok' := fun k_ => True) ho0 (fun k_ hk_ => trivial));replace HB := Aside0.mk (hb);clear HO477
       (try clear hb)
       (try clear hkp)
       (try clear ho0)
       refine hK.out _ _ ⟨(blk_cell BK465.out 0).trans rfl,(blk_cell BK465.out 1).trans rfl,(blk_cell BK465.out 2).trans rfl,(blk_cell BK465.out 3).trans rfl,(blk_cell BK465.out 4).trans rfl⟩ (fun hHeld => ?_);clear hK K;refine norm_ (a' := ?_) ?_ ?_;rotate_left
       ·show Act.put _ (some 35) _ = _
        simp only [wf_preprocess];rfl
       refine pu 11 (some 6) (fl 12 4095) HT_ rfl rfl (by kernel_rfl) (fun _ _ _ h => h) (by rfl) (fun w' => by go_simp;with_reducible rfl) (by simp only [wf_preprocess];rfl) ?_
       refine done_ (done_of HT_.out (by kernel_rfl)) ?_;obtain ⟨⟨hcz31_0,hcz31_1,hcz31_2,hcz31_3,hcz31_4⟩,hfz31_0,hfz31_1,hfz31_2,hfz31_3,hfz31_4⟩ := bc5 BK465.out
       try go_wp2
       go_loopg [6,39] k1 (fun kq v6 v39 w' => ∃ (x6_2 : List Int) (x39_2 : Int),v39 = .int .i64 x39_2 ∧ Aside0 (impl_StateRoot.l1 kq x3_1 x6_2 l0_1 (l0_1.length : Int) x15_1 ((rd_T63 l0_1 x15_1).f4) (((rd_T63 l0_1 x15_1).f4).length : Int) x39_2 = some r) ∧ Aside0 (kq ≤ k1) ∧ Aside0 (Kd.R Kd.string 9 w' w.heap.size (fun _ => True) u3 x3_1) ∧ Aside0 (Kd.R (Kd.int .u8) 5 w' w.heap.size (fun _ => True) v6 x6_2) ∧ Aside0 (w'.heap[gb461]? = some (.cells #[.int .i64 a0_0,(.slice (some ad464) l0_1.length c0_1)] 31 (0,0))) ∧ Aside0 (w'.heap[gb465]? = some (.cells #[.string ((rd_T63 l0_1 x15_1).f0),.int .i64 ((rd_T63 l0_1 x15_1).f1),.int .i64 ((rd_T63 l0_1 x15_1).f2),.int .i64 ((rd_T63 l0_1 x15_1).f3),(.slice A464_4 ((rd_T63 l0_1 x15_1).f4).length c464_4)] 63 (0,0))) ∧ Aside0 (Below w.heap.size w w'))
       case atStart => exact ⟨(t478),(0),(by rfl),H',⟨Nat.le_refl _⟩,⟨by exact HO_3.out⟩,⟨by exact HO480.out⟩,⟨by exact BK461.out⟩,⟨by exact BK465.out⟩,⟨HB.out⟩⟩
       case round =>
        clear H'
        try clear c1
        try clear c2
        try clear p2
        try clear c3
        try clear c4
        try clear p4
        try clear q4
        try clear hx4
        try clear c7
        try clear c8
        try clear c8b0
        try clear c9
        try clear c9b0
        try clear c10
        try clear c10b0
        try clear c17
        try clear c27
        try clear c28
        try clear hcz18_0
        try clear hcz18_1
        try clear hcz18_2
        try clear hcz18_3
        try clear hcz18_4
        try clear hcz31_0
        try clear hcz31_1
        try clear hcz31_2
        try clear hcz31_3
        try clear hcz31_4
        try clear hcz5_0
        try clear hcz5_1
        try clear hcz7_0
        try clear hcz7_1
        try clear hfz18_0
        try clear hfz18_1
        try clear hfz18_2
        try clear hfz18_3
        try clear hfz18_4
        try clear hfz31_0
        try clear hfz31_1
        try clear hfz31_2
        try clear hfz31_3
        try clear hfz31_4
        try clear hfz5_0
        try clear hfz5_1
        try clear hfz7_0
        try clear hfz7_1
        try clear hx464_0
        try clear hx464_1
        try clear hx464_2
        try clear hx464_3
        try clear hx464_4
        try clear p2
        try clear p464
        try clear q464
        obtain ⟨x6_2,x39_2,rfl,HA,HK2,HO_3,HO_6,BK461,BK465,HB⟩ := hrel
        cases gk with
        | zero => exact absurd HA.out (by simp [impl_StateRoot.l1])
        | succ k2 =>
         have H := HA.out;clear HA;simp only [impl_StateRoot.l1] at H
         by_cases c32 : x39_2 < (((rd_T63 l0_1 x15_1).f4).length : Int)
         ·rw [if_pos c32] at H;have c32b0 := decide_eq_true c32;clear c32
          by_cases c33 : 0 ≤ x39_2
          ·rw [if_pos c33] at H;have c33b0 := decide_eq_true c33;clear c33
           by_cases c34 : x39_2 < (((rd_T63 l0_1 x15_1).f4).length : Int)
           ·rw [if_pos c34] at H;have c34b0 := decide_eq_true c34;clear c34;replace H := Option.bind_eq_some_iff.mp H;obtain ⟨t483,A350,H⟩ := H;replace H : ((impl_putNum.f k2 t483 ((rd_T65 ((rd_T63 l0_1 x15_1).f4) x39_2).f1)).bind fun t486 => (impl_StateRoot.l1 k2 x3_1 t486 l0_1 (l0_1.length : Int) x15_1 ((rd_T63 l0_1 x15_1).f4) (((rd_T63 l0_1 x15_1).f4).length : Int) (wrap64 (x39_2 + 1)))) = some r := H;have A35 := Aside0.mk A350;clear A350;replace H := Option.bind_eq_some_iff.mp H;obtain ⟨t486,A360,H⟩ := H;replace H : (impl_StateRoot.l1 k2 x3_1 t486 l0_1 (l0_1.length : Int) x15_1 ((rd_T63 l0_1 x15_1).f4) (((rd_T63 l0_1 x15_1).f4).length : Int) (wrap64 (x39_2 + 1))) = some r := H;have A36 := Aside0.mk A360;clear A360;have H' := Aside0.mk H;clear H;have p481 : 0 ≤ (x39_2 : Int) := odt (by with_reducible assumption);have q481 : x39_2 < (((rd_T63 l0_1 x15_1).f4).length : Int) := odt (by with_reducible assumption);obtain ⟨ad481,e481,hx481_0,hx481_1⟩ := at_T65 HR464_4.out x39_2 p481 q481
            cases e481
            replace hx481_0 := up_ HB.out hx481_0;replace hx481_1 := up_ HB.out hx481_1;replace p481 := eq_true p481;replace q481 := eq_true q481
            try go_wp2_with (((with_reducible refine gate_dst (N := 8) rfl ?_); refine box_event (by rfl) (N := 8) (by rfl) (cs := #[.int .i64 0,.int .i64 0]) (t := 65) (by go_simp; done) ?_; intro gb482 hg w37 hbox hb; replace HO_3 := Aside0.mk (Kd.R_below (by exact HO_3.out) hb); replace HO_6 := Aside0.mk (Kd.R_below (by exact HO_6.out) hb); have BK482 := Aside0.mk hbox; have GW482 := gsz HB hg; have GE482 := GW482; replace HB := bst HB hb; obtain ⟨NB461_482,NB482_461⟩ := nbb BK461 hg; replace BK461 := bkb BK461 hb; obtain ⟨NB465_482,NB482_465⟩ := nbb BK465 hg; replace BK465 := bkb BK465 hb; clear hb hbox hg; have hnb38 := NB482_461.out; have hnc38 := NB461_482.out; have hnb39 := NB482_465.out; have hnc39 := NB465_482.out; obtain ⟨⟨hcz40_0,hcz40_1⟩,hfz40_0,hfz40_1⟩ := bc2 BK482.out))
            have n0_ : Aside0 (Kd.R Kd.string 9 ((w37.setCell ⟨gb482,0,none⟩ (.int .i64 ((rd_T65 ((rd_T63 l0_1 x15_1).f4) x39_2).f0))).setCell ⟨gb482,1,none⟩ (.int .i64 ((rd_T65 ((rd_T63 l0_1 x15_1).f4) x39_2).f1))) w.heap.size (fun _ => True) u3 x3_1) := ⟨by exact Kd.R_mono (Kd.R_far (p := ⟨gb482,1,none⟩) (Kd.R_far (p := ⟨gb482,0,none⟩) (Kd.R_types HO_3.out BK482.out (by decide)) (fun _ hk => hk.2) (.int .i64 ((rd_T65 ((rd_T63 l0_1 x15_1).f4) x39_2).f0))) (fun _ hk => hk.2) (.int .i64 ((rd_T65 ((rd_T63 l0_1 x15_1).f4) x39_2).f1))) (fun _ hk => trivial)⟩;have n1_ : Aside0 (Kd.R (Kd.int .u8) 5 ((w37.setCell ⟨gb482,0,none⟩ (.int .i64 ((rd_T65 ((rd_T63 l0_1 x15_1).f4) x39_2).f0))).setCell ⟨gb482,1,none⟩ (.int .i64 ((rd_T65 ((rd_T63 l0_1 x15_1).f4) x39_2).f1))) w.heap.size (fun _ => True) u6 x6_2) := ⟨by exact Kd.R_mono (Kd.R_far (p := ⟨gb482,1,none⟩) (Kd.R_far (p := ⟨gb482,0,none⟩) (Kd.R_types HO_6.out BK482.out (by decide)) (fun _ hk => hk.2) (.int .i64 ((rd_T65 ((rd_T63 l0_1 x15_1).f4) x39_2).f0))) (fun _ hk => hk.2) (.int .i64 ((rd_T65 ((rd_T63 l0_1 x15_1).f4) x39_2).f1))) (fun _ hk => trivial)⟩;have n2_ : Aside0 (((w37.setCell ⟨gb482,0,none⟩ (.int .i64 ((rd_T65 ((rd_T63 l0_1 x15_1).f4) x39_2).f0))).setCell ⟨gb482,1,none⟩ (.int .i64 ((rd_T65 ((rd_T63 l0_1 x15_1).f4) x39_2).f1))).heap[gb461]? = some (.cells #[.int .i64 a0_0,.slice (some ad464) l0_1.length c0_1] 31 (0,0))) := ⟨by refine blk_far ?_ NB461_482.out _; refine blk_far ?_ NB461_482.out _; exact BK461.out⟩;have n3_ : Aside0 (((w37.setCell ⟨gb482,0,none⟩ (.int .i64 ((rd_T65 ((rd_T63 l0_1 x15_1).f4) x39_2).f0))).setCell ⟨gb482,1,none⟩ (.int .i64 ((rd_T65 ((rd_T63 l0_1 x15_1).f4) x39_2).f1))).heap[gb465]? = some (.cells #[.string ((rd_T63 l0_1 x15_1).f0),.int .i64 ((rd_T63 l0_1 x15_1).f1),.int .i64 ((rd_T63 l0_1 x15_1).f2),.int .i64 ((rd_T63 l0_1 x15_1).f3),.slice (some ad481) ((rd_T63 l0_1 x15_1).f4).length c464_4] 63 (0,0))) := ⟨by refine blk_far ?_ NB465_482.out _; refine blk_far ?_ NB465_482.out _; exact BK465.out⟩;have n4_ : Aside0 (((w37.setCell ⟨gb482,0,none⟩ (.int .i64 ((rd_T65 ((rd_T63 l0_1 x15_1).f4) x39_2).f0))).setCell ⟨gb482,1,none⟩ (.int .i64 ((rd_T65 ((rd_T63 l0_1 x15_1).f4) x39_2).f1))).heap[gb482]? = some (.cells #[.int .i64 ((rd_T65 ((rd_T63 l0_1 x15_1).f4) x39_2).f0),.int .i64 ((rd_T65 ((rd_T63 l0_1 x15_1).f4) x39_2).f1)] 65 (0,0))) := ⟨by refine blk_put (cs := #[.int .i64 ((rd_T65 ((rd_T63 l0_1 x15_1).f4) x39_2).f0),.int .i64 0]) ?_ 1 _ rfl; refine blk_put (cs := #[.int .i64 0,.int .i64 0]) ?_ 0 _ rfl; exact BK482.out⟩;have n5_ : Aside0 (Below w.heap.size w ((w37.setCell ⟨gb482,0,none⟩ (.int .i64 ((rd_T65 ((rd_T63 l0_1 x15_1).f4) x39_2).f0))).setCell ⟨gb482,1,none⟩ (.int .i64 ((rd_T65 ((rd_T63 l0_1 x15_1).f4) x39_2).f1)))) := ⟨by repeat (with_reducible first | exact HB.out | refine below_set ?_ GE482.out)⟩
            (try clear HO_3)
            (try clear HO_6)
            (try clear BK461)
            (try clear BK465)
            (try clear BK482)
            (try clear HB)
            generalize ((w37.setCell ⟨gb482,0,none⟩ (.int .i64 ((rd_T65 ((rd_T63 l0_1 x15_1).f4) x39_2).f0))).setCell ⟨gb482,1,none⟩ (.int .i64 ((rd_T65 ((rd_T63 l0_1 x15_1).f4) x39_2).f1))) = w41 at n0_ n1_ n2_ n3_ n4_ n5_ ⊢
            have HO_3 := n0_;have HO_6 := n1_;have BK461 := n2_;have BK465 := n3_;have BK482 := n4_;have HB := n5_;clear n0_ n1_ n2_ n3_ n4_ n5_;replace HO_3 := Aside0.mk (Kd.R_drew HO_3.out);replace HO_6 := Aside0.mk (Kd.R_drew HO_6.out);replace BK461 := Aside0.mk (blk_drew BK461.out);replace BK465 := Aside0.mk (blk_drew BK465.out);replace BK482 := Aside0.mk (blk_drew BK482.out);replace HB := Aside0.mk (below_drew1 HB.out);obtain ⟨Ao43,co43,eo43⟩ := Kd.R_slice HO_6.out
            (subst eo43)
            refine start_ (n := 8) (S := fun w' => w'.cell? ⟨gb482,0,none⟩ = some (.int .i64 ((rd_T65 ((rd_T63 l0_1 x15_1).f4) x39_2).f0)) ∧ w'.cell? ⟨gb482,1,none⟩ = some (.int .i64 ((rd_T65 ((rd_T63 l0_1 x15_1).f4) x39_2).f1))) (ds := []) (Array.replicate 8 false) (by kernel_rfl) rfl rfl ⟨(blk_cell BK482.out 0).trans rfl,(blk_cell BK482.out 1).trans rfl⟩ (fun hHeld => ?_); refine with_tabW impl_StateRoot.tab12 impl_StateRoot.bits12 (fun HT_ HW_ => ?_)
            generalize w41.drew = w42 at HO_3 HO_6 BK461 BK465 BK482 HB hHeld ⊢
            refine pu 0 (some 43) (fl 8 1) HT_ rfl rfl (by kernel_rfl) (fun _ _ _ h => h) (by rfl) (fun w' => by go_simp;with_reducible rfl) (by simp only [wf_preprocess];rfl) ?_
            refine pu 1 (some 44) (fl 8 3) HT_ rfl rfl (by kernel_rfl) (fun _ _ _ h => h) (by rfl) (fun w' => by go_simp;with_reducible rfl) (by simp only [wf_preprocess];rfl) ?_
            refine pu 4 (some 47) (fl 8 19) HT_ rfl rfl (by kernel_rfl) (fun _ _ _ h => h) (by rfl) (fun w' => by go_simp;with_reducible rfl) (by simp only [wf_preprocess];rfl) ?_
            refine tk 2 (some 45) (fl 8 23) HT_ HW_ rfl rfl (by kernel_rfl) (fun _ _ _ h => h) (by rfl) (by rintro w' ⟨s0,s1⟩;go_simp;with_reducible rfl) hHeld (by simp only [wf_preprocess];rfl) ?_
            refine tk 5 (some 48) (fl 8 55) HT_ HW_ rfl rfl (by kernel_rfl) (fun _ _ _ h => h) (by rfl) (by rintro w' ⟨s0,s1⟩;go_simp;with_reducible rfl) hHeld (by simp only [wf_preprocess];rfl) ?_
            refine one_ (i := 3) (N := some 46) (fl 8 63) rfl rfl (one_of HT_.out (by kernel_rfl)) (by decide) (fun K hK => ?_);refine goes_ Try.func70 (by kernel_rfl) rfl #[.slice Ao43 x6_2.length co43,.int .i64 ((rd_T65 ((rd_T63 l0_1 x15_1).f4) x39_2).f0)] (by rfl) rfl rfl (by (try simp only [List.map_toArray,List.map_cons,List.map_nil]); rfl) ?_
            with_reducible refine (impl_putNum.calls k2 (fun k_ => some k_ = (.slice Ao43 x6_2.length co43 : Value).ownBlock) (.slice Ao43 x6_2.length co43) x6_2 ((rd_T65 ((rd_T63 l0_1 x15_1).f4) x39_2).f0) t483 w _ ?side1 ?side2 A35.out).mono ?_
            (case side1 => repeat (with_reducible exact HB.out))
            (case side2 => exact Kd.R_tight rfl HO_6.out)
            rintro e w44 ⟨v484,rfl,ho0,hb,hkp⟩;refine ⟨_,rfl,?_⟩;replace HO_3 := Aside0.mk (Kd.R_mono (ok' := fun k_ => True) (Kd.R_keptB (Kd.R_apart' HO_3.out (Kd.R_typed HO_6.out) (by decide)) hkp (fun k_ hk_ hs_ => (hk_.2) hs_)) (fun k_ hk_ => trivial));replace BK461 := Aside0.mk (blk_kept (by exact BK461.out) hkp (fun hs_ => (fun e_ => (Kd.R_ne HO_6.out BK461.out (by decide)) e_) hs_));replace BK465 := Aside0.mk (blk_kept (by exact BK465.out) hkp (fun hs_ => (fun e_ => (Kd.R_ne HO_6.out BK465.out (by decide)) e_) hs_));replace BK482 := Aside0.mk (blk_kept (by exact BK482.out) hkp (fun hs_ => (fun e_ => (Kd.R_ne HO_6.out BK482.out (by decide)) e_) hs_));have HO485 := Aside0.mk (Kd.R_mono (ok' := fun k_ => True) ho0 (fun k_ hk_ => trivial));replace HB := Aside0.mk (hb);clear HO_6
            (try clear hb)
            (try clear hkp)
            (try clear ho0)
            obtain ⟨Ao45,co45,eo45⟩ := Kd.R_slice HO485.out
            (subst eo45)
            refine hK.out _ _ ⟨(blk_cell BK482.out 0).trans rfl,(blk_cell BK482.out 1).trans rfl⟩ (fun hHeld => ?_);clear hK K;refine norm_ (a' := ?_) ?_ ?_;rotate_left
            ·show Act.put _ (some 46) _ = _
             simp only [wf_preprocess];rfl
            refine one_ (i := 6) (N := some 49) (fl 8 127) rfl rfl (one_of HT_.out (by kernel_rfl)) (by decide) (fun K hK => ?_);refine goes_ Try.func70 (by kernel_rfl) rfl #[.slice Ao45 t483.length co45,.int .i64 ((rd_T65 ((rd_T63 l0_1 x15_1).f4) x39_2).f1)] (by rfl) rfl rfl (by (try simp only [List.map_toArray,List.map_cons,List.map_nil]); rfl) ?_
            with_reducible refine (impl_putNum.calls k2 (fun k_ => some k_ = (.slice Ao45 t483.length co45 : Value).ownBlock) (.slice Ao45 t483.length co45) t483 ((rd_T65 ((rd_T63 l0_1 x15_1).f4) x39_2).f1) t486 w _ ?side1 ?side2 A36.out).mono ?_
            (case side1 => repeat (with_reducible exact HB.out))
            (case side2 => exact Kd.R_tight rfl HO485.out)
            rintro e w46 ⟨v487,rfl,ho0,hb,hkp⟩;refine ⟨_,rfl,?_⟩;replace HO_3 := Aside0.mk (Kd.R_mono (ok' := fun k_ => True) (Kd.R_keptB (Kd.R_apart' HO_3.out (Kd.R_typed HO485.out) (by decide)) hkp (fun k_ hk_ hs_ => (hk_.2) hs_)) (fun k_ hk_ => trivial));replace BK461 := Aside0.mk (blk_kept (by exact BK461.out) hkp (fun hs_ => (fun e_ => (Kd.R_ne HO485.out BK461.out (by decide)) e_) hs_));replace BK465 := Aside0.mk (blk_kept (by exact BK465.out) hkp (fun hs_ => (fun e_ => (Kd.R_ne HO485.out BK465.out (by decide)) e_) hs_));replace BK482 := Aside0.mk (blk_kept (by exact BK482.out) hkp (fun hs_ => (fun e_ => (Kd.R_ne HO485.out BK482.out (by decide)) e_) hs_));have HO488 := Aside0.mk (Kd.R_mono (ok' := fun k_ => True) ho0 (fun k_ hk_ => trivial));replace HB := Aside0.mk (hb);clear HO485
            (try clear hb)
            (try clear hkp)
            (try clear ho0)
            refine hK.out _ _ ⟨(blk_cell BK482.out 0).trans rfl,(blk_cell BK482.out 1).trans rfl⟩ (fun hHeld => ?_);clear hK K;refine norm_ (a' := ?_) ?_ ?_;rotate_left
            ·show Act.put _ (some 49) _ = _
             simp only [wf_preprocess];rfl
            refine pu 7 (some 6) (fl 8 255) HT_ rfl rfl (by kernel_rfl) (fun _ _ _ h => h) (by rfl) (fun w' => by go_simp;with_reducible rfl) (by simp only [wf_preprocess];rfl) ?_
            refine done_ (done_of HT_.out (by kernel_rfl)) ?_
            try go_wp2
            go_roundg k2
            case measure => have := HK1.out; have := HK2.out; omega
            case rel => exact ⟨(t486),(wrap64 (x39_2 + 1)),(by rfl),H',⟨by have := HK1.out; have := HK2.out; omega⟩,⟨by exact HO_3.out⟩,⟨by exact HO488.out⟩,⟨by exact BK461.out⟩,⟨by exact BK465.out⟩,⟨HB.out⟩⟩
           ·rw [if_neg c34] at H;exact absurd H (by simp)
          ·rw [if_neg c33] at H;exact absurd H (by simp)
         ·rw [if_neg c32] at H;have c32b0 := decide_eq_false c32;clear c32
          by_cases c47 : x3_1.length < 8796093022208
          ·rw [if_pos c47] at H;have LMc47 := Aside0.mk c47;clear c47;obtain ⟨y489,hy489⟩ : ∃ y_ : List ByteArray,y_ = (x3_1 ++ [strOfNums x6_2]) := ⟨_,rfl⟩
           replace H : (impl_StateRoot.l0 k2 y489 l0_1 (l0_1.length : Int) (wrap64 (x15_1 + 1))) = some r := by (rw [hy489]; with_reducible exact H)
           have Ny489 := Aside0.mk hy489;clear hy489;have H' := Aside0.mk H;clear H;have hcv48 := own_string (P := Try.prog) Try.underlying40 Try.underlying5 Try.underlying9 (Kd.own_of_R HO_6.out)
           go_wp2_with (((with_reducible refine gate_builtin (b := .append) (xs := #[.tmp 51,.tmp 54]) rfl ?_); at_builtin; refine Kd.R_append Kd.string (w0 := w) w.heap.size rfl (.tmp 51) (.tmp 54) 74 9 (.string ⟨#[]⟩) 16 rfl Try.underlying74 info9 rfl (by decide) (by omega) u3 x3_1 (strOfNums x6_2) [.string (strOfNums x6_2)] (fun _ => True) (fun _ => False) rfl rfl ?aP (fun _ hk => hk.elim) ?aF ?aO ?aB ?aS ?aL ?_; (case aP => exact rfl); (case aB => exact HB.out); (case aF => exact (fun _ _ => trivial)); (case aO => exact (by exact HO_3.out)); (case aS => exact (below_size HB.out)); (case aL => have := LMc47.out; omega); intro v490 w49 ho hb hg hat; rw [← Ny489.out] at ho; replace HO_6 := Aside0.mk (Kd.R_over' (by exact HO_6.out) (Kd.R_typed (by exact HO_3.out)) (by decide) hg); replace BK461 := Aside0.mk (blk_grown BK461.out hg (Kd.R_ne HO_3.out BK461.out (by decide))); replace BK465 := Aside0.mk (blk_grown BK465.out hg (Kd.R_ne HO_3.out BK465.out (by decide))); replace HB := Aside0.mk (hb); have HO491 := Aside0.mk (ho); clear HO_3; clear ho hb hg hat))
           go_roundg k2
           case measure => have := HK1.out; have := HK2.out; omega
           case rel => exact ⟨(y489),(wrap64 (x15_1 + 1)),(by rfl),H',⟨by have := HK1.out; have := HK2.out; omega⟩,⟨by exact HO491.out⟩,⟨by exact BK461.out⟩,⟨HB.out⟩⟩
          ·rw [if_neg c47] at H;exact absurd H (by simp)
      ·rw [if_neg c10] at H;exact absurd H (by simp)
     ·rw [if_neg c9] at H;exact absurd H (by simp)
    ·rw [if_neg c8] at H;have c8b0 := decide_eq_false c8;clear c8;replace H := Option.bind_eq_some_iff.mp H;obtain ⟨t463,A500,H⟩ := H;replace H : (some t463) = some r := H;have A50 := Aside0.mk A500;clear A500;obtain rfl := Option.some.inj H;obtain ⟨Ao51,co51,eo51⟩ := Kd.R_slice HO_3.out;subst eo51
     go_wp2_with (((with_reducible refine gate_callee (f := 72) rfl ?_); refine goesL_ (some 58) rfl rfl Try.func72 (by kernel_rfl) rfl #[.slice Ao51 x3_1.length co51] rfl (by (try simp only [List.map_toArray,List.map_cons,List.map_nil]); rfl) ?_; (with_reducible refine (impl_rootOf.calls k1 _ _ x3_1 t463 _ ?side1 ?side2 A50.out).mono ?_); (case side1 => repeat (exact (Kd.R_reads' HO_3.out).2.2)); (case side2 => exact (Kd.R_reads' HO_3.out).2.1); rintro e w52 ⟨rfl,hb⟩; refine ⟨_,rfl,?_⟩; replace HO_3 := Aside0.mk (Kd.R_below (by exact HO_3.out) hb); replace BK461 := bkb BK461 hb; replace HB := bst HB hb; (try clear hb); skip))
     go_ret;exact ⟨by rfl,HB.out⟩
 ·replace c3 := Bool.eq_false_iff.mpr c3;subst c3
  rw [if_neg (show ¬ (false = true) by decide)] at H
  obtain rfl := Option.some.inj H;go_enter Try.func28,Try.ntmps28
  go_wp2_with (first | ((with_reducible refine gate_dst (N := 1) rfl ?_); refine box_event (by rfl) (N := 1) (by rfl) (cs := #[.int .i64 a0_0,.slice A0_1 l0_1.length c0_1]) (t := 31) (by go_simp; done) ?_; intro gb461 hg w53 hbox hb; have BK461 := Aside0.mk hbox; have GW461 := gsz HB hg; have GE461 := GW461; replace HB := bst HB hb; clear hb hbox hg; obtain ⟨⟨hcz54_0,hcz54_1⟩,hfz54_0,hfz54_1⟩ := bc2 BK461.out) | ((with_reducible refine gate_callee (f := 27) rfl ?_); refine goesL_ (some 10) rfl rfl Try.func27 (by kernel_rfl) rfl #[.agg #[.int .i64 a0_0,.slice A0_1 l0_1.length c0_1]] rfl (by (try simp only [List.map_toArray,List.map_cons,List.map_nil]); rfl) ?_; (with_reducible refine (impl_LedgerOk.calls k a0_0 _ _ l0_1 false _ ?side1 ?side2 A2.out).mono ?_); (case side1 => repeat (exact (Kd.C_below HR0_1.out HB.out))); (case side2 => exact HC0_1.out); rintro e w55 ⟨rfl,hb⟩; refine ⟨_,rfl,?_⟩; replace BK461 := bkb BK461 hb; replace HB := bst HB hb; (try clear hb); skip))
  go_ret;exact ⟨by rfl,HB.out⟩

end Go.Proofs.Ytcbpfofkdipjhaa.PV
