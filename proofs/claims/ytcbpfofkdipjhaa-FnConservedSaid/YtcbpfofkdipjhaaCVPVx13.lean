/- The machine's side of Go functions: each as a plain function,and that the call does what it says. Written by a program (wip/mprint). -/
import Derived.Test.YtcbpfofkdipjhaaCVPVx0
import Derived.Test.YtcbpfofkdipjhaaCVPVx6
import Derived.Test.YtcbpfofkdipjhaaCVPVx10
import Derived.Test.YtcbpfofkdipjhaaCVPVx12
namespace Go.Proofs.Ytcbpfofkdipjhaa.PV
open Go.RowKit Go.Proofs.YtcbpfofkdipjhaaW.PrintWords Go.Proofs.YtcbpfofkdipjhaaW.PrintLast Go.Proofs.YtcbpfofkdipjhaaW.PrintMore
set_option maxHeartbeats 8000000
set_option maxRecDepth 100000
attribute [local go_sem] max2_int min2_int max_two min_two max_three min_three max_four min_four   -- for this text's walks alone
set_option linter.unusedVariables false
set_option linter.unusedSimpArgs false

/-! ### spec_Apply: function 15 -/
mutual
def spec_Apply.j0 : Nat → Bool → Int → List (S63) → Int → ByteArray → ByteArray → Int → Int → Int → List (S63) → Option (Int × (List (S63)) × Int)
 | 0,_,_,_,_,_,_,_,_,_,_ => none
 | k + 1,x20,x323000,x323001,x324000,x324001,x324002,x324003,x324004,x330000,x330001 => if x20 = true then (some (x330000,x330001,1)) else ((spec_AcctAt.f k x323001 x324001).bind fun t332 => (if t332 < 0 then (some (x330000,x330001,2)) else (if 0 ≤ t332 then (if t332 < (x323001.length : Int) then (if x324000 = 3 then (spec_Apply.j1 k t332 ((rd_T63 x323001 t332).f3) x323000 x323001 x324000 x324001 x324002 x324003 x324004 x330000 x330001 ((rd_T63 x323001 t332).f0) ((rd_T63 x323001 t332).f1) ((rd_T63 x323001 t332).f2) ((rd_T63 x323001 t332).f3) ((rd_T63 x323001 t332).f4)) else (spec_Apply.j1 k t332 ((rd_T63 x323001 t332).f1) x323000 x323001 x324000 x324001 x324002 x324003 x324004 x330000 x330001 ((rd_T63 x323001 t332).f0) ((rd_T63 x323001 t332).f1) ((rd_T63 x323001 t332).f2) ((rd_T63 x323001 t332).f3) ((rd_T63 x323001 t332).f4))) else (none)) else (none))))
def spec_Apply.j1 : Nat → Int → Int → Int → List (S63) → Int → ByteArray → ByteArray → Int → Int → Int → List (S63) → ByteArray → Int → Int → Int → List (S65) → Option (Int × (List (S63)) × Int)
 | 0,_,_,_,_,_,_,_,_,_,_,_,_,_,_,_,_ => none
 | k + 1,x7,x9,x323000,x323001,x324000,x324001,x324002,x324003,x324004,x330000,x330001,x335000,x335001,x335002,x335003,x335004 => if x335002 = x324004 then (if x9 < x324003 then (some (x330000,x330001,4)) else ((spec_l6Do.f k x323000 x323001 x324000 x324001 x324002 x324003 x324004 x7).bind fun bt335 => ((spec_LedgerOk.f k bt335.1 bt335.2).bind fun t340 => (if t340 = true then (some (bt335.1,bt335.2,0)) else (some (x330000,x330001,5)))))) else (some (x330000,x330001,3))
end
def spec_Apply.f (k : Nat) (a0_0 : Int) (l0_1 : List (S63)) (a1_0 : Int) (a1_1 : ByteArray) (a1_2 : ByteArray) (a1_3 : Int) (a1_4 : Int) : Option (Int × (List (S63)) × Int) := (spec_l6Copy.f k a0_0 l0_1).bind fun bt325 => ((spec_LedgerOk.f k a0_0 l0_1).bind fun t330 => (if t330 = true then ((spec_TxOk.f k a1_0 a1_1 a1_2 a1_3 a1_4).bind fun t331 => (spec_Apply.j0 k (!t331) a0_0 l0_1 a1_0 a1_1 a1_2 a1_3 a1_4 bt325.1 bt325.2)) else (spec_Apply.j0 k true a0_0 l0_1 a1_0 a1_1 a1_2 a1_3 a1_4 bt325.1 bt325.2)))
theorem spec_Apply.calls (k : Nat) (a0_0 : Int) (A0_1 : Option Addr) (c0_1 : Nat) (l0_1 : List (S63)) (a1_0 : Int) (a1_1 : ByteArray) (a1_2 : ByteArray) (a1_3 : Int) (a1_4 : Int) (r1 : Int) (r2 : List (S63)) (r3 : Int) (w : World) (hr0_1 : Kd.C k63 w A0_1 l0_1.length l0_1) (hc0_1 : l0_1.length ≤ c0_1) (h : spec_Apply.f k a0_0 l0_1 a1_0 a1_1 a1_2 a1_3 a1_4 = some (r1,r2,r3)) :
  Calls Try.prog 15 #[.agg #[.int .i64 a0_0,.slice A0_1 l0_1.length c0_1],.agg #[.int .i64 a1_0,.string a1_1,.string a1_2,.int .i64 a1_3,.int .i64 a1_4]] w fun e w' => ∃ v1_ : Value,e = .returned (.tuple #[.agg #[.int .i64 r1,v1_],.int .i64 r3]) ∧ Kd.N k63 63 w' w.heap.size (fun k_ => (w.heap.size ≤ k_)) v1_ r2 ∧ Below w.heap.size w w' := by
 have hu31 := Try.underlying31;have hu35 := Try.underlying35;have hu63 := Try.underlying63;have HR0_1 := Aside0.mk hr0_1;have HC0_1 := Aside0.mk hc0_1;clear hr0_1 hc0_1;have HB := Aside0.mk (Below.refl w.heap.size w);have H : ((spec_l6Copy.f k a0_0 l0_1).bind fun bt325 => ((spec_LedgerOk.f k a0_0 l0_1).bind fun t330 => (if t330 = true then ((spec_TxOk.f k a1_0 a1_1 a1_2 a1_3 a1_4).bind fun t331 => (spec_Apply.j0 k (!t331) a0_0 l0_1 a1_0 a1_1 a1_2 a1_3 a1_4 bt325.1 bt325.2)) else (spec_Apply.j0 k true a0_0 l0_1 a1_0 a1_1 a1_2 a1_3 a1_4 bt325.1 bt325.2)))) = some (r1,r2,r3) := h;clear h;replace H := Option.bind_eq_some_iff.mp H;obtain ⟨⟨t325,t326⟩,A30,H⟩ := H;replace H : ((spec_LedgerOk.f k a0_0 l0_1).bind fun t330 => (if t330 = true then ((spec_TxOk.f k a1_0 a1_1 a1_2 a1_3 a1_4).bind fun t331 => (spec_Apply.j0 k (!t331) a0_0 l0_1 a1_0 a1_1 a1_2 a1_3 a1_4 t325 t326)) else (spec_Apply.j0 k true a0_0 l0_1 a1_0 a1_1 a1_2 a1_3 a1_4 t325 t326))) = some (r1,r2,r3) := H;have A3 := Aside0.mk A30;clear A30;have HC4 := Aside0.mk H;clear H;go_enter Try.func15,Try.ntmps15
 go_upto_region 2 with (first | ((with_reducible refine gate_dst (N := 2) rfl ?_); refine box_event (by rfl) (N := 2) (by rfl) (cs := #[.int .i64 a0_0,.slice A0_1 l0_1.length c0_1]) (t := 31) (by go_simp; done) ?_; intro gb322 hg w5 hbox hb; have BK322 := Aside0.mk hbox; have GW322 := gsz HB hg; have GE322 := GW322; replace HB := bst HB hb; clear hb hbox hg) | ((with_reducible refine gate_dst (N := 3) rfl ?_); refine box_event (by rfl) (N := 3) (by rfl) (cs := #[.int .i64 a1_0,.string a1_1,.string a1_2,.int .i64 a1_3,.int .i64 a1_4]) (t := 35) (by go_simp; done) ?_; intro gb323 hg w6 hbox hb; have BK323 := Aside0.mk hbox; have GW323 := gsz HB hg; have GE323 := GW323; replace HB := bst HB hb; obtain ⟨NB322_323,NB323_322⟩ := nbb BK322 hg; replace BK322 := bkb BK322 hb; clear hb hbox hg) | ((with_reducible refine gate_dst (N := 4) rfl ?_); refine box_event (by rfl) (N := 4) (by rfl) (cs := #[.int .i64 0,.slice none 0 0]) (t := 31) (by go_simp; done) ?_; intro gb324 hg w7 hbox hb; have BK324 := Aside0.mk hbox; have GW324 := gsz HB hg; have GE324 := GW324; replace HB := bst HB hb; obtain ⟨NB322_324,NB324_322⟩ := nbb BK322 hg; replace BK322 := bkb BK322 hb; obtain ⟨NB323_324,NB324_323⟩ := nbb BK323 hg; replace BK323 := bkb BK323 hb; clear hb hbox hg; have hnb8 := NB322_323.out; have hnc8 := NB323_322.out; have hnb9 := NB322_324.out; have hnc9 := NB324_322.out; obtain ⟨⟨hcz10_0,hcz10_1⟩,hfz10_0,hfz10_1⟩ := bc2 BK322.out) | ((with_reducible refine gate_callee (f := 58) rfl ?_); refine goesL_ (some 12) rfl rfl Try.func58 (by kernel_rfl) rfl #[.agg #[.int .i64 a0_0,.slice A0_1 l0_1.length c0_1]] rfl (by (try simp only [List.map_toArray,List.map_cons,List.map_nil]); rfl) ?_; (with_reducible refine (spec_l6Copy.calls k a0_0 _ _ l0_1 t325 t326 _ ?side1 ?side2 A3.out).mono ?_); (case side1 => repeat (exact (Kd.C_below HR0_1.out HB.out))); (case side2 => exact HC0_1.out); rintro e w11 ⟨v327,rfl,ho0,hb⟩; refine ⟨_,rfl,?_⟩; have HO328 := Aside0.mk (Kd.N_lower (Kd.N_mono (ok' := fun k_ => (w.heap.size ≤ k_) ∧ k_ ≠ gb322 ∧ k_ ≠ gb323 ∧ k_ ≠ gb324) (Kd.S_N (Kd.S_bound ho0)) (fun k_ hk_ => ⟨(Nat.le_trans (below_size HB.out) hk_.2.1),(Kd.freshB BK322.out k_ hk_.2.1),(Kd.freshB BK323.out k_ hk_.2.1),(Kd.freshB BK324.out k_ hk_.2.1)⟩)) (below_size HB.out)); replace BK322 := bkb BK322 hb; replace BK323 := bkb BK323 hb; replace BK324 := bkb BK324 hb; replace HB := bst HB hb; (try clear hb); (try clear ho0)) | ((with_reducible refine gate_dst (N := 6) rfl ?_); refine box_event (by rfl) (N := 6) (by rfl) (cs := #[.int .i64 0,.slice none 0 0]) (t := 31) (by go_simp; done) ?_; intro gb329 hg w12 hbox hb; replace HO328 := Aside0.mk (Kd.N_below (Kd.N_elderB (by exact HO328.out) gb329 (Nat.le_of_eq hg.symm)) hb); have BK329 := Aside0.mk hbox; have GW329 := gsz HB hg; have GE329 := GW329; replace HB := bst HB hb; obtain ⟨NB322_329,NB329_322⟩ := nbb BK322 hg; replace BK322 := bkb BK322 hb; obtain ⟨NB323_329,NB329_323⟩ := nbb BK323 hg; replace BK323 := bkb BK323 hb; obtain ⟨NB324_329,NB329_324⟩ := nbb BK324 hg; replace BK324 := bkb BK324 hb; clear hb hbox hg; have hnb13 := NB329_322.out; have hnc13 := NB322_329.out; have hnb14 := NB329_323.out; have hnc14 := NB323_329.out; have hnb15 := NB329_324.out; have hnc15 := NB324_329.out; obtain ⟨⟨hcz16_0,hcz16_1⟩,hfz16_0,hfz16_1⟩ := bc2 BK329.out; obtain ⟨Ao17,co17,eo17⟩ := Kd.N_slice HO328.out; subst eo17))
 skip
 go_cut [20] (fun v20 wc => ∃ (kq : Nat) (x20_3 : Bool),v20 = .bool x20_3 ∧ Aside0 (spec_Apply.j0 kq x20_3 a0_0 l0_1 a1_0 a1_1 a1_2 a1_3 a1_4 t325 t326 = some (r1,r2,r3)) ∧ Aside0 (kq ≤ k) ∧ Aside0 (Kd.N k63 63 wc w.heap.size (fun k_ => (w.heap.size ≤ k_) ∧ k_ ≠ gb322 ∧ k_ ≠ gb323 ∧ k_ ≠ gb324 ∧ k_ ≠ gb329) (.slice Ao17 t326.length co17) t326) ∧ Aside0 (wc.heap[gb322]? = some (.cells #[.int .i64 a0_0,(.slice A0_1 l0_1.length c0_1)] 31 (0,0))) ∧ Aside0 (wc.heap[gb323]? = some (.cells #[.int .i64 a1_0,.string a1_1,.string a1_2,.int .i64 a1_3,.int .i64 a1_4] 35 (0,0))) ∧ Aside0 (wc.heap[gb324]? = some (.cells #[.int .i64 0,(.slice none 0 0)] 31 (0,0))) ∧ Aside0 (wc.heap[gb329]? = some (.cells #[.int .i64 t325,(.slice Ao17 t326.length co17)] 31 (0,0))) ∧ Aside0 (Below w.heap.size w wc))
 case first =>
  have H := HC4.out;clear HC4;replace H := Option.bind_eq_some_iff.mp H;obtain ⟨t330,A180,H⟩ := H;replace H : (if t330 = true then ((spec_TxOk.f k a1_0 a1_1 a1_2 a1_3 a1_4).bind fun t331 => (spec_Apply.j0 k (!t331) a0_0 l0_1 a1_0 a1_1 a1_2 a1_3 a1_4 t325 t326)) else (spec_Apply.j0 k true a0_0 l0_1 a1_0 a1_1 a1_2 a1_3 a1_4 t325 t326)) = some (r1,r2,r3) := H;have A18 := Aside0.mk A180;clear A180
  by_cases c19 : t330 = true
  ·subst c19
   rw [if_pos rfl] at H
   replace H := Option.bind_eq_some_iff.mp H;obtain ⟨t331,A200,H⟩ := H;replace H : (spec_Apply.j0 k (!t331) a0_0 l0_1 a1_0 a1_1 a1_2 a1_3 a1_4 t325 t326) = some (r1,r2,r3) := H;have A20 := Aside0.mk A200;clear A200;have H' := Aside0.mk H;clear H;have hnb21 := NB322_323.out;have hnc21 := NB323_322.out;have hnb22 := NB322_324.out;have hnc22 := NB324_322.out;have hnb23 := NB322_329.out;have hnc23 := NB329_322.out;obtain ⟨⟨hcz24_0,hcz24_1⟩,hfz24_0,hfz24_1⟩ := bc2 BK322.out
   go_wp2_with (first | ((with_reducible refine gate_callee (f := 47) rfl ?_); refine goesL_ (some 14) rfl rfl Try.func47 (by kernel_rfl) rfl #[.agg #[.int .i64 a0_0,.slice A0_1 l0_1.length c0_1]] rfl (by (try simp only [List.map_toArray,List.map_cons,List.map_nil]); rfl) ?_; (with_reducible refine (spec_LedgerOk.calls k a0_0 _ _ l0_1 true _ ?side1 ?side2 A18.out).mono ?_); (case side1 => exact Kd.C_below HR0_1.out (by repeat (with_reducible first | exact HB.out | refine below_set ?_ GE329.out))); (case side2 => exact HC0_1.out); rintro e w25 ⟨rfl,hb⟩; refine ⟨_,rfl,?_⟩; replace HO328 := Aside0.mk (Kd.N_below (by exact (Kd.N_mono (Kd.N_far (p := ⟨gb329,1,none⟩) (Kd.N_far (p := ⟨gb329,0,none⟩) (Kd.N_mono HO328.out (fun k_ hk => (⟨hk,hk.2⟩ : _ ∧ k_ ≠ gb329))) (fun _ hk => hk.2) (.int .i64 t325)) (fun _ hk => hk.2) (.slice Ao17 t326.length co17)) (fun _ h_ => h_.1))) hb); replace BK322 := Aside0.mk (blk_below (g := gb322) (o := .cells #[.int .i64 a0_0,.slice A0_1 l0_1.length c0_1] 31 (0,0)) (by refine blk_far ?_ NB322_329.out _; refine blk_far ?_ NB322_329.out _; exact BK322.out) hb); replace BK323 := Aside0.mk (blk_below (g := gb323) (o := .cells #[.int .i64 a1_0,.string a1_1,.string a1_2,.int .i64 a1_3,.int .i64 a1_4] 35 (0,0)) (by refine blk_far ?_ NB323_329.out _; refine blk_far ?_ NB323_329.out _; exact BK323.out) hb); replace BK324 := Aside0.mk (blk_below (g := gb324) (o := .cells #[.int .i64 0,.slice none 0 0] 31 (0,0)) (by refine blk_far ?_ NB324_329.out _; refine blk_far ?_ NB324_329.out _; exact BK324.out) hb); replace BK329 := Aside0.mk (blk_below (g := gb329) (o := .cells #[.int .i64 t325,.slice Ao17 t326.length co17] 31 (0,0)) (by refine blk_put (cs := #[.int .i64 t325,.slice none 0 0]) ?_ 1 _ rfl; refine blk_put (cs := #[.int .i64 0,.slice none 0 0]) ?_ 0 _ rfl; exact BK329.out) hb); replace HB := Aside0.mk (below_step (by repeat (with_reducible first | exact HB.out | refine below_set ?_ GE329.out)) hb); (try clear hb); have hnb26 := NB323_324.out; have hnc26 := NB324_323.out; have hnb27 := NB323_329.out; have hnc27 := NB329_323.out; obtain ⟨⟨hcz28_0,hcz28_1,hcz28_2,hcz28_3,hcz28_4⟩,hfz28_0,hfz28_1,hfz28_2,hfz28_3,hfz28_4⟩ := bc5 BK323.out) | (go_at_call 59; (with_reducible refine (spec_TxOk.calls k a1_0 a1_1 a1_2 a1_3 a1_4 t331 _ A20.out).mono ?_); rintro e w29 ⟨rfl,hb⟩; replace HO328 := Aside0.mk (Kd.N_below (by exact HO328.out) hb); replace BK322 := bkb BK322 hb; replace BK323 := bkb BK323 hb; replace BK324 := bkb BK324 hb; replace BK329 := bkb BK329 hb; replace HB := bst HB hb; (try clear hb); skip))
   go_meet
   case rel => exact ⟨_,(!t331),(by rfl),H',⟨by omega⟩,⟨by exact Kd.N_mono HO328.out (fun _ hk => ⟨hk.1.1,⟨hk.1.2.1,⟨hk.1.2.2.1,⟨hk.1.2.2.2,hk.2⟩⟩⟩⟩)⟩,⟨by exact BK322.out⟩,⟨by exact BK323.out⟩,⟨by exact BK324.out⟩,⟨by exact BK329.out⟩,⟨HB.out⟩⟩
  ·replace c19 := Bool.eq_false_iff.mpr c19;subst c19
   rw [if_neg (show ¬ (false = true) by decide)] at H
   have H' := Aside0.mk H;clear H;have hnb30 := NB322_323.out;have hnc30 := NB323_322.out;have hnb31 := NB322_324.out;have hnc31 := NB324_322.out;have hnb32 := NB322_329.out;have hnc32 := NB329_322.out;obtain ⟨⟨hcz33_0,hcz33_1⟩,hfz33_0,hfz33_1⟩ := bc2 BK322.out
   go_wp2_with (((with_reducible refine gate_callee (f := 47) rfl ?_); refine goesL_ (some 14) rfl rfl Try.func47 (by kernel_rfl) rfl #[.agg #[.int .i64 a0_0,.slice A0_1 l0_1.length c0_1]] rfl (by (try simp only [List.map_toArray,List.map_cons,List.map_nil]); rfl) ?_; (with_reducible refine (spec_LedgerOk.calls k a0_0 _ _ l0_1 false _ ?side1 ?side2 A18.out).mono ?_); (case side1 => exact Kd.C_below HR0_1.out (by repeat (with_reducible first | exact HB.out | refine below_set ?_ GE329.out))); (case side2 => exact HC0_1.out); rintro e w34 ⟨rfl,hb⟩; refine ⟨_,rfl,?_⟩; replace HO328 := Aside0.mk (Kd.N_below (by exact (Kd.N_mono (Kd.N_far (p := ⟨gb329,1,none⟩) (Kd.N_far (p := ⟨gb329,0,none⟩) (Kd.N_mono HO328.out (fun k_ hk => (⟨hk,hk.2⟩ : _ ∧ k_ ≠ gb329))) (fun _ hk => hk.2) (.int .i64 t325)) (fun _ hk => hk.2) (.slice Ao17 t326.length co17)) (fun _ h_ => h_.1))) hb); replace BK322 := Aside0.mk (blk_below (g := gb322) (o := .cells #[.int .i64 a0_0,.slice A0_1 l0_1.length c0_1] 31 (0,0)) (by refine blk_far ?_ NB322_329.out _; refine blk_far ?_ NB322_329.out _; exact BK322.out) hb); replace BK323 := Aside0.mk (blk_below (g := gb323) (o := .cells #[.int .i64 a1_0,.string a1_1,.string a1_2,.int .i64 a1_3,.int .i64 a1_4] 35 (0,0)) (by refine blk_far ?_ NB323_329.out _; refine blk_far ?_ NB323_329.out _; exact BK323.out) hb); replace BK324 := Aside0.mk (blk_below (g := gb324) (o := .cells #[.int .i64 0,.slice none 0 0] 31 (0,0)) (by refine blk_far ?_ NB324_329.out _; refine blk_far ?_ NB324_329.out _; exact BK324.out) hb); replace BK329 := Aside0.mk (blk_below (g := gb329) (o := .cells #[.int .i64 t325,.slice Ao17 t326.length co17] 31 (0,0)) (by refine blk_put (cs := #[.int .i64 t325,.slice none 0 0]) ?_ 1 _ rfl; refine blk_put (cs := #[.int .i64 0,.slice none 0 0]) ?_ 0 _ rfl; exact BK329.out) hb); replace HB := Aside0.mk (below_step (by repeat (with_reducible first | exact HB.out | refine below_set ?_ GE329.out)) hb); (try clear hb); skip))
   go_meet
   case rel => exact ⟨_,(true),(by rfl),H',⟨by omega⟩,⟨by exact Kd.N_mono HO328.out (fun _ hk => ⟨hk.1.1,⟨hk.1.2.1,⟨hk.1.2.2.1,⟨hk.1.2.2.2,hk.2⟩⟩⟩⟩)⟩,⟨by exact BK322.out⟩,⟨by exact BK323.out⟩,⟨by exact BK324.out⟩,⟨by exact BK329.out⟩,⟨HB.out⟩⟩
 case rest =>
  clear HC4
  try clear c1
  try clear c2
  try clear p2
  try clear c3
  try clear c4
  try clear c5
  try clear c8
  try clear c9
  try clear c13
  try clear c14
  try clear c15
  try clear c19
  try clear c21
  try clear c22
  try clear c23
  try clear c26
  try clear c27
  try clear c30
  try clear c31
  try clear c32
  try clear hcz10_0
  try clear hcz10_1
  try clear hcz16_0
  try clear hcz16_1
  try clear hcz24_0
  try clear hcz24_1
  try clear hcz28_0
  try clear hcz28_1
  try clear hcz28_2
  try clear hcz28_3
  try clear hcz28_4
  try clear hcz33_0
  try clear hcz33_1
  try clear hfz10_0
  try clear hfz10_1
  try clear hfz16_0
  try clear hfz16_1
  try clear hfz24_0
  try clear hfz24_1
  try clear hfz28_0
  try clear hfz28_1
  try clear hfz28_2
  try clear hfz28_3
  try clear hfz28_4
  try clear hfz33_0
  try clear hfz33_1
  obtain ⟨kq,x20_3,rfl,HA,HJ3,HO_330001,BK322,BK323,BK324,BK329,HB⟩ := hcut
  cases kq with
  | zero => exact absurd HA.out (by simp [spec_Apply.j0])
  | succ kj3 =>
   have H := HA.out;clear HA;simp only [spec_Apply.j0] at H
   by_cases c35 : x20_3 = true
   ·subst c35
    rw [if_pos rfl] at H
    simp only [Option.some.injEq,Prod.mk.injEq] at H;obtain ⟨rfl,rfl,rfl⟩ := H;have hnb36 := NB329_322.out;have hnc36 := NB322_329.out;have hnb37 := NB329_323.out;have hnc37 := NB323_329.out;have hnb38 := NB329_324.out;have hnc38 := NB324_329.out;obtain ⟨⟨hcz39_0,hcz39_1⟩,hfz39_0,hfz39_1⟩ := bc2 BK329.out;have hnb40 := NB324_322.out;have hnc40 := NB322_324.out;have hnb41 := NB324_323.out;have hnc41 := NB323_324.out;obtain ⟨⟨hcz42_0,hcz42_1⟩,hfz42_0,hfz42_1⟩ := bc2 BK324.out;go_wp2;refine bodyPost_ret (results_ct rfl _ _ gb324 31 #[.int .i64 t325,.slice Ao17 t326.length co17] (0,0) _ rfl (by refine blk_put (cs := #[.int .i64 t325,.slice none 0 0]) ?_ 1 _ rfl; refine blk_put (cs := #[.int .i64 0,.slice none 0 0]) ?_ 0 _ rfl; exact BK324.out) Try.underlying31 rfl (by kernel_rfl)) rfl ?_;exact ⟨_,by rfl,by exact Kd.N_mono (Kd.N_far (p := ⟨gb324,1,none⟩) (Kd.N_far (p := ⟨gb324,0,none⟩) (Kd.N_mono HO_330001.out (fun k_ hk => (⟨hk,hk.2.2.2.1⟩ : _ ∧ k_ ≠ gb324))) (fun _ hk => hk.2) (.int .i64 t325)) (fun _ hk => hk.2) (.slice Ao17 t326.length co17)) (fun _ hk => hk.1.1),by repeat (with_reducible first | exact HB.out | refine below_set ?_ GE324.out)⟩
   ·replace c35 := Bool.eq_false_iff.mpr c35;subst c35
    rw [if_neg (show ¬ (false = true) by decide)] at H
    replace H := Option.bind_eq_some_iff.mp H;obtain ⟨t332,A430,H⟩ := H;replace H : (if t332 < 0 then (some (t325,t326,2)) else (if 0 ≤ t332 then (if t332 < (l0_1.length : Int) then (if a1_0 = 3 then (spec_Apply.j1 kj3 t332 ((rd_T63 l0_1 t332).f3) a0_0 l0_1 a1_0 a1_1 a1_2 a1_3 a1_4 t325 t326 ((rd_T63 l0_1 t332).f0) ((rd_T63 l0_1 t332).f1) ((rd_T63 l0_1 t332).f2) ((rd_T63 l0_1 t332).f3) ((rd_T63 l0_1 t332).f4)) else (spec_Apply.j1 kj3 t332 ((rd_T63 l0_1 t332).f1) a0_0 l0_1 a1_0 a1_1 a1_2 a1_3 a1_4 t325 t326 ((rd_T63 l0_1 t332).f0) ((rd_T63 l0_1 t332).f1) ((rd_T63 l0_1 t332).f2) ((rd_T63 l0_1 t332).f3) ((rd_T63 l0_1 t332).f4))) else (none)) else (none))) = some (r1,r2,r3) := H;have A43 := Aside0.mk A430;clear A430
    by_cases c44 : t332 < 0
    ·rw [if_pos c44] at H;have c44b0 := decide_eq_true c44;clear c44;simp only [Option.some.injEq,Prod.mk.injEq] at H;obtain ⟨rfl,rfl,rfl⟩ := H;have hnb45 := NB322_323.out;have hnc45 := NB323_322.out;have hnb46 := NB322_324.out;have hnc46 := NB324_322.out;have hnb47 := NB322_329.out;have hnc47 := NB329_322.out;obtain ⟨⟨hcz48_0,hcz48_1⟩,hfz48_0,hfz48_1⟩ := bc2 BK322.out;have hnb49 := NB323_324.out;have hnc49 := NB324_323.out;have hnb50 := NB323_329.out;have hnc50 := NB329_323.out;obtain ⟨⟨hcz51_0,hcz51_1,hcz51_2,hcz51_3,hcz51_4⟩,hfz51_0,hfz51_1,hfz51_2,hfz51_3,hfz51_4⟩ := bc5 BK323.out
     go_wp2_with (((with_reducible refine gate_callee (f := 60) rfl ?_); refine goesL_ (some 26) rfl rfl Try.func60 (by kernel_rfl) rfl #[.slice A0_1 l0_1.length c0_1,.string a1_1] rfl (by (try simp only [List.map_toArray,List.map_cons,List.map_nil]); rfl) ?_; (with_reducible refine (spec_AcctAt.calls kj3 _ _ l0_1 a1_1 t332 _ ?side1 ?side2 A43.out).mono ?_); (case side1 => repeat (exact (Kd.C_below HR0_1.out HB.out))); (case side2 => exact HC0_1.out); rintro e w' ⟨rfl,⟨nd,rfl⟩⟩; refine ⟨_,rfl,?_⟩; (try (rw [drewN_self wc]; generalize hq_ : World.drewN wc _ = wc; have n0_ : Aside0 (Kd.N k63 63 wc w.heap.size (fun k_ => (w.heap.size ≤ k_) ∧ k_ ≠ gb322 ∧ k_ ≠ gb323 ∧ k_ ≠ gb324 ∧ k_ ≠ gb329) (.slice Ao17 t326.length co17) t326) := ⟨by rw [← hq_]; exact (by (with_reducible repeat (apply Kd.N_drewN)); exact HO_330001.out)⟩; have n1_ : Aside0 (wc.heap[gb322]? = some (.cells #[.int .i64 a0_0,.slice A0_1 l0_1.length c0_1] 31 (0,0))) := ⟨by rw [← hq_]; exact (by (with_reducible repeat (refine blk_drewN ?_ _)); exact BK322.out)⟩; have n2_ : Aside0 (wc.heap[gb323]? = some (.cells #[.int .i64 a1_0,.string a1_1,.string a1_2,.int .i64 a1_3,.int .i64 a1_4] 35 (0,0))) := ⟨by rw [← hq_]; exact (by (with_reducible repeat (refine blk_drewN ?_ _)); exact BK323.out)⟩; have n3_ : Aside0 (wc.heap[gb324]? = some (.cells #[.int .i64 0,.slice none 0 0] 31 (0,0))) := ⟨by rw [← hq_]; exact (by (with_reducible repeat (refine blk_drewN ?_ _)); exact BK324.out)⟩; have n4_ : Aside0 (wc.heap[gb329]? = some (.cells #[.int .i64 t325,.slice Ao17 t326.length co17] 31 (0,0))) := ⟨by rw [← hq_]; exact (by (with_reducible repeat (refine blk_drewN ?_ _)); exact BK329.out)⟩; have n5_ : Aside0 (Below w.heap.size w wc) := ⟨by rw [← hq_]; exact (by repeat (with_reducible first | exact HB.out | apply pw_below_drewN))⟩; clear HO_330001 BK322 BK323 BK324 BK329 HB hq_; have HO_330001 := n0_; have BK322 := n1_; have BK323 := n2_; have BK324 := n3_; have BK329 := n4_; have HB := n5_; clear n0_ n1_ n2_ n3_ n4_ n5_)); have hnb52 := NB329_324.out; have hnc52 := NB324_329.out; obtain ⟨⟨hcz53_0,hcz53_1⟩,hfz53_0,hfz53_1⟩ := bc2 BK329.out; obtain ⟨⟨hcz54_0,hcz54_1⟩,hfz54_0,hfz54_1⟩ := bc2 BK324.out))
     refine bodyPost_ret (results_ct rfl _ _ gb324 31 #[.int .i64 t325,.slice Ao17 t326.length co17] (0,0) _ rfl (by refine blk_put (cs := #[.int .i64 t325,.slice none 0 0]) ?_ 1 _ rfl; refine blk_put (cs := #[.int .i64 0,.slice none 0 0]) ?_ 0 _ rfl; exact BK324.out) Try.underlying31 rfl (by kernel_rfl)) rfl ?_;exact ⟨_,by rfl,by exact Kd.N_mono (Kd.N_far (p := ⟨gb324,1,none⟩) (Kd.N_far (p := ⟨gb324,0,none⟩) (Kd.N_mono HO_330001.out (fun k_ hk => (⟨hk,hk.2.2.2.1⟩ : _ ∧ k_ ≠ gb324))) (fun _ hk => hk.2) (.int .i64 t325)) (fun _ hk => hk.2) (.slice Ao17 t326.length co17)) (fun _ hk => hk.1.1),by repeat (with_reducible first | exact HB.out | refine below_set ?_ GE324.out)⟩
    ·rw [if_neg c44] at H;have c44b0 := decide_eq_false c44;clear c44
     by_cases c55 : 0 ≤ t332
     ·rw [if_pos c55] at H;have c55b0 := decide_eq_true c55;clear c55
      by_cases c56 : t332 < (l0_1.length : Int)
      ·rw [if_pos c56] at H;have c56b0 := decide_eq_true c56;clear c56;have HC57 := Aside0.mk H;clear H;have hnb58 := NB322_323.out;have hnc58 := NB323_322.out;have hnb59 := NB322_324.out;have hnc59 := NB324_322.out;have hnb60 := NB322_329.out;have hnc60 := NB329_322.out;obtain ⟨⟨hcz61_0,hcz61_1⟩,hfz61_0,hfz61_1⟩ := bc2 BK322.out;have hnb62 := NB323_324.out;have hnc62 := NB324_323.out;have hnb63 := NB323_329.out;have hnc63 := NB329_323.out;obtain ⟨⟨hcz64_0,hcz64_1,hcz64_2,hcz64_3,hcz64_4⟩,hfz64_0,hfz64_1,hfz64_2,hfz64_3,hfz64_4⟩ := bc5 BK323.out
       go_upto_if 39 with (first | ((with_reducible refine gate_callee (f := 60) rfl ?_); refine goesL_ (some 26) rfl rfl Try.func60 (by kernel_rfl) rfl #[.slice A0_1 l0_1.length c0_1,.string a1_1] rfl (by (try simp only [List.map_toArray,List.map_cons,List.map_nil]); rfl) ?_; (with_reducible refine (spec_AcctAt.calls kj3 _ _ l0_1 a1_1 t332 _ ?side1 ?side2 A43.out).mono ?_); (case side1 => repeat (exact (Kd.C_below HR0_1.out HB.out))); (case side2 => exact HC0_1.out); rintro e w' ⟨rfl,⟨nd,rfl⟩⟩; refine ⟨_,rfl,?_⟩; (try (rw [drewN_self wc]; generalize hq_ : World.drewN wc _ = wc; have n0_ : Aside0 (Kd.N k63 63 wc w.heap.size (fun k_ => (w.heap.size ≤ k_) ∧ k_ ≠ gb322 ∧ k_ ≠ gb323 ∧ k_ ≠ gb324 ∧ k_ ≠ gb329) (.slice Ao17 t326.length co17) t326) := ⟨by rw [← hq_]; exact (by (with_reducible repeat (apply Kd.N_drewN)); exact HO_330001.out)⟩; have n1_ : Aside0 (wc.heap[gb322]? = some (.cells #[.int .i64 a0_0,.slice A0_1 l0_1.length c0_1] 31 (0,0))) := ⟨by rw [← hq_]; exact (by (with_reducible repeat (refine blk_drewN ?_ _)); exact BK322.out)⟩; have n2_ : Aside0 (wc.heap[gb323]? = some (.cells #[.int .i64 a1_0,.string a1_1,.string a1_2,.int .i64 a1_3,.int .i64 a1_4] 35 (0,0))) := ⟨by rw [← hq_]; exact (by (with_reducible repeat (refine blk_drewN ?_ _)); exact BK323.out)⟩; have n3_ : Aside0 (wc.heap[gb324]? = some (.cells #[.int .i64 0,.slice none 0 0] 31 (0,0))) := ⟨by rw [← hq_]; exact (by (with_reducible repeat (refine blk_drewN ?_ _)); exact BK324.out)⟩; have n4_ : Aside0 (wc.heap[gb329]? = some (.cells #[.int .i64 t325,.slice Ao17 t326.length co17] 31 (0,0))) := ⟨by rw [← hq_]; exact (by (with_reducible repeat (refine blk_drewN ?_ _)); exact BK329.out)⟩; have n5_ : Aside0 (Below w.heap.size w wc) := ⟨by rw [← hq_]; exact (by repeat (with_reducible first | exact HB.out | apply pw_below_drewN))⟩; clear HO_330001 BK322 BK323 BK324 BK329 HB hq_; have HO_330001 := n0_; have BK322 := n1_; have BK323 := n2_; have BK324 := n3_; have BK329 := n4_; have HB := n5_; clear n0_ n1_ n2_ n3_ n4_ n5_)); have hcy0 : wc.cell? ⟨gb322,0,none⟩ = some (.int .i64 a0_0) := (blk_cell BK322.out 0).trans rfl; have hcy1 : wc.cell? ⟨gb322,1,none⟩ = some (.slice A0_1 l0_1.length c0_1) := (blk_cell BK322.out 1).trans rfl; have p333 : 0 ≤ (t332 : Int) := odt (by with_reducible assumption); have q333 : t332 < (l0_1.length : Int) := odt (by with_reducible assumption); obtain ⟨ad333,A333_4,c333_4,e333,hx333_0,hx333_1,hx333_2,hx333_3,hx333_4,hl333_4,hi333_4⟩ := at_T63 HR0_1.out t332 p333 q333; cases e333; replace ⟨hx333_0,hx333_1,hx333_2,hx333_3,hx333_4⟩ := up5 HB.out hx333_0 hx333_1 hx333_2 hx333_3 hx333_4; have HR333_4 := Aside0.mk hi333_4; have HC333_4 := Aside0.mk hl333_4; clear hi333_4 hl333_4; replace p333 := eq_true p333; replace q333 := eq_true q333) | ((with_reducible refine gate_dst (N := 8) rfl ?_); refine box_event (by rfl) (N := 8) (by rfl) (cs := #[.string (⟨#[]⟩ : ByteArray),.int .i64 0,.int .i64 0,.int .i64 0,.slice none 0 0]) (t := 63) (by go_simp; done) ?_; intro gb334 hg w65 hbox hb; replace HO_330001 := Aside0.mk (Kd.N_below (Kd.N_elderB (by exact HO_330001.out) gb334 (Nat.le_of_eq hg.symm)) hb); have BK334 := Aside0.mk hbox; have GW334 := gsz HB hg; have GE334 := GW334; replace HB := bst HB hb; obtain ⟨NB322_334,NB334_322⟩ := nbb BK322 hg; replace BK322 := bkb BK322 hb; obtain ⟨NB323_334,NB334_323⟩ := nbb BK323 hg; replace BK323 := bkb BK323 hb; obtain ⟨NB324_334,NB334_324⟩ := nbb BK324 hg; replace BK324 := bkb BK324 hb; obtain ⟨NB329_334,NB334_329⟩ := nbb BK329 hg; replace BK329 := bkb BK329 hb; clear hb hbox hg; have hnb66 := NB334_322.out; have hnc66 := NB322_334.out; have hnb67 := NB334_323.out; have hnc67 := NB323_334.out; have hnb68 := NB334_324.out; have hnc68 := NB324_334.out; have hnb69 := NB334_329.out; have hnc69 := NB329_334.out; obtain ⟨⟨hcz70_0,hcz70_1,hcz70_2,hcz70_3,hcz70_4⟩,hfz70_0,hfz70_1,hfz70_2,hfz70_3,hfz70_4⟩ := bc5 BK334.out; obtain ⟨⟨hcz71_0,hcz71_1,hcz71_2,hcz71_3,hcz71_4⟩,hfz71_0,hfz71_1,hfz71_2,hfz71_3,hfz71_4⟩ := bc5 BK323.out))
       skip
       go_cut [9] (fun v9 wc => ∃ (kq : Nat) (x9_56 : Int),v9 = .int .i64 x9_56 ∧ Aside0 (spec_Apply.j1 kq t332 x9_56 a0_0 l0_1 a1_0 a1_1 a1_2 a1_3 a1_4 t325 t326 ((rd_T63 l0_1 t332).f0) ((rd_T63 l0_1 t332).f1) ((rd_T63 l0_1 t332).f2) ((rd_T63 l0_1 t332).f3) ((rd_T63 l0_1 t332).f4) = some (r1,r2,r3)) ∧ Aside0 (kq ≤ kj3) ∧ Aside0 (Kd.N k63 63 wc w.heap.size (fun k_ => (w.heap.size ≤ k_) ∧ k_ ≠ gb322 ∧ k_ ≠ gb323 ∧ k_ ≠ gb324 ∧ k_ ≠ gb329 ∧ k_ ≠ gb334) (.slice Ao17 t326.length co17) t326) ∧ Aside0 (wc.heap[gb322]? = some (.cells #[.int .i64 a0_0,(.slice (some ad333) l0_1.length c0_1)] 31 (0,0))) ∧ Aside0 (wc.heap[gb323]? = some (.cells #[.int .i64 a1_0,.string a1_1,.string a1_2,.int .i64 a1_3,.int .i64 a1_4] 35 (0,0))) ∧ Aside0 (wc.heap[gb324]? = some (.cells #[.int .i64 0,(.slice none 0 0)] 31 (0,0))) ∧ Aside0 (wc.heap[gb329]? = some (.cells #[.int .i64 t325,(.slice Ao17 t326.length co17)] 31 (0,0))) ∧ Aside0 (wc.heap[gb334]? = some (.cells #[.string ((rd_T63 l0_1 t332).f0),.int .i64 ((rd_T63 l0_1 t332).f1),.int .i64 ((rd_T63 l0_1 t332).f2),.int .i64 ((rd_T63 l0_1 t332).f3),(.slice A333_4 ((rd_T63 l0_1 t332).f4).length c333_4)] 63 (0,0))) ∧ Aside0 (Below w.heap.size w wc))
       case first =>
        have H := HC57.out;clear HC57
        by_cases c72 : a1_0 = 3
        ·rw [if_pos c72] at H;have c72b0 : (a1_0 == 3) = true := beq_iff_eq.mpr c72;have c72b1 : (a1_0 != 3) = false := bne_eq_false_iff_eq.mpr c72;clear c72
         (rw [c72b0])
         have H' := Aside0.mk H;clear H;have hnb73 := NB334_322.out;have hnc73 := NB322_334.out;have hnb74 := NB334_323.out;have hnc74 := NB323_334.out;have hnb75 := NB334_324.out;have hnc75 := NB324_334.out;have hnb76 := NB334_329.out;have hnc76 := NB329_334.out;obtain ⟨⟨hcz77_0,hcz77_1,hcz77_2,hcz77_3,hcz77_4⟩,hfz77_0,hfz77_1,hfz77_2,hfz77_3,hfz77_4⟩ := bc5 BK334.out;go_wp2
         go_meet
         case rel => exact ⟨_,((rd_T63 l0_1 t332).f3),(by rfl),H',⟨by have := HJ3.out; omega⟩,⟨by exact Kd.N_mono (Kd.N_far (p := ⟨gb334,4,none⟩) (Kd.N_far (p := ⟨gb334,3,none⟩) (Kd.N_far (p := ⟨gb334,2,none⟩) (Kd.N_far (p := ⟨gb334,1,none⟩) (Kd.N_far (p := ⟨gb334,0,none⟩) (Kd.N_mono HO_330001.out (fun k_ hk => (⟨hk,hk.2⟩ : _ ∧ k_ ≠ gb334))) (fun _ hk => hk.2) (.string ((rd_T63 l0_1 t332).f0))) (fun _ hk => hk.2) (.int .i64 ((rd_T63 l0_1 t332).f1))) (fun _ hk => hk.2) (.int .i64 ((rd_T63 l0_1 t332).f2))) (fun _ hk => hk.2) (.int .i64 ((rd_T63 l0_1 t332).f3))) (fun _ hk => hk.2) (.slice A333_4 ((rd_T63 l0_1 t332).f4).length c333_4)) (fun _ hk => ⟨hk.1.1.1,⟨hk.1.1.2.1,⟨hk.1.1.2.2.1,⟨hk.1.1.2.2.2.1,⟨hk.1.1.2.2.2.2,hk.1.2⟩⟩⟩⟩⟩)⟩,⟨by refine blk_far ?_ NB322_334.out _; refine blk_far ?_ NB322_334.out _; refine blk_far ?_ NB322_334.out _; refine blk_far ?_ NB322_334.out _; refine blk_far ?_ NB322_334.out _; exact BK322.out⟩,⟨by refine blk_far ?_ NB323_334.out _; refine blk_far ?_ NB323_334.out _; refine blk_far ?_ NB323_334.out _; refine blk_far ?_ NB323_334.out _; refine blk_far ?_ NB323_334.out _; exact BK323.out⟩,⟨by refine blk_far ?_ NB324_334.out _; refine blk_far ?_ NB324_334.out _; refine blk_far ?_ NB324_334.out _; refine blk_far ?_ NB324_334.out _; refine blk_far ?_ NB324_334.out _; exact BK324.out⟩,⟨by refine blk_far ?_ NB329_334.out _; refine blk_far ?_ NB329_334.out _; refine blk_far ?_ NB329_334.out _; refine blk_far ?_ NB329_334.out _; refine blk_far ?_ NB329_334.out _; exact BK329.out⟩,⟨by refine blk_put (cs := #[.string ((rd_T63 l0_1 t332).f0),.int .i64 ((rd_T63 l0_1 t332).f1),.int .i64 ((rd_T63 l0_1 t332).f2),.int .i64 ((rd_T63 l0_1 t332).f3),.slice none 0 0]) ?_ 4 _ rfl; refine blk_put (cs := #[.string ((rd_T63 l0_1 t332).f0),.int .i64 ((rd_T63 l0_1 t332).f1),.int .i64 ((rd_T63 l0_1 t332).f2),.int .i64 0,.slice none 0 0]) ?_ 3 _ rfl; refine blk_put (cs := #[.string ((rd_T63 l0_1 t332).f0),.int .i64 ((rd_T63 l0_1 t332).f1),.int .i64 0,.int .i64 0,.slice none 0 0]) ?_ 2 _ rfl; refine blk_put (cs := #[.string ((rd_T63 l0_1 t332).f0),.int .i64 0,.int .i64 0,.int .i64 0,.slice none 0 0]) ?_ 1 _ rfl; refine blk_put (cs := #[.string (⟨#[]⟩ : ByteArray),.int .i64 0,.int .i64 0,.int .i64 0,.slice none 0 0]) ?_ 0 _ rfl; exact BK334.out⟩,⟨by repeat (with_reducible first | exact HB.out | refine below_set ?_ GE334.out)⟩⟩
        ·rw [if_neg c72] at H;have c72b0 : (a1_0 == 3) = false := beq_eq_false_iff_ne.mpr c72;have c72b1 : (a1_0 != 3) = true := bne_iff_ne.mpr c72
         (rw [c72b0])
         have H' := Aside0.mk H;clear H;go_wp2
         go_meet
         case rel => exact ⟨_,((rd_T63 l0_1 t332).f1),(by rfl),H',⟨by have := HJ3.out; omega⟩,⟨by exact Kd.N_mono (Kd.N_far (p := ⟨gb334,4,none⟩) (Kd.N_far (p := ⟨gb334,3,none⟩) (Kd.N_far (p := ⟨gb334,2,none⟩) (Kd.N_far (p := ⟨gb334,1,none⟩) (Kd.N_far (p := ⟨gb334,0,none⟩) (Kd.N_mono HO_330001.out (fun k_ hk => (⟨hk,hk.2⟩ : _ ∧ k_ ≠ gb334))) (fun _ hk => hk.2) (.string ((rd_T63 l0_1 t332).f0))) (fun _ hk => hk.2) (.int .i64 ((rd_T63 l0_1 t332).f1))) (fun _ hk => hk.2) (.int .i64 ((rd_T63 l0_1 t332).f2))) (fun _ hk => hk.2) (.int .i64 ((rd_T63 l0_1 t332).f3))) (fun _ hk => hk.2) (.slice A333_4 ((rd_T63 l0_1 t332).f4).length c333_4)) (fun _ hk => ⟨hk.1.1.1,⟨hk.1.1.2.1,⟨hk.1.1.2.2.1,⟨hk.1.1.2.2.2.1,⟨hk.1.1.2.2.2.2,hk.1.2⟩⟩⟩⟩⟩)⟩,⟨by refine blk_far ?_ NB322_334.out _; refine blk_far ?_ NB322_334.out _; refine blk_far ?_ NB322_334.out _; refine blk_far ?_ NB322_334.out _; refine blk_far ?_ NB322_334.out _; exact BK322.out⟩,⟨by refine blk_far ?_ NB323_334.out _; refine blk_far ?_ NB323_334.out _; refine blk_far ?_ NB323_334.out _; refine blk_far ?_ NB323_334.out _; refine blk_far ?_ NB323_334.out _; exact BK323.out⟩,⟨by refine blk_far ?_ NB324_334.out _; refine blk_far ?_ NB324_334.out _; refine blk_far ?_ NB324_334.out _; refine blk_far ?_ NB324_334.out _; refine blk_far ?_ NB324_334.out _; exact BK324.out⟩,⟨by refine blk_far ?_ NB329_334.out _; refine blk_far ?_ NB329_334.out _; refine blk_far ?_ NB329_334.out _; refine blk_far ?_ NB329_334.out _; refine blk_far ?_ NB329_334.out _; exact BK329.out⟩,⟨by refine blk_put (cs := #[.string ((rd_T63 l0_1 t332).f0),.int .i64 ((rd_T63 l0_1 t332).f1),.int .i64 ((rd_T63 l0_1 t332).f2),.int .i64 ((rd_T63 l0_1 t332).f3),.slice none 0 0]) ?_ 4 _ rfl; refine blk_put (cs := #[.string ((rd_T63 l0_1 t332).f0),.int .i64 ((rd_T63 l0_1 t332).f1),.int .i64 ((rd_T63 l0_1 t332).f2),.int .i64 0,.slice none 0 0]) ?_ 3 _ rfl; refine blk_put (cs := #[.string ((rd_T63 l0_1 t332).f0),.int .i64 ((rd_T63 l0_1 t332).f1),.int .i64 0,.int .i64 0,.slice none 0 0]) ?_ 2 _ rfl; refine blk_put (cs := #[.string ((rd_T63 l0_1 t332).f0),.int .i64 0,.int .i64 0,.int .i64 0,.slice none 0 0]) ?_ 1 _ rfl; refine blk_put (cs := #[.string (⟨#[]⟩ : ByteArray),.int .i64 0,.int .i64 0,.int .i64 0,.slice none 0 0]) ?_ 0 _ rfl; exact BK334.out⟩,⟨by repeat (with_reducible first | exact HB.out | refine below_set ?_ GE334.out)⟩⟩
       case rest =>
        clear HC57
        try clear c1
        try clear c2
        try clear p2
        try clear c3
        try clear p3
        try clear q3
        try clear hx3
        try clear c4
        try clear c5
        try clear c6
        try clear c7
        try clear c8
        try clear c9
        try clear c13
        try clear c14
        try clear c15
        try clear c19
        try clear c21
        try clear c22
        try clear c23
        try clear c26
        try clear c27
        try clear c30
        try clear c31
        try clear c32
        try clear c33
        try clear p33
        try clear q33
        try clear hx33
        try clear c35
        try clear c36
        try clear c37
        try clear c38
        try clear c40
        try clear c41
        try clear c44
        try clear c44b0
        try clear c45
        try clear c46
        try clear c47
        try clear c49
        try clear c50
        try clear c52
        try clear c55
        try clear c55b0
        try clear c56
        try clear c56b0
        try clear c58
        try clear c59
        try clear c60
        try clear c62
        try clear c63
        try clear c66
        try clear c67
        try clear c68
        try clear c69
        try clear c72
        try clear c72b0
        try clear c72b1
        try clear c73
        try clear c74
        try clear c75
        try clear c76
        try clear hcz10_0
        try clear hcz10_1
        try clear hcz16_0
        try clear hcz16_1
        try clear hcz24_0
        try clear hcz24_1
        try clear hcz28_0
        try clear hcz28_1
        try clear hcz28_2
        try clear hcz28_3
        try clear hcz28_4
        try clear hcz33_0
        try clear hcz33_1
        try clear hcz39_0
        try clear hcz39_1
        try clear hcz42_0
        try clear hcz42_1
        try clear hcz48_0
        try clear hcz48_1
        try clear hcz51_0
        try clear hcz51_1
        try clear hcz51_2
        try clear hcz51_3
        try clear hcz51_4
        try clear hcz53_0
        try clear hcz53_1
        try clear hcz54_0
        try clear hcz54_1
        try clear hcz61_0
        try clear hcz61_1
        try clear hcz64_0
        try clear hcz64_1
        try clear hcz64_2
        try clear hcz64_3
        try clear hcz64_4
        try clear hcz70_0
        try clear hcz70_1
        try clear hcz70_2
        try clear hcz70_3
        try clear hcz70_4
        try clear hcz71_0
        try clear hcz71_1
        try clear hcz71_2
        try clear hcz71_3
        try clear hcz71_4
        try clear hcz77_0
        try clear hcz77_1
        try clear hcz77_2
        try clear hcz77_3
        try clear hcz77_4
        try clear hfz10_0
        try clear hfz10_1
        try clear hfz16_0
        try clear hfz16_1
        try clear hfz24_0
        try clear hfz24_1
        try clear hfz28_0
        try clear hfz28_1
        try clear hfz28_2
        try clear hfz28_3
        try clear hfz28_4
        try clear hfz33_0
        try clear hfz33_1
        try clear hfz39_0
        try clear hfz39_1
        try clear hfz42_0
        try clear hfz42_1
        try clear hfz48_0
        try clear hfz48_1
        try clear hfz51_0
        try clear hfz51_1
        try clear hfz51_2
        try clear hfz51_3
        try clear hfz51_4
        try clear hfz53_0
        try clear hfz53_1
        try clear hfz54_0
        try clear hfz54_1
        try clear hfz61_0
        try clear hfz61_1
        try clear hfz64_0
        try clear hfz64_1
        try clear hfz64_2
        try clear hfz64_3
        try clear hfz64_4
        try clear hfz70_0
        try clear hfz70_1
        try clear hfz70_2
        try clear hfz70_3
        try clear hfz70_4
        try clear hfz71_0
        try clear hfz71_1
        try clear hfz71_2
        try clear hfz71_3
        try clear hfz71_4
        try clear hfz77_0
        try clear hfz77_1
        try clear hfz77_2
        try clear hfz77_3
        try clear hfz77_4
        try clear hx333_0
        try clear hx333_1
        try clear hx333_2
        try clear hx333_3
        try clear hx333_4
        try clear p2
        try clear p333
        try clear q333
        obtain ⟨kq,x9_56,rfl,HA,HJ56,HO_330001,BK322,BK323,BK324,BK329,BK334,HB⟩ := hcut
        cases kq with
        | zero => exact absurd HA.out (by simp [spec_Apply.j1])
        | succ kj56 =>
         have H := HA.out;clear HA;simp only [spec_Apply.j1] at H
         by_cases c78 : ((rd_T63 l0_1 t332).f2) = a1_4
         ·rw [if_pos c78] at H;have c78b0 : (((rd_T63 l0_1 t332).f2) == a1_4) = true := beq_iff_eq.mpr c78;have c78b1 : (((rd_T63 l0_1 t332).f2) != a1_4) = false := bne_eq_false_iff_eq.mpr c78;clear c78
          by_cases c79 : x9_56 < a1_3
          ·rw [if_pos c79] at H;have c79b0 := decide_eq_true c79;clear c79;simp only [Option.some.injEq,Prod.mk.injEq] at H;obtain ⟨rfl,rfl,rfl⟩ := H;have hnb80 := NB334_322.out;have hnc80 := NB322_334.out;have hnb81 := NB334_323.out;have hnc81 := NB323_334.out;have hnb82 := NB334_324.out;have hnc82 := NB324_334.out;have hnb83 := NB334_329.out;have hnc83 := NB329_334.out;obtain ⟨⟨hcz84_0,hcz84_1,hcz84_2,hcz84_3,hcz84_4⟩,hfz84_0,hfz84_1,hfz84_2,hfz84_3,hfz84_4⟩ := bc5 BK334.out;have hnb85 := NB323_322.out;have hnc85 := NB322_323.out;have hnb86 := NB323_324.out;have hnc86 := NB324_323.out;have hnb87 := NB323_329.out;have hnc87 := NB329_323.out;obtain ⟨⟨hcz88_0,hcz88_1,hcz88_2,hcz88_3,hcz88_4⟩,hfz88_0,hfz88_1,hfz88_2,hfz88_3,hfz88_4⟩ := bc5 BK323.out;have hnb89 := NB329_322.out;have hnc89 := NB322_329.out;have hnb90 := NB329_324.out;have hnc90 := NB324_329.out;obtain ⟨⟨hcz91_0,hcz91_1⟩,hfz91_0,hfz91_1⟩ := bc2 BK329.out;have hnb92 := NB324_322.out;have hnc92 := NB322_324.out;obtain ⟨⟨hcz93_0,hcz93_1⟩,hfz93_0,hfz93_1⟩ := bc2 BK324.out;go_wp2;refine bodyPost_ret (results_ct rfl _ _ gb324 31 #[.int .i64 t325,.slice Ao17 t326.length co17] (0,0) _ rfl (by refine blk_put (cs := #[.int .i64 t325,.slice none 0 0]) ?_ 1 _ rfl; refine blk_put (cs := #[.int .i64 0,.slice none 0 0]) ?_ 0 _ rfl; exact BK324.out) Try.underlying31 rfl (by kernel_rfl)) rfl ?_;exact ⟨_,by rfl,by exact Kd.N_mono (Kd.N_far (p := ⟨gb324,1,none⟩) (Kd.N_far (p := ⟨gb324,0,none⟩) (Kd.N_mono HO_330001.out (fun k_ hk => (⟨hk,hk.2.2.2.1⟩ : _ ∧ k_ ≠ gb324))) (fun _ hk => hk.2) (.int .i64 t325)) (fun _ hk => hk.2) (.slice Ao17 t326.length co17)) (fun _ hk => hk.1.1),by repeat (with_reducible first | exact HB.out | refine below_set ?_ GE324.out)⟩
          ·rw [if_neg c79] at H;have c79b0 := decide_eq_false c79;clear c79;replace H := Option.bind_eq_some_iff.mp H;obtain ⟨⟨t335,t336⟩,A940,H⟩ := H;replace H : ((spec_LedgerOk.f kj56 t335 t336).bind fun t340 => (if t340 = true then (some (t335,t336,0)) else (some (t325,t326,5)))) = some (r1,r2,r3) := H;have A94 := Aside0.mk A940;clear A940;replace H := Option.bind_eq_some_iff.mp H;obtain ⟨t340,A950,H⟩ := H;replace H : (if t340 = true then (some (t335,t336,0)) else (some (t325,t326,5))) = some (r1,r2,r3) := H;have A95 := Aside0.mk A950;clear A950
           by_cases c96 : t340 = true
           ·subst c96
            rw [if_pos rfl] at H
            simp only [Option.some.injEq,Prod.mk.injEq] at H;obtain ⟨rfl,rfl,rfl⟩ := H;have hnb97 := NB334_322.out;have hnc97 := NB322_334.out;have hnb98 := NB334_323.out;have hnc98 := NB323_334.out;have hnb99 := NB334_324.out;have hnc99 := NB324_334.out;have hnb100 := NB334_329.out;have hnc100 := NB329_334.out;obtain ⟨⟨hcz101_0,hcz101_1,hcz101_2,hcz101_3,hcz101_4⟩,hfz101_0,hfz101_1,hfz101_2,hfz101_3,hfz101_4⟩ := bc5 BK334.out;have hnb102 := NB323_322.out;have hnc102 := NB322_323.out;have hnb103 := NB323_324.out;have hnc103 := NB324_323.out;have hnb104 := NB323_329.out;have hnc104 := NB329_323.out;obtain ⟨⟨hcz105_0,hcz105_1,hcz105_2,hcz105_3,hcz105_4⟩,hfz105_0,hfz105_1,hfz105_2,hfz105_3,hfz105_4⟩ := bc5 BK323.out;have hnb106 := NB322_324.out;have hnc106 := NB324_322.out;have hnb107 := NB322_329.out;have hnc107 := NB329_322.out;obtain ⟨⟨hcz108_0,hcz108_1⟩,hfz108_0,hfz108_1⟩ := bc2 BK322.out
            go_wp2_with (first | ((with_reducible refine gate_callee (f := 61) rfl ?_); refine goesL_ (some 58) rfl rfl Try.func61 (by kernel_rfl) rfl #[.agg #[.int .i64 a0_0,.slice (some ad333) l0_1.length c0_1],.agg #[.int .i64 a1_0,.string a1_1,.string a1_2,.int .i64 a1_3,.int .i64 a1_4],.int .i64 t332] rfl (by (try simp only [List.map_toArray,List.map_cons,List.map_nil]); rfl) ?_; (with_reducible refine (spec_l6Do.calls kj56 a0_0 _ _ l0_1 a1_0 a1_1 a1_2 a1_3 a1_4 t332 t335 t336 _ ?side1 ?side2 A94.out).mono ?_); (case side1 => repeat (exact (Kd.C_below HR0_1.out HB.out))); (case side2 => exact HC0_1.out); rintro e w109 ⟨v337,rfl,ho0,hb⟩; refine ⟨_,rfl,?_⟩; have HO338 := Aside0.mk (Kd.N_lower (Kd.N_mono (ok' := fun k_ => (w.heap.size ≤ k_) ∧ some k_ ≠ (.slice Ao17 t326.length co17 : Value).ownBlock ∧ k_ ≠ gb322 ∧ k_ ≠ gb323 ∧ k_ ≠ gb324 ∧ k_ ≠ gb329 ∧ k_ ≠ gb334) ho0 (fun k_ hk_ => ⟨(Nat.le_trans (below_size HB.out) hk_),(Kd.fresh' (Kd.N_lt (by exact HO_330001.out)) k_ hk_),(Kd.freshB BK322.out k_ hk_),(Kd.freshB BK323.out k_ hk_),(Kd.freshB BK324.out k_ hk_),(Kd.freshB BK329.out k_ hk_),(Kd.freshB BK334.out k_ hk_)⟩)) (below_size HB.out)); replace HO_330001 := Aside0.mk (Kd.N_elder' (by exact HO_330001.out) (by exact Kd.N_base ho0) hb); replace BK322 := bkb BK322 hb; replace BK323 := bkb BK323 hb; replace BK324 := bkb BK324 hb; replace BK329 := bkb BK329 hb; replace BK334 := bkb BK334 hb; replace HB := bst HB hb; (try clear hb); (try clear ho0)) | ((with_reducible refine gate_dst (N := 10) rfl ?_); refine box_event (by rfl) (N := 10) (by rfl) (cs := #[.int .i64 0,.slice none 0 0]) (t := 31) (by go_simp; done) ?_; intro gb339 hg w110 hbox hb; replace HO_330001 := Aside0.mk (Kd.N_below (Kd.N_elderB (by exact HO_330001.out) gb339 (Nat.le_of_eq hg.symm)) hb); replace HO338 := Aside0.mk (Kd.N_below (Kd.N_elderB (by exact HO338.out) gb339 (Nat.le_of_eq hg.symm)) hb); have BK339 := Aside0.mk hbox; have GW339 := gsz HB hg; have GE339 := GW339; replace HB := bst HB hb; obtain ⟨NB322_339,NB339_322⟩ := nbb BK322 hg; replace BK322 := bkb BK322 hb; obtain ⟨NB323_339,NB339_323⟩ := nbb BK323 hg; replace BK323 := bkb BK323 hb; obtain ⟨NB324_339,NB339_324⟩ := nbb BK324 hg; replace BK324 := bkb BK324 hb; obtain ⟨NB329_339,NB339_329⟩ := nbb BK329 hg; replace BK329 := bkb BK329 hb; obtain ⟨NB334_339,NB339_334⟩ := nbb BK334 hg; replace BK334 := bkb BK334 hb; clear hb hbox hg; have hnb111 := NB339_322.out; have hnc111 := NB322_339.out; have hnb112 := NB339_323.out; have hnc112 := NB323_339.out; have hnb113 := NB339_324.out; have hnc113 := NB324_339.out; have hnb114 := NB339_329.out; have hnc114 := NB329_339.out; have hnb115 := NB339_334.out; have hnc115 := NB334_339.out; obtain ⟨⟨hcz116_0,hcz116_1⟩,hfz116_0,hfz116_1⟩ := bc2 BK339.out; obtain ⟨Ao117,co117,eo117⟩ := Kd.N_slice HO338.out; subst eo117) | ((with_reducible refine gate_callee (f := 47) rfl ?_); refine goesL_ (some 60) rfl rfl Try.func47 (by kernel_rfl) rfl #[.agg #[.int .i64 t335,.slice Ao117 t336.length co117]] rfl (by (try simp only [List.map_toArray,List.map_cons,List.map_nil]); rfl) ?_; (with_reducible refine (spec_LedgerOk.calls kj56 t335 _ _ t336 true _ ?side1 ?side2 A95.out).mono ?_); (case side1 => refine (Kd.N_reads' (e := 63) (base := w.heap.size) (ok := fun k_ => (((w.heap.size ≤ k_) ∧ (some k_ ≠ (.slice Ao17 t326.length co17 : Value).ownBlock ∧ (k_ ≠ gb322 ∧ (k_ ≠ gb323 ∧ (k_ ≠ gb324 ∧ (k_ ≠ gb329 ∧ k_ ≠ gb334)))))) ∧ k_ ≠ gb339)) (n := t336.length) (c := co117) ?_).2.2; exact (by exact (Kd.N_mono (Kd.N_far (p := ⟨gb339,1,none⟩) (Kd.N_far (p := ⟨gb339,0,none⟩) (Kd.N_mono HO338.out (fun k_ hk => (⟨hk,hk.2⟩ : _ ∧ k_ ≠ gb339))) (fun _ hk => hk.2) (.int .i64 t335)) (fun _ hk => hk.2) (.slice Ao117 t336.length co117)) (fun _ h_ => h_.1)))); (case side2 => exact (Kd.N_reads' HO338.out).2.1); rintro e w118 ⟨rfl,hb⟩; refine ⟨_,rfl,?_⟩; replace HO_330001 := Aside0.mk (Kd.N_below (by exact (Kd.N_mono (Kd.N_far (p := ⟨gb339,1,none⟩) (Kd.N_far (p := ⟨gb339,0,none⟩) (Kd.N_mono HO_330001.out (fun k_ hk => (⟨hk,hk.2⟩ : _ ∧ k_ ≠ gb339))) (fun _ hk => hk.2) (.int .i64 t335)) (fun _ hk => hk.2) (.slice Ao117 t336.length co117)) (fun _ h_ => h_.1))) hb); replace HO338 := Aside0.mk (Kd.N_below (by exact (Kd.N_mono (Kd.N_far (p := ⟨gb339,1,none⟩) (Kd.N_far (p := ⟨gb339,0,none⟩) (Kd.N_mono HO338.out (fun k_ hk => (⟨hk,hk.2⟩ : _ ∧ k_ ≠ gb339))) (fun _ hk => hk.2) (.int .i64 t335)) (fun _ hk => hk.2) (.slice Ao117 t336.length co117)) (fun _ h_ => h_.1))) hb); replace BK322 := Aside0.mk (blk_below (g := gb322) (o := .cells #[.int .i64 a0_0,.slice (some ad333) l0_1.length c0_1] 31 (0,0)) (by refine blk_far ?_ NB322_339.out _; refine blk_far ?_ NB322_339.out _; exact BK322.out) hb); replace BK323 := Aside0.mk (blk_below (g := gb323) (o := .cells #[.int .i64 a1_0,.string a1_1,.string a1_2,.int .i64 a1_3,.int .i64 a1_4] 35 (0,0)) (by refine blk_far ?_ NB323_339.out _; refine blk_far ?_ NB323_339.out _; exact BK323.out) hb); replace BK324 := Aside0.mk (blk_below (g := gb324) (o := .cells #[.int .i64 0,.slice none 0 0] 31 (0,0)) (by refine blk_far ?_ NB324_339.out _; refine blk_far ?_ NB324_339.out _; exact BK324.out) hb); replace BK329 := Aside0.mk (blk_below (g := gb329) (o := .cells #[.int .i64 t325,.slice Ao17 t326.length co17] 31 (0,0)) (by refine blk_far ?_ NB329_339.out _; refine blk_far ?_ NB329_339.out _; exact BK329.out) hb); replace BK334 := Aside0.mk (blk_below (g := gb334) (o := .cells #[.string ((rd_T63 l0_1 t332).f0),.int .i64 ((rd_T63 l0_1 t332).f1),.int .i64 ((rd_T63 l0_1 t332).f2),.int .i64 ((rd_T63 l0_1 t332).f3),.slice A333_4 ((rd_T63 l0_1 t332).f4).length c333_4] 63 (0,0)) (by refine blk_far ?_ NB334_339.out _; refine blk_far ?_ NB334_339.out _; exact BK334.out) hb); replace BK339 := Aside0.mk (blk_below (g := gb339) (o := .cells #[.int .i64 t335,.slice Ao117 t336.length co117] 31 (0,0)) (by refine blk_put (cs := #[.int .i64 t335,.slice none 0 0]) ?_ 1 _ rfl; refine blk_put (cs := #[.int .i64 0,.slice none 0 0]) ?_ 0 _ rfl; exact BK339.out) hb); replace HB := Aside0.mk (below_step (by repeat (with_reducible first | exact HB.out | refine below_set ?_ GE339.out)) hb); (try clear hb); obtain ⟨⟨hcz119_0,hcz119_1⟩,hfz119_0,hfz119_1⟩ := bc2 BK339.out; have hnb120 := NB324_329.out; have hnc120 := NB329_324.out; obtain ⟨⟨hcz121_0,hcz121_1⟩,hfz121_0,hfz121_1⟩ := bc2 BK324.out))
            refine bodyPost_ret (results_ct rfl _ _ gb324 31 #[.int .i64 t335,.slice Ao117 t336.length co117] (0,0) _ rfl (by refine blk_put (cs := #[.int .i64 t335,.slice none 0 0]) ?_ 1 _ rfl; refine blk_put (cs := #[.int .i64 0,.slice none 0 0]) ?_ 0 _ rfl; exact BK324.out) Try.underlying31 rfl (by kernel_rfl)) rfl ?_;exact ⟨_,by rfl,by exact Kd.N_mono (Kd.N_far (p := ⟨gb324,1,none⟩) (Kd.N_far (p := ⟨gb324,0,none⟩) (Kd.N_mono HO338.out (fun k_ hk => (⟨hk,hk.1.2.2.2.2.1⟩ : _ ∧ k_ ≠ gb324))) (fun _ hk => hk.2) (.int .i64 t335)) (fun _ hk => hk.2) (.slice Ao117 t336.length co117)) (fun _ hk => hk.1.1.1),by repeat (with_reducible first | exact HB.out | refine below_set ?_ GE324.out)⟩
           ·replace c96 := Bool.eq_false_iff.mpr c96;subst c96
            rw [if_neg (show ¬ (false = true) by decide)] at H
            simp only [Option.some.injEq,Prod.mk.injEq] at H;obtain ⟨rfl,rfl,rfl⟩ := H;have hnb122 := NB334_322.out;have hnc122 := NB322_334.out;have hnb123 := NB334_323.out;have hnc123 := NB323_334.out;have hnb124 := NB334_324.out;have hnc124 := NB324_334.out;have hnb125 := NB334_329.out;have hnc125 := NB329_334.out;obtain ⟨⟨hcz126_0,hcz126_1,hcz126_2,hcz126_3,hcz126_4⟩,hfz126_0,hfz126_1,hfz126_2,hfz126_3,hfz126_4⟩ := bc5 BK334.out;have hnb127 := NB323_322.out;have hnc127 := NB322_323.out;have hnb128 := NB323_324.out;have hnc128 := NB324_323.out;have hnb129 := NB323_329.out;have hnc129 := NB329_323.out;obtain ⟨⟨hcz130_0,hcz130_1,hcz130_2,hcz130_3,hcz130_4⟩,hfz130_0,hfz130_1,hfz130_2,hfz130_3,hfz130_4⟩ := bc5 BK323.out;have hnb131 := NB322_324.out;have hnc131 := NB324_322.out;have hnb132 := NB322_329.out;have hnc132 := NB329_322.out;obtain ⟨⟨hcz133_0,hcz133_1⟩,hfz133_0,hfz133_1⟩ := bc2 BK322.out
            go_wp2_with (first | ((with_reducible refine gate_callee (f := 61) rfl ?_); refine goesL_ (some 58) rfl rfl Try.func61 (by kernel_rfl) rfl #[.agg #[.int .i64 a0_0,.slice (some ad333) l0_1.length c0_1],.agg #[.int .i64 a1_0,.string a1_1,.string a1_2,.int .i64 a1_3,.int .i64 a1_4],.int .i64 t332] rfl (by (try simp only [List.map_toArray,List.map_cons,List.map_nil]); rfl) ?_; (with_reducible refine (spec_l6Do.calls kj56 a0_0 _ _ l0_1 a1_0 a1_1 a1_2 a1_3 a1_4 t332 t335 t336 _ ?side1 ?side2 A94.out).mono ?_); (case side1 => repeat (exact (Kd.C_below HR0_1.out HB.out))); (case side2 => exact HC0_1.out); rintro e w134 ⟨v337,rfl,ho0,hb⟩; refine ⟨_,rfl,?_⟩; have HO338 := Aside0.mk (Kd.N_lower (Kd.N_mono (ok' := fun k_ => (w.heap.size ≤ k_) ∧ some k_ ≠ (.slice Ao17 t326.length co17 : Value).ownBlock ∧ k_ ≠ gb322 ∧ k_ ≠ gb323 ∧ k_ ≠ gb324 ∧ k_ ≠ gb329 ∧ k_ ≠ gb334) ho0 (fun k_ hk_ => ⟨(Nat.le_trans (below_size HB.out) hk_),(Kd.fresh' (Kd.N_lt (by exact HO_330001.out)) k_ hk_),(Kd.freshB BK322.out k_ hk_),(Kd.freshB BK323.out k_ hk_),(Kd.freshB BK324.out k_ hk_),(Kd.freshB BK329.out k_ hk_),(Kd.freshB BK334.out k_ hk_)⟩)) (below_size HB.out)); replace HO_330001 := Aside0.mk (Kd.N_elder' (by exact HO_330001.out) (by exact Kd.N_base ho0) hb); replace BK322 := bkb BK322 hb; replace BK323 := bkb BK323 hb; replace BK324 := bkb BK324 hb; replace BK329 := bkb BK329 hb; replace BK334 := bkb BK334 hb; replace HB := bst HB hb; (try clear hb); (try clear ho0)) | ((with_reducible refine gate_dst (N := 10) rfl ?_); refine box_event (by rfl) (N := 10) (by rfl) (cs := #[.int .i64 0,.slice none 0 0]) (t := 31) (by go_simp; done) ?_; intro gb339 hg w135 hbox hb; replace HO_330001 := Aside0.mk (Kd.N_below (Kd.N_elderB (by exact HO_330001.out) gb339 (Nat.le_of_eq hg.symm)) hb); replace HO338 := Aside0.mk (Kd.N_below (Kd.N_elderB (by exact HO338.out) gb339 (Nat.le_of_eq hg.symm)) hb); have BK339 := Aside0.mk hbox; have GW339 := gsz HB hg; have GE339 := GW339; replace HB := bst HB hb; obtain ⟨NB322_339,NB339_322⟩ := nbb BK322 hg; replace BK322 := bkb BK322 hb; obtain ⟨NB323_339,NB339_323⟩ := nbb BK323 hg; replace BK323 := bkb BK323 hb; obtain ⟨NB324_339,NB339_324⟩ := nbb BK324 hg; replace BK324 := bkb BK324 hb; obtain ⟨NB329_339,NB339_329⟩ := nbb BK329 hg; replace BK329 := bkb BK329 hb; obtain ⟨NB334_339,NB339_334⟩ := nbb BK334 hg; replace BK334 := bkb BK334 hb; clear hb hbox hg; have hnb136 := NB339_322.out; have hnc136 := NB322_339.out; have hnb137 := NB339_323.out; have hnc137 := NB323_339.out; have hnb138 := NB339_324.out; have hnc138 := NB324_339.out; have hnb139 := NB339_329.out; have hnc139 := NB329_339.out; have hnb140 := NB339_334.out; have hnc140 := NB334_339.out; obtain ⟨⟨hcz141_0,hcz141_1⟩,hfz141_0,hfz141_1⟩ := bc2 BK339.out; obtain ⟨Ao142,co142,eo142⟩ := Kd.N_slice HO338.out; subst eo142) | ((with_reducible refine gate_callee (f := 47) rfl ?_); refine goesL_ (some 60) rfl rfl Try.func47 (by kernel_rfl) rfl #[.agg #[.int .i64 t335,.slice Ao142 t336.length co142]] rfl (by (try simp only [List.map_toArray,List.map_cons,List.map_nil]); rfl) ?_; (with_reducible refine (spec_LedgerOk.calls kj56 t335 _ _ t336 false _ ?side1 ?side2 A95.out).mono ?_); (case side1 => refine (Kd.N_reads' (e := 63) (base := w.heap.size) (ok := fun k_ => (((w.heap.size ≤ k_) ∧ (some k_ ≠ (.slice Ao17 t326.length co17 : Value).ownBlock ∧ (k_ ≠ gb322 ∧ (k_ ≠ gb323 ∧ (k_ ≠ gb324 ∧ (k_ ≠ gb329 ∧ k_ ≠ gb334)))))) ∧ k_ ≠ gb339)) (n := t336.length) (c := co142) ?_).2.2; exact (by exact (Kd.N_mono (Kd.N_far (p := ⟨gb339,1,none⟩) (Kd.N_far (p := ⟨gb339,0,none⟩) (Kd.N_mono HO338.out (fun k_ hk => (⟨hk,hk.2⟩ : _ ∧ k_ ≠ gb339))) (fun _ hk => hk.2) (.int .i64 t335)) (fun _ hk => hk.2) (.slice Ao142 t336.length co142)) (fun _ h_ => h_.1)))); (case side2 => exact (Kd.N_reads' HO338.out).2.1); rintro e w143 ⟨rfl,hb⟩; refine ⟨_,rfl,?_⟩; replace HO_330001 := Aside0.mk (Kd.N_below (by exact (Kd.N_mono (Kd.N_far (p := ⟨gb339,1,none⟩) (Kd.N_far (p := ⟨gb339,0,none⟩) (Kd.N_mono HO_330001.out (fun k_ hk => (⟨hk,hk.2⟩ : _ ∧ k_ ≠ gb339))) (fun _ hk => hk.2) (.int .i64 t335)) (fun _ hk => hk.2) (.slice Ao142 t336.length co142)) (fun _ h_ => h_.1))) hb); replace HO338 := Aside0.mk (Kd.N_below (by exact (Kd.N_mono (Kd.N_far (p := ⟨gb339,1,none⟩) (Kd.N_far (p := ⟨gb339,0,none⟩) (Kd.N_mono HO338.out (fun k_ hk => (⟨hk,hk.2⟩ : _ ∧ k_ ≠ gb339))) (fun _ hk => hk.2) (.int .i64 t335)) (fun _ hk => hk.2) (.slice Ao142 t336.length co142)) (fun _ h_ => h_.1))) hb); replace BK322 := Aside0.mk (blk_below (g := gb322) (o := .cells #[.int .i64 a0_0,.slice (some ad333) l0_1.length c0_1] 31 (0,0)) (by refine blk_far ?_ NB322_339.out _; refine blk_far ?_ NB322_339.out _; exact BK322.out) hb); replace BK323 := Aside0.mk (blk_below (g := gb323) (o := .cells #[.int .i64 a1_0,.string a1_1,.string a1_2,.int .i64 a1_3,.int .i64 a1_4] 35 (0,0)) (by refine blk_far ?_ NB323_339.out _; refine blk_far ?_ NB323_339.out _; exact BK323.out) hb); replace BK324 := Aside0.mk (blk_below (g := gb324) (o := .cells #[.int .i64 0,.slice none 0 0] 31 (0,0)) (by refine blk_far ?_ NB324_339.out _; refine blk_far ?_ NB324_339.out _; exact BK324.out) hb); replace BK329 := Aside0.mk (blk_below (g := gb329) (o := .cells #[.int .i64 t325,.slice Ao17 t326.length co17] 31 (0,0)) (by refine blk_far ?_ NB329_339.out _; refine blk_far ?_ NB329_339.out _; exact BK329.out) hb); replace BK334 := Aside0.mk (blk_below (g := gb334) (o := .cells #[.string ((rd_T63 l0_1 t332).f0),.int .i64 ((rd_T63 l0_1 t332).f1),.int .i64 ((rd_T63 l0_1 t332).f2),.int .i64 ((rd_T63 l0_1 t332).f3),.slice A333_4 ((rd_T63 l0_1 t332).f4).length c333_4] 63 (0,0)) (by refine blk_far ?_ NB334_339.out _; refine blk_far ?_ NB334_339.out _; exact BK334.out) hb); replace BK339 := Aside0.mk (blk_below (g := gb339) (o := .cells #[.int .i64 t335,.slice Ao142 t336.length co142] 31 (0,0)) (by refine blk_put (cs := #[.int .i64 t335,.slice none 0 0]) ?_ 1 _ rfl; refine blk_put (cs := #[.int .i64 0,.slice none 0 0]) ?_ 0 _ rfl; exact BK339.out) hb); replace HB := Aside0.mk (below_step (by repeat (with_reducible first | exact HB.out | refine below_set ?_ GE339.out)) hb); (try clear hb); have hnb144 := NB329_324.out; have hnc144 := NB324_329.out; obtain ⟨⟨hcz145_0,hcz145_1⟩,hfz145_0,hfz145_1⟩ := bc2 BK329.out; obtain ⟨⟨hcz146_0,hcz146_1⟩,hfz146_0,hfz146_1⟩ := bc2 BK324.out))
            refine bodyPost_ret (results_ct rfl _ _ gb324 31 #[.int .i64 t325,.slice Ao17 t326.length co17] (0,0) _ rfl (by refine blk_put (cs := #[.int .i64 t325,.slice none 0 0]) ?_ 1 _ rfl; refine blk_put (cs := #[.int .i64 0,.slice none 0 0]) ?_ 0 _ rfl; exact BK324.out) Try.underlying31 rfl (by kernel_rfl)) rfl ?_;exact ⟨_,by rfl,by exact Kd.N_mono (Kd.N_far (p := ⟨gb324,1,none⟩) (Kd.N_far (p := ⟨gb324,0,none⟩) (Kd.N_mono HO_330001.out (fun k_ hk => (⟨hk,hk.1.1.2.2.2.1⟩ : _ ∧ k_ ≠ gb324))) (fun _ hk => hk.2) (.int .i64 t325)) (fun _ hk => hk.2) (.slice Ao17 t326.length co17)) (fun _ hk => hk.1.1.1.1),by repeat (with_reducible first | exact HB.out | refine below_set ?_ GE324.out)⟩
         ·rw [if_neg c78] at H;have c78b0 : (((rd_T63 l0_1 t332).f2) == a1_4) = false := beq_eq_false_iff_ne.mpr c78;have c78b1 : (((rd_T63 l0_1 t332).f2) != a1_4) = true := bne_iff_ne.mpr c78;simp only [Option.some.injEq,Prod.mk.injEq] at H;obtain ⟨rfl,rfl,rfl⟩ := H;have hnb147 := NB334_322.out;have hnc147 := NB322_334.out;have hnb148 := NB334_323.out;have hnc148 := NB323_334.out;have hnb149 := NB334_324.out;have hnc149 := NB324_334.out;have hnb150 := NB334_329.out;have hnc150 := NB329_334.out;obtain ⟨⟨hcz151_0,hcz151_1,hcz151_2,hcz151_3,hcz151_4⟩,hfz151_0,hfz151_1,hfz151_2,hfz151_3,hfz151_4⟩ := bc5 BK334.out;have hnb152 := NB323_322.out;have hnc152 := NB322_323.out;have hnb153 := NB323_324.out;have hnc153 := NB324_323.out;have hnb154 := NB323_329.out;have hnc154 := NB329_323.out;obtain ⟨⟨hcz155_0,hcz155_1,hcz155_2,hcz155_3,hcz155_4⟩,hfz155_0,hfz155_1,hfz155_2,hfz155_3,hfz155_4⟩ := bc5 BK323.out;have hnb156 := NB329_322.out;have hnc156 := NB322_329.out;have hnb157 := NB329_324.out;have hnc157 := NB324_329.out;obtain ⟨⟨hcz158_0,hcz158_1⟩,hfz158_0,hfz158_1⟩ := bc2 BK329.out;have hnb159 := NB324_322.out;have hnc159 := NB322_324.out;obtain ⟨⟨hcz160_0,hcz160_1⟩,hfz160_0,hfz160_1⟩ := bc2 BK324.out;go_wp2;refine bodyPost_ret (results_ct rfl _ _ gb324 31 #[.int .i64 t325,.slice Ao17 t326.length co17] (0,0) _ rfl (by refine blk_put (cs := #[.int .i64 t325,.slice none 0 0]) ?_ 1 _ rfl; refine blk_put (cs := #[.int .i64 0,.slice none 0 0]) ?_ 0 _ rfl; exact BK324.out) Try.underlying31 rfl (by kernel_rfl)) rfl ?_;exact ⟨_,by rfl,by exact Kd.N_mono (Kd.N_far (p := ⟨gb324,1,none⟩) (Kd.N_far (p := ⟨gb324,0,none⟩) (Kd.N_mono HO_330001.out (fun k_ hk => (⟨hk,hk.2.2.2.1⟩ : _ ∧ k_ ≠ gb324))) (fun _ hk => hk.2) (.int .i64 t325)) (fun _ hk => hk.2) (.slice Ao17 t326.length co17)) (fun _ hk => hk.1.1),by repeat (with_reducible first | exact HB.out | refine below_set ?_ GE324.out)⟩
      ·rw [if_neg c56] at H;exact absurd H (by simp)
     ·rw [if_neg c55] at H;exact absurd H (by simp)

/-! ### spec_l1Str: function 119 -/
def spec_l1Str.f (s0_0 : List Int) (s0_1 : Int) (s0_2 : Int) (l1 : List ByteArray) : Option (ByteArray × Int × Int) := (spec_l1Below.f s0_0 s0_1 s0_2 (l1.length : Int)).bind fun bt341 => (if 0 ≤ bt341.1 then (if bt341.1 < (l1.length : Int) then (some (rdOf ByteArray.empty l1 bt341.1,bt341.2.1,bt341.2.2)) else (none)) else (none))
theorem spec_l1Str.calls (g : Nat) (s0_0 : List Int) (s0_1 : Int) (s0_2 : Int) (A1 : Option Addr) (c1 : Nat) (l1 : List ByteArray) (r1 : ByteArray) (r2 : Int) (r3 : Int) (w0 w : World) (hI : IsS135 w0 w g s0_0 s0_1 s0_2) (hB : Below w0.heap.size w0 w) (hr1 : Kd.C Kd.string w A1 l1.length l1) (hc1 : l1.length ≤ c1) (hf1 : ∀ ad,A1 = some ad → 0 < l1.length → ad.block ≠ g) (h : spec_l1Str.f s0_0 s0_1 s0_2 l1 = some (r1,r2,r3)) :
  Calls Try.prog 119 #[.pointer (some ⟨g,0,none⟩),.slice A1 l1.length c1] w fun e w' => e = .returned (.string r1) ∧ IsS135 w0 w' g s0_0 r2 r3 ∧ Below w0.heap.size w0 w' ∧ KeepBut w w' g none := by
 have HR1 := Aside0.mk hr1;have HC1 := Aside0.mk hc1;clear hr1 hc1;have HI0 := Aside0.mk hI;have HK := Aside0.mk (KeepBut.refl w g none);have HL := Aside0.mk hB.size;clear hI;have HW0 := Aside0.mk hB.size;have HB := Aside0.mk hB;clear hB;have H : ((spec_l1Below.f s0_0 s0_1 s0_2 (l1.length : Int)).bind fun bt341 => (if 0 ≤ bt341.1 then (if bt341.1 < (l1.length : Int) then (some (rdOf ByteArray.empty l1 bt341.1,bt341.2.1,bt341.2.2)) else (none)) else (none))) = some (r1,r2,r3) := h;clear h;replace H := Option.bind_eq_some_iff.mp H;obtain ⟨⟨t341,t342,t343⟩,A30,H⟩ := H;replace H : (if 0 ≤ t341 then (if t341 < (l1.length : Int) then (some (rdOf ByteArray.empty l1 t341,t342,t343)) else (none)) else (none)) = some (r1,r2,r3) := H;have A3 := Aside0.mk A30;clear A30
 by_cases c4 : 0 ≤ t341
 ·rw [if_pos c4] at H;have c4b0 := decide_eq_true c4;clear c4
  by_cases c5 : t341 < (l1.length : Int)
  ·rw [if_pos c5] at H;have c5b0 := decide_eq_true c5;clear c5;simp only [Option.some.injEq,Prod.mk.injEq] at H;obtain ⟨rfl,rfl,rfl⟩ := H;go_enter Try.func119,Try.ntmps119
   go_wp2_with (((with_reducible refine gate_callee (f := 80) rfl ?_); refine goesL_ (some 9) rfl rfl Try.func80 (by kernel_rfl) rfl #[.pointer (some ⟨g,0,none⟩),.int .i64 (l1.length : Int)] rfl (by (try simp only [List.map_toArray,List.map_cons,List.map_nil]); rfl) ?_; (with_reducible refine (spec_l1Below.calls g s0_0 s0_1 s0_2 (l1.length : Int) t341 t342 t343 w0 _ ?side1 ?side2 A3.out).mono ?_); (case side1 => repeat (with_reducible exact HI0.out)); (case side2 => repeat (with_reducible exact HB.out)); rintro e w6 ⟨rfl,hi,hb,hk⟩; refine ⟨_,rfl,?_⟩; replace HK := Aside0.mk (KeepBut.trans HK.out hk (.inl rfl)); replace HB := Aside0.mk (hb); replace HI0 := Aside0.mk (hi); (try clear hb); (try clear hk); (try clear hi); have p344 : 0 ≤ (t341 : Int) := odt (by with_reducible assumption); have q344 : t341 < (l1.length : Int) := odt (by with_reducible assumption); obtain ⟨ad344,e344,hx344_0⟩ := Kd.at_string HR1.out t341 p344 q344; cases e344; replace hx344_0 := keep_cell HK.out hx344_0 (by (rw [add_block]; exact hf1 _ rfl (by omega))); replace p344 := eq_true p344; replace q344 := eq_true q344))
   go_ret;exact ⟨by rfl,HI0.out,HB.out,HK.out⟩
  ·rw [if_neg c5] at H;exact absurd H (by simp)
 ·rw [if_neg c4] at H;exact absurd H (by simp)

/-! ### spec_l1Name: function 120 -/
def spec_l1Name.f (s0_0 : List Int) (s0_1 : Int) (s0_2 : Int) : Option (ByteArray × Int × Int) := (spec_l1Str.f s0_0 s0_1 s0_2 ([(⟨#[97]⟩ : ByteArray),(⟨#[98]⟩ : ByteArray),(⟨#[99]⟩ : ByteArray),(⟨#[100]⟩ : ByteArray),(⟨#[101]⟩ : ByteArray),(⟨#[97,49]⟩ : ByteArray)] : List ByteArray)).bind fun bt348 => (some (bt348.1,bt348.2.1,bt348.2.2))
theorem spec_l1Name.calls (g : Nat) (s0_0 : List Int) (s0_1 : Int) (s0_2 : Int) (r1 : ByteArray) (r2 : Int) (r3 : Int) (w0 w : World) (hI : IsS135 w0 w g s0_0 s0_1 s0_2) (hB : Below w0.heap.size w0 w) (h : spec_l1Name.f s0_0 s0_1 s0_2 = some (r1,r2,r3)) :
  Calls Try.prog 120 #[.pointer (some ⟨g,0,none⟩)] w fun e w' => e = .returned (.string r1) ∧ IsS135 w0 w' g s0_0 r2 r3 ∧ Below w0.heap.size w0 w' ∧ KeepBut w w' g none := by
 have HI0 := Aside0.mk hI;have HK := Aside0.mk (KeepBut.refl w g none);have HL := Aside0.mk hB.size;clear hI;have HW0 := Aside0.mk hB.size;have HB := Aside0.mk hB;clear hB;have H : ((spec_l1Str.f s0_0 s0_1 s0_2 ([(⟨#[97]⟩ : ByteArray),(⟨#[98]⟩ : ByteArray),(⟨#[99]⟩ : ByteArray),(⟨#[100]⟩ : ByteArray),(⟨#[101]⟩ : ByteArray),(⟨#[97,49]⟩ : ByteArray)] : List ByteArray)).bind fun bt348 => (some (bt348.1,bt348.2.1,bt348.2.2))) = some (r1,r2,r3) := h;clear h;obtain ⟨y345,hy345⟩ : ∃ y_ : List ByteArray,y_ = ([(⟨#[97]⟩ : ByteArray),(⟨#[98]⟩ : ByteArray),(⟨#[99]⟩ : ByteArray),(⟨#[100]⟩ : ByteArray),(⟨#[101]⟩ : ByteArray),(⟨#[97,49]⟩ : ByteArray)] : List ByteArray) := ⟨_,rfl⟩
 replace H : ((spec_l1Str.f s0_0 s0_1 s0_2 y345).bind fun bt348 => (some (bt348.1,bt348.2.1,bt348.2.2))) = some (r1,r2,r3) := by (rw [hy345]; with_reducible exact H)
 have Ny345 := Aside0.mk hy345;clear hy345;replace H := Option.bind_eq_some_iff.mp H;obtain ⟨⟨t348,t349,t350⟩,A20,H⟩ := H;replace H : (some (t348,t349,t350)) = some (r1,r2,r3) := H;have A2 := Aside0.mk A20;clear A20;simp only [Option.some.injEq,Prod.mk.injEq] at H;obtain ⟨rfl,rfl,rfl⟩ := H;go_enter Try.func120,Try.ntmps120
 go_wp2_with (first | ((with_reducible refine gate_dst (N := 4) rfl ?_); refine Kd.R_lit Kd.string _ 9 ?hg (N := 4) ?hd (xs := ([(⟨#[97]⟩ : ByteArray),(⟨#[98]⟩ : ByteArray),(⟨#[99]⟩ : ByteArray),(⟨#[100]⟩ : ByteArray),(⟨#[101]⟩ : ByteArray),(⟨#[97,49]⟩ : ByteArray)] : List ByteArray)) (inner := [.string (⟨#[97]⟩ : ByteArray),.string (⟨#[98]⟩ : ByteArray),.string (⟨#[99]⟩ : ByteArray),.string (⟨#[100]⟩ : ByteArray),.string (⟨#[101]⟩ : ByteArray),.string (⟨#[97,49]⟩ : ByteArray)]) (ok := fun _ => True) (okp := fun _ => True) ?hr ?hp (fun _ hk => hk) trivial (Below.refl _ _) (Nat.le_refl _) (by simp) ?_; (case hd => rfl); (case hg => rfl); (case hr => (go_simp; done)); (case hp => exact (Reps.one (show Kd.M Kd.string _ _ _ (⟨#[97]⟩ : ByteArray) [.string (⟨#[97]⟩ : ByteArray)] from rfl) (Reps.one (show Kd.M Kd.string _ _ _ (⟨#[98]⟩ : ByteArray) [.string (⟨#[98]⟩ : ByteArray)] from rfl) (Reps.one (show Kd.M Kd.string _ _ _ (⟨#[99]⟩ : ByteArray) [.string (⟨#[99]⟩ : ByteArray)] from rfl) (Reps.one (show Kd.M Kd.string _ _ _ (⟨#[100]⟩ : ByteArray) [.string (⟨#[100]⟩ : ByteArray)] from rfl) (Reps.one (show Kd.M Kd.string _ _ _ (⟨#[101]⟩ : ByteArray) [.string (⟨#[101]⟩ : ByteArray)] from rfl) (Reps.one (show Kd.M Kd.string _ _ _ (⟨#[97,49]⟩ : ByteArray) [.string (⟨#[97,49]⟩ : ByteArray)] from rfl) (Reps.none _ _)))))))); intro v346 w3 ho4 hb hg_ hnew_; clear hg_ hnew_; (rw [← Ny345.out] at ho4); have HO347 := Aside0.mk (Kd.R_lower ho4 (keep_size (w := w) (g := g) (row := none) HK.out)); replace HI0 := Aside0.mk (IsS135.below HI0.out hb); replace HK := Aside0.mk (KeepBut.trans HK.out (KeepBut.of_below hb g none) (.inl rfl)); replace HB := bst HB hb; clear hb ho4; obtain ⟨Ao5,co5,eo5⟩ := Kd.R_slice HO347.out; subst eo5) | ((with_reducible refine gate_callee (f := 119) rfl ?_); refine goesL_ (some 5) rfl rfl Try.func119 (by kernel_rfl) rfl #[.pointer (some ⟨g,0,none⟩),.slice Ao5 y345.length co5] rfl (by (try simp only [List.map_toArray,List.map_cons,List.map_nil]); rfl) ?_; (with_reducible refine (spec_l1Str.calls g s0_0 s0_1 s0_2 _ _ y345 t348 t349 t350 w0 _ ?side1 ?side2 ?side3 ?side4 ?side5 A2.out).mono ?_); (case side1 => repeat (with_reducible exact HI0.out)); (case side2 => repeat (with_reducible exact HB.out)); (case side3 => repeat (exact (Kd.R_reads' HO347.out).2.2)); (case side4 => exact (Kd.R_reads' HO347.out).2.1); (case side5 => exact far_slice (IsS135.own_ne HI0.out HO347.out (by decide))); rintro e w6 ⟨rfl,hi,hb,hk⟩; refine ⟨_,rfl,?_⟩; replace HO347 := Aside0.mk (Kd.R_mono (Kd.R_keep (IsS135.apart (show IsS135 w0 _ g s0_0 s0_1 s0_2 from HI0.out) (by exact HO347.out) (by decide)) hk (fun _ h => h.2)) (fun _ h => h.1)); replace HK := Aside0.mk (KeepBut.trans HK.out hk (.inl rfl)); replace HB := Aside0.mk (hb); replace HI0 := Aside0.mk (hi); (try clear hb); (try clear hk); (try clear hi)))
 go_ret;exact ⟨by rfl,HI0.out,HB.out,HK.out⟩

end Go.Proofs.Ytcbpfofkdipjhaa.PV
