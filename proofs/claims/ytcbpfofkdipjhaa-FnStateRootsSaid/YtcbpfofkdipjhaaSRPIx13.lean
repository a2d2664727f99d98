/- The machine's side of Go functions: each as a plain function,and that the call does what it says. Written by a program (wip/mprint). -/
import Derived.Test.YtcbpfofkdipjhaaSRPIx0
import Derived.Test.YtcbpfofkdipjhaaSRPIx1
import Derived.Test.YtcbpfofkdipjhaaSRPIx3
import Derived.Test.YtcbpfofkdipjhaaSRPIx5
import Derived.Test.YtcbpfofkdipjhaaSRPIx8
import Derived.Test.YtcbpfofkdipjhaaSRPIx11
import Derived.Test.YtcbpfofkdipjhaaSRPIx12
namespace Go.Proofs.Ytcbpfofkdipjhaa.PI
open Go.RowKit Go.Proofs.YtcbpfofkdipjhaaW.PrintWords Go.Proofs.YtcbpfofkdipjhaaW.PrintLast Go.Proofs.YtcbpfofkdipjhaaW.PrintMore
attribute [local wf_preprocess] Act.put List.setIfInBounds_toArray List.set_cons_zero List.set_cons_succ i64_w i32_w
attribute [local go_sem] max2_int min2_int max_two min_two max_three min_three max_four min_four   -- for this text's walks alone
set_option linter.unusedVariables false
set_option linter.unusedSimpArgs false

/-! ### laws_FnStateRoots: function 10 -/
mutual
def laws_FnStateRoots.l0 : Nat → ByteArray → List ByteArray → Int → Int → List (S63) → Option (Bool)
 | 0,_,_,_,_,_ => none
 | k + 1,x4,x5,x6,x476000,x476001 => if x6 < (x476001.length : Int) then (if 0 ≤ x6 then ((impl_PutText.f k ([] : List Int) ((rd_T63 x476001 x6).f0)).bind fun t487 => ((impl_PutNum.f k t487 ((rd_T63 x476001 x6).f1)).bind fun t490 => ((impl_PutNum.f k t490 ((rd_T63 x476001 x6).f2)).bind fun t493 => ((impl_PutNum.f k t493 ((rd_T63 x476001 x6).f3)).bind fun t496 => ((impl_PutNum.f k t496 (((rd_T63 x476001 x6).f4).length : Int)).bind fun t499 => (laws_FnStateRoots.l1 k x4 x5 x6 t499 0 x476000 x476001 ((rd_T63 x476001 x6).f0) ((rd_T63 x476001 x6).f1) ((rd_T63 x476001 x6).f2) ((rd_T63 x476001 x6).f3) ((rd_T63 x476001 x6).f4))))))) else (none)) else (laws_FnStateRoots.l2 k x4 x5 0)
def laws_FnStateRoots.l1 : Nat → ByteArray → List ByteArray → Int → List Int → Int → Int → List (S63) → ByteArray → Int → Int → Int → List (S65) → Option (Bool)
 | 0,_,_,_,_,_,_,_,_,_,_,_,_ => none
 | k + 1,x4,x5,x6,x8,x9,x476000,x476001,x484000,x484001,x484002,x484003,x484004 => if x9 < (x484004.length : Int) then (if 0 ≤ x9 then ((impl_PutNum.f k x8 ((rd_T65 x484004 x9).f0)).bind fun t503 => ((impl_PutNum.f k t503 ((rd_T65 x484004 x9).f1)).bind fun t507 => (laws_FnStateRoots.l1 k x4 x5 x6 t507 (wrap64 (x9 + 1)) x476000 x476001 x484000 x484001 x484002 x484003 x484004))) else (none)) else (if x5.length < 8796093022208 then (laws_FnStateRoots.l0 k x4 (x5 ++ [strOfNums x8]) (wrap64 (x6 + 1)) x476000 x476001) else (none))
def laws_FnStateRoots.l2 : Nat → ByteArray → List ByteArray → Int → Option (Bool)
 | 0,_,_,_ => none
 | k + 1,x4,x5,x10 => if x10 < (x5.length : Int) then (if 0 ≤ x10 then ((impl_PathOf.f k x5 x10).bind fun t514 => ((impl_CheckPath.f k (rdOf ByteArray.empty x5 x10) x10 (x5.length : Int) t514 x4).bind fun t517 => (if t517 = true then (laws_FnStateRoots.l2 k x4 x5 (wrap64 (x10 + 1))) else (some false)))) else (none)) else (some ((x4.size : Int) == 32))
end
def laws_FnStateRoots.f (k : Nat) (l0 : List Int) : Option (Bool) := (laws_big.f l0).bind fun t470 => (if t470 = true then (some true) else ((spec_DrawStateRoot.f k l0).bind fun bt471 => ((impl_StateRoot.f k bt471.1 bt471.2).bind fun t476 => ((spec_LedgerOk.f k bt471.1 bt471.2).bind fun t477 => (if t477 = true then (laws_FnStateRoots.l0 k t476 ([] : List ByteArray) 0 bt471.1 bt471.2) else (if t476.toList = ([] : List UInt8) then ((impl_LedgerOk.f k bt471.1 bt471.2).bind fun t478 => (some (!t478))) else (some false)))))))
theorem laws_FnStateRoots.mono_l : ∀ k,(∀ y0 y1 y2 y3 y4,LeO (laws_FnStateRoots.l0 k y0 y1 y2 y3 y4) (laws_FnStateRoots.l0 (k + 1) y0 y1 y2 y3 y4)) ∧ (∀ y0 y1 y2 y3 y4 y5 y6 y7 y8 y9 y10 y11,LeO (laws_FnStateRoots.l1 k y0 y1 y2 y3 y4 y5 y6 y7 y8 y9 y10 y11) (laws_FnStateRoots.l1 (k + 1) y0 y1 y2 y3 y4 y5 y6 y7 y8 y9 y10 y11)) ∧ (∀ y0 y1 y2,LeO (laws_FnStateRoots.l2 k y0 y1 y2) (laws_FnStateRoots.l2 (k + 1) y0 y1 y2))
 | 0 => ⟨fun _ _ _ _ _ r h => by simp [laws_FnStateRoots.l0] at h,fun _ _ _ _ _ _ _ _ _ _ _ _ r h => by simp [laws_FnStateRoots.l1] at h,fun _ _ _ r h => by simp [laws_FnStateRoots.l2] at h⟩
 | k + 1 => by
  obtain ⟨ih0,ih1,ih2⟩ := laws_FnStateRoots.mono_l k;refine ⟨?_,?_,?_⟩
  ·intro y0 y1 y2 y3 y4;unfold laws_FnStateRoots.l0
   repeat' first
   | (with_reducible exact ih0 _ _ _ _ _)
   | (with_reducible exact ih1 _ _ _ _ _ _ _ _ _ _ _ _)
   | (with_reducible exact ih2 _ _ _)
   | (with_reducible exact impl_CheckPath.mono _ _ _ _ _ _)
   | (with_reducible exact impl_LedgerOk.mono _ _ _)
   | (with_reducible exact impl_PathOf.mono _ _ _)
   | (with_reducible exact impl_PutNum.mono _ _ _)
   | (with_reducible exact impl_PutText.mono _ _ _)
   | (with_reducible exact impl_StateRoot.mono _ _ _)
   | (with_reducible exact spec_DrawStateRoot.mono _ _)
   | (with_reducible exact spec_LedgerOk.mono _ _ _)
   | (with_reducible exact LeO.refl _)
   | (with_reducible exact LeO.none _)
   | (with_reducible refine LeO.ite ?_ ?_)
   | (with_reducible refine LeO.bind ?_ (fun _ => ?_))
   | exact ih0 _ _ _ _ _
   | exact ih1 _ _ _ _ _ _ _ _ _ _ _ _
   | exact ih2 _ _ _
   | exact impl_CheckPath.mono _ _ _ _ _ _
   | exact impl_LedgerOk.mono _ _ _
   | exact impl_PathOf.mono _ _ _
   | exact impl_PutNum.mono _ _ _
   | exact impl_PutText.mono _ _ _
   | exact impl_StateRoot.mono _ _ _
   | exact spec_DrawStateRoot.mono _ _
   | exact spec_LedgerOk.mono _ _ _
   | exact LeO.none _
  ·intro y0 y1 y2 y3 y4 y5 y6 y7 y8 y9 y10 y11;unfold laws_FnStateRoots.l1
   repeat' first
   | (with_reducible exact ih0 _ _ _ _ _)
   | (with_reducible exact ih1 _ _ _ _ _ _ _ _ _ _ _ _)
   | (with_reducible exact ih2 _ _ _)
   | (with_reducible exact impl_CheckPath.mono _ _ _ _ _ _)
   | (with_reducible exact impl_LedgerOk.mono _ _ _)
   | (with_reducible exact impl_PathOf.mono _ _ _)
   | (with_reducible exact impl_PutNum.mono _ _ _)
   | (with_reducible exact impl_PutText.mono _ _ _)
   | (with_reducible exact impl_StateRoot.mono _ _ _)
   | (with_reducible exact spec_DrawStateRoot.mono _ _)
   | (with_reducible exact spec_LedgerOk.mono _ _ _)
   | (with_reducible exact LeO.refl _)
   | (with_reducible exact LeO.none _)
   | (with_reducible refine LeO.ite ?_ ?_)
   | (with_reducible refine LeO.bind ?_ (fun _ => ?_))
   | exact ih0 _ _ _ _ _
   | exact ih1 _ _ _ _ _ _ _ _ _ _ _ _
   | exact ih2 _ _ _
   | exact impl_CheckPath.mono _ _ _ _ _ _
   | exact impl_LedgerOk.mono _ _ _
   | exact impl_PathOf.mono _ _ _
   | exact impl_PutNum.mono _ _ _
   | exact impl_PutText.mono _ _ _
   | exact impl_StateRoot.mono _ _ _
   | exact spec_DrawStateRoot.mono _ _
   | exact spec_LedgerOk.mono _ _ _
   | exact LeO.none _
  ·intro y0 y1 y2;unfold laws_FnStateRoots.l2
   repeat' first
   | (with_reducible exact ih0 _ _ _ _ _)
   | (with_reducible exact ih1 _ _ _ _ _ _ _ _ _ _ _ _)
   | (with_reducible exact ih2 _ _ _)
   | (with_reducible exact impl_CheckPath.mono _ _ _ _ _ _)
   | (with_reducible exact impl_LedgerOk.mono _ _ _)
   | (with_reducible exact impl_PathOf.mono _ _ _)
   | (with_reducible exact impl_PutNum.mono _ _ _)
   | (with_reducible exact impl_PutText.mono _ _ _)
   | (with_reducible exact impl_StateRoot.mono _ _ _)
   | (with_reducible exact spec_DrawStateRoot.mono _ _)
   | (with_reducible exact spec_LedgerOk.mono _ _ _)
   | (with_reducible exact LeO.refl _)
   | (with_reducible exact LeO.none _)
   | (with_reducible refine LeO.ite ?_ ?_)
   | (with_reducible refine LeO.bind ?_ (fun _ => ?_))
   | exact ih0 _ _ _ _ _
   | exact ih1 _ _ _ _ _ _ _ _ _ _ _ _
   | exact ih2 _ _ _
   | exact impl_CheckPath.mono _ _ _ _ _ _
   | exact impl_LedgerOk.mono _ _ _
   | exact impl_PathOf.mono _ _ _
   | exact impl_PutNum.mono _ _ _
   | exact impl_PutText.mono _ _ _
   | exact impl_StateRoot.mono _ _ _
   | exact spec_DrawStateRoot.mono _ _
   | exact spec_LedgerOk.mono _ _ _
   | exact LeO.none _
theorem laws_FnStateRoots.mono : ∀ a0 k,LeO (laws_FnStateRoots.f k a0) (laws_FnStateRoots.f (k + 1) a0) := by
 intro a0 k;obtain ⟨ih0,ih1,ih2⟩ := laws_FnStateRoots.mono_l k;unfold laws_FnStateRoots.f
 repeat' first
   | (with_reducible exact ih0 _ _ _ _ _)
   | (with_reducible exact ih1 _ _ _ _ _ _ _ _ _ _ _ _)
   | (with_reducible exact ih2 _ _ _)
   | (with_reducible exact impl_CheckPath.mono _ _ _ _ _ _)
   | (with_reducible exact impl_LedgerOk.mono _ _ _)
   | (with_reducible exact impl_PathOf.mono _ _ _)
   | (with_reducible exact impl_PutNum.mono _ _ _)
   | (with_reducible exact impl_PutText.mono _ _ _)
   | (with_reducible exact impl_StateRoot.mono _ _ _)
   | (with_reducible exact spec_DrawStateRoot.mono _ _)
   | (with_reducible exact spec_LedgerOk.mono _ _ _)
   | (with_reducible exact LeO.refl _)
   | (with_reducible exact LeO.none _)
   | (with_reducible refine LeO.ite ?_ ?_)
   | (with_reducible refine LeO.bind ?_ (fun _ => ?_))
   | exact ih0 _ _ _ _ _
   | exact ih1 _ _ _ _ _ _ _ _ _ _ _ _
   | exact ih2 _ _ _
   | exact impl_CheckPath.mono _ _ _ _ _ _
   | exact impl_LedgerOk.mono _ _ _
   | exact impl_PathOf.mono _ _ _
   | exact impl_PutNum.mono _ _ _
   | exact impl_PutText.mono _ _ _
   | exact impl_StateRoot.mono _ _ _
   | exact spec_DrawStateRoot.mono _ _
   | exact spec_LedgerOk.mono _ _ _
   | exact LeO.none _
def laws_FnStateRoots.T12 : Bool × List (List Nat × List Nat) := (true,[([],[]),([],[]),([1],[1]),([0,2],[0,2]),([],[]),([4],[4]),([3,5,3],[3,5]),([],[]),([7],[7]),([6,8,6],[6,8]),([],[]),([10],[10]),([9,11,9],[9,11]),([],[]),([13],[13]),([14],[14]),([12,15,12],[12,15]),([16,16,0,1,2,3,4,5,6,7,8,9,10,11,12,13,14,15,16],[16])])
def laws_FnStateRoots.B12 : List Nat := [0,0,2,7,0,16,63,0,128,511,0,1024,4095,0,8192,24576,65535,131071]
theorem laws_FnStateRoots.tab12 : rtab .any (opsOf Try.f10 12) = laws_FnStateRoots.T12 := by kernel_rfl
theorem laws_FnStateRoots.bits12 : waitsOk laws_FnStateRoots.T12.2 laws_FnStateRoots.B12 = true := by kernel_rfl
def laws_FnStateRoots.T16 : Bool × List (List Nat × List Nat) := (true,[([],[]),([],[]),([1],[1]),([],[]),([2,3],[2,3]),([4],[4]),([5],[5]),([0,6],[0,6]),([],[]),([8],[8]),([],[]),([9,10],[9,10]),([11],[11]),([12],[12]),([7,13,7],[7,13]),([14,14,0,1,2,3,4,5,6,7,8,9,10,11,12,13,14],[0,14])])
def laws_FnStateRoots.B16 : List Nat := [0,0,2,0,14,30,62,127,0,256,0,1792,3840,7936,16383,32767]
theorem laws_FnStateRoots.tab16 : rtab .any (opsOf Try.f10 16) = laws_FnStateRoots.T16 := by kernel_rfl
theorem laws_FnStateRoots.bits16 : waitsOk laws_FnStateRoots.T16.2 laws_FnStateRoots.B16 = true := by kernel_rfl
def laws_FnStateRoots.T21 : Bool × List (List Nat × List Nat) := (true,[([],[]),([],[]),([0,1],[0,1]),([2],[2]),([],[]),([],[]),([5],[5]),([],[]),([],[]),([7,8],[7,8]),([],[]),([3,4,6,9,10,9],[3,4,6,9,10]),([11],[11])])
def laws_FnStateRoots.B21 : List Nat := [0,0,3,7,0,0,32,0,0,384,0,2047,4095]
theorem laws_FnStateRoots.tab21 : rtab .any (opsOf Try.f10 21) = laws_FnStateRoots.T21 := by kernel_rfl
theorem laws_FnStateRoots.bits21 : waitsOk laws_FnStateRoots.T21.2 laws_FnStateRoots.B21 = true := by kernel_rfl
set_option maxHeartbeats 8000000 in
set_option maxRecDepth 100000 in
theorem laws_FnStateRoots.calls (k : Nat) (A0 : Option Addr) (c0 : Nat) (l0 : List Int) (r : Bool) (w : World) (hr0 : Kd.C (Kd.int .u8) w A0 l0.length l0) (hc0 : l0.length ≤ c0) (h : laws_FnStateRoots.f k l0 = some r) :
  Calls Try.prog 10 #[.slice A0 l0.length c0] w fun e w' => e = .returned (.bool r) ∧ Below w.heap.size w w' := by
 have hu31 := Try.underlying31;have hu63 := Try.underlying63;have HR0 := Aside0.mk hr0;have HC0 := Aside0.mk hc0;clear hr0 hc0;have HB := Aside0.mk (Below.refl w.heap.size w);have H : ((laws_big.f l0).bind fun t470 => (if t470 = true then (some true) else ((spec_DrawStateRoot.f k l0).bind fun bt471 => ((impl_StateRoot.f k bt471.1 bt471.2).bind fun t476 => ((spec_LedgerOk.f k bt471.1 bt471.2).bind fun t477 => (if t477 = true then (laws_FnStateRoots.l0 k t476 ([] : List ByteArray) 0 bt471.1 bt471.2) else (if t476.toList = ([] : List UInt8) then ((impl_LedgerOk.f k bt471.1 bt471.2).bind fun t478 => (some (!t478))) else (some false)))))))) = some r := h;clear h;replace H := Option.bind_eq_some_iff.mp H;obtain ⟨t470,A20,H⟩ := H;replace H : (if t470 = true then (some true) else ((spec_DrawStateRoot.f k l0).bind fun bt471 => ((impl_StateRoot.f k bt471.1 bt471.2).bind fun t476 => ((spec_LedgerOk.f k bt471.1 bt471.2).bind fun t477 => (if t477 = true then (laws_FnStateRoots.l0 k t476 ([] : List ByteArray) 0 bt471.1 bt471.2) else (if t476.toList = ([] : List UInt8) then ((impl_LedgerOk.f k bt471.1 bt471.2).bind fun t478 => (some (!t478))) else (some false))))))) = some r := H;have A2 := Aside0.mk A20;clear A20
 by_cases c3 : t470 = true
 ·subst c3
  have H1 : (some true) = some r := by rw [if_pos rfl] at H; exact H
  clear H;have H := H1;clear H1;obtain rfl := Option.some.inj H;go_enter Try.func10,Try.ntmps10
  go_wp2_with (((with_reducible refine gate_callee (f := 22) rfl ?_); refine goesL_ (some 12) rfl rfl Try.func22 (by kernel_rfl) rfl #[.slice A0 l0.length c0] rfl (by (try simp only [List.map_toArray,List.map_cons,List.map_nil]); rfl) ?_; (with_reducible refine (laws_big.calls _ _ l0 true _ ?side1 ?side2 A2.out).mono ?_); (case side1 => repeat (exact HR0.out)); (case side2 => exact HC0.out); rintro e w' ⟨rfl,⟨nd,rfl⟩⟩; refine ⟨_,rfl,?_⟩))
  go_ret;exact ⟨by rfl,by repeat (with_reducible first | exact HB.out | apply pw_below_drewN)⟩
 ·replace c3 := Bool.eq_false_iff.mpr c3;subst c3
  have H1 : ((spec_DrawStateRoot.f k l0).bind fun bt471 => ((impl_StateRoot.f k bt471.1 bt471.2).bind fun t476 => ((spec_LedgerOk.f k bt471.1 bt471.2).bind fun t477 => (if t477 = true then (laws_FnStateRoots.l0 k t476 ([] : List ByteArray) 0 bt471.1 bt471.2) else (if t476.toList = ([] : List UInt8) then ((impl_LedgerOk.f k bt471.1 bt471.2).bind fun t478 => (some (!t478))) else (some false)))))) = some r := by rw [if_neg (show ¬ (false = true) by decide)] at H; exact H
  clear H;have H := H1;clear H1;replace H := Option.bind_eq_some_iff.mp H;obtain ⟨⟨t471,t472⟩,A40,H⟩ := H;replace H : ((impl_StateRoot.f k t471 t472).bind fun t476 => ((spec_LedgerOk.f k t471 t472).bind fun t477 => (if t477 = true then (laws_FnStateRoots.l0 k t476 ([] : List ByteArray) 0 t471 t472) else (if t476.toList = ([] : List UInt8) then ((impl_LedgerOk.f k t471 t472).bind fun t478 => (some (!t478))) else (some false))))) = some r := H;have A4 := Aside0.mk A40;clear A40;replace H := Option.bind_eq_some_iff.mp H;obtain ⟨t476,A50,H⟩ := H;replace H : ((spec_LedgerOk.f k t471 t472).bind fun t477 => (if t477 = true then (laws_FnStateRoots.l0 k t476 ([] : List ByteArray) 0 t471 t472) else (if t476.toList = ([] : List UInt8) then ((impl_LedgerOk.f k t471 t472).bind fun t478 => (some (!t478))) else (some false)))) = some r := H;have A5 := Aside0.mk A50;clear A50;replace H := Option.bind_eq_some_iff.mp H;obtain ⟨t477,A60,H⟩ := H;replace H : (if t477 = true then (laws_FnStateRoots.l0 k t476 ([] : List ByteArray) 0 t471 t472) else (if t476.toList = ([] : List UInt8) then ((impl_LedgerOk.f k t471 t472).bind fun t478 => (some (!t478))) else (some false))) = some r := H;have A6 := Aside0.mk A60;clear A60
  by_cases c7 : t477 = true
  ·subst c7
   have H1 : (laws_FnStateRoots.l0 k t476 ([] : List ByteArray) 0 t471 t472) = some r := by rw [if_pos rfl] at H; exact H
   clear H;have H := H1;clear H1;obtain ⟨y479,hy479⟩ : ∃ y_ : List ByteArray,y_ = ([] : List ByteArray) := ⟨_,rfl⟩
   replace H : (laws_FnStateRoots.l0 k t476 y479 0 t471 t472) = some r := by (rw [hy479]; with_reducible exact H)
   have Ny479 := Aside0.mk hy479;clear hy479;have H' := Aside0.mk H;clear H;go_enter Try.func10,Try.ntmps10
   go_wp2_with (first | ((with_reducible refine gate_callee (f := 22) rfl ?_); refine goesL_ (some 12) rfl rfl Try.func22 (by kernel_rfl) rfl #[.slice A0 l0.length c0] rfl (by (try simp only [List.map_toArray,List.map_cons,List.map_nil]); rfl) ?_; (with_reducible refine (laws_big.calls _ _ l0 false _ ?side1 ?side2 A2.out).mono ?_); (case side1 => repeat (exact HR0.out)); (case side2 => exact HC0.out); rintro e w' ⟨rfl,⟨nd,rfl⟩⟩; refine ⟨_,rfl,?_⟩) | ((with_reducible refine gate_callee (f := 46) rfl ?_); refine goesL_ (some 14) rfl rfl Try.func46 (by kernel_rfl) rfl #[.slice A0 l0.length c0] rfl (by (try simp only [List.map_toArray,List.map_cons,List.map_nil]); rfl) ?_; (with_reducible refine (spec_DrawStateRoot.calls k _ _ l0 t471 t472 _ ?side1 ?side2 A4.out).mono ?_); (case side1 => repeat (exact HR0.out)); (case side2 => exact HC0.out); rintro e w8 ⟨v473,rfl,ho0,hb⟩; refine ⟨_,rfl,?_⟩; have n0_ := Aside0.mk (Kd.S_lower ho0 (below_size (by repeat (with_reducible first | exact HB.out | apply pw_below_drewN)))); have n1_ := Aside0.mk (below_step (by repeat (with_reducible first | exact HB.out | apply pw_below_drewN)) hb); clear HB; have HO474 := n0_; have HB := n1_; clear n0_ n1_; (try clear hb); (try clear ho0)) | ((with_reducible refine gate_dst (N := 3) rfl ?_); refine box_event ?hg (N := 3) ?hd (cs := #[.int .i64 0,.slice none 0 0]) (t := 31) ?hr ?_; (case hd => rfl); (case hg => rfl); (case hr => (go_simp; done)); intro gb475 hg w9 hbox hb; have n0_ := Aside0.mk (Kd.S_below (by exact HO474.out) hb); have n1_ := Aside0.mk (below_step HB.out hb); have n2_ := Aside0.mk (hbox); have n3_ := Aside0.mk (by rw [hg]; exact (below_size HB.out) : w.heap.size ≤ gb475); have n4_ := Aside0.mk (by rw [hg]; exact (below_size HB.out) : w.heap.size ≤ gb475); clear HO474; clear HB; have HO474 := n0_; have HB := n1_; have BK475 := n2_; have GW475 := n3_; have GE475 := n4_; clear n0_ n1_ n2_ n3_ n4_; clear hb hbox hg; have hcz10_0 : w9.cell? ⟨gb475,0,none⟩ = some (.int .i64 0) := (blk_cell BK475.out 0).trans rfl; have hcz10_1 : w9.cell? ⟨gb475,1,none⟩ = some (.slice none 0 0) := (blk_cell BK475.out 1).trans rfl; have hfz10_0 := blk_frozen BK475.out 0; have hfz10_1 := blk_frozen BK475.out 1; obtain ⟨Ao11,co11,eo11⟩ := Kd.S_slice HO474.out; subst eo11) | ((with_reducible refine gate_callee (f := 28) rfl ?_); refine goesL_ (some 16) rfl rfl Try.func28 (by kernel_rfl) rfl #[.agg #[.int .i64 t471,.slice Ao11 t472.length co11]] rfl (by (try simp only [List.map_toArray,List.map_cons,List.map_nil]); rfl) ?_; (with_reducible refine (impl_StateRoot.calls k t471 _ _ t472 t476 _ ?side1 ?side2 A5.out).mono ?_); (case side1 => refine (Kd.S_reads' (e := 63) (base := w.heap.size) (ok := fun k_ => True) (n := t472.length) (c := co11) ?_).2.2; exact (by exact (Kd.S_mono (Kd.S_far (p := ⟨gb475,1,none⟩) (Kd.S_far (p := ⟨gb475,0,none⟩) (Kd.S_types HO474.out BK475.out (by decide)) (fun _ hk => hk.2) (.int .i64 t471)) (fun _ hk => hk.2) (.slice Ao11 t472.length co11)) (fun _ h_ => h_.1)))); (case side2 => exact (Kd.S_reads' HO474.out).2.1); rintro e w12 ⟨rfl,hb⟩; refine ⟨_,rfl,?_⟩; have n0_ := Aside0.mk (Kd.S_below (by exact (Kd.S_mono (Kd.S_far (p := ⟨gb475,1,none⟩) (Kd.S_far (p := ⟨gb475,0,none⟩) (Kd.S_types HO474.out BK475.out (by decide)) (fun _ hk => hk.2) (.int .i64 t471)) (fun _ hk => hk.2) (.slice Ao11 t472.length co11)) (fun _ h_ => h_.1))) hb); have n1_ := Aside0.mk (blk_below (g := gb475) (o := .cells #[.int .i64 t471,.slice Ao11 t472.length co11] 31 (0,0)) (by refine blk_put (cs := #[.int .i64 t471,.slice none 0 0]) ?_ 1 _ rfl; refine blk_put (cs := #[.int .i64 0,.slice none 0 0]) ?_ 0 _ rfl; exact BK475.out) hb); have n2_ := Aside0.mk (below_step (by repeat (with_reducible first | exact HB.out | refine below_set ?_ GE475.out)) hb); clear HO474; clear BK475; clear HB; have HO474 := n0_; have BK475 := n1_; have HB := n2_; clear n0_ n1_ n2_; (try clear hb); have hcz13_0 : w12.cell? ⟨gb475,0,none⟩ = some (.int .i64 t471) := (blk_cell BK475.out 0).trans rfl; have hcz13_1 : w12.cell? ⟨gb475,1,none⟩ = some (.slice Ao11 t472.length co11) := (blk_cell BK475.out 1).trans rfl; have hfz13_0 := blk_frozen BK475.out 0; have hfz13_1 := blk_frozen BK475.out 1) | ((with_reducible refine gate_callee (f := 47) rfl ?_); refine goesL_ (some 18) rfl rfl Try.func47 (by kernel_rfl) rfl #[.agg #[.int .i64 t471,.slice Ao11 t472.length co11]] rfl (by (try simp only [List.map_toArray,List.map_cons,List.map_nil]); rfl) ?_; (with_reducible refine (spec_LedgerOk.calls k t471 _ _ t472 true _ ?side1 ?side2 A6.out).mono ?_); (case side1 => repeat (exact (Kd.S_reads' HO474.out).2.2)); (case side2 => exact (Kd.S_reads' HO474.out).2.1); rintro e w14 ⟨rfl,hb⟩; refine ⟨_,rfl,?_⟩; have n0_ := Aside0.mk (Kd.S_below (by exact HO474.out) hb); have n1_ := Aside0.mk (blk_below (g := gb475) (o := .cells #[.int .i64 t471,.slice Ao11 t472.length co11] 31 (0,0)) (by exact BK475.out) hb); have n2_ := Aside0.mk (below_step HB.out hb); clear HO474; clear BK475; clear HB; have HO474 := n0_; have BK475 := n1_; have HB := n2_; clear n0_ n1_ n2_; (try clear hb); skip) | ((with_reducible refine gate_dst (N := 27) rfl ?_); refine Kd.R_lit Kd.string _ 9 ?hg (N := 27) ?hd (xs := ([] : List ByteArray)) (inner := []) (ok := fun _ => True) (okp := fun _ => True) ?hr ?hp (fun _ hk => hk) trivial (Below.refl _ _) (Nat.le_refl _) (by simp) ?_; (case hd => rfl); (case hg => rfl); (case hr => (go_simp; done)); (case hp => exact (Reps.none _ _)); intro v480 w15 ho16 hb hg_ hnew_; clear hg_ hnew_; (rw [← Ny479.out] at ho16); have n0_ := Aside0.mk (Kd.S_below (by exact HO474.out) hb); have n1_ := Aside0.mk (Kd.R_lower ho16 (below_size HB.out)); have n2_ := Aside0.mk (blk_below (g := gb475) (o := .cells #[.int .i64 t471,.slice Ao11 t472.length co11] 31 (0,0)) (by exact BK475.out) hb); have n3_ := Aside0.mk (below_step HB.out hb); clear HO474; clear BK475; clear HB; have HO474 := n0_; have HO481 := n1_; have BK475 := n2_; have HB := n3_; clear n0_ n1_ n2_ n3_; clear hb ho16))
   go_loopg [5,6] k (fun kq v5 v6 w' => ∃ (x5_1 : List ByteArray) (x6_1 : Int),v6 = .int .i64 x6_1 ∧ Aside0 (laws_FnStateRoots.l0 kq t476 x5_1 x6_1 t471 t472 = some r) ∧ Aside0 (kq ≤ k) ∧ Aside0 (Kd.R Kd.string 9 w' w.heap.size (fun _ => True) v5 x5_1) ∧ Aside0 (Kd.S k63 63 w' w.heap.size (fun _ => True) (.slice Ao11 t472.length co11) t472) ∧ Aside0 (w'.heap[gb475]? = some (.cells #[.int .i64 t471,(.slice Ao11 t472.length co11)] 31 (0,0))) ∧ Aside0 (Below w.heap.size w w'))
   case atStart => exact ⟨(y479),(0),(by rfl),H',⟨Nat.le_refl _⟩,⟨by exact HO481.out⟩,⟨by exact HO474.out⟩,⟨by exact BK475.out⟩,⟨HB.out⟩⟩
   case round =>
    clear H'
    try clear c1
    try clear c2
    try clear p2
    try clear c3
    try clear c4
    try clear c7
    try clear c10
    try clear hcz10_0
    try clear hcz10_1
    try clear hcz13_0
    try clear hcz13_1
    try clear hfz10_0
    try clear hfz10_1
    try clear hfz13_0
    try clear hfz13_1
    obtain ⟨x5_1,x6_1,rfl,HA,HK1,HO_5,HO_476001,BK475,HB⟩ := hrel
    cases gk with
    | zero => exact absurd HA.out (by simp [laws_FnStateRoots.l0])
    | succ k1 =>
     have H := HA.out;clear HA;simp only [laws_FnStateRoots.l0] at H
     by_cases c17 : x6_1 < (t472.length : Int)
     ·rw [if_pos c17] at H;have c17b0 : decide (x6_1 < (t472.length : Int)) = true := decide_eq_true c17;clear c17
      by_cases c18 : 0 ≤ x6_1
      ·rw [if_pos c18] at H;have c18b0 : decide (0 ≤ x6_1) = true := decide_eq_true c18;clear c18;obtain ⟨y484,hy484⟩ : ∃ y_ : List Int,y_ = ([] : List Int) := ⟨_,rfl⟩
       replace H : ((impl_PutText.f k1 y484 ((rd_T63 t472 x6_1).f0)).bind fun t487 => ((impl_PutNum.f k1 t487 ((rd_T63 t472 x6_1).f1)).bind fun t490 => ((impl_PutNum.f k1 t490 ((rd_T63 t472 x6_1).f2)).bind fun t493 => ((impl_PutNum.f k1 t493 ((rd_T63 t472 x6_1).f3)).bind fun t496 => ((impl_PutNum.f k1 t496 (((rd_T63 t472 x6_1).f4).length : Int)).bind fun t499 => (laws_FnStateRoots.l1 k1 t476 x5_1 x6_1 t499 0 t471 t472 ((rd_T63 t472 x6_1).f0) ((rd_T63 t472 x6_1).f1) ((rd_T63 t472 x6_1).f2) ((rd_T63 t472 x6_1).f3) ((rd_T63 t472 x6_1).f4))))))) = some r := by (rw [hy484]; with_reducible exact H)
       have Ny484 := Aside0.mk hy484;clear hy484;replace H := Option.bind_eq_some_iff.mp H;obtain ⟨t487,A190,H⟩ := H;replace H : ((impl_PutNum.f k1 t487 ((rd_T63 t472 x6_1).f1)).bind fun t490 => ((impl_PutNum.f k1 t490 ((rd_T63 t472 x6_1).f2)).bind fun t493 => ((impl_PutNum.f k1 t493 ((rd_T63 t472 x6_1).f3)).bind fun t496 => ((impl_PutNum.f k1 t496 (((rd_T63 t472 x6_1).f4).length : Int)).bind fun t499 => (laws_FnStateRoots.l1 k1 t476 x5_1 x6_1 t499 0 t471 t472 ((rd_T63 t472 x6_1).f0) ((rd_T63 t472 x6_1).f1) ((rd_T63 t472 x6_1).f2) ((rd_T63 t472 x6_1).f3) ((rd_T63 t472 x6_1).f4)))))) = some r := H;have A19 := Aside0.mk A190;clear A190;replace H := Option.bind_eq_some_iff.mp H;obtain ⟨t490,A200,H⟩ := H;replace H : ((impl_PutNum.f k1 t490 ((rd_T63 t472 x6_1).f2)).bind fun t493 => ((impl_PutNum.f k1 t493 ((rd_T63 t472 x6_1).f3)).bind fun t496 => ((impl_PutNum.f k1 t496 (((rd_T63 t472 x6_1).f4).length : Int)).bind fun t499 => (laws_FnStateRoots.l1 k1 t476 x5_1 x6_1 t499 0 t471 t472 ((rd_T63 t472 x6_1).f0) ((rd_T63 t472 x6_1).f1) ((rd_T63 t472 x6_1).f2) ((rd_T63 t472 x6_1).f3) ((rd_T63 t472 x6_1).f4))))) = some r := H;have A20 := Aside0.mk A200;clear A200;replace H := Option.bind_eq_some_iff.mp H;obtain ⟨t493,A210,H⟩ := H;replace H : ((impl_PutNum.f k1 t493 ((rd_T63 t472 x6_1).f3)).bind fun t496 => ((impl_PutNum.f k1 t496 (((rd_T63 t472 x6_1).f4).length : Int)).bind fun t499 => (laws_FnStateRoots.l1 k1 t476 x5_1 x6_1 t499 0 t471 t472 ((rd_T63 t472 x6_1).f0) ((rd_T63 t472 x6_1).f1) ((rd_T63 t472 x6_1).f2) ((rd_T63 t472 x6_1).f3) ((rd_T63 t472 x6_1).f4)))) = some r := H;have A21 := Aside0.mk A210;clear A210;replace H := Option.bind_eq_some_iff.mp H;obtain ⟨t496,A220,H⟩ := H;replace H : ((impl_PutNum.f k1 t496 (((rd_T63 t472 x6_1).f4).length : Int)).bind fun t499 => (laws_FnStateRoots.l1 k1 t476 x5_1 x6_1 t499 0 t471 t472 ((rd_T63 t472 x6_1).f0) ((rd_T63 t472 x6_1).f1) ((rd_T63 t472 x6_1).f2) ((rd_T63 t472 x6_1).f3) ((rd_T63 t472 x6_1).f4))) = some r := H;have A22 := Aside0.mk A220;clear A220;replace H := Option.bind_eq_some_iff.mp H;obtain ⟨t499,A230,H⟩ := H;replace H : (laws_FnStateRoots.l1 k1 t476 x5_1 x6_1 t499 0 t471 t472 ((rd_T63 t472 x6_1).f0) ((rd_T63 t472 x6_1).f1) ((rd_T63 t472 x6_1).f2) ((rd_T63 t472 x6_1).f3) ((rd_T63 t472 x6_1).f4)) = some r := H;have A23 := Aside0.mk A230;clear A230;have H' := Aside0.mk H;clear H;have hcz24_0 : wr.cell? ⟨gb475,0,none⟩ = some (.int .i64 t471) := (blk_cell BK475.out 0).trans rfl;have hcz24_1 : wr.cell? ⟨gb475,1,none⟩ = some (.slice Ao11 t472.length co11) := (blk_cell BK475.out 1).trans rfl;have hfz24_0 := blk_frozen BK475.out 0;have hfz24_1 := blk_frozen BK475.out 1;have p482 : 0 ≤ (x6_1 : Int) := of_decide_eq_true (by (with_reducible assumption));have q482 : x6_1 < (t472.length : Int) := of_decide_eq_true (by (with_reducible assumption));obtain ⟨ad482,A482_4,c482_4,e482,hx482_0,hx482_1,hx482_2,hx482_3,hx482_4,hl482_4,hi482_4⟩ := at_T63 (Kd.S_reads' HO_476001.out).2.2 x6_1 p482 q482
       cases e482
       obtain ⟨ce482,hce482,hMe482,hcc482⟩ := Kd.S_get HO_476001.out z63 x6_1 p482 (by exact q482);obtain ⟨ve482_4,rfl,ge482_4⟩ := k63_openM hMe482;have hv482_4 := hcc482 4 _ rfl;rw [add_field _ _ 4 (by omega)] at hv482_4;replace hv482_4 := Option.some.inj (hv482_4.symm.trans hx482_4);rw [hv482_4] at ge482_4;have HL482_4 := Aside0.mk (show Kd.R k65 65 _ _ _ _ ((rd_T63 t472 x6_1).f4) from ge482_4);clear hv482_4 ge482_4;clear hcc482 hce482;have HR482_4 := Aside0.mk hi482_4;have HC482_4 := Aside0.mk hl482_4;clear hi482_4 hl482_4;replace p482 := eq_true p482;replace q482 := eq_true q482
       try go_wp2_with (((with_reducible refine gate_dst (N := 7) rfl ?_); refine box_event ?hg (N := 7) ?hd (cs := #[.string (⟨#[]⟩ : ByteArray),.int .i64 0,.int .i64 0,.int .i64 0,.slice none 0 0]) (t := 63) ?hr ?_; (case hd => rfl); (case hg => rfl); (case hr => (go_simp; done)); intro gb483 hg w25 hbox hb; have n0_ := Aside0.mk (Kd.R_below (by exact HO_5.out) hb); have n1_ := Aside0.mk (Kd.S_below (Kd.S_elderB (by exact HO_476001.out) gb483 (Nat.le_of_eq hg.symm)) hb); have n2_ := Aside0.mk (Kd.R_below (by exact HL482_4.out) hb); have n3_ := Aside0.mk (blk_below (g := gb475) (o := .cells #[.int .i64 t471,.slice (some ad482) t472.length co11] 31 (0,0)) (by exact BK475.out) hb); have n4_ := Aside0.mk (Kd.C_below HR482_4.out hb); have n5_ := Aside0.mk (below_step HB.out hb); have n6_ := Aside0.mk (hbox); have n7_ := Aside0.mk (by rw [hg]; exact (below_size HB.out) : w.heap.size ≤ gb483); have n8_ := Aside0.mk (by rw [hg]; exact (below_size HB.out) : w.heap.size ≤ gb483); have n9_ := Aside0.mk (by rw [hg]; exact Nat.ne_of_lt (blk_lt (g := gb475) (o := .cells #[.int .i64 t471,.slice (some ad482) t472.length co11] 31 (0,0)) (by exact BK475.out)) : gb475 ≠ gb483); have n10_ := Aside0.mk (by rw [hg]; exact Nat.ne_of_gt (blk_lt (g := gb475) (o := .cells #[.int .i64 t471,.slice (some ad482) t472.length co11] 31 (0,0)) (by exact BK475.out)) : gb483 ≠ gb475); clear HO_5; clear HO_476001; clear HL482_4; clear BK475; clear HR482_4; clear HB; have HO_5 := n0_; have HO_476001 := n1_; have HL482_4 := n2_; have BK475 := n3_; have HR482_4 := n4_; have HB := n5_; have BK483 := n6_; have GW483 := n7_; have GE483 := n8_; have NB475_483 := n9_; have NB483_475 := n10_; clear n0_ n1_ n2_ n3_ n4_ n5_ n6_ n7_ n8_ n9_ n10_; clear hb hbox hg; have hnb26 := NB483_475.out; have hnc26 := NB475_483.out; have hcz27_0 : w25.cell? ⟨gb483,0,none⟩ = some (.string (⟨#[]⟩ : ByteArray)) := (blk_cell BK483.out 0).trans rfl; have hcz27_1 : w25.cell? ⟨gb483,1,none⟩ = some (.int .i64 0) := (blk_cell BK483.out 1).trans rfl; have hcz27_2 : w25.cell? ⟨gb483,2,none⟩ = some (.int .i64 0) := (blk_cell BK483.out 2).trans rfl; have hcz27_3 : w25.cell? ⟨gb483,3,none⟩ = some (.int .i64 0) := (blk_cell BK483.out 3).trans rfl; have hcz27_4 : w25.cell? ⟨gb483,4,none⟩ = some (.slice none 0 0) := (blk_cell BK483.out 4).trans rfl; have hfz27_0 := blk_frozen BK483.out 0; have hfz27_1 := blk_frozen BK483.out 1; have hfz27_2 := blk_frozen BK483.out 2; have hfz27_3 := blk_frozen BK483.out 3; have hfz27_4 := blk_frozen BK483.out 4))
       have n0_ : Aside0 (Kd.R Kd.string 9 (((((w25.setCell ⟨gb483,0,none⟩ (.string ((rd_T63 t472 x6_1).f0))).setCell ⟨gb483,1,none⟩ (.int .i64 ((rd_T63 t472 x6_1).f1))).setCell ⟨gb483,2,none⟩ (.int .i64 ((rd_T63 t472 x6_1).f2))).setCell ⟨gb483,3,none⟩ (.int .i64 ((rd_T63 t472 x6_1).f3))).setCell ⟨gb483,4,none⟩ (.slice A482_4 ((rd_T63 t472 x6_1).f4).length c482_4)) w.heap.size (fun _ => True) u5 x5_1) := ⟨by exact Kd.R_mono (Kd.R_far (p := ⟨gb483,4,none⟩) (Kd.R_far (p := ⟨gb483,3,none⟩) (Kd.R_far (p := ⟨gb483,2,none⟩) (Kd.R_far (p := ⟨gb483,1,none⟩) (Kd.R_far (p := ⟨gb483,0,none⟩) (Kd.R_types HO_5.out BK483.out (by decide)) (fun _ hk => hk.2) (.string ((rd_T63 t472 x6_1).f0))) (fun _ hk => hk.2) (.int .i64 ((rd_T63 t472 x6_1).f1))) (fun _ hk => hk.2) (.int .i64 ((rd_T63 t472 x6_1).f2))) (fun _ hk => hk.2) (.int .i64 ((rd_T63 t472 x6_1).f3))) (fun _ hk => hk.2) (.slice A482_4 ((rd_T63 t472 x6_1).f4).length c482_4)) (fun _ hk => trivial)⟩;have n1_ : Aside0 (Kd.S k63 63 (((((w25.setCell ⟨gb483,0,none⟩ (.string ((rd_T63 t472 x6_1).f0))).setCell ⟨gb483,1,none⟩ (.int .i64 ((rd_T63 t472 x6_1).f1))).setCell ⟨gb483,2,none⟩ (.int .i64 ((rd_T63 t472 x6_1).f2))).setCell ⟨gb483,3,none⟩ (.int .i64 ((rd_T63 t472 x6_1).f3))).setCell ⟨gb483,4,none⟩ (.slice A482_4 ((rd_T63 t472 x6_1).f4).length c482_4)) w.heap.size (fun k_ => k_ ≠ gb483) (.slice (some ad482) t472.length co11) t472) := ⟨by exact Kd.S_mono (Kd.S_far (p := ⟨gb483,4,none⟩) (Kd.S_far (p := ⟨gb483,3,none⟩) (Kd.S_far (p := ⟨gb483,2,none⟩) (Kd.S_far (p := ⟨gb483,1,none⟩) (Kd.S_far (p := ⟨gb483,0,none⟩) (Kd.S_mono HO_476001.out (fun k_ hk => (⟨hk,hk.2⟩ : _ ∧ k_ ≠ gb483))) (fun _ hk => hk.2) (.string ((rd_T63 t472 x6_1).f0))) (fun _ hk => hk.2) (.int .i64 ((rd_T63 t472 x6_1).f1))) (fun _ hk => hk.2) (.int .i64 ((rd_T63 t472 x6_1).f2))) (fun _ hk => hk.2) (.int .i64 ((rd_T63 t472 x6_1).f3))) (fun _ hk => hk.2) (.slice A482_4 ((rd_T63 t472 x6_1).f4).length c482_4)) (fun _ hk => hk.1.2)⟩;have n2_ : Aside0 (Kd.R k65 65 (((((w25.setCell ⟨gb483,0,none⟩ (.string ((rd_T63 t472 x6_1).f0))).setCell ⟨gb483,1,none⟩ (.int .i64 ((rd_T63 t472 x6_1).f1))).setCell ⟨gb483,2,none⟩ (.int .i64 ((rd_T63 t472 x6_1).f2))).setCell ⟨gb483,3,none⟩ (.int .i64 ((rd_T63 t472 x6_1).f3))).setCell ⟨gb483,4,none⟩ (.slice A482_4 ((rd_T63 t472 x6_1).f4).length c482_4)) w.heap.size (fun k_ => some k_ ≠ (.slice (some ad482) t472.length co11 : Value).ownBlock) (.slice A482_4 ((rd_T63 t472 x6_1).f4).length c482_4) ((rd_T63 t472 x6_1).f4)) := ⟨by exact Kd.R_mono (Kd.R_far (p := ⟨gb483,4,none⟩) (Kd.R_far (p := ⟨gb483,3,none⟩) (Kd.R_far (p := ⟨gb483,2,none⟩) (Kd.R_far (p := ⟨gb483,1,none⟩) (Kd.R_far (p := ⟨gb483,0,none⟩) (Kd.R_types HL482_4.out BK483.out (by decide)) (fun _ hk => hk.2) (.string ((rd_T63 t472 x6_1).f0))) (fun _ hk => hk.2) (.int .i64 ((rd_T63 t472 x6_1).f1))) (fun _ hk => hk.2) (.int .i64 ((rd_T63 t472 x6_1).f2))) (fun _ hk => hk.2) (.int .i64 ((rd_T63 t472 x6_1).f3))) (fun _ hk => hk.2) (.slice A482_4 ((rd_T63 t472 x6_1).f4).length c482_4)) (fun _ hk => hk.1.2)⟩;have n3_ : Aside0 ((((((w25.setCell ⟨gb483,0,none⟩ (.string ((rd_T63 t472 x6_1).f0))).setCell ⟨gb483,1,none⟩ (.int .i64 ((rd_T63 t472 x6_1).f1))).setCell ⟨gb483,2,none⟩ (.int .i64 ((rd_T63 t472 x6_1).f2))).setCell ⟨gb483,3,none⟩ (.int .i64 ((rd_T63 t472 x6_1).f3))).setCell ⟨gb483,4,none⟩ (.slice A482_4 ((rd_T63 t472 x6_1).f4).length c482_4)).heap[gb475]? = some (.cells #[.int .i64 t471,.slice (some ad482) t472.length co11] 31 (0,0))) := ⟨by refine blk_far ?_ NB475_483.out _; refine blk_far ?_ NB475_483.out _; refine blk_far ?_ NB475_483.out _; refine blk_far ?_ NB475_483.out _; refine blk_far ?_ NB475_483.out _; exact BK475.out⟩;have n4_ : Aside0 ((((((w25.setCell ⟨gb483,0,none⟩ (.string ((rd_T63 t472 x6_1).f0))).setCell ⟨gb483,1,none⟩ (.int .i64 ((rd_T63 t472 x6_1).f1))).setCell ⟨gb483,2,none⟩ (.int .i64 ((rd_T63 t472 x6_1).f2))).setCell ⟨gb483,3,none⟩ (.int .i64 ((rd_T63 t472 x6_1).f3))).setCell ⟨gb483,4,none⟩ (.slice A482_4 ((rd_T63 t472 x6_1).f4).length c482_4)).heap[gb483]? = some (.cells #[.string ((rd_T63 t472 x6_1).f0),.int .i64 ((rd_T63 t472 x6_1).f1),.int .i64 ((rd_T63 t472 x6_1).f2),.int .i64 ((rd_T63 t472 x6_1).f3),.slice A482_4 ((rd_T63 t472 x6_1).f4).length c482_4] 63 (0,0))) := ⟨by refine blk_put (cs := #[.string ((rd_T63 t472 x6_1).f0),.int .i64 ((rd_T63 t472 x6_1).f1),.int .i64 ((rd_T63 t472 x6_1).f2),.int .i64 ((rd_T63 t472 x6_1).f3),.slice none 0 0]) ?_ 4 _ rfl; refine blk_put (cs := #[.string ((rd_T63 t472 x6_1).f0),.int .i64 ((rd_T63 t472 x6_1).f1),.int .i64 ((rd_T63 t472 x6_1).f2),.int .i64 0,.slice none 0 0]) ?_ 3 _ rfl; refine blk_put (cs := #[.string ((rd_T63 t472 x6_1).f0),.int .i64 ((rd_T63 t472 x6_1).f1),.int .i64 0,.int .i64 0,.slice none 0 0]) ?_ 2 _ rfl; refine blk_put (cs := #[.string ((rd_T63 t472 x6_1).f0),.int .i64 0,.int .i64 0,.int .i64 0,.slice none 0 0]) ?_ 1 _ rfl; refine blk_put (cs := #[.string (⟨#[]⟩ : ByteArray),.int .i64 0,.int .i64 0,.int .i64 0,.slice none 0 0]) ?_ 0 _ rfl; exact BK483.out⟩;have n5_ : Aside0 (Below w.heap.size w (((((w25.setCell ⟨gb483,0,none⟩ (.string ((rd_T63 t472 x6_1).f0))).setCell ⟨gb483,1,none⟩ (.int .i64 ((rd_T63 t472 x6_1).f1))).setCell ⟨gb483,2,none⟩ (.int .i64 ((rd_T63 t472 x6_1).f2))).setCell ⟨gb483,3,none⟩ (.int .i64 ((rd_T63 t472 x6_1).f3))).setCell ⟨gb483,4,none⟩ (.slice A482_4 ((rd_T63 t472 x6_1).f4).length c482_4))) := ⟨by repeat (with_reducible first | exact HB.out | refine below_set ?_ GE483.out)⟩
       (try clear HO_5)
       (try clear HO_476001)
       (try clear HL482_4)
       (try clear BK475)
       (try clear BK483)
       (try clear HB)
       generalize (((((w25.setCell ⟨gb483,0,none⟩ (.string ((rd_T63 t472 x6_1).f0))).setCell ⟨gb483,1,none⟩ (.int .i64 ((rd_T63 t472 x6_1).f1))).setCell ⟨gb483,2,none⟩ (.int .i64 ((rd_T63 t472 x6_1).f2))).setCell ⟨gb483,3,none⟩ (.int .i64 ((rd_T63 t472 x6_1).f3))).setCell ⟨gb483,4,none⟩ (.slice A482_4 ((rd_T63 t472 x6_1).f4).length c482_4)) = w28 at n0_ n1_ n2_ n3_ n4_ n5_ ⊢
       have HO_5 := n0_;have HO_476001 := n1_;have HL482_4 := n2_;have BK475 := n3_;have BK483 := n4_;have HB := n5_;clear n0_ n1_ n2_ n3_ n4_ n5_;have n0_ := Aside0.mk (Kd.R_drew HO_5.out);have n1_ := Aside0.mk (Kd.S_drew HO_476001.out);have n2_ := Aside0.mk (Kd.R_drew HL482_4.out);have n3_ := Aside0.mk (blk_drew BK475.out);have n4_ := Aside0.mk (blk_drew BK483.out);have n5_ := Aside0.mk (below_drew1 HB.out);clear HO_5;clear HO_476001;clear HL482_4;clear BK475;clear BK483;clear HB;have HO_5 := n0_;have HO_476001 := n1_;have HL482_4 := n2_;have BK475 := n3_;have BK483 := n4_;have HB := n5_;clear n0_ n1_ n2_ n3_ n4_ n5_;refine start_ (n := 18) (S := fun w' => w'.cell? ⟨gb483,0,none⟩ = some (.string ((rd_T63 t472 x6_1).f0)) ∧ w'.cell? ⟨gb483,1,none⟩ = some (.int .i64 ((rd_T63 t472 x6_1).f1)) ∧ w'.cell? ⟨gb483,2,none⟩ = some (.int .i64 ((rd_T63 t472 x6_1).f2)) ∧ w'.cell? ⟨gb483,3,none⟩ = some (.int .i64 ((rd_T63 t472 x6_1).f3)) ∧ w'.cell? ⟨gb483,4,none⟩ = some (.slice A482_4 ((rd_T63 t472 x6_1).f4).length c482_4)) (ds := []) #[false,false,false,false,false,false,false,false,false,false,false,false,false,false,false,false,false,false] (by kernel_rfl) rfl rfl ⟨(blk_cell BK483.out 0).trans rfl,(blk_cell BK483.out 1).trans rfl,(blk_cell BK483.out 2).trans rfl,(blk_cell BK483.out 3).trans rfl,(blk_cell BK483.out 4).trans rfl⟩ (fun hHeld => ?_); refine with_tabW laws_FnStateRoots.tab12 laws_FnStateRoots.bits12 (fun HT_ HW_ => ?_)
       generalize w28.drew = w29 at HO_5 HO_476001 HL482_4 BK475 BK483 HB hHeld ⊢
       refine pure_ (i := 1) (N := some 41) (v := ?_) (a' := ?_) #[false,true,false,false,false,false,false,false,false,false,false,false,false,false,false,false,false,false] rfl rfl (any_of HT_.out (by kernel_rfl)) (fun _ _ _ h => h) (Or.inl ⟨by rfl,?_⟩) ?_ ?_;rotate_left
       ·intro w';go_simp;with_reducible rfl
       rotate_left
       ·simp only [wf_preprocess];rfl
       refine pure_ (i := 4) (N := some 44) (v := ?_) (a' := ?_) #[false,true,false,false,true,false,false,false,false,false,false,false,false,false,false,false,false,false] rfl rfl (any_of HT_.out (by kernel_rfl)) (fun _ _ _ h => h) (Or.inl ⟨by rfl,?_⟩) ?_ ?_;rotate_left
       ·intro w';go_simp;with_reducible rfl
       rotate_left
       ·simp only [wf_preprocess];rfl
       refine pure_ (i := 7) (N := some 47) (v := ?_) (a' := ?_) #[false,true,false,false,true,false,false,true,false,false,false,false,false,false,false,false,false,false] rfl rfl (any_of HT_.out (by kernel_rfl)) (fun _ _ _ h => h) (Or.inl ⟨by rfl,?_⟩) ?_ ?_;rotate_left
       ·intro w';go_simp;with_reducible rfl
       rotate_left
       ·simp only [wf_preprocess];rfl
       refine pure_ (i := 10) (N := some 50) (v := ?_) (a' := ?_) #[false,true,false,false,true,false,false,true,false,false,true,false,false,false,false,false,false,false] rfl rfl (any_of HT_.out (by kernel_rfl)) (fun _ _ _ h => h) (Or.inl ⟨by rfl,?_⟩) ?_ ?_;rotate_left
       ·intro w';go_simp;with_reducible rfl
       rotate_left
       ·simp only [wf_preprocess];rfl
       refine pure_ (i := 13) (N := some 53) (v := ?_) (a' := ?_) #[false,true,false,false,true,false,false,true,false,false,true,false,false,true,false,false,false,false] rfl rfl (any_of HT_.out (by kernel_rfl)) (fun _ _ _ h => h) (Or.inl ⟨by rfl,?_⟩) ?_ ?_;rotate_left
       ·intro w';go_simp;with_reducible rfl
       rotate_left
       ·simp only [wf_preprocess];rfl
       refine take_ (i := 2) (N := some 42) (v := ?_) (a' := ?_) #[false,true,true,false,true,false,false,true,false,false,true,false,false,true,false,false,false,false] rfl rfl (take_ofW HT_.out HW_.out (by kernel_rfl)) (fun _ _ _ h => h) (Or.inl ⟨by rfl,?_⟩) hHeld ?_ ?_;rotate_left
       ·rintro w' ⟨s0,s1,s2,s3,s4⟩;go_simp;with_reducible rfl
       rotate_left
       ·simp only [wf_preprocess];rfl
       refine take_ (i := 5) (N := some 45) (v := ?_) (a' := ?_) #[false,true,true,false,true,true,false,true,false,false,true,false,false,true,false,false,false,false] rfl rfl (take_ofW HT_.out HW_.out (by kernel_rfl)) (fun _ _ _ h => h) (Or.inl ⟨by rfl,?_⟩) hHeld ?_ ?_;rotate_left
       ·rintro w' ⟨s0,s1,s2,s3,s4⟩;go_simp;with_reducible rfl
       rotate_left
       ·simp only [wf_preprocess];rfl
       refine take_ (i := 8) (N := some 48) (v := ?_) (a' := ?_) #[false,true,true,false,true,true,false,true,true,false,true,false,false,true,false,false,false,false] rfl rfl (take_ofW HT_.out HW_.out (by kernel_rfl)) (fun _ _ _ h => h) (Or.inl ⟨by rfl,?_⟩) hHeld ?_ ?_;rotate_left
       ·rintro w' ⟨s0,s1,s2,s3,s4⟩;go_simp;with_reducible rfl
       rotate_left
       ·simp only [wf_preprocess];rfl
       refine take_ (i := 11) (N := some 51) (v := ?_) (a' := ?_) #[false,true,true,false,true,true,false,true,true,false,true,true,false,true,false,false,false,false] rfl rfl (take_ofW HT_.out HW_.out (by kernel_rfl)) (fun _ _ _ h => h) (Or.inl ⟨by rfl,?_⟩) hHeld ?_ ?_;rotate_left
       ·rintro w' ⟨s0,s1,s2,s3,s4⟩;go_simp;with_reducible rfl
       rotate_left
       ·simp only [wf_preprocess];rfl
       refine take_ (i := 14) (N := some 54) (v := ?_) (a' := ?_) #[false,true,true,false,true,true,false,true,true,false,true,true,false,true,true,false,false,false] rfl rfl (take_ofW HT_.out HW_.out (by kernel_rfl)) (fun _ _ _ h => h) (Or.inl ⟨by rfl,?_⟩) hHeld ?_ ?_;rotate_left
       ·rintro w' ⟨s0,s1,s2,s3,s4⟩;go_simp;with_reducible rfl
       rotate_left
       ·simp only [wf_preprocess];rfl
       refine pure_ (i := 15) (N := some 55) (v := ?_) (a' := ?_) #[false,true,true,false,true,true,false,true,true,false,true,true,false,true,true,true,false,false] rfl rfl (any_of HT_.out (by kernel_rfl)) (fun _ _ _ h => h) (Or.inl ⟨by rfl,?_⟩) ?_ ?_;rotate_left
       ·intro w';go_simp;with_reducible rfl
       rotate_left
       ·simp only [wf_preprocess];rfl
       refine one_ (i := 0) (N := some 40) #[true,true,true,false,true,true,false,true,true,false,true,true,false,true,true,true,false,false] rfl rfl (one_of HT_.out (by kernel_rfl)) (by decide) (fun K hK => ?_);refine Kd.R_lit_step (Kd.int .u8) _ 5 ?hg (N := 40) ?hd (xs := ([] : List Int)) (inner := []) (ok := fun _ => True) (okp := fun _ => True) ?hr ?hp (fun _ hk => hk) trivial (Below.refl _ _) (Nat.le_refl _) (by simp) ?_; (case hd => rfl); (case hg => rfl); (case hr => (go_simp; done)); (case hp => exact (Reps.none _ _));intro v485 w30 ho31 hb hg_ hnew_;clear hg_ hnew_
       (rw [← Ny484.out] at ho31)
       have n0_ := Aside0.mk (Kd.R_below (by exact HO_5.out) hb);have n1_ := Aside0.mk (Kd.S_below (by exact HO_476001.out) hb);have n2_ := Aside0.mk (Kd.R_below (by exact HL482_4.out) hb);have n3_ := Aside0.mk (Kd.R_lower ho31 (below_size HB.out));have n4_ := Aside0.mk (blk_below (g := gb475) (o := .cells #[.int .i64 t471,.slice (some ad482) t472.length co11] 31 (0,0)) (by exact BK475.out) hb);have n5_ := Aside0.mk (blk_below (g := gb483) (o := .cells #[.string ((rd_T63 t472 x6_1).f0),.int .i64 ((rd_T63 t472 x6_1).f1),.int .i64 ((rd_T63 t472 x6_1).f2),.int .i64 ((rd_T63 t472 x6_1).f3),.slice A482_4 ((rd_T63 t472 x6_1).f4).length c482_4] 63 (0,0)) (by exact BK483.out) hb);have n6_ := Aside0.mk (below_step HB.out hb);clear HO_5;clear HO_476001;clear HL482_4;clear BK475;clear BK483;clear HB;have HO_5 := n0_;have HO_476001 := n1_;have HL482_4 := n2_;have HO486 := n3_;have BK475 := n4_;have BK483 := n5_;have HB := n6_;clear n0_ n1_ n2_ n3_ n4_ n5_ n6_;clear hb ho31;obtain ⟨Ao32,co32,eo32⟩ := Kd.R_slice HO486.out
       (subst eo32)
       refine hK.out _ _ ⟨(blk_cell BK483.out 0).trans rfl,(blk_cell BK483.out 1).trans rfl,(blk_cell BK483.out 2).trans rfl,(blk_cell BK483.out 3).trans rfl,(blk_cell BK483.out 4).trans rfl⟩ (fun hHeld => ?_);clear hK K;refine norm_ (a' := ?_) ?_ ?_;rotate_left
       ·show Act.put _ (some 40) _ = _
        simp only [wf_preprocess];rfl
       refine one_ (i := 3) (N := some 43) #[true,true,true,true,true,true,false,true,true,false,true,true,false,true,true,true,false,false] rfl rfl (one_of HT_.out (by kernel_rfl)) (by decide) (fun K hK => ?_);refine goes_ Try.func49 (by kernel_rfl) rfl #[.slice Ao32 y484.length co32,.string ((rd_T63 t472 x6_1).f0)] (by rfl) rfl rfl (by (try simp only [List.map_toArray,List.map_cons,List.map_nil]); rfl) ?_
       with_reducible refine (impl_PutText.calls k1 _ _ y484 ((rd_T63 t472 x6_1).f0) t487 _ ?side1 ?side2 A19.out).mono ?_
       (case side1 => repeat (exact (Kd.R_reads' HO486.out).2.2))
       (case side2 => exact (Kd.R_reads' HO486.out).2.1)
       rintro e w33 ⟨v488,rfl,ho0,hb⟩;refine ⟨_,rfl,?_⟩;have n0_ := Aside0.mk (Kd.R_below (by exact HO_5.out) hb);have n1_ := Aside0.mk (Kd.S_below (by exact HO_476001.out) hb);have n2_ := Aside0.mk (Kd.R_below (by exact HL482_4.out) hb);have n3_ := Aside0.mk (Kd.R_elder' (by exact HO486.out) (Kd.R_base ho0) hb);have n4_ := Aside0.mk (Kd.R_lower (Kd.R_new' ho0 (Kd.R_lt (by exact HO486.out))) (below_size HB.out));have n5_ := Aside0.mk (blk_below (g := gb475) (o := .cells #[.int .i64 t471,.slice (some ad482) t472.length co11] 31 (0,0)) (by exact BK475.out) hb);have n6_ := Aside0.mk (blk_below (g := gb483) (o := .cells #[.string ((rd_T63 t472 x6_1).f0),.int .i64 ((rd_T63 t472 x6_1).f1),.int .i64 ((rd_T63 t472 x6_1).f2),.int .i64 ((rd_T63 t472 x6_1).f3),.slice A482_4 ((rd_T63 t472 x6_1).f4).length c482_4] 63 (0,0)) (by exact BK483.out) hb);have n7_ := Aside0.mk (below_step HB.out hb);clear HO_5;clear HO_476001;clear HL482_4;clear HO486;clear BK475;clear BK483;clear HB;have HO_5 := n0_;have HO_476001 := n1_;have HL482_4 := n2_;have HO486 := n3_;have HO489 := n4_;have BK475 := n5_;have BK483 := n6_;have HB := n7_;clear n0_ n1_ n2_ n3_ n4_ n5_ n6_ n7_
       (try clear hb)
       skip
       skip
       skip
       (try clear ho0)
       obtain ⟨Ao34,co34,eo34⟩ := Kd.R_slice HO489.out
       (subst eo34)
       refine hK.out _ _ ⟨(blk_cell BK483.out 0).trans rfl,(blk_cell BK483.out 1).trans rfl,(blk_cell BK483.out 2).trans rfl,(blk_cell BK483.out 3).trans rfl,(blk_cell BK483.out 4).trans rfl⟩ (fun hHeld => ?_);clear hK K;refine norm_ (a' := ?_) ?_ ?_;rotate_left
       ·show Act.put _ (some 43) _ = _
        simp only [wf_preprocess];rfl
       refine one_ (i := 6) (N := some 46) #[true,true,true,true,true,true,true,true,true,false,true,true,false,true,true,true,false,false] rfl rfl (one_of HT_.out (by kernel_rfl)) (by decide) (fun K hK => ?_);refine goes_ Try.func48 (by kernel_rfl) rfl #[.slice Ao34 t487.length co34,.int .i64 ((rd_T63 t472 x6_1).f1)] (by rfl) rfl rfl (by (try simp only [List.map_toArray,List.map_cons,List.map_nil]); rfl) ?_
       with_reducible refine (impl_PutNum.calls k1 _ _ t487 ((rd_T63 t472 x6_1).f1) t490 _ ?side1 ?side2 A20.out).mono ?_
       (case side1 => repeat (exact (Kd.R_reads' HO489.out).2.2))
       (case side2 => exact (Kd.R_reads' HO489.out).2.1)
       rintro e w35 ⟨v491,rfl,ho0,hb⟩;refine ⟨_,rfl,?_⟩;have n0_ := Aside0.mk (Kd.R_below (by exact HO_5.out) hb);have n1_ := Aside0.mk (Kd.S_below (by exact HO_476001.out) hb);have n2_ := Aside0.mk (Kd.R_below (by exact HL482_4.out) hb);have n3_ := Aside0.mk (Kd.R_elder' (by exact HO486.out) (Kd.R_base ho0) hb);have n4_ := Aside0.mk (Kd.R_elder' (by exact HO489.out) (Kd.R_base ho0) hb);have n5_ := Aside0.mk (Kd.R_lower (Kd.R_new' (Kd.R_new' ho0 (Kd.R_lt (by exact HO486.out))) (Kd.R_lt (by exact HO489.out))) (below_size HB.out));have n6_ := Aside0.mk (blk_below (g := gb475) (o := .cells #[.int .i64 t471,.slice (some ad482) t472.length co11] 31 (0,0)) (by exact BK475.out) hb);have n7_ := Aside0.mk (blk_below (g := gb483) (o := .cells #[.string ((rd_T63 t472 x6_1).f0),.int .i64 ((rd_T63 t472 x6_1).f1),.int .i64 ((rd_T63 t472 x6_1).f2),.int .i64 ((rd_T63 t472 x6_1).f3),.slice A482_4 ((rd_T63 t472 x6_1).f4).length c482_4] 63 (0,0)) (by exact BK483.out) hb);have n8_ := Aside0.mk (below_step HB.out hb);clear HO_5;clear HO_476001;clear HL482_4;clear HO486;clear HO489;clear BK475;clear BK483;clear HB;have HO_5 := n0_;have HO_476001 := n1_;have HL482_4 := n2_;have HO486 := n3_;have HO489 := n4_;have HO492 := n5_;have BK475 := n6_;have BK483 := n7_;have HB := n8_;clear n0_ n1_ n2_ n3_ n4_ n5_ n6_ n7_ n8_
       (try clear hb)
       skip
       skip
       skip
       (try clear ho0)
       obtain ⟨Ao36,co36,eo36⟩ := Kd.R_slice HO492.out
       (subst eo36)
       refine hK.out _ _ ⟨(blk_cell BK483.out 0).trans rfl,(blk_cell BK483.out 1).trans rfl,(blk_cell BK483.out 2).trans rfl,(blk_cell BK483.out 3).trans rfl,(blk_cell BK483.out 4).trans rfl⟩ (fun hHeld => ?_);clear hK K;refine norm_ (a' := ?_) ?_ ?_;rotate_left
       ·show Act.put _ (some 46) _ = _
        simp only [wf_preprocess];rfl
       refine one_ (i := 9) (N := some 49) #[true,true,true,true,true,true,true,true,true,true,true,true,false,true,true,true,false,false] rfl rfl (one_of HT_.out (by kernel_rfl)) (by decide) (fun K hK => ?_);refine goes_ Try.func48 (by kernel_rfl) rfl #[.slice Ao36 t490.length co36,.int .i64 ((rd_T63 t472 x6_1).f2)] (by rfl) rfl rfl (by (try simp only [List.map_toArray,List.map_cons,List.map_nil]); rfl) ?_
       with_reducible refine (impl_PutNum.calls k1 _ _ t490 ((rd_T63 t472 x6_1).f2) t493 _ ?side1 ?side2 A21.out).mono ?_
       (case side1 => repeat (exact (Kd.R_reads' HO492.out).2.2))
       (case side2 => exact (Kd.R_reads' HO492.out).2.1)
       rintro e w37 ⟨v494,rfl,ho0,hb⟩;refine ⟨_,rfl,?_⟩;have n0_ := Aside0.mk (Kd.R_below (by exact HO_5.out) hb);have n1_ := Aside0.mk (Kd.S_below (by exact HO_476001.out) hb);have n2_ := Aside0.mk (Kd.R_below (by exact HL482_4.out) hb);have n3_ := Aside0.mk (Kd.R_elder' (by exact HO486.out) (Kd.R_base ho0) hb);have n4_ := Aside0.mk (Kd.R_elder' (by exact HO489.out) (Kd.R_base ho0) hb);have n5_ := Aside0.mk (Kd.R_elder' (by exact HO492.out) (Kd.R_base ho0) hb);have n6_ := Aside0.mk (Kd.R_lower (Kd.R_new' (Kd.R_new' (Kd.R_new' ho0 (Kd.R_lt (by exact HO486.out))) (Kd.R_lt (by exact HO489.out))) (Kd.R_lt (by exact HO492.out))) (below_size HB.out));have n7_ := Aside0.mk (blk_below (g := gb475) (o := .cells #[.int .i64 t471,.slice (some ad482) t472.length co11] 31 (0,0)) (by exact BK475.out) hb);have n8_ := Aside0.mk (blk_below (g := gb483) (o := .cells #[.string ((rd_T63 t472 x6_1).f0),.int .i64 ((rd_T63 t472 x6_1).f1),.int .i64 ((rd_T63 t472 x6_1).f2),.int .i64 ((rd_T63 t472 x6_1).f3),.slice A482_4 ((rd_T63 t472 x6_1).f4).length c482_4] 63 (0,0)) (by exact BK483.out) hb);have n9_ := Aside0.mk (below_step HB.out hb);clear HO_5;clear HO_476001;clear HL482_4;clear HO486;clear HO489;clear HO492;clear BK475;clear BK483;clear HB;have HO_5 := n0_;have HO_476001 := n1_;have HL482_4 := n2_;have HO486 := n3_;have HO489 := n4_;have HO492 := n5_;have HO495 := n6_;have BK475 := n7_;have BK483 := n8_;have HB := n9_;clear n0_ n1_ n2_ n3_ n4_ n5_ n6_ n7_ n8_ n9_
       (try clear hb)
       skip
       skip
       skip
       (try clear ho0)
       obtain ⟨Ao38,co38,eo38⟩ := Kd.R_slice HO495.out
       (subst eo38)
       refine hK.out _ _ ⟨(blk_cell BK483.out 0).trans rfl,(blk_cell BK483.out 1).trans rfl,(blk_cell BK483.out 2).trans rfl,(blk_cell BK483.out 3).trans rfl,(blk_cell BK483.out 4).trans rfl⟩ (fun hHeld => ?_);clear hK K;refine norm_ (a' := ?_) ?_ ?_;rotate_left
       ·show Act.put _ (some 49) _ = _
        simp only [wf_preprocess];rfl
       refine one_ (i := 12) (N := some 52) #[true,true,true,true,true,true,true,true,true,true,true,true,true,true,true,true,false,false] rfl rfl (one_of HT_.out (by kernel_rfl)) (by decide) (fun K hK => ?_);refine goes_ Try.func48 (by kernel_rfl) rfl #[.slice Ao38 t493.length co38,.int .i64 ((rd_T63 t472 x6_1).f3)] (by rfl) rfl rfl (by (try simp only [List.map_toArray,List.map_cons,List.map_nil]); rfl) ?_
       with_reducible refine (impl_PutNum.calls k1 _ _ t493 ((rd_T63 t472 x6_1).f3) t496 _ ?side1 ?side2 A22.out).mono ?_
       (case side1 => repeat (exact (Kd.R_reads' HO495.out).2.2))
       (case side2 => exact (Kd.R_reads' HO495.out).2.1)
       rintro e w39 ⟨v497,rfl,ho0,hb⟩;refine ⟨_,rfl,?_⟩;have n0_ := Aside0.mk (Kd.R_below (by exact HO_5.out) hb);have n1_ := Aside0.mk (Kd.S_below (by exact HO_476001.out) hb);have n2_ := Aside0.mk (Kd.R_below (by exact HL482_4.out) hb);have n3_ := Aside0.mk (Kd.R_elder' (by exact HO486.out) (Kd.R_base ho0) hb);have n4_ := Aside0.mk (Kd.R_elder' (by exact HO489.out) (Kd.R_base ho0) hb);have n5_ := Aside0.mk (Kd.R_elder' (by exact HO492.out) (Kd.R_base ho0) hb);have n6_ := Aside0.mk (Kd.R_elder' (by exact HO495.out) (Kd.R_base ho0) hb);have n7_ := Aside0.mk (Kd.R_lower (Kd.R_new' (Kd.R_new' (Kd.R_new' (Kd.R_new' ho0 (Kd.R_lt (by exact HO486.out))) (Kd.R_lt (by exact HO489.out))) (Kd.R_lt (by exact HO492.out))) (Kd.R_lt (by exact HO495.out))) (below_size HB.out));have n8_ := Aside0.mk (blk_below (g := gb475) (o := .cells #[.int .i64 t471,.slice (some ad482) t472.length co11] 31 (0,0)) (by exact BK475.out) hb);have n9_ := Aside0.mk (blk_below (g := gb483) (o := .cells #[.string ((rd_T63 t472 x6_1).f0),.int .i64 ((rd_T63 t472 x6_1).f1),.int .i64 ((rd_T63 t472 x6_1).f2),.int .i64 ((rd_T63 t472 x6_1).f3),.slice A482_4 ((rd_T63 t472 x6_1).f4).length c482_4] 63 (0,0)) (by exact BK483.out) hb);have n10_ := Aside0.mk (below_step HB.out hb);clear HO_5;clear HO_476001;clear HL482_4;clear HO486;clear HO489;clear HO492;clear HO495;clear BK475;clear BK483;clear HB;have HO_5 := n0_;have HO_476001 := n1_;have HL482_4 := n2_;have HO486 := n3_;have HO489 := n4_;have HO492 := n5_;have HO495 := n6_;have HO498 := n7_;have BK475 := n8_;have BK483 := n9_;have HB := n10_;clear n0_ n1_ n2_ n3_ n4_ n5_ n6_ n7_ n8_ n9_ n10_
       (try clear hb)
       skip
       skip
       skip
       (try clear ho0)
       obtain ⟨Ao40,co40,eo40⟩ := Kd.R_slice HO498.out
       (subst eo40)
       refine hK.out _ _ ⟨(blk_cell BK483.out 0).trans rfl,(blk_cell BK483.out 1).trans rfl,(blk_cell BK483.out 2).trans rfl,(blk_cell BK483.out 3).trans rfl,(blk_cell BK483.out 4).trans rfl⟩ (fun hHeld => ?_);clear hK K;refine norm_ (a' := ?_) ?_ ?_;rotate_left
       ·show Act.put _ (some 52) _ = _
        simp only [wf_preprocess];rfl
       refine one_ (i := 16) (N := some 56) #[true,true,true,true,true,true,true,true,true,true,true,true,true,true,true,true,true,false] rfl rfl (one_of HT_.out (by kernel_rfl)) (by decide) (fun K hK => ?_);refine goes_ Try.func48 (by kernel_rfl) rfl #[.slice Ao40 t496.length co40,.int .i64 (((rd_T63 t472 x6_1).f4).length : Int)] (by rfl) rfl rfl (by (try simp only [List.map_toArray,List.map_cons,List.map_nil]); rfl) ?_
       with_reducible refine (impl_PutNum.calls k1 _ _ t496 (((rd_T63 t472 x6_1).f4).length : Int) t499 _ ?side1 ?side2 A23.out).mono ?_
       (case side1 => repeat (exact (Kd.R_reads' HO498.out).2.2))
       (case side2 => exact (Kd.R_reads' HO498.out).2.1)
       rintro e w41 ⟨v500,rfl,ho0,hb⟩;refine ⟨_,rfl,?_⟩;have n0_ := Aside0.mk (Kd.R_below (by exact HO_5.out) hb);have n1_ := Aside0.mk (Kd.S_below (by exact HO_476001.out) hb);have n2_ := Aside0.mk (Kd.R_below (by exact HL482_4.out) hb);have n3_ := Aside0.mk (Kd.R_elder' (by exact HO486.out) (Kd.R_base ho0) hb);have n4_ := Aside0.mk (Kd.R_elder' (by exact HO489.out) (Kd.R_base ho0) hb);have n5_ := Aside0.mk (Kd.R_elder' (by exact HO492.out) (Kd.R_base ho0) hb);have n6_ := Aside0.mk (Kd.R_elder' (by exact HO495.out) (Kd.R_base ho0) hb);have n7_ := Aside0.mk (Kd.R_elder' (by exact HO498.out) (Kd.R_base ho0) hb);have n8_ := Aside0.mk (Kd.R_lower (Kd.R_new' (Kd.R_new' (Kd.R_new' (Kd.R_new' (Kd.R_new' ho0 (Kd.R_lt (by exact HO486.out))) (Kd.R_lt (by exact HO489.out))) (Kd.R_lt (by exact HO492.out))) (Kd.R_lt (by exact HO495.out))) (Kd.R_lt (by exact HO498.out))) (below_size HB.out));have n9_ := Aside0.mk (blk_below (g := gb475) (o := .cells #[.int .i64 t471,.slice (some ad482) t472.length co11] 31 (0,0)) (by exact BK475.out) hb);have n10_ := Aside0.mk (blk_below (g := gb483) (o := .cells #[.string ((rd_T63 t472 x6_1).f0),.int .i64 ((rd_T63 t472 x6_1).f1),.int .i64 ((rd_T63 t472 x6_1).f2),.int .i64 ((rd_T63 t472 x6_1).f3),.slice A482_4 ((rd_T63 t472 x6_1).f4).length c482_4] 63 (0,0)) (by exact BK483.out) hb);have n11_ := Aside0.mk (below_step HB.out hb);clear HO_5;clear HO_476001;clear HL482_4;clear HO486;clear HO489;clear HO492;clear HO495;clear HO498;clear BK475;clear BK483;clear HB;have HO_5 := n0_;have HO_476001 := n1_;have HL482_4 := n2_;have HO486 := n3_;have HO489 := n4_;have HO492 := n5_;have HO495 := n6_;have HO498 := n7_;have HO501 := n8_;have BK475 := n9_;have BK483 := n10_;have HB := n11_;clear n0_ n1_ n2_ n3_ n4_ n5_ n6_ n7_ n8_ n9_ n10_ n11_
       (try clear hb)
       skip
       skip
       skip
       (try clear ho0)
       refine hK.out _ _ ⟨(blk_cell BK483.out 0).trans rfl,(blk_cell BK483.out 1).trans rfl,(blk_cell BK483.out 2).trans rfl,(blk_cell BK483.out 3).trans rfl,(blk_cell BK483.out 4).trans rfl⟩ (fun hHeld => ?_);clear hK K;refine norm_ (a' := ?_) ?_ ?_;rotate_left
       ·show Act.put _ (some 56) _ = _
        simp only [wf_preprocess];rfl
       refine pure_ (i := 17) (N := some 8) (v := ?_) (a' := ?_) #[true,true,true,true,true,true,true,true,true,true,true,true,true,true,true,true,true,true] rfl rfl (any_of HT_.out (by kernel_rfl)) (fun _ _ _ h => h) (Or.inl ⟨by rfl,?_⟩) ?_ ?_;rotate_left
       ·intro w';go_simp;with_reducible rfl
       rotate_left
       ·simp only [wf_preprocess];rfl
       refine done_ (done_of HT_.out (by kernel_rfl)) ?_
       try go_wp2
       have HRI := Aside0.mk ((Kd.R_reads' HL482_4.out).2.2)
       go_loopg [8,9] k1 (fun kq v8 v9 w' => ∃ (x8_2 : List Int) (x9_2 : Int),v9 = .int .i64 x9_2 ∧ Aside0 (laws_FnStateRoots.l1 kq t476 x5_1 x6_1 x8_2 x9_2 t471 t472 ((rd_T63 t472 x6_1).f0) ((rd_T63 t472 x6_1).f1) ((rd_T63 t472 x6_1).f2) ((rd_T63 t472 x6_1).f3) ((rd_T63 t472 x6_1).f4) = some r) ∧ Aside0 (kq ≤ k1) ∧ Aside0 (Kd.R Kd.string 9 w' w.heap.size (fun _ => True) u5 x5_1) ∧ Aside0 (Kd.R (Kd.int .u8) 5 w' w.heap.size (fun _ => True) v8 x8_2) ∧ Aside0 (Kd.S k63 63 w' w.heap.size (fun k_ => k_ ≠ gb483) (.slice (some ad482) t472.length co11) t472) ∧ Aside0 (w'.heap[gb475]? = some (.cells #[.int .i64 t471,(.slice (some ad482) t472.length co11)] 31 (0,0))) ∧ Aside0 (w'.heap[gb483]? = some (.cells #[.string ((rd_T63 t472 x6_1).f0),.int .i64 ((rd_T63 t472 x6_1).f1),.int .i64 ((rd_T63 t472 x6_1).f2),.int .i64 ((rd_T63 t472 x6_1).f3),(.slice A482_4 ((rd_T63 t472 x6_1).f4).length c482_4)] 63 (0,0))) ∧ Aside0 (Below w.heap.size w w') ∧ Aside0 (Below w41.heap.size w41 w'))
       case atStart => exact ⟨(t499),(0),(by rfl),H',⟨Nat.le_refl _⟩,⟨by exact HO_5.out⟩,⟨by exact Kd.R_mono HO501.out (fun _ hk => trivial)⟩,⟨by exact HO_476001.out⟩,⟨by exact BK475.out⟩,⟨by exact BK483.out⟩,⟨HB.out⟩,⟨Below.refl _ _⟩⟩
       case round =>
        clear H'
        try clear c1
        try clear c2
        try clear p2
        try clear c3
        try clear c4
        try clear p4
        try clear q4
        try clear hx4
        try clear c7
        try clear c10
        try clear c17
        try clear c17b0
        try clear c18
        try clear c18b0
        try clear c22
        try clear c26
        try clear c28
        try clear hcz10_0
        try clear hcz10_1
        try clear hcz13_0
        try clear hcz13_1
        try clear hcz24_0
        try clear hcz24_1
        try clear hcz27_0
        try clear hcz27_1
        try clear hcz27_2
        try clear hcz27_3
        try clear hcz27_4
        try clear hfz10_0
        try clear hfz10_1
        try clear hfz13_0
        try clear hfz13_1
        try clear hfz24_0
        try clear hfz24_1
        try clear hfz27_0
        try clear hfz27_1
        try clear hfz27_2
        try clear hfz27_3
        try clear hfz27_4
        try clear hx482_0
        try clear hx482_1
        try clear hx482_2
        try clear hx482_3
        try clear hx482_4
        try clear p2
        try clear p482
        try clear q482
        obtain ⟨x8_2,x9_2,rfl,HA,HK2,HO_5,HO_8,HO_476001,BK475,BK483,HB,HBI⟩ := hrel
        cases gk with
        | zero => exact absurd HA.out (by simp [laws_FnStateRoots.l1])
        | succ k2 =>
         have H := HA.out;clear HA;simp only [laws_FnStateRoots.l1] at H
         by_cases c42 : x9_2 < (((rd_T63 t472 x6_1).f4).length : Int)
         ·rw [if_pos c42] at H;have c42b0 : decide (x9_2 < (((rd_T63 t472 x6_1).f4).length : Int)) = true := decide_eq_true c42;clear c42
          by_cases c43 : 0 ≤ x9_2
          ·rw [if_pos c43] at H;have c43b0 : decide (0 ≤ x9_2) = true := decide_eq_true c43;clear c43;replace H := Option.bind_eq_some_iff.mp H;obtain ⟨t503,A440,H⟩ := H;replace H : ((impl_PutNum.f k2 t503 ((rd_T65 ((rd_T63 t472 x6_1).f4) x9_2).f1)).bind fun t507 => (laws_FnStateRoots.l1 k2 t476 x5_1 x6_1 t507 (wrap64 (x9_2 + 1)) t471 t472 ((rd_T63 t472 x6_1).f0) ((rd_T63 t472 x6_1).f1) ((rd_T63 t472 x6_1).f2) ((rd_T63 t472 x6_1).f3) ((rd_T63 t472 x6_1).f4))) = some r := H;have A44 := Aside0.mk A440;clear A440;replace H := Option.bind_eq_some_iff.mp H;obtain ⟨t507,A450,H⟩ := H;replace H : (laws_FnStateRoots.l1 k2 t476 x5_1 x6_1 t507 (wrap64 (x9_2 + 1)) t471 t472 ((rd_T63 t472 x6_1).f0) ((rd_T63 t472 x6_1).f1) ((rd_T63 t472 x6_1).f2) ((rd_T63 t472 x6_1).f3) ((rd_T63 t472 x6_1).f4)) = some r := H;have A45 := Aside0.mk A450;clear A450;have H' := Aside0.mk H;clear H;have hnb46 := NB483_475.out;have hnc46 := NB475_483.out;have hcz47_0 : wr.cell? ⟨gb483,0,none⟩ = some (.string ((rd_T63 t472 x6_1).f0)) := (blk_cell BK483.out 0).trans rfl;have hcz47_1 : wr.cell? ⟨gb483,1,none⟩ = some (.int .i64 ((rd_T63 t472 x6_1).f1)) := (blk_cell BK483.out 1).trans rfl;have hcz47_2 : wr.cell? ⟨gb483,2,none⟩ = some (.int .i64 ((rd_T63 t472 x6_1).f2)) := (blk_cell BK483.out 2).trans rfl;have hcz47_3 : wr.cell? ⟨gb483,3,none⟩ = some (.int .i64 ((rd_T63 t472 x6_1).f3)) := (blk_cell BK483.out 3).trans rfl;have hcz47_4 : wr.cell? ⟨gb483,4,none⟩ = some (.slice A482_4 ((rd_T63 t472 x6_1).f4).length c482_4) := (blk_cell BK483.out 4).trans rfl;have hfz47_0 := blk_frozen BK483.out 0;have hfz47_1 := blk_frozen BK483.out 1;have hfz47_2 := blk_frozen BK483.out 2;have hfz47_3 := blk_frozen BK483.out 3;have hfz47_4 := blk_frozen BK483.out 4
           try go_wp2
           have n0_ := Aside0.mk (Kd.R_drew HO_5.out);have n1_ := Aside0.mk (Kd.R_drew HO_8.out);have n2_ := Aside0.mk (Kd.S_drew HO_476001.out);have n3_ := Aside0.mk (blk_drew BK475.out);have n4_ := Aside0.mk (blk_drew BK483.out);have n5_ := Aside0.mk (below_drew1 HB.out);replace HBI := Aside0.mk (below_drew1 HBI.out);clear HO_5;clear HO_8;clear HO_476001;clear BK475;clear BK483;clear HB;have HO_5 := n0_;have HO_8 := n1_;have HO_476001 := n2_;have BK475 := n3_;have BK483 := n4_;have HB := n5_;clear n0_ n1_ n2_ n3_ n4_ n5_;have p502 : 0 ≤ (x9_2 : Int) := of_decide_eq_true (by (with_reducible assumption));have q502 : x9_2 < (((rd_T63 t472 x6_1).f4).length : Int) := of_decide_eq_true (by (with_reducible assumption));obtain ⟨ad502,e502,hx502_0,hx502_1⟩ := at_T65 HRI.out x9_2 p502 q502;have hw502_1 := hx502_1;have hw502_0 := hx502_0
           cases e502
           replace hx502_0 := (HBI.out.cell (World.block_lt_of_cell? w41 _ hx502_0)).trans hx502_0;replace hx502_1 := (HBI.out.cell (World.block_lt_of_cell? w41 _ hx502_1)).trans hx502_1;replace p502 := eq_true p502;replace q502 := eq_true q502;have p506 : 0 ≤ (x9_2 : Int) := of_decide_eq_true (by (with_reducible assumption));have q506 : x9_2 < (((rd_T63 t472 x6_1).f4).length : Int) := of_decide_eq_true (by (with_reducible assumption));obtain ⟨ad506,e506,hx506_0,hx506_1⟩ := at_T65 HRI.out x9_2 p506 q506;have hw506_1 := hx506_1;have hw506_0 := hx506_0;obtain rfl : ad502 = ad506 := (by injection e506);replace hx506_0 := (HBI.out.cell (World.block_lt_of_cell? w41 _ hx506_0)).trans hx506_0;replace hx506_1 := (HBI.out.cell (World.block_lt_of_cell? w41 _ hx506_1)).trans hx506_1;replace p506 := eq_true p506;replace q506 := eq_true q506;obtain ⟨Ao49,co49,eo49⟩ := Kd.R_slice HO_8.out
           (subst eo49)
           refine start_ (n := 16) (S := fun w' => w'.cell? ⟨gb483,0,none⟩ = some (.string ((rd_T63 t472 x6_1).f0)) ∧ w'.cell? ⟨gb483,1,none⟩ = some (.int .i64 ((rd_T63 t472 x6_1).f1)) ∧ w'.cell? ⟨gb483,2,none⟩ = some (.int .i64 ((rd_T63 t472 x6_1).f2)) ∧ w'.cell? ⟨gb483,3,none⟩ = some (.int .i64 ((rd_T63 t472 x6_1).f3)) ∧ w'.cell? ⟨gb483,4,none⟩ = some (.slice (some ad502) ((rd_T63 t472 x6_1).f4).length c482_4) ∧ w'.cell? (ad502.add ((x9_2).toNat * 2)) = some (.int .i64 ((rd_T65 ((rd_T63 t472 x6_1).f4) x9_2).f0)) ∧ w'.cell? ⟨(ad502.add ((x9_2).toNat * 2)).block,(ad502.add ((x9_2).toNat * 2)).off + 1,none⟩ = some (.int .i64 ((rd_T65 ((rd_T63 t472 x6_1).f4) x9_2).f1)) ∧ w'.cell? (ad502.add ((x9_2).toNat * 2)) = some (.int .i64 ((rd_T65 ((rd_T63 t472 x6_1).f4) x9_2).f0)) ∧ w'.cell? ⟨(ad502.add ((x9_2).toNat * 2)).block,(ad502.add ((x9_2).toNat * 2)).off + 1,none⟩ = some (.int .i64 ((rd_T65 ((rd_T63 t472 x6_1).f4) x9_2).f1))) (ds := []) #[false,false,false,false,false,false,false,false,false,false,false,false,false,false,false,false] (by kernel_rfl) rfl rfl ⟨(blk_cell BK483.out 0).trans rfl,(blk_cell BK483.out 1).trans rfl,(blk_cell BK483.out 2).trans rfl,(blk_cell BK483.out 3).trans rfl,(blk_cell BK483.out 4).trans rfl,((HBI.out.cell (World.block_lt_of_cell? w41 _ hw502_0)).trans hw502_0),((HBI.out.cell (World.block_lt_of_cell? w41 _ hw502_1)).trans hw502_1),((HBI.out.cell (World.block_lt_of_cell? w41 _ hw506_0)).trans hw506_0),((HBI.out.cell (World.block_lt_of_cell? w41 _ hw506_1)).trans hw506_1)⟩ (fun hHeld => ?_); refine with_tabW laws_FnStateRoots.tab16 laws_FnStateRoots.bits16 (fun HT_ HW_ => ?_)
           generalize wr.drew = w48 at HO_5 HO_8 HO_476001 BK475 BK483 HB HBI hx502_0 hx502_1 hx506_0 hx506_1 hHeld ⊢
           refine pure_ (i := 0) (N := some 64) (v := ?_) (a' := ?_) #[true,false,false,false,false,false,false,false,false,false,false,false,false,false,false,false] rfl rfl (any_of HT_.out (by kernel_rfl)) (fun _ _ _ h => h) (Or.inl ⟨by rfl,?_⟩) ?_ ?_;rotate_left
           ·intro w';go_simp;with_reducible rfl
           rotate_left
           ·simp only [wf_preprocess];rfl
           refine pure_ (i := 1) (N := some 65) (v := ?_) (a' := ?_) #[true,true,false,false,false,false,false,false,false,false,false,false,false,false,false,false] rfl rfl (any_of HT_.out (by kernel_rfl)) (fun _ _ _ h => h) (Or.inl ⟨by rfl,?_⟩) ?_ ?_;rotate_left
           ·intro w';go_simp;with_reducible rfl
           rotate_left
           ·simp only [wf_preprocess];rfl
           refine pure_ (i := 3) (N := some 67) (v := ?_) (a' := ?_) #[true,true,false,true,false,false,false,false,false,false,false,false,false,false,false,false] rfl rfl (any_of HT_.out (by kernel_rfl)) (fun _ _ _ h => h) (Or.inl ⟨by rfl,?_⟩) ?_ ?_;rotate_left
           ·intro w';go_simp;with_reducible rfl
           rotate_left
           ·simp only [wf_preprocess];rfl
           refine pure_ (i := 8) (N := some 72) (v := ?_) (a' := ?_) #[true,true,false,true,false,false,false,false,true,false,false,false,false,false,false,false] rfl rfl (any_of HT_.out (by kernel_rfl)) (fun _ _ _ h => h) (Or.inl ⟨by rfl,?_⟩) ?_ ?_;rotate_left
           ·intro w';go_simp;with_reducible rfl
           rotate_left
           ·simp only [wf_preprocess];rfl
           refine pure_ (i := 10) (N := some 74) (v := ?_) (a' := ?_) #[true,true,false,true,false,false,false,false,true,false,true,false,false,false,false,false] rfl rfl (any_of HT_.out (by kernel_rfl)) (fun _ _ _ h => h) (Or.inl ⟨by rfl,?_⟩) ?_ ?_;rotate_left
           ·intro w';go_simp;with_reducible rfl
           rotate_left
           ·simp only [wf_preprocess];rfl
           refine take_ (i := 2) (N := some 66) (v := ?_) (a' := ?_) #[true,true,true,true,false,false,false,false,true,false,true,false,false,false,false,false] rfl rfl (take_ofW HT_.out HW_.out (by kernel_rfl)) (fun _ _ _ h => h) (Or.inl ⟨by rfl,?_⟩) hHeld ?_ ?_;rotate_left
           ·rintro w' ⟨s0,s1,s2,s3,s4,s5,s6,s7,s8⟩;go_simp;with_reducible rfl
           rotate_left
           ·simp only [wf_preprocess];rfl
           refine pure_ (i := 4) (N := some 68) (v := ?_) (a' := ?_) #[true,true,true,true,true,false,false,false,true,false,true,false,false,false,false,false] rfl rfl (any_of HT_.out (by kernel_rfl)) (fun _ _ _ h => h) (Or.inl ⟨by rfl,?_⟩) ?_ ?_;rotate_left
           ·intro w';go_simp;with_reducible rfl
           rotate_left
           ·simp only [wf_preprocess];rfl
           refine pure_ (i := 5) (N := some 69) (v := ?_) (a' := ?_) #[true,true,true,true,true,true,false,false,true,false,true,false,false,false,false,false] rfl rfl (any_of HT_.out (by kernel_rfl)) (fun _ _ _ h => h) (Or.inl ⟨by rfl,?_⟩) ?_ ?_;rotate_left
           ·intro w';go_simp;with_reducible rfl
           rotate_left
           ·simp only [wf_preprocess];rfl
           refine take_ (i := 6) (N := some 70) (v := ?_) (a' := ?_) #[true,true,true,true,true,true,true,false,true,false,true,false,false,false,false,false] rfl rfl (take_ofW HT_.out HW_.out (by kernel_rfl)) (fun _ _ _ h => h) (Or.inl ⟨by rfl,?_⟩) hHeld ?_ ?_;rotate_left
           ·rintro w' ⟨s0,s1,s2,s3,s4,s5,s6,s7,s8⟩;go_simp;with_reducible rfl
           rotate_left
           ·simp only [wf_preprocess];rfl
           refine take_ (i := 9) (N := some 73) (v := ?_) (a' := ?_) #[true,true,true,true,true,true,true,false,true,true,true,false,false,false,false,false] rfl rfl (take_ofW HT_.out HW_.out (by kernel_rfl)) (fun _ _ _ h => h) (Or.inl ⟨by rfl,?_⟩) hHeld ?_ ?_;rotate_left
           ·rintro w' ⟨s0,s1,s2,s3,s4,s5,s6,s7,s8⟩;go_simp;with_reducible rfl
           rotate_left
           ·simp only [wf_preprocess];rfl
           refine pure_ (i := 11) (N := some 75) (v := ?_) (a' := ?_) #[true,true,true,true,true,true,true,false,true,true,true,true,false,false,false,false] rfl rfl (any_of HT_.out (by kernel_rfl)) (fun _ _ _ h => h) (Or.inl ⟨by rfl,?_⟩) ?_ ?_;rotate_left
           ·intro w';go_simp;with_reducible rfl
           rotate_left
           ·simp only [wf_preprocess];rfl
           refine pure_ (i := 12) (N := some 76) (v := ?_) (a' := ?_) #[true,true,true,true,true,true,true,false,true,true,true,true,true,false,false,false] rfl rfl (any_of HT_.out (by kernel_rfl)) (fun _ _ _ h => h) (Or.inl ⟨by rfl,?_⟩) ?_ ?_;rotate_left
           ·intro w';go_simp;with_reducible rfl
           rotate_left
           ·simp only [wf_preprocess];rfl
           refine take_ (i := 13) (N := some 77) (v := ?_) (a' := ?_) #[true,true,true,true,true,true,true,false,true,true,true,true,true,true,false,false] rfl rfl (take_ofW HT_.out HW_.out (by kernel_rfl)) (fun _ _ _ h => h) (Or.inl ⟨by rfl,?_⟩) hHeld ?_ ?_;rotate_left
           ·rintro w' ⟨s0,s1,s2,s3,s4,s5,s6,s7,s8⟩;go_simp;with_reducible rfl
           rotate_left
           ·simp only [wf_preprocess];rfl
           refine one_ (i := 7) (N := some 71) #[true,true,true,true,true,true,true,true,true,true,true,true,true,true,false,false] rfl rfl (one_of HT_.out (by kernel_rfl)) (by decide) (fun K hK => ?_);refine goes_ Try.func48 (by kernel_rfl) rfl #[.slice Ao49 x8_2.length co49,.int .i64 ((rd_T65 ((rd_T63 t472 x6_1).f4) x9_2).f0)] (by rfl) rfl rfl (by (try simp only [List.map_toArray,List.map_cons,List.map_nil]); rfl) ?_
           with_reducible refine (impl_PutNum.calls k2 _ _ x8_2 ((rd_T65 ((rd_T63 t472 x6_1).f4) x9_2).f0) t503 _ ?side1 ?side2 A44.out).mono ?_
           (case side1 => repeat (exact (Kd.R_reads' HO_8.out).2.2))
           (case side2 => exact (Kd.R_reads' HO_8.out).2.1)
           rintro e w50 ⟨v504,rfl,ho0,hb⟩;refine ⟨_,rfl,?_⟩;have n0_ := Aside0.mk (Kd.R_below (by exact HO_5.out) hb);have n1_ := Aside0.mk (Kd.R_elder' (by exact HO_8.out) (Kd.R_base ho0) hb);have n2_ := Aside0.mk (Kd.S_below (by exact HO_476001.out) hb);have n3_ := Aside0.mk (Kd.R_lower (Kd.R_new' ho0 (Kd.R_lt (by exact HO_8.out))) (below_size HB.out));have n4_ := Aside0.mk (blk_below (g := gb475) (o := .cells #[.int .i64 t471,.slice (some ad482) t472.length co11] 31 (0,0)) (by exact BK475.out) hb);have n5_ := Aside0.mk (blk_below (g := gb483) (o := .cells #[.string ((rd_T63 t472 x6_1).f0),.int .i64 ((rd_T63 t472 x6_1).f1),.int .i64 ((rd_T63 t472 x6_1).f2),.int .i64 ((rd_T63 t472 x6_1).f3),.slice (some ad502) ((rd_T63 t472 x6_1).f4).length c482_4] 63 (0,0)) (by exact BK483.out) hb);have n6_ := Aside0.mk (below_step HB.out hb);replace HBI := Aside0.mk (below_step HBI.out hb);clear HO_5;clear HO_8;clear HO_476001;clear BK475;clear BK483;clear HB;have HO_5 := n0_;have HO_8 := n1_;have HO_476001 := n2_;have HO505 := n3_;have BK475 := n4_;have BK483 := n5_;have HB := n6_;clear n0_ n1_ n2_ n3_ n4_ n5_ n6_
           (try clear hb)
           skip
           skip
           skip
           (try clear ho0)
           obtain ⟨Ao51,co51,eo51⟩ := Kd.R_slice HO505.out
           (subst eo51)
           refine hK.out _ _ ⟨(blk_cell BK483.out 0).trans rfl,(blk_cell BK483.out 1).trans rfl,(blk_cell BK483.out 2).trans rfl,(blk_cell BK483.out 3).trans rfl,(blk_cell BK483.out 4).trans rfl,((HBI.out.cell (World.block_lt_of_cell? w41 _ hw502_0)).trans hw502_0),((HBI.out.cell (World.block_lt_of_cell? w41 _ hw502_1)).trans hw502_1),((HBI.out.cell (World.block_lt_of_cell? w41 _ hw506_0)).trans hw506_0),((HBI.out.cell (World.block_lt_of_cell? w41 _ hw506_1)).trans hw506_1)⟩ (fun hHeld => ?_);clear hK K;refine norm_ (a' := ?_) ?_ ?_;rotate_left
           ·show Act.put _ (some 71) _ = _
            simp only [wf_preprocess];rfl
           refine one_ (i := 14) (N := some 78) #[true,true,true,true,true,true,true,true,true,true,true,true,true,true,true,false] rfl rfl (one_of HT_.out (by kernel_rfl)) (by decide) (fun K hK => ?_);refine goes_ Try.func48 (by kernel_rfl) rfl #[.slice Ao51 t503.length co51,.int .i64 ((rd_T65 ((rd_T63 t472 x6_1).f4) x9_2).f1)] (by rfl) rfl rfl (by (try simp only [List.map_toArray,List.map_cons,List.map_nil]); rfl) ?_
           with_reducible refine (impl_PutNum.calls k2 _ _ t503 ((rd_T65 ((rd_T63 t472 x6_1).f4) x9_2).f1) t507 _ ?side1 ?side2 A45.out).mono ?_
           (case side1 => repeat (exact (Kd.R_reads' HO505.out).2.2))
           (case side2 => exact (Kd.R_reads' HO505.out).2.1)
           rintro e w52 ⟨v508,rfl,ho0,hb⟩;refine ⟨_,rfl,?_⟩;have n0_ := Aside0.mk (Kd.R_below (by exact HO_5.out) hb);have n1_ := Aside0.mk (Kd.R_elder' (by exact HO_8.out) (Kd.R_base ho0) hb);have n2_ := Aside0.mk (Kd.S_below (by exact HO_476001.out) hb);have n3_ := Aside0.mk (Kd.R_elder' (by exact HO505.out) (Kd.R_base ho0) hb);have n4_ := Aside0.mk (Kd.R_lower (Kd.R_new' (Kd.R_new' ho0 (Kd.R_lt (by exact HO_8.out))) (Kd.R_lt (by exact HO505.out))) (below_size HB.out));have n5_ := Aside0.mk (blk_below (g := gb475) (o := .cells #[.int .i64 t471,.slice (some ad482) t472.length co11] 31 (0,0)) (by exact BK475.out) hb);have n6_ := Aside0.mk (blk_below (g := gb483) (o := .cells #[.string ((rd_T63 t472 x6_1).f0),.int .i64 ((rd_T63 t472 x6_1).f1),.int .i64 ((rd_T63 t472 x6_1).f2),.int .i64 ((rd_T63 t472 x6_1).f3),.slice (some ad502) ((rd_T63 t472 x6_1).f4).length c482_4] 63 (0,0)) (by exact BK483.out) hb);have n7_ := Aside0.mk (below_step HB.out hb);replace HBI := Aside0.mk (below_step HBI.out hb);clear HO_5;clear HO_8;clear HO_476001;clear HO505;clear BK475;clear BK483;clear HB;have HO_5 := n0_;have HO_8 := n1_;have HO_476001 := n2_;have HO505 := n3_;have HO509 := n4_;have BK475 := n5_;have BK483 := n6_;have HB := n7_;clear n0_ n1_ n2_ n3_ n4_ n5_ n6_ n7_
           (try clear hb)
           skip
           skip
           skip
           (try clear ho0)
           refine hK.out _ _ ⟨(blk_cell BK483.out 0).trans rfl,(blk_cell BK483.out 1).trans rfl,(blk_cell BK483.out 2).trans rfl,(blk_cell BK483.out 3).trans rfl,(blk_cell BK483.out 4).trans rfl,((HBI.out.cell (World.block_lt_of_cell? w41 _ hw502_0)).trans hw502_0),((HBI.out.cell (World.block_lt_of_cell? w41 _ hw502_1)).trans hw502_1),((HBI.out.cell (World.block_lt_of_cell? w41 _ hw506_0)).trans hw506_0),((HBI.out.cell (World.block_lt_of_cell? w41 _ hw506_1)).trans hw506_1)⟩ (fun hHeld => ?_);clear hK K;refine norm_ (a' := ?_) ?_ ?_;rotate_left
           ·show Act.put _ (some 78) _ = _
            simp only [wf_preprocess];rfl
           refine pure_ (i := 15) (N := some 8) (v := ?_) (a' := ?_) #[true,true,true,true,true,true,true,true,true,true,true,true,true,true,true,true] rfl rfl (any_of HT_.out (by kernel_rfl)) (fun _ _ _ h => h) (Or.inl ⟨by rfl,?_⟩) ?_ ?_;rotate_left
           ·intro w';go_simp;with_reducible rfl
           rotate_left
           ·simp only [wf_preprocess];rfl
           refine done_ (done_of HT_.out (by kernel_rfl)) ?_
           try go_wp2
           go_roundg k2
           case measure => have := HK1.out; have := HK2.out; omega
           case rel => exact ⟨(t507),(wrap64 (x9_2 + 1)),(by rfl),H',⟨by have := HK1.out; have := HK2.out; omega⟩,⟨by exact HO_5.out⟩,⟨by exact Kd.R_mono HO509.out (fun _ hk => trivial)⟩,⟨by exact HO_476001.out⟩,⟨by exact BK475.out⟩,⟨by exact BK483.out⟩,⟨HB.out⟩,⟨HBI.out⟩⟩
          ·rw [if_neg c43] at H;exact absurd H (by simp)
         ·rw [if_neg c42] at H;have c42b0 : decide (x9_2 < (((rd_T63 t472 x6_1).f4).length : Int)) = false := decide_eq_false c42;clear c42
          by_cases c53 : x5_1.length < 8796093022208
          ·rw [if_pos c53] at H;have LMc53 := Aside0.mk c53;clear c53;obtain ⟨y510,hy510⟩ : ∃ y_ : List ByteArray,y_ = (x5_1 ++ [strOfNums x8_2]) := ⟨_,rfl⟩
           replace H : (laws_FnStateRoots.l0 k2 t476 y510 (wrap64 (x6_1 + 1)) t471 t472) = some r := by (rw [hy510]; with_reducible exact H)
           have Ny510 := Aside0.mk hy510;clear hy510;have H' := Aside0.mk H;clear H;have hnb54 := NB483_475.out;have hnc54 := NB475_483.out;have hcz55_0 : wr.cell? ⟨gb483,0,none⟩ = some (.string ((rd_T63 t472 x6_1).f0)) := (blk_cell BK483.out 0).trans rfl;have hcz55_1 : wr.cell? ⟨gb483,1,none⟩ = some (.int .i64 ((rd_T63 t472 x6_1).f1)) := (blk_cell BK483.out 1).trans rfl;have hcz55_2 : wr.cell? ⟨gb483,2,none⟩ = some (.int .i64 ((rd_T63 t472 x6_1).f2)) := (blk_cell BK483.out 2).trans rfl;have hcz55_3 : wr.cell? ⟨gb483,3,none⟩ = some (.int .i64 ((rd_T63 t472 x6_1).f3)) := (blk_cell BK483.out 3).trans rfl;have hcz55_4 : wr.cell? ⟨gb483,4,none⟩ = some (.slice A482_4 ((rd_T63 t472 x6_1).f4).length c482_4) := (blk_cell BK483.out 4).trans rfl;have hfz55_0 := blk_frozen BK483.out 0;have hfz55_1 := blk_frozen BK483.out 1;have hfz55_2 := blk_frozen BK483.out 2;have hfz55_3 := blk_frozen BK483.out 3;have hfz55_4 := blk_frozen BK483.out 4;have hcv56 := own_string (P := Try.prog) Try.underlying40 Try.underlying5 Try.underlying9 (Kd.own_of_R HO_8.out)
           go_wp2_with (((with_reducible refine gate_builtin (b := .append) (xs := #[.tmp 79,.tmp 82]) rfl ?_); at_builtin; refine Kd.R_append Kd.string (w0 := w) w.heap.size rfl (.tmp 79) (.tmp 82) 74 9 (.string ⟨#[]⟩) 16 rfl Try.underlying74 info9 rfl (by decide) (by omega) u5 x5_1 (strOfNums x8_2) [.string (strOfNums x8_2)] (fun _ => True) (fun _ => False) rfl rfl ?aP (fun _ hk => hk.elim) ?aF ?aO ?aB ?aS ?aL ?_; (case aP => exact rfl); (case aB => exact HB.out); (case aF => exact (fun _ _ => trivial)); (case aO => exact (by exact HO_5.out)); (case aS => exact (below_size HB.out)); (case aL => have := LMc53.out; omega); intro v511 w57 ho hb hg hat; rw [← Ny510.out] at ho; have n0_ := Aside0.mk (Kd.R_over' (by exact HO_8.out) (Kd.R_typed (by exact HO_5.out)) (by decide) hg); have n1_ := Aside0.mk (Kd.S_over' (by exact HO_476001.out) (Kd.R_typed (by exact HO_5.out)) (by decide) hg); have n2_ := Aside0.mk (blk_grown (g := gb475) (o := .cells #[.int .i64 t471,.slice (some ad482) t472.length co11] 31 (0,0)) (by exact BK475.out) hg (Kd.R_ne HO_5.out BK475.out (by decide))); have n3_ := Aside0.mk (blk_grown (g := gb483) (o := .cells #[.string ((rd_T63 t472 x6_1).f0),.int .i64 ((rd_T63 t472 x6_1).f1),.int .i64 ((rd_T63 t472 x6_1).f2),.int .i64 ((rd_T63 t472 x6_1).f3),.slice A482_4 ((rd_T63 t472 x6_1).f4).length c482_4] 63 (0,0)) (by exact BK483.out) hg (Kd.R_ne HO_5.out BK483.out (by decide))); have n4_ := Aside0.mk (hb); have n5_ := Aside0.mk (ho); clear HO_8; clear HO_476001; clear BK475; clear BK483; clear HB; clear HO_5; have HO_8 := n0_; have HO_476001 := n1_; have BK475 := n2_; have BK483 := n3_; have HB := n4_; have HO512 := n5_; clear n0_ n1_ n2_ n3_ n4_ n5_; clear ho hb hg hat))
           go_roundg k2
           case measure => have := HK1.out; have := HK2.out; omega
           case rel => exact ⟨(y510),(wrap64 (x6_1 + 1)),(by rfl),H',⟨by have := HK1.out; have := HK2.out; omega⟩,⟨by exact HO512.out⟩,⟨by exact Kd.S_mono HO_476001.out (fun _ hk => trivial)⟩,⟨by exact BK475.out⟩,⟨HB.out⟩⟩
          ·rw [if_neg c53] at H;exact absurd H (by simp)
      ·rw [if_neg c18] at H;exact absurd H (by simp)
     ·rw [if_neg c17] at H;have c17b0 : decide (x6_1 < (t472.length : Int)) = false := decide_eq_false c17;clear c17;have H' := Aside0.mk H;clear H;have hcz58_0 : wr.cell? ⟨gb475,0,none⟩ = some (.int .i64 t471) := (blk_cell BK475.out 0).trans rfl;have hcz58_1 : wr.cell? ⟨gb475,1,none⟩ = some (.slice Ao11 t472.length co11) := (blk_cell BK475.out 1).trans rfl;have hfz58_0 := blk_frozen BK475.out 0;have hfz58_1 := blk_frozen BK475.out 1;go_wp2
      go_loopg [10] k1 (fun kq v10 w' => ∃ (x10_2 : Int),v10 = .int .i64 x10_2 ∧ Aside0 (laws_FnStateRoots.l2 kq t476 x5_1 x10_2 = some r) ∧ Aside0 (kq ≤ k1) ∧ Aside0 (Kd.R Kd.string 9 w' w.heap.size (fun _ => True) u5 x5_1) ∧ Aside0 (Kd.S k63 63 w' w.heap.size (fun _ => True) (.slice Ao11 t472.length co11) t472) ∧ Aside0 (w'.heap[gb475]? = some (.cells #[.int .i64 t471,(.slice Ao11 t472.length co11)] 31 (0,0))) ∧ Aside0 (Below w.heap.size w w'))
      case atStart => exact ⟨(0),(by rfl),H',⟨Nat.le_refl _⟩,⟨by exact HO_5.out⟩,⟨by exact HO_476001.out⟩,⟨by exact BK475.out⟩,⟨HB.out⟩⟩
      case round =>
       clear H'
       try clear c1
       try clear c2
       try clear p2
       try clear c3
       try clear c4
       try clear p4
       try clear q4
       try clear hx4
       try clear c5
       try clear p5
       try clear q5
       try clear hx5
       try clear hcv5
       try clear p6
       try clear c7
       try clear c10
       try clear c17
       try clear c17b0
       try clear c18
       try clear c18b0
       try clear c22
       try clear c26
       try clear c28
       try clear c42
       try clear c42b0
       try clear c43
       try clear c43b0
       try clear c46
       try clear c48
       try clear p48
       try clear q48
       try clear hx48
       try clear p50
       try clear q50
       try clear hx50
       try clear c53
       try clear c54
       try clear hcv56
       try clear hcz10_0
       try clear hcz10_1
       try clear hcz13_0
       try clear hcz13_1
       try clear hcz24_0
       try clear hcz24_1
       try clear hcz27_0
       try clear hcz27_1
       try clear hcz27_2
       try clear hcz27_3
       try clear hcz27_4
       try clear hcz47_0
       try clear hcz47_1
       try clear hcz47_2
       try clear hcz47_3
       try clear hcz47_4
       try clear hcz55_0
       try clear hcz55_1
       try clear hcz55_2
       try clear hcz55_3
       try clear hcz55_4
       try clear hcz58_0
       try clear hcz58_1
       try clear hfz10_0
       try clear hfz10_1
       try clear hfz13_0
       try clear hfz13_1
       try clear hfz24_0
       try clear hfz24_1
       try clear hfz27_0
       try clear hfz27_1
       try clear hfz27_2
       try clear hfz27_3
       try clear hfz27_4
       try clear hfz47_0
       try clear hfz47_1
       try clear hfz47_2
       try clear hfz47_3
       try clear hfz47_4
       try clear hfz55_0
       try clear hfz55_1
       try clear hfz55_2
       try clear hfz55_3
       try clear hfz55_4
       try clear hfz58_0
       try clear hfz58_1
       try clear hx482_0
       try clear hx482_1
       try clear hx482_2
       try clear hx482_3
       try clear hx482_4
       try clear hx502_0
       try clear hx502_1
       try clear hx506_0
       try clear hx506_1
       try clear p2
       try clear p4
       try clear p482
       try clear p502
       try clear p506
       try clear q4
       try clear q482
       try clear q502
       try clear q506
       obtain ⟨x10_2,rfl,HA,HK2,HO_5,HO_476001,BK475,HB⟩ := hrel
       cases gk with
       | zero => exact absurd HA.out (by simp [laws_FnStateRoots.l2])
       | succ k2 =>
        have H := HA.out;clear HA;simp only [laws_FnStateRoots.l2] at H
        by_cases c59 : x10_2 < (x5_1.length : Int)
        ·rw [if_pos c59] at H;have c59b0 : decide (x10_2 < (x5_1.length : Int)) = true := decide_eq_true c59;clear c59
         by_cases c60 : 0 ≤ x10_2
         ·rw [if_pos c60] at H;have c60b0 : decide (0 ≤ x10_2) = true := decide_eq_true c60;clear c60;replace H := Option.bind_eq_some_iff.mp H;obtain ⟨t514,A610,H⟩ := H;replace H : ((impl_CheckPath.f k2 (rdOf ByteArray.empty x5_1 x10_2) x10_2 (x5_1.length : Int) t514 t476).bind fun t517 => (if t517 = true then (laws_FnStateRoots.l2 k2 t476 x5_1 (wrap64 (x10_2 + 1))) else (some false))) = some r := H;have A61 := Aside0.mk A610;clear A610;replace H := Option.bind_eq_some_iff.mp H;obtain ⟨t517,A620,H⟩ := H;replace H : (if t517 = true then (laws_FnStateRoots.l2 k2 t476 x5_1 (wrap64 (x10_2 + 1))) else (some false)) = some r := H;have A62 := Aside0.mk A620;clear A620
          by_cases c63 : t517 = true
          ·subst c63
           have H1 : (laws_FnStateRoots.l2 k2 t476 x5_1 (wrap64 (x10_2 + 1))) = some r := by rw [if_pos rfl] at H; exact H
           clear H;have H := H1;clear H1;have H' := Aside0.mk H;clear H;obtain ⟨Ao64,co64,eo64⟩ := Kd.R_slice HO_5.out;subst eo64
           try go_wp2
           have n0_ := Aside0.mk (Kd.R_drew HO_5.out);have n1_ := Aside0.mk (Kd.S_drew HO_476001.out);have n2_ := Aside0.mk (blk_drew BK475.out);have n3_ := Aside0.mk (below_drew1 HB.out);clear HO_5;clear HO_476001;clear BK475;clear HB;have HO_5 := n0_;have HO_476001 := n1_;have BK475 := n2_;have HB := n3_;clear n0_ n1_ n2_ n3_;have p513 : 0 ≤ (x10_2 : Int) := of_decide_eq_true (by (with_reducible assumption));have q513 : x10_2 < (x5_1.length : Int) := of_decide_eq_true (by (with_reducible assumption));obtain ⟨ad513,e513,hx513_0⟩ := Kd.at_string (Kd.R_reads' HO_5.out).2.2 x10_2 p513 q513
           cases e513
           replace p513 := eq_true p513;replace q513 := eq_true q513;refine start_ (n := 13) (S := fun w' => w'.cell? (ad513.add (x10_2).toNat) = some (.string (rdOf ByteArray.empty x5_1 x10_2))) (ds := []) #[false,false,false,false,false,false,false,false,false,false,false,false,false] (by kernel_rfl) rfl rfl (hx513_0) (fun hHeld => ?_); refine with_tabW laws_FnStateRoots.tab21 laws_FnStateRoots.bits21 (fun HT_ HW_ => ?_)
           generalize wr.drew = w65 at HO_5 HO_476001 BK475 HB hx513_0 hHeld ⊢
           refine pure_ (i := 0) (N := some 90) (v := ?_) (a' := ?_) #[true,false,false,false,false,false,false,false,false,false,false,false,false] rfl rfl (any_of HT_.out (by kernel_rfl)) (fun _ _ _ h => h) (Or.inl ⟨by rfl,?_⟩) ?_ ?_;rotate_left
           ·intro w';go_simp;with_reducible rfl
           rotate_left
           ·simp only [wf_preprocess];rfl
           refine pure_ (i := 1) (N := some 91) (v := ?_) (a' := ?_) #[true,true,false,false,false,false,false,false,false,false,false,false,false] rfl rfl (any_of HT_.out (by kernel_rfl)) (fun _ _ _ h => h) (Or.inl ⟨by rfl,?_⟩) ?_ ?_;rotate_left
           ·intro w';go_simp;with_reducible rfl
           rotate_left
           ·simp only [wf_preprocess];rfl
           refine pure_ (i := 2) (N := some 92) (v := ?_) (a' := ?_) #[true,true,true,false,false,false,false,false,false,false,false,false,false] rfl rfl (any_of HT_.out (by kernel_rfl)) (fun _ _ _ h => h) (Or.inl ⟨by rfl,?_⟩) ?_ ?_;rotate_left
           ·intro w';go_simp;with_reducible rfl
           rotate_left
           ·simp only [wf_preprocess];rfl
           refine pure_ (i := 4) (N := some 94) (v := ?_) (a' := ?_) #[true,true,true,false,true,false,false,false,false,false,false,false,false] rfl rfl (any_of HT_.out (by kernel_rfl)) (fun _ _ _ h => h) (Or.inl ⟨by rfl,?_⟩) ?_ ?_;rotate_left
           ·intro w';go_simp;with_reducible rfl
           rotate_left
           ·simp only [wf_preprocess];rfl
           refine pure_ (i := 5) (N := some 95) (v := ?_) (a' := ?_) #[true,true,true,false,true,true,false,false,false,false,false,false,false] rfl rfl (any_of HT_.out (by kernel_rfl)) (fun _ _ _ h => h) (Or.inl ⟨by rfl,?_⟩) ?_ ?_;rotate_left
           ·intro w';go_simp;with_reducible rfl
           rotate_left
           ·simp only [wf_preprocess];rfl
           refine pure_ (i := 6) (N := some 96) (v := ?_) (a' := ?_) #[true,true,true,false,true,true,true,false,false,false,false,false,false] rfl rfl (any_of HT_.out (by kernel_rfl)) (fun _ _ _ h => h) (Or.inl ⟨by rfl,?_⟩) ?_ ?_;rotate_left
           ·intro w';go_simp;with_reducible rfl
           rotate_left
           ·simp only [wf_preprocess];rfl
           refine pure_ (i := 7) (N := some 97) (v := ?_) (a' := ?_) #[true,true,true,false,true,true,true,true,false,false,false,false,false] rfl rfl (any_of HT_.out (by kernel_rfl)) (fun _ _ _ h => h) (Or.inl ⟨by rfl,?_⟩) ?_ ?_;rotate_left
           ·intro w';go_simp;with_reducible rfl
           rotate_left
           ·simp only [wf_preprocess];rfl
           refine pure_ (i := 8) (N := some 98) (v := ?_) (a' := ?_) #[true,true,true,false,true,true,true,true,true,false,false,false,false] rfl rfl (any_of HT_.out (by kernel_rfl)) (fun _ _ _ h => h) (Or.inl ⟨by rfl,?_⟩) ?_ ?_;rotate_left
           ·intro w';go_simp;with_reducible rfl
           rotate_left
           ·simp only [wf_preprocess];rfl
           refine pure_ (i := 10) (N := some 100) (v := ?_) (a' := ?_) #[true,true,true,false,true,true,true,true,true,false,true,false,false] rfl rfl (any_of HT_.out (by kernel_rfl)) (fun _ _ _ h => h) (Or.inl ⟨by rfl,?_⟩) ?_ ?_;rotate_left
           ·intro w';go_simp;with_reducible rfl
           rotate_left
           ·simp only [wf_preprocess];rfl
           refine take_ (i := 3) (N := some 93) (v := ?_) (a' := ?_) #[true,true,true,true,true,true,true,true,true,false,true,false,false] rfl rfl (take_ofW HT_.out HW_.out (by kernel_rfl)) (fun _ _ _ h => h) (Or.inl ⟨by rfl,?_⟩) hHeld ?_ ?_;rotate_left
           ·intro w' s0;go_simp;with_reducible rfl
           rotate_left
           ·simp only [wf_preprocess];rfl
           refine one_ (i := 9) (N := some 99) #[true,true,true,true,true,true,true,true,true,true,true,false,false] rfl rfl (one_of HT_.out (by kernel_rfl)) (by decide) (fun K hK => ?_);refine goes_ Try.func51 (by kernel_rfl) rfl #[.slice (some ad513) x5_1.length co64,.int .i64 x10_2] (by rfl) rfl rfl (by (try simp only [List.map_toArray,List.map_cons,List.map_nil]); rfl) ?_
           with_reducible refine (impl_PathOf.calls k2 _ _ x5_1 x10_2 t514 _ ?side1 ?side2 A61.out).mono ?_
           (case side1 => repeat (exact (Kd.R_reads' HO_5.out).2.2))
           (case side2 => exact (Kd.R_reads' HO_5.out).2.1)
           rintro e w66 ⟨v515,rfl,ho0,hb⟩;have HS0_ := (hb.cell (World.block_lt_of_cell? _ _ (hHeld))).trans (hHeld);refine ⟨_,rfl,?_⟩;have n0_ := Aside0.mk (Kd.R_elder' (by exact HO_5.out) (Kd.R_base ho0) hb);have n1_ := Aside0.mk (Kd.S_below (by exact HO_476001.out) hb);have n2_ := Aside0.mk (Kd.R_lower (Kd.R_new' ho0 (Kd.R_lt (by exact HO_5.out))) (below_size HB.out));have n3_ := Aside0.mk (blk_below (g := gb475) (o := .cells #[.int .i64 t471,.slice Ao11 t472.length co11] 31 (0,0)) (by exact BK475.out) hb);have n4_ := Aside0.mk (below_step HB.out hb);clear HO_5;clear HO_476001;clear BK475;clear HB;have HO_5 := n0_;have HO_476001 := n1_;have HO516 := n2_;have BK475 := n3_;have HB := n4_;clear n0_ n1_ n2_ n3_ n4_
           (try clear hb)
           skip
           skip
           skip
           (try clear ho0)
           obtain ⟨Ao67,co67,eo67⟩ := Kd.R_slice HO516.out
           (subst eo67)
           refine hK.out _ _ (HS0_) (fun hHeld => ?_);clear hK K;refine norm_ (a' := ?_) ?_ ?_;rotate_left
           ·show Act.put _ (some 99) _ = _
            simp only [wf_preprocess];rfl
           refine one_ (i := 11) (N := some 101) #[true,true,true,true,true,true,true,true,true,true,true,true,false] rfl rfl (one_of HT_.out (by kernel_rfl)) (by decide) (fun K hK => ?_);refine goes_ Try.func50 (by kernel_rfl) rfl #[.string (rdOf ByteArray.empty x5_1 x10_2),.int .i64 x10_2,.int .i64 (x5_1.length : Int),.slice Ao67 t514.length co67,.string t476] (by rfl) rfl rfl (by (try simp only [List.map_toArray,List.map_cons,List.map_nil]); rfl) ?_
           with_reducible refine (impl_CheckPath.calls k2 (rdOf ByteArray.empty x5_1 x10_2) x10_2 (x5_1.length : Int) _ _ t514 t476 true _ ?side1 ?side2 A62.out).mono ?_
           (case side1 => repeat (exact (Kd.R_reads' HO516.out).2.2))
           (case side2 => exact (Kd.R_reads' HO516.out).2.1)
           rintro e w68 ⟨rfl,hb⟩;have HS0_ := (hb.cell (World.block_lt_of_cell? _ _ (hHeld))).trans (hHeld);refine ⟨_,rfl,?_⟩;have n0_ := Aside0.mk (Kd.R_below (by exact HO_5.out) hb);have n1_ := Aside0.mk (Kd.S_below (by exact HO_476001.out) hb);have n2_ := Aside0.mk (Kd.R_below (by exact HO516.out) hb);have n3_ := Aside0.mk (blk_below (g := gb475) (o := .cells #[.int .i64 t471,.slice Ao11 t472.length co11] 31 (0,0)) (by exact BK475.out) hb);have n4_ := Aside0.mk (below_step HB.out hb);clear HO_5;clear HO_476001;clear HO516;clear BK475;clear HB;have HO_5 := n0_;have HO_476001 := n1_;have HO516 := n2_;have BK475 := n3_;have HB := n4_;clear n0_ n1_ n2_ n3_ n4_
           (try clear hb)
           skip
           skip
           skip
           refine hK.out _ _ (HS0_) (fun hHeld => ?_);clear hK K;refine norm_ (a' := ?_) ?_ ?_;rotate_left
           ·show Act.put _ (some 101) _ = _
            simp only [wf_preprocess];rfl
           refine pure_ (i := 12) (N := some 102) (v := ?_) (a' := ?_) #[true,true,true,true,true,true,true,true,true,true,true,true,true] rfl rfl (any_of HT_.out (by kernel_rfl)) (fun _ _ _ h => h) (Or.inl ⟨by rfl,?_⟩) ?_ ?_;rotate_left
           ·intro w';go_simp;with_reducible rfl
           rotate_left
           ·simp only [wf_preprocess];rfl
           refine done_ (done_of HT_.out (by kernel_rfl)) ?_
           try go_wp2
           go_roundg k2
           case measure => have := HK1.out; have := HK2.out; omega
           case rel => exact ⟨(wrap64 (x10_2 + 1)),(by rfl),H',⟨by have := HK1.out; have := HK2.out; omega⟩,⟨by exact Kd.R_mono HO_5.out (fun _ hk => trivial)⟩,⟨by exact HO_476001.out⟩,⟨by exact BK475.out⟩,⟨HB.out⟩⟩
          ·replace c63 := Bool.eq_false_iff.mpr c63;subst c63
           have H1 : (some false) = some r := by rw [if_neg (show ¬ (false = true) by decide)] at H; exact H
           clear H;have H := H1;clear H1;obtain rfl := Option.some.inj H;obtain ⟨Ao69,co69,eo69⟩ := Kd.R_slice HO_5.out;subst eo69
           try go_wp2
           have n0_ := Aside0.mk (Kd.R_drew HO_5.out);have n1_ := Aside0.mk (Kd.S_drew HO_476001.out);have n2_ := Aside0.mk (blk_drew BK475.out);have n3_ := Aside0.mk (below_drew1 HB.out);clear HO_5;clear HO_476001;clear BK475;clear HB;have HO_5 := n0_;have HO_476001 := n1_;have BK475 := n2_;have HB := n3_;clear n0_ n1_ n2_ n3_;have p513 : 0 ≤ (x10_2 : Int) := of_decide_eq_true (by (with_reducible assumption));have q513 : x10_2 < (x5_1.length : Int) := of_decide_eq_true (by (with_reducible assumption));obtain ⟨ad513,e513,hx513_0⟩ := Kd.at_string (Kd.R_reads' HO_5.out).2.2 x10_2 p513 q513
           cases e513
           replace p513 := eq_true p513;replace q513 := eq_true q513;refine start_ (n := 13) (S := fun w' => w'.cell? (ad513.add (x10_2).toNat) = some (.string (rdOf ByteArray.empty x5_1 x10_2))) (ds := []) #[false,false,false,false,false,false,false,false,false,false,false,false,false] (by kernel_rfl) rfl rfl (hx513_0) (fun hHeld => ?_); refine with_tabW laws_FnStateRoots.tab21 laws_FnStateRoots.bits21 (fun HT_ HW_ => ?_)
           generalize wr.drew = w70 at HO_5 HO_476001 BK475 HB hx513_0 hHeld ⊢
           refine pure_ (i := 0) (N := some 90) (v := ?_) (a' := ?_) #[true,false,false,false,false,false,false,false,false,false,false,false,false] rfl rfl (any_of HT_.out (by kernel_rfl)) (fun _ _ _ h => h) (Or.inl ⟨by rfl,?_⟩) ?_ ?_;rotate_left
           ·intro w';go_simp;with_reducible rfl
           rotate_left
           ·simp only [wf_preprocess];rfl
           refine pure_ (i := 1) (N := some 91) (v := ?_) (a' := ?_) #[true,true,false,false,false,false,false,false,false,false,false,false,false] rfl rfl (any_of HT_.out (by kernel_rfl)) (fun _ _ _ h => h) (Or.inl ⟨by rfl,?_⟩) ?_ ?_;rotate_left
           ·intro w';go_simp;with_reducible rfl
           rotate_left
           ·simp only [wf_preprocess];rfl
           refine pure_ (i := 2) (N := some 92) (v := ?_) (a' := ?_) #[true,true,true,false,false,false,false,false,false,false,false,false,false] rfl rfl (any_of HT_.out (by kernel_rfl)) (fun _ _ _ h => h) (Or.inl ⟨by rfl,?_⟩) ?_ ?_;rotate_left
           ·intro w';go_simp;with_reducible rfl
           rotate_left
           ·simp only [wf_preprocess];rfl
           refine pure_ (i := 4) (N := some 94) (v := ?_) (a' := ?_) #[true,true,true,false,true,false,false,false,false,false,false,false,false] rfl rfl (any_of HT_.out (by kernel_rfl)) (fun _ _ _ h => h) (Or.inl ⟨by rfl,?_⟩) ?_ ?_;rotate_left
           ·intro w';go_simp;with_reducible rfl
           rotate_left
           ·simp only [wf_preprocess];rfl
           refine pure_ (i := 5) (N := some 95) (v := ?_) (a' := ?_) #[true,true,true,false,true,true,false,false,false,false,false,false,false] rfl rfl (any_of HT_.out (by kernel_rfl)) (fun _ _ _ h => h) (Or.inl ⟨by rfl,?_⟩) ?_ ?_;rotate_left
           ·intro w';go_simp;with_reducible rfl
           rotate_left
           ·simp only [wf_preprocess];rfl
           refine pure_ (i := 6) (N := some 96) (v := ?_) (a' := ?_) #[true,true,true,false,true,true,true,false,false,false,false,false,false] rfl rfl (any_of HT_.out (by kernel_rfl)) (fun _ _ _ h => h) (Or.inl ⟨by rfl,?_⟩) ?_ ?_;rotate_left
           ·intro w';go_simp;with_reducible rfl
           rotate_left
           ·simp only [wf_preprocess];rfl
           refine pure_ (i := 7) (N := some 97) (v := ?_) (a' := ?_) #[true,true,true,false,true,true,true,true,false,false,false,false,false] rfl rfl (any_of HT_.out (by kernel_rfl)) (fun _ _ _ h => h) (Or.inl ⟨by rfl,?_⟩) ?_ ?_;rotate_left
           ·intro w';go_simp;with_reducible rfl
           rotate_left
           ·simp only [wf_preprocess];rfl
           refine pure_ (i := 8) (N := some 98) (v := ?_) (a' := ?_) #[true,true,true,false,true,true,true,true,true,false,false,false,false] rfl rfl (any_of HT_.out (by kernel_rfl)) (fun _ _ _ h => h) (Or.inl ⟨by rfl,?_⟩) ?_ ?_;rotate_left
           ·intro w';go_simp;with_reducible rfl
           rotate_left
           ·simp only [wf_preprocess];rfl
           refine pure_ (i := 10) (N := some 100) (v := ?_) (a' := ?_) #[true,true,true,false,true,true,true,true,true,false,true,false,false] rfl rfl (any_of HT_.out (by kernel_rfl)) (fun _ _ _ h => h) (Or.inl ⟨by rfl,?_⟩) ?_ ?_;rotate_left
           ·intro w';go_simp;with_reducible rfl
           rotate_left
           ·simp only [wf_preprocess];rfl
           refine take_ (i := 3) (N := some 93) (v := ?_) (a' := ?_) #[true,true,true,true,true,true,true,true,true,false,true,false,false] rfl rfl (take_ofW HT_.out HW_.out (by kernel_rfl)) (fun _ _ _ h => h) (Or.inl ⟨by rfl,?_⟩) hHeld ?_ ?_;rotate_left
           ·intro w' s0;go_simp;with_reducible rfl
           rotate_left
           ·simp only [wf_preprocess];rfl
           refine one_ (i := 9) (N := some 99) #[true,true,true,true,true,true,true,true,true,true,true,false,false] rfl rfl (one_of HT_.out (by kernel_rfl)) (by decide) (fun K hK => ?_);refine goes_ Try.func51 (by kernel_rfl) rfl #[.slice (some ad513) x5_1.length co69,.int .i64 x10_2] (by rfl) rfl rfl (by (try simp only [List.map_toArray,List.map_cons,List.map_nil]); rfl) ?_
           with_reducible refine (impl_PathOf.calls k2 _ _ x5_1 x10_2 t514 _ ?side1 ?side2 A61.out).mono ?_
           (case side1 => repeat (exact (Kd.R_reads' HO_5.out).2.2))
           (case side2 => exact (Kd.R_reads' HO_5.out).2.1)
           rintro e w71 ⟨v515,rfl,ho0,hb⟩;have HS0_ := (hb.cell (World.block_lt_of_cell? _ _ (hHeld))).trans (hHeld);refine ⟨_,rfl,?_⟩;have n0_ := Aside0.mk (Kd.R_elder' (by exact HO_5.out) (Kd.R_base ho0) hb);have n1_ := Aside0.mk (Kd.S_below (by exact HO_476001.out) hb);have n2_ := Aside0.mk (Kd.R_lower (Kd.R_new' ho0 (Kd.R_lt (by exact HO_5.out))) (below_size HB.out));have n3_ := Aside0.mk (blk_below (g := gb475) (o := .cells #[.int .i64 t471,.slice Ao11 t472.length co11] 31 (0,0)) (by exact BK475.out) hb);have n4_ := Aside0.mk (below_step HB.out hb);clear HO_5;clear HO_476001;clear BK475;clear HB;have HO_5 := n0_;have HO_476001 := n1_;have HO516 := n2_;have BK475 := n3_;have HB := n4_;clear n0_ n1_ n2_ n3_ n4_
           (try clear hb)
           skip
           skip
           skip
           (try clear ho0)
           obtain ⟨Ao72,co72,eo72⟩ := Kd.R_slice HO516.out
           (subst eo72)
           refine hK.out _ _ (HS0_) (fun hHeld => ?_);clear hK K;refine norm_ (a' := ?_) ?_ ?_;rotate_left
           ·show Act.put _ (some 99) _ = _
            simp only [wf_preprocess];rfl
           refine one_ (i := 11) (N := some 101) #[true,true,true,true,true,true,true,true,true,true,true,true,false] rfl rfl (one_of HT_.out (by kernel_rfl)) (by decide) (fun K hK => ?_);refine goes_ Try.func50 (by kernel_rfl) rfl #[.string (rdOf ByteArray.empty x5_1 x10_2),.int .i64 x10_2,.int .i64 (x5_1.length : Int),.slice Ao72 t514.length co72,.string t476] (by rfl) rfl rfl (by (try simp only [List.map_toArray,List.map_cons,List.map_nil]); rfl) ?_
           with_reducible refine (impl_CheckPath.calls k2 (rdOf ByteArray.empty x5_1 x10_2) x10_2 (x5_1.length : Int) _ _ t514 t476 false _ ?side1 ?side2 A62.out).mono ?_
           (case side1 => repeat (exact (Kd.R_reads' HO516.out).2.2))
           (case side2 => exact (Kd.R_reads' HO516.out).2.1)
           rintro e w73 ⟨rfl,hb⟩;have HS0_ := (hb.cell (World.block_lt_of_cell? _ _ (hHeld))).trans (hHeld);refine ⟨_,rfl,?_⟩;have n0_ := Aside0.mk (Kd.R_below (by exact HO_5.out) hb);have n1_ := Aside0.mk (Kd.S_below (by exact HO_476001.out) hb);have n2_ := Aside0.mk (Kd.R_below (by exact HO516.out) hb);have n3_ := Aside0.mk (blk_below (g := gb475) (o := .cells #[.int .i64 t471,.slice Ao11 t472.length co11] 31 (0,0)) (by exact BK475.out) hb);have n4_ := Aside0.mk (below_step HB.out hb);clear HO_5;clear HO_476001;clear HO516;clear BK475;clear HB;have HO_5 := n0_;have HO_476001 := n1_;have HO516 := n2_;have BK475 := n3_;have HB := n4_;clear n0_ n1_ n2_ n3_ n4_
           (try clear hb)
           skip
           skip
           skip
           refine hK.out _ _ (HS0_) (fun hHeld => ?_);clear hK K;refine norm_ (a' := ?_) ?_ ?_;rotate_left
           ·show Act.put _ (some 101) _ = _
            simp only [wf_preprocess];rfl
           refine pure_ (i := 12) (N := some 102) (v := ?_) (a' := ?_) #[true,true,true,true,true,true,true,true,true,true,true,true,true] rfl rfl (any_of HT_.out (by kernel_rfl)) (fun _ _ _ h => h) (Or.inl ⟨by rfl,?_⟩) ?_ ?_;rotate_left
           ·intro w';go_simp;with_reducible rfl
           rotate_left
           ·simp only [wf_preprocess];rfl
           refine done_ (done_of HT_.out (by kernel_rfl)) ?_
           try go_wp2
           go_ret;exact ⟨by rfl,HB.out⟩
         ·rw [if_neg c60] at H;exact absurd H (by simp)
        ·rw [if_neg c59] at H;have c59b0 : decide (x10_2 < (x5_1.length : Int)) = false := decide_eq_false c59;clear c59;obtain rfl := Option.some.inj H;obtain ⟨Ao74,co74,eo74⟩ := Kd.R_slice HO_5.out;subst eo74;go_wp2;go_ret;exact ⟨by rfl,HB.out⟩
  ·replace c7 := Bool.eq_false_iff.mpr c7;subst c7
   have H1 : (if t476.toList = ([] : List UInt8) then ((impl_LedgerOk.f k t471 t472).bind fun t478 => (some (!t478))) else (some false)) = some r := by rw [if_neg (show ¬ (false = true) by decide)] at H; exact H
   clear H;have H := H1;clear H1
   by_cases c75 : t476.toList = ([] : List UInt8)
   ·rw [if_pos c75] at H;have c75b0 : (t476.toList == ([] : List UInt8)) = true := beq_iff_eq.mpr c75;have c75b1 : (t476.toList != ([] : List UInt8)) = false := bne_eq_false_iff_eq.mpr c75;clear c75;replace H := Option.bind_eq_some_iff.mp H;obtain ⟨t478,A760,H⟩ := H;replace H : (some (!t478)) = some r := H;have A76 := Aside0.mk A760;clear A760;obtain rfl := Option.some.inj H;go_enter Try.func10,Try.ntmps10
    go_wp2_with (first | ((with_reducible refine gate_callee (f := 22) rfl ?_); refine goesL_ (some 12) rfl rfl Try.func22 (by kernel_rfl) rfl #[.slice A0 l0.length c0] rfl (by (try simp only [List.map_toArray,List.map_cons,List.map_nil]); rfl) ?_; (with_reducible refine (laws_big.calls _ _ l0 false _ ?side1 ?side2 A2.out).mono ?_); (case side1 => repeat (exact HR0.out)); (case side2 => exact HC0.out); rintro e w' ⟨rfl,⟨nd,rfl⟩⟩; refine ⟨_,rfl,?_⟩) | ((with_reducible refine gate_callee (f := 46) rfl ?_); refine goesL_ (some 14) rfl rfl Try.func46 (by kernel_rfl) rfl #[.slice A0 l0.length c0] rfl (by (try simp only [List.map_toArray,List.map_cons,List.map_nil]); rfl) ?_; (with_reducible refine (spec_DrawStateRoot.calls k _ _ l0 t471 t472 _ ?side1 ?side2 A4.out).mono ?_); (case side1 => repeat (exact HR0.out)); (case side2 => exact HC0.out); rintro e w77 ⟨v473,rfl,ho0,hb⟩; refine ⟨_,rfl,?_⟩; have n0_ := Aside0.mk (Kd.S_lower ho0 (below_size (by repeat (with_reducible first | exact HB.out | apply pw_below_drewN)))); have n1_ := Aside0.mk (below_step (by repeat (with_reducible first | exact HB.out | apply pw_below_drewN)) hb); clear HB; have HO474 := n0_; have HB := n1_; clear n0_ n1_; (try clear hb); (try clear ho0)) | ((with_reducible refine gate_dst (N := 3) rfl ?_); refine box_event ?hg (N := 3) ?hd (cs := #[.int .i64 0,.slice none 0 0]) (t := 31) ?hr ?_; (case hd => rfl); (case hg => rfl); (case hr => (go_simp; done)); intro gb475 hg w78 hbox hb; have n0_ := Aside0.mk (Kd.S_below (by exact HO474.out) hb); have n1_ := Aside0.mk (below_step HB.out hb); have n2_ := Aside0.mk (hbox); have n3_ := Aside0.mk (by rw [hg]; exact (below_size HB.out) : w.heap.size ≤ gb475); have n4_ := Aside0.mk (by rw [hg]; exact (below_size HB.out) : w.heap.size ≤ gb475); clear HO474; clear HB; have HO474 := n0_; have HB := n1_; have BK475 := n2_; have GW475 := n3_; have GE475 := n4_; clear n0_ n1_ n2_ n3_ n4_; clear hb hbox hg; have hcz79_0 : w78.cell? ⟨gb475,0,none⟩ = some (.int .i64 0) := (blk_cell BK475.out 0).trans rfl; have hcz79_1 : w78.cell? ⟨gb475,1,none⟩ = some (.slice none 0 0) := (blk_cell BK475.out 1).trans rfl; have hfz79_0 := blk_frozen BK475.out 0; have hfz79_1 := blk_frozen BK475.out 1; obtain ⟨Ao80,co80,eo80⟩ := Kd.S_slice HO474.out; subst eo80) | ((with_reducible refine gate_callee (f := 28) rfl ?_); refine goesL_ (some 16) rfl rfl Try.func28 (by kernel_rfl) rfl #[.agg #[.int .i64 t471,.slice Ao80 t472.length co80]] rfl (by (try simp only [List.map_toArray,List.map_cons,List.map_nil]); rfl) ?_; (with_reducible refine (impl_StateRoot.calls k t471 _ _ t472 t476 _ ?side1 ?side2 A5.out).mono ?_); (case side1 => refine (Kd.S_reads' (e := 63) (base := w.heap.size) (ok := fun k_ => True) (n := t472.length) (c := co80) ?_).2.2; exact (by exact (Kd.S_mono (Kd.S_far (p := ⟨gb475,1,none⟩) (Kd.S_far (p := ⟨gb475,0,none⟩) (Kd.S_types HO474.out BK475.out (by decide)) (fun _ hk => hk.2) (.int .i64 t471)) (fun _ hk => hk.2) (.slice Ao80 t472.length co80)) (fun _ h_ => h_.1)))); (case side2 => exact (Kd.S_reads' HO474.out).2.1); rintro e w81 ⟨rfl,hb⟩; refine ⟨_,rfl,?_⟩; have n0_ := Aside0.mk (Kd.S_below (by exact (Kd.S_mono (Kd.S_far (p := ⟨gb475,1,none⟩) (Kd.S_far (p := ⟨gb475,0,none⟩) (Kd.S_types HO474.out BK475.out (by decide)) (fun _ hk => hk.2) (.int .i64 t471)) (fun _ hk => hk.2) (.slice Ao80 t472.length co80)) (fun _ h_ => h_.1))) hb); have n1_ := Aside0.mk (blk_below (g := gb475) (o := .cells #[.int .i64 t471,.slice Ao80 t472.length co80] 31 (0,0)) (by refine blk_put (cs := #[.int .i64 t471,.slice none 0 0]) ?_ 1 _ rfl; refine blk_put (cs := #[.int .i64 0,.slice none 0 0]) ?_ 0 _ rfl; exact BK475.out) hb); have n2_ := Aside0.mk (below_step (by repeat (with_reducible first | exact HB.out | refine below_set ?_ GE475.out)) hb); clear HO474; clear BK475; clear HB; have HO474 := n0_; have BK475 := n1_; have HB := n2_; clear n0_ n1_ n2_; (try clear hb); have hcz82_0 : w81.cell? ⟨gb475,0,none⟩ = some (.int .i64 t471) := (blk_cell BK475.out 0).trans rfl; have hcz82_1 : w81.cell? ⟨gb475,1,none⟩ = some (.slice Ao80 t472.length co80) := (blk_cell BK475.out 1).trans rfl; have hfz82_0 := blk_frozen BK475.out 0; have hfz82_1 := blk_frozen BK475.out 1) | ((with_reducible refine gate_callee (f := 47) rfl ?_); refine goesL_ (some 18) rfl rfl Try.func47 (by kernel_rfl) rfl #[.agg #[.int .i64 t471,.slice Ao80 t472.length co80]] rfl (by (try simp only [List.map_toArray,List.map_cons,List.map_nil]); rfl) ?_; (with_reducible refine (spec_LedgerOk.calls k t471 _ _ t472 false _ ?side1 ?side2 A6.out).mono ?_); (case side1 => repeat (exact (Kd.S_reads' HO474.out).2.2)); (case side2 => exact (Kd.S_reads' HO474.out).2.1); rintro e w83 ⟨rfl,hb⟩; refine ⟨_,rfl,?_⟩; have n0_ := Aside0.mk (Kd.S_below (by exact HO474.out) hb); have n1_ := Aside0.mk (blk_below (g := gb475) (o := .cells #[.int .i64 t471,.slice Ao80 t472.length co80] 31 (0,0)) (by exact BK475.out) hb); have n2_ := Aside0.mk (below_step HB.out hb); clear HO474; clear BK475; clear HB; have HO474 := n0_; have BK475 := n1_; have HB := n2_; clear n0_ n1_ n2_; (try clear hb); have hcz84_0 : w83.cell? ⟨gb475,0,none⟩ = some (.int .i64 t471) := (blk_cell BK475.out 0).trans rfl; have hcz84_1 : w83.cell? ⟨gb475,1,none⟩ = some (.slice Ao80 t472.length co80) := (blk_cell BK475.out 1).trans rfl; have hfz84_0 := blk_frozen BK475.out 0; have hfz84_1 := blk_frozen BK475.out 1) | (go_at_call 27; (with_reducible refine (impl_LedgerOk.calls k t471 _ _ t472 t478 _ ?side1 ?side2 A76.out).mono ?_); (case side1 => repeat (exact (Kd.S_reads' HO474.out).2.2)); (case side2 => exact (Kd.S_reads' HO474.out).2.1); rintro e w85 ⟨rfl,hb⟩; have n0_ := Aside0.mk (Kd.S_below (by exact HO474.out) hb); have n1_ := Aside0.mk (blk_below (g := gb475) (o := .cells #[.int .i64 t471,.slice Ao80 t472.length co80] 31 (0,0)) (by exact BK475.out) hb); have n2_ := Aside0.mk (below_step HB.out hb); clear HO474; clear BK475; clear HB; have HO474 := n0_; have BK475 := n1_; have HB := n2_; clear n0_ n1_ n2_; (try clear hb); skip))
    go_ret;exact ⟨by rfl,HB.out⟩
   ·rw [if_neg c75] at H;have c75b0 : (t476.toList == ([] : List UInt8)) = false := beq_eq_false_iff_ne.mpr c75;have c75b1 : (t476.toList != ([] : List UInt8)) = true := bne_iff_ne.mpr c75;obtain rfl := Option.some.inj H;go_enter Try.func10,Try.ntmps10
    go_wp2_with (first | ((with_reducible refine gate_callee (f := 22) rfl ?_); refine goesL_ (some 12) rfl rfl Try.func22 (by kernel_rfl) rfl #[.slice A0 l0.length c0] rfl (by (try simp only [List.map_toArray,List.map_cons,List.map_nil]); rfl) ?_; (with_reducible refine (laws_big.calls _ _ l0 false _ ?side1 ?side2 A2.out).mono ?_); (case side1 => repeat (exact HR0.out)); (case side2 => exact HC0.out); rintro e w' ⟨rfl,⟨nd,rfl⟩⟩; refine ⟨_,rfl,?_⟩) | ((with_reducible refine gate_callee (f := 46) rfl ?_); refine goesL_ (some 14) rfl rfl Try.func46 (by kernel_rfl) rfl #[.slice A0 l0.length c0] rfl (by (try simp only [List.map_toArray,List.map_cons,List.map_nil]); rfl) ?_; (with_reducible refine (spec_DrawStateRoot.calls k _ _ l0 t471 t472 _ ?side1 ?side2 A4.out).mono ?_); (case side1 => repeat (exact HR0.out)); (case side2 => exact HC0.out); rintro e w86 ⟨v473,rfl,ho0,hb⟩; refine ⟨_,rfl,?_⟩; have n0_ := Aside0.mk (Kd.S_lower ho0 (below_size (by repeat (with_reducible first | exact HB.out | apply pw_below_drewN)))); have n1_ := Aside0.mk (below_step (by repeat (with_reducible first | exact HB.out | apply pw_below_drewN)) hb); clear HB; have HO474 := n0_; have HB := n1_; clear n0_ n1_; (try clear hb); (try clear ho0)) | ((with_reducible refine gate_dst (N := 3) rfl ?_); refine box_event ?hg (N := 3) ?hd (cs := #[.int .i64 0,.slice none 0 0]) (t := 31) ?hr ?_; (case hd => rfl); (case hg => rfl); (case hr => (go_simp; done)); intro gb475 hg w87 hbox hb; have n0_ := Aside0.mk (Kd.S_below (by exact HO474.out) hb); have n1_ := Aside0.mk (below_step HB.out hb); have n2_ := Aside0.mk (hbox); have n3_ := Aside0.mk (by rw [hg]; exact (below_size HB.out) : w.heap.size ≤ gb475); have n4_ := Aside0.mk (by rw [hg]; exact (below_size HB.out) : w.heap.size ≤ gb475); clear HO474; clear HB; have HO474 := n0_; have HB := n1_; have BK475 := n2_; have GW475 := n3_; have GE475 := n4_; clear n0_ n1_ n2_ n3_ n4_; clear hb hbox hg; have hcz88_0 : w87.cell? ⟨gb475,0,none⟩ = some (.int .i64 0) := (blk_cell BK475.out 0).trans rfl; have hcz88_1 : w87.cell? ⟨gb475,1,none⟩ = some (.slice none 0 0) := (blk_cell BK475.out 1).trans rfl; have hfz88_0 := blk_frozen BK475.out 0; have hfz88_1 := blk_frozen BK475.out 1; obtain ⟨Ao89,co89,eo89⟩ := Kd.S_slice HO474.out; subst eo89) | ((with_reducible refine gate_callee (f := 28) rfl ?_); refine goesL_ (some 16) rfl rfl Try.func28 (by kernel_rfl) rfl #[.agg #[.int .i64 t471,.slice Ao89 t472.length co89]] rfl (by (try simp only [List.map_toArray,List.map_cons,List.map_nil]); rfl) ?_; (with_reducible refine (impl_StateRoot.calls k t471 _ _ t472 t476 _ ?side1 ?side2 A5.out).mono ?_); (case side1 => refine (Kd.S_reads' (e := 63) (base := w.heap.size) (ok := fun k_ => True) (n := t472.length) (c := co89) ?_).2.2; exact (by exact (Kd.S_mono (Kd.S_far (p := ⟨gb475,1,none⟩) (Kd.S_far (p := ⟨gb475,0,none⟩) (Kd.S_types HO474.out BK475.out (by decide)) (fun _ hk => hk.2) (.int .i64 t471)) (fun _ hk => hk.2) (.slice Ao89 t472.length co89)) (fun _ h_ => h_.1)))); (case side2 => exact (Kd.S_reads' HO474.out).2.1); rintro e w90 ⟨rfl,hb⟩; refine ⟨_,rfl,?_⟩; have n0_ := Aside0.mk (Kd.S_below (by exact (Kd.S_mono (Kd.S_far (p := ⟨gb475,1,none⟩) (Kd.S_far (p := ⟨gb475,0,none⟩) (Kd.S_types HO474.out BK475.out (by decide)) (fun _ hk => hk.2) (.int .i64 t471)) (fun _ hk => hk.2) (.slice Ao89 t472.length co89)) (fun _ h_ => h_.1))) hb); have n1_ := Aside0.mk (blk_below (g := gb475) (o := .cells #[.int .i64 t471,.slice Ao89 t472.length co89] 31 (0,0)) (by refine blk_put (cs := #[.int .i64 t471,.slice none 0 0]) ?_ 1 _ rfl; refine blk_put (cs := #[.int .i64 0,.slice none 0 0]) ?_ 0 _ rfl; exact BK475.out) hb); have n2_ := Aside0.mk (below_step (by repeat (with_reducible first | exact HB.out | refine below_set ?_ GE475.out)) hb); clear HO474; clear BK475; clear HB; have HO474 := n0_; have BK475 := n1_; have HB := n2_; clear n0_ n1_ n2_; (try clear hb); have hcz91_0 : w90.cell? ⟨gb475,0,none⟩ = some (.int .i64 t471) := (blk_cell BK475.out 0).trans rfl; have hcz91_1 : w90.cell? ⟨gb475,1,none⟩ = some (.slice Ao89 t472.length co89) := (blk_cell BK475.out 1).trans rfl; have hfz91_0 := blk_frozen BK475.out 0; have hfz91_1 := blk_frozen BK475.out 1) | ((with_reducible refine gate_callee (f := 47) rfl ?_); refine goesL_ (some 18) rfl rfl Try.func47 (by kernel_rfl) rfl #[.agg #[.int .i64 t471,.slice Ao89 t472.length co89]] rfl (by (try simp only [List.map_toArray,List.map_cons,List.map_nil]); rfl) ?_; (with_reducible refine (spec_LedgerOk.calls k t471 _ _ t472 false _ ?side1 ?side2 A6.out).mono ?_); (case side1 => repeat (exact (Kd.S_reads' HO474.out).2.2)); (case side2 => exact (Kd.S_reads' HO474.out).2.1); rintro e w92 ⟨rfl,hb⟩; refine ⟨_,rfl,?_⟩; have n0_ := Aside0.mk (Kd.S_below (by exact HO474.out) hb); have n1_ := Aside0.mk (blk_below (g := gb475) (o := .cells #[.int .i64 t471,.slice Ao89 t472.length co89] 31 (0,0)) (by exact BK475.out) hb); have n2_ := Aside0.mk (below_step HB.out hb); clear HO474; clear BK475; clear HB; have HO474 := n0_; have BK475 := n1_; have HB := n2_; clear n0_ n1_ n2_; (try clear hb); skip))
    go_ret;exact ⟨by rfl,HB.out⟩

/-- THE ONE PURE STATEMENT of laws_FnStateRoots: yours. -/
def laws_FnStateRoots.Pure : Prop := ∀ (l0 : List Int),l0.length ≤ maxLen → l0.length * 1 ≤ 140737488351232 → (∀ x ∈ l0,(Lit.int .u8 x).wf = true) → ∃ k,laws_FnStateRoots.f k l0 = some true
theorem laws_FnStateRoots.walk (P : laws_FnStateRoots.Pure) (a0 : Option Addr) (len0 cap0 : Nat) (z0 : List Int) (w : World) (w0 : (a0 = none ∧ len0 = 0 ∧ cap0 = 0 ∧ z0 = []) ∨ ∃ x,a0 = some x ∧ len0 ≤ cap0 ∧ cap0 ≤ maxLen ∧ z0.length = cap0 ∧ (∀ i,i < z0.length → w.cell? (x.add i) = some (.int .u8 (z0.getD i 0))) ∧ ∀ n ∈ z0,(Lit.int .u8 n).wf = true) (y0 : len0 * 1 ≤ 140737488351232) :
  Calls Try.prog 10 #[.slice a0 len0 cap0] w fun e w' => e = .returned (.bool true) ∧ Below w.heap.size w w' := by
 obtain ⟨l0,rfl,hr0,hm0,hw0,hc0⟩ := ReadsInt.ofRowC w0;obtain ⟨k,h⟩ := P l0 hm0 y0 hw0;refine (laws_FnStateRoots.calls k _ _ l0 true w (Kd.C_of_reads (d := (0 : Int)) (h1 := fun _ => rfl) hr0) hc0 h).mono ?_;rintro e w' ⟨rfl,hd⟩;exact ⟨rfl,hd⟩

end Go.Proofs.Ytcbpfofkdipjhaa.PI
