/- The machine's side of Go functions: each as a plain function,and that the call does what it says. Written by a program (wip/mprint). -/
import Derived.Test.YtcbpfofkdipjhaaSRPIx0
import Derived.Test.YtcbpfofkdipjhaaSRPIx1
import Derived.Test.YtcbpfofkdipjhaaSRPIx3
import Derived.Test.YtcbpfofkdipjhaaSRPIx8
import Derived.Test.YtcbpfofkdipjhaaSRPIx10
namespace Go.Proofs.Ytcbpfofkdipjhaa.PI
open Go.RowKit Go.Proofs.YtcbpfofkdipjhaaW.PrintWords Go.Proofs.YtcbpfofkdipjhaaW.PrintLast Go.Proofs.YtcbpfofkdipjhaaW.PrintMore
attribute [local go_sem] max2_int min2_int max_two min_two max_three min_three max_four min_four   -- for this text's walks alone
set_option linter.unusedVariables false
set_option linter.unusedSimpArgs false

/-! ### spec_LedgerOk: function 47 -/
def spec_LedgerOk.f (k : Nat) (a0_0 : Int) (l0_1 : List (S63)) : Option (Bool) := (spec_l1In.f a0_0 0 900).bind fun t417 => (if t417 = true then ((spec_AcctsOk.f k l0_1).bind fun t418 => (some t418)) else (some false))
theorem spec_LedgerOk.mono : ∀ a0 a1 k,LeO (spec_LedgerOk.f k a0 a1) (spec_LedgerOk.f (k + 1) a0 a1) := by
 intro a0 a1 k;unfold spec_LedgerOk.f
 repeat' first
   | (with_reducible exact spec_AcctsOk.mono _ _)
   | (with_reducible exact LeO.refl _)
   | (with_reducible exact LeO.none _)
   | (with_reducible refine LeO.ite ?_ ?_)
   | (with_reducible refine LeO.bind ?_ (fun _ => ?_))
   | exact spec_AcctsOk.mono _ _
   | exact LeO.none _
set_option maxHeartbeats 8000000 in
set_option maxRecDepth 100000 in
theorem spec_LedgerOk.calls (k : Nat) (a0_0 : Int) (A0_1 : Option Addr) (c0_1 : Nat) (l0_1 : List (S63)) (r : Bool) (w : World) (hr0_1 : Kd.C k63 w A0_1 l0_1.length l0_1) (hc0_1 : l0_1.length ≤ c0_1) (h : spec_LedgerOk.f k a0_0 l0_1 = some r) :
  Calls Try.prog 47 #[.agg #[.int .i64 a0_0,.slice A0_1 l0_1.length c0_1]] w fun e w' => e = .returned (.bool r) ∧ Below w.heap.size w w' := by
 have hu31 := Try.underlying31;have HR0_1 := Aside0.mk hr0_1;have HC0_1 := Aside0.mk hc0_1;clear hr0_1 hc0_1;have HB := Aside0.mk (Below.refl w.heap.size w);have H : ((spec_l1In.f a0_0 0 900).bind fun t417 => (if t417 = true then ((spec_AcctsOk.f k l0_1).bind fun t418 => (some t418)) else (some false))) = some r := h;clear h;replace H := Option.bind_eq_some_iff.mp H;obtain ⟨t417,A20,H⟩ := H;replace H : (if t417 = true then ((spec_AcctsOk.f k l0_1).bind fun t418 => (some t418)) else (some false)) = some r := H;have A2 := Aside0.mk A20;clear A20
 by_cases c3 : t417 = true
 ·subst c3
  have H1 : ((spec_AcctsOk.f k l0_1).bind fun t418 => (some t418)) = some r := by rw [if_pos rfl] at H; exact H
  clear H;have H := H1;clear H1;replace H := Option.bind_eq_some_iff.mp H;obtain ⟨t418,A40,H⟩ := H;replace H : (some t418) = some r := H;have A4 := Aside0.mk A40;clear A40;obtain rfl := Option.some.inj H;go_enter Try.func47,Try.ntmps47
  go_wp2_with (first | ((with_reducible refine gate_dst (N := 1) rfl ?_); refine box_event ?hg (N := 1) ?hd (cs := #[.int .i64 a0_0,.slice A0_1 l0_1.length c0_1]) (t := 31) ?hr ?_; (case hd => rfl); (case hg => rfl); (case hr => (go_simp; done)); intro gb416 hg w5 hbox hb; have n0_ := Aside0.mk (below_step HB.out hb); have n1_ := Aside0.mk (hbox); have n2_ := Aside0.mk (by rw [hg]; exact (below_size HB.out) : w.heap.size ≤ gb416); have n3_ := Aside0.mk (by rw [hg]; exact (below_size HB.out) : w.heap.size ≤ gb416); clear HB; have HB := n0_; have BK416 := n1_; have GW416 := n2_; have GE416 := n3_; clear n0_ n1_ n2_ n3_; clear hb hbox hg; have hcz6_0 : w5.cell? ⟨gb416,0,none⟩ = some (.int .i64 a0_0) := (blk_cell BK416.out 0).trans rfl; have hcz6_1 : w5.cell? ⟨gb416,1,none⟩ = some (.slice A0_1 l0_1.length c0_1) := (blk_cell BK416.out 1).trans rfl; have hfz6_0 := blk_frozen BK416.out 0; have hfz6_1 := blk_frozen BK416.out 1) | ((with_reducible refine gate_callee (f := 91) rfl ?_); refine goesL_ (some 5) rfl rfl Try.func91 (by kernel_rfl) rfl #[.int .i64 a0_0,.int .i64 0,.int .i64 900] rfl (by (try simp only [List.map_toArray,List.map_cons,List.map_nil]); rfl) ?_; (with_reducible refine (spec_l1In.calls a0_0 0 900 true _ A2.out).mono ?_); rintro e w' ⟨rfl,⟨nd,rfl⟩⟩; refine ⟨_,rfl,?_⟩) | (go_at_call 89; (with_reducible refine (spec_AcctsOk.calls k _ _ l0_1 t418 _ ?side1 ?side2 A4.out).mono ?_); (case side1 => repeat (exact (Kd.C_below HR0_1.out (by repeat (with_reducible first | exact HB.out | apply pw_below_drewN))))); (case side2 => exact HC0_1.out); rintro e w7 ⟨rfl,hb⟩; have n0_ := Aside0.mk (blk_below (g := gb416) (o := .cells #[.int .i64 a0_0,.slice A0_1 l0_1.length c0_1] 31 (0,0)) (by (with_reducible repeat (refine blk_drewN ?_ _)); exact BK416.out) hb); have n1_ := Aside0.mk (below_step (by repeat (with_reducible first | exact HB.out | apply pw_below_drewN)) hb); clear BK416; clear HB; have BK416 := n0_; have HB := n1_; clear n0_ n1_; (try clear hb); skip))
  go_ret;exact ⟨by rfl,HB.out⟩
 ·replace c3 := Bool.eq_false_iff.mpr c3;subst c3
  have H1 : (some false) = some r := by rw [if_neg (show ¬ (false = true) by decide)] at H; exact H
  clear H;have H := H1;clear H1;obtain rfl := Option.some.inj H;go_enter Try.func47,Try.ntmps47
  go_wp2_with (first | ((with_reducible refine gate_dst (N := 1) rfl ?_); refine box_event ?hg (N := 1) ?hd (cs := #[.int .i64 a0_0,.slice A0_1 l0_1.length c0_1]) (t := 31) ?hr ?_; (case hd => rfl); (case hg => rfl); (case hr => (go_simp; done)); intro gb416 hg w8 hbox hb; have n0_ := Aside0.mk (below_step HB.out hb); have n1_ := Aside0.mk (hbox); have n2_ := Aside0.mk (by rw [hg]; exact (below_size HB.out) : w.heap.size ≤ gb416); have n3_ := Aside0.mk (by rw [hg]; exact (below_size HB.out) : w.heap.size ≤ gb416); clear HB; have HB := n0_; have BK416 := n1_; have GW416 := n2_; have GE416 := n3_; clear n0_ n1_ n2_ n3_; clear hb hbox hg; have hcz9_0 : w8.cell? ⟨gb416,0,none⟩ = some (.int .i64 a0_0) := (blk_cell BK416.out 0).trans rfl; have hcz9_1 : w8.cell? ⟨gb416,1,none⟩ = some (.slice A0_1 l0_1.length c0_1) := (blk_cell BK416.out 1).trans rfl; have hfz9_0 := blk_frozen BK416.out 0; have hfz9_1 := blk_frozen BK416.out 1) | ((with_reducible refine gate_callee (f := 91) rfl ?_); refine goesL_ (some 5) rfl rfl Try.func91 (by kernel_rfl) rfl #[.int .i64 a0_0,.int .i64 0,.int .i64 900] rfl (by (try simp only [List.map_toArray,List.map_cons,List.map_nil]); rfl) ?_; (with_reducible refine (spec_l1In.calls a0_0 0 900 false _ A2.out).mono ?_); rintro e w' ⟨rfl,⟨nd,rfl⟩⟩; refine ⟨_,rfl,?_⟩))
  go_ret;exact ⟨by rfl,by repeat (with_reducible first | exact HB.out | apply pw_below_drewN)⟩

/-! ### impl_PutNum: function 48 -/
def impl_PutNum.f (k : Nat) (l0 : List Int) (a1 : Int) : Option (List Int) := (slices_Clone_byte_byte.f l0).bind fun t419 => ((impl_putNum.f k t419 a1).bind fun t422 => (some t422))
theorem impl_PutNum.mono : ∀ a0 a1 k,LeO (impl_PutNum.f k a0 a1) (impl_PutNum.f (k + 1) a0 a1) := by
 intro a0 a1 k;unfold impl_PutNum.f
 repeat' first
   | (with_reducible exact impl_putNum.mono _ _ _)
   | (with_reducible exact LeO.refl _)
   | (with_reducible exact LeO.none _)
   | (with_reducible refine LeO.ite ?_ ?_)
   | (with_reducible refine LeO.bind ?_ (fun _ => ?_))
   | exact impl_putNum.mono _ _ _
   | exact LeO.none _
set_option maxHeartbeats 8000000 in
set_option maxRecDepth 100000 in
theorem impl_PutNum.calls (k : Nat) (A0 : Option Addr) (c0 : Nat) (l0 : List Int) (a1 : Int) (r : List Int) (w : World) (hr0 : Kd.C (Kd.int .u8) w A0 l0.length l0) (hc0 : l0.length ≤ c0) (h : impl_PutNum.f k l0 a1 = some r) :
  Calls Try.prog 48 #[.slice A0 l0.length c0,.int .i64 a1] w fun e w' => ∃ v0_ : Value,e = .returned (v0_) ∧ Kd.R (Kd.int .u8) 5 w' w.heap.size (fun _ => True) v0_ r ∧ Below w.heap.size w w' := by
 have HR0 := Aside0.mk hr0;have HC0 := Aside0.mk hc0;clear hr0 hc0;have HB := Aside0.mk (Below.refl w.heap.size w);have H : ((slices_Clone_byte_byte.f l0).bind fun t419 => ((impl_putNum.f k t419 a1).bind fun t422 => (some t422))) = some r := h;clear h;replace H := Option.bind_eq_some_iff.mp H;obtain ⟨t419,A30,H⟩ := H;replace H : ((impl_putNum.f k t419 a1).bind fun t422 => (some t422)) = some r := H;have A3 := Aside0.mk A30;clear A30;replace H := Option.bind_eq_some_iff.mp H;obtain ⟨t422,A40,H⟩ := H;replace H : (some t422) = some r := H;have A4 := Aside0.mk A40;clear A40;obtain rfl := Option.some.inj H;go_enter Try.func48,Try.ntmps48
 go_wp2_with (first | ((with_reducible refine gate_callee (f := 96) rfl ?_); refine goesL_ (some 6) rfl rfl Try.func96 (by kernel_rfl) rfl #[.slice A0 l0.length c0] rfl (by (try simp only [List.map_toArray,List.map_cons,List.map_nil]); rfl) ?_; (with_reducible refine (slices_Clone_byte_byte.calls _ _ l0 t419 _ ?side1 ?side2 A3.out).mono ?_); (case side1 => repeat (exact HR0.out)); (case side2 => exact HC0.out); rintro e w5 ⟨v420,rfl,ho0,hb⟩; refine ⟨_,rfl,?_⟩; have n0_ := Aside0.mk (Kd.R_lower ho0 (below_size HB.out)); have n1_ := Aside0.mk (below_step HB.out hb); clear HB; have HO421 := n0_; have HB := n1_; clear n0_ n1_; (try clear hb); (try clear ho0); obtain ⟨Ao6,co6,eo6⟩ := Kd.R_slice HO421.out; subst eo6) | ((with_reducible refine gate_callee (f := 70) rfl ?_); refine goesL_ (some 8) rfl rfl Try.func70 (by kernel_rfl) rfl #[.slice Ao6 t419.length co6,.int .i64 a1] rfl (by (try simp only [List.map_toArray,List.map_cons,List.map_nil]); rfl) ?_; (with_reducible refine (impl_putNum.calls k (fun k_ => some k_ = (.slice Ao6 t419.length co6 : Value).ownBlock) (.slice Ao6 t419.length co6) t419 a1 t422 w _ ?side1 ?side2 A4.out).mono ?_); (case side1 => repeat (with_reducible exact HB.out)); (case side2 => exact Kd.R_tight rfl HO421.out); rintro e w7 ⟨v423,rfl,ho0,hb,hkp⟩; refine ⟨_,rfl,?_⟩; have n0_ := Aside0.mk (Kd.R_mono (ok' := fun k_ => True) ho0 (fun k_ hk_ => trivial)); have n1_ := Aside0.mk (hb); clear HB; clear HO421; have HO424 := n0_; have HB := n1_; clear n0_ n1_; (try clear hb); (try clear hkp); (try clear ho0)))
 go_ret;exact ⟨_,by rfl,by exact HO424.out,HB.out⟩

/-! ### impl_PutText: function 49 -/
def impl_PutText.f (k : Nat) (l0 : List Int) (a1 : ByteArray) : Option (List Int) := (slices_Clone_byte_byte.f l0).bind fun t425 => ((impl_putText.f k t425 a1).bind fun t428 => (some t428))
theorem impl_PutText.mono : ∀ a0 a1 k,LeO (impl_PutText.f k a0 a1) (impl_PutText.f (k + 1) a0 a1) := by
 intro a0 a1 k;unfold impl_PutText.f
 repeat' first
   | (with_reducible exact impl_putText.mono _ _ _)
   | (with_reducible exact LeO.refl _)
   | (with_reducible exact LeO.none _)
   | (with_reducible refine LeO.ite ?_ ?_)
   | (with_reducible refine LeO.bind ?_ (fun _ => ?_))
   | exact impl_putText.mono _ _ _
   | exact LeO.none _
set_option maxHeartbeats 8000000 in
set_option maxRecDepth 100000 in
theorem impl_PutText.calls (k : Nat) (A0 : Option Addr) (c0 : Nat) (l0 : List Int) (a1 : ByteArray) (r : List Int) (w : World) (hr0 : Kd.C (Kd.int .u8) w A0 l0.length l0) (hc0 : l0.length ≤ c0) (h : impl_PutText.f k l0 a1 = some r) :
  Calls Try.prog 49 #[.slice A0 l0.length c0,.string a1] w fun e w' => ∃ v0_ : Value,e = .returned (v0_) ∧ Kd.R (Kd.int .u8) 5 w' w.heap.size (fun _ => True) v0_ r ∧ Below w.heap.size w w' := by
 have HR0 := Aside0.mk hr0;have HC0 := Aside0.mk hc0;clear hr0 hc0;have HB := Aside0.mk (Below.refl w.heap.size w);have H : ((slices_Clone_byte_byte.f l0).bind fun t425 => ((impl_putText.f k t425 a1).bind fun t428 => (some t428))) = some r := h;clear h;replace H := Option.bind_eq_some_iff.mp H;obtain ⟨t425,A30,H⟩ := H;replace H : ((impl_putText.f k t425 a1).bind fun t428 => (some t428)) = some r := H;have A3 := Aside0.mk A30;clear A30;replace H := Option.bind_eq_some_iff.mp H;obtain ⟨t428,A40,H⟩ := H;replace H : (some t428) = some r := H;have A4 := Aside0.mk A40;clear A40;obtain rfl := Option.some.inj H;go_enter Try.func49,Try.ntmps49
 go_wp2_with (first | ((with_reducible refine gate_callee (f := 96) rfl ?_); refine goesL_ (some 6) rfl rfl Try.func96 (by kernel_rfl) rfl #[.slice A0 l0.length c0] rfl (by (try simp only [List.map_toArray,List.map_cons,List.map_nil]); rfl) ?_; (with_reducible refine (slices_Clone_byte_byte.calls _ _ l0 t425 _ ?side1 ?side2 A3.out).mono ?_); (case side1 => repeat (exact HR0.out)); (case side2 => exact HC0.out); rintro e w5 ⟨v426,rfl,ho0,hb⟩; refine ⟨_,rfl,?_⟩; have n0_ := Aside0.mk (Kd.R_lower ho0 (below_size HB.out)); have n1_ := Aside0.mk (below_step HB.out hb); clear HB; have HO427 := n0_; have HB := n1_; clear n0_ n1_; (try clear hb); (try clear ho0); obtain ⟨Ao6,co6,eo6⟩ := Kd.R_slice HO427.out; subst eo6) | ((with_reducible refine gate_callee (f := 71) rfl ?_); refine goesL_ (some 8) rfl rfl Try.func71 (by kernel_rfl) rfl #[.slice Ao6 t425.length co6,.string a1] rfl (by (try simp only [List.map_toArray,List.map_cons,List.map_nil]); rfl) ?_; (with_reducible refine (impl_putText.calls k (fun k_ => some k_ = (.slice Ao6 t425.length co6 : Value).ownBlock) (.slice Ao6 t425.length co6) t425 a1 t428 w _ ?side1 ?side2 A4.out).mono ?_); (case side1 => repeat (with_reducible exact HB.out)); (case side2 => exact Kd.R_tight rfl HO427.out); rintro e w7 ⟨v429,rfl,ho0,hb,hkp⟩; refine ⟨_,rfl,?_⟩; have n0_ := Aside0.mk (Kd.R_mono (ok' := fun k_ => True) ho0 (fun k_ hk_ => trivial)); have n1_ := Aside0.mk (hb); clear HB; clear HO427; have HO430 := n0_; have HB := n1_; clear n0_ n1_; (try clear hb); (try clear hkp); (try clear ho0)))
 go_ret;exact ⟨_,by rfl,by exact HO430.out,HB.out⟩

/-! ### impl_climb: function 97 -/
def impl_climb.f : Nat → ByteArray → Int → Int → List ByteArray → Option (ByteArray × Bool)
 | 0,_,_,_,_ => none
 | k + 1,a0,a1,a2,l3 => if a2 = 1 then ((impl_LeafDigest.f k a0).bind fun t431 => (some (t431,((l3.length : Int) == 0)))) else (if (wrap64 ((l3.length : Int) - 1)) < 0 then (some ((⟨#[]⟩ : ByteArray),false)) else ((impl_half.f k a2).bind fun t432 => (if a1 < t432 then (if 0 ≤ (wrap64 ((l3.length : Int) - 1)) then (if (wrap64 ((l3.length : Int) - 1)) ≤ (l3.length : Int) then ((impl_climb.f k a0 a1 t432 (l3.take ((wrap64 ((l3.length : Int) - 1)) : Int).toNat)).bind fun bt434 => (if (wrap64 ((l3.length : Int) - 1)) < (l3.length : Int) then ((impl_NodeDigest.f k bt434.1 (rdOf ByteArray.empty l3 (wrap64 ((l3.length : Int) - 1)))).bind fun t437 => (some (t437,bt434.2))) else (none))) else (none)) else (none)) else (if 0 ≤ (wrap64 ((l3.length : Int) - 1)) then (if (wrap64 ((l3.length : Int) - 1)) ≤ (l3.length : Int) then ((impl_climb.f k a0 (wrap64 (a1 - t432)) (wrap64 (a2 - t432)) (l3.take ((wrap64 ((l3.length : Int) - 1)) : Int).toNat)).bind fun bt439 => (if (wrap64 ((l3.length : Int) - 1)) < (l3.length : Int) then ((impl_NodeDigest.f k (rdOf ByteArray.empty l3 (wrap64 ((l3.length : Int) - 1))) bt439.1).bind fun t442 => (some (t442,bt439.2))) else (none))) else (none)) else (none)))))
theorem impl_climb.mono_l : ∀ k,(∀ y0 y1 y2 y3,LeO (impl_climb.f k y0 y1 y2 y3) (impl_climb.f (k + 1) y0 y1 y2 y3))
 | 0 => fun _ _ _ _ r h => by simp [impl_climb.f] at h
 | k + 1 => by
  have ih0 := impl_climb.mono_l k
  ·intro y0 y1 y2 y3;unfold impl_climb.f
   repeat' first
   | (with_reducible exact ih0 _ _ _ _)
   | (with_reducible exact impl_LeafDigest.mono _ _)
   | (with_reducible exact impl_NodeDigest.mono _ _ _)
   | (with_reducible exact impl_half.mono _ _)
   | (with_reducible exact LeO.refl _)
   | (with_reducible exact LeO.none _)
   | (with_reducible refine LeO.ite ?_ ?_)
   | (with_reducible refine LeO.bind ?_ (fun _ => ?_))
   | exact ih0 _ _ _ _
   | exact impl_LeafDigest.mono _ _
   | exact impl_NodeDigest.mono _ _ _
   | exact impl_half.mono _ _
   | exact LeO.none _
theorem impl_climb.mono : ∀ a0 a1 a2 a3 k,LeO (impl_climb.f k a0 a1 a2 a3) (impl_climb.f (k + 1) a0 a1 a2 a3) := by
 intro a0 a1 a2 a3 k;have ih0 := impl_climb.mono_l k;exact ih0 a0 a1 a2 a3
set_option maxHeartbeats 8000000 in
set_option maxRecDepth 100000 in
theorem impl_climb.calls (k : Nat) : ∀ (a0 : ByteArray) (a1 : Int) (a2 : Int) (A3 : Option Addr) (c3 : Nat) (l3 : List ByteArray) (r1 : ByteArray) (r2 : Bool) (w : World) (hr3 : Kd.C Kd.string w A3 l3.length l3) (hc3 : l3.length ≤ c3) (h : impl_climb.f k a0 a1 a2 l3 = some (r1,r2)),
  Calls Try.prog 97 #[.string a0,.int .i64 a1,.int .i64 a2,.slice A3 l3.length c3] w fun e w' => e = .returned (.tuple #[.string r1,.bool r2]) ∧ Below w.heap.size w w' := by
 induction k using Nat.strongRecOn with
 | _ k ih =>
 intro a0 a1 a2 A3 c3 l3 r1 r2 w hr3 hc3 h
 cases k with
 | zero => exact absurd h (by simp [impl_climb.f])
 | succ k =>
 simp only [impl_climb.f] at h;have HR3 := Aside0.mk hr3;have HC3 := Aside0.mk hc3;clear hr3 hc3;have HB := Aside0.mk (Below.refl w.heap.size w);have H : (if a2 = 1 then ((impl_LeafDigest.f k a0).bind fun t431 => (some (t431,((l3.length : Int) == 0)))) else (if (wrap64 ((l3.length : Int) - 1)) < 0 then (some ((⟨#[]⟩ : ByteArray),false)) else ((impl_half.f k a2).bind fun t432 => (if a1 < t432 then (if 0 ≤ (wrap64 ((l3.length : Int) - 1)) then (if (wrap64 ((l3.length : Int) - 1)) ≤ (l3.length : Int) then ((impl_climb.f k a0 a1 t432 (l3.take ((wrap64 ((l3.length : Int) - 1)) : Int).toNat)).bind fun bt434 => (if (wrap64 ((l3.length : Int) - 1)) < (l3.length : Int) then ((impl_NodeDigest.f k bt434.1 (rdOf ByteArray.empty l3 (wrap64 ((l3.length : Int) - 1)))).bind fun t437 => (some (t437,bt434.2))) else (none))) else (none)) else (none)) else (if 0 ≤ (wrap64 ((l3.length : Int) - 1)) then (if (wrap64 ((l3.length : Int) - 1)) ≤ (l3.length : Int) then ((impl_climb.f k a0 (wrap64 (a1 - t432)) (wrap64 (a2 - t432)) (l3.take ((wrap64 ((l3.length : Int) - 1)) : Int).toNat)).bind fun bt439 => (if (wrap64 ((l3.length : Int) - 1)) < (l3.length : Int) then ((impl_NodeDigest.f k (rdOf ByteArray.empty l3 (wrap64 ((l3.length : Int) - 1))) bt439.1).bind fun t442 => (some (t442,bt439.2))) else (none))) else (none)) else (none)))))) = some (r1,r2) := h;clear h
 by_cases c5 : a2 = 1
 ·rw [if_pos c5] at H;have c5b0 : (a2 == 1) = true := beq_iff_eq.mpr c5;have c5b1 : (a2 != 1) = false := bne_eq_false_iff_eq.mpr c5;clear c5;replace H := Option.bind_eq_some_iff.mp H;obtain ⟨t431,A60,H⟩ := H;replace H : (some (t431,((l3.length : Int) == 0))) = some (r1,r2) := H;have A6 := Aside0.mk A60;clear A60;simp only [Option.some.injEq,Prod.mk.injEq] at H;obtain ⟨rfl,rfl⟩ := H;go_enter Try.func97,Try.ntmps97
  go_wp2_with (((with_reducible refine gate_callee (f := 111) rfl ?_); refine goesL_ (some 19) rfl rfl Try.func111 (by kernel_rfl) rfl #[.string a0] rfl (by (try simp only [List.map_toArray,List.map_cons,List.map_nil]); rfl) ?_; (with_reducible refine (impl_LeafDigest.calls k a0 t431 _ A6.out).mono ?_); rintro e w7 ⟨rfl,hb⟩; refine ⟨_,rfl,?_⟩; have n0_ := Aside0.mk (below_step HB.out hb); clear HB; have HB := n0_; clear n0_; (try clear hb); skip))
  go_ret2
  exact ⟨by rfl,HB.out⟩
 ·rw [if_neg c5] at H;have c5b0 : (a2 == 1) = false := beq_eq_false_iff_ne.mpr c5;have c5b1 : (a2 != 1) = true := bne_iff_ne.mpr c5
  by_cases c8 : (wrap64 ((l3.length : Int) - 1)) < 0
  ·rw [if_pos c8] at H;have c8b0 : decide ((wrap64 ((l3.length : Int) - 1)) < 0) = true := decide_eq_true c8;clear c8;simp only [Option.some.injEq,Prod.mk.injEq] at H;obtain ⟨rfl,rfl⟩ := H;go_enter Try.func97,Try.ntmps97;go_wp2
   go_ret2
   exact ⟨by rfl,HB.out⟩
  ·rw [if_neg c8] at H;have c8b0 : decide ((wrap64 ((l3.length : Int) - 1)) < 0) = false := decide_eq_false c8;clear c8;replace H := Option.bind_eq_some_iff.mp H;obtain ⟨t432,A90,H⟩ := H;replace H : (if a1 < t432 then (if 0 ≤ (wrap64 ((l3.length : Int) - 1)) then (if (wrap64 ((l3.length : Int) - 1)) ≤ (l3.length : Int) then ((impl_climb.f k a0 a1 t432 (l3.take ((wrap64 ((l3.length : Int) - 1)) : Int).toNat)).bind fun bt434 => (if (wrap64 ((l3.length : Int) - 1)) < (l3.length : Int) then ((impl_NodeDigest.f k bt434.1 (rdOf ByteArray.empty l3 (wrap64 ((l3.length : Int) - 1)))).bind fun t437 => (some (t437,bt434.2))) else (none))) else (none)) else (none)) else (if 0 ≤ (wrap64 ((l3.length : Int) - 1)) then (if (wrap64 ((l3.length : Int) - 1)) ≤ (l3.length : Int) then ((impl_climb.f k a0 (wrap64 (a1 - t432)) (wrap64 (a2 - t432)) (l3.take ((wrap64 ((l3.length : Int) - 1)) : Int).toNat)).bind fun bt439 => (if (wrap64 ((l3.length : Int) - 1)) < (l3.length : Int) then ((impl_NodeDigest.f k (rdOf ByteArray.empty l3 (wrap64 ((l3.length : Int) - 1))) bt439.1).bind fun t442 => (some (t442,bt439.2))) else (none))) else (none)) else (none))) = some (r1,r2) := H;have A9 := Aside0.mk A90;clear A90
   by_cases c10 : a1 < t432
   ·rw [if_pos c10] at H;have c10b0 : decide (a1 < t432) = true := decide_eq_true c10;clear c10;obtain ⟨ji11,hji11⟩ : ∃ j_ : Int,(wrap64 ((l3.length : Int) - 1)) = j_ := ⟨_,rfl⟩
    replace H : (if 0 ≤ (ji11) then (if (ji11) ≤ (l3.length : Int) then ((impl_climb.f k a0 a1 t432 (l3.take ((ji11) : Int).toNat)).bind fun bt434 => (if (ji11) < (l3.length : Int) then ((impl_NodeDigest.f k bt434.1 (rdOf ByteArray.empty l3 (ji11))).bind fun t437 => (some (t437,bt434.2))) else (none))) else (none)) else (none)) = some (r1,r2) := by (rw [hji11] at H; exact H)
    (try rw [hji11] at c8b0)
    skip
    have hji11w : (IntKind.i64.wrap ((l3.length : Int) - 1)) = ji11 := (i64_w _).trans hji11
    by_cases c12 : 0 ≤ (ji11)
    ·rw [if_pos c12] at H;have c12b0 := eq_true c12;have c12b1 : decide (0 ≤ (ji11)) = true := decide_eq_true c12;clear c12
     by_cases c13 : (ji11) ≤ (l3.length : Int)
     ·rw [if_pos c13] at H;have c13b0 := eq_true c13;have c13b1 : decide ((ji11) ≤ (l3.length : Int)) = true := decide_eq_true c13;clear c13;replace H := Option.bind_eq_some_iff.mp H;obtain ⟨⟨t434,t435⟩,A140,H⟩ := H;replace H : (if (ji11) < (l3.length : Int) then ((impl_NodeDigest.f k t434 (rdOf ByteArray.empty l3 (ji11))).bind fun t437 => (some (t437,t435))) else (none)) = some (r1,r2) := H;have A14 := Aside0.mk A140;clear A140
      by_cases c15 : (ji11) < (l3.length : Int)
      ·rw [if_pos c15] at H;have c15b0 : decide ((ji11) < (l3.length : Int)) = true := decide_eq_true c15;clear c15;replace H := Option.bind_eq_some_iff.mp H;obtain ⟨t437,A160,H⟩ := H;replace H : (some (t437,t435)) = some (r1,r2) := H;have A16 := Aside0.mk A160;clear A160;simp only [Option.some.injEq,Prod.mk.injEq] at H;obtain ⟨rfl,rfl⟩ := H;go_enter Try.func97,Try.ntmps97
       go_wp2_with (first | ((with_reducible refine gate_callee (f := 112) rfl ?_); refine goesL_ (some 29) rfl rfl Try.func112 (by kernel_rfl) rfl #[.int .i64 a2] rfl (by (try simp only [List.map_toArray,List.map_cons,List.map_nil]); rfl) ?_; (with_reducible refine (impl_half.calls k a2 t432 _ A9.out).mono ?_); rintro e w' ⟨rfl,⟨nd,rfl⟩⟩; refine ⟨_,rfl,?_⟩; obtain ⟨i017,hi017,_,hsz17,_⟩ := info_parts info9; obtain ⟨hcut17,hA17,hC17⟩ := print_take_of (P := Try.prog) Value.string (⟨#[]⟩ : ByteArray) 74 9 .i64 Try.underlying74 hi017 hsz17 A3 c3 l3 (ji11) (of_decide_eq_true (by (with_reducible assumption))) (of_decide_eq_true (by (with_reducible assumption))) HC3.out; have HR433 := Aside0.mk (Kd.C_of_reads (h1 := fun _ => rfl) (hA17 _ (Kd.reads_of_C HR3.out))); have HC433 := Aside0.mk hC17; clear hA17 hC17 hi017 hsz17) | ((with_reducible refine gate_callee (f := 97) rfl ?_); refine goesL_ (some 40) rfl rfl Try.func97 (by kernel_rfl) rfl #[.string a0,.int .i64 a1,.int .i64 t432,.slice A3 (l3.take ((ji11) : Int).toNat).length c3] rfl (by (try simp only [List.map_toArray,List.map_cons,List.map_nil]); (rw [show (l3.take ((ji11) : Int).toNat).length = (ji11).toNat from (by rw [List.length_take]; have h_ : ((ji11) : Int) ≤ (l3.length : Int) := of_decide_eq_true (by (with_reducible assumption)); omega)] <;> rfl)) ?_; (with_reducible refine (ih k (by omega) a0 a1 t432 _ _ (l3.take ((ji11) : Int).toNat) t434 t435 _ ?side1 ?side2 A14.out).mono ?_); (case side1 => repeat (exact HR433.out)); (case side2 => exact HC433.out); rintro e w18 ⟨rfl,hb⟩; refine ⟨_,rfl,?_⟩; have n0_ := Aside0.mk (below_step (by repeat (with_reducible first | exact HB.out | apply pw_below_drewN)) hb); clear HB; have HB := n0_; clear n0_; (try clear hb); have p436 : 0 ≤ ((ji11) : Int) := of_decide_eq_true (by (with_reducible assumption)); have q436 : (ji11) < (l3.length : Int) := of_decide_eq_true (by (with_reducible assumption)); obtain ⟨ad436,e436,hx436_0⟩ := Kd.at_string HR3.out (ji11) p436 q436; cases e436; replace hx436_0 := (HB.out.cell (World.block_lt_of_cell? w _ hx436_0)).trans hx436_0; replace p436 := eq_true p436; replace q436 := eq_true q436) | ((with_reducible refine gate_callee (f := 113) rfl ?_); refine goesL_ (some 48) rfl rfl Try.func113 (by kernel_rfl) rfl #[.string t434,.string (rdOf ByteArray.empty l3 (ji11))] rfl (by (try simp only [List.map_toArray,List.map_cons,List.map_nil]); rfl) ?_; (with_reducible refine (impl_NodeDigest.calls k t434 (rdOf ByteArray.empty l3 (ji11)) t437 _ A16.out).mono ?_); rintro e w19 ⟨rfl,hb⟩; refine ⟨_,rfl,?_⟩; have n0_ := Aside0.mk (below_step HB.out hb); clear HB; have HB := n0_; clear n0_; (try clear hb); skip))
       go_ret2
       exact ⟨by rfl,HB.out⟩
      ·rw [if_neg c15] at H;exact absurd H (by simp)
     ·rw [if_neg c13] at H;exact absurd H (by simp)
    ·rw [if_neg c12] at H;exact absurd H (by simp)
   ·rw [if_neg c10] at H;have c10b0 : decide (a1 < t432) = false := decide_eq_false c10;clear c10;obtain ⟨ji20,hji20⟩ : ∃ j_ : Int,(wrap64 ((l3.length : Int) - 1)) = j_ := ⟨_,rfl⟩
    replace H : (if 0 ≤ (ji20) then (if (ji20) ≤ (l3.length : Int) then ((impl_climb.f k a0 (wrap64 (a1 - t432)) (wrap64 (a2 - t432)) (l3.take ((ji20) : Int).toNat)).bind fun bt439 => (if (ji20) < (l3.length : Int) then ((impl_NodeDigest.f k (rdOf ByteArray.empty l3 (ji20)) bt439.1).bind fun t442 => (some (t442,bt439.2))) else (none))) else (none)) else (none)) = some (r1,r2) := by (rw [hji20] at H; exact H)
    (try rw [hji20] at c8b0)
    skip
    have hji20w : (IntKind.i64.wrap ((l3.length : Int) - 1)) = ji20 := (i64_w _).trans hji20
    by_cases c21 : 0 ≤ (ji20)
    ·rw [if_pos c21] at H;have c21b0 := eq_true c21;have c21b1 : decide (0 ≤ (ji20)) = true := decide_eq_true c21;clear c21
     by_cases c22 : (ji20) ≤ (l3.length : Int)
     ·rw [if_pos c22] at H;have c22b0 := eq_true c22;have c22b1 : decide ((ji20) ≤ (l3.length : Int)) = true := decide_eq_true c22;clear c22;replace H := Option.bind_eq_some_iff.mp H;obtain ⟨⟨t439,t440⟩,A230,H⟩ := H;replace H : (if (ji20) < (l3.length : Int) then ((impl_NodeDigest.f k (rdOf ByteArray.empty l3 (ji20)) t439).bind fun t442 => (some (t442,t440))) else (none)) = some (r1,r2) := H;have A23 := Aside0.mk A230;clear A230
      by_cases c24 : (ji20) < (l3.length : Int)
      ·rw [if_pos c24] at H;have c24b0 : decide ((ji20) < (l3.length : Int)) = true := decide_eq_true c24;clear c24;replace H := Option.bind_eq_some_iff.mp H;obtain ⟨t442,A250,H⟩ := H;replace H : (some (t442,t440)) = some (r1,r2) := H;have A25 := Aside0.mk A250;clear A250;simp only [Option.some.injEq,Prod.mk.injEq] at H;obtain ⟨rfl,rfl⟩ := H;go_enter Try.func97,Try.ntmps97
       go_wp2_with (first | ((with_reducible refine gate_callee (f := 112) rfl ?_); refine goesL_ (some 29) rfl rfl Try.func112 (by kernel_rfl) rfl #[.int .i64 a2] rfl (by (try simp only [List.map_toArray,List.map_cons,List.map_nil]); rfl) ?_; (with_reducible refine (impl_half.calls k a2 t432 _ A9.out).mono ?_); rintro e w' ⟨rfl,⟨nd,rfl⟩⟩; refine ⟨_,rfl,?_⟩; obtain ⟨i026,hi026,_,hsz26,_⟩ := info_parts info9; obtain ⟨hcut26,hA26,hC26⟩ := print_take_of (P := Try.prog) Value.string (⟨#[]⟩ : ByteArray) 74 9 .i64 Try.underlying74 hi026 hsz26 A3 c3 l3 (ji20) (of_decide_eq_true (by (with_reducible assumption))) (of_decide_eq_true (by (with_reducible assumption))) HC3.out; have HR438 := Aside0.mk (Kd.C_of_reads (h1 := fun _ => rfl) (hA26 _ (Kd.reads_of_C HR3.out))); have HC438 := Aside0.mk hC26; clear hA26 hC26 hi026 hsz26) | ((with_reducible refine gate_callee (f := 97) rfl ?_); refine goesL_ (some 61) rfl rfl Try.func97 (by kernel_rfl) rfl #[.string a0,.int .i64 (wrap64 (a1 - t432)),.int .i64 (wrap64 (a2 - t432)),.slice A3 (l3.take ((ji20) : Int).toNat).length c3] rfl (by (try simp only [List.map_toArray,List.map_cons,List.map_nil]); (rw [show (l3.take ((ji20) : Int).toNat).length = (ji20).toNat from (by rw [List.length_take]; have h_ : ((ji20) : Int) ≤ (l3.length : Int) := of_decide_eq_true (by (with_reducible assumption)); omega)] <;> rfl)) ?_; (with_reducible refine (ih k (by omega) a0 (wrap64 (a1 - t432)) (wrap64 (a2 - t432)) _ _ (l3.take ((ji20) : Int).toNat) t439 t440 _ ?side1 ?side2 A23.out).mono ?_); (case side1 => repeat (exact HR438.out)); (case side2 => exact HC438.out); rintro e w27 ⟨rfl,hb⟩; refine ⟨_,rfl,?_⟩; have n0_ := Aside0.mk (below_step (by repeat (with_reducible first | exact HB.out | apply pw_below_drewN)) hb); clear HB; have HB := n0_; clear n0_; (try clear hb); have p441 : 0 ≤ ((ji20) : Int) := of_decide_eq_true (by (with_reducible assumption)); have q441 : (ji20) < (l3.length : Int) := of_decide_eq_true (by (with_reducible assumption)); obtain ⟨ad441,e441,hx441_0⟩ := Kd.at_string HR3.out (ji20) p441 q441; cases e441; replace hx441_0 := (HB.out.cell (World.block_lt_of_cell? w _ hx441_0)).trans hx441_0; replace p441 := eq_true p441; replace q441 := eq_true q441) | ((with_reducible refine gate_callee (f := 113) rfl ?_); refine goesL_ (some 69) rfl rfl Try.func113 (by kernel_rfl) rfl #[.string (rdOf ByteArray.empty l3 (ji20)),.string t439] rfl (by (try simp only [List.map_toArray,List.map_cons,List.map_nil]); rfl) ?_; (with_reducible refine (impl_NodeDigest.calls k (rdOf ByteArray.empty l3 (ji20)) t439 t442 _ A25.out).mono ?_); rintro e w28 ⟨rfl,hb⟩; refine ⟨_,rfl,?_⟩; have n0_ := Aside0.mk (below_step HB.out hb); clear HB; have HB := n0_; clear n0_; (try clear hb); skip))
       go_ret2
       exact ⟨by rfl,HB.out⟩
      ·rw [if_neg c24] at H;exact absurd H (by simp)
     ·rw [if_neg c22] at H;exact absurd H (by simp)
    ·rw [if_neg c21] at H;exact absurd H (by simp)

/-! ### impl_CheckPath: function 50 -/
def impl_CheckPath.f (k : Nat) (a0 : ByteArray) (a1 : Int) (a2 : Int) (l3 : List ByteArray) (a4 : ByteArray) : Option (Bool) := (impl_inRange.f a2 1 64).bind fun t443 => (if t443 = true then ((impl_inRange.f a1 0 (wrap64 (a2 - 1))).bind fun t444 => (if t444 = true then ((impl_climb.f k a0 a1 a2 l3).bind fun bt445 => (if bt445.2 = true then (some (bt445.1.toList == a4.toList)) else (some false))) else (some false))) else (some false))
theorem impl_CheckPath.mono : ∀ a0 a1 a2 a3 a4 k,LeO (impl_CheckPath.f k a0 a1 a2 a3 a4) (impl_CheckPath.f (k + 1) a0 a1 a2 a3 a4) := by
 intro a0 a1 a2 a3 a4 k;unfold impl_CheckPath.f
 repeat' first
   | (with_reducible exact impl_climb.mono _ _ _ _ _)
   | (with_reducible exact LeO.refl _)
   | (with_reducible exact LeO.none _)
   | (with_reducible refine LeO.ite ?_ ?_)
   | (with_reducible refine LeO.bind ?_ (fun _ => ?_))
   | exact impl_climb.mono _ _ _ _ _
   | exact LeO.none _
set_option maxHeartbeats 8000000 in
set_option maxRecDepth 100000 in
theorem impl_CheckPath.calls (k : Nat) (a0 : ByteArray) (a1 : Int) (a2 : Int) (A3 : Option Addr) (c3 : Nat) (l3 : List ByteArray) (a4 : ByteArray) (r : Bool) (w : World) (hr3 : Kd.C Kd.string w A3 l3.length l3) (hc3 : l3.length ≤ c3) (h : impl_CheckPath.f k a0 a1 a2 l3 a4 = some r) :
  Calls Try.prog 50 #[.string a0,.int .i64 a1,.int .i64 a2,.slice A3 l3.length c3,.string a4] w fun e w' => e = .returned (.bool r) ∧ Below w.heap.size w w' := by
 have HR3 := Aside0.mk hr3;have HC3 := Aside0.mk hc3;clear hr3 hc3;have HB := Aside0.mk (Below.refl w.heap.size w);have H : ((impl_inRange.f a2 1 64).bind fun t443 => (if t443 = true then ((impl_inRange.f a1 0 (wrap64 (a2 - 1))).bind fun t444 => (if t444 = true then ((impl_climb.f k a0 a1 a2 l3).bind fun bt445 => (if bt445.2 = true then (some (bt445.1.toList == a4.toList)) else (some false))) else (some false))) else (some false))) = some r := h;clear h;replace H := Option.bind_eq_some_iff.mp H;obtain ⟨t443,A60,H⟩ := H;replace H : (if t443 = true then ((impl_inRange.f a1 0 (wrap64 (a2 - 1))).bind fun t444 => (if t444 = true then ((impl_climb.f k a0 a1 a2 l3).bind fun bt445 => (if bt445.2 = true then (some (bt445.1.toList == a4.toList)) else (some false))) else (some false))) else (some false)) = some r := H;have A6 := Aside0.mk A60;clear A60
 by_cases c7 : t443 = true
 ·subst c7
  have H1 : ((impl_inRange.f a1 0 (wrap64 (a2 - 1))).bind fun t444 => (if t444 = true then ((impl_climb.f k a0 a1 a2 l3).bind fun bt445 => (if bt445.2 = true then (some (bt445.1.toList == a4.toList)) else (some false))) else (some false))) = some r := by rw [if_pos rfl] at H; exact H
  clear H;have H := H1;clear H1;replace H := Option.bind_eq_some_iff.mp H;obtain ⟨t444,A80,H⟩ := H;replace H : (if t444 = true then ((impl_climb.f k a0 a1 a2 l3).bind fun bt445 => (if bt445.2 = true then (some (bt445.1.toList == a4.toList)) else (some false))) else (some false)) = some r := H;have A8 := Aside0.mk A80;clear A80
  by_cases c9 : t444 = true
  ·subst c9
   have H1 : ((impl_climb.f k a0 a1 a2 l3).bind fun bt445 => (if bt445.2 = true then (some (bt445.1.toList == a4.toList)) else (some false))) = some r := by rw [if_pos rfl] at H; exact H
   clear H;have H := H1;clear H1;replace H := Option.bind_eq_some_iff.mp H;obtain ⟨⟨t445,t446⟩,A100,H⟩ := H;replace H : (if t446 = true then (some (t445.toList == a4.toList)) else (some false)) = some r := H;have A10 := Aside0.mk A100;clear A100
   by_cases c11 : t446 = true
   ·subst c11
    have H1 : (some (t445.toList == a4.toList)) = some r := by rw [if_pos rfl] at H; exact H
    clear H;have H := H1;clear H1;obtain rfl := Option.some.inj H;go_enter Try.func50,Try.ntmps50
    go_wp2_with (first | ((with_reducible refine gate_callee (f := 69) rfl ?_); refine goesL_ (some 14) rfl rfl Try.func69 (by kernel_rfl) rfl #[.int .i64 a2,.int .i64 1,.int .i64 64] rfl (by (try simp only [List.map_toArray,List.map_cons,List.map_nil]); rfl) ?_; (with_reducible refine (impl_inRange.calls a2 1 64 true _ A6.out).mono ?_); rintro e w' ⟨rfl,⟨nd,rfl⟩⟩; refine ⟨_,rfl,?_⟩) | (go_at_call 69; (with_reducible refine (impl_inRange.calls a1 0 (wrap64 (a2 - 1)) true _ A8.out).mono ?_); rintro e w' ⟨rfl,⟨nd,rfl⟩⟩) | ((with_reducible refine gate_callee (f := 97) rfl ?_); refine goesL_ (some 28) rfl rfl Try.func97 (by kernel_rfl) rfl #[.string a0,.int .i64 a1,.int .i64 a2,.slice A3 l3.length c3] rfl (by (try simp only [List.map_toArray,List.map_cons,List.map_nil]); rfl) ?_; (with_reducible refine (impl_climb.calls k a0 a1 a2 _ _ l3 t445 true _ ?side1 ?side2 A10.out).mono ?_); (case side1 => repeat (exact HR3.out)); (case side2 => exact HC3.out); rintro e w12 ⟨rfl,hb⟩; refine ⟨_,rfl,?_⟩; have n0_ := Aside0.mk (below_step (by repeat (with_reducible first | exact HB.out | apply pw_below_drewN)) hb); clear HB; have HB := n0_; clear n0_; (try clear hb); skip))
    go_ret;exact ⟨by rfl,HB.out⟩
   ·replace c11 := Bool.eq_false_iff.mpr c11;subst c11
    have H1 : (some false) = some r := by rw [if_neg (show ¬ (false = true) by decide)] at H; exact H
    clear H;have H := H1;clear H1;obtain rfl := Option.some.inj H;go_enter Try.func50,Try.ntmps50
    go_wp2_with (first | ((with_reducible refine gate_callee (f := 69) rfl ?_); refine goesL_ (some 14) rfl rfl Try.func69 (by kernel_rfl) rfl #[.int .i64 a2,.int .i64 1,.int .i64 64] rfl (by (try simp only [List.map_toArray,List.map_cons,List.map_nil]); rfl) ?_; (with_reducible refine (impl_inRange.calls a2 1 64 true _ A6.out).mono ?_); rintro e w' ⟨rfl,⟨nd,rfl⟩⟩; refine ⟨_,rfl,?_⟩) | (go_at_call 69; (with_reducible refine (impl_inRange.calls a1 0 (wrap64 (a2 - 1)) true _ A8.out).mono ?_); rintro e w' ⟨rfl,⟨nd,rfl⟩⟩) | ((with_reducible refine gate_callee (f := 97) rfl ?_); refine goesL_ (some 28) rfl rfl Try.func97 (by kernel_rfl) rfl #[.string a0,.int .i64 a1,.int .i64 a2,.slice A3 l3.length c3] rfl (by (try simp only [List.map_toArray,List.map_cons,List.map_nil]); rfl) ?_; (with_reducible refine (impl_climb.calls k a0 a1 a2 _ _ l3 t445 false _ ?side1 ?side2 A10.out).mono ?_); (case side1 => repeat (exact HR3.out)); (case side2 => exact HC3.out); rintro e w13 ⟨rfl,hb⟩; refine ⟨_,rfl,?_⟩; have n0_ := Aside0.mk (below_step (by repeat (with_reducible first | exact HB.out | apply pw_below_drewN)) hb); clear HB; have HB := n0_; clear n0_; (try clear hb); skip))
    go_ret;exact ⟨by rfl,HB.out⟩
  ·replace c9 := Bool.eq_false_iff.mpr c9;subst c9
   have H1 : (some false) = some r := by rw [if_neg (show ¬ (false = true) by decide)] at H; exact H
   clear H;have H := H1;clear H1;obtain rfl := Option.some.inj H;go_enter Try.func50,Try.ntmps50
   go_wp2_with (first | ((with_reducible refine gate_callee (f := 69) rfl ?_); refine goesL_ (some 14) rfl rfl Try.func69 (by kernel_rfl) rfl #[.int .i64 a2,.int .i64 1,.int .i64 64] rfl (by (try simp only [List.map_toArray,List.map_cons,List.map_nil]); rfl) ?_; (with_reducible refine (impl_inRange.calls a2 1 64 true _ A6.out).mono ?_); rintro e w' ⟨rfl,⟨nd,rfl⟩⟩; refine ⟨_,rfl,?_⟩) | (go_at_call 69; (with_reducible refine (impl_inRange.calls a1 0 (wrap64 (a2 - 1)) false _ A8.out).mono ?_); rintro e w' ⟨rfl,⟨nd,rfl⟩⟩))
   go_ret;exact ⟨by rfl,by repeat (with_reducible first | exact HB.out | apply pw_below_drewN)⟩
 ·replace c7 := Bool.eq_false_iff.mpr c7;subst c7
  have H1 : (some false) = some r := by rw [if_neg (show ¬ (false = true) by decide)] at H; exact H
  clear H;have H := H1;clear H1;obtain rfl := Option.some.inj H;go_enter Try.func50,Try.ntmps50
  go_wp2_with (((with_reducible refine gate_callee (f := 69) rfl ?_); refine goesL_ (some 14) rfl rfl Try.func69 (by kernel_rfl) rfl #[.int .i64 a2,.int .i64 1,.int .i64 64] rfl (by (try simp only [List.map_toArray,List.map_cons,List.map_nil]); rfl) ?_; (with_reducible refine (impl_inRange.calls a2 1 64 false _ A6.out).mono ?_); rintro e w' ⟨rfl,⟨nd,rfl⟩⟩; refine ⟨_,rfl,?_⟩))
  go_ret;exact ⟨by rfl,by repeat (with_reducible first | exact HB.out | apply pw_below_drewN)⟩

end Go.Proofs.Ytcbpfofkdipjhaa.PI
