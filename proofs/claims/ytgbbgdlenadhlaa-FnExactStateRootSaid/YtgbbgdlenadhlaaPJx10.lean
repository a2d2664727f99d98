/- The machine's side of Go functions: each as a plain function,and that the call does what it says. Written by a program (wip/mprint). -/
import Derived.Test.YtgbbgdlenadhlaaPJx0
import Derived.Test.YtgbbgdlenadhlaaPJx9
namespace Go.Proofs.Ytgbbgdlenadhlaa.PJ
open Go.RowKit Go.Proofs.YtgbbgdlenadhlaaW.PrintWords Go.Proofs.YtgbbgdlenadhlaaW.PrintLast Go.Proofs.YtgbbgdlenadhlaaW.PrintMore
attribute [local wf_preprocess] Act.put List.setIfInBounds_toArray List.set_cons_zero List.set_cons_succ i64_w i32_w
attribute [local go_sem] max2_int min2_int max_two min_two max_three min_three max_four min_four   -- for this text's walks alone
set_option linter.unusedVariables false
set_option linter.unusedSimpArgs false

/-! ### spec_l3Root: function 62 -/
def spec_l3Root.f : Nat → List ByteArray → Option (ByteArray)
 | 0,_ => none
 | k + 1,l0 => if (l0.length : Int) = 0 then ((spec_Digest.f k ([] : List Int)).bind fun t337 => (some t337)) else (if (l0.length : Int) = 1 then (if 0 < (l0.length : Int) then ((spec_LeafDigest.f k (rdOf ByteArray.empty l0 0)).bind fun t339 => (some t339)) else (none)) else ((spec_l3Half.f k (l0.length : Int)).bind fun t340 => (if 0 ≤ t340 then (if t340 ≤ (l0.length : Int) then ((spec_l3Root.f k (l0.take (t340 : Int).toNat)).bind fun t342 => ((spec_l3Root.f k (l0.drop (t340 : Int).toNat)).bind fun t344 => ((spec_NodeDigest.f k t342 t344).bind fun t345 => (some t345)))) else (none)) else (none))))
theorem spec_l3Root.mono_l : ∀ k,(∀ y0,LeO (spec_l3Root.f k y0) (spec_l3Root.f (k + 1) y0))
 | 0 => fun _ r h => by simp [spec_l3Root.f] at h
 | k + 1 => by
  have ih0 := spec_l3Root.mono_l k
  ·intro y0;unfold spec_l3Root.f
   repeat' first
   | (with_reducible exact ih0 _)
   | (with_reducible exact spec_Digest.mono _ _)
   | (with_reducible exact spec_LeafDigest.mono _ _)
   | (with_reducible exact spec_NodeDigest.mono _ _ _)
   | (with_reducible exact spec_l3Half.mono _ _)
   | (with_reducible exact LeO.refl _)
   | (with_reducible exact LeO.none _)
   | (with_reducible refine LeO.ite ?_ ?_)
   | (with_reducible refine LeO.bind ?_ (fun _ => ?_))
   | exact ih0 _
   | exact spec_Digest.mono _ _
   | exact spec_LeafDigest.mono _ _
   | exact spec_NodeDigest.mono _ _ _
   | exact spec_l3Half.mono _ _
   | exact LeO.none _
theorem spec_l3Root.mono : ∀ a0 k,LeO (spec_l3Root.f k a0) (spec_l3Root.f (k + 1) a0) := by
 intro a0 k;have ih0 := spec_l3Root.mono_l k;exact ih0 a0
def spec_l3Root.T7 : Bool × List (List Nat × List Nat) := (true,[([],[]),([],[]),([0,1],[0,1]),([2],[2]),([],[]),([],[]),([4,5],[4,5]),([6,3],[6]),([3,7,7],[3,7]),([8,8,0,1,2,3,4,5,6,7,8],[8])])
def spec_l3Root.B7 : List Nat := [0,0,3,7,0,0,48,127,255,511]
theorem spec_l3Root.tab7 : rtab .any (opsOf Try.f62 7) = spec_l3Root.T7 := by kernel_rfl
theorem spec_l3Root.bits7 : waitsOk spec_l3Root.T7.2 spec_l3Root.B7 = true := by kernel_rfl
set_option maxHeartbeats 8000000 in
set_option maxRecDepth 100000 in
theorem spec_l3Root.calls (k : Nat) : ∀ (A0 : Option Addr) (c0 : Nat) (l0 : List ByteArray) (r : ByteArray) (w : World) (hr0 : Kd.C Kd.string w A0 l0.length l0) (hc0 : l0.length ≤ c0) (h : spec_l3Root.f k l0 = some r),
  Calls Try.prog 62 #[.slice A0 l0.length c0] w fun e w' => e = .returned (.string r) ∧ Below w.heap.size w w' := by
 induction k using Nat.strongRecOn with
 | _ k ih =>
 intro A0 c0 l0 r w hr0 hc0 h
 cases k with
 | zero => exact absurd h (by simp [spec_l3Root.f])
 | succ k =>
 simp only [spec_l3Root.f] at h;have HR0 := Aside0.mk hr0;have HC0 := Aside0.mk hc0;clear hr0 hc0;have HB := Aside0.mk (Below.refl w.heap.size w);have H : (if (l0.length : Int) = 0 then ((spec_Digest.f k ([] : List Int)).bind fun t337 => (some t337)) else (if (l0.length : Int) = 1 then (if 0 < (l0.length : Int) then ((spec_LeafDigest.f k (rdOf ByteArray.empty l0 0)).bind fun t339 => (some t339)) else (none)) else ((spec_l3Half.f k (l0.length : Int)).bind fun t340 => (if 0 ≤ t340 then (if t340 ≤ (l0.length : Int) then ((spec_l3Root.f k (l0.take (t340 : Int).toNat)).bind fun t342 => ((spec_l3Root.f k (l0.drop (t340 : Int).toNat)).bind fun t344 => ((spec_NodeDigest.f k t342 t344).bind fun t345 => (some t345)))) else (none)) else (none))))) = some r := h;clear h
 by_cases c2 : (l0.length : Int) = 0
 ·rw [if_pos c2] at H;have c2b0 : ((l0.length : Int) == 0) = true := beq_iff_eq.mpr c2;have c2b1 : ((l0.length : Int) != 0) = false := bne_eq_false_iff_eq.mpr c2;clear c2;obtain ⟨y334,hy334⟩ : ∃ y_ : List Int,y_ = ([] : List Int) := ⟨_,rfl⟩
  replace H : ((spec_Digest.f k y334).bind fun t337 => (some t337)) = some r := by (rw [hy334]; with_reducible exact H)
  have Ny334 := Aside0.mk hy334;clear hy334;replace H := Option.bind_eq_some_iff.mp H;obtain ⟨t337,A30,H⟩ := H;replace H : (some t337) = some r := H;have A3 := Aside0.mk A30;clear A30;obtain rfl := Option.some.inj H;go_enter Try.func62,Try.ntmps62
  go_wp2_with (first | ((with_reducible refine gate_dst (N := 8) rfl ?_); refine Kd.R_lit (Kd.int .u8) _ 5 ?hg (N := 8) ?hd (xs := ([] : List Int)) (inner := []) (ok := fun _ => True) (okp := fun _ => True) ?hr ?hp (fun _ hk => hk) trivial (Below.refl _ _) (Nat.le_refl _) (by simp) ?_; (case hd => rfl); (case hg => rfl); (case hr => (go_simp; done)); (case hp => exact (Reps.none _ _)); intro v335 w4 ho5 hb hg_ hnew_; clear hg_ hnew_; (rw [← Ny334.out] at ho5); have n0_ := Aside0.mk (Kd.R_lower ho5 (below_size HB.out)); have n1_ := Aside0.mk (below_step HB.out hb); clear HB; have HO336 := n0_; have HB := n1_; clear n0_ n1_; clear hb ho5; obtain ⟨Ao6,co6,eo6⟩ := Kd.R_slice HO336.out; subst eo6) | ((with_reducible refine gate_callee (f := 21) rfl ?_); refine goesL_ (some 9) rfl rfl Try.func21 (by kernel_rfl) rfl #[.slice Ao6 y334.length co6] rfl (by (try simp only [List.map_toArray,List.map_cons,List.map_nil]); rfl) ?_; (with_reducible refine (spec_Digest.calls k _ _ y334 t337 _ ?side1 ?side2 A3.out).mono ?_); (case side1 => repeat (exact (Kd.R_reads' HO336.out).2.2)); (case side2 => exact (Kd.R_reads' HO336.out).2.1); rintro e w7 ⟨rfl,hb⟩; refine ⟨_,rfl,?_⟩; have n0_ := Aside0.mk (Kd.R_below (by exact HO336.out) hb); have n1_ := Aside0.mk (below_step HB.out hb); clear HO336; clear HB; have HO336 := n0_; have HB := n1_; clear n0_ n1_; (try clear hb); skip))
  go_ret;exact ⟨by rfl,HB.out⟩
 ·rw [if_neg c2] at H;have c2b0 : ((l0.length : Int) == 0) = false := beq_eq_false_iff_ne.mpr c2;have c2b1 : ((l0.length : Int) != 0) = true := bne_iff_ne.mpr c2
  have c2b2 : ¬ (l0 = []) := fun h_ => c2 (by rw [h_]; rfl)
  by_cases c8 : (l0.length : Int) = 1
  ·rw [if_pos c8] at H;have c8b0 : ((l0.length : Int) == 1) = true := beq_iff_eq.mpr c8;have c8b1 : ((l0.length : Int) != 1) = false := bne_eq_false_iff_eq.mpr c8;clear c8
   by_cases c9 : 0 < (l0.length : Int)
   ·rw [if_pos c9] at H;have c9b0 : decide (0 < (l0.length : Int)) = true := decide_eq_true c9;have c9b1 : decide (0 < l0.length) = true := decide_eq_true (by omega);clear c9;replace H := Option.bind_eq_some_iff.mp H;obtain ⟨t339,A100,H⟩ := H;replace H : (some t339) = some r := H;have A10 := Aside0.mk A100;clear A100;obtain rfl := Option.some.inj H;have p338 : 0 ≤ (0 : Int) := (by omega);have q338 : 0 < (l0.length : Int) := of_decide_eq_true (by (with_reducible assumption));obtain ⟨ad338,e338,hx338_0⟩ := Kd.at_string HR0.out 0 p338 q338
    cases e338
    have qi338 : (0 < l0.length) = True := eq_true (by omega)
    (try rw [show (0 : Int).toNat = 0 from rfl] at hx338_0)
    (try rw [Addr.add_zero'] at hx338_0)
    replace p338 := eq_true p338;replace q338 := eq_true q338;go_enter Try.func62,Try.ntmps62
    go_wp2_with ((with_reducible refine gate_callee (f := 19) rfl ?_); refine goesL_ (some 15) rfl rfl Try.func19 (by kernel_rfl) rfl #[.string (rdOf ByteArray.empty l0 0)] rfl (by (try simp only [List.map_toArray,List.map_cons,List.map_nil]); rfl) ?_; (with_reducible refine (spec_LeafDigest.calls k (rdOf ByteArray.empty l0 0) t339 _ A10.out).mono ?_); rintro e w11 ⟨rfl,hb⟩; refine ⟨_,rfl,?_⟩; have n0_ := Aside0.mk (below_step HB.out hb); clear HB; have HB := n0_; clear n0_; (try clear hb); skip)
    go_ret;exact ⟨by rfl,HB.out⟩
   ·rw [if_neg c9] at H;exact absurd H (by simp)
  ·rw [if_neg c8] at H;have c8b0 : ((l0.length : Int) == 1) = false := beq_eq_false_iff_ne.mpr c8;have c8b1 : ((l0.length : Int) != 1) = true := bne_iff_ne.mpr c8;replace H := Option.bind_eq_some_iff.mp H;obtain ⟨t340,A120,H⟩ := H;replace H : (if 0 ≤ t340 then (if t340 ≤ (l0.length : Int) then ((spec_l3Root.f k (l0.take (t340 : Int).toNat)).bind fun t342 => ((spec_l3Root.f k (l0.drop (t340 : Int).toNat)).bind fun t344 => ((spec_NodeDigest.f k t342 t344).bind fun t345 => (some t345)))) else (none)) else (none)) = some r := H;have A12 := Aside0.mk A120;clear A120
   by_cases c13 : 0 ≤ t340
   ·rw [if_pos c13] at H;have c13b0 := eq_true c13;have c13b1 : decide (0 ≤ t340) = true := decide_eq_true c13;clear c13
    by_cases c14 : t340 ≤ (l0.length : Int)
    ·rw [if_pos c14] at H;have c14b0 := eq_true c14;have c14b1 : decide (t340 ≤ (l0.length : Int)) = true := decide_eq_true c14;clear c14;replace H := Option.bind_eq_some_iff.mp H;obtain ⟨t342,A150,H⟩ := H;replace H : ((spec_l3Root.f k (l0.drop (t340 : Int).toNat)).bind fun t344 => ((spec_NodeDigest.f k t342 t344).bind fun t345 => (some t345))) = some r := H;have A15 := Aside0.mk A150;clear A150;have c16b0 := eq_true (of_decide_eq_true (by (with_reducible assumption)) : 0 ≤ t340);have c17b0 := eq_true (of_decide_eq_true (by (with_reducible assumption)) : t340 ≤ (l0.length : Int));replace H := Option.bind_eq_some_iff.mp H;obtain ⟨t344,A180,H⟩ := H;replace H : ((spec_NodeDigest.f k t342 t344).bind fun t345 => (some t345)) = some r := H;have A18 := Aside0.mk A180;clear A180;replace H := Option.bind_eq_some_iff.mp H;obtain ⟨t345,A190,H⟩ := H;replace H : (some t345) = some r := H;have A19 := Aside0.mk A190;clear A190;obtain rfl := Option.some.inj H;go_enter Try.func62,Try.ntmps62
     try go_wp2_with ((with_reducible refine gate_callee (f := 86) rfl ?_); refine goesL_ (some 18) rfl rfl Try.func86 (by kernel_rfl) rfl #[.int .i64 (l0.length : Int)] rfl (by (try simp only [List.map_toArray,List.map_cons,List.map_nil]); rfl) ?_; (with_reducible refine (spec_l3Half.calls k (l0.length : Int) t340 _ A12.out).mono ?_); rintro e w' ⟨rfl,⟨nd,rfl⟩⟩; refine ⟨_,rfl,?_⟩)
     have n0_ := Aside0.mk (below_drew1 (pw_below_drewN HB.out nd));clear HB;have HB := n0_;clear n0_;obtain ⟨i021,hi021,_,hsz21,_⟩ := info_parts info9;obtain ⟨hcut21,hA21,hC21⟩ := print_take_of (P := Try.prog) Value.string (⟨#[]⟩ : ByteArray) 24 9 .i64 Try.underlying24 hi021 hsz21 A0 c0 l0 t340 (of_decide_eq_true (by (with_reducible assumption))) (of_decide_eq_true (by (with_reducible assumption))) HC0.out;have HR341 := Aside0.mk (Kd.C_of_reads (h1 := fun _ => rfl) (hA21 _ (Kd.reads_of_C HR0.out)));have HC341 := Aside0.mk hC21;clear hA21 hC21 hi021 hsz21;obtain ⟨i022,hi022,_,hsz22,_⟩ := info_parts info9;obtain ⟨A22,hcut22,hA22,hC22⟩ := print_drop_of (P := Try.prog) Value.string (⟨#[]⟩ : ByteArray) 24 9 .i64 Try.underlying24 hi022 hsz22 A0 c0 l0 t340 (of_decide_eq_true (by (with_reducible assumption))) (of_decide_eq_true (by (with_reducible assumption))) HC0.out;have HR343 := Aside0.mk (Kd.C_of_reads (h1 := fun _ => rfl) (hA22 _ (Kd.reads_of_C HR0.out)));have HC343 := Aside0.mk hC22;clear hA22 hC22 hi022 hsz22;refine start_ (n := 10) (S := fun w' => True) (ds := []) #[false,false,false,false,false,false,false,false,false,false] (by kernel_rfl) rfl rfl trivial (fun hHeld => ?_); refine with_tabW spec_l3Root.tab7 spec_l3Root.bits7 (fun HT_ HW_ => ?_)
     generalize (w.drewN nd).drew = w20 at HB HR341 HR343 hHeld ⊢
     refine pure_ (i := 0) (N := some 19) (v := ?_) (a' := ?_) #[true,false,false,false,false,false,false,false,false,false] rfl rfl (any_of HT_.out (by kernel_rfl)) (fun _ _ _ h => h) (Or.inl ⟨by rfl,?_⟩) ?_ ?_;rotate_left
     ·intro w';go_simp;with_reducible rfl
     rotate_left
     ·simp only [wf_preprocess];rfl
     refine pure_ (i := 1) (N := some 20) (v := ?_) (a' := ?_) #[true,true,false,false,false,false,false,false,false,false] rfl rfl (any_of HT_.out (by kernel_rfl)) (fun _ _ _ h => h) (Or.inl ⟨by rfl,?_⟩) ?_ ?_;rotate_left
     ·intro w';go_simp;with_reducible rfl
     rotate_left
     ·simp only [wf_preprocess];rfl
     refine pure_ (i := 2) (N := some 21) (v := ?_) (a' := ?_) #[true,true,true,false,false,false,false,false,false,false] rfl rfl (any_of HT_.out (by kernel_rfl)) (fun _ _ _ h => h) (Or.inl ⟨by rfl,?_⟩) ?_ ?_;rotate_left
     ·intro w';go_simp;with_reducible rfl
     rotate_left
     ·simp only [wf_preprocess];rfl
     refine pure_ (i := 4) (N := some 23) (v := ?_) (a' := ?_) #[true,true,true,false,true,false,false,false,false,false] rfl rfl (any_of HT_.out (by kernel_rfl)) (fun _ _ _ h => h) (Or.inl ⟨by rfl,?_⟩) ?_ ?_;rotate_left
     ·intro w';go_simp;with_reducible rfl
     rotate_left
     ·simp only [wf_preprocess];rfl
     refine pure_ (i := 5) (N := some 24) (v := ?_) (a' := ?_) #[true,true,true,false,true,true,false,false,false,false] rfl rfl (any_of HT_.out (by kernel_rfl)) (fun _ _ _ h => h) (Or.inl ⟨by rfl,?_⟩) ?_ ?_;rotate_left
     ·intro w';go_simp;with_reducible rfl
     rotate_left
     ·simp only [wf_preprocess];rfl
     refine pure_ (i := 6) (N := some 25) (v := ?_) (a' := ?_) #[true,true,true,false,true,true,true,false,false,false] rfl rfl (any_of HT_.out (by kernel_rfl)) (fun _ _ _ h => h) (Or.inl ⟨by rfl,?_⟩) ?_ ?_;rotate_left
     ·intro w';go_simp;with_reducible rfl
     rotate_left
     ·simp only [wf_preprocess];rfl
     refine one_ (i := 3) (N := some 22) #[true,true,true,true,true,true,true,false,false,false] rfl rfl (one_of HT_.out (by kernel_rfl)) (by decide) (fun K hK => ?_);refine goes_ Try.func62 (by kernel_rfl) rfl #[.slice A0 (l0.take (t340 : Int).toNat).length c0] (by rfl) rfl rfl (by (try simp only [List.map_toArray,List.map_cons,List.map_nil]); (rw [show (l0.take (t340 : Int).toNat).length = t340.toNat from (by rw [List.length_take]; have h_ : (t340 : Int) ≤ (l0.length : Int) := of_decide_eq_true (by (with_reducible assumption)); omega)] <;> rfl)) ?_
     with_reducible refine (ih k (by omega) _ _ (l0.take (t340 : Int).toNat) t342 _ ?side1 ?side2 A15.out).mono ?_
     (case side1 => repeat (exact (Kd.C_below HR341.out HB.out)))
     (case side2 => exact HC341.out)
     rintro e w23 ⟨rfl,hb⟩;refine ⟨_,rfl,?_⟩;have n0_ := Aside0.mk (below_step HB.out hb);clear HB;have HB := n0_;clear n0_
     (try clear hb)
     skip
     skip
     skip
     refine hK.out _ _ trivial (fun hHeld => ?_);clear hK K;refine norm_ (a' := ?_) ?_ ?_;rotate_left
     ·show Act.put _ (some 22) _ = _
      simp only [wf_preprocess];rfl
     refine one_ (i := 7) (N := some 26) #[true,true,true,true,true,true,true,true,false,false] rfl rfl (one_of HT_.out (by kernel_rfl)) (by decide) (fun K hK => ?_);refine goes_ Try.func62 (by kernel_rfl) rfl #[.slice A22 (l0.drop (t340 : Int).toNat).length (c0 - t340.toNat)] (by rfl) rfl rfl (by (try simp only [List.map_toArray,List.map_cons,List.map_nil]); (rw [show (l0.drop (t340 : Int).toNat).length = (l0.length - t340.toNat) from List.length_drop] <;> rfl)) ?_
     with_reducible refine (ih k (by omega) _ _ (l0.drop (t340 : Int).toNat) t344 _ ?side1 ?side2 A18.out).mono ?_
     (case side1 => repeat (exact (Kd.C_below HR343.out HB.out)))
     (case side2 => exact HC343.out)
     rintro e w24 ⟨rfl,hb⟩;refine ⟨_,rfl,?_⟩;have n0_ := Aside0.mk (below_step HB.out hb);clear HB;have HB := n0_;clear n0_
     (try clear hb)
     skip
     skip
     skip
     refine hK.out _ _ trivial (fun hHeld => ?_);clear hK K;refine norm_ (a' := ?_) ?_ ?_;rotate_left
     ·show Act.put _ (some 26) _ = _
      simp only [wf_preprocess];rfl
     refine one_ (i := 8) (N := some 27) #[true,true,true,true,true,true,true,true,true,false] rfl rfl (one_of HT_.out (by kernel_rfl)) (by decide) (fun K hK => ?_);refine goes_ Try.func20 (by kernel_rfl) rfl #[.string t342,.string t344] (by rfl) rfl rfl (by (try simp only [List.map_toArray,List.map_cons,List.map_nil]); rfl) ?_
     with_reducible refine (spec_NodeDigest.calls k t342 t344 t345 _ A19.out).mono ?_
     rintro e w25 ⟨rfl,hb⟩;refine ⟨_,rfl,?_⟩;have n0_ := Aside0.mk (below_step HB.out hb);clear HB;have HB := n0_;clear n0_
     (try clear hb)
     skip
     skip
     skip
     refine hK.out _ _ trivial (fun hHeld => ?_);clear hK K;refine norm_ (a' := ?_) ?_ ?_;rotate_left
     ·show Act.put _ (some 27) _ = _
      simp only [wf_preprocess];rfl
     refine pure_ (i := 9) (N := some 2) (v := ?_) (a' := ?_) #[true,true,true,true,true,true,true,true,true,true] rfl rfl (any_of HT_.out (by kernel_rfl)) (fun _ _ _ h => h) (Or.inl ⟨by rfl,?_⟩) ?_ ?_;rotate_left
     ·intro w';go_simp;with_reducible rfl
     rotate_left
     ·simp only [wf_preprocess];rfl
     refine done_ (done_of HT_.out (by kernel_rfl)) ?_
     try go_wp2
     go_ret;exact ⟨by rfl,HB.out⟩
    ·rw [if_neg c14] at H;exact absurd H (by simp)
   ·rw [if_neg c13] at H;exact absurd H (by simp)

/-! ### spec_RootOf: function 30 -/
def spec_RootOf.f (k : Nat) (l0 : List ByteArray) : Option (ByteArray) := if (l0.length : Int) > 64 then (some (⟨#[]⟩ : ByteArray)) else ((spec_l3Root.f k l0).bind fun t346 => (some t346))
theorem spec_RootOf.mono : ∀ a0 k,LeO (spec_RootOf.f k a0) (spec_RootOf.f (k + 1) a0) := by
 intro a0 k;unfold spec_RootOf.f
 repeat' first
   | (with_reducible exact spec_l3Root.mono _ _)
   | (with_reducible exact LeO.refl _)
   | (with_reducible exact LeO.none _)
   | (with_reducible refine LeO.ite ?_ ?_)
   | (with_reducible refine LeO.bind ?_ (fun _ => ?_))
   | exact spec_l3Root.mono _ _
   | exact LeO.none _
set_option maxHeartbeats 8000000 in
set_option maxRecDepth 100000 in
theorem spec_RootOf.calls (k : Nat) (A0 : Option Addr) (c0 : Nat) (l0 : List ByteArray) (r : ByteArray) (w : World) (hr0 : Kd.C Kd.string w A0 l0.length l0) (hc0 : l0.length ≤ c0) (h : spec_RootOf.f k l0 = some r) :
  Calls Try.prog 30 #[.slice A0 l0.length c0] w fun e w' => e = .returned (.string r) ∧ Below w.heap.size w w' := by
 have HR0 := Aside0.mk hr0;have HC0 := Aside0.mk hc0;clear hr0 hc0;have HB := Aside0.mk (Below.refl w.heap.size w);have H : (if (l0.length : Int) > 64 then (some (⟨#[]⟩ : ByteArray)) else ((spec_l3Root.f k l0).bind fun t346 => (some t346))) = some r := h;clear h
 by_cases c2 : (l0.length : Int) > 64
 ·rw [if_pos c2] at H;have c2b0 : decide (64 < (l0.length : Int)) = true := decide_eq_true c2;have c2b1 : decide (64 < l0.length) = true := decide_eq_true (by omega);clear c2;obtain rfl := Option.some.inj H;go_enter Try.func30,Try.ntmps30;go_wp2;go_ret;exact ⟨by rfl,HB.out⟩
 ·rw [if_neg c2] at H;have c2b0 : decide (64 < (l0.length : Int)) = false := decide_eq_false c2;have c2b1 : decide (64 < l0.length) = false := decide_eq_false (by omega);clear c2;replace H := Option.bind_eq_some_iff.mp H;obtain ⟨t346,A30,H⟩ := H;replace H : (some t346) = some r := H;have A3 := Aside0.mk A30;clear A30;obtain rfl := Option.some.inj H;go_enter Try.func30,Try.ntmps30
  go_wp2_with ((with_reducible refine gate_callee (f := 62) rfl ?_); refine goesL_ (some 7) rfl rfl Try.func62 (by kernel_rfl) rfl #[.slice A0 l0.length c0] rfl (by (try simp only [List.map_toArray,List.map_cons,List.map_nil]); rfl) ?_; (with_reducible refine (spec_l3Root.calls k _ _ l0 t346 _ ?side1 ?side2 A3.out).mono ?_); (case side1 => repeat (exact HR0.out)); (case side2 => exact HC0.out); rintro e w4 ⟨rfl,hb⟩; refine ⟨_,rfl,?_⟩; have n0_ := Aside0.mk (below_step HB.out hb); clear HB; have HB := n0_; clear n0_; (try clear hb); skip)
  go_ret;exact ⟨by rfl,HB.out⟩

/-! ### spec_l1In: function 63 -/
def spec_l1In.f (a0 : Int) (a1 : Int) (a2 : Int) : Option (Bool) := if a0 ≥ a1 then (some (decide (a0 ≤ a2))) else (some false)
set_option maxHeartbeats 8000000 in
set_option maxRecDepth 100000 in
theorem spec_l1In.calls (a0 : Int) (a1 : Int) (a2 : Int) (r : Bool) (w : World) (h : spec_l1In.f a0 a1 a2 = some r) :
  Calls Try.prog 63 #[.int .i64 a0,.int .i64 a1,.int .i64 a2] w fun e w' => e = .returned (.bool r) ∧ Drawn0 w w' := by
 have H : (if a0 ≥ a1 then (some (decide (a0 ≤ a2))) else (some false)) = some r := h;clear h
 by_cases c4 : a0 ≥ a1
 ·rw [if_pos c4] at H;have c4b0 : decide (a1 ≤ a0) = true := decide_eq_true c4;clear c4;obtain rfl := Option.some.inj H;go_enter Try.func63,Try.ntmps63;go_wp2;go_ret;exact ⟨by rfl,by repeat (exact Drawn0.refl _)⟩
 ·rw [if_neg c4] at H;have c4b0 : decide (a1 ≤ a0) = false := decide_eq_false c4;clear c4;obtain rfl := Option.some.inj H;go_enter Try.func63,Try.ntmps63;go_wp2;go_ret;exact ⟨by rfl,by repeat (exact Drawn0.refl _)⟩

/-! ### spec_NameOk: function 101 -/
def spec_NameOk.l0 : Nat → ByteArray → Int → Option (Bool)
 | 0,_,_ => none
 | k + 1,x0,x3 => if x3 < (x0.size : Int) then (if 0 ≤ x3 then ((spec_l1In.f (wrap64 (bt x0 x3)) 97 122).bind fun t348 => (if t348 = true then (spec_NameOk.l0 k x0 (wrap64 (x3 + 1))) else ((spec_l1In.f (wrap64 (bt x0 x3)) 48 57).bind fun t349 => (if t349 = true then (spec_NameOk.l0 k x0 (wrap64 (x3 + 1))) else (some false))))) else (none)) else ((spec_l1In.f (x0.size : Int) 1 8).bind fun t347 => (some t347))
def spec_NameOk.f (k : Nat) (a0 : ByteArray) : Option (Bool) := spec_NameOk.l0 k a0 0
theorem spec_NameOk.mono_l : ∀ k,(∀ y0 y1,LeO (spec_NameOk.l0 k y0 y1) (spec_NameOk.l0 (k + 1) y0 y1))
 | 0 => fun _ _ r h => by simp [spec_NameOk.l0] at h
 | k + 1 => by
  have ih0 := spec_NameOk.mono_l k
  ·intro y0 y1;unfold spec_NameOk.l0
   repeat' first
   | (with_reducible exact ih0 _ _)
   | (with_reducible exact LeO.refl _)
   | (with_reducible exact LeO.none _)
   | (with_reducible refine LeO.ite ?_ ?_)
   | (with_reducible refine LeO.bind ?_ (fun _ => ?_))
   | exact ih0 _ _
   | exact LeO.none _
theorem spec_NameOk.mono : ∀ a0 k,LeO (spec_NameOk.f k a0) (spec_NameOk.f (k + 1) a0) := by
 intro a0 k;have ih0 := spec_NameOk.mono_l k;unfold spec_NameOk.f
 repeat' first
   | (with_reducible exact ih0 _ _)
   | (with_reducible exact LeO.refl _)
   | (with_reducible exact LeO.none _)
   | (with_reducible refine LeO.ite ?_ ?_)
   | (with_reducible refine LeO.bind ?_ (fun _ => ?_))
   | exact ih0 _ _
   | exact LeO.none _
set_option maxHeartbeats 8000000 in
set_option maxRecDepth 100000 in
theorem spec_NameOk.calls (k : Nat) (a0 : ByteArray) (r : Bool) (w : World) (h : spec_NameOk.f k a0 = some r) :
  Calls Try.prog 101 #[.string a0] w fun e w' => e = .returned (.bool r) ∧ Drawn0 w w' := by
 have H : (spec_NameOk.l0 k a0 0) = some r := h;clear h;have H' := Aside0.mk H;clear H;go_enter Try.func101,Try.ntmps101;go_wp2
 go_loopg [3] k (fun kq v3 w' => ∃ (x3_1 : Int),v3 = .int .i64 x3_1 ∧ Aside0 (spec_NameOk.l0 kq a0 x3_1 = some r) ∧ Aside0 (kq ≤ k) ∧ Drawn0 w w')
 case atStart => exact ⟨(0),(by rfl),H',⟨Nat.le_refl _⟩,by repeat (exact Drawn0.refl _)⟩
 case round =>
  clear H'
  try clear c1
  obtain ⟨x3_1,rfl,HA,HK1,⟨m1,rfl⟩⟩ := hrel
  cases gk with
  | zero => exact absurd HA.out (by simp [spec_NameOk.l0])
  | succ k1 =>
   have H := HA.out;clear HA;simp only [spec_NameOk.l0] at H
   by_cases c2 : x3_1 < (a0.size : Int)
   ·rw [if_pos c2] at H;have c2b0 : decide (x3_1 < (a0.size : Int)) = true := decide_eq_true c2;clear c2
    by_cases c3 : 0 ≤ x3_1
    ·rw [if_pos c3] at H;have c3b0 : decide (0 ≤ x3_1) = true := decide_eq_true c3;clear c3;replace H := Option.bind_eq_some_iff.mp H;obtain ⟨t348,A50,H⟩ := H;replace H : (if t348 = true then (spec_NameOk.l0 k1 a0 (wrap64 (x3_1 + 1))) else ((spec_l1In.f (wrap64 (bt a0 x3_1)) 48 57).bind fun t349 => (if t349 = true then (spec_NameOk.l0 k1 a0 (wrap64 (x3_1 + 1))) else (some false)))) = some r := H;have A5 := Aside0.mk A50;clear A50
     by_cases c6 : t348 = true
     ·subst c6
      have H1 : (spec_NameOk.l0 k1 a0 (wrap64 (x3_1 + 1))) = some r := by rw [if_pos rfl] at H; exact H
      clear H;have H := H1;clear H1;have H' := Aside0.mk H;clear H;have p4 : 0 ≤ (x3_1 : Int) := of_decide_eq_true (by (with_reducible assumption));have q4 : x3_1 < (a0.size : Int) := of_decide_eq_true (by (with_reducible assumption));have hx4 := bt_at a0 x3_1;replace p4 := eq_true p4;replace q4 := eq_true q4
      go_wp2_with ((with_reducible refine gate_callee (f := 63) rfl ?_); refine goesL_ (some 14) rfl rfl Try.func63 (by kernel_rfl) rfl #[.int .i64 (wrap64 (bt a0 x3_1)),.int .i64 97,.int .i64 122] rfl (by (try simp only [List.map_toArray,List.map_cons,List.map_nil]); rfl) ?_; (with_reducible refine (spec_l1In.calls (wrap64 (bt a0 x3_1)) 97 122 true _ A5.out).mono ?_); rintro e w' ⟨rfl,⟨nd,rfl⟩⟩; refine ⟨_,rfl,?_⟩)
      go_roundg k1
      case measure => have := HK1.out; omega
      case rel => exact ⟨(wrap64 (x3_1 + 1)),(by rfl),H',⟨by have := HK1.out; omega⟩,by repeat (first | exact Drawn0.refl _ | apply Drawn0.step)⟩
     ·replace c6 := Bool.eq_false_iff.mpr c6;subst c6
      have H1 : ((spec_l1In.f (wrap64 (bt a0 x3_1)) 48 57).bind fun t349 => (if t349 = true then (spec_NameOk.l0 k1 a0 (wrap64 (x3_1 + 1))) else (some false))) = some r := by rw [if_neg (show ¬ (false = true) by decide)] at H; exact H
      clear H;have H := H1;clear H1;replace H := Option.bind_eq_some_iff.mp H;obtain ⟨t349,A80,H⟩ := H;replace H : (if t349 = true then (spec_NameOk.l0 k1 a0 (wrap64 (x3_1 + 1))) else (some false)) = some r := H;have A8 := Aside0.mk A80;clear A80
      by_cases c9 : t349 = true
      ·subst c9
       have H1 : (spec_NameOk.l0 k1 a0 (wrap64 (x3_1 + 1))) = some r := by rw [if_pos rfl] at H; exact H
       clear H;have H := H1;clear H1;have H' := Aside0.mk H;clear H;have p4 : 0 ≤ (x3_1 : Int) := of_decide_eq_true (by (with_reducible assumption));have q4 : x3_1 < (a0.size : Int) := of_decide_eq_true (by (with_reducible assumption));have hx4 := bt_at a0 x3_1;replace p4 := eq_true p4;replace q4 := eq_true q4
       go_wp2_with (first | ((with_reducible refine gate_callee (f := 63) rfl ?_); refine goesL_ (some 14) rfl rfl Try.func63 (by kernel_rfl) rfl #[.int .i64 (wrap64 (bt a0 x3_1)),.int .i64 97,.int .i64 122] rfl (by (try simp only [List.map_toArray,List.map_cons,List.map_nil]); rfl) ?_; (with_reducible refine (spec_l1In.calls (wrap64 (bt a0 x3_1)) 97 122 false _ A5.out).mono ?_); rintro e w' ⟨rfl,⟨nd,rfl⟩⟩; refine ⟨_,rfl,?_⟩; have p7 : 0 ≤ (x3_1 : Int) := of_decide_eq_true (by (with_reducible assumption)); have q7 : x3_1 < (a0.size : Int) := of_decide_eq_true (by (with_reducible assumption)); have hx7 := bt_at a0 x3_1; replace p7 := eq_true p7; replace q7 := eq_true q7) | (go_at_call 63; (with_reducible refine (spec_l1In.calls (wrap64 (bt a0 x3_1)) 48 57 true _ A8.out).mono ?_); rintro e w' ⟨rfl,⟨nd,rfl⟩⟩))
       go_roundg k1
       case measure => have := HK1.out; omega
       case rel => exact ⟨(wrap64 (x3_1 + 1)),(by rfl),H',⟨by have := HK1.out; omega⟩,by repeat (first | exact Drawn0.refl _ | apply Drawn0.step)⟩
      ·replace c9 := Bool.eq_false_iff.mpr c9;subst c9
       have H1 : (some false) = some r := by rw [if_neg (show ¬ (false = true) by decide)] at H; exact H
       clear H;have H := H1;clear H1;obtain rfl := Option.some.inj H;have p4 : 0 ≤ (x3_1 : Int) := of_decide_eq_true (by (with_reducible assumption));have q4 : x3_1 < (a0.size : Int) := of_decide_eq_true (by (with_reducible assumption));have hx4 := bt_at a0 x3_1;replace p4 := eq_true p4;replace q4 := eq_true q4
       go_wp2_with (first | ((with_reducible refine gate_callee (f := 63) rfl ?_); refine goesL_ (some 14) rfl rfl Try.func63 (by kernel_rfl) rfl #[.int .i64 (wrap64 (bt a0 x3_1)),.int .i64 97,.int .i64 122] rfl (by (try simp only [List.map_toArray,List.map_cons,List.map_nil]); rfl) ?_; (with_reducible refine (spec_l1In.calls (wrap64 (bt a0 x3_1)) 97 122 false _ A5.out).mono ?_); rintro e w' ⟨rfl,⟨nd,rfl⟩⟩; refine ⟨_,rfl,?_⟩; have p7 : 0 ≤ (x3_1 : Int) := of_decide_eq_true (by (with_reducible assumption)); have q7 : x3_1 < (a0.size : Int) := of_decide_eq_true (by (with_reducible assumption)); have hx7 := bt_at a0 x3_1; replace p7 := eq_true p7; replace q7 := eq_true q7) | (go_at_call 63; (with_reducible refine (spec_l1In.calls (wrap64 (bt a0 x3_1)) 48 57 false _ A8.out).mono ?_); rintro e w' ⟨rfl,⟨nd,rfl⟩⟩))
       go_ret;exact ⟨by rfl,by repeat (first | exact Drawn0.refl _ | apply Drawn0.step)⟩
    ·rw [if_neg c3] at H;exact absurd H (by simp)
   ·rw [if_neg c2] at H;have c2b0 : decide (x3_1 < (a0.size : Int)) = false := decide_eq_false c2;clear c2;replace H := Option.bind_eq_some_iff.mp H;obtain ⟨t347,A100,H⟩ := H;replace H : (some t347) = some r := H;have A10 := Aside0.mk A100;clear A100;obtain rfl := Option.some.inj H
    go_wp2_with ((with_reducible refine gate_callee (f := 63) rfl ?_); refine goesL_ (some 26) rfl rfl Try.func63 (by kernel_rfl) rfl #[.int .i64 (a0.size : Int),.int .i64 1,.int .i64 8] rfl (by (try simp only [List.map_toArray,List.map_cons,List.map_nil]); rfl) ?_; (with_reducible refine (spec_l1In.calls (a0.size : Int) 1 8 t347 _ A10.out).mono ?_); rintro e w' ⟨rfl,⟨nd,rfl⟩⟩; refine ⟨_,rfl,?_⟩)
    go_ret;exact ⟨by rfl,by repeat (first | exact Drawn0.refl _ | apply Drawn0.step)⟩

end Go.Proofs.Ytgbbgdlenadhlaa.PJ
