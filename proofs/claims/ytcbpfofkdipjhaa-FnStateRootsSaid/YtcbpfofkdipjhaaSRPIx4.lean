/- The machine's side of Go functions: each as a plain function,and that the call does what it says. Written by a program (wip/mprint). -/
import Derived.Test.YtcbpfofkdipjhaaSRPIx0
import Derived.Test.YtcbpfofkdipjhaaSRPIx3
namespace Go.Proofs.Ytcbpfofkdipjhaa.PI
open Go.RowKit Go.Proofs.YtcbpfofkdipjhaaW.PrintWords Go.Proofs.YtcbpfofkdipjhaaW.PrintLast Go.Proofs.YtcbpfofkdipjhaaW.PrintMore
attribute [local wf_preprocess] Act.put List.setIfInBounds_toArray List.set_cons_zero List.set_cons_succ i64_w i32_w
attribute [local go_sem] max2_int min2_int max_two min_two max_three min_three max_four min_four   -- for this text's walks alone
set_option linter.unusedVariables false
set_option linter.unusedSimpArgs false

/-! ### impl_rootOf: function 72 -/
def impl_rootOf.f : Nat → List ByteArray → Option (ByteArray)
 | 0,_ => none
 | k + 1,l0 => if (l0.length : Int) = 0 then ((impl_Digest.f k ([] : List Int)).bind fun t166 => (some t166)) else (if (l0.length : Int) = 1 then (if 0 < (l0.length : Int) then ((impl_LeafDigest.f k (rdOf ByteArray.empty l0 0)).bind fun t168 => (some t168)) else (none)) else ((impl_half.f k (l0.length : Int)).bind fun t169 => (if 0 ≤ t169 then (if t169 ≤ (l0.length : Int) then ((impl_rootOf.f k (l0.take (t169 : Int).toNat)).bind fun t171 => ((impl_rootOf.f k (l0.drop (t169 : Int).toNat)).bind fun t173 => ((impl_NodeDigest.f k t171 t173).bind fun t174 => (some t174)))) else (none)) else (none))))
theorem impl_rootOf.mono_l : ∀ k,(∀ y0,LeO (impl_rootOf.f k y0) (impl_rootOf.f (k + 1) y0))
 | 0 => fun _ r h => by simp [impl_rootOf.f] at h
 | k + 1 => by
  have ih0 := impl_rootOf.mono_l k
  ·intro y0;unfold impl_rootOf.f
   repeat' first
   | (with_reducible exact ih0 _)
   | (with_reducible exact impl_Digest.mono _ _)
   | (with_reducible exact impl_LeafDigest.mono _ _)
   | (with_reducible exact impl_NodeDigest.mono _ _ _)
   | (with_reducible exact impl_half.mono _ _)
   | (with_reducible exact LeO.refl _)
   | (with_reducible exact LeO.none _)
   | (with_reducible refine LeO.ite ?_ ?_)
   | (with_reducible refine LeO.bind ?_ (fun _ => ?_))
   | exact ih0 _
   | exact impl_Digest.mono _ _
   | exact impl_LeafDigest.mono _ _
   | exact impl_NodeDigest.mono _ _ _
   | exact impl_half.mono _ _
   | exact LeO.none _
theorem impl_rootOf.mono : ∀ a0 k,LeO (impl_rootOf.f k a0) (impl_rootOf.f (k + 1) a0) := by
 intro a0 k;have ih0 := impl_rootOf.mono_l k;exact ih0 a0
def impl_rootOf.T7 : Bool × List (List Nat × List Nat) := (true,[([],[]),([],[]),([0,1],[0,1]),([2],[2]),([],[]),([],[]),([4,5],[4,5]),([6,3],[6]),([3,7,7],[3,7]),([8,8,0,1,2,3,4,5,6,7,8],[8])])
def impl_rootOf.B7 : List Nat := [0,0,3,7,0,0,48,127,255,511]
theorem impl_rootOf.tab7 : rtab .any (opsOf Try.f72 7) = impl_rootOf.T7 := by kernel_rfl
theorem impl_rootOf.bits7 : waitsOk impl_rootOf.T7.2 impl_rootOf.B7 = true := by kernel_rfl
set_option maxHeartbeats 8000000 in
set_option maxRecDepth 100000 in
theorem impl_rootOf.calls (k : Nat) : ∀ (A0 : Option Addr) (c0 : Nat) (l0 : List ByteArray) (r : ByteArray) (w : World) (hr0 : Kd.C Kd.string w A0 l0.length l0) (hc0 : l0.length ≤ c0) (h : impl_rootOf.f k l0 = some r),
  Calls Try.prog 72 #[.slice A0 l0.length c0] w fun e w' => e = .returned (.string r) ∧ Below w.heap.size w w' := by
 induction k using Nat.strongRecOn with
 | _ k ih =>
 intro A0 c0 l0 r w hr0 hc0 h
 cases k with
 | zero => exact absurd h (by simp [impl_rootOf.f])
 | succ k =>
 simp only [impl_rootOf.f] at h;have HR0 := Aside0.mk hr0;have HC0 := Aside0.mk hc0;clear hr0 hc0;have HB := Aside0.mk (Below.refl w.heap.size w);have H : (if (l0.length : Int) = 0 then ((impl_Digest.f k ([] : List Int)).bind fun t166 => (some t166)) else (if (l0.length : Int) = 1 then (if 0 < (l0.length : Int) then ((impl_LeafDigest.f k (rdOf ByteArray.empty l0 0)).bind fun t168 => (some t168)) else (none)) else ((impl_half.f k (l0.length : Int)).bind fun t169 => (if 0 ≤ t169 then (if t169 ≤ (l0.length : Int) then ((impl_rootOf.f k (l0.take (t169 : Int).toNat)).bind fun t171 => ((impl_rootOf.f k (l0.drop (t169 : Int).toNat)).bind fun t173 => ((impl_NodeDigest.f k t171 t173).bind fun t174 => (some t174)))) else (none)) else (none))))) = some r := h;clear h
 by_cases c2 : (l0.length : Int) = 0
 ·rw [if_pos c2] at H;have c2b0 : ((l0.length : Int) == 0) = true := beq_iff_eq.mpr c2;have c2b1 : ((l0.length : Int) != 0) = false := bne_eq_false_iff_eq.mpr c2;clear c2;replace H := Option.bind_eq_some_iff.mp H;obtain ⟨t166,A30,H⟩ := H;replace H : (some t166) = some r := H;have A3 := Aside0.mk A30;clear A30;obtain rfl := Option.some.inj H;go_enter Try.func72,Try.ntmps72
  go_wp2_with (((with_reducible refine gate_callee (f := 110) rfl ?_); refine goesL_ (some 8) rfl rfl Try.func110 (by kernel_rfl) rfl #[.slice none 0 0] rfl (by (try simp only [List.map_toArray,List.map_cons,List.map_nil]); rfl) ?_; (refine (impl_Digest.calls k _ _ ([] : List Int) t166 _ ?side1 ?side2 A3.out).mono ?_); (case side1 => exact Kd.C_nil _ _); (case side2 => exact Nat.le_refl _); rintro e w4 ⟨rfl,hb⟩; refine ⟨_,rfl,?_⟩; have n0_ := Aside0.mk (below_step HB.out hb); clear HB; have HB := n0_; clear n0_; (try clear hb); skip))
  go_ret;exact ⟨by rfl,HB.out⟩
 ·rw [if_neg c2] at H;have c2b0 : ((l0.length : Int) == 0) = false := beq_eq_false_iff_ne.mpr c2;have c2b1 : ((l0.length : Int) != 0) = true := bne_iff_ne.mpr c2
  have c2b2 : ¬ (l0 = []) := fun h_ => c2 (by rw [h_]; rfl)
  by_cases c5 : (l0.length : Int) = 1
  ·rw [if_pos c5] at H;have c5b0 : ((l0.length : Int) == 1) = true := beq_iff_eq.mpr c5;have c5b1 : ((l0.length : Int) != 1) = false := bne_eq_false_iff_eq.mpr c5;clear c5
   by_cases c6 : 0 < (l0.length : Int)
   ·rw [if_pos c6] at H;have c6b0 : decide (0 < (l0.length : Int)) = true := decide_eq_true c6;have c6b1 : decide (0 < l0.length) = true := decide_eq_true (by omega);clear c6;replace H := Option.bind_eq_some_iff.mp H;obtain ⟨t168,A70,H⟩ := H;replace H : (some t168) = some r := H;have A7 := Aside0.mk A70;clear A70;obtain rfl := Option.some.inj H;have p167 : 0 ≤ (0 : Int) := (by omega);have q167 : 0 < (l0.length : Int) := of_decide_eq_true (by (with_reducible assumption));obtain ⟨ad167,e167,hx167_0⟩ := Kd.at_string HR0.out 0 p167 q167
    cases e167
    have qi167 : (0 < l0.length) = True := eq_true (by omega)
    (try rw [show (0 : Int).toNat = 0 from rfl] at hx167_0)
    (try rw [Addr.add_zero'] at hx167_0)
    replace p167 := eq_true p167;replace q167 := eq_true q167;go_enter Try.func72,Try.ntmps72
    go_wp2_with (((with_reducible refine gate_callee (f := 111) rfl ?_); refine goesL_ (some 14) rfl rfl Try.func111 (by kernel_rfl) rfl #[.string (rdOf ByteArray.empty l0 0)] rfl (by (try simp only [List.map_toArray,List.map_cons,List.map_nil]); rfl) ?_; (with_reducible refine (impl_LeafDigest.calls k (rdOf ByteArray.empty l0 0) t168 _ A7.out).mono ?_); rintro e w8 ⟨rfl,hb⟩; refine ⟨_,rfl,?_⟩; have n0_ := Aside0.mk (below_step HB.out hb); clear HB; have HB := n0_; clear n0_; (try clear hb); skip))
    go_ret;exact ⟨by rfl,HB.out⟩
   ·rw [if_neg c6] at H;exact absurd H (by simp)
  ·rw [if_neg c5] at H;have c5b0 : ((l0.length : Int) == 1) = false := beq_eq_false_iff_ne.mpr c5;have c5b1 : ((l0.length : Int) != 1) = true := bne_iff_ne.mpr c5;replace H := Option.bind_eq_some_iff.mp H;obtain ⟨t169,A90,H⟩ := H;replace H : (if 0 ≤ t169 then (if t169 ≤ (l0.length : Int) then ((impl_rootOf.f k (l0.take (t169 : Int).toNat)).bind fun t171 => ((impl_rootOf.f k (l0.drop (t169 : Int).toNat)).bind fun t173 => ((impl_NodeDigest.f k t171 t173).bind fun t174 => (some t174)))) else (none)) else (none)) = some r := H;have A9 := Aside0.mk A90;clear A90
   by_cases c10 : 0 ≤ t169
   ·rw [if_pos c10] at H;have c10b0 := eq_true c10;have c10b1 : decide (0 ≤ t169) = true := decide_eq_true c10;clear c10
    by_cases c11 : t169 ≤ (l0.length : Int)
    ·rw [if_pos c11] at H;have c11b0 := eq_true c11;have c11b1 : decide (t169 ≤ (l0.length : Int)) = true := decide_eq_true c11;clear c11;replace H := Option.bind_eq_some_iff.mp H;obtain ⟨t171,A120,H⟩ := H;replace H : ((impl_rootOf.f k (l0.drop (t169 : Int).toNat)).bind fun t173 => ((impl_NodeDigest.f k t171 t173).bind fun t174 => (some t174))) = some r := H;have A12 := Aside0.mk A120;clear A120;have c13b0 := eq_true (of_decide_eq_true (by (with_reducible assumption)) : 0 ≤ t169);have c14b0 := eq_true (of_decide_eq_true (by (with_reducible assumption)) : t169 ≤ (l0.length : Int));replace H := Option.bind_eq_some_iff.mp H;obtain ⟨t173,A150,H⟩ := H;replace H : ((impl_NodeDigest.f k t171 t173).bind fun t174 => (some t174)) = some r := H;have A15 := Aside0.mk A150;clear A150;replace H := Option.bind_eq_some_iff.mp H;obtain ⟨t174,A160,H⟩ := H;replace H : (some t174) = some r := H;have A16 := Aside0.mk A160;clear A160;obtain rfl := Option.some.inj H;go_enter Try.func72,Try.ntmps72
     try go_wp2_with (((with_reducible refine gate_callee (f := 112) rfl ?_); refine goesL_ (some 17) rfl rfl Try.func112 (by kernel_rfl) rfl #[.int .i64 (l0.length : Int)] rfl (by (try simp only [List.map_toArray,List.map_cons,List.map_nil]); rfl) ?_; (with_reducible refine (impl_half.calls k (l0.length : Int) t169 _ A9.out).mono ?_); rintro e w' ⟨rfl,⟨nd,rfl⟩⟩; refine ⟨_,rfl,?_⟩))
     have n0_ := Aside0.mk (below_drew1 (pw_below_drewN HB.out nd));clear HB;have HB := n0_;clear n0_;obtain ⟨i018,hi018,_,hsz18,_⟩ := info_parts info9;obtain ⟨hcut18,hA18,hC18⟩ := print_take_of (P := Try.prog) Value.string (⟨#[]⟩ : ByteArray) 74 9 .i64 Try.underlying74 hi018 hsz18 A0 c0 l0 t169 (of_decide_eq_true (by (with_reducible assumption))) (of_decide_eq_true (by (with_reducible assumption))) HC0.out;have HR170 := Aside0.mk (Kd.C_of_reads (h1 := fun _ => rfl) (hA18 _ (Kd.reads_of_C HR0.out)));have HC170 := Aside0.mk hC18;clear hA18 hC18 hi018 hsz18;obtain ⟨i019,hi019,_,hsz19,_⟩ := info_parts info9;obtain ⟨A19,hcut19,hA19,hC19⟩ := print_drop_of (P := Try.prog) Value.string (⟨#[]⟩ : ByteArray) 74 9 .i64 Try.underlying74 hi019 hsz19 A0 c0 l0 t169 (of_decide_eq_true (by (with_reducible assumption))) (of_decide_eq_true (by (with_reducible assumption))) HC0.out;have HR172 := Aside0.mk (Kd.C_of_reads (h1 := fun _ => rfl) (hA19 _ (Kd.reads_of_C HR0.out)));have HC172 := Aside0.mk hC19;clear hA19 hC19 hi019 hsz19;refine start_ (n := 10) (S := fun w' => True) (ds := []) #[false,false,false,false,false,false,false,false,false,false] (by kernel_rfl) rfl rfl trivial (fun hHeld => ?_); refine with_tabW impl_rootOf.tab7 impl_rootOf.bits7 (fun HT_ HW_ => ?_)
     generalize (w.drewN nd).drew = w17 at HB HR170 HR172 hHeld ⊢
     refine pure_ (i := 0) (N := some 18) (v := ?_) (a' := ?_) #[true,false,false,false,false,false,false,false,false,false] rfl rfl (any_of HT_.out (by kernel_rfl)) (fun _ _ _ h => h) (Or.inl ⟨by rfl,?_⟩) ?_ ?_;rotate_left
     ·intro w';go_simp;with_reducible rfl
     rotate_left
     ·simp only [wf_preprocess];rfl
     refine pure_ (i := 1) (N := some 19) (v := ?_) (a' := ?_) #[true,true,false,false,false,false,false,false,false,false] rfl rfl (any_of HT_.out (by kernel_rfl)) (fun _ _ _ h => h) (Or.inl ⟨by rfl,?_⟩) ?_ ?_;rotate_left
     ·intro w';go_simp;with_reducible rfl
     rotate_left
     ·simp only [wf_preprocess];rfl
     refine pure_ (i := 2) (N := some 20) (v := ?_) (a' := ?_) #[true,true,true,false,false,false,false,false,false,false] rfl rfl (any_of HT_.out (by kernel_rfl)) (fun _ _ _ h => h) (Or.inl ⟨by rfl,?_⟩) ?_ ?_;rotate_left
     ·intro w';go_simp;with_reducible rfl
     rotate_left
     ·simp only [wf_preprocess];rfl
     refine pure_ (i := 4) (N := some 22) (v := ?_) (a' := ?_) #[true,true,true,false,true,false,false,false,false,false] rfl rfl (any_of HT_.out (by kernel_rfl)) (fun _ _ _ h => h) (Or.inl ⟨by rfl,?_⟩) ?_ ?_;rotate_left
     ·intro w';go_simp;with_reducible rfl
     rotate_left
     ·simp only [wf_preprocess];rfl
     refine pure_ (i := 5) (N := some 23) (v := ?_) (a' := ?_) #[true,true,true,false,true,true,false,false,false,false] rfl rfl (any_of HT_.out (by kernel_rfl)) (fun _ _ _ h => h) (Or.inl ⟨by rfl,?_⟩) ?_ ?_;rotate_left
     ·intro w';go_simp;with_reducible rfl
     rotate_left
     ·simp only [wf_preprocess];rfl
     refine pure_ (i := 6) (N := some 24) (v := ?_) (a' := ?_) #[true,true,true,false,true,true,true,false,false,false] rfl rfl (any_of HT_.out (by kernel_rfl)) (fun _ _ _ h => h) (Or.inl ⟨by rfl,?_⟩) ?_ ?_;rotate_left
     ·intro w';go_simp;with_reducible rfl
     rotate_left
     ·simp only [wf_preprocess];rfl
     refine one_ (i := 3) (N := some 21) #[true,true,true,true,true,true,true,false,false,false] rfl rfl (one_of HT_.out (by kernel_rfl)) (by decide) (fun K hK => ?_);refine goes_ Try.func72 (by kernel_rfl) rfl #[.slice A0 (l0.take (t169 : Int).toNat).length c0] (by rfl) rfl rfl (by (try simp only [List.map_toArray,List.map_cons,List.map_nil]); (rw [show (l0.take (t169 : Int).toNat).length = t169.toNat from (by rw [List.length_take]; have h_ : (t169 : Int) ≤ (l0.length : Int) := of_decide_eq_true (by (with_reducible assumption)); omega)] <;> rfl)) ?_
     with_reducible refine (ih k (by omega) _ _ (l0.take (t169 : Int).toNat) t171 _ ?side1 ?side2 A12.out).mono ?_
     (case side1 => repeat (exact (Kd.C_below HR170.out HB.out)))
     (case side2 => exact HC170.out)
     rintro e w20 ⟨rfl,hb⟩;refine ⟨_,rfl,?_⟩;have n0_ := Aside0.mk (below_step HB.out hb);clear HB;have HB := n0_;clear n0_
     (try clear hb)
     skip
     skip
     skip
     refine hK.out _ _ trivial (fun hHeld => ?_);clear hK K;refine norm_ (a' := ?_) ?_ ?_;rotate_left
     ·show Act.put _ (some 21) _ = _
      simp only [wf_preprocess];rfl
     refine one_ (i := 7) (N := some 25) #[true,true,true,true,true,true,true,true,false,false] rfl rfl (one_of HT_.out (by kernel_rfl)) (by decide) (fun K hK => ?_);refine goes_ Try.func72 (by kernel_rfl) rfl #[.slice A19 (l0.drop (t169 : Int).toNat).length (c0 - t169.toNat)] (by rfl) rfl rfl (by (try simp only [List.map_toArray,List.map_cons,List.map_nil]); (rw [show (l0.drop (t169 : Int).toNat).length = (l0.length - t169.toNat) from List.length_drop] <;> rfl)) ?_
     with_reducible refine (ih k (by omega) _ _ (l0.drop (t169 : Int).toNat) t173 _ ?side1 ?side2 A15.out).mono ?_
     (case side1 => repeat (exact (Kd.C_below HR172.out HB.out)))
     (case side2 => exact HC172.out)
     rintro e w21 ⟨rfl,hb⟩;refine ⟨_,rfl,?_⟩;have n0_ := Aside0.mk (below_step HB.out hb);clear HB;have HB := n0_;clear n0_
     (try clear hb)
     skip
     skip
     skip
     refine hK.out _ _ trivial (fun hHeld => ?_);clear hK K;refine norm_ (a' := ?_) ?_ ?_;rotate_left
     ·show Act.put _ (some 25) _ = _
      simp only [wf_preprocess];rfl
     refine one_ (i := 8) (N := some 26) #[true,true,true,true,true,true,true,true,true,false] rfl rfl (one_of HT_.out (by kernel_rfl)) (by decide) (fun K hK => ?_);refine goes_ Try.func113 (by kernel_rfl) rfl #[.string t171,.string t173] (by rfl) rfl rfl (by (try simp only [List.map_toArray,List.map_cons,List.map_nil]); rfl) ?_
     with_reducible refine (impl_NodeDigest.calls k t171 t173 t174 _ A16.out).mono ?_
     rintro e w22 ⟨rfl,hb⟩;refine ⟨_,rfl,?_⟩;have n0_ := Aside0.mk (below_step HB.out hb);clear HB;have HB := n0_;clear n0_
     (try clear hb)
     skip
     skip
     skip
     refine hK.out _ _ trivial (fun hHeld => ?_);clear hK K;refine norm_ (a' := ?_) ?_ ?_;rotate_left
     ·show Act.put _ (some 26) _ = _
      simp only [wf_preprocess];rfl
     refine pure_ (i := 9) (N := some 2) (v := ?_) (a' := ?_) #[true,true,true,true,true,true,true,true,true,true] rfl rfl (any_of HT_.out (by kernel_rfl)) (fun _ _ _ h => h) (Or.inl ⟨by rfl,?_⟩) ?_ ?_;rotate_left
     ·intro w';go_simp;with_reducible rfl
     rotate_left
     ·simp only [wf_preprocess];rfl
     refine done_ (done_of HT_.out (by kernel_rfl)) ?_
     try go_wp2
     go_ret;exact ⟨by rfl,HB.out⟩
    ·rw [if_neg c11] at H;exact absurd H (by simp)
   ·rw [if_neg c10] at H;exact absurd H (by simp)

end Go.Proofs.Ytcbpfofkdipjhaa.PI
