/- The machine's side of Go functions: each as a plain function,and that the call does what it says. Written by a program (wip/mprint). -/
import Derived.Test.YtcbpfofkdipjhaaSRPIx0
import Derived.Test.YtcbpfofkdipjhaaSRPIx1
import Derived.Test.YtcbpfofkdipjhaaSRPIx3
import Derived.Test.YtcbpfofkdipjhaaSRPIx4
namespace Go.Proofs.Ytcbpfofkdipjhaa.PI
open Go.RowKit Go.Proofs.YtcbpfofkdipjhaaW.PrintWords Go.Proofs.YtcbpfofkdipjhaaW.PrintLast Go.Proofs.YtcbpfofkdipjhaaW.PrintMore
attribute [local wf_preprocess] Act.put List.setIfInBounds_toArray List.set_cons_zero List.set_cons_succ i64_w i32_w
attribute [local go_sem] max2_int min2_int max_two min_two max_three min_three max_four min_four   -- for this text's walks alone
set_option linter.unusedVariables false
set_option linter.unusedSimpArgs false

/-! ### impl_pathOf: function 98 -/
def impl_pathOf.f : Nat → List ByteArray → Int → Option (List ByteArray)
 | 0,_,_ => none
 | k + 1,l0,a1 => if (l0.length : Int) = 1 then (some ([] : List ByteArray)) else ((impl_half.f k (l0.length : Int)).bind fun t447 => (if a1 < t447 then (if 0 ≤ t447 then (if t447 ≤ (l0.length : Int) then ((impl_pathOf.f k (l0.take (t447 : Int).toNat) a1).bind fun t449 => ((impl_rootOf.f k (l0.drop (t447 : Int).toNat)).bind fun t453 => (if t449.length < 8796093022208 then (some (t449 ++ [t453])) else (none)))) else (none)) else (none)) else (if 0 ≤ t447 then (if t447 ≤ (l0.length : Int) then ((impl_pathOf.f k (l0.drop (t447 : Int).toNat) (wrap64 (a1 - t447))).bind fun t458 => ((impl_rootOf.f k (l0.take (t447 : Int).toNat)).bind fun t462 => (if t458.length < 8796093022208 then (some (t458 ++ [t462])) else (none)))) else (none)) else (none))))
theorem impl_pathOf.mono_l : ∀ k,(∀ y0 y1,LeO (impl_pathOf.f k y0 y1) (impl_pathOf.f (k + 1) y0 y1))
 | 0 => fun _ _ r h => by simp [impl_pathOf.f] at h
 | k + 1 => by
  have ih0 := impl_pathOf.mono_l k
  ·intro y0 y1;unfold impl_pathOf.f
   repeat' first
   | (with_reducible exact ih0 _ _)
   | (with_reducible exact impl_half.mono _ _)
   | (with_reducible exact impl_rootOf.mono _ _)
   | (with_reducible exact LeO.refl _)
   | (with_reducible exact LeO.none _)
   | (with_reducible refine LeO.ite ?_ ?_)
   | (with_reducible refine LeO.bind ?_ (fun _ => ?_))
   | exact ih0 _ _
   | exact impl_half.mono _ _
   | exact impl_rootOf.mono _ _
   | exact LeO.none _
theorem impl_pathOf.mono : ∀ a0 a1 k,LeO (impl_pathOf.f k a0 a1) (impl_pathOf.f (k + 1) a0 a1) := by
 intro a0 a1 k;have ih0 := impl_pathOf.mono_l k;exact ih0 a0 a1
def impl_pathOf.T5 : Bool × List (List Nat × List Nat) := (true,[([],[]),([],[]),([0,1],[0,1]),([],[]),([2,3],[2,3]),([],[]),([],[]),([5,6],[5,6]),([7,4],[7]),([8],[8]),([4,9,8],[4,9]),([10,10,0,1,2,3,4,5,6,7,8,9,10],[10])])
def impl_pathOf.B5 : List Nat := [0,0,3,0,15,0,0,96,255,511,1023,2047]
theorem impl_pathOf.tab5 : rtab .any (opsOf Try.f98 5) = impl_pathOf.T5 := by kernel_rfl
theorem impl_pathOf.bits5 : waitsOk impl_pathOf.T5.2 impl_pathOf.B5 = true := by kernel_rfl
def impl_pathOf.T6 : Bool × List (List Nat × List Nat) := (true,[([],[]),([],[]),([0,1],[0,1]),([],[]),([],[]),([3,4],[3,4]),([2,5],[2,5]),([],[]),([],[]),([7,8],[7,8]),([9,6],[9]),([10],[10]),([6,11,10],[6,11]),([12,12,0,1,2,3,4,5,6,7,8,9,10,11,12],[12])])
def impl_pathOf.B6 : List Nat := [0,0,3,0,0,24,63,0,0,384,1023,2047,4095,8191]
theorem impl_pathOf.tab6 : rtab .any (opsOf Try.f98 6) = impl_pathOf.T6 := by kernel_rfl
theorem impl_pathOf.bits6 : waitsOk impl_pathOf.T6.2 impl_pathOf.B6 = true := by kernel_rfl
set_option maxHeartbeats 8000000 in
set_option maxRecDepth 100000 in
theorem impl_pathOf.calls (k : Nat) : ∀ (A0 : Option Addr) (c0 : Nat) (l0 : List ByteArray) (a1 : Int) (r : List ByteArray) (w : World) (hr0 : Kd.C Kd.string w A0 l0.length l0) (hc0 : l0.length ≤ c0) (h : impl_pathOf.f k l0 a1 = some r),
  Calls Try.prog 98 #[.slice A0 l0.length c0,.int .i64 a1] w fun e w' => ∃ v0_ : Value,e = .returned (v0_) ∧ Kd.R Kd.string 9 w' w.heap.size (fun _ => True) v0_ r ∧ Below w.heap.size w w' := by
 induction k using Nat.strongRecOn with
 | _ k ih =>
 intro A0 c0 l0 a1 r w hr0 hc0 h
 cases k with
 | zero => exact absurd h (by simp [impl_pathOf.f])
 | succ k =>
 simp only [impl_pathOf.f] at h;have HR0 := Aside0.mk hr0;have HC0 := Aside0.mk hc0;clear hr0 hc0;have HB := Aside0.mk (Below.refl w.heap.size w);have H : (if (l0.length : Int) = 1 then (some ([] : List ByteArray)) else ((impl_half.f k (l0.length : Int)).bind fun t447 => (if a1 < t447 then (if 0 ≤ t447 then (if t447 ≤ (l0.length : Int) then ((impl_pathOf.f k (l0.take (t447 : Int).toNat) a1).bind fun t449 => ((impl_rootOf.f k (l0.drop (t447 : Int).toNat)).bind fun t453 => (if t449.length < 8796093022208 then (some (t449 ++ [t453])) else (none)))) else (none)) else (none)) else (if 0 ≤ t447 then (if t447 ≤ (l0.length : Int) then ((impl_pathOf.f k (l0.drop (t447 : Int).toNat) (wrap64 (a1 - t447))).bind fun t458 => ((impl_rootOf.f k (l0.take (t447 : Int).toNat)).bind fun t462 => (if t458.length < 8796093022208 then (some (t458 ++ [t462])) else (none)))) else (none)) else (none))))) = some r := h;clear h
 by_cases c3 : (l0.length : Int) = 1
 ·rw [if_pos c3] at H;have c3b0 : ((l0.length : Int) == 1) = true := beq_iff_eq.mpr c3;have c3b1 : ((l0.length : Int) != 1) = false := bne_eq_false_iff_eq.mpr c3;clear c3;obtain rfl := Option.some.inj H;go_enter Try.func98,Try.ntmps98;go_wp2;go_ret;exact ⟨_,by rfl,by exact Kd.R_nil _ _ _ _ _,HB.out⟩
 ·rw [if_neg c3] at H;have c3b0 : ((l0.length : Int) == 1) = false := beq_eq_false_iff_ne.mpr c3;have c3b1 : ((l0.length : Int) != 1) = true := bne_iff_ne.mpr c3;replace H := Option.bind_eq_some_iff.mp H;obtain ⟨t447,A40,H⟩ := H;replace H : (if a1 < t447 then (if 0 ≤ t447 then (if t447 ≤ (l0.length : Int) then ((impl_pathOf.f k (l0.take (t447 : Int).toNat) a1).bind fun t449 => ((impl_rootOf.f k (l0.drop (t447 : Int).toNat)).bind fun t453 => (if t449.length < 8796093022208 then (some (t449 ++ [t453])) else (none)))) else (none)) else (none)) else (if 0 ≤ t447 then (if t447 ≤ (l0.length : Int) then ((impl_pathOf.f k (l0.drop (t447 : Int).toNat) (wrap64 (a1 - t447))).bind fun t458 => ((impl_rootOf.f k (l0.take (t447 : Int).toNat)).bind fun t462 => (if t458.length < 8796093022208 then (some (t458 ++ [t462])) else (none)))) else (none)) else (none))) = some r := H;have A4 := Aside0.mk A40;clear A40
  by_cases c5 : a1 < t447
  ·rw [if_pos c5] at H;have c5b0 : decide (a1 < t447) = true := decide_eq_true c5;clear c5
   by_cases c6 : 0 ≤ t447
   ·rw [if_pos c6] at H;have c6b0 := eq_true c6;have c6b1 : decide (0 ≤ t447) = true := decide_eq_true c6;clear c6
    by_cases c7 : t447 ≤ (l0.length : Int)
    ·rw [if_pos c7] at H;have c7b0 := eq_true c7;have c7b1 : decide (t447 ≤ (l0.length : Int)) = true := decide_eq_true c7;clear c7;replace H := Option.bind_eq_some_iff.mp H;obtain ⟨t449,A80,H⟩ := H;replace H : ((impl_rootOf.f k (l0.drop (t447 : Int).toNat)).bind fun t453 => (if t449.length < 8796093022208 then (some (t449 ++ [t453])) else (none))) = some r := H;have A8 := Aside0.mk A80;clear A80;have c9b0 := eq_true (of_decide_eq_true (by (with_reducible assumption)) : 0 ≤ t447);have c10b0 := eq_true (of_decide_eq_true (by (with_reducible assumption)) : t447 ≤ (l0.length : Int));replace H := Option.bind_eq_some_iff.mp H;obtain ⟨t453,A110,H⟩ := H;replace H : (if t449.length < 8796093022208 then (some (t449 ++ [t453])) else (none)) = some r := H;have A11 := Aside0.mk A110;clear A110
     by_cases c12 : t449.length < 8796093022208
     ·rw [if_pos c12] at H;have LMc12 := Aside0.mk c12;clear c12;obtain ⟨y454,hy454⟩ : ∃ y_ : List ByteArray,y_ = (t449 ++ [t453]) := ⟨_,rfl⟩
      replace H : (some y454) = some r := by (rw [hy454]; with_reducible exact H)
      have Ny454 := Aside0.mk hy454;clear hy454;obtain rfl := Option.some.inj H;go_enter Try.func98,Try.ntmps98
      try go_wp2_with (((with_reducible refine gate_callee (f := 112) rfl ?_); refine goesL_ (some 11) rfl rfl Try.func112 (by kernel_rfl) rfl #[.int .i64 (l0.length : Int)] rfl (by (try simp only [List.map_toArray,List.map_cons,List.map_nil]); rfl) ?_; (with_reducible refine (impl_half.calls k (l0.length : Int) t447 _ A4.out).mono ?_); rintro e w' ⟨rfl,⟨nd,rfl⟩⟩; refine ⟨_,rfl,?_⟩))
      have n0_ := Aside0.mk (below_drew1 (pw_below_drewN HB.out nd));clear HB;have HB := n0_;clear n0_;obtain ⟨i014,hi014,_,hsz14,_⟩ := info_parts info9;obtain ⟨hcut14,hA14,hC14⟩ := print_take_of (P := Try.prog) Value.string (⟨#[]⟩ : ByteArray) 74 9 .i64 Try.underlying74 hi014 hsz14 A0 c0 l0 t447 (of_decide_eq_true (by (with_reducible assumption))) (of_decide_eq_true (by (with_reducible assumption))) HC0.out;have HR448 := Aside0.mk (Kd.C_of_reads (h1 := fun _ => rfl) (hA14 _ (Kd.reads_of_C HR0.out)));have HC448 := Aside0.mk hC14;clear hA14 hC14 hi014 hsz14;obtain ⟨i015,hi015,_,hsz15,_⟩ := info_parts info9;obtain ⟨A15,hcut15,hA15,hC15⟩ := print_drop_of (P := Try.prog) Value.string (⟨#[]⟩ : ByteArray) 74 9 .i64 Try.underlying74 hi015 hsz15 A0 c0 l0 t447 (of_decide_eq_true (by (with_reducible assumption))) (of_decide_eq_true (by (with_reducible assumption))) HC0.out;have HR452 := Aside0.mk (Kd.C_of_reads (h1 := fun _ => rfl) (hA15 _ (Kd.reads_of_C HR0.out)));have HC452 := Aside0.mk hC15;clear hA15 hC15 hi015 hsz15;refine start_ (n := 12) (S := fun w' => True) (ds := []) #[false,false,false,false,false,false,false,false,false,false,false,false] (by kernel_rfl) rfl rfl trivial (fun hHeld => ?_); refine with_tabW impl_pathOf.tab5 impl_pathOf.bits5 (fun HT_ HW_ => ?_)
      generalize (w.drewN nd).drew = w13 at HB HR448 HR452 hHeld ⊢
      refine pure_ (i := 0) (N := some 15) (v := ?_) (a' := ?_) #[true,false,false,false,false,false,false,false,false,false,false,false] rfl rfl (any_of HT_.out (by kernel_rfl)) (fun _ _ _ h => h) (Or.inl ⟨by rfl,?_⟩) ?_ ?_;rotate_left
      ·intro w';go_simp;with_reducible rfl
      rotate_left
      ·simp only [wf_preprocess];rfl
      refine pure_ (i := 1) (N := some 16) (v := ?_) (a' := ?_) #[true,true,false,false,false,false,false,false,false,false,false,false] rfl rfl (any_of HT_.out (by kernel_rfl)) (fun _ _ _ h => h) (Or.inl ⟨by rfl,?_⟩) ?_ ?_;rotate_left
      ·intro w';go_simp;with_reducible rfl
      rotate_left
      ·simp only [wf_preprocess];rfl
      refine pure_ (i := 2) (N := some 17) (v := ?_) (a' := ?_) #[true,true,true,false,false,false,false,false,false,false,false,false] rfl rfl (any_of HT_.out (by kernel_rfl)) (fun _ _ _ h => h) (Or.inl ⟨by rfl,?_⟩) ?_ ?_;rotate_left
      ·intro w';go_simp;with_reducible rfl
      rotate_left
      ·simp only [wf_preprocess];rfl
      refine pure_ (i := 3) (N := some 18) (v := ?_) (a' := ?_) #[true,true,true,true,false,false,false,false,false,false,false,false] rfl rfl (any_of HT_.out (by kernel_rfl)) (fun _ _ _ h => h) (Or.inl ⟨by rfl,?_⟩) ?_ ?_;rotate_left
      ·intro w';go_simp;with_reducible rfl
      rotate_left
      ·simp only [wf_preprocess];rfl
      refine pure_ (i := 5) (N := some 20) (v := ?_) (a' := ?_) #[true,true,true,true,false,true,false,false,false,false,false,false] rfl rfl (any_of HT_.out (by kernel_rfl)) (fun _ _ _ h => h) (Or.inl ⟨by rfl,?_⟩) ?_ ?_;rotate_left
      ·intro w';go_simp;with_reducible rfl
      rotate_left
      ·simp only [wf_preprocess];rfl
      refine pure_ (i := 6) (N := some 21) (v := ?_) (a' := ?_) #[true,true,true,true,false,true,true,false,false,false,false,false] rfl rfl (any_of HT_.out (by kernel_rfl)) (fun _ _ _ h => h) (Or.inl ⟨by rfl,?_⟩) ?_ ?_;rotate_left
      ·intro w';go_simp;with_reducible rfl
      rotate_left
      ·simp only [wf_preprocess];rfl
      refine pure_ (i := 7) (N := some 22) (v := ?_) (a' := ?_) #[true,true,true,true,false,true,true,true,false,false,false,false] rfl rfl (any_of HT_.out (by kernel_rfl)) (fun _ _ _ h => h) (Or.inl ⟨by rfl,?_⟩) ?_ ?_;rotate_left
      ·intro w';go_simp;with_reducible rfl
      rotate_left
      ·simp only [wf_preprocess];rfl
      refine one_ (i := 4) (N := some 19) #[true,true,true,true,true,true,true,true,false,false,false,false] rfl rfl (one_of HT_.out (by kernel_rfl)) (by decide) (fun K hK => ?_);refine goes_ Try.func98 (by kernel_rfl) rfl #[.slice A0 (l0.take (t447 : Int).toNat).length c0,.int .i64 a1] (by rfl) rfl rfl (by (try simp only [List.map_toArray,List.map_cons,List.map_nil]); (rw [show (l0.take (t447 : Int).toNat).length = t447.toNat from (by rw [List.length_take]; have h_ : (t447 : Int) ≤ (l0.length : Int) := of_decide_eq_true (by (with_reducible assumption)); omega)] <;> rfl)) ?_
      with_reducible refine (ih k (by omega) _ _ (l0.take (t447 : Int).toNat) a1 t449 _ ?side1 ?side2 A8.out).mono ?_
      (case side1 => repeat (exact (Kd.C_below HR448.out HB.out)))
      (case side2 => exact HC448.out)
      rintro e w16 ⟨v450,rfl,ho0,hb⟩;refine ⟨_,rfl,?_⟩;have n0_ := Aside0.mk (Kd.R_lower ho0 (below_size HB.out));have n1_ := Aside0.mk (below_step HB.out hb);clear HB;have HO451 := n0_;have HB := n1_;clear n0_ n1_
      (try clear hb)
      skip
      skip
      skip
      (try clear ho0)
      refine hK.out _ _ trivial (fun hHeld => ?_);clear hK K;refine norm_ (a' := ?_) ?_ ?_;rotate_left
      ·show Act.put _ (some 19) _ = _
       simp only [wf_preprocess];rfl
      refine one_ (i := 8) (N := some 23) #[true,true,true,true,true,true,true,true,true,false,false,false] rfl rfl (one_of HT_.out (by kernel_rfl)) (by decide) (fun K hK => ?_);refine goes_ Try.func72 (by kernel_rfl) rfl #[.slice A15 (l0.drop (t447 : Int).toNat).length (c0 - t447.toNat)] (by rfl) rfl rfl (by (try simp only [List.map_toArray,List.map_cons,List.map_nil]); (rw [show (l0.drop (t447 : Int).toNat).length = (l0.length - t447.toNat) from List.length_drop] <;> rfl)) ?_
      with_reducible refine (impl_rootOf.calls k _ _ (l0.drop (t447 : Int).toNat) t453 _ ?side1 ?side2 A11.out).mono ?_
      (case side1 => repeat (exact (Kd.C_below HR452.out HB.out)))
      (case side2 => exact HC452.out)
      rintro e w17 ⟨rfl,hb⟩;refine ⟨_,rfl,?_⟩;have n0_ := Aside0.mk (Kd.R_below (by exact HO451.out) hb);have n1_ := Aside0.mk (below_step HB.out hb);clear HO451;clear HB;have HO451 := n0_;have HB := n1_;clear n0_ n1_
      (try clear hb)
      skip
      skip
      skip
      refine hK.out _ _ trivial (fun hHeld => ?_);clear hK K;refine norm_ (a' := ?_) ?_ ?_;rotate_left
      ·show Act.put _ (some 23) _ = _
       simp only [wf_preprocess];rfl
      refine one_ (i := 9) (N := some 24) #[true,true,true,true,true,true,true,true,true,true,false,false] rfl rfl (one_of HT_.out (by kernel_rfl)) (by decide) (fun K hK => ?_);refine value_ (w1 := ?_) (v := ?_) (by rfl) rfl ?_ ?_;rotate_left 2
      ·go_simp
       constructor
       ·rfl
       ·rfl
      refine hK.out _ _ trivial (fun hHeld => ?_);clear hK K;refine norm_ (a' := ?_) ?_ ?_;rotate_left
      ·show Act.put _ (some 24) _ = _
       simp only [wf_preprocess];rfl
      refine one_ (i := 10) (N := some 25) #[true,true,true,true,true,true,true,true,true,true,true,false] rfl rfl (one_of HT_.out (by kernel_rfl)) (by decide) (fun K hK => ?_);refine Kd.R_append_step Kd.string (w0 := w) w.heap.size (by rfl) (.tmp 19) (.tmp 24) 74 9 (.string ⟨#[]⟩) 16 rfl Try.underlying74 info9 rfl (by decide) (by omega) v450 t449 t453 [.string t453] (fun _ => True) (fun _ => False) rfl rfl ?aP (fun _ hk => hk.elim) ?aF ?aO ?aB ?aS ?aL ?_
      (case aP => exact rfl)
      (case aB => exact HB.out)
      (case aF => exact (fun _ _ => trivial))
      (case aO => exact (by exact HO451.out))
      (case aS => exact (below_size HB.out))
      (case aL => have := LMc12.out; omega)
      intro v455 w18 ho hb hg hat;rw [← Ny454.out] at ho;have n0_ := Aside0.mk (hb);have n1_ := Aside0.mk (ho);clear HB;clear HO451;have HB := n0_;have HO456 := n1_;clear n0_ n1_;clear ho hb hg hat;refine hK.out _ _ trivial (fun hHeld => ?_);clear hK K;refine norm_ (a' := ?_) ?_ ?_;rotate_left
      ·show Act.put _ (some 25) _ = _
       simp only [wf_preprocess];rfl
      refine pure_ (i := 11) (N := some 4) (v := ?_) (a' := ?_) #[true,true,true,true,true,true,true,true,true,true,true,true] rfl rfl (any_of HT_.out (by kernel_rfl)) (fun _ _ _ h => h) (Or.inl ⟨by rfl,?_⟩) ?_ ?_;rotate_left
      ·intro w';go_simp;with_reducible rfl
      rotate_left
      ·simp only [wf_preprocess];rfl
      refine done_ (done_of HT_.out (by kernel_rfl)) ?_
      try go_wp2
      go_ret;exact ⟨_,by rfl,by exact HO456.out,HB.out⟩
     ·rw [if_neg c12] at H;exact absurd H (by simp)
    ·rw [if_neg c7] at H;exact absurd H (by simp)
   ·rw [if_neg c6] at H;exact absurd H (by simp)
  ·rw [if_neg c5] at H;have c5b0 : decide (a1 < t447) = false := decide_eq_false c5;clear c5
   by_cases c19 : 0 ≤ t447
   ·rw [if_pos c19] at H;have c19b0 := eq_true c19;have c19b1 : decide (0 ≤ t447) = true := decide_eq_true c19;clear c19
    by_cases c20 : t447 ≤ (l0.length : Int)
    ·rw [if_pos c20] at H;have c20b0 := eq_true c20;have c20b1 : decide (t447 ≤ (l0.length : Int)) = true := decide_eq_true c20;clear c20;replace H := Option.bind_eq_some_iff.mp H;obtain ⟨t458,A210,H⟩ := H;replace H : ((impl_rootOf.f k (l0.take (t447 : Int).toNat)).bind fun t462 => (if t458.length < 8796093022208 then (some (t458 ++ [t462])) else (none))) = some r := H;have A21 := Aside0.mk A210;clear A210;have c22b0 := eq_true (of_decide_eq_true (by (with_reducible assumption)) : 0 ≤ t447);have c23b0 := eq_true (of_decide_eq_true (by (with_reducible assumption)) : t447 ≤ (l0.length : Int));replace H := Option.bind_eq_some_iff.mp H;obtain ⟨t462,A240,H⟩ := H;replace H : (if t458.length < 8796093022208 then (some (t458 ++ [t462])) else (none)) = some r := H;have A24 := Aside0.mk A240;clear A240
     by_cases c25 : t458.length < 8796093022208
     ·rw [if_pos c25] at H;have LMc25 := Aside0.mk c25;clear c25;obtain ⟨y463,hy463⟩ : ∃ y_ : List ByteArray,y_ = (t458 ++ [t462]) := ⟨_,rfl⟩
      replace H : (some y463) = some r := by (rw [hy463]; with_reducible exact H)
      have Ny463 := Aside0.mk hy463;clear hy463;obtain rfl := Option.some.inj H;go_enter Try.func98,Try.ntmps98
      try go_wp2_with (((with_reducible refine gate_callee (f := 112) rfl ?_); refine goesL_ (some 11) rfl rfl Try.func112 (by kernel_rfl) rfl #[.int .i64 (l0.length : Int)] rfl (by (try simp only [List.map_toArray,List.map_cons,List.map_nil]); rfl) ?_; (with_reducible refine (impl_half.calls k (l0.length : Int) t447 _ A4.out).mono ?_); rintro e w' ⟨rfl,⟨nd,rfl⟩⟩; refine ⟨_,rfl,?_⟩))
      have n0_ := Aside0.mk (below_drew1 (pw_below_drewN HB.out nd));clear HB;have HB := n0_;clear n0_;obtain ⟨i027,hi027,_,hsz27,_⟩ := info_parts info9;obtain ⟨A27,hcut27,hA27,hC27⟩ := print_drop_of (P := Try.prog) Value.string (⟨#[]⟩ : ByteArray) 74 9 .i64 Try.underlying74 hi027 hsz27 A0 c0 l0 t447 (of_decide_eq_true (by (with_reducible assumption))) (of_decide_eq_true (by (with_reducible assumption))) HC0.out;have HR457 := Aside0.mk (Kd.C_of_reads (h1 := fun _ => rfl) (hA27 _ (Kd.reads_of_C HR0.out)));have HC457 := Aside0.mk hC27;clear hA27 hC27 hi027 hsz27;obtain ⟨i028,hi028,_,hsz28,_⟩ := info_parts info9;obtain ⟨hcut28,hA28,hC28⟩ := print_take_of (P := Try.prog) Value.string (⟨#[]⟩ : ByteArray) 74 9 .i64 Try.underlying74 hi028 hsz28 A0 c0 l0 t447 (of_decide_eq_true (by (with_reducible assumption))) (of_decide_eq_true (by (with_reducible assumption))) HC0.out;have HR461 := Aside0.mk (Kd.C_of_reads (h1 := fun _ => rfl) (hA28 _ (Kd.reads_of_C HR0.out)));have HC461 := Aside0.mk hC28;clear hA28 hC28 hi028 hsz28;refine start_ (n := 14) (S := fun w' => True) (ds := []) #[false,false,false,false,false,false,false,false,false,false,false,false,false,false] (by kernel_rfl) rfl rfl trivial (fun hHeld => ?_); refine with_tabW impl_pathOf.tab6 impl_pathOf.bits6 (fun HT_ HW_ => ?_)
      generalize (w.drewN nd).drew = w26 at HB HR457 HR461 hHeld ⊢
      refine pure_ (i := 0) (N := some 26) (v := ?_) (a' := ?_) #[true,false,false,false,false,false,false,false,false,false,false,false,false,false] rfl rfl (any_of HT_.out (by kernel_rfl)) (fun _ _ _ h => h) (Or.inl ⟨by rfl,?_⟩) ?_ ?_;rotate_left
      ·intro w';go_simp;with_reducible rfl
      rotate_left
      ·simp only [wf_preprocess];rfl
      refine pure_ (i := 1) (N := some 27) (v := ?_) (a' := ?_) #[true,true,false,false,false,false,false,false,false,false,false,false,false,false] rfl rfl (any_of HT_.out (by kernel_rfl)) (fun _ _ _ h => h) (Or.inl ⟨by rfl,?_⟩) ?_ ?_;rotate_left
      ·intro w';go_simp;with_reducible rfl
      rotate_left
      ·simp only [wf_preprocess];rfl
      refine pure_ (i := 2) (N := some 28) (v := ?_) (a' := ?_) #[true,true,true,false,false,false,false,false,false,false,false,false,false,false] rfl rfl (any_of HT_.out (by kernel_rfl)) (fun _ _ _ h => h) (Or.inl ⟨by rfl,?_⟩) ?_ ?_;rotate_left
      ·intro w';go_simp;with_reducible rfl
      rotate_left
      ·simp only [wf_preprocess];rfl
      refine pure_ (i := 3) (N := some 29) (v := ?_) (a' := ?_) #[true,true,true,true,false,false,false,false,false,false,false,false,false,false] rfl rfl (any_of HT_.out (by kernel_rfl)) (fun _ _ _ h => h) (Or.inl ⟨by rfl,?_⟩) ?_ ?_;rotate_left
      ·intro w';go_simp;with_reducible rfl
      rotate_left
      ·simp only [wf_preprocess];rfl
      refine pure_ (i := 4) (N := some 30) (v := ?_) (a' := ?_) #[true,true,true,true,true,false,false,false,false,false,false,false,false,false] rfl rfl (any_of HT_.out (by kernel_rfl)) (fun _ _ _ h => h) (Or.inl ⟨by rfl,?_⟩) ?_ ?_;rotate_left
      ·intro w';go_simp;with_reducible rfl
      rotate_left
      ·simp only [wf_preprocess];rfl
      refine pure_ (i := 5) (N := some 31) (v := ?_) (a' := ?_) #[true,true,true,true,true,true,false,false,false,false,false,false,false,false] rfl rfl (any_of HT_.out (by kernel_rfl)) (fun _ _ _ h => h) (Or.inl ⟨by rfl,?_⟩) ?_ ?_;rotate_left
      ·intro w';go_simp;with_reducible rfl
      rotate_left
      ·simp only [wf_preprocess];rfl
      refine pure_ (i := 7) (N := some 33) (v := ?_) (a' := ?_) #[true,true,true,true,true,true,false,true,false,false,false,false,false,false] rfl rfl (any_of HT_.out (by kernel_rfl)) (fun _ _ _ h => h) (Or.inl ⟨by rfl,?_⟩) ?_ ?_;rotate_left
      ·intro w';go_simp;with_reducible rfl
      rotate_left
      ·simp only [wf_preprocess];rfl
      refine pure_ (i := 8) (N := some 34) (v := ?_) (a' := ?_) #[true,true,true,true,true,true,false,true,true,false,false,false,false,false] rfl rfl (any_of HT_.out (by kernel_rfl)) (fun _ _ _ h => h) (Or.inl ⟨by rfl,?_⟩) ?_ ?_;rotate_left
      ·intro w';go_simp;with_reducible rfl
      rotate_left
      ·simp only [wf_preprocess];rfl
      refine pure_ (i := 9) (N := some 35) (v := ?_) (a' := ?_) #[true,true,true,true,true,true,false,true,true,true,false,false,false,false] rfl rfl (any_of HT_.out (by kernel_rfl)) (fun _ _ _ h => h) (Or.inl ⟨by rfl,?_⟩) ?_ ?_;rotate_left
      ·intro w';go_simp;with_reducible rfl
      rotate_left
      ·simp only [wf_preprocess];rfl
      refine one_ (i := 6) (N := some 32) #[true,true,true,true,true,true,true,true,true,true,false,false,false,false] rfl rfl (one_of HT_.out (by kernel_rfl)) (by decide) (fun K hK => ?_);refine goes_ Try.func98 (by kernel_rfl) rfl #[.slice A27 (l0.drop (t447 : Int).toNat).length (c0 - t447.toNat),.int .i64 (wrap64 (a1 - t447))] (by rfl) rfl rfl (by (try simp only [List.map_toArray,List.map_cons,List.map_nil]); (rw [show (l0.drop (t447 : Int).toNat).length = (l0.length - t447.toNat) from List.length_drop] <;> rfl)) ?_
      with_reducible refine (ih k (by omega) _ _ (l0.drop (t447 : Int).toNat) (wrap64 (a1 - t447)) t458 _ ?side1 ?side2 A21.out).mono ?_
      (case side1 => repeat (exact (Kd.C_below HR457.out HB.out)))
      (case side2 => exact HC457.out)
      rintro e w29 ⟨v459,rfl,ho0,hb⟩;refine ⟨_,rfl,?_⟩;have n0_ := Aside0.mk (Kd.R_lower ho0 (below_size HB.out));have n1_ := Aside0.mk (below_step HB.out hb);clear HB;have HO460 := n0_;have HB := n1_;clear n0_ n1_
      (try clear hb)
      skip
      skip
      skip
      (try clear ho0)
      refine hK.out _ _ trivial (fun hHeld => ?_);clear hK K;refine norm_ (a' := ?_) ?_ ?_;rotate_left
      ·show Act.put _ (some 32) _ = _
       simp only [wf_preprocess];rfl
      refine one_ (i := 10) (N := some 36) #[true,true,true,true,true,true,true,true,true,true,true,false,false,false] rfl rfl (one_of HT_.out (by kernel_rfl)) (by decide) (fun K hK => ?_);refine goes_ Try.func72 (by kernel_rfl) rfl #[.slice A0 (l0.take (t447 : Int).toNat).length c0] (by rfl) rfl rfl (by (try simp only [List.map_toArray,List.map_cons,List.map_nil]); (rw [show (l0.take (t447 : Int).toNat).length = t447.toNat from (by rw [List.length_take]; have h_ : (t447 : Int) ≤ (l0.length : Int) := of_decide_eq_true (by (with_reducible assumption)); omega)] <;> rfl)) ?_
      with_reducible refine (impl_rootOf.calls k _ _ (l0.take (t447 : Int).toNat) t462 _ ?side1 ?side2 A24.out).mono ?_
      (case side1 => repeat (exact (Kd.C_below HR461.out HB.out)))
      (case side2 => exact HC461.out)
      rintro e w30 ⟨rfl,hb⟩;refine ⟨_,rfl,?_⟩;have n0_ := Aside0.mk (Kd.R_below (by exact HO460.out) hb);have n1_ := Aside0.mk (below_step HB.out hb);clear HO460;clear HB;have HO460 := n0_;have HB := n1_;clear n0_ n1_
      (try clear hb)
      skip
      skip
      skip
      refine hK.out _ _ trivial (fun hHeld => ?_);clear hK K;refine norm_ (a' := ?_) ?_ ?_;rotate_left
      ·show Act.put _ (some 36) _ = _
       simp only [wf_preprocess];rfl
      refine one_ (i := 11) (N := some 37) #[true,true,true,true,true,true,true,true,true,true,true,true,false,false] rfl rfl (one_of HT_.out (by kernel_rfl)) (by decide) (fun K hK => ?_);refine value_ (w1 := ?_) (v := ?_) (by rfl) rfl ?_ ?_;rotate_left 2
      ·go_simp
       constructor
       ·rfl
       ·rfl
      refine hK.out _ _ trivial (fun hHeld => ?_);clear hK K;refine norm_ (a' := ?_) ?_ ?_;rotate_left
      ·show Act.put _ (some 37) _ = _
       simp only [wf_preprocess];rfl
      refine one_ (i := 12) (N := some 38) #[true,true,true,true,true,true,true,true,true,true,true,true,true,false] rfl rfl (one_of HT_.out (by kernel_rfl)) (by decide) (fun K hK => ?_);refine Kd.R_append_step Kd.string (w0 := w) w.heap.size (by rfl) (.tmp 32) (.tmp 37) 74 9 (.string ⟨#[]⟩) 16 rfl Try.underlying74 info9 rfl (by decide) (by omega) v459 t458 t462 [.string t462] (fun _ => True) (fun _ => False) rfl rfl ?aP (fun _ hk => hk.elim) ?aF ?aO ?aB ?aS ?aL ?_
      (case aP => exact rfl)
      (case aB => exact HB.out)
      (case aF => exact (fun _ _ => trivial))
      (case aO => exact (by exact HO460.out))
      (case aS => exact (below_size HB.out))
      (case aL => have := LMc25.out; omega)
      intro v464 w31 ho hb hg hat;rw [← Ny463.out] at ho;have n0_ := Aside0.mk (hb);have n1_ := Aside0.mk (ho);clear HB;clear HO460;have HB := n0_;have HO465 := n1_;clear n0_ n1_;clear ho hb hg hat;refine hK.out _ _ trivial (fun hHeld => ?_);clear hK K;refine norm_ (a' := ?_) ?_ ?_;rotate_left
      ·show Act.put _ (some 38) _ = _
       simp only [wf_preprocess];rfl
      refine pure_ (i := 13) (N := some 4) (v := ?_) (a' := ?_) #[true,true,true,true,true,true,true,true,true,true,true,true,true,true] rfl rfl (any_of HT_.out (by kernel_rfl)) (fun _ _ _ h => h) (Or.inl ⟨by rfl,?_⟩) ?_ ?_;rotate_left
      ·intro w';go_simp;with_reducible rfl
      rotate_left
      ·simp only [wf_preprocess];rfl
      refine done_ (done_of HT_.out (by kernel_rfl)) ?_
      try go_wp2
      go_ret;exact ⟨_,by rfl,by exact HO465.out,HB.out⟩
     ·rw [if_neg c25] at H;exact absurd H (by simp)
    ·rw [if_neg c20] at H;exact absurd H (by simp)
   ·rw [if_neg c19] at H;exact absurd H (by simp)

/-! ### impl_PathOf: function 51 -/
def impl_PathOf.f (k : Nat) (l0 : List ByteArray) (a1 : Int) : Option (List ByteArray) := if (l0.length : Int) > 64 then (some ([] : List ByteArray)) else ((impl_inRange.f a1 0 (wrap64 ((l0.length : Int) - 1))).bind fun t466 => (if t466 = true then ((impl_pathOf.f k l0 a1).bind fun t467 => (some t467)) else (some ([] : List ByteArray))))
theorem impl_PathOf.mono : ∀ a0 a1 k,LeO (impl_PathOf.f k a0 a1) (impl_PathOf.f (k + 1) a0 a1) := by
 intro a0 a1 k;unfold impl_PathOf.f
 repeat' first
   | (with_reducible exact impl_pathOf.mono _ _ _)
   | (with_reducible exact LeO.refl _)
   | (with_reducible exact LeO.none _)
   | (with_reducible refine LeO.ite ?_ ?_)
   | (with_reducible refine LeO.bind ?_ (fun _ => ?_))
   | exact impl_pathOf.mono _ _ _
   | exact LeO.none _
set_option maxHeartbeats 8000000 in
set_option maxRecDepth 100000 in
theorem impl_PathOf.calls (k : Nat) (A0 : Option Addr) (c0 : Nat) (l0 : List ByteArray) (a1 : Int) (r : List ByteArray) (w : World) (hr0 : Kd.C Kd.string w A0 l0.length l0) (hc0 : l0.length ≤ c0) (h : impl_PathOf.f k l0 a1 = some r) :
  Calls Try.prog 51 #[.slice A0 l0.length c0,.int .i64 a1] w fun e w' => ∃ v0_ : Value,e = .returned (v0_) ∧ Kd.R Kd.string 9 w' w.heap.size (fun _ => True) v0_ r ∧ Below w.heap.size w w' := by
 have HR0 := Aside0.mk hr0;have HC0 := Aside0.mk hc0;clear hr0 hc0;have HB := Aside0.mk (Below.refl w.heap.size w);have H : (if (l0.length : Int) > 64 then (some ([] : List ByteArray)) else ((impl_inRange.f a1 0 (wrap64 ((l0.length : Int) - 1))).bind fun t466 => (if t466 = true then ((impl_pathOf.f k l0 a1).bind fun t467 => (some t467)) else (some ([] : List ByteArray))))) = some r := h;clear h
 by_cases c3 : (l0.length : Int) > 64
 ·rw [if_pos c3] at H;have c3b0 : decide (64 < (l0.length : Int)) = true := decide_eq_true c3;have c3b1 : decide (64 < l0.length) = true := decide_eq_true (by omega);clear c3;obtain rfl := Option.some.inj H;go_enter Try.func51,Try.ntmps51;go_wp2;go_ret;exact ⟨_,by rfl,by exact Kd.R_nil _ _ _ _ _,HB.out⟩
 ·rw [if_neg c3] at H;have c3b0 : decide (64 < (l0.length : Int)) = false := decide_eq_false c3;have c3b1 : decide (64 < l0.length) = false := decide_eq_false (by omega);clear c3;replace H := Option.bind_eq_some_iff.mp H;obtain ⟨t466,A40,H⟩ := H;replace H : (if t466 = true then ((impl_pathOf.f k l0 a1).bind fun t467 => (some t467)) else (some ([] : List ByteArray))) = some r := H;have A4 := Aside0.mk A40;clear A40
  by_cases c5 : t466 = true
  ·subst c5
   have H1 : ((impl_pathOf.f k l0 a1).bind fun t467 => (some t467)) = some r := by rw [if_pos rfl] at H; exact H
   clear H;have H := H1;clear H1;replace H := Option.bind_eq_some_iff.mp H;obtain ⟨t467,A60,H⟩ := H;replace H : (some t467) = some r := H;have A6 := Aside0.mk A60;clear A60;obtain rfl := Option.some.inj H;go_enter Try.func51,Try.ntmps51
   go_wp2_with (first | (go_at_call 69; (with_reducible refine (impl_inRange.calls a1 0 (wrap64 ((l0.length : Int) - 1)) true _ A4.out).mono ?_); rintro e w' ⟨rfl,⟨nd,rfl⟩⟩) | ((with_reducible refine gate_callee (f := 98) rfl ?_); refine goesL_ (some 18) rfl rfl Try.func98 (by kernel_rfl) rfl #[.slice A0 l0.length c0,.int .i64 a1] rfl (by (try simp only [List.map_toArray,List.map_cons,List.map_nil]); rfl) ?_; (with_reducible refine (impl_pathOf.calls k _ _ l0 a1 t467 _ ?side1 ?side2 A6.out).mono ?_); (case side1 => repeat (exact HR0.out)); (case side2 => exact HC0.out); rintro e w7 ⟨v468,rfl,ho0,hb⟩; refine ⟨_,rfl,?_⟩; have n0_ := Aside0.mk (Kd.R_lower ho0 (below_size (by repeat (with_reducible first | exact HB.out | apply pw_below_drewN)))); have n1_ := Aside0.mk (below_step (by repeat (with_reducible first | exact HB.out | apply pw_below_drewN)) hb); clear HB; have HO469 := n0_; have HB := n1_; clear n0_ n1_; (try clear hb); (try clear ho0)))
   go_ret;exact ⟨_,by rfl,by exact HO469.out,HB.out⟩
  ·replace c5 := Bool.eq_false_iff.mpr c5;subst c5
   have H1 : (some ([] : List ByteArray)) = some r := by rw [if_neg (show ¬ (false = true) by decide)] at H; exact H
   clear H;have H := H1;clear H1;obtain rfl := Option.some.inj H;go_enter Try.func51,Try.ntmps51
   go_wp2_with ((go_at_call 69; (with_reducible refine (impl_inRange.calls a1 0 (wrap64 ((l0.length : Int) - 1)) false _ A4.out).mono ?_); rintro e w' ⟨rfl,⟨nd,rfl⟩⟩))
   go_ret;exact ⟨_,by rfl,by exact Kd.R_nil _ _ _ _ _,by repeat (with_reducible first | exact HB.out | apply pw_below_drewN)⟩

end Go.Proofs.Ytcbpfofkdipjhaa.PI
