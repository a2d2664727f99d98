/- The machine's side of Go functions: each as a plain function,and that the call does what it says. Written by a program (wip/mprint). -/
import Derived.Test.YtcbpfofkdipjhaaCVPVx0
import Derived.Test.YtcbpfofkdipjhaaCVPVx15
namespace Go.Proofs.Ytcbpfofkdipjhaa.PV
open Go.RowKit Go.Proofs.YtcbpfofkdipjhaaW.PrintWords Go.Proofs.YtcbpfofkdipjhaaW.PrintLast Go.Proofs.YtcbpfofkdipjhaaW.PrintMore
attribute [local wf_preprocess] Act.put List.setIfInBounds_toArray List.set_cons_zero List.set_cons_succ i64_w i32_w
set_option maxHeartbeats 8000000
set_option maxRecDepth 100000
attribute [local go_sem] max2_int min2_int max_two min_two max_three min_three max_four min_four   -- for this text's walks alone
set_option linter.unusedVariables false
set_option linter.unusedSimpArgs false

/-! ### impl_LeafDigest: function 111 -/
def impl_LeafDigest.f (k : Nat) (a0 : ByteArray) : Option (ByteArray) := (some (([0] : List Int) : List Int)).bind fun y435 => (if y435.length + a0.size < 140737488355328 then ((impl_Digest.f k (y435 ++ bytesOf a0)).bind fun t441 => (some t441)) else (none))
theorem impl_LeafDigest.calls (k : Nat) (a0 : ByteArray) (r : ByteArray) (w : World) (h : impl_LeafDigest.f k a0 = some r) :
  Calls Try.prog 111 #[.string a0] w fun e w' => e = .returned (.string r) ∧ Below w.heap.size w w' := by
 have HB := Aside0.mk (Below.refl w.heap.size w);have H : ((some (([0] : List Int) : List Int)).bind fun y435 => (if y435.length + a0.size < 140737488355328 then ((impl_Digest.f k (y435 ++ bytesOf a0)).bind fun t441 => (some t441)) else (none))) = some r := h;clear h;obtain ⟨y435,hy435⟩ : ∃ y_ : List Int,y_ = ([0] : List Int) := ⟨_,rfl⟩
 replace H : (if y435.length + a0.size < 140737488355328 then ((impl_Digest.f k (y435 ++ bytesOf a0)).bind fun t441 => (some t441)) else (none)) = some r := by (have H2_ := (Option.bind_some _ _).symm.trans H; rw [hy435]; with_reducible exact H2_)
 have Ny435 := Aside0.mk hy435;clear hy435
 by_cases c2 : y435.length + a0.size < 140737488355328
 ·rw [if_pos c2] at H;have LMc2 := Aside0.mk c2;clear c2;obtain ⟨y438,hy438⟩ : ∃ y_ : List Int,y_ = (y435 ++ bytesOf a0) := ⟨_,rfl⟩
  replace H : ((impl_Digest.f k y438).bind fun t441 => (some t441)) = some r := by (rw [hy438]; with_reducible exact H)
  have Ny438 := Aside0.mk hy438;clear hy438;replace H := Option.bind_eq_some_iff.mp H;obtain ⟨t441,A30,H⟩ := H;replace H : (some t441) = some r := H;have A3 := Aside0.mk A30;clear A30;obtain rfl := Option.some.inj H;go_enter Try.func111,Try.ntmps111
  go_wp2_with (first | ((with_reducible refine gate_dst (N := 3) rfl ?_); refine Kd.R_lit (Kd.int .u8) _ 5 ?hg (N := 3) ?hd (xs := ([0] : List Int)) (inner := [.int .u8 0]) (ok := fun _ => True) (okp := fun _ => True) ?hr ?hp (fun _ hk => hk) trivial (Below.refl _ _) (Nat.le_refl _) (by simp) ?_; (case hd => rfl); (case hg => rfl); (case hr => (go_simp; done)); (case hp => exact (Reps.one (show Kd.M (Kd.int .u8) _ _ _ 0 [.int .u8 0] from rfl) (Reps.none _ _))); intro v436 w4 ho5 hb hg_ hnew_; clear hg_ hnew_; (rw [← Ny435.out] at ho5); have HO437 := Aside0.mk (Kd.R_lower ho5 (below_size HB.out)); replace HB := bst HB hb; clear hb ho5) | (at_builtin; refine print_append_str (w0 := w) w.heap.size rfl (.tmp 3) _ 40 9 5 rfl Try.underlying40 Try.underlying9 info5 v436 y435 a0 rfl rfl ?aO ?aB ?aS ?aL ?_; (case aB => exact HB.out); (case aO => exact (Kd.own_of_R (by exact HO437.out))); (case aS => exact (below_size HB.out)); (case aL => have := LMc2.out; omega); intro v439 w6 ho0 hb hg; have ho := Kd.R_of_own (h1 := fun _ => rfl) (ok := fun _ => True) ho0 (fun _ _ => trivial); clear ho0; have hat := True.intro; rw [← Ny438.out] at ho; change Kd.R (Kd.int .u8) 5 w6 w.heap.size (fun _ => True) v439 y438 at ho; replace HB := Aside0.mk (hb); have HO440 := Aside0.mk (ho); clear HO437; clear ho hb hg hat; obtain ⟨Ao7,co7,eo7⟩ := Kd.R_slice HO440.out; subst eo7) | ((with_reducible refine gate_callee (f := 110) rfl ?_); refine goesL_ (some 6) rfl rfl Try.func110 (by kernel_rfl) rfl #[.slice Ao7 y438.length co7] rfl (by (try simp only [List.map_toArray,List.map_cons,List.map_nil]); rfl) ?_; (with_reducible refine (impl_Digest.calls k _ _ y438 t441 _ ?side1 ?side2 A3.out).mono ?_); (case side1 => repeat (exact (Kd.R_reads' HO440.out).2.2)); (case side2 => exact (Kd.R_reads' HO440.out).2.1); rintro e w8 ⟨rfl,hb⟩; refine ⟨_,rfl,?_⟩; replace HO440 := Aside0.mk (Kd.R_below (by exact HO440.out) hb); replace HB := bst HB hb; (try clear hb); skip))
  go_ret;exact ⟨by rfl,HB.out⟩
 ·rw [if_neg c2] at H;exact absurd H (by simp)

/-! ### impl_half: function 112 -/
def impl_half.l0 : Nat → Int → Int → Option (Int)
 | 0,_,_ => none
 | k + 1,x0,x3 => if (wrap64 (2 * x3)) < x0 then (impl_half.l0 k x0 (wrap64 (x3 * 2))) else (some x3)
def impl_half.f (k : Nat) (a0 : Int) : Option (Int) := impl_half.l0 k a0 1
theorem impl_half.calls (k : Nat) (a0 : Int) (r : Int) (w : World) (h : impl_half.f k a0 = some r) :
  Calls Try.prog 112 #[.int .i64 a0] w fun e w' => e = .returned (.int .i64 r) ∧ Drawn0 w w' := by
 have H : (impl_half.l0 k a0 1) = some r := h;clear h;have H' := Aside0.mk H;clear H;go_enter Try.func112,Try.ntmps112;go_wp2
 go_loopg [3] k (fun kq v3 w' => ∃ (x3_1 : Int),v3 = .int .i64 x3_1 ∧ Aside0 (impl_half.l0 kq a0 x3_1 = some r) ∧ Aside0 (kq ≤ k) ∧ Drawn0 w w')
 case atStart => exact ⟨(1),(by rfl),H',⟨Nat.le_refl _⟩,by repeat (exact Drawn0.refl _)⟩
 case round =>
  clear H'
  try clear c1
  obtain ⟨x3_1,rfl,HA,HK1,⟨m1,rfl⟩⟩ := hrel
  cases gk with
  | zero => exact absurd HA.out (by simp [impl_half.l0])
  | succ k1 =>
   have H := HA.out;clear HA;simp only [impl_half.l0] at H
   by_cases c2 : (wrap64 (2 * x3_1)) < a0
   ·rw [if_pos c2] at H;have c2b0 := decide_eq_true c2;clear c2;have H' := Aside0.mk H;clear H;go_wp2
    go_roundg k1
    case measure => have := HK1.out; omega
    case rel => exact ⟨(wrap64 (x3_1 * 2)),(by rfl),H',⟨by have := HK1.out; omega⟩,by repeat (first | exact Drawn0.refl _ | apply Drawn0.step)⟩
   ·rw [if_neg c2] at H;have c2b0 := decide_eq_false c2;clear c2;obtain rfl := Option.some.inj H;go_wp2;go_ret;exact ⟨by rfl,by repeat (first | exact Drawn0.refl _ | apply Drawn0.step)⟩

/-! ### impl_NodeDigest: function 113 -/
def impl_NodeDigest.f (k : Nat) (a0 : ByteArray) (a1 : ByteArray) : Option (ByteArray) := (some (([1] : List Int) : List Int)).bind fun y442 => (if y442.length + a0.size < 140737488355328 then ((some (y442 ++ bytesOf a0 : List Int)).bind fun y445 => (if y445.length + a1.size < 140737488355328 then ((impl_Digest.f k (y445 ++ bytesOf a1)).bind fun t451 => (some t451)) else (none))) else (none))
theorem impl_NodeDigest.calls (k : Nat) (a0 : ByteArray) (a1 : ByteArray) (r : ByteArray) (w : World) (h : impl_NodeDigest.f k a0 a1 = some r) :
  Calls Try.prog 113 #[.string a0,.string a1] w fun e w' => e = .returned (.string r) ∧ Below w.heap.size w w' := by
 have HB := Aside0.mk (Below.refl w.heap.size w);have H : ((some (([1] : List Int) : List Int)).bind fun y442 => (if y442.length + a0.size < 140737488355328 then ((some (y442 ++ bytesOf a0 : List Int)).bind fun y445 => (if y445.length + a1.size < 140737488355328 then ((impl_Digest.f k (y445 ++ bytesOf a1)).bind fun t451 => (some t451)) else (none))) else (none))) = some r := h;clear h;obtain ⟨y442,hy442⟩ : ∃ y_ : List Int,y_ = ([1] : List Int) := ⟨_,rfl⟩
 replace H : (if y442.length + a0.size < 140737488355328 then ((some (y442 ++ bytesOf a0 : List Int)).bind fun y445 => (if y445.length + a1.size < 140737488355328 then ((impl_Digest.f k (y445 ++ bytesOf a1)).bind fun t451 => (some t451)) else (none))) else (none)) = some r := by (have H2_ := (Option.bind_some _ _).symm.trans H; rw [hy442]; with_reducible exact H2_)
 have Ny442 := Aside0.mk hy442;clear hy442
 by_cases c3 : y442.length + a0.size < 140737488355328
 ·rw [if_pos c3] at H;have LMc3 := Aside0.mk c3;clear c3;obtain ⟨y445,hy445⟩ : ∃ y_ : List Int,y_ = (y442 ++ bytesOf a0) := ⟨_,rfl⟩
  replace H : (if y445.length + a1.size < 140737488355328 then ((impl_Digest.f k (y445 ++ bytesOf a1)).bind fun t451 => (some t451)) else (none)) = some r := by (have H2_ := (Option.bind_some _ _).symm.trans H; rw [hy445]; with_reducible exact H2_)
  have Ny445 := Aside0.mk hy445;clear hy445
  by_cases c4 : y445.length + a1.size < 140737488355328
  ·rw [if_pos c4] at H;have LMc4 := Aside0.mk c4;clear c4;obtain ⟨y448,hy448⟩ : ∃ y_ : List Int,y_ = (y445 ++ bytesOf a1) := ⟨_,rfl⟩
   replace H : ((impl_Digest.f k y448).bind fun t451 => (some t451)) = some r := by (rw [hy448]; with_reducible exact H)
   have Ny448 := Aside0.mk hy448;clear hy448;replace H := Option.bind_eq_some_iff.mp H;obtain ⟨t451,A50,H⟩ := H;replace H : (some t451) = some r := H;have A5 := Aside0.mk A50;clear A50;obtain rfl := Option.some.inj H;go_enter Try.func113,Try.ntmps113
   go_wp2_with (first | ((with_reducible refine gate_dst (N := 5) rfl ?_); refine Kd.R_lit (Kd.int .u8) _ 5 ?hg (N := 5) ?hd (xs := ([1] : List Int)) (inner := [.int .u8 1]) (ok := fun _ => True) (okp := fun _ => True) ?hr ?hp (fun _ hk => hk) trivial (Below.refl _ _) (Nat.le_refl _) (by simp) ?_; (case hd => rfl); (case hg => rfl); (case hr => (go_simp; done)); (case hp => exact (Reps.one (show Kd.M (Kd.int .u8) _ _ _ 1 [.int .u8 1] from rfl) (Reps.none _ _))); intro v443 w6 ho7 hb hg_ hnew_; clear hg_ hnew_; (rw [← Ny442.out] at ho7); have HO444 := Aside0.mk (Kd.R_lower ho7 (below_size HB.out)); replace HB := bst HB hb; clear hb ho7) | (at_builtin; refine print_append_str (w0 := w) w.heap.size rfl (.tmp 5) _ 40 9 5 rfl Try.underlying40 Try.underlying9 info5 v443 y442 a0 rfl rfl ?aO ?aB ?aS ?aL ?_; (case aB => exact HB.out); (case aO => exact (Kd.own_of_R (by exact HO444.out))); (case aS => exact (below_size HB.out)); (case aL => have := LMc3.out; omega); intro v446 w8 ho0 hb hg; have ho := Kd.R_of_own (h1 := fun _ => rfl) (ok := fun _ => True) ho0 (fun _ _ => trivial); clear ho0; have hat := True.intro; rw [← Ny445.out] at ho; change Kd.R (Kd.int .u8) 5 w8 w.heap.size (fun _ => True) v446 y445 at ho; replace HB := Aside0.mk (hb); have HO447 := Aside0.mk (ho); clear HO444; clear ho hb hg hat) | (at_builtin; refine print_append_str (w0 := w) w.heap.size rfl (.tmp 7) _ 40 9 5 rfl Try.underlying40 Try.underlying9 info5 v446 y445 a1 rfl rfl ?aO ?aB ?aS ?aL ?_; (case aB => exact HB.out); (case aO => exact (Kd.own_of_R (by exact HO447.out))); (case aS => exact (below_size HB.out)); (case aL => have := LMc4.out; omega); intro v449 w9 ho0 hb hg; have ho := Kd.R_of_own (h1 := fun _ => rfl) (ok := fun _ => True) ho0 (fun _ _ => trivial); clear ho0; have hat := True.intro; rw [← Ny448.out] at ho; change Kd.R (Kd.int .u8) 5 w9 w.heap.size (fun _ => True) v449 y448 at ho; replace HB := Aside0.mk (hb); have HO450 := Aside0.mk (ho); clear HO447; clear ho hb hg hat; obtain ⟨Ao10,co10,eo10⟩ := Kd.R_slice HO450.out; subst eo10) | ((with_reducible refine gate_callee (f := 110) rfl ?_); refine goesL_ (some 10) rfl rfl Try.func110 (by kernel_rfl) rfl #[.slice Ao10 y448.length co10] rfl (by (try simp only [List.map_toArray,List.map_cons,List.map_nil]); rfl) ?_; (with_reducible refine (impl_Digest.calls k _ _ y448 t451 _ ?side1 ?side2 A5.out).mono ?_); (case side1 => repeat (exact (Kd.R_reads' HO450.out).2.2)); (case side2 => exact (Kd.R_reads' HO450.out).2.1); rintro e w11 ⟨rfl,hb⟩; refine ⟨_,rfl,?_⟩; replace HO450 := Aside0.mk (Kd.R_below (by exact HO450.out) hb); replace HB := bst HB hb; (try clear hb); skip))
   go_ret;exact ⟨by rfl,HB.out⟩
  ·rw [if_neg c4] at H;exact absurd H (by simp)
 ·rw [if_neg c3] at H;exact absurd H (by simp)

/-! ### impl_rootOf: function 72 -/
def impl_rootOf.f : Nat → List ByteArray → Option (ByteArray)
 | 0,_ => none
 | k + 1,l0 => if (l0.length : Int) = 0 then ((impl_Digest.f k ([] : List Int)).bind fun t452 => (some t452)) else (if (l0.length : Int) = 1 then (if 0 < (l0.length : Int) then ((impl_LeafDigest.f k (rdOf ByteArray.empty l0 0)).bind fun t454 => (some t454)) else (none)) else ((impl_half.f k (l0.length : Int)).bind fun t455 => (if 0 ≤ t455 then (if t455 ≤ (l0.length : Int) then ((impl_rootOf.f k (l0.take (t455 : Int).toNat)).bind fun t457 => ((impl_rootOf.f k (l0.drop (t455 : Int).toNat)).bind fun t459 => ((impl_NodeDigest.f k t457 t459).bind fun t460 => (some t460)))) else (none)) else (none))))
def impl_rootOf.T7 : Bool × List (List Nat × List Nat) := (true,[([],[]),([],[]),([0,1],[0,1]),([2],[2]),([],[]),([],[]),([4,5],[4,5]),([6,3],[6]),([3,7,7],[3,7]),([8,8,0,1,2,3,4,5,6,7,8],[8])])
def impl_rootOf.B7 : List Nat := [0,0,3,7,0,0,48,127,255,511]
theorem impl_rootOf.tab7 : rtab .any (opsOf Try.f72 7) = impl_rootOf.T7 := by kernel_rfl
theorem impl_rootOf.bits7 : waitsOk impl_rootOf.T7.2 impl_rootOf.B7 = true := by kernel_rfl
theorem impl_rootOf.calls (k : Nat) : ∀ (A0 : Option Addr) (c0 : Nat) (l0 : List ByteArray) (r : ByteArray) (w : World) (hr0 : Kd.C Kd.string w A0 l0.length l0) (hc0 : l0.length ≤ c0) (h : impl_rootOf.f k l0 = some r),
  Calls Try.prog 72 #[.slice A0 l0.length c0] w fun e w' => e = .returned (.string r) ∧ Below w.heap.size w w' := by
 induction k using Nat.strongRecOn with
 | _ k ih =>
 intro A0 c0 l0 r w hr0 hc0 h
 cases k with
 | zero => exact absurd h (by simp [impl_rootOf.f])
 | succ k =>
 simp only [impl_rootOf.f] at h;have HR0 := Aside0.mk hr0;have HC0 := Aside0.mk hc0;clear hr0 hc0;have HB := Aside0.mk (Below.refl w.heap.size w);have H : (if (l0.length : Int) = 0 then ((impl_Digest.f k ([] : List Int)).bind fun t452 => (some t452)) else (if (l0.length : Int) = 1 then (if 0 < (l0.length : Int) then ((impl_LeafDigest.f k (rdOf ByteArray.empty l0 0)).bind fun t454 => (some t454)) else (none)) else ((impl_half.f k (l0.length : Int)).bind fun t455 => (if 0 ≤ t455 then (if t455 ≤ (l0.length : Int) then ((impl_rootOf.f k (l0.take (t455 : Int).toNat)).bind fun t457 => ((impl_rootOf.f k (l0.drop (t455 : Int).toNat)).bind fun t459 => ((impl_NodeDigest.f k t457 t459).bind fun t460 => (some t460)))) else (none)) else (none))))) = some r := h;clear h
 by_cases c2 : (l0.length : Int) = 0
 ·rw [if_pos c2] at H;have c2b0 : ((l0.length : Int) == 0) = true := beq_iff_eq.mpr c2;have c2b1 : ((l0.length : Int) != 0) = false := bne_eq_false_iff_eq.mpr c2;clear c2;replace H := Option.bind_eq_some_iff.mp H;obtain ⟨t452,A30,H⟩ := H;replace H : (some t452) = some r := H;have A3 := Aside0.mk A30;clear A30;obtain rfl := Option.some.inj H;go_enter Try.func72,Try.ntmps72
  go_wp2_with (((with_reducible refine gate_callee (f := 110) rfl ?_); refine goesL_ (some 8) rfl rfl Try.func110 (by kernel_rfl) rfl #[.slice none 0 0] rfl (by (try simp only [List.map_toArray,List.map_cons,List.map_nil]); rfl) ?_; (refine (impl_Digest.calls k _ _ ([] : List Int) t452 _ ?side1 ?side2 A3.out).mono ?_); (case side1 => exact Kd.C_nil _ _); (case side2 => exact Nat.le_refl _); rintro e w4 ⟨rfl,hb⟩; refine ⟨_,rfl,?_⟩; replace HB := bst HB hb; (try clear hb); skip))
  go_ret;exact ⟨by rfl,HB.out⟩
 ·rw [if_neg c2] at H;have c2b0 : ((l0.length : Int) == 0) = false := beq_eq_false_iff_ne.mpr c2;have c2b1 : ((l0.length : Int) != 0) = true := bne_iff_ne.mpr c2
  have c2b2 : ¬ (l0 = []) := fun h_ => c2 (by rw [h_]; rfl)
  by_cases c5 : (l0.length : Int) = 1
  ·rw [if_pos c5] at H;have c5b0 : ((l0.length : Int) == 1) = true := beq_iff_eq.mpr c5;have c5b1 : ((l0.length : Int) != 1) = false := bne_eq_false_iff_eq.mpr c5;clear c5
   by_cases c6 : 0 < (l0.length : Int)
   ·rw [if_pos c6] at H;have c6b0 := decide_eq_true c6;have c6b1 : decide (0 < l0.length) = true := decide_eq_true (by omega);clear c6;replace H := Option.bind_eq_some_iff.mp H;obtain ⟨t454,A70,H⟩ := H;replace H : (some t454) = some r := H;have A7 := Aside0.mk A70;clear A70;obtain rfl := Option.some.inj H;have p453 : 0 ≤ (0 : Int) := (by omega);have q453 : 0 < (l0.length : Int) := odt (by with_reducible assumption);obtain ⟨ad453,e453,hx453_0⟩ := Kd.at_string HR0.out 0 p453 q453
    cases e453
    have qi453 : (0 < l0.length) = True := eq_true (by omega)
    (try rw [show (0 : Int).toNat = 0 from rfl] at hx453_0)
    (try rw [Addr.add_zero'] at hx453_0)
    replace p453 := eq_true p453;replace q453 := eq_true q453;go_enter Try.func72,Try.ntmps72
    go_wp2_with (((with_reducible refine gate_callee (f := 111) rfl ?_); refine goesL_ (some 14) rfl rfl Try.func111 (by kernel_rfl) rfl #[.string (rdOf ByteArray.empty l0 0)] rfl (by (try simp only [List.map_toArray,List.map_cons,List.map_nil]); rfl) ?_; (with_reducible refine (impl_LeafDigest.calls k (rdOf ByteArray.empty l0 0) t454 _ A7.out).mono ?_); rintro e w8 ⟨rfl,hb⟩; refine ⟨_,rfl,?_⟩; replace HB := bst HB hb; (try clear hb); skip))
    go_ret;exact ⟨by rfl,HB.out⟩
   ·rw [if_neg c6] at H;exact absurd H (by simp)
  ·rw [if_neg c5] at H;have c5b0 : ((l0.length : Int) == 1) = false := beq_eq_false_iff_ne.mpr c5;have c5b1 : ((l0.length : Int) != 1) = true := bne_iff_ne.mpr c5;replace H := Option.bind_eq_some_iff.mp H;obtain ⟨t455,A90,H⟩ := H;replace H : (if 0 ≤ t455 then (if t455 ≤ (l0.length : Int) then ((impl_rootOf.f k (l0.take (t455 : Int).toNat)).bind fun t457 => ((impl_rootOf.f k (l0.drop (t455 : Int).toNat)).bind fun t459 => ((impl_NodeDigest.f k t457 t459).bind fun t460 => (some t460)))) else (none)) else (none)) = some r := H;have A9 := Aside0.mk A90;clear A90
   by_cases c10 : 0 ≤ t455
   ·rw [if_pos c10] at H;have c10b0 := eq_true c10;have c10b1 := decide_eq_true c10;clear c10
    by_cases c11 : t455 ≤ (l0.length : Int)
    ·rw [if_pos c11] at H;have c11b0 := eq_true c11;have c11b1 := decide_eq_true c11;clear c11;replace H := Option.bind_eq_some_iff.mp H;obtain ⟨t457,A120,H⟩ := H;replace H : ((impl_rootOf.f k (l0.drop (t455 : Int).toNat)).bind fun t459 => ((impl_NodeDigest.f k t457 t459).bind fun t460 => (some t460))) = some r := H;have A12 := Aside0.mk A120;clear A120;have c13b0 := eq_true (odt (by with_reducible assumption) : 0 ≤ t455);have c14b0 := eq_true (odt (by with_reducible assumption) : t455 ≤ (l0.length : Int));replace H := Option.bind_eq_some_iff.mp H;obtain ⟨t459,A150,H⟩ := H;replace H : ((impl_NodeDigest.f k t457 t459).bind fun t460 => (some t460)) = some r := H;have A15 := Aside0.mk A150;clear A150;replace H := Option.bind_eq_some_iff.mp H;obtain ⟨t460,A160,H⟩ := H;replace H : (some t460) = some r := H;have A16 := Aside0.mk A160;clear A160;obtain rfl := Option.some.inj H;go_enter Try.func72,Try.ntmps72
     try go_wp2_with (((with_reducible refine gate_callee (f := 112) rfl ?_); refine goesL_ (some 17) rfl rfl Try.func112 (by kernel_rfl) rfl #[.int .i64 (l0.length : Int)] rfl (by (try simp only [List.map_toArray,List.map_cons,List.map_nil]); rfl) ?_; (with_reducible refine (impl_half.calls k (l0.length : Int) t455 _ A9.out).mono ?_); rintro e w' ⟨rfl,⟨nd,rfl⟩⟩; refine ⟨_,rfl,?_⟩))
     replace HB := Aside0.mk (below_drew1 (pw_below_drewN HB.out nd));obtain ⟨i018,hi018,_,hsz18,_⟩ := info_parts info9;obtain ⟨hcut18,hA18,hC18⟩ := print_take_of (P := Try.prog) Value.string (⟨#[]⟩ : ByteArray) 74 9 .i64 Try.underlying74 hi018 hsz18 A0 c0 l0 t455 (odt (by with_reducible assumption)) (odt (by with_reducible assumption)) HC0.out;have HR456 := Aside0.mk (Kd.C_of_reads (h1 := fun _ => rfl) (hA18 _ (Kd.reads_of_C HR0.out)));have HC456 := Aside0.mk hC18;clear hA18 hC18 hi018 hsz18;obtain ⟨i019,hi019,_,hsz19,_⟩ := info_parts info9;obtain ⟨A19,hcut19,hA19,hC19⟩ := print_drop_of (P := Try.prog) Value.string (⟨#[]⟩ : ByteArray) 74 9 .i64 Try.underlying74 hi019 hsz19 A0 c0 l0 t455 (odt (by with_reducible assumption)) (odt (by with_reducible assumption)) HC0.out;have HR458 := Aside0.mk (Kd.C_of_reads (h1 := fun _ => rfl) (hA19 _ (Kd.reads_of_C HR0.out)));have HC458 := Aside0.mk hC19;clear hA19 hC19 hi019 hsz19;refine start_ (n := 10) (S := fun w' => True) (ds := []) (Array.replicate 10 false) (by kernel_rfl) rfl rfl trivial (fun hHeld => ?_); refine with_tabW impl_rootOf.tab7 impl_rootOf.bits7 (fun HT_ HW_ => ?_)
     generalize (w.drewN nd).drew = w17 at HB HR456 HR458 hHeld ⊢
     refine pu 0 (some 18) (fl 10 1) HT_ rfl rfl (by kernel_rfl) (fun _ _ _ h => h) (by rfl) (fun w' => by go_simp;with_reducible rfl) (by simp only [wf_preprocess];rfl) ?_
     refine pu 1 (some 19) (fl 10 3) HT_ rfl rfl (by kernel_rfl) (fun _ _ _ h => h) (by rfl) (fun w' => by go_simp;with_reducible rfl) (by simp only [wf_preprocess];rfl) ?_
     refine pu 2 (some 20) (fl 10 7) HT_ rfl rfl (by kernel_rfl) (fun _ _ _ h => h) (by rfl) (fun w' => by go_simp;with_reducible rfl) (by simp only [wf_preprocess];rfl) ?_
     refine pu 4 (some 22) (fl 10 23) HT_ rfl rfl (by kernel_rfl) (fun _ _ _ h => h) (by rfl) (fun w' => by go_simp;with_reducible rfl) (by simp only [wf_preprocess];rfl) ?_
     refine pu 5 (some 23) (fl 10 55) HT_ rfl rfl (by kernel_rfl) (fun _ _ _ h => h) (by rfl) (fun w' => by go_simp;with_reducible rfl) (by simp only [wf_preprocess];rfl) ?_
     refine pu 6 (some 24) (fl 10 119) HT_ rfl rfl (by kernel_rfl) (fun _ _ _ h => h) (by rfl) (fun w' => by go_simp;with_reducible rfl) (by simp only [wf_preprocess];rfl) ?_
     refine one_ (i := 3) (N := some 21) (fl 10 127) rfl rfl (one_of HT_.out (by kernel_rfl)) (by decide) (fun K hK => ?_);refine goes_ Try.func72 (by kernel_rfl) rfl #[.slice A0 (l0.take (t455 : Int).toNat).length c0] (by rfl) rfl rfl (by (try simp only [List.map_toArray,List.map_cons,List.map_nil]); (rw [show (l0.take (t455 : Int).toNat).length = t455.toNat from (by rw [List.length_take]; have h_ : (t455 : Int) ≤ (l0.length : Int) := odt (by with_reducible assumption); omega)] <;> rfl)) ?_
     with_reducible refine (ih k (by omega) _ _ (l0.take (t455 : Int).toNat) t457 _ ?side1 ?side2 A12.out).mono ?_
     (case side1 => repeat (exact (Kd.C_below HR456.out HB.out)))
     (case side2 => exact HC456.out)
     rintro e w20 ⟨rfl,hb⟩;refine ⟨_,rfl,?_⟩;replace HB := bst HB hb
     (try clear hb)
     skip
     skip
     skip
     refine hK.out _ _ trivial (fun hHeld => ?_);clear hK K;refine norm_ (a' := ?_) ?_ ?_;rotate_left
     ·show Act.put _ (some 21) _ = _
      simp only [wf_preprocess];rfl
     refine one_ (i := 7) (N := some 25) (fl 10 255) rfl rfl (one_of HT_.out (by kernel_rfl)) (by decide) (fun K hK => ?_);refine goes_ Try.func72 (by kernel_rfl) rfl #[.slice A19 (l0.drop (t455 : Int).toNat).length (c0 - t455.toNat)] (by rfl) rfl rfl (by (try simp only [List.map_toArray,List.map_cons,List.map_nil]); (rw [show (l0.drop (t455 : Int).toNat).length = (l0.length - t455.toNat) from List.length_drop] <;> rfl)) ?_
     with_reducible refine (ih k (by omega) _ _ (l0.drop (t455 : Int).toNat) t459 _ ?side1 ?side2 A15.out).mono ?_
     (case side1 => repeat (exact (Kd.C_below HR458.out HB.out)))
     (case side2 => exact HC458.out)
     rintro e w21 ⟨rfl,hb⟩;refine ⟨_,rfl,?_⟩;replace HB := bst HB hb
     (try clear hb)
     skip
     skip
     skip
     refine hK.out _ _ trivial (fun hHeld => ?_);clear hK K;refine norm_ (a' := ?_) ?_ ?_;rotate_left
     ·show Act.put _ (some 25) _ = _
      simp only [wf_preprocess];rfl
     refine one_ (i := 8) (N := some 26) (fl 10 511) rfl rfl (one_of HT_.out (by kernel_rfl)) (by decide) (fun K hK => ?_);refine goes_ Try.func113 (by kernel_rfl) rfl #[.string t457,.string t459] (by rfl) rfl rfl (by (try simp only [List.map_toArray,List.map_cons,List.map_nil]); rfl) ?_
     with_reducible refine (impl_NodeDigest.calls k t457 t459 t460 _ A16.out).mono ?_
     rintro e w22 ⟨rfl,hb⟩;refine ⟨_,rfl,?_⟩;replace HB := bst HB hb
     (try clear hb)
     skip
     skip
     skip
     refine hK.out _ _ trivial (fun hHeld => ?_);clear hK K;refine norm_ (a' := ?_) ?_ ?_;rotate_left
     ·show Act.put _ (some 26) _ = _
      simp only [wf_preprocess];rfl
     refine pu 9 (some 2) (fl 10 1023) HT_ rfl rfl (by kernel_rfl) (fun _ _ _ h => h) (by rfl) (fun w' => by go_simp;with_reducible rfl) (by simp only [wf_preprocess];rfl) ?_
     refine done_ (done_of HT_.out (by kernel_rfl)) ?_
     try go_wp2
     go_ret;exact ⟨by rfl,HB.out⟩
    ·rw [if_neg c11] at H;exact absurd H (by simp)
   ·rw [if_neg c10] at H;exact absurd H (by simp)

end Go.Proofs.Ytcbpfofkdipjhaa.PV
