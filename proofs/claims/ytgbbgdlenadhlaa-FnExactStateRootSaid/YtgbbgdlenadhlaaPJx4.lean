/- The machine's side of Go functions: each as a plain function,and that the call does what it says. Written by a program (wip/mprint). -/
import Derived.Test.YtgbbgdlenadhlaaPJx0
import Derived.Test.YtgbbgdlenadhlaaApp
namespace Go.Proofs.Ytgbbgdlenadhlaa.PJ
open Go.RowKit Go.Proofs.YtgbbgdlenadhlaaW.PrintWords Go.Proofs.YtgbbgdlenadhlaaW.PrintLast Go.Proofs.YtgbbgdlenadhlaaW.PrintMore
attribute [local go_sem] max2_int min2_int max_two min_two max_three min_three max_four min_four   -- for this text's walks alone
set_option linter.unusedVariables false
set_option linter.unusedSimpArgs false

/-! ### impl_putNum: function 68 -/
mutual
def impl_putNum.j0 : Nat → List Int → Int → Option (List Int)
 | 0,_,_ => none
 | k + 1,x0,x5 => impl_putNum.l0 k x0 x5
def impl_putNum.l0 : Nat → List Int → Int → Option (List Int)
 | 0,_,_ => none
 | k + 1,x0,x5 => if x5 > 127 then (if x0.length < 140737488355328 then (impl_putNum.l0 k (x0 ++ [(Go.bits .or .i64 128 (Go.bits .and .i64 x5 127)) % 256]) (x5 / 128)) else (none)) else (if x0.length < 140737488355328 then (some (x0 ++ [(x5) % 256])) else (none))
end
def impl_putNum.f (k : Nat) (l0 : List Int) (a1 : Int) : Option (List Int) := if (mx (-1000000000) (mn a1 1000000000)) < 0 then (impl_putNum.j0 k l0 (((-2) * (mx (-1000000000) (mn a1 1000000000))) - 1)) else (impl_putNum.j0 k l0 (2 * (mx (-1000000000) (mn a1 1000000000))))
theorem impl_putNum.mono_l : ∀ k,(∀ y0 y1,LeO (impl_putNum.j0 k y0 y1) (impl_putNum.j0 (k + 1) y0 y1)) ∧ (∀ y0 y1,LeO (impl_putNum.l0 k y0 y1) (impl_putNum.l0 (k + 1) y0 y1))
 | 0 => ⟨fun _ _ r h => by simp [impl_putNum.j0] at h,fun _ _ r h => by simp [impl_putNum.l0] at h⟩
 | k + 1 => by
  obtain ⟨ih0,ih1⟩ := impl_putNum.mono_l k;refine ⟨?_,?_⟩
  ·intro y0 y1;unfold impl_putNum.j0
   repeat' first
   | (with_reducible exact ih0 _ _)
   | (with_reducible exact ih1 _ _)
   | (with_reducible exact LeO.refl _)
   | (with_reducible exact LeO.none _)
   | (with_reducible refine LeO.ite ?_ ?_)
   | (with_reducible refine LeO.bind ?_ (fun _ => ?_))
   | exact ih0 _ _
   | exact ih1 _ _
   | exact LeO.none _
  ·intro y0 y1;unfold impl_putNum.l0
   repeat' first
   | (with_reducible exact ih0 _ _)
   | (with_reducible exact ih1 _ _)
   | (with_reducible exact LeO.refl _)
   | (with_reducible exact LeO.none _)
   | (with_reducible refine LeO.ite ?_ ?_)
   | (with_reducible refine LeO.bind ?_ (fun _ => ?_))
   | exact ih0 _ _
   | exact ih1 _ _
   | exact LeO.none _
theorem impl_putNum.mono : ∀ a0 a1 k,LeO (impl_putNum.f k a0 a1) (impl_putNum.f (k + 1) a0 a1) := by
 intro a0 a1 k;obtain ⟨ih0,ih1⟩ := impl_putNum.mono_l k;unfold impl_putNum.f
 repeat' first
   | (with_reducible exact ih0 _ _)
   | (with_reducible exact ih1 _ _)
   | (with_reducible exact LeO.refl _)
   | (with_reducible exact LeO.none _)
   | (with_reducible refine LeO.ite ?_ ?_)
   | (with_reducible refine LeO.bind ?_ (fun _ => ?_))
   | exact ih0 _ _
   | exact ih1 _ _
   | exact LeO.none _
set_option maxHeartbeats 8000000 in
set_option maxRecDepth 100000 in
theorem impl_putNum.calls (k : Nat) (P0_ : Nat → Prop) (u9000_ : Value) (l0 : List Int) (a1 : Int) (r : List Int) (w0 w : World) (hB : Below w0.heap.size w0 w) (ho0 : Kd.R (Kd.int .u8) 5 w w0.heap.size P0_ u9000_ l0) (h : impl_putNum.f k l0 a1 = some r) :
  Calls Try.prog 68 #[u9000_,.int .i64 a1] w fun e w' => ∃ v0_ : Value,e = .returned (v0_) ∧ Kd.R (Kd.int .u8) 5 w' w0.heap.size (fun k_ => (P0_ k_ ∨ w.heap.size ≤ k_)) v0_ r ∧ Below w0.heap.size w0 w' ∧ Kept w w' (fun k_ => P0_ k_) := by
 have HO0 := Aside0.mk (show Kd.R (Kd.int .u8) 5 w w0.heap.size (fun k_ => (P0_ k_ ∨ w.heap.size ≤ k_)) u9000_ l0 from Kd.R_mono ho0 (fun k_ hk => (.inl hk)));have HK := Aside0.mk (Kept.refl w (fun k_ => P0_ k_));have HW0 := Aside0.mk hB.size;have HB := Aside0.mk hB;clear hB;have H : (if (mx (-1000000000) (mn a1 1000000000)) < 0 then (impl_putNum.j0 k l0 (((-2) * (mx (-1000000000) (mn a1 1000000000))) - 1)) else (impl_putNum.j0 k l0 (2 * (mx (-1000000000) (mn a1 1000000000))))) = some r := h;clear h;obtain ⟨ji3,hji3⟩ : ∃ j_ : Int,(mn a1 1000000000) = j_ := ⟨_,rfl⟩
 replace H : (if (mx (-1000000000) (ji3)) < 0 then (impl_putNum.j0 k l0 (((-2) * (mx (-1000000000) (ji3))) - 1)) else (impl_putNum.j0 k l0 (2 * (mx (-1000000000) (ji3))))) = some r := by (rw [hji3] at H; exact H)
 (try (have hji3h : ji3 ≤ 1000000000 := by (rw [← hji3]; unfold mn; (repeat' split) <;> omega)))
 skip
 have hji3_ : (if 1000000000 < a1 then 1000000000 else a1) = ji3 := hji3;obtain ⟨ji4,hji4⟩ : ∃ j_ : Int,(mx (-1000000000) (ji3)) = j_ := ⟨_,rfl⟩
 replace H : (if (ji4) < 0 then (impl_putNum.j0 k l0 (((-2) * (ji4)) - 1)) else (impl_putNum.j0 k l0 (2 * (ji4)))) = some r := by (rw [hji4] at H; exact H)
 have hji4_ : (if (-1000000000) < (ji3) then (ji3) else (-1000000000)) = ji4 := hji4;have HC5 := Aside0.mk H;clear H;go_enter Try.func68,Try.ntmps68
 go_upto_if 12 with (fail)
 go_cut [5] (fun v5 wc => ∃ (kq : Nat) (x5_4 : Int),v5 = .int .i64 x5_4 ∧ Aside0 (impl_putNum.j0 kq l0 x5_4 = some r) ∧ Aside0 (kq ≤ k) ∧ Aside0 (Kd.R (Kd.int .u8) 5 wc w0.heap.size (fun k_ => (P0_ k_ ∨ w.heap.size ≤ k_)) u9000_ l0) ∧ Aside0 (Kept w wc (fun k_ => P0_ k_)) ∧ Aside0 (Below w0.heap.size w0 wc))
 case first =>
  have H := HC5.out;clear HC5
  by_cases c6 : (ji4) < 0
  ·rw [if_pos c6] at H;have c6b0 : decide ((ji4) < 0) = true := decide_eq_true c6;clear c6
   (rw [c6b0])
   have H' := Aside0.mk H;clear H;go_wp2
   go_meet
   case rel => exact ⟨_,(((-2) * (ji4)) - 1),(by rfl),H',⟨by omega⟩,⟨by exact HO0.out⟩,⟨HK.out⟩,⟨HB.out⟩⟩
  ·rw [if_neg c6] at H;have c6b0 : decide ((ji4) < 0) = false := decide_eq_false c6;clear c6
   (rw [c6b0])
   have H' := Aside0.mk H;clear H;go_wp2
   go_meet
   case rel => exact ⟨_,(2 * (ji4)),(by rfl),H',⟨by omega⟩,⟨by exact HO0.out⟩,⟨HK.out⟩,⟨HB.out⟩⟩
 case rest =>
  clear HC5
  try clear p2
  try clear c6
  try clear c6b0
  obtain ⟨kq,x5_4,rfl,HA,HJ4,HO_0,HK,HB⟩ := hcut
  cases kq with
  | zero => exact absurd HA.out (by simp [impl_putNum.j0])
  | succ kj4 =>
   have H := HA.out;clear HA;simp only [impl_putNum.j0] at H;have H' := Aside0.mk H;clear H;go_wp2
   go_loopg [0,5] kj4 (fun kq v0 v5 w' => ∃ (x0_2 : List Int) (x5_2 : Int),v5 = .int .i64 x5_2 ∧ Aside0 (impl_putNum.l0 kq x0_2 x5_2 = some r) ∧ Aside0 (kq ≤ kj4) ∧ Aside0 (Kd.R (Kd.int .u8) 5 w' w0.heap.size (fun k_ => (P0_ k_ ∨ w.heap.size ≤ k_)) v0 x0_2) ∧ Aside0 (Kept w w' (fun k_ => P0_ k_)) ∧ Aside0 (Below w0.heap.size w0 w'))
   case atStart => exact ⟨(l0),(x5_4),(by rfl),H',⟨Nat.le_refl _⟩,⟨by exact HO_0.out⟩,⟨HK.out⟩,⟨HB.out⟩⟩
   case round =>
    clear H'
    try clear p2
    try clear c6
    try clear c6b0
    try clear p2
    obtain ⟨x0_2,x5_2,rfl,HA,HK2,HO_0,HK,HB⟩ := hrel
    cases gk with
    | zero => exact absurd HA.out (by simp [impl_putNum.l0])
    | succ k2 =>
     have H := HA.out;clear HA;simp only [impl_putNum.l0] at H
     by_cases c7 : x5_2 > 127
     ·rw [if_pos c7] at H;have c7b0 : decide (127 < x5_2) = true := decide_eq_true c7;clear c7
      by_cases c8 : x0_2.length < 140737488355328
      ·rw [if_pos c8] at H;have LMc8 := Aside0.mk c8;clear c8;obtain ⟨y163,hy163⟩ : ∃ y_ : List Int,y_ = (x0_2 ++ [(Go.bits .or .i64 128 (Go.bits .and .i64 x5_2 127)) % 256]) := ⟨_,rfl⟩
       replace H : (impl_putNum.l0 k2 y163 (x5_2 / 128)) = some r := by (rw [hy163]; with_reducible exact H)
       have Ny163 := Aside0.mk hy163;clear hy163;have H' := Aside0.mk H;clear H
       go_wp2_with ((with_reducible refine gate_builtin (b := .append) (xs := #[.tmp 18,.tmp 23]) rfl ?_); at_builtin; refine Kd.R_append (Kd.int .u8) (w0 := w0) w0.heap.size rfl (.tmp 18) (.tmp 23) 22 5 (.int .u8 0) 1 rfl Try.underlying22 info5 rfl (by decide) (by omega) u0 x0_2 ((Go.bits .or .i64 128 (Go.bits .and .i64 x5_2 127)) % 256) [.int .u8 ((Go.bits .or .i64 128 (Go.bits .and .i64 x5_2 127)) % 256)] (fun k_ => (P0_ k_ ∨ w.heap.size ≤ k_)) (fun _ => False) rfl rfl ?aP (fun _ hk => hk.elim) ?aF ?aO ?aB ?aS ?aL ?_; (case aP => exact rfl); (case aB => exact HB.out); (case aF => exact (fun k_ hk => (.inr (Nat.le_trans (by exact HK.out.1) hk)))); (case aO => exact (by exact HO_0.out)); (case aS => exact (below_size HB.out)); (case aL => have := LMc8.out; omega); intro v164 w9 ho hb hg hat; rw [← Ny163.out] at ho; have n0_ := Aside0.mk (hb); have n1_ := Aside0.mk (Kept.of_grown (S := (fun k_ => P0_ k_)) hg HK.out (fun k_ e_ => (HO_0.out.1 k_ e_))); have n2_ := Aside0.mk (ho); clear HB; clear HK; clear HO_0; have HB := n0_; have HK := n1_; have HO165 := n2_; clear n0_ n1_ n2_; clear ho hb hg hat)
       go_roundg k2
       case measure => have := HJ4.out; have := HK2.out; omega
       case rel => exact ⟨(y163),(x5_2 / 128),(by rfl),H',⟨by have := HJ4.out; have := HK2.out; omega⟩,⟨by exact HO165.out⟩,⟨HK.out⟩,⟨HB.out⟩⟩
      ·rw [if_neg c8] at H;exact absurd H (by simp)
     ·rw [if_neg c7] at H;have c7b0 : decide (127 < x5_2) = false := decide_eq_false c7;clear c7
      by_cases c10 : x0_2.length < 140737488355328
      ·rw [if_pos c10] at H;have LMc10 := Aside0.mk c10;clear c10;obtain ⟨y166,hy166⟩ : ∃ y_ : List Int,y_ = (x0_2 ++ [(x5_2) % 256]) := ⟨_,rfl⟩
       replace H : (some y166) = some r := by (rw [hy166]; with_reducible exact H)
       have Ny166 := Aside0.mk hy166;clear hy166;obtain rfl := Option.some.inj H
       go_wp2_with ((with_reducible refine gate_builtin (b := .append) (xs := #[.tmp 27,.tmp 30]) rfl ?_); at_builtin; refine Kd.R_append (Kd.int .u8) (w0 := w0) w0.heap.size rfl (.tmp 27) (.tmp 30) 22 5 (.int .u8 0) 1 rfl Try.underlying22 info5 rfl (by decide) (by omega) u0 x0_2 ((x5_2) % 256) [.int .u8 ((x5_2) % 256)] (fun k_ => (P0_ k_ ∨ w.heap.size ≤ k_)) (fun _ => False) rfl rfl ?aP (fun _ hk => hk.elim) ?aF ?aO ?aB ?aS ?aL ?_; (case aP => exact rfl); (case aB => exact HB.out); (case aF => exact (fun k_ hk => (.inr (Nat.le_trans (by exact HK.out.1) hk)))); (case aO => exact (by exact HO_0.out)); (case aS => exact (below_size HB.out)); (case aL => have := LMc10.out; omega); intro v167 w11 ho hb hg hat; rw [← Ny166.out] at ho; have n0_ := Aside0.mk (hb); have n1_ := Aside0.mk (Kept.of_grown (S := (fun k_ => P0_ k_)) hg HK.out (fun k_ e_ => (HO_0.out.1 k_ e_))); have n2_ := Aside0.mk (ho); clear HB; clear HK; clear HO_0; have HB := n0_; have HK := n1_; have HO168 := n2_; clear n0_ n1_ n2_; clear ho hb hg hat)
       go_ret;exact ⟨_,by rfl,by exact HO168.out,HB.out,HK.out⟩
      ·rw [if_neg c10] at H;exact absurd H (by simp)

/-! ### impl_putText: function 69 -/
def impl_putText.f (k : Nat) (l0 : List Int) (a1 : ByteArray) : Option (List Int) := (impl_putNum.f k l0 (a1.size : Int)).bind fun t169 => (if t169.length + a1.size < 140737488355328 then (some (t169 ++ bytesOf a1)) else (none))
theorem impl_putText.mono : ∀ a0 a1 k,LeO (impl_putText.f k a0 a1) (impl_putText.f (k + 1) a0 a1) := by
 intro a0 a1 k;unfold impl_putText.f
 repeat' first
   | (with_reducible exact impl_putNum.mono _ _ _)
   | (with_reducible exact LeO.refl _)
   | (with_reducible exact LeO.none _)
   | (with_reducible refine LeO.ite ?_ ?_)
   | (with_reducible refine LeO.bind ?_ (fun _ => ?_))
   | exact impl_putNum.mono _ _ _
   | exact LeO.none _
set_option maxHeartbeats 8000000 in
set_option maxRecDepth 100000 in
theorem impl_putText.calls (k : Nat) (P0_ : Nat → Prop) (u9000_ : Value) (l0 : List Int) (a1 : ByteArray) (r : List Int) (w0 w : World) (hB : Below w0.heap.size w0 w) (ho0 : Kd.R (Kd.int .u8) 5 w w0.heap.size P0_ u9000_ l0) (h : impl_putText.f k l0 a1 = some r) :
  Calls Try.prog 69 #[u9000_,.string a1] w fun e w' => ∃ v0_ : Value,e = .returned (v0_) ∧ Kd.R (Kd.int .u8) 5 w' w0.heap.size (fun k_ => (P0_ k_ ∨ w.heap.size ≤ k_)) v0_ r ∧ Below w0.heap.size w0 w' ∧ Kept w w' (fun k_ => P0_ k_) := by
 have HO0 := Aside0.mk (show Kd.R (Kd.int .u8) 5 w w0.heap.size (fun k_ => (P0_ k_ ∨ w.heap.size ≤ k_)) u9000_ l0 from Kd.R_mono ho0 (fun k_ hk => (.inl hk)));have HK := Aside0.mk (Kept.refl w (fun k_ => P0_ k_));have HW0 := Aside0.mk hB.size;have HB := Aside0.mk hB;clear hB;have H : ((impl_putNum.f k l0 (a1.size : Int)).bind fun t169 => (if t169.length + a1.size < 140737488355328 then (some (t169 ++ bytesOf a1)) else (none))) = some r := h;clear h;replace H := Option.bind_eq_some_iff.mp H;obtain ⟨t169,A30,H⟩ := H;replace H : (if t169.length + a1.size < 140737488355328 then (some (t169 ++ bytesOf a1)) else (none)) = some r := H;have A3 := Aside0.mk A30;clear A30
 by_cases c4 : t169.length + a1.size < 140737488355328
 ·rw [if_pos c4] at H;have LMc4 := Aside0.mk c4;clear c4;obtain ⟨y172,hy172⟩ : ∃ y_ : List Int,y_ = (t169 ++ bytesOf a1) := ⟨_,rfl⟩
  replace H : (some y172) = some r := by (rw [hy172]; with_reducible exact H)
  have Ny172 := Aside0.mk hy172;clear hy172;obtain rfl := Option.some.inj H;obtain ⟨Ao5,co5,eo5⟩ := Kd.R_slice HO0.out;subst eo5;go_enter Try.func69,Try.ntmps69
  go_wp2_with (first | ((with_reducible refine gate_callee (f := 68) rfl ?_); refine goesL_ (some 8) rfl rfl Try.func68 (by kernel_rfl) rfl #[.slice Ao5 l0.length co5,.int .i64 (a1.size : Int)] rfl (by (try simp only [List.map_toArray,List.map_cons,List.map_nil]); rfl) ?_; (with_reducible refine (impl_putNum.calls k (fun k_ => some k_ = (.slice Ao5 l0.length co5 : Value).ownBlock) (.slice Ao5 l0.length co5) l0 (a1.size : Int) t169 w0 _ ?side1 ?side2 A3.out).mono ?_); (case side1 => repeat (with_reducible exact HB.out)); (case side2 => exact Kd.R_tight rfl HO0.out); rintro e w6 ⟨v170,rfl,ho0,hb,hkp⟩; refine ⟨_,rfl,?_⟩; have n0_ := Aside0.mk (Kd.R_mono (ok' := fun k_ => (P0_ k_ ∨ w.heap.size ≤ k_)) ho0 (fun k_ hk_ => Or.elim hk_ (fun hs_ => (HO0.out.1 k_ (hs_).symm)) (fun hn_ => (.inr (Nat.le_trans (by exact HK.out.1) hn_))))); have n1_ := Aside0.mk (Kept.then_ (S := (fun k_ => P0_ k_)) HK.out hkp (fun k_ hs_ => (fun e_ => (HO0.out.1 k_ e_.symm)) hs_)); have n2_ := Aside0.mk (hb); clear HK; clear HB; clear HO0; have HO171 := n0_; have HK := n1_; have HB := n2_; clear n0_ n1_ n2_; (try clear hb); (try clear hkp); (try clear ho0)) | (at_builtin; refine Go.Proofs.Ytgbbgdlenadhlaa.App.append_str_at (w0 := w0) w0.heap.size rfl (.tmp 8) _ 22 9 5 rfl Try.underlying22 Try.underlying9 info5 v170 t169 a1 rfl rfl ?aO ?aB ?aS ?aL ?_; (case aB => exact HB.out); (case aO => exact (Kd.own_of_R (by exact HO171.out))); (case aS => exact (below_size HB.out)); (case aL => have := LMc4.out; omega); intro v173 w7 ho0 hb hg hat0; have ho := Kd.R_of_own (h1 := fun _ => rfl) (ok := (fun k_ => (P0_ k_ ∨ w.heap.size ≤ k_))) ho0 (fun k_ hk_ => Or.elim hat0 (fun e_ => HO171.out.1 k_ (e_.symm.trans hk_)) (fun e_ => .inr (Nat.le_trans (by exact HK.out.1) (Nat.le_of_eq (Option.some.inj (e_.symm.trans hk_)))))); clear ho0 hat0; have hat := True.intro; rw [← Ny172.out] at ho; have n0_ := Aside0.mk (hb); have n1_ := Aside0.mk (Kept.of_grown (S := (fun k_ => P0_ k_)) hg HK.out (fun k_ e_ => (HO171.out.1 k_ e_))); have n2_ := Aside0.mk (ho); clear HB; clear HK; clear HO171; have HB := n0_; have HK := n1_; have HO174 := n2_; clear n0_ n1_ n2_; clear ho hb hg hat))
  go_ret;exact ⟨_,by rfl,by exact HO174.out,HB.out,HK.out⟩
 ·rw [if_neg c4] at H;exact absurd H (by simp)

end Go.Proofs.Ytgbbgdlenadhlaa.PJ
