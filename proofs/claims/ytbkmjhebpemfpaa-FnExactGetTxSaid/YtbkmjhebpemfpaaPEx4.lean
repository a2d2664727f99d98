/- The machine's side of Go functions: each as a plain function, and that the call does what it says. Written by a program (wip/mprint). -/
import Derived.Test.YtbkmjhebpemfpaaPEx0
import Derived.Test.YtbkmjhebpemfpaaPEx2
import Derived.Test.YtbkmjhebpemfpaaPEx3
import Derived.BigQuiet
import Derived.Lib.Builder
namespace Go.Proofs.Ytbkmjhebpemfpaa.PE
open Go.RowKit Go.Proofs.YtbkmjhebpemfpaaW.PrintWords Go.Proofs.YtbkmjhebpemfpaaW.PrintLast Go.Proofs.YtbkmjhebpemfpaaW.PrintMore
attribute [local go_sem] max2_int min2_int max_two min_two max_three min_three max_four min_four   -- for this text's walks alone
set_option linter.unusedVariables false
set_option linter.unusedSimpArgs false

/-! ### impl_GetNum: function 112 -/
mutual
def impl_GetNum.l0 : Nat → List Int → Int → Int → Int → Option (Int × Int × Bool)
  | 0, _, _, _, _ => none
  | k + 1, x0, x1, x7, x8 => if x8 < 5 then (impl_GetNum.j1 k x0 x1 x7 x8 (decide (x1 < (x0.length : Int)))) else (impl_GetNum.j1 k x0 x1 x7 x8 false)
def impl_GetNum.j1 : Nat → List Int → Int → Int → Int → Bool → Option (Int × Int × Bool)
  | 0, _, _, _, _, _ => none
  | k + 1, x0, x1, x7, x8, x24 => if x24 = true then (if 0 ≤ x1 then (if x1 < (x0.length : Int) then (if 0 ≤ (IntKind.u64.wrap (wrap64 (7 * x8))) then (if (wrap64 (rd x0 x1)) ≥ 128 then (impl_GetNum.l0 k x0 (wrap64 (x1 + 1)) (Go.bits .or .i64 x7 (shl .i64 (Go.bits .and .i64 (wrap64 (rd x0 x1)) 127) (IntKind.u64.wrap (wrap64 (7 * x8))))) (wrap64 (x8 + 1))) else (if (Int.tmod (Go.bits .or .i64 x7 (shl .i64 (Go.bits .and .i64 (wrap64 (rd x0 x1)) 127) (IntKind.u64.wrap (wrap64 (7 * x8))))) 2) = 1 then (if (wrap64 (rd x0 x1)) = 0 then (if x8 > 0 then (some (0, 0, false)) else ((impl_inRange.f (wrap64 (Int.tdiv (wrap64 (-(wrap64 ((Go.bits .or .i64 x7 (shl .i64 (Go.bits .and .i64 (wrap64 (rd x0 x1)) 127) (IntKind.u64.wrap (wrap64 (7 * x8))))) + 1)))) 2)) (-1000000000) 1000000000).bind fun t151 => (if t151 = true then (some (wrap64 (Int.tdiv (wrap64 (-(wrap64 ((Go.bits .or .i64 x7 (shl .i64 (Go.bits .and .i64 (wrap64 (rd x0 x1)) 127) (IntKind.u64.wrap (wrap64 (7 * x8))))) + 1)))) 2), wrap64 (x1 + 1), true)) else (some (0, 0, false))))) else ((impl_inRange.f (wrap64 (Int.tdiv (wrap64 (-(wrap64 ((Go.bits .or .i64 x7 (shl .i64 (Go.bits .and .i64 (wrap64 (rd x0 x1)) 127) (IntKind.u64.wrap (wrap64 (7 * x8))))) + 1)))) 2)) (-1000000000) 1000000000).bind fun t152 => (if t152 = true then (some (wrap64 (Int.tdiv (wrap64 (-(wrap64 ((Go.bits .or .i64 x7 (shl .i64 (Go.bits .and .i64 (wrap64 (rd x0 x1)) 127) (IntKind.u64.wrap (wrap64 (7 * x8))))) + 1)))) 2), wrap64 (x1 + 1), true)) else (some (0, 0, false))))) else (if (wrap64 (rd x0 x1)) = 0 then (if x8 > 0 then (some (0, 0, false)) else ((impl_inRange.f (wrap64 (Int.tdiv (Go.bits .or .i64 x7 (shl .i64 (Go.bits .and .i64 (wrap64 (rd x0 x1)) 127) (IntKind.u64.wrap (wrap64 (7 * x8))))) 2)) (-1000000000) 1000000000).bind fun t153 => (if t153 = true then (some (wrap64 (Int.tdiv (Go.bits .or .i64 x7 (shl .i64 (Go.bits .and .i64 (wrap64 (rd x0 x1)) 127) (IntKind.u64.wrap (wrap64 (7 * x8))))) 2), wrap64 (x1 + 1), true)) else (some (0, 0, false))))) else ((impl_inRange.f (wrap64 (Int.tdiv (Go.bits .or .i64 x7 (shl .i64 (Go.bits .and .i64 (wrap64 (rd x0 x1)) 127) (IntKind.u64.wrap (wrap64 (7 * x8))))) 2)) (-1000000000) 1000000000).bind fun t154 => (if t154 = true then (some (wrap64 (Int.tdiv (Go.bits .or .i64 x7 (shl .i64 (Go.bits .and .i64 (wrap64 (rd x0 x1)) 127) (IntKind.u64.wrap (wrap64 (7 * x8))))) 2), wrap64 (x1 + 1), true)) else (some (0, 0, false))))))) else (none)) else (none)) else (none)) else (some (0, 0, false))
end
def impl_GetNum.f (k : Nat) (l0 : List Int) (a1 : Int) : Option (Int × Int × Bool) := (impl_inRange.f a1 0 (wrap64 ((l0.length : Int) - 1))).bind fun t149 => (if t149 = true then (impl_GetNum.l0 k l0 a1 0 0) else (some (0, 0, false)))
theorem impl_GetNum.mono_l : ∀ k, (∀ y0 y1 y2 y3, LeO (impl_GetNum.l0 k y0 y1 y2 y3) (impl_GetNum.l0 (k + 1) y0 y1 y2 y3)) ∧ (∀ y0 y1 y2 y3 y4, LeO (impl_GetNum.j1 k y0 y1 y2 y3 y4) (impl_GetNum.j1 (k + 1) y0 y1 y2 y3 y4))
  | 0 => ⟨fun _ _ _ _ r h => by simp [impl_GetNum.l0] at h, fun _ _ _ _ _ r h => by simp [impl_GetNum.j1] at h⟩
  | k + 1 => by
    obtain ⟨ih0, ih1⟩ := impl_GetNum.mono_l k
    refine ⟨?_, ?_⟩
    · intro y0 y1 y2 y3
      unfold impl_GetNum.l0
      repeat' first
      | (with_reducible exact ih0 _ _ _ _)
      | (with_reducible exact ih1 _ _ _ _ _)
      | (with_reducible exact LeO.refl _)
      | (with_reducible exact LeO.none _)
      | (with_reducible refine LeO.ite ?_ ?_)
      | (with_reducible refine LeO.bind ?_ (fun _ => ?_))
      | exact ih0 _ _ _ _
      | exact ih1 _ _ _ _ _
      | exact LeO.none _
      | refine LeO.ite ?_ ?_
      | refine LeO.bind ?_ (fun _ => ?_)
    · intro y0 y1 y2 y3 y4
      unfold impl_GetNum.j1
      repeat' first
      | (with_reducible exact ih0 _ _ _ _)
      | (with_reducible exact ih1 _ _ _ _ _)
      | (with_reducible exact LeO.refl _)
      | (with_reducible exact LeO.none _)
      | (with_reducible refine LeO.ite ?_ ?_)
      | (with_reducible refine LeO.bind ?_ (fun _ => ?_))
      | exact ih0 _ _ _ _
      | exact ih1 _ _ _ _ _
      | exact LeO.none _
      | refine LeO.ite ?_ ?_
      | refine LeO.bind ?_ (fun _ => ?_)
theorem impl_GetNum.mono : ∀ a0 a1 k, LeO (impl_GetNum.f k a0 a1) (impl_GetNum.f (k + 1) a0 a1) := by
  intro a0 a1 k
  obtain ⟨ih0, ih1⟩ := impl_GetNum.mono_l k
  unfold impl_GetNum.f
  repeat' first
      | (with_reducible exact ih0 _ _ _ _)
      | (with_reducible exact ih1 _ _ _ _ _)
      | (with_reducible exact LeO.refl _)
      | (with_reducible exact LeO.none _)
      | (with_reducible refine LeO.ite ?_ ?_)
      | (with_reducible refine LeO.bind ?_ (fun _ => ?_))
      | exact ih0 _ _ _ _
      | exact ih1 _ _ _ _ _
      | exact LeO.none _
      | refine LeO.ite ?_ ?_
      | refine LeO.bind ?_ (fun _ => ?_)
set_option maxHeartbeats 8000000 in
set_option maxRecDepth 100000 in
theorem impl_GetNum.calls (k : Nat) (A0 : Option Addr) (c0 : Nat) (l0 : List Int) (a1 : Int) (r1 : Int) (r2 : Int) (r3 : Bool) (w : World) (hr0 : Kd.C (Kd.int .u8) w A0 l0.length l0) (hc0 : l0.length ≤ c0) (h : impl_GetNum.f k l0 a1 = some (r1, r2, r3)) :
    Calls Try.prog 112 #[.slice A0 l0.length c0, .int .i64 a1] w fun e w' => e = .returned (.tuple #[.int .i64 r1, .int .i64 r2, .bool r3]) ∧ Drawn0 w w' := by
  have HR0 := Aside0.mk hr0
  have HC0 := Aside0.mk hc0
  clear hr0 hc0
  have H : ((impl_inRange.f a1 0 (wrap64 ((l0.length : Int) - 1))).bind fun t149 => (if t149 = true then (impl_GetNum.l0 k l0 a1 0 0) else (some (0, 0, false)))) = some (r1, r2, r3) := h
  clear h
  replace H := Option.bind_eq_some_iff.mp H
  obtain ⟨t149, A30, H⟩ := H
  replace H : (if t149 = true then (impl_GetNum.l0 k l0 a1 0 0) else (some (0, 0, false))) = some (r1, r2, r3) := H
  have A3 := Aside0.mk A30
  clear A30
  by_cases c4 : t149 = true
  · subst c4
    have H1 : (impl_GetNum.l0 k l0 a1 0 0) = some (r1, r2, r3) := by rw [if_pos rfl] at H; exact H
    clear H
    have H := H1
    clear H1
    have H' := Aside0.mk H
    clear H
    go_enter Try.func112, Try.ntmps112
    go_wp2_with (first | ((with_reducible refine gate_callee (f := 67) rfl ?_); refine goesL_ (some 15) rfl rfl Try.func67 (by kernel_rfl) rfl #[.int .i64 a1, .int .i64 0, .int .i64 (wrap64 ((l0.length : Int) - 1))] rfl (by (try simp only [List.map_toArray, List.map_cons, List.map_nil]); first | done | rfl | (simp only [List.length_drop, List.length_take]; rfl)) ?_; (with_reducible refine (impl_inRange.calls a1 0 (wrap64 ((l0.length : Int) - 1)) true _ A3.out).mono ?_); rintro e w' ⟨rfl, ⟨nd, rfl⟩⟩; refine ⟨_, rfl, ?_⟩))
    go_loopg [1, 7, 8] k (fun kq v1 v7 v8 w' => ∃ (x1_1 : Int) (x7_1 : Int) (x8_1 : Int), v1 = .int .i64 x1_1 ∧ v7 = .int .i64 x7_1 ∧ v8 = .int .i64 x8_1 ∧ Aside0 (impl_GetNum.l0 kq l0 x1_1 x7_1 x8_1 = some (r1, r2, r3)) ∧ Aside0 (kq ≤ k) ∧ Drawn0 w w')
    case atStart => exact ⟨(a1), (0), (0), (by first | rfl | (simp; done) | (simp [*]; done)), (by first | rfl | (simp; done) | (simp [*]; done)), (by first | rfl | (simp; done) | (simp [*]; done)), H', ⟨Nat.le_refl _⟩, by repeat (first | exact Drawn0.refl _ | apply Drawn0.step)⟩
    case round =>
      clear H'
      try clear c1
      try clear p2
      try clear c4
      obtain ⟨x1_1, x7_1, x8_1, rfl, rfl, rfl, HA, HK1, ⟨m1, rfl⟩⟩ := hrel
      cases gk with
      | zero => exact absurd HA.out (by simp [impl_GetNum.l0])
      | succ k1 =>
        have H := HA.out
        clear HA
        simp only [impl_GetNum.l0] at H
        have HC5 := Aside0.mk H
        clear H
        go_upto_region 5 with (fail)
        go_cut [24] (fun v24 wc => ∃ (kq : Nat) (x24_4 : Bool), v24 = .bool x24_4 ∧ Aside0 (impl_GetNum.j1 kq l0 x1_1 x7_1 x8_1 x24_4 = some (r1, r2, r3)) ∧ Aside0 (kq ≤ k1) ∧ Drawn0 w wc)
        case first =>
          have H := HC5.out
          clear HC5
          by_cases c6 : x8_1 < 5
          · rw [if_pos c6] at H
            have c6b0 : decide (x8_1 < 5) = true := decide_eq_true c6
            clear c6
            (first | rw [c6b0] | (simp only [i64_w, i32_w]; rw [c6b0]) | skip)
            have H' := Aside0.mk H
            clear H
            go_wp2
            go_meet
            case rel => exact ⟨_, (decide (x1_1 < (l0.length : Int))), (by first | rfl | (simp; done) | (simp [*]; done)), H', ⟨by have := HK1.out; first | omega | exact Nat.le_refl _⟩, by repeat (first | exact Drawn0.refl _ | apply Drawn0.step)⟩
          · rw [if_neg c6] at H
            have c6b0 : decide (x8_1 < 5) = false := decide_eq_false c6
            clear c6
            (first | rw [c6b0] | (simp only [i64_w, i32_w]; rw [c6b0]) | skip)
            have H' := Aside0.mk H
            clear H
            go_wp2
            go_meet
            case rel => exact ⟨_, (false), (by first | rfl | (simp; done) | (simp [*]; done)), H', ⟨by have := HK1.out; first | omega | exact Nat.le_refl _⟩, by repeat (first | exact Drawn0.refl _ | apply Drawn0.step)⟩
        case rest =>
          clear HC5
          try clear c1
          try clear p2
          try clear c4
          try clear c6
          try clear c6b0
          try clear p6
          try clear p2
          obtain ⟨kq, x24_4, rfl, HA, HJ4, ⟨mc4, rfl⟩⟩ := hcut
          cases kq with
          | zero => exact absurd HA.out (by simp [impl_GetNum.j1])
          | succ kj4 =>
            have H := HA.out
            clear HA
            simp only [impl_GetNum.j1] at H
            by_cases c7 : x24_4 = true
            · subst c7
              have H1 : (if 0 ≤ x1_1 then (if x1_1 < (l0.length : Int) then (if 0 ≤ (IntKind.u64.wrap (wrap64 (7 * x8_1))) then (if (wrap64 (rd l0 x1_1)) ≥ 128 then (impl_GetNum.l0 kj4 l0 (wrap64 (x1_1 + 1)) (Go.bits .or .i64 x7_1 (shl .i64 (Go.bits .and .i64 (wrap64 (rd l0 x1_1)) 127) (IntKind.u64.wrap (wrap64 (7 * x8_1))))) (wrap64 (x8_1 + 1))) else (if (Int.tmod (Go.bits .or .i64 x7_1 (shl .i64 (Go.bits .and .i64 (wrap64 (rd l0 x1_1)) 127) (IntKind.u64.wrap (wrap64 (7 * x8_1))))) 2) = 1 then (if (wrap64 (rd l0 x1_1)) = 0 then (if x8_1 > 0 then (some (0, 0, false)) else ((impl_inRange.f (wrap64 (Int.tdiv (wrap64 (-(wrap64 ((Go.bits .or .i64 x7_1 (shl .i64 (Go.bits .and .i64 (wrap64 (rd l0 x1_1)) 127) (IntKind.u64.wrap (wrap64 (7 * x8_1))))) + 1)))) 2)) (-1000000000) 1000000000).bind fun t151 => (if t151 = true then (some (wrap64 (Int.tdiv (wrap64 (-(wrap64 ((Go.bits .or .i64 x7_1 (shl .i64 (Go.bits .and .i64 (wrap64 (rd l0 x1_1)) 127) (IntKind.u64.wrap (wrap64 (7 * x8_1))))) + 1)))) 2), wrap64 (x1_1 + 1), true)) else (some (0, 0, false))))) else ((impl_inRange.f (wrap64 (Int.tdiv (wrap64 (-(wrap64 ((Go.bits .or .i64 x7_1 (shl .i64 (Go.bits .and .i64 (wrap64 (rd l0 x1_1)) 127) (IntKind.u64.wrap (wrap64 (7 * x8_1))))) + 1)))) 2)) (-1000000000) 1000000000).bind fun t152 => (if t152 = true then (some (wrap64 (Int.tdiv (wrap64 (-(wrap64 ((Go.bits .or .i64 x7_1 (shl .i64 (Go.bits .and .i64 (wrap64 (rd l0 x1_1)) 127) (IntKind.u64.wrap (wrap64 (7 * x8_1))))) + 1)))) 2), wrap64 (x1_1 + 1), true)) else (some (0, 0, false))))) else (if (wrap64 (rd l0 x1_1)) = 0 then (if x8_1 > 0 then (some (0, 0, false)) else ((impl_inRange.f (wrap64 (Int.tdiv (Go.bits .or .i64 x7_1 (shl .i64 (Go.bits .and .i64 (wrap64 (rd l0 x1_1)) 127) (IntKind.u64.wrap (wrap64 (7 * x8_1))))) 2)) (-1000000000) 1000000000).bind fun t153 => (if t153 = true then (some (wrap64 (Int.tdiv (Go.bits .or .i64 x7_1 (shl .i64 (Go.bits .and .i64 (wrap64 (rd l0 x1_1)) 127) (IntKind.u64.wrap (wrap64 (7 * x8_1))))) 2), wrap64 (x1_1 + 1), true)) else (some (0, 0, false))))) else ((impl_inRange.f (wrap64 (Int.tdiv (Go.bits .or .i64 x7_1 (shl .i64 (Go.bits .and .i64 (wrap64 (rd l0 x1_1)) 127) (IntKind.u64.wrap (wrap64 (7 * x8_1))))) 2)) (-1000000000) 1000000000).bind fun t154 => (if t154 = true then (some (wrap64 (Int.tdiv (Go.bits .or .i64 x7_1 (shl .i64 (Go.bits .and .i64 (wrap64 (rd l0 x1_1)) 127) (IntKind.u64.wrap (wrap64 (7 * x8_1))))) 2), wrap64 (x1_1 + 1), true)) else (some (0, 0, false))))))) else (none)) else (none)) else (none)) = some (r1, r2, r3) := by rw [if_pos rfl] at H; exact H
              clear H
              have H := H1
              clear H1
              by_cases c8 : 0 ≤ x1_1
              · rw [if_pos c8] at H
                have c8b0 : decide (0 ≤ x1_1) = true := decide_eq_true c8
                clear c8
                by_cases c9 : x1_1 < (l0.length : Int)
                · rw [if_pos c9] at H
                  have c9b0 : decide (x1_1 < (l0.length : Int)) = true := decide_eq_true c9
                  clear c9
                  obtain ⟨ji10, hji10⟩ : ∃ j_ : Int, (IntKind.u64.wrap (wrap64 (7 * x8_1))) = j_ := ⟨_, rfl⟩
                  replace H : (if 0 ≤ (ji10) then (if (wrap64 (rd l0 x1_1)) ≥ 128 then (impl_GetNum.l0 kj4 l0 (wrap64 (x1_1 + 1)) (Go.bits .or .i64 x7_1 (shl .i64 (Go.bits .and .i64 (wrap64 (rd l0 x1_1)) 127) (ji10))) (wrap64 (x8_1 + 1))) else (if (Int.tmod (Go.bits .or .i64 x7_1 (shl .i64 (Go.bits .and .i64 (wrap64 (rd l0 x1_1)) 127) (ji10))) 2) = 1 then (if (wrap64 (rd l0 x1_1)) = 0 then (if x8_1 > 0 then (some (0, 0, false)) else ((impl_inRange.f (wrap64 (Int.tdiv (wrap64 (-(wrap64 ((Go.bits .or .i64 x7_1 (shl .i64 (Go.bits .and .i64 (wrap64 (rd l0 x1_1)) 127) (ji10))) + 1)))) 2)) (-1000000000) 1000000000).bind fun t151 => (if t151 = true then (some (wrap64 (Int.tdiv (wrap64 (-(wrap64 ((Go.bits .or .i64 x7_1 (shl .i64 (Go.bits .and .i64 (wrap64 (rd l0 x1_1)) 127) (ji10))) + 1)))) 2), wrap64 (x1_1 + 1), true)) else (some (0, 0, false))))) else ((impl_inRange.f (wrap64 (Int.tdiv (wrap64 (-(wrap64 ((Go.bits .or .i64 x7_1 (shl .i64 (Go.bits .and .i64 (wrap64 (rd l0 x1_1)) 127) (ji10))) + 1)))) 2)) (-1000000000) 1000000000).bind fun t152 => (if t152 = true then (some (wrap64 (Int.tdiv (wrap64 (-(wrap64 ((Go.bits .or .i64 x7_1 (shl .i64 (Go.bits .and .i64 (wrap64 (rd l0 x1_1)) 127) (ji10))) + 1)))) 2), wrap64 (x1_1 + 1), true)) else (some (0, 0, false))))) else (if (wrap64 (rd l0 x1_1)) = 0 then (if x8_1 > 0 then (some (0, 0, false)) else ((impl_inRange.f (wrap64 (Int.tdiv (Go.bits .or .i64 x7_1 (shl .i64 (Go.bits .and .i64 (wrap64 (rd l0 x1_1)) 127) (ji10))) 2)) (-1000000000) 1000000000).bind fun t153 => (if t153 = true then (some (wrap64 (Int.tdiv (Go.bits .or .i64 x7_1 (shl .i64 (Go.bits .and .i64 (wrap64 (rd l0 x1_1)) 127) (ji10))) 2), wrap64 (x1_1 + 1), true)) else (some (0, 0, false))))) else ((impl_inRange.f (wrap64 (Int.tdiv (Go.bits .or .i64 x7_1 (shl .i64 (Go.bits .and .i64 (wrap64 (rd l0 x1_1)) 127) (ji10))) 2)) (-1000000000) 1000000000).bind fun t154 => (if t154 = true then (some (wrap64 (Int.tdiv (Go.bits .or .i64 x7_1 (shl .i64 (Go.bits .and .i64 (wrap64 (rd l0 x1_1)) 127) (ji10))) 2), wrap64 (x1_1 + 1), true)) else (some (0, 0, false))))))) else (none)) = some (r1, r2, r3) := by first | (rw [hji10] at H; exact H) | (simp only [hji10] at H ⊢; exact H)
                  by_cases c11 : 0 ≤ (ji10)
                  · rw [if_pos c11] at H
                    have c11b0 := eq_true c11
                    have c11b1 : decide (0 ≤ (ji10)) = true := decide_eq_true c11
                    clear c11
                    obtain ⟨ji12, hji12⟩ : ∃ j_ : Int, (shl .i64 (Go.bits .and .i64 (wrap64 (rd l0 x1_1)) 127) (ji10)) = j_ := ⟨_, rfl⟩
                    replace H : (if (wrap64 (rd l0 x1_1)) ≥ 128 then (impl_GetNum.l0 kj4 l0 (wrap64 (x1_1 + 1)) (Go.bits .or .i64 x7_1 (ji12)) (wrap64 (x8_1 + 1))) else (if (Int.tmod (Go.bits .or .i64 x7_1 (ji12)) 2) = 1 then (if (wrap64 (rd l0 x1_1)) = 0 then (if x8_1 > 0 then (some (0, 0, false)) else ((impl_inRange.f (wrap64 (Int.tdiv (wrap64 (-(wrap64 ((Go.bits .or .i64 x7_1 (ji12)) + 1)))) 2)) (-1000000000) 1000000000).bind fun t151 => (if t151 = true then (some (wrap64 (Int.tdiv (wrap64 (-(wrap64 ((Go.bits .or .i64 x7_1 (ji12)) + 1)))) 2), wrap64 (x1_1 + 1), true)) else (some (0, 0, false))))) else ((impl_inRange.f (wrap64 (Int.tdiv (wrap64 (-(wrap64 ((Go.bits .or .i64 x7_1 (ji12)) + 1)))) 2)) (-1000000000) 1000000000).bind fun t152 => (if t152 = true then (some (wrap64 (Int.tdiv (wrap64 (-(wrap64 ((Go.bits .or .i64 x7_1 (ji12)) + 1)))) 2), wrap64 (x1_1 + 1), true)) else (some (0, 0, false))))) else (if (wrap64 (rd l0 x1_1)) = 0 then (if x8_1 > 0 then (some (0, 0, false)) else ((impl_inRange.f (wrap64 (Int.tdiv (Go.bits .or .i64 x7_1 (ji12)) 2)) (-1000000000) 1000000000).bind fun t153 => (if t153 = true then (some (wrap64 (Int.tdiv (Go.bits .or .i64 x7_1 (ji12)) 2), wrap64 (x1_1 + 1), true)) else (some (0, 0, false))))) else ((impl_inRange.f (wrap64 (Int.tdiv (Go.bits .or .i64 x7_1 (ji12)) 2)) (-1000000000) 1000000000).bind fun t154 => (if t154 = true then (some (wrap64 (Int.tdiv (Go.bits .or .i64 x7_1 (ji12)) 2), wrap64 (x1_1 + 1), true)) else (some (0, 0, false))))))) = some (r1, r2, r3) := by first | (rw [hji12] at H; exact H) | (simp only [hji12] at H ⊢; exact H)
                    have hji12_ : (IntKind.i64.wrap ((Go.bits .and .i64 (wrap64 (rd l0 x1_1)) 127) * 2 ^ min (ji10).toNat 64)) = ji12 := hji12
                    have hji12z : (ji10) ≤ 64 → (IntKind.i64.wrap ((Go.bits .and .i64 (wrap64 (rd l0 x1_1)) 127) * 2 ^ (ji10).toNat)) = ji12 := shl_small hji12
                    have hji12y : (wrap64 ((Go.bits .and .i64 (wrap64 (rd l0 x1_1)) 127) * 2 ^ min (ji10).toNat 64)) = ji12 := (i64_w _).symm.trans hji12_
                    have hji12x : (ji10) ≤ 64 → (wrap64 ((Go.bits .and .i64 (wrap64 (rd l0 x1_1)) 127) * 2 ^ (ji10).toNat)) = ji12 := fun h_ => (i64_w _).symm.trans (hji12z h_)
                    by_cases c13 : (wrap64 (rd l0 x1_1)) ≥ 128
                    · rw [if_pos c13] at H
                      have c13b0 : decide (128 ≤ (wrap64 (rd l0 x1_1))) = true := decide_eq_true c13
                      clear c13
                      have H' := Aside0.mk H
                      clear H
                      have p150 : 0 ≤ (x1_1 : Int) := of_decide_eq_true (by first | (with_reducible assumption) | assumption)
                      have q150 : x1_1 < (l0.length : Int) := of_decide_eq_true (by first | (with_reducible assumption) | assumption)
                      obtain ⟨ad150, e150, hx150_0⟩ := Kd.at_int HR0.out x1_1 p150 q150
                      cases e150
                      replace p150 := eq_true p150
                      replace q150 := eq_true q150
                      go_wp2
                      go_roundg kj4
                      case measure => have := HK1.out; have := HJ4.out; omega
                      case rel => exact ⟨(wrap64 (x1_1 + 1)), (Go.bits .or .i64 x7_1 (ji12)), (wrap64 (x8_1 + 1)), (by first | rfl | (simp; done) | (simp [*]; done)), (by first | rfl | (simp; done) | (simp only [← hji12] <;> (first | rfl | simp)) | (simp [*]; done)), (by first | rfl | (simp; done) | (simp [*]; done)), H', ⟨by have := HK1.out; have := HJ4.out; omega⟩, by repeat (first | exact Drawn0.refl _ | apply Drawn0.step)⟩
                    · rw [if_neg c13] at H
                      have c13b0 : decide (128 ≤ (wrap64 (rd l0 x1_1))) = false := decide_eq_false c13
                      clear c13
                      by_cases c14 : (Int.tmod (Go.bits .or .i64 x7_1 (ji12)) 2) = 1
                      · rw [if_pos c14] at H
                        have c14b0 : ((Int.tmod (Go.bits .or .i64 x7_1 (ji12)) 2) == 1) = true := beq_iff_eq.mpr c14
                        have c14b1 : ((Int.tmod (Go.bits .or .i64 x7_1 (ji12)) 2) != 1) = false := bne_eq_false_iff_eq.mpr c14
                        clear c14
                        by_cases c15 : (wrap64 (rd l0 x1_1)) = 0
                        · rw [if_pos c15] at H
                          have c15b0 : ((wrap64 (rd l0 x1_1)) == 0) = true := beq_iff_eq.mpr c15
                          have c15b1 : ((wrap64 (rd l0 x1_1)) != 0) = false := bne_eq_false_iff_eq.mpr c15
                          clear c15
                          by_cases c16 : x8_1 > 0
                          · rw [if_pos c16] at H
                            have c16b0 : decide (0 < x8_1) = true := decide_eq_true c16
                            clear c16
                            simp only [Option.some.injEq, Prod.mk.injEq] at H
                            obtain ⟨rfl, rfl, rfl⟩ := H
                            have p150 : 0 ≤ (x1_1 : Int) := of_decide_eq_true (by first | (with_reducible assumption) | assumption)
                            have q150 : x1_1 < (l0.length : Int) := of_decide_eq_true (by first | (with_reducible assumption) | assumption)
                            obtain ⟨ad150, e150, hx150_0⟩ := Kd.at_int HR0.out x1_1 p150 q150
                            cases e150
                            replace p150 := eq_true p150
                            replace q150 := eq_true q150
                            go_wp2
                            go_ret3
                            exact ⟨by first | rfl | (simp; done) | (simp only [← hji10, ← hji12] <;> (first | rfl | simp)) | (simp [*]; done), by repeat (first | exact Drawn0.refl _ | apply Drawn0.step)⟩
                          · rw [if_neg c16] at H
                            have c16b0 : decide (0 < x8_1) = false := decide_eq_false c16
                            clear c16
                            replace H := Option.bind_eq_some_iff.mp H
                            obtain ⟨t151, A170, H⟩ := H
                            replace H : (if t151 = true then (some (wrap64 (Int.tdiv (wrap64 (-(wrap64 ((Go.bits .or .i64 x7_1 (ji12)) + 1)))) 2), wrap64 (x1_1 + 1), true)) else (some (0, 0, false))) = some (r1, r2, r3) := H
                            have A17 := Aside0.mk A170
                            clear A170
                            by_cases c18 : t151 = true
                            · subst c18
                              have H1 : (some (wrap64 (Int.tdiv (wrap64 (-(wrap64 ((Go.bits .or .i64 x7_1 (ji12)) + 1)))) 2), wrap64 (x1_1 + 1), true)) = some (r1, r2, r3) := by rw [if_pos rfl] at H; exact H
                              clear H
                              have H := H1
                              clear H1
                              simp only [Option.some.injEq, Prod.mk.injEq] at H
                              obtain ⟨rfl, rfl, rfl⟩ := H
                              have p150 : 0 ≤ (x1_1 : Int) := of_decide_eq_true (by first | (with_reducible assumption) | assumption)
                              have q150 : x1_1 < (l0.length : Int) := of_decide_eq_true (by first | (with_reducible assumption) | assumption)
                              obtain ⟨ad150, e150, hx150_0⟩ := Kd.at_int HR0.out x1_1 p150 q150
                              cases e150
                              replace p150 := eq_true p150
                              replace q150 := eq_true q150
                              go_wp2_with (first | (go_at_call 67; (with_reducible refine (impl_inRange.calls (wrap64 (Int.tdiv (wrap64 (-(wrap64 ((Go.bits .or .i64 x7_1 (ji12)) + 1)))) 2)) (-1000000000) 1000000000 true _ A17.out).mono ?_); rintro e w' ⟨rfl, ⟨nd, rfl⟩⟩))
                              go_ret3
                              exact ⟨by first | rfl | (simp; done) | (simp only [← hji10, ← hji12] <;> (first | rfl | simp)) | (simp [*]; done), by repeat (first | exact Drawn0.refl _ | apply Drawn0.step)⟩
                            · replace c18 := Bool.eq_false_iff.mpr c18
                              subst c18
                              have H1 : (some (0, 0, false)) = some (r1, r2, r3) := by rw [if_neg (show ¬ (false = true) by decide)] at H; exact H
                              clear H
                              have H := H1
                              clear H1
                              simp only [Option.some.injEq, Prod.mk.injEq] at H
                              obtain ⟨rfl, rfl, rfl⟩ := H
                              have p150 : 0 ≤ (x1_1 : Int) := of_decide_eq_true (by first | (with_reducible assumption) | assumption)
                              have q150 : x1_1 < (l0.length : Int) := of_decide_eq_true (by first | (with_reducible assumption) | assumption)
                              obtain ⟨ad150, e150, hx150_0⟩ := Kd.at_int HR0.out x1_1 p150 q150
                              cases e150
                              replace p150 := eq_true p150
                              replace q150 := eq_true q150
                              go_wp2_with (first | (go_at_call 67; (with_reducible refine (impl_inRange.calls (wrap64 (Int.tdiv (wrap64 (-(wrap64 ((Go.bits .or .i64 x7_1 (ji12)) + 1)))) 2)) (-1000000000) 1000000000 false _ A17.out).mono ?_); rintro e w' ⟨rfl, ⟨nd, rfl⟩⟩))
                              go_ret3
                              exact ⟨by first | rfl | (simp; done) | (simp only [← hji10, ← hji12] <;> (first | rfl | simp)) | (simp [*]; done), by repeat (first | exact Drawn0.refl _ | apply Drawn0.step)⟩
                        · rw [if_neg c15] at H
                          have c15b0 : ((wrap64 (rd l0 x1_1)) == 0) = false := beq_eq_false_iff_ne.mpr c15
                          have c15b1 : ((wrap64 (rd l0 x1_1)) != 0) = true := bne_iff_ne.mpr c15
                          replace H := Option.bind_eq_some_iff.mp H
                          obtain ⟨t152, A190, H⟩ := H
                          replace H : (if t152 = true then (some (wrap64 (Int.tdiv (wrap64 (-(wrap64 ((Go.bits .or .i64 x7_1 (ji12)) + 1)))) 2), wrap64 (x1_1 + 1), true)) else (some (0, 0, false))) = some (r1, r2, r3) := H
                          have A19 := Aside0.mk A190
                          clear A190
                          by_cases c20 : t152 = true
                          · subst c20
                            have H1 : (some (wrap64 (Int.tdiv (wrap64 (-(wrap64 ((Go.bits .or .i64 x7_1 (ji12)) + 1)))) 2), wrap64 (x1_1 + 1), true)) = some (r1, r2, r3) := by rw [if_pos rfl] at H; exact H
                            clear H
                            have H := H1
                            clear H1
                            simp only [Option.some.injEq, Prod.mk.injEq] at H
                            obtain ⟨rfl, rfl, rfl⟩ := H
                            have p150 : 0 ≤ (x1_1 : Int) := of_decide_eq_true (by first | (with_reducible assumption) | assumption)
                            have q150 : x1_1 < (l0.length : Int) := of_decide_eq_true (by first | (with_reducible assumption) | assumption)
                            obtain ⟨ad150, e150, hx150_0⟩ := Kd.at_int HR0.out x1_1 p150 q150
                            cases e150
                            replace p150 := eq_true p150
                            replace q150 := eq_true q150
                            go_wp2_with (first | (go_at_call 67; (with_reducible refine (impl_inRange.calls (wrap64 (Int.tdiv (wrap64 (-(wrap64 ((Go.bits .or .i64 x7_1 (ji12)) + 1)))) 2)) (-1000000000) 1000000000 true _ A19.out).mono ?_); rintro e w' ⟨rfl, ⟨nd, rfl⟩⟩))
                            go_ret3
                            exact ⟨by first | rfl | (simp; done) | (simp only [← hji10, ← hji12] <;> (first | rfl | simp)) | (simp [*]; done), by repeat (first | exact Drawn0.refl _ | apply Drawn0.step)⟩
                          · replace c20 := Bool.eq_false_iff.mpr c20
                            subst c20
                            have H1 : (some (0, 0, false)) = some (r1, r2, r3) := by rw [if_neg (show ¬ (false = true) by decide)] at H; exact H
                            clear H
                            have H := H1
                            clear H1
                            simp only [Option.some.injEq, Prod.mk.injEq] at H
                            obtain ⟨rfl, rfl, rfl⟩ := H
                            have p150 : 0 ≤ (x1_1 : Int) := of_decide_eq_true (by first | (with_reducible assumption) | assumption)
                            have q150 : x1_1 < (l0.length : Int) := of_decide_eq_true (by first | (with_reducible assumption) | assumption)
                            obtain ⟨ad150, e150, hx150_0⟩ := Kd.at_int HR0.out x1_1 p150 q150
                            cases e150
                            replace p150 := eq_true p150
                            replace q150 := eq_true q150
                            go_wp2_with (first | (go_at_call 67; (with_reducible refine (impl_inRange.calls (wrap64 (Int.tdiv (wrap64 (-(wrap64 ((Go.bits .or .i64 x7_1 (ji12)) + 1)))) 2)) (-1000000000) 1000000000 false _ A19.out).mono ?_); rintro e w' ⟨rfl, ⟨nd, rfl⟩⟩))
                            go_ret3
                            exact ⟨by first | rfl | (simp; done) | (simp only [← hji10, ← hji12] <;> (first | rfl | simp)) | (simp [*]; done), by repeat (first | exact Drawn0.refl _ | apply Drawn0.step)⟩
                      · rw [if_neg c14] at H
                        have c14b0 : ((Int.tmod (Go.bits .or .i64 x7_1 (ji12)) 2) == 1) = false := beq_eq_false_iff_ne.mpr c14
                        have c14b1 : ((Int.tmod (Go.bits .or .i64 x7_1 (ji12)) 2) != 1) = true := bne_iff_ne.mpr c14
                        by_cases c21 : (wrap64 (rd l0 x1_1)) = 0
                        · rw [if_pos c21] at H
                          have c21b0 : ((wrap64 (rd l0 x1_1)) == 0) = true := beq_iff_eq.mpr c21
                          have c21b1 : ((wrap64 (rd l0 x1_1)) != 0) = false := bne_eq_false_iff_eq.mpr c21
                          clear c21
                          by_cases c22 : x8_1 > 0
                          · rw [if_pos c22] at H
                            have c22b0 : decide (0 < x8_1) = true := decide_eq_true c22
                            clear c22
                            simp only [Option.some.injEq, Prod.mk.injEq] at H
                            obtain ⟨rfl, rfl, rfl⟩ := H
                            have p150 : 0 ≤ (x1_1 : Int) := of_decide_eq_true (by first | (with_reducible assumption) | assumption)
                            have q150 : x1_1 < (l0.length : Int) := of_decide_eq_true (by first | (with_reducible assumption) | assumption)
                            obtain ⟨ad150, e150, hx150_0⟩ := Kd.at_int HR0.out x1_1 p150 q150
                            cases e150
                            replace p150 := eq_true p150
                            replace q150 := eq_true q150
                            go_wp2
                            go_ret3
                            exact ⟨by first | rfl | (simp; done) | (simp only [← hji10, ← hji12] <;> (first | rfl | simp)) | (simp [*]; done), by repeat (first | exact Drawn0.refl _ | apply Drawn0.step)⟩
                          · rw [if_neg c22] at H
                            have c22b0 : decide (0 < x8_1) = false := decide_eq_false c22
                            clear c22
                            replace H := Option.bind_eq_some_iff.mp H
                            obtain ⟨t153, A230, H⟩ := H
                            replace H : (if t153 = true then (some (wrap64 (Int.tdiv (Go.bits .or .i64 x7_1 (ji12)) 2), wrap64 (x1_1 + 1), true)) else (some (0, 0, false))) = some (r1, r2, r3) := H
                            have A23 := Aside0.mk A230
                            clear A230
                            by_cases c24 : t153 = true
                            · subst c24
                              have H1 : (some (wrap64 (Int.tdiv (Go.bits .or .i64 x7_1 (ji12)) 2), wrap64 (x1_1 + 1), true)) = some (r1, r2, r3) := by rw [if_pos rfl] at H; exact H
                              clear H
                              have H := H1
                              clear H1
                              simp only [Option.some.injEq, Prod.mk.injEq] at H
                              obtain ⟨rfl, rfl, rfl⟩ := H
                              have p150 : 0 ≤ (x1_1 : Int) := of_decide_eq_true (by first | (with_reducible assumption) | assumption)
                              have q150 : x1_1 < (l0.length : Int) := of_decide_eq_true (by first | (with_reducible assumption) | assumption)
                              obtain ⟨ad150, e150, hx150_0⟩ := Kd.at_int HR0.out x1_1 p150 q150
                              cases e150
                              replace p150 := eq_true p150
                              replace q150 := eq_true q150
                              go_wp2_with (first | (go_at_call 67; (with_reducible refine (impl_inRange.calls (wrap64 (Int.tdiv (Go.bits .or .i64 x7_1 (ji12)) 2)) (-1000000000) 1000000000 true _ A23.out).mono ?_); rintro e w' ⟨rfl, ⟨nd, rfl⟩⟩))
                              go_ret3
                              exact ⟨by first | rfl | (simp; done) | (simp only [← hji10, ← hji12] <;> (first | rfl | simp)) | (simp [*]; done), by repeat (first | exact Drawn0.refl _ | apply Drawn0.step)⟩
                            · replace c24 := Bool.eq_false_iff.mpr c24
                              subst c24
                              have H1 : (some (0, 0, false)) = some (r1, r2, r3) := by rw [if_neg (show ¬ (false = true) by decide)] at H; exact H
                              clear H
                              have H := H1
                              clear H1
                              simp only [Option.some.injEq, Prod.mk.injEq] at H
                              obtain ⟨rfl, rfl, rfl⟩ := H
                              have p150 : 0 ≤ (x1_1 : Int) := of_decide_eq_true (by first | (with_reducible assumption) | assumption)
                              have q150 : x1_1 < (l0.length : Int) := of_decide_eq_true (by first | (with_reducible assumption) | assumption)
                              obtain ⟨ad150, e150, hx150_0⟩ := Kd.at_int HR0.out x1_1 p150 q150
                              cases e150
                              replace p150 := eq_true p150
                              replace q150 := eq_true q150
                              go_wp2_with (first | (go_at_call 67; (with_reducible refine (impl_inRange.calls (wrap64 (Int.tdiv (Go.bits .or .i64 x7_1 (ji12)) 2)) (-1000000000) 1000000000 false _ A23.out).mono ?_); rintro e w' ⟨rfl, ⟨nd, rfl⟩⟩))
                              go_ret3
                              exact ⟨by first | rfl | (simp; done) | (simp only [← hji10, ← hji12] <;> (first | rfl | simp)) | (simp [*]; done), by repeat (first | exact Drawn0.refl _ | apply Drawn0.step)⟩
                        · rw [if_neg c21] at H
                          have c21b0 : ((wrap64 (rd l0 x1_1)) == 0) = false := beq_eq_false_iff_ne.mpr c21
                          have c21b1 : ((wrap64 (rd l0 x1_1)) != 0) = true := bne_iff_ne.mpr c21
                          replace H := Option.bind_eq_some_iff.mp H
                          obtain ⟨t154, A250, H⟩ := H
                          replace H : (if t154 = true then (some (wrap64 (Int.tdiv (Go.bits .or .i64 x7_1 (ji12)) 2), wrap64 (x1_1 + 1), true)) else (some (0, 0, false))) = some (r1, r2, r3) := H
                          have A25 := Aside0.mk A250
                          clear A250
                          by_cases c26 : t154 = true
                          · subst c26
                            have H1 : (some (wrap64 (Int.tdiv (Go.bits .or .i64 x7_1 (ji12)) 2), wrap64 (x1_1 + 1), true)) = some (r1, r2, r3) := by rw [if_pos rfl] at H; exact H
                            clear H
                            have H := H1
                            clear H1
                            simp only [Option.some.injEq, Prod.mk.injEq] at H
                            obtain ⟨rfl, rfl, rfl⟩ := H
                            have p150 : 0 ≤ (x1_1 : Int) := of_decide_eq_true (by first | (with_reducible assumption) | assumption)
                            have q150 : x1_1 < (l0.length : Int) := of_decide_eq_true (by first | (with_reducible assumption) | assumption)
                            obtain ⟨ad150, e150, hx150_0⟩ := Kd.at_int HR0.out x1_1 p150 q150
                            cases e150
                            replace p150 := eq_true p150
                            replace q150 := eq_true q150
                            go_wp2_with (first | (go_at_call 67; (with_reducible refine (impl_inRange.calls (wrap64 (Int.tdiv (Go.bits .or .i64 x7_1 (ji12)) 2)) (-1000000000) 1000000000 true _ A25.out).mono ?_); rintro e w' ⟨rfl, ⟨nd, rfl⟩⟩))
                            go_ret3
                            exact ⟨by first | rfl | (simp; done) | (simp only [← hji10, ← hji12] <;> (first | rfl | simp)) | (simp [*]; done), by repeat (first | exact Drawn0.refl _ | apply Drawn0.step)⟩
                          · replace c26 := Bool.eq_false_iff.mpr c26
                            subst c26
                            have H1 : (some (0, 0, false)) = some (r1, r2, r3) := by rw [if_neg (show ¬ (false = true) by decide)] at H; exact H
                            clear H
                            have H := H1
                            clear H1
                            simp only [Option.some.injEq, Prod.mk.injEq] at H
                            obtain ⟨rfl, rfl, rfl⟩ := H
                            have p150 : 0 ≤ (x1_1 : Int) := of_decide_eq_true (by first | (with_reducible assumption) | assumption)
                            have q150 : x1_1 < (l0.length : Int) := of_decide_eq_true (by first | (with_reducible assumption) | assumption)
                            obtain ⟨ad150, e150, hx150_0⟩ := Kd.at_int HR0.out x1_1 p150 q150
                            cases e150
                            replace p150 := eq_true p150
                            replace q150 := eq_true q150
                            go_wp2_with (first | (go_at_call 67; (with_reducible refine (impl_inRange.calls (wrap64 (Int.tdiv (Go.bits .or .i64 x7_1 (ji12)) 2)) (-1000000000) 1000000000 false _ A25.out).mono ?_); rintro e w' ⟨rfl, ⟨nd, rfl⟩⟩))
                            go_ret3
                            exact ⟨by first | rfl | (simp; done) | (simp only [← hji10, ← hji12] <;> (first | rfl | simp)) | (simp [*]; done), by repeat (first | exact Drawn0.refl _ | apply Drawn0.step)⟩
                  · rw [if_neg c11] at H
                    exact absurd H (by simp)
                · rw [if_neg c9] at H
                  exact absurd H (by simp)
              · rw [if_neg c8] at H
                exact absurd H (by simp)
            · replace c7 := Bool.eq_false_iff.mpr c7
              subst c7
              have H1 : (some (0, 0, false)) = some (r1, r2, r3) := by rw [if_neg (show ¬ (false = true) by decide)] at H; exact H
              clear H
              have H := H1
              clear H1
              simp only [Option.some.injEq, Prod.mk.injEq] at H
              obtain ⟨rfl, rfl, rfl⟩ := H
              go_wp2
              go_ret3
              exact ⟨by first | rfl | (simp; done) | (simp [*]; done), by repeat (first | exact Drawn0.refl _ | apply Drawn0.step)⟩
  · replace c4 := Bool.eq_false_iff.mpr c4
    subst c4
    have H1 : (some (0, 0, false)) = some (r1, r2, r3) := by rw [if_neg (show ¬ (false = true) by decide)] at H; exact H
    clear H
    have H := H1
    clear H1
    simp only [Option.some.injEq, Prod.mk.injEq] at H
    obtain ⟨rfl, rfl, rfl⟩ := H
    go_enter Try.func112, Try.ntmps112
    go_wp2_with (first | ((with_reducible refine gate_callee (f := 67) rfl ?_); refine goesL_ (some 15) rfl rfl Try.func67 (by kernel_rfl) rfl #[.int .i64 a1, .int .i64 0, .int .i64 (wrap64 ((l0.length : Int) - 1))] rfl (by (try simp only [List.map_toArray, List.map_cons, List.map_nil]); first | done | rfl | (simp only [List.length_drop, List.length_take]; rfl)) ?_; (with_reducible refine (impl_inRange.calls a1 0 (wrap64 ((l0.length : Int) - 1)) false _ A3.out).mono ?_); rintro e w' ⟨rfl, ⟨nd, rfl⟩⟩; refine ⟨_, rfl, ?_⟩))
    go_ret3
    exact ⟨by first | rfl | (simp; done) | (simp [*]; done), by repeat (first | exact Drawn0.refl _ | apply Drawn0.step)⟩

-- NOT PRINTED: function 97 (impl_getter_num)

/-! ### impl_GetText: function 113 -/
def impl_GetText.f (k : Nat) (l0 : List Int) (a1 : Int) : Option (ByteArray × Int × Bool) := (impl_GetNum.f k l0 a1).bind fun bt158 => (if bt158.2.2 = true then (if bt158.1 < 0 then (some ((⟨#[]⟩ : ByteArray), 0, false)) else (if bt158.1 > (wrap64 ((l0.length : Int) - bt158.2.1)) then (some ((⟨#[]⟩ : ByteArray), 0, false)) else (if 0 ≤ bt158.2.1 then (if bt158.2.1 ≤ (wrap64 (bt158.2.1 + bt158.1)) then (if (wrap64 (bt158.2.1 + bt158.1)) ≤ (l0.length : Int) then (some (strOfNums ((l0.take ((wrap64 (bt158.2.1 + bt158.1)) : Int).toNat).drop (bt158.2.1 : Int).toNat), wrap64 (bt158.2.1 + bt158.1), true)) else (none)) else (none)) else (none)))) else (some ((⟨#[]⟩ : ByteArray), 0, false)))
theorem impl_GetText.mono : ∀ a0 a1 k, LeO (impl_GetText.f k a0 a1) (impl_GetText.f (k + 1) a0 a1) := by
  intro a0 a1 k
  unfold impl_GetText.f
  repeat' first
      | (with_reducible exact impl_GetNum.mono _ _ _)
      | (with_reducible exact LeO.refl _)
      | (with_reducible exact LeO.none _)
      | (with_reducible refine LeO.ite ?_ ?_)
      | (with_reducible refine LeO.bind ?_ (fun _ => ?_))
      | exact impl_GetNum.mono _ _ _
      | exact LeO.none _
      | refine LeO.ite ?_ ?_
      | refine LeO.bind ?_ (fun _ => ?_)
set_option maxHeartbeats 8000000 in
set_option maxRecDepth 100000 in
theorem impl_GetText.calls (k : Nat) (A0 : Option Addr) (c0 : Nat) (l0 : List Int) (a1 : Int) (r1 : ByteArray) (r2 : Int) (r3 : Bool) (w : World) (hr0 : Kd.C (Kd.int .u8) w A0 l0.length l0) (hc0 : l0.length ≤ c0) (h : impl_GetText.f k l0 a1 = some (r1, r2, r3)) :
    Calls Try.prog 113 #[.slice A0 l0.length c0, .int .i64 a1] w fun e w' => e = .returned (.tuple #[.string r1, .int .i64 r2, .bool r3]) ∧ Drawn0 w w' := by
  have HR0 := Aside0.mk hr0
  have HC0 := Aside0.mk hc0
  clear hr0 hc0
  have H : ((impl_GetNum.f k l0 a1).bind fun bt158 => (if bt158.2.2 = true then (if bt158.1 < 0 then (some ((⟨#[]⟩ : ByteArray), 0, false)) else (if bt158.1 > (wrap64 ((l0.length : Int) - bt158.2.1)) then (some ((⟨#[]⟩ : ByteArray), 0, false)) else (if 0 ≤ bt158.2.1 then (if bt158.2.1 ≤ (wrap64 (bt158.2.1 + bt158.1)) then (if (wrap64 (bt158.2.1 + bt158.1)) ≤ (l0.length : Int) then (some (strOfNums ((l0.take ((wrap64 (bt158.2.1 + bt158.1)) : Int).toNat).drop (bt158.2.1 : Int).toNat), wrap64 (bt158.2.1 + bt158.1), true)) else (none)) else (none)) else (none)))) else (some ((⟨#[]⟩ : ByteArray), 0, false)))) = some (r1, r2, r3) := h
  clear h
  replace H := Option.bind_eq_some_iff.mp H
  obtain ⟨⟨t158, t159, t160⟩, A30, H⟩ := H
  replace H : (if t160 = true then (if t158 < 0 then (some ((⟨#[]⟩ : ByteArray), 0, false)) else (if t158 > (wrap64 ((l0.length : Int) - t159)) then (some ((⟨#[]⟩ : ByteArray), 0, false)) else (if 0 ≤ t159 then (if t159 ≤ (wrap64 (t159 + t158)) then (if (wrap64 (t159 + t158)) ≤ (l0.length : Int) then (some (strOfNums ((l0.take ((wrap64 (t159 + t158)) : Int).toNat).drop (t159 : Int).toNat), wrap64 (t159 + t158), true)) else (none)) else (none)) else (none)))) else (some ((⟨#[]⟩ : ByteArray), 0, false))) = some (r1, r2, r3) := H
  have A3 := Aside0.mk A30
  clear A30
  by_cases c4 : t160 = true
  · subst c4
    have H1 : (if t158 < 0 then (some ((⟨#[]⟩ : ByteArray), 0, false)) else (if t158 > (wrap64 ((l0.length : Int) - t159)) then (some ((⟨#[]⟩ : ByteArray), 0, false)) else (if 0 ≤ t159 then (if t159 ≤ (wrap64 (t159 + t158)) then (if (wrap64 (t159 + t158)) ≤ (l0.length : Int) then (some (strOfNums ((l0.take ((wrap64 (t159 + t158)) : Int).toNat).drop (t159 : Int).toNat), wrap64 (t159 + t158), true)) else (none)) else (none)) else (none)))) = some (r1, r2, r3) := by rw [if_pos rfl] at H; exact H
    clear H
    have H := H1
    clear H1
    by_cases c5 : t158 < 0
    · rw [if_pos c5] at H
      have c5b0 : decide (t158 < 0) = true := decide_eq_true c5
      clear c5
      simp only [Option.some.injEq, Prod.mk.injEq] at H
      obtain ⟨rfl, rfl, rfl⟩ := H
      go_enter Try.func113, Try.ntmps113
      go_wp2_with (first | ((with_reducible refine gate_callee (f := 112) rfl ?_); refine goesL_ (some 13) rfl rfl Try.func112 (by kernel_rfl) rfl #[.slice A0 l0.length c0, .int .i64 a1] rfl (by (try simp only [List.map_toArray, List.map_cons, List.map_nil]); first | done | rfl | (simp only [List.length_drop, List.length_take]; rfl)) ?_; (with_reducible refine (impl_GetNum.calls k _ _ l0 a1 t158 t159 true _ ?side1 ?side2 A3.out).mono ?_); (case side1 => repeat (first | exact HR0.out | (with_reducible refine Kd.C_alloc ?_ _) | (with_reducible refine Kd.C_drewN ?_ _) | (with_reducible refine Kd.C_drew ?_))); (case side2 => exact HC0.out); rintro e w' ⟨rfl, ⟨nd, rfl⟩⟩; refine ⟨_, rfl, ?_⟩))
      go_ret3
      exact ⟨by first | rfl | (simp; done) | (simp [*]; done), by repeat (first | exact Drawn0.refl _ | apply Drawn0.step)⟩
    · rw [if_neg c5] at H
      have c5b0 : decide (t158 < 0) = false := decide_eq_false c5
      clear c5
      by_cases c6 : t158 > (wrap64 ((l0.length : Int) - t159))
      · rw [if_pos c6] at H
        have c6b0 : decide ((wrap64 ((l0.length : Int) - t159)) < t158) = true := decide_eq_true c6
        clear c6
        simp only [Option.some.injEq, Prod.mk.injEq] at H
        obtain ⟨rfl, rfl, rfl⟩ := H
        go_enter Try.func113, Try.ntmps113
        go_wp2_with (first | ((with_reducible refine gate_callee (f := 112) rfl ?_); refine goesL_ (some 13) rfl rfl Try.func112 (by kernel_rfl) rfl #[.slice A0 l0.length c0, .int .i64 a1] rfl (by (try simp only [List.map_toArray, List.map_cons, List.map_nil]); first | done | rfl | (simp only [List.length_drop, List.length_take]; rfl)) ?_; (with_reducible refine (impl_GetNum.calls k _ _ l0 a1 t158 t159 true _ ?side1 ?side2 A3.out).mono ?_); (case side1 => repeat (first | exact HR0.out | (with_reducible refine Kd.C_alloc ?_ _) | (with_reducible refine Kd.C_drewN ?_ _) | (with_reducible refine Kd.C_drew ?_))); (case side2 => exact HC0.out); rintro e w' ⟨rfl, ⟨nd, rfl⟩⟩; refine ⟨_, rfl, ?_⟩))
        go_ret3
        exact ⟨by first | rfl | (simp; done) | (simp [*]; done), by repeat (first | exact Drawn0.refl _ | apply Drawn0.step)⟩
      · rw [if_neg c6] at H
        have c6b0 : decide ((wrap64 ((l0.length : Int) - t159)) < t158) = false := decide_eq_false c6
        clear c6
        by_cases c7 : 0 ≤ t159
        · rw [if_pos c7] at H
          have c7b0 := eq_true c7
          have c7b1 : decide (0 ≤ t159) = true := decide_eq_true c7
          clear c7
          by_cases c8 : t159 ≤ (wrap64 (t159 + t158))
          · rw [if_pos c8] at H
            have c8b0 := eq_true c8
            have c8b1 : decide (t159 ≤ (wrap64 (t159 + t158))) = true := decide_eq_true c8
            by_cases c9 : (wrap64 (t159 + t158)) ≤ (l0.length : Int)
            · rw [if_pos c9] at H
              have c9b0 := eq_true c9
              have c9b1 : decide ((wrap64 (t159 + t158)) ≤ (l0.length : Int)) = true := decide_eq_true c9
              simp only [Option.some.injEq, Prod.mk.injEq] at H
              obtain ⟨rfl, rfl, rfl⟩ := H
              go_enter Try.func113, Try.ntmps113
              go_wp2_with (first | ((with_reducible refine gate_callee (f := 112) rfl ?_); refine goesL_ (some 13) rfl rfl Try.func112 (by kernel_rfl) rfl #[.slice A0 l0.length c0, .int .i64 a1] rfl (by (try simp only [List.map_toArray, List.map_cons, List.map_nil]); first | done | rfl | (simp only [List.length_drop, List.length_take]; rfl)) ?_; (with_reducible refine (impl_GetNum.calls k _ _ l0 a1 t158 t159 true _ ?side1 ?side2 A3.out).mono ?_); (case side1 => repeat (first | exact HR0.out | (with_reducible refine Kd.C_alloc ?_ _) | (with_reducible refine Kd.C_drewN ?_ _) | (with_reducible refine Kd.C_drew ?_))); (case side2 => exact HC0.out); rintro e w' ⟨rfl, ⟨nd, rfl⟩⟩; refine ⟨_, rfl, ?_⟩; obtain ⟨i010, hi010, _, hsz10, _⟩ := info_parts info5; obtain ⟨A10, hcut10, hA10, hC10⟩ := print_mid_of (P := Try.prog) (Value.int .u8) 0 22 5 .i64 .i64 Try.underlying22 hi010 hsz10 A0 c0 l0 t159 (wrap64 (t159 + t158)) (of_decide_eq_true (by first | (with_reducible assumption) | assumption)) (by first | omega | exact of_decide_eq_true (by first | (with_reducible assumption) | assumption)) (of_decide_eq_true (by first | (with_reducible assumption) | assumption)) HC0.out; have HR161 := Aside0.mk (Kd.C_of_reads (h1 := fun _ => rfl) (hA10 _ (Kd.reads_of_C HR0.out))); have HC161 := Aside0.mk hC10; clear hA10 hC10 hi010 hsz10; have he11 : (((l0.take ((wrap64 (t159 + t158)) : Int).toNat).drop (t159 : Int).toNat)).length = ((wrap64 (t159 + t158)) : Int).toNat - (t159 : Int).toNat := (by rw [List.length_drop, List.length_take]; omega); have hs11 := HR161.out; rw [he11] at hs11; have hcv11 := fun (nd_ : Nat) => Kd.C_string (P := Try.prog) (A := A10) (c := (c0 - t159.toNat)) Try.underlying22 Try.underlying5 Try.underlying9 (Kd.C_drewN hs11 nd_); clear hs11 he11))
              go_ret3
              exact ⟨by first | rfl | (simp; done) | (simp [*]; done), by repeat (first | exact Drawn0.refl _ | apply Drawn0.step)⟩
            · rw [if_neg c9] at H
              exact absurd H (by simp)
          · rw [if_neg c8] at H
            exact absurd H (by simp)
        · rw [if_neg c7] at H
          exact absurd H (by simp)
  · replace c4 := Bool.eq_false_iff.mpr c4
    subst c4
    have H1 : (some ((⟨#[]⟩ : ByteArray), 0, false)) = some (r1, r2, r3) := by rw [if_neg (show ¬ (false = true) by decide)] at H; exact H
    clear H
    have H := H1
    clear H1
    simp only [Option.some.injEq, Prod.mk.injEq] at H
    obtain ⟨rfl, rfl, rfl⟩ := H
    go_enter Try.func113, Try.ntmps113
    go_wp2_with (first | ((with_reducible refine gate_callee (f := 112) rfl ?_); refine goesL_ (some 13) rfl rfl Try.func112 (by kernel_rfl) rfl #[.slice A0 l0.length c0, .int .i64 a1] rfl (by (try simp only [List.map_toArray, List.map_cons, List.map_nil]); first | done | rfl | (simp only [List.length_drop, List.length_take]; rfl)) ?_; (with_reducible refine (impl_GetNum.calls k _ _ l0 a1 t158 t159 false _ ?side1 ?side2 A3.out).mono ?_); (case side1 => repeat (first | exact HR0.out | (with_reducible refine Kd.C_alloc ?_ _) | (with_reducible refine Kd.C_drewN ?_ _) | (with_reducible refine Kd.C_drew ?_))); (case side2 => exact HC0.out); rintro e w' ⟨rfl, ⟨nd, rfl⟩⟩; refine ⟨_, rfl, ?_⟩))
    go_ret3
    exact ⟨by first | rfl | (simp; done) | (simp [*]; done), by repeat (first | exact Drawn0.refl _ | apply Drawn0.step)⟩

-- NOT PRINTED: function 98 (impl_getter_text)

-- NOT PRINTED: function 62 (impl_getter_tx)

/-! ### impl_GetTx: function 17 -/
/-- The getter lies in block g. -/
def GAt (g : Nat) (A : Option Addr) (n c : Nat) (at_ : Int) (bad : Bool) (w : World) : Prop := w.heap[g]? = some (.cells #[.slice A n c, .int .i64 at_, .bool bad] 91 (0, 0))
theorem GAt.alloc {g : Nat} {A : Option Addr} {n c : Nat} {at_ : Int} {bad : Bool} {w : World} (h : GAt g A n c at_ bad w) (o : Obj) : GAt g A n c at_ bad (w.alloc o) := (Lib.alloc_old w o g (Array.getElem?_eq_some_iff.1 h).1).trans h
theorem GAt.far {g : Nat} {A : Option Addr} {n c : Nat} {at_ : Int} {bad : Bool} {w : World} (h : GAt g A n c at_ bad w) (p : Addr) (v : Value) (hp : p.block ≠ g) : GAt g A n c at_ bad (w.setCell p v) := (Below.heap_setCell w p v g (fun e => hp e.symm)).trans h
theorem GAt.set1 {g : Nat} {A : Option Addr} {n c : Nat} {at_ : Int} {bad : Bool} {w : World} (h : GAt g A n c at_ bad w) (m : Nat) (x : Int) : GAt g A n c x bad ((w.drewN m).setCell ⟨g, 1, none⟩ (.int .i64 x)) := by
  unfold GAt at h ⊢
  simp [World.setCell, Array.getElem?_modify, h]
theorem GAt.set2 {g : Nat} {A : Option Addr} {n c : Nat} {at_ : Int} {bad : Bool} {w : World} (h : GAt g A n c at_ bad w) (m : Nat) (x : Bool) : GAt g A n c at_ x ((w.drewN m).setCell ⟨g, 2, none⟩ (.bool x)) := by
  unfold GAt at h ⊢
  simp [World.setCell, Array.getElem?_modify, h]
theorem GAt.put2 {g : Nat} {A : Option Addr} {n c : Nat} {at_ : Int} {bad : Bool} {w : World} (h : GAt g A n c at_ bad w) (x : Bool) : GAt g A n c at_ x (w.setCell ⟨g, 2, none⟩ (.bool x)) := by
  unfold GAt at h ⊢
  simp [World.setCell, Array.getElem?_modify, h]
def OnlyG (g : Nat) (w w' : World) : Prop := w'.heap.size = w.heap.size ∧ ∀ i, i ≠ g → w'.heap[i]? = w.heap[i]?
theorem onlyG_set (g j m : Nat) (w : World) (v : Value) : OnlyG g w ((w.drewN m).setCell ⟨g, j, none⟩ v) := ⟨by simp [World.setCell, World.drewN], fun i hi => Below.heap_setCell (w.drewN m) ⟨g, j, none⟩ v i hi⟩
def gnumS (k : Nat) (b : List Int) (at_ : Int) (bad : Bool) : Option (Int × Int × Bool) := (impl_GetNum.f k b at_).bind fun r => if bad = true then some ((0 : Int), at_, true) else if r.2.2 = true then some (r.1, r.2.1, false) else some ((0 : Int), at_, true)
set_option maxHeartbeats 8000000 in
set_option maxRecDepth 100000 in
theorem gnumS.calls (k : Nat) (A0 : Option Addr) (c0 : Nat) (l0 : List Int) (at_ : Int) (bad : Bool) (r1 : Int) (r2 : Int) (r3 : Bool) (g : Nat) (w0 w : World) (hr0 : Kd.C (Kd.int .u8) w0 A0 l0.length l0) (hc0 : l0.length ≤ c0)
    (hB : Below w0.heap.size w0 w) (hg : w0.heap.size ≤ g) (hG : GAt g A0 l0.length c0 at_ bad w) (h : gnumS k l0 at_ bad = some (r1, r2, r3)) :
    Calls Try.prog 97 #[.pointer (some ⟨g, 0, none⟩)] w fun e w' => e = .returned (.int .i64 r1) ∧ GAt g A0 l0.length c0 r2 r3 w' ∧ Below w0.heap.size w0 w' ∧ OnlyG g w w' := by
  unfold gnumS at h
  obtain ⟨⟨n, nx, ok⟩, hn, h⟩ := Option.bind_eq_some_iff.mp h
  have c0_ : w.cell? ⟨g, 0, none⟩ = some (.slice A0 l0.length c0) := by rw [Lib.cell_of_heap hG]; rfl
  have c1_ : w.cell? ⟨g, 1, none⟩ = some (.int .i64 at_) := by rw [Lib.cell_of_heap hG]; rfl
  have c2_ : w.cell? ⟨g, 2, none⟩ = some (.bool bad) := by rw [Lib.cell_of_heap hG]; rfl
  have f1_ : w.frozen? ⟨g, 1, none⟩ = false := Lib.frozen_of_heap hG 1
  have f2_ : w.frozen? ⟨g, 2, none⟩ = false := Lib.frozen_of_heap hG 2
  have hrw : Kd.C (Kd.int .u8) w A0 l0.length l0 := Kd.C_below hr0 hB
  cases bad with
  | true =>
    obtain ⟨rfl, rfl, rfl⟩ : (0 : Int) = r1 ∧ at_ = r2 ∧ true = r3 := by simpa using h
    go_enter Try.func97, Try.ntmps97
    go_wp2
    go_quiet ((go_at_call 112; refine (impl_GetNum.calls k A0 c0 l0 at_ n nx _ _ ?side1 hc0 hn).mono ?_; (case side1 => refine Kd.C_drewN ?_ _; exact hrw); rintro e w' ⟨rfl, ⟨nd, rfl⟩⟩; exact ⟨rfl, _, World.drewN_drewN _ _ _⟩))
    go_wp2
    go_ret
    exact ⟨rfl, hG.set2 _ _, below_set (pw_below_drewN hB _) hg, onlyG_set _ _ _ _ _⟩
  | false =>
    cases ok with
    | true =>
      obtain ⟨rfl, rfl, rfl⟩ : n = r1 ∧ nx = r2 ∧ false = r3 := by simpa using h
      go_enter Try.func97, Try.ntmps97
      go_wp2
      go_quiet ((go_at_call 112; refine (impl_GetNum.calls k A0 c0 l0 at_ n nx _ _ ?side1 hc0 hn).mono ?_; (case side1 => refine Kd.C_drewN ?_ _; exact hrw); rintro e w' ⟨rfl, ⟨nd, rfl⟩⟩; exact ⟨rfl, _, World.drewN_drewN _ _ _⟩))
      go_wp2
      go_ret
      exact ⟨rfl, hG.set1 _ _, below_set (pw_below_drewN hB _) hg, onlyG_set _ _ _ _ _⟩
    | false =>
      obtain ⟨rfl, rfl, rfl⟩ : (0 : Int) = r1 ∧ at_ = r2 ∧ true = r3 := by simpa using h
      go_enter Try.func97, Try.ntmps97
      go_wp2
      go_quiet ((go_at_call 112; refine (impl_GetNum.calls k A0 c0 l0 at_ n nx _ _ ?side1 hc0 hn).mono ?_; (case side1 => refine Kd.C_drewN ?_ _; exact hrw); rintro e w' ⟨rfl, ⟨nd, rfl⟩⟩; exact ⟨rfl, _, World.drewN_drewN _ _ _⟩))
      go_wp2
      go_ret
      exact ⟨rfl, hG.set2 _ _, below_set (pw_below_drewN hB _) hg, onlyG_set _ _ _ _ _⟩
def gtextS (k : Nat) (b : List Int) (at_ : Int) (bad : Bool) : Option (ByteArray × Int × Bool) := (impl_GetText.f k b at_).bind fun r => if bad = true then some ((⟨#[]⟩ : ByteArray), at_, true) else if r.2.2 = true then some (r.1, r.2.1, false) else some ((⟨#[]⟩ : ByteArray), at_, true)
set_option maxHeartbeats 8000000 in
set_option maxRecDepth 100000 in
theorem gtextS.calls (k : Nat) (A0 : Option Addr) (c0 : Nat) (l0 : List Int) (at_ : Int) (bad : Bool) (r1 : ByteArray) (r2 : Int) (r3 : Bool) (g : Nat) (w0 w : World) (hr0 : Kd.C (Kd.int .u8) w0 A0 l0.length l0) (hc0 : l0.length ≤ c0)
    (hB : Below w0.heap.size w0 w) (hg : w0.heap.size ≤ g) (hG : GAt g A0 l0.length c0 at_ bad w) (h : gtextS k l0 at_ bad = some (r1, r2, r3)) :
    Calls Try.prog 98 #[.pointer (some ⟨g, 0, none⟩)] w fun e w' => e = .returned (.string r1) ∧ GAt g A0 l0.length c0 r2 r3 w' ∧ Below w0.heap.size w0 w' ∧ OnlyG g w w' := by
  unfold gtextS at h
  obtain ⟨⟨n, nx, ok⟩, hn, h⟩ := Option.bind_eq_some_iff.mp h
  have c0_ : w.cell? ⟨g, 0, none⟩ = some (.slice A0 l0.length c0) := by rw [Lib.cell_of_heap hG]; rfl
  have c1_ : w.cell? ⟨g, 1, none⟩ = some (.int .i64 at_) := by rw [Lib.cell_of_heap hG]; rfl
  have c2_ : w.cell? ⟨g, 2, none⟩ = some (.bool bad) := by rw [Lib.cell_of_heap hG]; rfl
  have f1_ : w.frozen? ⟨g, 1, none⟩ = false := Lib.frozen_of_heap hG 1
  have f2_ : w.frozen? ⟨g, 2, none⟩ = false := Lib.frozen_of_heap hG 2
  have hrw : Kd.C (Kd.int .u8) w A0 l0.length l0 := Kd.C_below hr0 hB
  cases bad with
  | true =>
    obtain ⟨rfl, rfl, rfl⟩ : (⟨#[]⟩ : ByteArray) = r1 ∧ at_ = r2 ∧ true = r3 := by simpa using h
    go_enter Try.func98, Try.ntmps98
    go_wp2
    go_quiet ((go_at_call 113; refine (impl_GetText.calls k A0 c0 l0 at_ n nx _ _ ?side1 hc0 hn).mono ?_; (case side1 => refine Kd.C_drewN ?_ _; exact hrw); rintro e w' ⟨rfl, ⟨nd, rfl⟩⟩; exact ⟨rfl, _, World.drewN_drewN _ _ _⟩))
    go_wp2
    go_ret
    exact ⟨rfl, hG.set2 _ _, below_set (pw_below_drewN hB _) hg, onlyG_set _ _ _ _ _⟩
  | false =>
    cases ok with
    | true =>
      obtain ⟨rfl, rfl, rfl⟩ : n = r1 ∧ nx = r2 ∧ false = r3 := by simpa using h
      go_enter Try.func98, Try.ntmps98
      go_wp2
      go_quiet ((go_at_call 113; refine (impl_GetText.calls k A0 c0 l0 at_ n nx _ _ ?side1 hc0 hn).mono ?_; (case side1 => refine Kd.C_drewN ?_ _; exact hrw); rintro e w' ⟨rfl, ⟨nd, rfl⟩⟩; exact ⟨rfl, _, World.drewN_drewN _ _ _⟩))
      go_wp2
      go_ret
      exact ⟨rfl, hG.set1 _ _, below_set (pw_below_drewN hB _) hg, onlyG_set _ _ _ _ _⟩
    | false =>
      obtain ⟨rfl, rfl, rfl⟩ : (⟨#[]⟩ : ByteArray) = r1 ∧ at_ = r2 ∧ true = r3 := by simpa using h
      go_enter Try.func98, Try.ntmps98
      go_wp2
      go_quiet ((go_at_call 113; refine (impl_GetText.calls k A0 c0 l0 at_ n nx _ _ ?side1 hc0 hn).mono ?_; (case side1 => refine Kd.C_drewN ?_ _; exact hrw); rintro e w' ⟨rfl, ⟨nd, rfl⟩⟩; exact ⟨rfl, _, World.drewN_drewN _ _ _⟩))
      go_wp2
      go_ret
      exact ⟨rfl, hG.set2 _ _, below_set (pw_below_drewN hB _) hg, onlyG_set _ _ _ _ _⟩
/-- The order lies in block b. -/
def XAt (b : Nat) (kd : Int) (fr tt : ByteArray) (am no : Int) (w : World) : Prop := w.heap[b]? = some (.cells #[.int .i64 kd, .string fr, .string tt, .int .i64 am, .int .i64 no] 24 (0, 0))
theorem XAt.old {b : Nat} {kd : Int} {fr tt : ByteArray} {am no : Int} {w : World} (h : XAt b kd fr tt am no w) (o : Obj) : XAt b kd fr tt am no (w.alloc o) := (Lib.alloc_old w o b (Array.getElem?_eq_some_iff.1 h).1).trans h
theorem XAt.new (kd : Int) (fr tt : ByteArray) (am no : Int) (w : World) : XAt w.heap.size kd fr tt am no (w.alloc (.cells #[.int .i64 kd, .string fr, .string tt, .int .i64 am, .int .i64 no] 24)) := heap_alloc_new w _
theorem XAt.far {b : Nat} {kd : Int} {fr tt : ByteArray} {am no : Int} {w : World} (h : XAt b kd fr tt am no w) (p : Addr) (v : Value) (hp : b ≠ p.block) : XAt b kd fr tt am no (w.setCell p v) := (Below.heap_setCell w p v b hp).trans h
theorem XAt.s0 {b : Nat} {kd : Int} {fr tt : ByteArray} {am no : Int} {w : World} (h : XAt b kd fr tt am no w) (x : Int) : XAt b x fr tt am no (w.setCell ⟨b, 0, none⟩ (.int .i64 x)) := by
  unfold XAt at h ⊢
  simp [World.setCell, Array.getElem?_modify, h]
theorem XAt.s1 {b : Nat} {kd : Int} {fr tt : ByteArray} {am no : Int} {w : World} (h : XAt b kd fr tt am no w) (x : ByteArray) : XAt b kd x tt am no (w.setCell ⟨b, 1, none⟩ (.string x)) := by
  unfold XAt at h ⊢
  simp [World.setCell, Array.getElem?_modify, h]
theorem XAt.s2 {b : Nat} {kd : Int} {fr tt : ByteArray} {am no : Int} {w : World} (h : XAt b kd fr tt am no w) (x : ByteArray) : XAt b kd fr x am no (w.setCell ⟨b, 2, none⟩ (.string x)) := by
  unfold XAt at h ⊢
  simp [World.setCell, Array.getElem?_modify, h]
theorem XAt.s3 {b : Nat} {kd : Int} {fr tt : ByteArray} {am no : Int} {w : World} (h : XAt b kd fr tt am no w) (x : Int) : XAt b kd fr tt x no (w.setCell ⟨b, 3, none⟩ (.int .i64 x)) := by
  unfold XAt at h ⊢
  simp [World.setCell, Array.getElem?_modify, h]
theorem XAt.s4 {b : Nat} {kd : Int} {fr tt : ByteArray} {am no : Int} {w : World} (h : XAt b kd fr tt am no w) (x : Int) : XAt b kd fr tt am x (w.setCell ⟨b, 4, none⟩ (.int .i64 x)) := by
  unfold XAt at h ⊢
  simp [World.setCell, Array.getElem?_modify, h]
theorem XAt.below {b : Nat} {kd : Int} {fr tt : ByteArray} {am no : Int} {w w' : World} (h : XAt b kd fr tt am no w) (hb : Below w.heap.size w w') : XAt b kd fr tt am no w' := (hb.block b (Array.getElem?_eq_some_iff.1 h).1).trans h
theorem GAt.below {g : Nat} {A : Option Addr} {n c : Nat} {at_ : Int} {bad : Bool} {w w' : World} (h : GAt g A n c at_ bad w) (hb : Below w.heap.size w w') : GAt g A n c at_ bad w' := (hb.block g (Array.getElem?_eq_some_iff.1 h).1).trans h
theorem size_setCell (w : World) (p : Addr) (v : Value) : (w.setCell p v).heap.size = w.heap.size := by simp [World.setCell]
theorem XAt.only {b g : Nat} {kd : Int} {fr tt : ByteArray} {am no : Int} {w w' : World} (h : XAt b kd fr tt am no w) (ho : OnlyG g w w') (hne : b ≠ g) : XAt b kd fr tt am no w' := (ho.2 b hne).trans h
theorem results_cell1 {P : Program} {fn : Func} {p : Tmp} {ty : TypeId} (h : fn.results = #[.cell p ty]) (tmps : Array Value) (w : World) (g : Nat) (t : TypeId) (cs : Array Value) (fr : Nat × Nat) (d : TypeDesc)
    (hp : tmps.getD p undef = .pointer (some ⟨g, 0, none⟩)) (hg : w.heap[g]? = some (.cells cs t fr))
    (hu : P.underlying ty = some d) (hd : (match d with | .struct _ | .array _ _ => true | _ => false) = true) (hi : (P.info? ty).map (·.size) = some cs.size) :
    (results fn tmps).run P w = .ok (.agg cs) w := by
  have hp' : tmps[p]?.getD undef = .pointer (some ⟨g, 0, none⟩) := by simpa using hp
  simp [results, h, hp', asAddr, run_loadVar_row w g t ty cs fr d hg hu hd hi]
def gtxS (k : Nat) (b : List Int) (at_ : Int) (bad : Bool) : Option (Int × ByteArray × ByteArray × Int × Int × Int × Bool) := (gnumS k b at_ bad).bind fun x1 => (gtextS k b x1.2.1 x1.2.2).bind fun x2 => (gtextS k b x2.2.1 x2.2.2).bind fun x3 => (gnumS k b x3.2.1 x3.2.2).bind fun x4 => (gnumS k b x4.2.1 x4.2.2).bind fun x5 =>
  (impl_TxOk.f k x1.1 x2.1 x3.1 x4.1 x5.1).bind fun o => some (x1.1, x2.1, x3.1, x4.1, x5.1, x5.2.1, if o = true then x5.2.2 else true)
set_option maxHeartbeats 8000000 in
set_option maxRecDepth 100000 in
theorem gtxS.calls (k : Nat) (A0 : Option Addr) (c0 : Nat) (l0 : List Int) (at_ : Int) (bad : Bool) (r1 : Int) (r2 r3 : ByteArray) (r4 r5 r6 : Int) (r7 : Bool) (g : Nat) (w0 w : World) (hr0 : Kd.C (Kd.int .u8) w0 A0 l0.length l0) (hc0 : l0.length ≤ c0)
    (hB : Below w0.heap.size w0 w) (hg : w0.heap.size ≤ g) (hG : GAt g A0 l0.length c0 at_ bad w) (h : gtxS k l0 at_ bad = some (r1, r2, r3, r4, r5, r6, r7)) :
    Calls Try.prog 62 #[.pointer (some ⟨g, 0, none⟩)] w fun e w' => e = .returned (.agg #[.int .i64 r1, .string r2, .string r3, .int .i64 r4, .int .i64 r5]) ∧ GAt g A0 l0.length c0 r6 r7 w' ∧ Below w0.heap.size w0 w' ∧ w.heap.size ≤ w'.heap.size ∧ ∀ i, i < w.heap.size → i ≠ g → w'.heap[i]? = w.heap[i]? := by
  have hgw : g < w.heap.size := (Array.getElem?_eq_some_iff.1 hG).1
  unfold gtxS at h
  obtain ⟨⟨x1, p1, b1⟩, h1, h⟩ := Option.bind_eq_some_iff.mp h
  obtain ⟨⟨x2, p2, b2⟩, h2, h⟩ := Option.bind_eq_some_iff.mp h
  obtain ⟨⟨x3, p3, b3⟩, h3, h⟩ := Option.bind_eq_some_iff.mp h
  obtain ⟨⟨x4, p4, b4⟩, h4, h⟩ := Option.bind_eq_some_iff.mp h
  obtain ⟨⟨x5, p5, b5⟩, h5, h⟩ := Option.bind_eq_some_iff.mp h
  obtain ⟨o, h6, h⟩ := Option.bind_eq_some_iff.mp h
  dsimp only at h2 h3 h4 h5 h6 h
  have hsz0 : w0.heap.size ≤ w.heap.size := hB.size
  have ne1 : ¬ g = w.heap.size + 1 := by omega
  have ne2 : ¬ w.heap.size + 1 = g := by omega
  have ne3 : ¬ g = w.heap.size := by omega
  have ne4 : ¬ w.heap.size = g := by omega
  cases o with
  | true =>
    simp only [if_true, Option.some.injEq, Prod.mk.injEq] at h
    obtain ⟨rfl, rfl, rfl, rfl, rfl, rfl, rfl⟩ := h
    go_enter Try.func62, Try.ntmps62
    go_wp2_with (go_at_call 97; refine (gnumS.calls k A0 c0 l0 at_ bad x1 p1 b1 g w0 _ hr0 hc0 (below_alloc hB _) hg (hG.alloc _) h1).mono ?_; rintro e w1 ⟨rfl, hG1, hB1, hO1⟩; have s1 : w1.heap.size = w.heap.size + 1 := (by have h_ := hO1.1; simp only [World.size_alloc] at h_; omega); have hR1 : XAt w.heap.size 0 (⟨#[]⟩ : ByteArray) (⟨#[]⟩ : ByteArray) 0 0 w1 := (XAt.new _ _ _ _ _ w).only hO1 (by omega))
    go_wp2_with (go_at_call 98; refine (gtextS.calls k A0 c0 l0 p1 b1 x2 p2 b2 g w0 _ hr0 hc0 (below_alloc hB1 _) hg (hG1.alloc _) h2).mono ?_; rintro e w2 ⟨rfl, hG2, hB2, hO2⟩; have s2 : w2.heap.size = w.heap.size + 2 := (by have h_ := hO2.1; simp only [World.size_alloc] at h_; omega); have hR2 : XAt w.heap.size 0 (⟨#[]⟩ : ByteArray) (⟨#[]⟩ : ByteArray) 0 0 w2 := (hR1.old _).only hO2 (by omega); have hX2 : XAt (w.heap.size + 1) x1 (⟨#[]⟩ : ByteArray) (⟨#[]⟩ : ByteArray) 0 0 w2 := (by rw [← s1]; exact (XAt.new _ _ _ _ _ w1).only hO2 (by omega)); have f2 : w2.frozen? ⟨w.heap.size + 1, 1, none⟩ = false := Lib.frozen_of_heap hX2 1; have d2 : w2.cell? ⟨w.heap.size + 1, 1, none⟩ = some (.string ⟨#[]⟩) := (by rw [Lib.cell_of_heap hX2]; rfl))
    go_wp2_with (go_at_call 98; refine (gtextS.calls k A0 c0 l0 p2 b2 x3 p3 b3 g w0 _ hr0 hc0 (below_set hB2 (by omega)) hg (hG2.far _ _ (by show w.heap.size + 1 ≠ g; omega)) h3).mono ?_; rintro e w3 ⟨rfl, hG3, hB3, hO3⟩; have s3 : w3.heap.size = w.heap.size + 2 := (by have h_ := hO3.1; simp only [size_setCell] at h_; omega); have hR3 : XAt w.heap.size 0 (⟨#[]⟩ : ByteArray) (⟨#[]⟩ : ByteArray) 0 0 w3 := (hR2.far _ _ (by show w.heap.size ≠ w.heap.size + 1; omega)).only hO3 (by omega); have hX3 : XAt (w.heap.size + 1) x1 x2 (⟨#[]⟩ : ByteArray) 0 0 w3 := (hX2.s1 x2).only hO3 (by omega); have f3 : w3.frozen? ⟨w.heap.size + 1, 2, none⟩ = false := Lib.frozen_of_heap hX3 2; have d3 : w3.cell? ⟨w.heap.size + 1, 2, none⟩ = some (.string ⟨#[]⟩) := (by rw [Lib.cell_of_heap hX3]; rfl))
    go_wp2_with (go_at_call 97; refine (gnumS.calls k A0 c0 l0 p3 b3 x4 p4 b4 g w0 _ hr0 hc0 (below_set hB3 (by omega)) hg (hG3.far _ _ (by show w.heap.size + 1 ≠ g; omega)) h4).mono ?_; rintro e w4 ⟨rfl, hG4, hB4, hO4⟩; have s4 : w4.heap.size = w.heap.size + 2 := (by have h_ := hO4.1; simp only [size_setCell] at h_; omega); have hR4 : XAt w.heap.size 0 (⟨#[]⟩ : ByteArray) (⟨#[]⟩ : ByteArray) 0 0 w4 := (hR3.far _ _ (by show w.heap.size ≠ w.heap.size + 1; omega)).only hO4 (by omega); have hX4 : XAt (w.heap.size + 1) x1 x2 x3 0 0 w4 := (hX3.s2 x3).only hO4 (by omega); have f4 : w4.frozen? ⟨w.heap.size + 1, 3, none⟩ = false := Lib.frozen_of_heap hX4 3; have d4 : w4.cell? ⟨w.heap.size + 1, 3, none⟩ = some (.int .i64 0) := (by rw [Lib.cell_of_heap hX4]; rfl))
    go_wp2_with (go_at_call 97; refine (gnumS.calls k A0 c0 l0 p4 b4 x5 p5 b5 g w0 _ hr0 hc0 (below_set hB4 (by omega)) hg (hG4.far _ _ (by show w.heap.size + 1 ≠ g; omega)) h5).mono ?_; rintro e w5 ⟨rfl, hG5, hB5, hO5⟩; have s5 : w5.heap.size = w.heap.size + 2 := (by have h_ := hO5.1; simp only [size_setCell] at h_; omega); have hR5 : XAt w.heap.size 0 (⟨#[]⟩ : ByteArray) (⟨#[]⟩ : ByteArray) 0 0 w5 := (hR4.far _ _ (by show w.heap.size ≠ w.heap.size + 1; omega)).only hO5 (by omega); have hX5 : XAt (w.heap.size + 1) x1 x2 x3 x4 0 w5 := (hX4.s3 x4).only hO5 (by omega); have f5 : w5.frozen? ⟨w.heap.size + 1, 4, none⟩ = false := Lib.frozen_of_heap hX5 4; have d5 : w5.cell? ⟨w.heap.size + 1, 4, none⟩ = some (.int .i64 0) := (by rw [Lib.cell_of_heap hX5]; rfl); have hX5' := hX5.s4 x5; have e50 : (w5.setCell ⟨w.heap.size + 1, 4, none⟩ (.int .i64 x5)).cell? ⟨w.heap.size + 1, 0, none⟩ = some (.int .i64 x1) := (by rw [Lib.cell_of_heap hX5']; rfl); have e51 : (w5.setCell ⟨w.heap.size + 1, 4, none⟩ (.int .i64 x5)).cell? ⟨w.heap.size + 1, 1, none⟩ = some (.string x2) := (by rw [Lib.cell_of_heap hX5']; rfl); have e52 : (w5.setCell ⟨w.heap.size + 1, 4, none⟩ (.int .i64 x5)).cell? ⟨w.heap.size + 1, 2, none⟩ = some (.string x3) := (by rw [Lib.cell_of_heap hX5']; rfl); have e53 : (w5.setCell ⟨w.heap.size + 1, 4, none⟩ (.int .i64 x5)).cell? ⟨w.heap.size + 1, 3, none⟩ = some (.int .i64 x4) := (by rw [Lib.cell_of_heap hX5']; rfl); have e54 : (w5.setCell ⟨w.heap.size + 1, 4, none⟩ (.int .i64 x5)).cell? ⟨w.heap.size + 1, 4, none⟩ = some (.int .i64 x5) := (by rw [Lib.cell_of_heap hX5']; rfl))
    go_wp2_with (go_at_call 93; refine (impl_TxOk.calls k x1 x2 x3 x4 x5 true _ h6).mono ?_; rintro e w6 ⟨rfl, hB6⟩; have hX6 := hX5'.below hB6; have hR6 := (hR5.far ⟨w.heap.size + 1, 4, none⟩ (.int .i64 x5) (by show w.heap.size ≠ w.heap.size + 1; omega)).below hB6; have hG6 := (hG5.far ⟨w.heap.size + 1, 4, none⟩ (.int .i64 x5) (by show w.heap.size + 1 ≠ g; omega)).below hB6; have q0 : w6.cell? ⟨w.heap.size + 1, 0, none⟩ = some (.int .i64 x1) := (by rw [Lib.cell_of_heap hX6]; rfl); have q1 : w6.cell? ⟨w.heap.size + 1, 1, none⟩ = some (.string x2) := (by rw [Lib.cell_of_heap hX6]; rfl); have q2 : w6.cell? ⟨w.heap.size + 1, 2, none⟩ = some (.string x3) := (by rw [Lib.cell_of_heap hX6]; rfl); have q3 : w6.cell? ⟨w.heap.size + 1, 3, none⟩ = some (.int .i64 x4) := (by rw [Lib.cell_of_heap hX6]; rfl); have q4 : w6.cell? ⟨w.heap.size + 1, 4, none⟩ = some (.int .i64 x5) := (by rw [Lib.cell_of_heap hX6]; rfl); have z0 : w6.frozen? ⟨w.heap.size, 0, none⟩ = false := Lib.frozen_of_heap hR6 0; have z1 : w6.frozen? ⟨w.heap.size, 1, none⟩ = false := Lib.frozen_of_heap hR6 1; have z2 : w6.frozen? ⟨w.heap.size, 2, none⟩ = false := Lib.frozen_of_heap hR6 2; have z3 : w6.frozen? ⟨w.heap.size, 3, none⟩ = false := Lib.frozen_of_heap hR6 3; have z4 : w6.frozen? ⟨w.heap.size, 4, none⟩ = false := Lib.frozen_of_heap hR6 4; have y0 : w6.cell? ⟨w.heap.size, 0, none⟩ = some (.int .i64 0) := (by rw [Lib.cell_of_heap hR6]; rfl); have y1 : w6.cell? ⟨w.heap.size, 1, none⟩ = some (.string ⟨#[]⟩) := (by rw [Lib.cell_of_heap hR6]; rfl); have y2 : w6.cell? ⟨w.heap.size, 2, none⟩ = some (.string ⟨#[]⟩) := (by rw [Lib.cell_of_heap hR6]; rfl); have y3 : w6.cell? ⟨w.heap.size, 3, none⟩ = some (.int .i64 0) := (by rw [Lib.cell_of_heap hR6]; rfl); have y4 : w6.cell? ⟨w.heap.size, 4, none⟩ = some (.int .i64 0) := (by rw [Lib.cell_of_heap hR6]; rfl); have zg : w6.frozen? ⟨g, 2, none⟩ = false := Lib.frozen_of_heap hG6 2; have cg : w6.cell? ⟨g, 2, none⟩ = some (.bool b5) := (by rw [Lib.cell_of_heap hG6]; rfl))
    refine bodyPost_ret (results_cell1 rfl _ _ w.heap.size 24 #[.int .i64 x1, .string x2, .string x3, .int .i64 x4, .int .i64 x5] (0, 0) _ rfl (((((hR6.s0 x1).s1 x2).s2 x3).s3 x4).s4 x5) Try.underlying24 rfl (by kernel_rfl)) rfl ?_
    refine ⟨rfl, ?_, ?_, ?_, ?_⟩
    · repeat (refine GAt.far ?_ _ _ (by show w.heap.size ≠ g; omega))
      exact hG6
    · repeat (refine below_set ?_ (by omega))
      exact below_step (below_set hB5 (by omega)) hB6
    · have h6_ := hB6.size
      simp only [size_setCell] at h6_ ⊢
      omega
    · intro i hi hne
      repeat rw [Below.heap_setCell _ _ _ i (by first | (show i ≠ w.heap.size; omega) | exact hne)]
      rw [hB6.block i (by simp only [size_setCell]; omega), Below.heap_setCell _ _ _ i (by show i ≠ w.heap.size + 1; omega), hO5.2 i hne, Below.heap_setCell _ _ _ i (by show i ≠ w.heap.size + 1; omega), hO4.2 i hne, Below.heap_setCell _ _ _ i (by show i ≠ w.heap.size + 1; omega), hO3.2 i hne, Below.heap_setCell _ _ _ i (by show i ≠ w.heap.size + 1; omega), hO2.2 i hne, Lib.alloc_old _ _ i (by omega), hO1.2 i hne, Lib.alloc_old _ _ i hi]
  | false =>
    simp only [Bool.false_eq_true, if_false, Option.some.injEq, Prod.mk.injEq] at h
    obtain ⟨rfl, rfl, rfl, rfl, rfl, rfl, rfl⟩ := h
    go_enter Try.func62, Try.ntmps62
    go_wp2_with (go_at_call 97; refine (gnumS.calls k A0 c0 l0 at_ bad x1 p1 b1 g w0 _ hr0 hc0 (below_alloc hB _) hg (hG.alloc _) h1).mono ?_; rintro e w1 ⟨rfl, hG1, hB1, hO1⟩; have s1 : w1.heap.size = w.heap.size + 1 := (by have h_ := hO1.1; simp only [World.size_alloc] at h_; omega); have hR1 : XAt w.heap.size 0 (⟨#[]⟩ : ByteArray) (⟨#[]⟩ : ByteArray) 0 0 w1 := (XAt.new _ _ _ _ _ w).only hO1 (by omega))
    go_wp2_with (go_at_call 98; refine (gtextS.calls k A0 c0 l0 p1 b1 x2 p2 b2 g w0 _ hr0 hc0 (below_alloc hB1 _) hg (hG1.alloc _) h2).mono ?_; rintro e w2 ⟨rfl, hG2, hB2, hO2⟩; have s2 : w2.heap.size = w.heap.size + 2 := (by have h_ := hO2.1; simp only [World.size_alloc] at h_; omega); have hR2 : XAt w.heap.size 0 (⟨#[]⟩ : ByteArray) (⟨#[]⟩ : ByteArray) 0 0 w2 := (hR1.old _).only hO2 (by omega); have hX2 : XAt (w.heap.size + 1) x1 (⟨#[]⟩ : ByteArray) (⟨#[]⟩ : ByteArray) 0 0 w2 := (by rw [← s1]; exact (XAt.new _ _ _ _ _ w1).only hO2 (by omega)); have f2 : w2.frozen? ⟨w.heap.size + 1, 1, none⟩ = false := Lib.frozen_of_heap hX2 1; have d2 : w2.cell? ⟨w.heap.size + 1, 1, none⟩ = some (.string ⟨#[]⟩) := (by rw [Lib.cell_of_heap hX2]; rfl))
    go_wp2_with (go_at_call 98; refine (gtextS.calls k A0 c0 l0 p2 b2 x3 p3 b3 g w0 _ hr0 hc0 (below_set hB2 (by omega)) hg (hG2.far _ _ (by show w.heap.size + 1 ≠ g; omega)) h3).mono ?_; rintro e w3 ⟨rfl, hG3, hB3, hO3⟩; have s3 : w3.heap.size = w.heap.size + 2 := (by have h_ := hO3.1; simp only [size_setCell] at h_; omega); have hR3 : XAt w.heap.size 0 (⟨#[]⟩ : ByteArray) (⟨#[]⟩ : ByteArray) 0 0 w3 := (hR2.far _ _ (by show w.heap.size ≠ w.heap.size + 1; omega)).only hO3 (by omega); have hX3 : XAt (w.heap.size + 1) x1 x2 (⟨#[]⟩ : ByteArray) 0 0 w3 := (hX2.s1 x2).only hO3 (by omega); have f3 : w3.frozen? ⟨w.heap.size + 1, 2, none⟩ = false := Lib.frozen_of_heap hX3 2; have d3 : w3.cell? ⟨w.heap.size + 1, 2, none⟩ = some (.string ⟨#[]⟩) := (by rw [Lib.cell_of_heap hX3]; rfl))
    go_wp2_with (go_at_call 97; refine (gnumS.calls k A0 c0 l0 p3 b3 x4 p4 b4 g w0 _ hr0 hc0 (below_set hB3 (by omega)) hg (hG3.far _ _ (by show w.heap.size + 1 ≠ g; omega)) h4).mono ?_; rintro e w4 ⟨rfl, hG4, hB4, hO4⟩; have s4 : w4.heap.size = w.heap.size + 2 := (by have h_ := hO4.1; simp only [size_setCell] at h_; omega); have hR4 : XAt w.heap.size 0 (⟨#[]⟩ : ByteArray) (⟨#[]⟩ : ByteArray) 0 0 w4 := (hR3.far _ _ (by show w.heap.size ≠ w.heap.size + 1; omega)).only hO4 (by omega); have hX4 : XAt (w.heap.size + 1) x1 x2 x3 0 0 w4 := (hX3.s2 x3).only hO4 (by omega); have f4 : w4.frozen? ⟨w.heap.size + 1, 3, none⟩ = false := Lib.frozen_of_heap hX4 3; have d4 : w4.cell? ⟨w.heap.size + 1, 3, none⟩ = some (.int .i64 0) := (by rw [Lib.cell_of_heap hX4]; rfl))
    go_wp2_with (go_at_call 97; refine (gnumS.calls k A0 c0 l0 p4 b4 x5 p5 b5 g w0 _ hr0 hc0 (below_set hB4 (by omega)) hg (hG4.far _ _ (by show w.heap.size + 1 ≠ g; omega)) h5).mono ?_; rintro e w5 ⟨rfl, hG5, hB5, hO5⟩; have s5 : w5.heap.size = w.heap.size + 2 := (by have h_ := hO5.1; simp only [size_setCell] at h_; omega); have hR5 : XAt w.heap.size 0 (⟨#[]⟩ : ByteArray) (⟨#[]⟩ : ByteArray) 0 0 w5 := (hR4.far _ _ (by show w.heap.size ≠ w.heap.size + 1; omega)).only hO5 (by omega); have hX5 : XAt (w.heap.size + 1) x1 x2 x3 x4 0 w5 := (hX4.s3 x4).only hO5 (by omega); have f5 : w5.frozen? ⟨w.heap.size + 1, 4, none⟩ = false := Lib.frozen_of_heap hX5 4; have d5 : w5.cell? ⟨w.heap.size + 1, 4, none⟩ = some (.int .i64 0) := (by rw [Lib.cell_of_heap hX5]; rfl); have hX5' := hX5.s4 x5; have e50 : (w5.setCell ⟨w.heap.size + 1, 4, none⟩ (.int .i64 x5)).cell? ⟨w.heap.size + 1, 0, none⟩ = some (.int .i64 x1) := (by rw [Lib.cell_of_heap hX5']; rfl); have e51 : (w5.setCell ⟨w.heap.size + 1, 4, none⟩ (.int .i64 x5)).cell? ⟨w.heap.size + 1, 1, none⟩ = some (.string x2) := (by rw [Lib.cell_of_heap hX5']; rfl); have e52 : (w5.setCell ⟨w.heap.size + 1, 4, none⟩ (.int .i64 x5)).cell? ⟨w.heap.size + 1, 2, none⟩ = some (.string x3) := (by rw [Lib.cell_of_heap hX5']; rfl); have e53 : (w5.setCell ⟨w.heap.size + 1, 4, none⟩ (.int .i64 x5)).cell? ⟨w.heap.size + 1, 3, none⟩ = some (.int .i64 x4) := (by rw [Lib.cell_of_heap hX5']; rfl); have e54 : (w5.setCell ⟨w.heap.size + 1, 4, none⟩ (.int .i64 x5)).cell? ⟨w.heap.size + 1, 4, none⟩ = some (.int .i64 x5) := (by rw [Lib.cell_of_heap hX5']; rfl))
    go_wp2_with (go_at_call 93; refine (impl_TxOk.calls k x1 x2 x3 x4 x5 false _ h6).mono ?_; rintro e w6 ⟨rfl, hB6⟩; have hX6 := hX5'.below hB6; have hR6 := (hR5.far ⟨w.heap.size + 1, 4, none⟩ (.int .i64 x5) (by show w.heap.size ≠ w.heap.size + 1; omega)).below hB6; have hG6 := (hG5.far ⟨w.heap.size + 1, 4, none⟩ (.int .i64 x5) (by show w.heap.size + 1 ≠ g; omega)).below hB6; have q0 : w6.cell? ⟨w.heap.size + 1, 0, none⟩ = some (.int .i64 x1) := (by rw [Lib.cell_of_heap hX6]; rfl); have q1 : w6.cell? ⟨w.heap.size + 1, 1, none⟩ = some (.string x2) := (by rw [Lib.cell_of_heap hX6]; rfl); have q2 : w6.cell? ⟨w.heap.size + 1, 2, none⟩ = some (.string x3) := (by rw [Lib.cell_of_heap hX6]; rfl); have q3 : w6.cell? ⟨w.heap.size + 1, 3, none⟩ = some (.int .i64 x4) := (by rw [Lib.cell_of_heap hX6]; rfl); have q4 : w6.cell? ⟨w.heap.size + 1, 4, none⟩ = some (.int .i64 x5) := (by rw [Lib.cell_of_heap hX6]; rfl); have z0 : w6.frozen? ⟨w.heap.size, 0, none⟩ = false := Lib.frozen_of_heap hR6 0; have z1 : w6.frozen? ⟨w.heap.size, 1, none⟩ = false := Lib.frozen_of_heap hR6 1; have z2 : w6.frozen? ⟨w.heap.size, 2, none⟩ = false := Lib.frozen_of_heap hR6 2; have z3 : w6.frozen? ⟨w.heap.size, 3, none⟩ = false := Lib.frozen_of_heap hR6 3; have z4 : w6.frozen? ⟨w.heap.size, 4, none⟩ = false := Lib.frozen_of_heap hR6 4; have y0 : w6.cell? ⟨w.heap.size, 0, none⟩ = some (.int .i64 0) := (by rw [Lib.cell_of_heap hR6]; rfl); have y1 : w6.cell? ⟨w.heap.size, 1, none⟩ = some (.string ⟨#[]⟩) := (by rw [Lib.cell_of_heap hR6]; rfl); have y2 : w6.cell? ⟨w.heap.size, 2, none⟩ = some (.string ⟨#[]⟩) := (by rw [Lib.cell_of_heap hR6]; rfl); have y3 : w6.cell? ⟨w.heap.size, 3, none⟩ = some (.int .i64 0) := (by rw [Lib.cell_of_heap hR6]; rfl); have y4 : w6.cell? ⟨w.heap.size, 4, none⟩ = some (.int .i64 0) := (by rw [Lib.cell_of_heap hR6]; rfl); have zg : w6.frozen? ⟨g, 2, none⟩ = false := Lib.frozen_of_heap hG6 2; have cg : w6.cell? ⟨g, 2, none⟩ = some (.bool b5) := (by rw [Lib.cell_of_heap hG6]; rfl))
    refine bodyPost_ret (results_cell1 rfl _ _ w.heap.size 24 #[.int .i64 x1, .string x2, .string x3, .int .i64 x4, .int .i64 x5] (0, 0) _ rfl ((((((hR6.far ⟨g, 2, none⟩ (.bool true) ne4).s0 x1).s1 x2).s2 x3).s3 x4).s4 x5) Try.underlying24 rfl (by kernel_rfl)) rfl ?_
    refine ⟨rfl, ?_, ?_, ?_, ?_⟩
    · repeat (refine GAt.far ?_ _ _ (by show w.heap.size ≠ g; omega))
      exact hG6.put2 true
    · repeat (refine below_set ?_ (by omega))
      exact below_step (below_set hB5 (by omega)) hB6
    · have h6_ := hB6.size
      simp only [size_setCell] at h6_ ⊢
      omega
    · intro i hi hne
      repeat rw [Below.heap_setCell _ _ _ i (by first | (show i ≠ w.heap.size; omega) | exact hne)]
      rw [hB6.block i (by simp only [size_setCell]; omega), Below.heap_setCell _ _ _ i (by show i ≠ w.heap.size + 1; omega), hO5.2 i hne, Below.heap_setCell _ _ _ i (by show i ≠ w.heap.size + 1; omega), hO4.2 i hne, Below.heap_setCell _ _ _ i (by show i ≠ w.heap.size + 1; omega), hO3.2 i hne, Below.heap_setCell _ _ _ i (by show i ≠ w.heap.size + 1; omega), hO2.2 i hne, Lib.alloc_old _ _ i (by omega), hO1.2 i hne, Lib.alloc_old _ _ i hi]
def impl_GetTx.f (k : Nat) (l0 : List Int) (a1 : Int) : Option (Int × ByteArray × ByteArray × Int × Int × Int × Bool) := (gtxS k l0 a1 false).bind fun x => if x.2.2.2.2.2.2 = true then some (0, (⟨#[]⟩ : ByteArray), (⟨#[]⟩ : ByteArray), 0, 0, 0, false) else some (x.1, x.2.1, x.2.2.1, x.2.2.2.1, x.2.2.2.2.1, x.2.2.2.2.2.1, true)
theorem gnumS.mono : ∀ a0 a1 a2 k, LeO (gnumS k a0 a1 a2) (gnumS (k + 1) a0 a1 a2) := by
  intro a0 a1 a2 k
  unfold gnumS
  exact LeO.bind (impl_GetNum.mono _ _ _) (fun _ => LeO.refl _)
theorem gtextS.mono : ∀ a0 a1 a2 k, LeO (gtextS k a0 a1 a2) (gtextS (k + 1) a0 a1 a2) := by
  intro a0 a1 a2 k
  unfold gtextS
  exact LeO.bind (impl_GetText.mono _ _ _) (fun _ => LeO.refl _)
theorem impl_GetTx.mono : ∀ a0 a1 k, LeO (impl_GetTx.f k a0 a1) (impl_GetTx.f (k + 1) a0 a1) := by
  intro a0 a1 k
  unfold impl_GetTx.f gtxS
  repeat' first
      | exact gnumS.mono _ _ _ _
      | exact gtextS.mono _ _ _ _
      | exact impl_TxOk.mono _ _ _ _ _ _
      | exact LeO.refl _
      | refine LeO.bind ?_ (fun _ => ?_)
set_option maxHeartbeats 8000000 in
set_option maxRecDepth 100000 in
theorem impl_GetTx.calls (k : Nat) (A0 : Option Addr) (c0 : Nat) (l0 : List Int) (a1 : Int) (r1 : Int) (r2 : ByteArray) (r3 : ByteArray) (r4 : Int) (r5 : Int) (r6 : Int) (r7 : Bool) (w : World) (hr0 : Kd.C (Kd.int .u8) w A0 l0.length l0) (hc0 : l0.length ≤ c0) (h : impl_GetTx.f k l0 a1 = some (r1, r2, r3, r4, r5, r6, r7)) :
    Calls Try.prog 17 #[.slice A0 l0.length c0, .int .i64 a1] w fun e w' => e = .returned (.tuple #[.agg #[.int .i64 r1, .string r2, .string r3, .int .i64 r4, .int .i64 r5], .int .i64 r6, .bool r7]) ∧ Below w.heap.size w w' := by
  obtain ⟨⟨x1, x2, x3, x4, x5, x6, x7⟩, h1, h⟩ := Option.bind_eq_some_iff.mp h
  dsimp only at h
  cases x7 with
  | true =>
    simp only [if_true, Option.some.injEq, Prod.mk.injEq] at h
    obtain ⟨rfl, rfl, rfl, rfl, rfl, rfl, rfl⟩ := h
    have hg0 : GAt (w.heap.size + 1) A0 l0.length c0 a1 false ((w.alloc (.cells #[.int .i64 0, .string (⟨#[]⟩ : ByteArray), .string (⟨#[]⟩ : ByteArray), .int .i64 0, .int .i64 0] 24)).alloc (.cells #[.slice A0 l0.length c0, .int .i64 a1, .bool false] 91)) := by
      have h_ := heap_alloc_new (w.alloc (.cells #[.int .i64 0, .string (⟨#[]⟩ : ByteArray), .string (⟨#[]⟩ : ByteArray), .int .i64 0, .int .i64 0] 24)) (.cells #[.slice A0 l0.length c0, .int .i64 a1, .bool false] 91)
      rw [World.size_alloc] at h_
      exact h_
    have hr_ : XAt w.heap.size 0 (⟨#[]⟩ : ByteArray) (⟨#[]⟩ : ByteArray) 0 0 ((w.alloc (.cells #[.int .i64 0, .string (⟨#[]⟩ : ByteArray), .string (⟨#[]⟩ : ByteArray), .int .i64 0, .int .i64 0] 24)).alloc (.cells #[.slice A0 l0.length c0, .int .i64 a1, .bool false] 91)) := (XAt.new _ _ _ _ _ w).old _
    go_enter Try.func17, Try.ntmps17
    go_wp2_with (go_at_call 62; refine (gtxS.calls k A0 c0 l0 a1 false x1 x2 x3 x4 x5 x6 _ (w.heap.size + 1) w _ hr0 hc0 (below_alloc (below_alloc (Below.refl _ _) _) _) (by omega) hg0 h1).mono ?_; rintro e w2 ⟨rfl, hG2, hB2, hs2, hF2⟩; have hR2 : XAt w.heap.size 0 (⟨#[]⟩ : ByteArray) (⟨#[]⟩ : ByteArray) 0 0 w2 := (hF2 w.heap.size (by simp; omega) (by omega)).trans hr_; simp only [World.size_alloc] at hs2; have cG1 : (w2.alloc (.cells #[.int .i64 x1, .string x2, .string x3, .int .i64 x4, .int .i64 x5] 24)).cell? ⟨w.heap.size + 1, 1, none⟩ = some (.int .i64 x6) := (by rw [Lib.cell_of_heap (hG2.alloc _)]; rfl); have cG2 : (w2.alloc (.cells #[.int .i64 x1, .string x2, .string x3, .int .i64 x4, .int .i64 x5] 24)).cell? ⟨w.heap.size + 1, 2, none⟩ = some (.bool true) := (by rw [Lib.cell_of_heap (hG2.alloc _)]; rfl); have hR3 := hR2.old (.cells #[.int .i64 x1, .string x2, .string x3, .int .i64 x4, .int .i64 x5] 24); have z0 : (w2.alloc (.cells #[.int .i64 x1, .string x2, .string x3, .int .i64 x4, .int .i64 x5] 24)).frozen? ⟨w.heap.size, 0, none⟩ = false := Lib.frozen_of_heap hR3 0; have z1 : (w2.alloc (.cells #[.int .i64 x1, .string x2, .string x3, .int .i64 x4, .int .i64 x5] 24)).frozen? ⟨w.heap.size, 1, none⟩ = false := Lib.frozen_of_heap hR3 1; have z2 : (w2.alloc (.cells #[.int .i64 x1, .string x2, .string x3, .int .i64 x4, .int .i64 x5] 24)).frozen? ⟨w.heap.size, 2, none⟩ = false := Lib.frozen_of_heap hR3 2; have z3 : (w2.alloc (.cells #[.int .i64 x1, .string x2, .string x3, .int .i64 x4, .int .i64 x5] 24)).frozen? ⟨w.heap.size, 3, none⟩ = false := Lib.frozen_of_heap hR3 3; have z4 : (w2.alloc (.cells #[.int .i64 x1, .string x2, .string x3, .int .i64 x4, .int .i64 x5] 24)).frozen? ⟨w.heap.size, 4, none⟩ = false := Lib.frozen_of_heap hR3 4; have y0 : (w2.alloc (.cells #[.int .i64 x1, .string x2, .string x3, .int .i64 x4, .int .i64 x5] 24)).cell? ⟨w.heap.size, 0, none⟩ = some (.int .i64 0) := (by rw [Lib.cell_of_heap hR3]; rfl); have y1 : (w2.alloc (.cells #[.int .i64 x1, .string x2, .string x3, .int .i64 x4, .int .i64 x5] 24)).cell? ⟨w.heap.size, 1, none⟩ = some (.string ⟨#[]⟩) := (by rw [Lib.cell_of_heap hR3]; rfl); have y2 : (w2.alloc (.cells #[.int .i64 x1, .string x2, .string x3, .int .i64 x4, .int .i64 x5] 24)).cell? ⟨w.heap.size, 2, none⟩ = some (.string ⟨#[]⟩) := (by rw [Lib.cell_of_heap hR3]; rfl); have y3 : (w2.alloc (.cells #[.int .i64 x1, .string x2, .string x3, .int .i64 x4, .int .i64 x5] 24)).cell? ⟨w.heap.size, 3, none⟩ = some (.int .i64 0) := (by rw [Lib.cell_of_heap hR3]; rfl); have y4 : (w2.alloc (.cells #[.int .i64 x1, .string x2, .string x3, .int .i64 x4, .int .i64 x5] 24)).cell? ⟨w.heap.size, 4, none⟩ = some (.int .i64 0) := (by rw [Lib.cell_of_heap hR3]; rfl))
    refine bodyPost_ret (results_ctt rfl _ _ w.heap.size 24 #[.int .i64 0, .string (⟨#[]⟩ : ByteArray), .string (⟨#[]⟩ : ByteArray), .int .i64 0, .int .i64 0] (0, 0) _ rfl (((((hR3.s0 0).s1 ⟨#[]⟩).s2 ⟨#[]⟩).s3 0).s4 0) Try.underlying24 rfl (by kernel_rfl)) rfl ?_
    refine ⟨rfl, ?_⟩
    repeat (refine below_set ?_ (Nat.le_refl _))
    exact below_alloc hB2 _
  | false =>
    simp only [Bool.false_eq_true, if_false, Option.some.injEq, Prod.mk.injEq] at h
    obtain ⟨rfl, rfl, rfl, rfl, rfl, rfl, rfl⟩ := h
    have hg0 : GAt (w.heap.size + 1) A0 l0.length c0 a1 false ((w.alloc (.cells #[.int .i64 0, .string (⟨#[]⟩ : ByteArray), .string (⟨#[]⟩ : ByteArray), .int .i64 0, .int .i64 0] 24)).alloc (.cells #[.slice A0 l0.length c0, .int .i64 a1, .bool false] 91)) := by
      have h_ := heap_alloc_new (w.alloc (.cells #[.int .i64 0, .string (⟨#[]⟩ : ByteArray), .string (⟨#[]⟩ : ByteArray), .int .i64 0, .int .i64 0] 24)) (.cells #[.slice A0 l0.length c0, .int .i64 a1, .bool false] 91)
      rw [World.size_alloc] at h_
      exact h_
    have hr_ : XAt w.heap.size 0 (⟨#[]⟩ : ByteArray) (⟨#[]⟩ : ByteArray) 0 0 ((w.alloc (.cells #[.int .i64 0, .string (⟨#[]⟩ : ByteArray), .string (⟨#[]⟩ : ByteArray), .int .i64 0, .int .i64 0] 24)).alloc (.cells #[.slice A0 l0.length c0, .int .i64 a1, .bool false] 91)) := (XAt.new _ _ _ _ _ w).old _
    go_enter Try.func17, Try.ntmps17
    go_wp2_with (go_at_call 62; refine (gtxS.calls k A0 c0 l0 a1 false x1 x2 x3 x4 x5 x6 _ (w.heap.size + 1) w _ hr0 hc0 (below_alloc (below_alloc (Below.refl _ _) _) _) (by omega) hg0 h1).mono ?_; rintro e w2 ⟨rfl, hG2, hB2, hs2, hF2⟩; have hR2 : XAt w.heap.size 0 (⟨#[]⟩ : ByteArray) (⟨#[]⟩ : ByteArray) 0 0 w2 := (hF2 w.heap.size (by simp; omega) (by omega)).trans hr_; simp only [World.size_alloc] at hs2; have cG1 : (w2.alloc (.cells #[.int .i64 x1, .string x2, .string x3, .int .i64 x4, .int .i64 x5] 24)).cell? ⟨w.heap.size + 1, 1, none⟩ = some (.int .i64 x6) := (by rw [Lib.cell_of_heap (hG2.alloc _)]; rfl); have cG2 : (w2.alloc (.cells #[.int .i64 x1, .string x2, .string x3, .int .i64 x4, .int .i64 x5] 24)).cell? ⟨w.heap.size + 1, 2, none⟩ = some (.bool false) := (by rw [Lib.cell_of_heap (hG2.alloc _)]; rfl); have hR3 := hR2.old (.cells #[.int .i64 x1, .string x2, .string x3, .int .i64 x4, .int .i64 x5] 24); have z0 : (w2.alloc (.cells #[.int .i64 x1, .string x2, .string x3, .int .i64 x4, .int .i64 x5] 24)).frozen? ⟨w.heap.size, 0, none⟩ = false := Lib.frozen_of_heap hR3 0; have z1 : (w2.alloc (.cells #[.int .i64 x1, .string x2, .string x3, .int .i64 x4, .int .i64 x5] 24)).frozen? ⟨w.heap.size, 1, none⟩ = false := Lib.frozen_of_heap hR3 1; have z2 : (w2.alloc (.cells #[.int .i64 x1, .string x2, .string x3, .int .i64 x4, .int .i64 x5] 24)).frozen? ⟨w.heap.size, 2, none⟩ = false := Lib.frozen_of_heap hR3 2; have z3 : (w2.alloc (.cells #[.int .i64 x1, .string x2, .string x3, .int .i64 x4, .int .i64 x5] 24)).frozen? ⟨w.heap.size, 3, none⟩ = false := Lib.frozen_of_heap hR3 3; have z4 : (w2.alloc (.cells #[.int .i64 x1, .string x2, .string x3, .int .i64 x4, .int .i64 x5] 24)).frozen? ⟨w.heap.size, 4, none⟩ = false := Lib.frozen_of_heap hR3 4; have y0 : (w2.alloc (.cells #[.int .i64 x1, .string x2, .string x3, .int .i64 x4, .int .i64 x5] 24)).cell? ⟨w.heap.size, 0, none⟩ = some (.int .i64 0) := (by rw [Lib.cell_of_heap hR3]; rfl); have y1 : (w2.alloc (.cells #[.int .i64 x1, .string x2, .string x3, .int .i64 x4, .int .i64 x5] 24)).cell? ⟨w.heap.size, 1, none⟩ = some (.string ⟨#[]⟩) := (by rw [Lib.cell_of_heap hR3]; rfl); have y2 : (w2.alloc (.cells #[.int .i64 x1, .string x2, .string x3, .int .i64 x4, .int .i64 x5] 24)).cell? ⟨w.heap.size, 2, none⟩ = some (.string ⟨#[]⟩) := (by rw [Lib.cell_of_heap hR3]; rfl); have y3 : (w2.alloc (.cells #[.int .i64 x1, .string x2, .string x3, .int .i64 x4, .int .i64 x5] 24)).cell? ⟨w.heap.size, 3, none⟩ = some (.int .i64 0) := (by rw [Lib.cell_of_heap hR3]; rfl); have y4 : (w2.alloc (.cells #[.int .i64 x1, .string x2, .string x3, .int .i64 x4, .int .i64 x5] 24)).cell? ⟨w.heap.size, 4, none⟩ = some (.int .i64 0) := (by rw [Lib.cell_of_heap hR3]; rfl))
    have hB3 : Below w.heap.size w (w2.alloc (.cells #[.int .i64 x1, .string x2, .string x3, .int .i64 x4, .int .i64 x5] 24)) := below_alloc hB2 _
    have t0 : (w2.alloc (.cells #[.int .i64 x1, .string x2, .string x3, .int .i64 x4, .int .i64 x5] 24)).cell? ⟨w2.heap.size, 0, none⟩ = some (.int .i64 x1) := by rw [Lib.cell_of_heap (XAt.new x1 x2 x3 x4 x5 w2)]; rfl
    have t1 : (w2.alloc (.cells #[.int .i64 x1, .string x2, .string x3, .int .i64 x4, .int .i64 x5] 24)).cell? ⟨w2.heap.size, 1, none⟩ = some (.string x2) := by rw [Lib.cell_of_heap (XAt.new x1 x2 x3 x4 x5 w2)]; rfl
    have t2 : (w2.alloc (.cells #[.int .i64 x1, .string x2, .string x3, .int .i64 x4, .int .i64 x5] 24)).cell? ⟨w2.heap.size, 2, none⟩ = some (.string x3) := by rw [Lib.cell_of_heap (XAt.new x1 x2 x3 x4 x5 w2)]; rfl
    have t3 : (w2.alloc (.cells #[.int .i64 x1, .string x2, .string x3, .int .i64 x4, .int .i64 x5] 24)).cell? ⟨w2.heap.size, 3, none⟩ = some (.int .i64 x4) := by rw [Lib.cell_of_heap (XAt.new x1 x2 x3 x4 x5 w2)]; rfl
    have t4 : (w2.alloc (.cells #[.int .i64 x1, .string x2, .string x3, .int .i64 x4, .int .i64 x5] 24)).cell? ⟨w2.heap.size, 4, none⟩ = some (.int .i64 x5) := by rw [Lib.cell_of_heap (XAt.new x1 x2 x3 x4 x5 w2)]; rfl
    have sR : (w2.alloc (.cells #[.int .i64 x1, .string x2, .string x3, .int .i64 x4, .int .i64 x5] 24)).heap.size = w2.heap.size + 1 := by simp
    obtain ⟨T, hT⟩ : ∃ T, w2.heap.size = T := ⟨_, rfl⟩
    rw [hT] at t0 t1 t2 t3 t4 hs2 sR
    obtain ⟨W3, hW3⟩ : ∃ W3, (w2.alloc (.cells #[.int .i64 x1, .string x2, .string x3, .int .i64 x4, .int .i64 x5] 24)) = W3 := ⟨_, rfl⟩
    rw [hW3] at hB3 t0 t1 t2 t3 t4 cG1 cG2 hR3 z0 z1 z2 z3 z4 y0 y1 y2 y3 y4 sR
    rw [hT, hW3]
    clear hW3 hR2 hG2 hF2
    have nT1 : ¬ w.heap.size = T := by omega
    have nT2 : ¬ T = w.heap.size := by omega
    go_region
    go_wp2
    refine bodyPost_ret (results_ctt rfl _ _ w.heap.size 24 #[.int .i64 x1, .string x2, .string x3, .int .i64 x4, .int .i64 x5] (0, 0) _ rfl (((((hR3.s0 x1).s1 x2).s2 x3).s3 x4).s4 x5) Try.underlying24 rfl (by kernel_rfl)) rfl ?_
    refine ⟨rfl, below_drew ?_⟩
    repeat (refine below_set ?_ (Nat.le_refl _))
    exact hB3

/-! ### laws_eqTx: function 18 -/
def laws_eqTx.f (a0_0 : Int) (a0_1 : ByteArray) (a0_2 : ByteArray) (a0_3 : Int) (a0_4 : Int) (a1_0 : Int) (a1_1 : ByteArray) (a1_2 : ByteArray) (a1_3 : Int) (a1_4 : Int) : Option (Bool) := if a0_0 = a1_0 then (if a0_1.toList = a1_1.toList then (if a0_2.toList = a1_2.toList then (if a0_3 = a1_3 then (if a0_4 = a1_4 then (some true) else (some false)) else (some false)) else (some false)) else (some false)) else (some false)
set_option maxHeartbeats 8000000 in
set_option maxRecDepth 100000 in
theorem laws_eqTx.calls (a0_0 : Int) (a0_1 : ByteArray) (a0_2 : ByteArray) (a0_3 : Int) (a0_4 : Int) (a1_0 : Int) (a1_1 : ByteArray) (a1_2 : ByteArray) (a1_3 : Int) (a1_4 : Int) (r : Bool) (w : World) (h : laws_eqTx.f a0_0 a0_1 a0_2 a0_3 a0_4 a1_0 a1_1 a1_2 a1_3 a1_4 = some r) :
    Calls Try.prog 18 #[.agg #[.int .i64 a0_0, .string a0_1, .string a0_2, .int .i64 a0_3, .int .i64 a0_4], .agg #[.int .i64 a1_0, .string a1_1, .string a1_2, .int .i64 a1_3, .int .i64 a1_4]] w fun e w' => e = .returned (.bool r) ∧ Below w.heap.size w w' := by
  have hu24 := Try.underlying24
  have HB := Aside0.mk (Below.refl w.heap.size w)
  have H : (if a0_0 = a1_0 then (if a0_1.toList = a1_1.toList then (if a0_2.toList = a1_2.toList then (if a0_3 = a1_3 then (if a0_4 = a1_4 then (some true) else (some false)) else (some false)) else (some false)) else (some false)) else (some false)) = some r := h
  clear h
  by_cases c3 : a0_0 = a1_0
  · rw [if_pos c3] at H
    have c3b0 : (a0_0 == a1_0) = true := beq_iff_eq.mpr c3
    have c3b1 : (a0_0 != a1_0) = false := bne_eq_false_iff_eq.mpr c3
    clear c3
    by_cases c4 : a0_1.toList = a1_1.toList
    · rw [if_pos c4] at H
      have c4b0 : (a0_1.toList == a1_1.toList) = true := beq_iff_eq.mpr c4
      have c4b1 : (a0_1.toList != a1_1.toList) = false := bne_eq_false_iff_eq.mpr c4
      clear c4
      by_cases c5 : a0_2.toList = a1_2.toList
      · rw [if_pos c5] at H
        have c5b0 : (a0_2.toList == a1_2.toList) = true := beq_iff_eq.mpr c5
        have c5b1 : (a0_2.toList != a1_2.toList) = false := bne_eq_false_iff_eq.mpr c5
        clear c5
        by_cases c6 : a0_3 = a1_3
        · rw [if_pos c6] at H
          have c6b0 : (a0_3 == a1_3) = true := beq_iff_eq.mpr c6
          have c6b1 : (a0_3 != a1_3) = false := bne_eq_false_iff_eq.mpr c6
          clear c6
          by_cases c7 : a0_4 = a1_4
          · rw [if_pos c7] at H
            have c7b0 : (a0_4 == a1_4) = true := beq_iff_eq.mpr c7
            have c7b1 : (a0_4 != a1_4) = false := bne_eq_false_iff_eq.mpr c7
            clear c7
            obtain rfl := Option.some.inj H
            go_enter Try.func18, Try.ntmps18
            go_wp2_with (first | ((with_reducible refine gate_dst (N := 2) rfl ?_); refine box_event ?hg (N := 2) ?hd (cs := #[.int .i64 a0_0, .string a0_1, .string a0_2, .int .i64 a0_3, .int .i64 a0_4]) (t := 24) ?hr ?_; (case hd => rfl); (case hg => rfl); (case hr => first | (go_simp; done) | (go_simp; rfl)); intro gb166 hg w8 hbox hb; have n0_ := Aside0.mk (below_step (by repeat (first | (with_reducible first | exact HB.out | apply below_alloc | apply pw_below_drewN | apply below_drew1) | exact HB.out)) hb); have n1_ := Aside0.mk (hbox); have n2_ := Aside0.mk ((by rw [hg]; exact (below_size (by repeat (first | (with_reducible first | exact HB.out | apply below_alloc | apply pw_below_drewN | apply below_drew1) | exact HB.out))) : w.heap.size ≤ gb166)); have n3_ := Aside0.mk ((by rw [hg]; exact (below_size (by repeat (first | (with_reducible first | exact HB.out | apply below_alloc | apply pw_below_drewN | apply below_drew1) | exact HB.out))) : w.heap.size ≤ gb166)); clear HB; have HB := n0_; have BK166 := n1_; have GW166 := n2_; have GE166 := n3_; clear n0_ n1_ n2_ n3_; clear hb hbox hg) | ((with_reducible refine gate_dst (N := 3) rfl ?_); refine box_event ?hg (N := 3) ?hd (cs := #[.int .i64 a1_0, .string a1_1, .string a1_2, .int .i64 a1_3, .int .i64 a1_4]) (t := 24) ?hr ?_; (case hd => rfl); (case hg => rfl); (case hr => first | (go_simp; done) | (go_simp; rfl)); intro gb167 hg w9 hbox hb; have n0_ := Aside0.mk (blk_below (g := gb166) (o := .cells #[.int .i64 a0_0, .string a0_1, .string a0_2, .int .i64 a0_3, .int .i64 a0_4] 24 (0, 0)) (by (with_reducible repeat (first | refine blk_drewN ?_ _ | refine blk_drew ?_ | refine blk_alloc ?_ _)); exact BK166.out) hb); have n1_ := Aside0.mk (below_step (by repeat (first | (with_reducible first | exact HB.out | apply below_alloc | apply pw_below_drewN | apply below_drew1 | refine below_set ?_ GE166.out) | exact HB.out)) hb); have n2_ := Aside0.mk (hbox); have n3_ := Aside0.mk ((by rw [hg]; exact (below_size (by repeat (first | (with_reducible first | exact HB.out | apply below_alloc | apply pw_below_drewN | apply below_drew1 | refine below_set ?_ GE166.out) | exact HB.out))) : w.heap.size ≤ gb167)); have n4_ := Aside0.mk ((by rw [hg]; exact (below_size (by repeat (first | (with_reducible first | exact HB.out | apply below_alloc | apply pw_below_drewN | apply below_drew1 | refine below_set ?_ GE166.out) | exact HB.out))) : w.heap.size ≤ gb167)); have n5_ := Aside0.mk ((by rw [hg]; exact Nat.ne_of_lt (blk_lt (g := gb166) (o := .cells #[.int .i64 a0_0, .string a0_1, .string a0_2, .int .i64 a0_3, .int .i64 a0_4] 24 (0, 0)) (by (with_reducible repeat (first | refine blk_drewN ?_ _ | refine blk_drew ?_ | refine blk_alloc ?_ _)); exact BK166.out)) : gb166 ≠ gb167)); have n6_ := Aside0.mk ((by rw [hg]; exact Nat.ne_of_gt (blk_lt (g := gb166) (o := .cells #[.int .i64 a0_0, .string a0_1, .string a0_2, .int .i64 a0_3, .int .i64 a0_4] 24 (0, 0)) (by (with_reducible repeat (first | refine blk_drewN ?_ _ | refine blk_drew ?_ | refine blk_alloc ?_ _)); exact BK166.out)) : gb167 ≠ gb166)); clear BK166; clear HB; have BK166 := n0_; have HB := n1_; have BK167 := n2_; have GW167 := n3_; have GE167 := n4_; have NB166_167 := n5_; have NB167_166 := n6_; clear n0_ n1_ n2_ n3_ n4_ n5_ n6_; clear hb hbox hg; have hnb10 := NB166_167.out; have hnc10 := NB167_166.out; have hcz11_0 : w9.cell? ⟨gb166, 0, none⟩ = some (.int .i64 a0_0) := (blk_cell BK166.out 0).trans rfl; have hcz11_1 : w9.cell? ⟨gb166, 1, none⟩ = some (.string a0_1) := (blk_cell BK166.out 1).trans rfl; have hcz11_2 : w9.cell? ⟨gb166, 2, none⟩ = some (.string a0_2) := (blk_cell BK166.out 2).trans rfl; have hcz11_3 : w9.cell? ⟨gb166, 3, none⟩ = some (.int .i64 a0_3) := (blk_cell BK166.out 3).trans rfl; have hcz11_4 : w9.cell? ⟨gb166, 4, none⟩ = some (.int .i64 a0_4) := (blk_cell BK166.out 4).trans rfl; have hfz11_0 := blk_frozen BK166.out 0; have hfz11_1 := blk_frozen BK166.out 1; have hfz11_2 := blk_frozen BK166.out 2; have hfz11_3 := blk_frozen BK166.out 3; have hfz11_4 := blk_frozen BK166.out 4; have hcz12_0 : w9.cell? ⟨gb167, 0, none⟩ = some (.int .i64 a1_0) := (blk_cell BK167.out 0).trans rfl; have hcz12_1 : w9.cell? ⟨gb167, 1, none⟩ = some (.string a1_1) := (blk_cell BK167.out 1).trans rfl; have hcz12_2 : w9.cell? ⟨gb167, 2, none⟩ = some (.string a1_2) := (blk_cell BK167.out 2).trans rfl; have hcz12_3 : w9.cell? ⟨gb167, 3, none⟩ = some (.int .i64 a1_3) := (blk_cell BK167.out 3).trans rfl; have hcz12_4 : w9.cell? ⟨gb167, 4, none⟩ = some (.int .i64 a1_4) := (blk_cell BK167.out 4).trans rfl; have hfz12_0 := blk_frozen BK167.out 0; have hfz12_1 := blk_frozen BK167.out 1; have hfz12_2 := blk_frozen BK167.out 2; have hfz12_3 := blk_frozen BK167.out 3; have hfz12_4 := blk_frozen BK167.out 4))
            go_ret
            exact ⟨by first | rfl | (simp [errW_none, errW_some] <;> rfl) | (simp [*, errW_none, errW_some] <;> rfl), by repeat (first | (with_reducible first | exact HB.out | apply below_alloc | apply pw_below_drewN | apply below_drew1 | refine below_set ?_ GE166.out | refine below_set ?_ GE167.out) | exact HB.out)⟩
          · rw [if_neg c7] at H
            have c7b0 : (a0_4 == a1_4) = false := beq_eq_false_iff_ne.mpr c7
            have c7b1 : (a0_4 != a1_4) = true := bne_iff_ne.mpr c7
            obtain rfl := Option.some.inj H
            go_enter Try.func18, Try.ntmps18
            go_wp2_with (first | ((with_reducible refine gate_dst (N := 2) rfl ?_); refine box_event ?hg (N := 2) ?hd (cs := #[.int .i64 a0_0, .string a0_1, .string a0_2, .int .i64 a0_3, .int .i64 a0_4]) (t := 24) ?hr ?_; (case hd => rfl); (case hg => rfl); (case hr => first | (go_simp; done) | (go_simp; rfl)); intro gb166 hg w13 hbox hb; have n0_ := Aside0.mk (below_step (by repeat (first | (with_reducible first | exact HB.out | apply below_alloc | apply pw_below_drewN | apply below_drew1) | exact HB.out)) hb); have n1_ := Aside0.mk (hbox); have n2_ := Aside0.mk ((by rw [hg]; exact (below_size (by repeat (first | (with_reducible first | exact HB.out | apply below_alloc | apply pw_below_drewN | apply below_drew1) | exact HB.out))) : w.heap.size ≤ gb166)); have n3_ := Aside0.mk ((by rw [hg]; exact (below_size (by repeat (first | (with_reducible first | exact HB.out | apply below_alloc | apply pw_below_drewN | apply below_drew1) | exact HB.out))) : w.heap.size ≤ gb166)); clear HB; have HB := n0_; have BK166 := n1_; have GW166 := n2_; have GE166 := n3_; clear n0_ n1_ n2_ n3_; clear hb hbox hg) | ((with_reducible refine gate_dst (N := 3) rfl ?_); refine box_event ?hg (N := 3) ?hd (cs := #[.int .i64 a1_0, .string a1_1, .string a1_2, .int .i64 a1_3, .int .i64 a1_4]) (t := 24) ?hr ?_; (case hd => rfl); (case hg => rfl); (case hr => first | (go_simp; done) | (go_simp; rfl)); intro gb167 hg w14 hbox hb; have n0_ := Aside0.mk (blk_below (g := gb166) (o := .cells #[.int .i64 a0_0, .string a0_1, .string a0_2, .int .i64 a0_3, .int .i64 a0_4] 24 (0, 0)) (by (with_reducible repeat (first | refine blk_drewN ?_ _ | refine blk_drew ?_ | refine blk_alloc ?_ _)); exact BK166.out) hb); have n1_ := Aside0.mk (below_step (by repeat (first | (with_reducible first | exact HB.out | apply below_alloc | apply pw_below_drewN | apply below_drew1 | refine below_set ?_ GE166.out) | exact HB.out)) hb); have n2_ := Aside0.mk (hbox); have n3_ := Aside0.mk ((by rw [hg]; exact (below_size (by repeat (first | (with_reducible first | exact HB.out | apply below_alloc | apply pw_below_drewN | apply below_drew1 | refine below_set ?_ GE166.out) | exact HB.out))) : w.heap.size ≤ gb167)); have n4_ := Aside0.mk ((by rw [hg]; exact (below_size (by repeat (first | (with_reducible first | exact HB.out | apply below_alloc | apply pw_below_drewN | apply below_drew1 | refine below_set ?_ GE166.out) | exact HB.out))) : w.heap.size ≤ gb167)); have n5_ := Aside0.mk ((by rw [hg]; exact Nat.ne_of_lt (blk_lt (g := gb166) (o := .cells #[.int .i64 a0_0, .string a0_1, .string a0_2, .int .i64 a0_3, .int .i64 a0_4] 24 (0, 0)) (by (with_reducible repeat (first | refine blk_drewN ?_ _ | refine blk_drew ?_ | refine blk_alloc ?_ _)); exact BK166.out)) : gb166 ≠ gb167)); have n6_ := Aside0.mk ((by rw [hg]; exact Nat.ne_of_gt (blk_lt (g := gb166) (o := .cells #[.int .i64 a0_0, .string a0_1, .string a0_2, .int .i64 a0_3, .int .i64 a0_4] 24 (0, 0)) (by (with_reducible repeat (first | refine blk_drewN ?_ _ | refine blk_drew ?_ | refine blk_alloc ?_ _)); exact BK166.out)) : gb167 ≠ gb166)); clear BK166; clear HB; have BK166 := n0_; have HB := n1_; have BK167 := n2_; have GW167 := n3_; have GE167 := n4_; have NB166_167 := n5_; have NB167_166 := n6_; clear n0_ n1_ n2_ n3_ n4_ n5_ n6_; clear hb hbox hg; have hnb15 := NB166_167.out; have hnc15 := NB167_166.out; have hcz16_0 : w14.cell? ⟨gb166, 0, none⟩ = some (.int .i64 a0_0) := (blk_cell BK166.out 0).trans rfl; have hcz16_1 : w14.cell? ⟨gb166, 1, none⟩ = some (.string a0_1) := (blk_cell BK166.out 1).trans rfl; have hcz16_2 : w14.cell? ⟨gb166, 2, none⟩ = some (.string a0_2) := (blk_cell BK166.out 2).trans rfl; have hcz16_3 : w14.cell? ⟨gb166, 3, none⟩ = some (.int .i64 a0_3) := (blk_cell BK166.out 3).trans rfl; have hcz16_4 : w14.cell? ⟨gb166, 4, none⟩ = some (.int .i64 a0_4) := (blk_cell BK166.out 4).trans rfl; have hfz16_0 := blk_frozen BK166.out 0; have hfz16_1 := blk_frozen BK166.out 1; have hfz16_2 := blk_frozen BK166.out 2; have hfz16_3 := blk_frozen BK166.out 3; have hfz16_4 := blk_frozen BK166.out 4; have hcz17_0 : w14.cell? ⟨gb167, 0, none⟩ = some (.int .i64 a1_0) := (blk_cell BK167.out 0).trans rfl; have hcz17_1 : w14.cell? ⟨gb167, 1, none⟩ = some (.string a1_1) := (blk_cell BK167.out 1).trans rfl; have hcz17_2 : w14.cell? ⟨gb167, 2, none⟩ = some (.string a1_2) := (blk_cell BK167.out 2).trans rfl; have hcz17_3 : w14.cell? ⟨gb167, 3, none⟩ = some (.int .i64 a1_3) := (blk_cell BK167.out 3).trans rfl; have hcz17_4 : w14.cell? ⟨gb167, 4, none⟩ = some (.int .i64 a1_4) := (blk_cell BK167.out 4).trans rfl; have hfz17_0 := blk_frozen BK167.out 0; have hfz17_1 := blk_frozen BK167.out 1; have hfz17_2 := blk_frozen BK167.out 2; have hfz17_3 := blk_frozen BK167.out 3; have hfz17_4 := blk_frozen BK167.out 4))
            go_ret
            exact ⟨by first | rfl | (simp [errW_none, errW_some] <;> rfl) | (simp [*, errW_none, errW_some] <;> rfl), by repeat (first | (with_reducible first | exact HB.out | apply below_alloc | apply pw_below_drewN | apply below_drew1 | refine below_set ?_ GE166.out | refine below_set ?_ GE167.out) | exact HB.out)⟩
        · rw [if_neg c6] at H
          have c6b0 : (a0_3 == a1_3) = false := beq_eq_false_iff_ne.mpr c6
          have c6b1 : (a0_3 != a1_3) = true := bne_iff_ne.mpr c6
          obtain rfl := Option.some.inj H
          go_enter Try.func18, Try.ntmps18
          go_wp2_with (first | ((with_reducible refine gate_dst (N := 2) rfl ?_); refine box_event ?hg (N := 2) ?hd (cs := #[.int .i64 a0_0, .string a0_1, .string a0_2, .int .i64 a0_3, .int .i64 a0_4]) (t := 24) ?hr ?_; (case hd => rfl); (case hg => rfl); (case hr => first | (go_simp; done) | (go_simp; rfl)); intro gb166 hg w18 hbox hb; have n0_ := Aside0.mk (below_step (by repeat (first | (with_reducible first | exact HB.out | apply below_alloc | apply pw_below_drewN | apply below_drew1) | exact HB.out)) hb); have n1_ := Aside0.mk (hbox); have n2_ := Aside0.mk ((by rw [hg]; exact (below_size (by repeat (first | (with_reducible first | exact HB.out | apply below_alloc | apply pw_below_drewN | apply below_drew1) | exact HB.out))) : w.heap.size ≤ gb166)); have n3_ := Aside0.mk ((by rw [hg]; exact (below_size (by repeat (first | (with_reducible first | exact HB.out | apply below_alloc | apply pw_below_drewN | apply below_drew1) | exact HB.out))) : w.heap.size ≤ gb166)); clear HB; have HB := n0_; have BK166 := n1_; have GW166 := n2_; have GE166 := n3_; clear n0_ n1_ n2_ n3_; clear hb hbox hg) | ((with_reducible refine gate_dst (N := 3) rfl ?_); refine box_event ?hg (N := 3) ?hd (cs := #[.int .i64 a1_0, .string a1_1, .string a1_2, .int .i64 a1_3, .int .i64 a1_4]) (t := 24) ?hr ?_; (case hd => rfl); (case hg => rfl); (case hr => first | (go_simp; done) | (go_simp; rfl)); intro gb167 hg w19 hbox hb; have n0_ := Aside0.mk (blk_below (g := gb166) (o := .cells #[.int .i64 a0_0, .string a0_1, .string a0_2, .int .i64 a0_3, .int .i64 a0_4] 24 (0, 0)) (by (with_reducible repeat (first | refine blk_drewN ?_ _ | refine blk_drew ?_ | refine blk_alloc ?_ _)); exact BK166.out) hb); have n1_ := Aside0.mk (below_step (by repeat (first | (with_reducible first | exact HB.out | apply below_alloc | apply pw_below_drewN | apply below_drew1 | refine below_set ?_ GE166.out) | exact HB.out)) hb); have n2_ := Aside0.mk (hbox); have n3_ := Aside0.mk ((by rw [hg]; exact (below_size (by repeat (first | (with_reducible first | exact HB.out | apply below_alloc | apply pw_below_drewN | apply below_drew1 | refine below_set ?_ GE166.out) | exact HB.out))) : w.heap.size ≤ gb167)); have n4_ := Aside0.mk ((by rw [hg]; exact (below_size (by repeat (first | (with_reducible first | exact HB.out | apply below_alloc | apply pw_below_drewN | apply below_drew1 | refine below_set ?_ GE166.out) | exact HB.out))) : w.heap.size ≤ gb167)); have n5_ := Aside0.mk ((by rw [hg]; exact Nat.ne_of_lt (blk_lt (g := gb166) (o := .cells #[.int .i64 a0_0, .string a0_1, .string a0_2, .int .i64 a0_3, .int .i64 a0_4] 24 (0, 0)) (by (with_reducible repeat (first | refine blk_drewN ?_ _ | refine blk_drew ?_ | refine blk_alloc ?_ _)); exact BK166.out)) : gb166 ≠ gb167)); have n6_ := Aside0.mk ((by rw [hg]; exact Nat.ne_of_gt (blk_lt (g := gb166) (o := .cells #[.int .i64 a0_0, .string a0_1, .string a0_2, .int .i64 a0_3, .int .i64 a0_4] 24 (0, 0)) (by (with_reducible repeat (first | refine blk_drewN ?_ _ | refine blk_drew ?_ | refine blk_alloc ?_ _)); exact BK166.out)) : gb167 ≠ gb166)); clear BK166; clear HB; have BK166 := n0_; have HB := n1_; have BK167 := n2_; have GW167 := n3_; have GE167 := n4_; have NB166_167 := n5_; have NB167_166 := n6_; clear n0_ n1_ n2_ n3_ n4_ n5_ n6_; clear hb hbox hg; have hnb20 := NB166_167.out; have hnc20 := NB167_166.out; have hcz21_0 : w19.cell? ⟨gb166, 0, none⟩ = some (.int .i64 a0_0) := (blk_cell BK166.out 0).trans rfl; have hcz21_1 : w19.cell? ⟨gb166, 1, none⟩ = some (.string a0_1) := (blk_cell BK166.out 1).trans rfl; have hcz21_2 : w19.cell? ⟨gb166, 2, none⟩ = some (.string a0_2) := (blk_cell BK166.out 2).trans rfl; have hcz21_3 : w19.cell? ⟨gb166, 3, none⟩ = some (.int .i64 a0_3) := (blk_cell BK166.out 3).trans rfl; have hcz21_4 : w19.cell? ⟨gb166, 4, none⟩ = some (.int .i64 a0_4) := (blk_cell BK166.out 4).trans rfl; have hfz21_0 := blk_frozen BK166.out 0; have hfz21_1 := blk_frozen BK166.out 1; have hfz21_2 := blk_frozen BK166.out 2; have hfz21_3 := blk_frozen BK166.out 3; have hfz21_4 := blk_frozen BK166.out 4; have hcz22_0 : w19.cell? ⟨gb167, 0, none⟩ = some (.int .i64 a1_0) := (blk_cell BK167.out 0).trans rfl; have hcz22_1 : w19.cell? ⟨gb167, 1, none⟩ = some (.string a1_1) := (blk_cell BK167.out 1).trans rfl; have hcz22_2 : w19.cell? ⟨gb167, 2, none⟩ = some (.string a1_2) := (blk_cell BK167.out 2).trans rfl; have hcz22_3 : w19.cell? ⟨gb167, 3, none⟩ = some (.int .i64 a1_3) := (blk_cell BK167.out 3).trans rfl; have hcz22_4 : w19.cell? ⟨gb167, 4, none⟩ = some (.int .i64 a1_4) := (blk_cell BK167.out 4).trans rfl; have hfz22_0 := blk_frozen BK167.out 0; have hfz22_1 := blk_frozen BK167.out 1; have hfz22_2 := blk_frozen BK167.out 2; have hfz22_3 := blk_frozen BK167.out 3; have hfz22_4 := blk_frozen BK167.out 4))
          go_ret
          exact ⟨by first | rfl | (simp [errW_none, errW_some] <;> rfl) | (simp [*, errW_none, errW_some] <;> rfl), by repeat (first | (with_reducible first | exact HB.out | apply below_alloc | apply pw_below_drewN | apply below_drew1 | refine below_set ?_ GE166.out | refine below_set ?_ GE167.out) | exact HB.out)⟩
      · rw [if_neg c5] at H
        have c5b0 : (a0_2.toList == a1_2.toList) = false := beq_eq_false_iff_ne.mpr c5
        have c5b1 : (a0_2.toList != a1_2.toList) = true := bne_iff_ne.mpr c5
        obtain rfl := Option.some.inj H
        go_enter Try.func18, Try.ntmps18
        go_wp2_with (first | ((with_reducible refine gate_dst (N := 2) rfl ?_); refine box_event ?hg (N := 2) ?hd (cs := #[.int .i64 a0_0, .string a0_1, .string a0_2, .int .i64 a0_3, .int .i64 a0_4]) (t := 24) ?hr ?_; (case hd => rfl); (case hg => rfl); (case hr => first | (go_simp; done) | (go_simp; rfl)); intro gb166 hg w23 hbox hb; have n0_ := Aside0.mk (below_step (by repeat (first | (with_reducible first | exact HB.out | apply below_alloc | apply pw_below_drewN | apply below_drew1) | exact HB.out)) hb); have n1_ := Aside0.mk (hbox); have n2_ := Aside0.mk ((by rw [hg]; exact (below_size (by repeat (first | (with_reducible first | exact HB.out | apply below_alloc | apply pw_below_drewN | apply below_drew1) | exact HB.out))) : w.heap.size ≤ gb166)); have n3_ := Aside0.mk ((by rw [hg]; exact (below_size (by repeat (first | (with_reducible first | exact HB.out | apply below_alloc | apply pw_below_drewN | apply below_drew1) | exact HB.out))) : w.heap.size ≤ gb166)); clear HB; have HB := n0_; have BK166 := n1_; have GW166 := n2_; have GE166 := n3_; clear n0_ n1_ n2_ n3_; clear hb hbox hg) | ((with_reducible refine gate_dst (N := 3) rfl ?_); refine box_event ?hg (N := 3) ?hd (cs := #[.int .i64 a1_0, .string a1_1, .string a1_2, .int .i64 a1_3, .int .i64 a1_4]) (t := 24) ?hr ?_; (case hd => rfl); (case hg => rfl); (case hr => first | (go_simp; done) | (go_simp; rfl)); intro gb167 hg w24 hbox hb; have n0_ := Aside0.mk (blk_below (g := gb166) (o := .cells #[.int .i64 a0_0, .string a0_1, .string a0_2, .int .i64 a0_3, .int .i64 a0_4] 24 (0, 0)) (by (with_reducible repeat (first | refine blk_drewN ?_ _ | refine blk_drew ?_ | refine blk_alloc ?_ _)); exact BK166.out) hb); have n1_ := Aside0.mk (below_step (by repeat (first | (with_reducible first | exact HB.out | apply below_alloc | apply pw_below_drewN | apply below_drew1 | refine below_set ?_ GE166.out) | exact HB.out)) hb); have n2_ := Aside0.mk (hbox); have n3_ := Aside0.mk ((by rw [hg]; exact (below_size (by repeat (first | (with_reducible first | exact HB.out | apply below_alloc | apply pw_below_drewN | apply below_drew1 | refine below_set ?_ GE166.out) | exact HB.out))) : w.heap.size ≤ gb167)); have n4_ := Aside0.mk ((by rw [hg]; exact (below_size (by repeat (first | (with_reducible first | exact HB.out | apply below_alloc | apply pw_below_drewN | apply below_drew1 | refine below_set ?_ GE166.out) | exact HB.out))) : w.heap.size ≤ gb167)); have n5_ := Aside0.mk ((by rw [hg]; exact Nat.ne_of_lt (blk_lt (g := gb166) (o := .cells #[.int .i64 a0_0, .string a0_1, .string a0_2, .int .i64 a0_3, .int .i64 a0_4] 24 (0, 0)) (by (with_reducible repeat (first | refine blk_drewN ?_ _ | refine blk_drew ?_ | refine blk_alloc ?_ _)); exact BK166.out)) : gb166 ≠ gb167)); have n6_ := Aside0.mk ((by rw [hg]; exact Nat.ne_of_gt (blk_lt (g := gb166) (o := .cells #[.int .i64 a0_0, .string a0_1, .string a0_2, .int .i64 a0_3, .int .i64 a0_4] 24 (0, 0)) (by (with_reducible repeat (first | refine blk_drewN ?_ _ | refine blk_drew ?_ | refine blk_alloc ?_ _)); exact BK166.out)) : gb167 ≠ gb166)); clear BK166; clear HB; have BK166 := n0_; have HB := n1_; have BK167 := n2_; have GW167 := n3_; have GE167 := n4_; have NB166_167 := n5_; have NB167_166 := n6_; clear n0_ n1_ n2_ n3_ n4_ n5_ n6_; clear hb hbox hg; have hnb25 := NB166_167.out; have hnc25 := NB167_166.out; have hcz26_0 : w24.cell? ⟨gb166, 0, none⟩ = some (.int .i64 a0_0) := (blk_cell BK166.out 0).trans rfl; have hcz26_1 : w24.cell? ⟨gb166, 1, none⟩ = some (.string a0_1) := (blk_cell BK166.out 1).trans rfl; have hcz26_2 : w24.cell? ⟨gb166, 2, none⟩ = some (.string a0_2) := (blk_cell BK166.out 2).trans rfl; have hcz26_3 : w24.cell? ⟨gb166, 3, none⟩ = some (.int .i64 a0_3) := (blk_cell BK166.out 3).trans rfl; have hcz26_4 : w24.cell? ⟨gb166, 4, none⟩ = some (.int .i64 a0_4) := (blk_cell BK166.out 4).trans rfl; have hfz26_0 := blk_frozen BK166.out 0; have hfz26_1 := blk_frozen BK166.out 1; have hfz26_2 := blk_frozen BK166.out 2; have hfz26_3 := blk_frozen BK166.out 3; have hfz26_4 := blk_frozen BK166.out 4; have hcz27_0 : w24.cell? ⟨gb167, 0, none⟩ = some (.int .i64 a1_0) := (blk_cell BK167.out 0).trans rfl; have hcz27_1 : w24.cell? ⟨gb167, 1, none⟩ = some (.string a1_1) := (blk_cell BK167.out 1).trans rfl; have hcz27_2 : w24.cell? ⟨gb167, 2, none⟩ = some (.string a1_2) := (blk_cell BK167.out 2).trans rfl; have hcz27_3 : w24.cell? ⟨gb167, 3, none⟩ = some (.int .i64 a1_3) := (blk_cell BK167.out 3).trans rfl; have hcz27_4 : w24.cell? ⟨gb167, 4, none⟩ = some (.int .i64 a1_4) := (blk_cell BK167.out 4).trans rfl; have hfz27_0 := blk_frozen BK167.out 0; have hfz27_1 := blk_frozen BK167.out 1; have hfz27_2 := blk_frozen BK167.out 2; have hfz27_3 := blk_frozen BK167.out 3; have hfz27_4 := blk_frozen BK167.out 4))
        go_ret
        exact ⟨by first | rfl | (simp [errW_none, errW_some] <;> rfl) | (simp [*, errW_none, errW_some] <;> rfl), by repeat (first | (with_reducible first | exact HB.out | apply below_alloc | apply pw_below_drewN | apply below_drew1 | refine below_set ?_ GE166.out | refine below_set ?_ GE167.out) | exact HB.out)⟩
    · rw [if_neg c4] at H
      have c4b0 : (a0_1.toList == a1_1.toList) = false := beq_eq_false_iff_ne.mpr c4
      have c4b1 : (a0_1.toList != a1_1.toList) = true := bne_iff_ne.mpr c4
      obtain rfl := Option.some.inj H
      go_enter Try.func18, Try.ntmps18
      go_wp2_with (first | ((with_reducible refine gate_dst (N := 2) rfl ?_); refine box_event ?hg (N := 2) ?hd (cs := #[.int .i64 a0_0, .string a0_1, .string a0_2, .int .i64 a0_3, .int .i64 a0_4]) (t := 24) ?hr ?_; (case hd => rfl); (case hg => rfl); (case hr => first | (go_simp; done) | (go_simp; rfl)); intro gb166 hg w28 hbox hb; have n0_ := Aside0.mk (below_step (by repeat (first | (with_reducible first | exact HB.out | apply below_alloc | apply pw_below_drewN | apply below_drew1) | exact HB.out)) hb); have n1_ := Aside0.mk (hbox); have n2_ := Aside0.mk ((by rw [hg]; exact (below_size (by repeat (first | (with_reducible first | exact HB.out | apply below_alloc | apply pw_below_drewN | apply below_drew1) | exact HB.out))) : w.heap.size ≤ gb166)); have n3_ := Aside0.mk ((by rw [hg]; exact (below_size (by repeat (first | (with_reducible first | exact HB.out | apply below_alloc | apply pw_below_drewN | apply below_drew1) | exact HB.out))) : w.heap.size ≤ gb166)); clear HB; have HB := n0_; have BK166 := n1_; have GW166 := n2_; have GE166 := n3_; clear n0_ n1_ n2_ n3_; clear hb hbox hg) | ((with_reducible refine gate_dst (N := 3) rfl ?_); refine box_event ?hg (N := 3) ?hd (cs := #[.int .i64 a1_0, .string a1_1, .string a1_2, .int .i64 a1_3, .int .i64 a1_4]) (t := 24) ?hr ?_; (case hd => rfl); (case hg => rfl); (case hr => first | (go_simp; done) | (go_simp; rfl)); intro gb167 hg w29 hbox hb; have n0_ := Aside0.mk (blk_below (g := gb166) (o := .cells #[.int .i64 a0_0, .string a0_1, .string a0_2, .int .i64 a0_3, .int .i64 a0_4] 24 (0, 0)) (by (with_reducible repeat (first | refine blk_drewN ?_ _ | refine blk_drew ?_ | refine blk_alloc ?_ _)); exact BK166.out) hb); have n1_ := Aside0.mk (below_step (by repeat (first | (with_reducible first | exact HB.out | apply below_alloc | apply pw_below_drewN | apply below_drew1 | refine below_set ?_ GE166.out) | exact HB.out)) hb); have n2_ := Aside0.mk (hbox); have n3_ := Aside0.mk ((by rw [hg]; exact (below_size (by repeat (first | (with_reducible first | exact HB.out | apply below_alloc | apply pw_below_drewN | apply below_drew1 | refine below_set ?_ GE166.out) | exact HB.out))) : w.heap.size ≤ gb167)); have n4_ := Aside0.mk ((by rw [hg]; exact (below_size (by repeat (first | (with_reducible first | exact HB.out | apply below_alloc | apply pw_below_drewN | apply below_drew1 | refine below_set ?_ GE166.out) | exact HB.out))) : w.heap.size ≤ gb167)); have n5_ := Aside0.mk ((by rw [hg]; exact Nat.ne_of_lt (blk_lt (g := gb166) (o := .cells #[.int .i64 a0_0, .string a0_1, .string a0_2, .int .i64 a0_3, .int .i64 a0_4] 24 (0, 0)) (by (with_reducible repeat (first | refine blk_drewN ?_ _ | refine blk_drew ?_ | refine blk_alloc ?_ _)); exact BK166.out)) : gb166 ≠ gb167)); have n6_ := Aside0.mk ((by rw [hg]; exact Nat.ne_of_gt (blk_lt (g := gb166) (o := .cells #[.int .i64 a0_0, .string a0_1, .string a0_2, .int .i64 a0_3, .int .i64 a0_4] 24 (0, 0)) (by (with_reducible repeat (first | refine blk_drewN ?_ _ | refine blk_drew ?_ | refine blk_alloc ?_ _)); exact BK166.out)) : gb167 ≠ gb166)); clear BK166; clear HB; have BK166 := n0_; have HB := n1_; have BK167 := n2_; have GW167 := n3_; have GE167 := n4_; have NB166_167 := n5_; have NB167_166 := n6_; clear n0_ n1_ n2_ n3_ n4_ n5_ n6_; clear hb hbox hg; have hnb30 := NB166_167.out; have hnc30 := NB167_166.out; have hcz31_0 : w29.cell? ⟨gb166, 0, none⟩ = some (.int .i64 a0_0) := (blk_cell BK166.out 0).trans rfl; have hcz31_1 : w29.cell? ⟨gb166, 1, none⟩ = some (.string a0_1) := (blk_cell BK166.out 1).trans rfl; have hcz31_2 : w29.cell? ⟨gb166, 2, none⟩ = some (.string a0_2) := (blk_cell BK166.out 2).trans rfl; have hcz31_3 : w29.cell? ⟨gb166, 3, none⟩ = some (.int .i64 a0_3) := (blk_cell BK166.out 3).trans rfl; have hcz31_4 : w29.cell? ⟨gb166, 4, none⟩ = some (.int .i64 a0_4) := (blk_cell BK166.out 4).trans rfl; have hfz31_0 := blk_frozen BK166.out 0; have hfz31_1 := blk_frozen BK166.out 1; have hfz31_2 := blk_frozen BK166.out 2; have hfz31_3 := blk_frozen BK166.out 3; have hfz31_4 := blk_frozen BK166.out 4; have hcz32_0 : w29.cell? ⟨gb167, 0, none⟩ = some (.int .i64 a1_0) := (blk_cell BK167.out 0).trans rfl; have hcz32_1 : w29.cell? ⟨gb167, 1, none⟩ = some (.string a1_1) := (blk_cell BK167.out 1).trans rfl; have hcz32_2 : w29.cell? ⟨gb167, 2, none⟩ = some (.string a1_2) := (blk_cell BK167.out 2).trans rfl; have hcz32_3 : w29.cell? ⟨gb167, 3, none⟩ = some (.int .i64 a1_3) := (blk_cell BK167.out 3).trans rfl; have hcz32_4 : w29.cell? ⟨gb167, 4, none⟩ = some (.int .i64 a1_4) := (blk_cell BK167.out 4).trans rfl; have hfz32_0 := blk_frozen BK167.out 0; have hfz32_1 := blk_frozen BK167.out 1; have hfz32_2 := blk_frozen BK167.out 2; have hfz32_3 := blk_frozen BK167.out 3; have hfz32_4 := blk_frozen BK167.out 4))
      go_ret
      exact ⟨by first | rfl | (simp [errW_none, errW_some] <;> rfl) | (simp [*, errW_none, errW_some] <;> rfl), by repeat (first | (with_reducible first | exact HB.out | apply below_alloc | apply pw_below_drewN | apply below_drew1 | refine below_set ?_ GE166.out | refine below_set ?_ GE167.out) | exact HB.out)⟩
  · rw [if_neg c3] at H
    have c3b0 : (a0_0 == a1_0) = false := beq_eq_false_iff_ne.mpr c3
    have c3b1 : (a0_0 != a1_0) = true := bne_iff_ne.mpr c3
    obtain rfl := Option.some.inj H
    go_enter Try.func18, Try.ntmps18
    go_wp2_with (first | ((with_reducible refine gate_dst (N := 2) rfl ?_); refine box_event ?hg (N := 2) ?hd (cs := #[.int .i64 a0_0, .string a0_1, .string a0_2, .int .i64 a0_3, .int .i64 a0_4]) (t := 24) ?hr ?_; (case hd => rfl); (case hg => rfl); (case hr => first | (go_simp; done) | (go_simp; rfl)); intro gb166 hg w33 hbox hb; have n0_ := Aside0.mk (below_step (by repeat (first | (with_reducible first | exact HB.out | apply below_alloc | apply pw_below_drewN | apply below_drew1) | exact HB.out)) hb); have n1_ := Aside0.mk (hbox); have n2_ := Aside0.mk ((by rw [hg]; exact (below_size (by repeat (first | (with_reducible first | exact HB.out | apply below_alloc | apply pw_below_drewN | apply below_drew1) | exact HB.out))) : w.heap.size ≤ gb166)); have n3_ := Aside0.mk ((by rw [hg]; exact (below_size (by repeat (first | (with_reducible first | exact HB.out | apply below_alloc | apply pw_below_drewN | apply below_drew1) | exact HB.out))) : w.heap.size ≤ gb166)); clear HB; have HB := n0_; have BK166 := n1_; have GW166 := n2_; have GE166 := n3_; clear n0_ n1_ n2_ n3_; clear hb hbox hg) | ((with_reducible refine gate_dst (N := 3) rfl ?_); refine box_event ?hg (N := 3) ?hd (cs := #[.int .i64 a1_0, .string a1_1, .string a1_2, .int .i64 a1_3, .int .i64 a1_4]) (t := 24) ?hr ?_; (case hd => rfl); (case hg => rfl); (case hr => first | (go_simp; done) | (go_simp; rfl)); intro gb167 hg w34 hbox hb; have n0_ := Aside0.mk (blk_below (g := gb166) (o := .cells #[.int .i64 a0_0, .string a0_1, .string a0_2, .int .i64 a0_3, .int .i64 a0_4] 24 (0, 0)) (by (with_reducible repeat (first | refine blk_drewN ?_ _ | refine blk_drew ?_ | refine blk_alloc ?_ _)); exact BK166.out) hb); have n1_ := Aside0.mk (below_step (by repeat (first | (with_reducible first | exact HB.out | apply below_alloc | apply pw_below_drewN | apply below_drew1 | refine below_set ?_ GE166.out) | exact HB.out)) hb); have n2_ := Aside0.mk (hbox); have n3_ := Aside0.mk ((by rw [hg]; exact (below_size (by repeat (first | (with_reducible first | exact HB.out | apply below_alloc | apply pw_below_drewN | apply below_drew1 | refine below_set ?_ GE166.out) | exact HB.out))) : w.heap.size ≤ gb167)); have n4_ := Aside0.mk ((by rw [hg]; exact (below_size (by repeat (first | (with_reducible first | exact HB.out | apply below_alloc | apply pw_below_drewN | apply below_drew1 | refine below_set ?_ GE166.out) | exact HB.out))) : w.heap.size ≤ gb167)); have n5_ := Aside0.mk ((by rw [hg]; exact Nat.ne_of_lt (blk_lt (g := gb166) (o := .cells #[.int .i64 a0_0, .string a0_1, .string a0_2, .int .i64 a0_3, .int .i64 a0_4] 24 (0, 0)) (by (with_reducible repeat (first | refine blk_drewN ?_ _ | refine blk_drew ?_ | refine blk_alloc ?_ _)); exact BK166.out)) : gb166 ≠ gb167)); have n6_ := Aside0.mk ((by rw [hg]; exact Nat.ne_of_gt (blk_lt (g := gb166) (o := .cells #[.int .i64 a0_0, .string a0_1, .string a0_2, .int .i64 a0_3, .int .i64 a0_4] 24 (0, 0)) (by (with_reducible repeat (first | refine blk_drewN ?_ _ | refine blk_drew ?_ | refine blk_alloc ?_ _)); exact BK166.out)) : gb167 ≠ gb166)); clear BK166; clear HB; have BK166 := n0_; have HB := n1_; have BK167 := n2_; have GW167 := n3_; have GE167 := n4_; have NB166_167 := n5_; have NB167_166 := n6_; clear n0_ n1_ n2_ n3_ n4_ n5_ n6_; clear hb hbox hg; have hnb35 := NB166_167.out; have hnc35 := NB167_166.out; have hcz36_0 : w34.cell? ⟨gb166, 0, none⟩ = some (.int .i64 a0_0) := (blk_cell BK166.out 0).trans rfl; have hcz36_1 : w34.cell? ⟨gb166, 1, none⟩ = some (.string a0_1) := (blk_cell BK166.out 1).trans rfl; have hcz36_2 : w34.cell? ⟨gb166, 2, none⟩ = some (.string a0_2) := (blk_cell BK166.out 2).trans rfl; have hcz36_3 : w34.cell? ⟨gb166, 3, none⟩ = some (.int .i64 a0_3) := (blk_cell BK166.out 3).trans rfl; have hcz36_4 : w34.cell? ⟨gb166, 4, none⟩ = some (.int .i64 a0_4) := (blk_cell BK166.out 4).trans rfl; have hfz36_0 := blk_frozen BK166.out 0; have hfz36_1 := blk_frozen BK166.out 1; have hfz36_2 := blk_frozen BK166.out 2; have hfz36_3 := blk_frozen BK166.out 3; have hfz36_4 := blk_frozen BK166.out 4; have hcz37_0 : w34.cell? ⟨gb167, 0, none⟩ = some (.int .i64 a1_0) := (blk_cell BK167.out 0).trans rfl; have hcz37_1 : w34.cell? ⟨gb167, 1, none⟩ = some (.string a1_1) := (blk_cell BK167.out 1).trans rfl; have hcz37_2 : w34.cell? ⟨gb167, 2, none⟩ = some (.string a1_2) := (blk_cell BK167.out 2).trans rfl; have hcz37_3 : w34.cell? ⟨gb167, 3, none⟩ = some (.int .i64 a1_3) := (blk_cell BK167.out 3).trans rfl; have hcz37_4 : w34.cell? ⟨gb167, 4, none⟩ = some (.int .i64 a1_4) := (blk_cell BK167.out 4).trans rfl; have hfz37_0 := blk_frozen BK167.out 0; have hfz37_1 := blk_frozen BK167.out 1; have hfz37_2 := blk_frozen BK167.out 2; have hfz37_3 := blk_frozen BK167.out 3; have hfz37_4 := blk_frozen BK167.out 4))
    go_ret
    exact ⟨by first | rfl | (simp [errW_none, errW_some] <;> rfl) | (simp [*, errW_none, errW_some] <;> rfl), by repeat (first | (with_reducible first | exact HB.out | apply below_alloc | apply pw_below_drewN | apply below_drew1 | refine below_set ?_ GE166.out | refine below_set ?_ GE167.out) | exact HB.out)⟩

end Go.Proofs.Ytbkmjhebpemfpaa.PE
