/- The machine's side of Go functions: each as a plain function, and that the call does what it says. Written by a program (wip/mprint). -/
import Derived.Test.YtcbpfofkdipjhaaNEPGx0
import Derived.Test.YtcbpfofkdipjhaaNEPGx6
import Derived.Test.YtcbpfofkdipjhaaNEPGx8
import Derived.Lib.Hide
import Derived.Lib.Builder
import Derived.StillTailTactics
namespace Go.Proofs.Ytcbpfofkdipjhaa.PG
open Go.RowKit Go.Proofs.YtcbpfofkdipjhaaW.PrintWords Go.Proofs.YtcbpfofkdipjhaaW.PrintLast Go.Proofs.YtcbpfofkdipjhaaW.PrintMore
attribute [local go_sem] max2_int min2_int max_two min_two max_three min_three max_four min_four   -- for this text's walks alone
set_option linter.unusedVariables false
set_option linter.unusedSimpArgs false

/-! ### impl_LedgerOk: function 27 -/
def impl_LedgerOk.f (k : Nat) (a0_0 : Int) (l0_1 : List (S63)) : Option (Bool) := (impl_inRange.f a0_0 0 900).bind fun t193 => (if t193 = true then ((impl_AcctsOk.f k l0_1).bind fun t194 => (some t194)) else (some false))
theorem impl_LedgerOk.mono : ∀ a0 a1 k, LeO (impl_LedgerOk.f k a0 a1) (impl_LedgerOk.f (k + 1) a0 a1) := by
  intro a0 a1 k
  unfold impl_LedgerOk.f
  repeat' first
      | (with_reducible exact impl_AcctsOk.mono _ _)
      | (with_reducible exact LeO.refl _)
      | (with_reducible exact LeO.none _)
      | (with_reducible refine LeO.ite ?_ ?_)
      | (with_reducible refine LeO.bind ?_ (fun _ => ?_))
      | exact impl_AcctsOk.mono _ _
      | exact LeO.none _
      | refine LeO.ite ?_ ?_
      | refine LeO.bind ?_ (fun _ => ?_)
set_option maxHeartbeats 8000000 in
set_option maxRecDepth 100000 in
theorem impl_LedgerOk.calls (k : Nat) (a0_0 : Int) (A0_1 : Option Addr) (c0_1 : Nat) (l0_1 : List (S63)) (r : Bool) (w : World) (hr0_1 : Kd.C k63 w A0_1 l0_1.length l0_1) (hc0_1 : l0_1.length ≤ c0_1) (h : impl_LedgerOk.f k a0_0 l0_1 = some r) :
    Calls Try.prog 27 #[.agg #[.int .i64 a0_0, .slice A0_1 l0_1.length c0_1]] w fun e w' => e = .returned (.bool r) ∧ Below w.heap.size w w' := by
  have hu31 := Try.underlying31
  have HR0_1 := Aside0.mk hr0_1
  have HC0_1 := Aside0.mk hc0_1
  clear hr0_1 hc0_1
  have HB := Aside0.mk (Below.refl w.heap.size w)
  have H : ((impl_inRange.f a0_0 0 900).bind fun t193 => (if t193 = true then ((impl_AcctsOk.f k l0_1).bind fun t194 => (some t194)) else (some false))) = some r := h
  clear h
  replace H := Option.bind_eq_some_iff.mp H
  obtain ⟨t193, A20, H⟩ := H
  replace H : (if t193 = true then ((impl_AcctsOk.f k l0_1).bind fun t194 => (some t194)) else (some false)) = some r := H
  have A2 := Aside0.mk A20
  clear A20
  by_cases c3 : t193 = true
  · subst c3
    have H1 : ((impl_AcctsOk.f k l0_1).bind fun t194 => (some t194)) = some r := by rw [if_pos rfl] at H; exact H
    clear H
    have H := H1
    clear H1
    replace H := Option.bind_eq_some_iff.mp H
    obtain ⟨t194, A40, H⟩ := H
    replace H : (some t194) = some r := H
    have A4 := Aside0.mk A40
    clear A40
    obtain rfl := Option.some.inj H
    go_enter Try.func27, Try.ntmps27
    go_wp2_with (first | ((with_reducible refine gate_dst (N := 1) rfl ?_); refine box_event ?hg (N := 1) ?hd (cs := #[.int .i64 a0_0, .slice A0_1 l0_1.length c0_1]) (t := 31) ?hr ?_; (case hd => rfl); (case hg => rfl); (case hr => first | (go_simp; done) | (go_simp; rfl)); intro gb192 hg w5 hbox hb; have n0_ := Aside0.mk (below_step (by repeat (first | (with_reducible first | exact HB.out | apply below_alloc | apply pw_below_drewN | apply below_drew1) | exact HB.out)) hb); have n1_ := Aside0.mk (hbox); have n2_ := Aside0.mk ((by rw [hg]; exact (below_size (by repeat (first | (with_reducible first | exact HB.out | apply below_alloc | apply pw_below_drewN | apply below_drew1) | exact HB.out))) : w.heap.size ≤ gb192)); have n3_ := Aside0.mk ((by rw [hg]; exact (below_size (by repeat (first | (with_reducible first | exact HB.out | apply below_alloc | apply pw_below_drewN | apply below_drew1) | exact HB.out))) : w.heap.size ≤ gb192)); clear HB; have HB := n0_; have BK192 := n1_; have GW192 := n2_; have GE192 := n3_; clear n0_ n1_ n2_ n3_; clear hb hbox hg; have hcz6_0 : w5.cell? ⟨gb192, 0, none⟩ = some (.int .i64 a0_0) := (blk_cell BK192.out 0).trans rfl; have hcz6_1 : w5.cell? ⟨gb192, 1, none⟩ = some (.slice A0_1 l0_1.length c0_1) := (blk_cell BK192.out 1).trans rfl; have hfz6_0 := blk_frozen BK192.out 0; have hfz6_1 := blk_frozen BK192.out 1) | ((with_reducible refine gate_callee (f := 69) rfl ?_); refine goesL_ (some 5) rfl rfl Try.func69 (by kernel_rfl) rfl #[.int .i64 a0_0, .int .i64 0, .int .i64 900] rfl (by (try simp only [List.map_toArray, List.map_cons, List.map_nil]); first | done | rfl | (simp only [List.length_drop, List.length_take]; rfl)) ?_; (with_reducible refine (impl_inRange.calls a0_0 0 900 true _ A2.out).mono ?_); rintro e w' ⟨rfl, ⟨nd, rfl⟩⟩; refine ⟨_, rfl, ?_⟩) | (go_at_call 44; (with_reducible refine (impl_AcctsOk.calls k _ _ l0_1 t194 _ ?side1 ?side2 A4.out).mono ?_); (case side1 => repeat (first | exact (Kd.C_below HR0_1.out (by repeat (first | (with_reducible first | exact HB.out | apply below_alloc | apply pw_below_drewN | apply below_drew1 | refine below_set ?_ GE192.out) | exact HB.out))) | (with_reducible refine Kd.C_alloc ?_ _) | (with_reducible refine Kd.C_drewN ?_ _) | (with_reducible refine Kd.C_drew ?_))); (case side2 => exact HC0_1.out); rintro e w7 ⟨rfl, hb⟩; have n0_ := Aside0.mk (blk_below (g := gb192) (o := .cells #[.int .i64 a0_0, .slice A0_1 l0_1.length c0_1] 31 (0, 0)) (by (with_reducible repeat (first | refine blk_drewN ?_ _ | refine blk_drew ?_ | refine blk_alloc ?_ _)); exact BK192.out) hb); have n1_ := Aside0.mk (below_step (by repeat (first | (with_reducible first | exact HB.out | apply below_alloc | apply pw_below_drewN | apply below_drew1 | refine below_set ?_ GE192.out) | exact HB.out)) hb); clear BK192; clear HB; have BK192 := n0_; have HB := n1_; clear n0_ n1_; (try clear hb); (try clear hb2); (try clear hk); (try clear hi)))
    go_ret
    exact ⟨by first | rfl | (simp [errW_none, errW_some] <;> rfl) | (simp [*, errW_none, errW_some] <;> rfl), by repeat (first | (with_reducible first | exact HB.out | apply below_alloc | apply pw_below_drewN | apply below_drew1 | refine below_set ?_ GE192.out) | exact HB.out)⟩
  · replace c3 := Bool.eq_false_iff.mpr c3
    subst c3
    have H1 : (some false) = some r := by rw [if_neg (show ¬ (false = true) by decide)] at H; exact H
    clear H
    have H := H1
    clear H1
    obtain rfl := Option.some.inj H
    go_enter Try.func27, Try.ntmps27
    go_wp2_with (first | ((with_reducible refine gate_dst (N := 1) rfl ?_); refine box_event ?hg (N := 1) ?hd (cs := #[.int .i64 a0_0, .slice A0_1 l0_1.length c0_1]) (t := 31) ?hr ?_; (case hd => rfl); (case hg => rfl); (case hr => first | (go_simp; done) | (go_simp; rfl)); intro gb192 hg w8 hbox hb; have n0_ := Aside0.mk (below_step (by repeat (first | (with_reducible first | exact HB.out | apply below_alloc | apply pw_below_drewN | apply below_drew1) | exact HB.out)) hb); have n1_ := Aside0.mk (hbox); have n2_ := Aside0.mk ((by rw [hg]; exact (below_size (by repeat (first | (with_reducible first | exact HB.out | apply below_alloc | apply pw_below_drewN | apply below_drew1) | exact HB.out))) : w.heap.size ≤ gb192)); have n3_ := Aside0.mk ((by rw [hg]; exact (below_size (by repeat (first | (with_reducible first | exact HB.out | apply below_alloc | apply pw_below_drewN | apply below_drew1) | exact HB.out))) : w.heap.size ≤ gb192)); clear HB; have HB := n0_; have BK192 := n1_; have GW192 := n2_; have GE192 := n3_; clear n0_ n1_ n2_ n3_; clear hb hbox hg; have hcz9_0 : w8.cell? ⟨gb192, 0, none⟩ = some (.int .i64 a0_0) := (blk_cell BK192.out 0).trans rfl; have hcz9_1 : w8.cell? ⟨gb192, 1, none⟩ = some (.slice A0_1 l0_1.length c0_1) := (blk_cell BK192.out 1).trans rfl; have hfz9_0 := blk_frozen BK192.out 0; have hfz9_1 := blk_frozen BK192.out 1) | ((with_reducible refine gate_callee (f := 69) rfl ?_); refine goesL_ (some 5) rfl rfl Try.func69 (by kernel_rfl) rfl #[.int .i64 a0_0, .int .i64 0, .int .i64 900] rfl (by (try simp only [List.map_toArray, List.map_cons, List.map_nil]); first | done | rfl | (simp only [List.length_drop, List.length_take]; rfl)) ?_; (with_reducible refine (impl_inRange.calls a0_0 0 900 false _ A2.out).mono ?_); rintro e w' ⟨rfl, ⟨nd, rfl⟩⟩; refine ⟨_, rfl, ?_⟩))
    go_ret
    exact ⟨by first | rfl | (simp [errW_none, errW_some] <;> rfl) | (simp [*, errW_none, errW_some] <;> rfl), by repeat (first | (with_reducible first | exact HB.out | apply below_alloc | apply pw_below_drewN | apply below_drew1 | refine below_set ?_ GE192.out) | exact HB.out)⟩

/-! ### impl_Leave: function 121 -/
def impl_Leave.f (l0 : List S65) : Option (List S65) := if l0.length < 8796093022208 then (some l0) else (none)
set_option maxHeartbeats 8000000 in
set_option maxRecDepth 100000 in
theorem impl_Leave.calls (A0 : Option Addr) (c0 : Nat) (l0 : List S65) (r : List S65) (w : World) (hr0 : Kd.C k65 w A0 l0.length l0) (hc0 : l0.length ≤ c0) (h : impl_Leave.f l0 = some r) :
    Calls Try.prog 121 #[.slice A0 l0.length c0] w fun e w' => ∃ v0_ : Value, e = .returned (v0_) ∧ Kd.R k65 65 w' w.heap.size (fun _ => True) v0_ r ∧ Below w.heap.size w w' := by
  have HR0 := Aside0.mk hr0
  have HC0 := Aside0.mk hc0
  have HB := Aside0.mk (Below.refl w.heap.size w)
  have H : (if l0.length < 8796093022208 then (some l0) else (none)) = some r := h
  clear h
  by_cases c2 : l0.length < 8796093022208
  · rw [if_pos c2] at H
    have LM := Aside0.mk c2
    clear c2
    obtain rfl := Option.some.inj H
    clear H
    cases A0 with
    | none =>
      have hl : l0 = [] := by
        cases l0 with
        | nil => rfl
        | cons x t =>
          obtain ⟨_, _, h2⟩ := hr0
          obtain ⟨ad, e, _⟩ := h2 (by simp)
          cases e
      clear hr0 hc0
      subst hl
      have heq := fun (W : World) (c : Nat) => Lib.run_eql_slice_nil (P := Try.prog) W 61 65 none 0 c 0 0 Try.underlying61
      go_enter Try.func121, Try.ntmps121
      go_wp2
      go_ret
      exact ⟨_, rfl, Kd.R_nil _ _ _ _ _, Below.refl _ _⟩
    | some ad =>
      clear hr0 hc0
      have heq := fun (W : World) (n c : Nat) => Lib.run_eql_slice_nil (P := Try.prog) W 61 65 (some ad) n c 0 0 Try.underlying61
      go_enter Try.func121, Try.ntmps121
      go_wp2_with (first | ((with_reducible refine gate_dst (N := 5) rfl ?_); refine Kd.R_lit k65 _ 65 ?hg (N := 5) ?hd (xs := ([] : List S65)) (inner := []) (ok := fun _ => True) (okp := fun _ => True) ?hr ?hp (fun _ hk => hk) trivial (Below.refl _ _) (Nat.le_refl _) (by simp) ?_; (case hd => rfl); (case hg => rfl); (case hr => first | (go_simp; done) | (go_simp; rfl) | (obtain ⟨_, _, rfl⟩ := Kd.R_slice HO110.out; first | (go_simp; done) | (go_simp; rfl)) | (obtain ⟨_, _, rfl⟩ := Kd.R_slice HO113.out; first | (go_simp; done) | (go_simp; rfl))); (case hp => exact (Reps.none _ _)); intro v109 w4 ho5 hb hg_ hnew_; clear hg_ hnew_; have n0_ := Aside0.mk (Kd.R_lower ho5 (below_size (by repeat (first | (with_reducible first | exact HB.out | apply below_alloc | apply pw_below_drewN | apply below_drew1) | exact HB.out)))); have n1_ := Aside0.mk (below_step (by repeat (first | (with_reducible first | exact HB.out | apply below_alloc | apply pw_below_drewN | apply below_drew1) | exact HB.out)) hb); clear HB; have HO110 := n0_; have HB := n1_; clear n0_ n1_; clear hb ho5) | ((with_reducible refine gate_builtin (b := .append) (xs := #[.tmp 5, .tmp 6]) rfl ?_); at_builtin; refine Kd.R_append_rows k65 (w0 := w) w.heap.size rfl (.tmp 5) (.tmp 6) 61 65 (.agg #[.int .i64 0, .int .i64 0]) 16 rfl Try.underlying61 info65 rfl (by decide) (by omega) v109 ([] : List S65) l0 _ _ _ (fun _ => True) (fun _ => False) rfl rfl ?aO ?aR (fun _ _ h => h) (fun _ h => h.elim) ?aF ?aB ?aS ?aL ?_; (case aR => repeat (first | exact (Kd.C_below HR0.out HB.out) | (with_reducible refine Kd.C_alloc ?_ _) | (with_reducible refine Kd.C_drewN ?_ _) | (with_reducible refine Kd.C_drew ?_))); (case aB => exact (by repeat (first | (with_reducible first | exact HB.out | apply below_alloc | apply pw_below_drewN | apply below_drew1) | exact HB.out))); (case aF => exact (fun _ _ => trivial)); (case aO => exact (by (with_reducible repeat (first | apply Kd.R_alloc | apply Kd.R_drewN | apply Kd.R_drew)); exact HO110.out)); (case aS => exact (below_size (by repeat (first | (with_reducible first | exact HB.out | apply below_alloc | apply pw_below_drewN | apply below_drew1) | exact HB.out)))); (case aL => have := LM.out; simp only [List.length_nil]; omega); intro v112 w6 ho hb hg hat; have n0_ := Aside0.mk (hb); have n1_ := Aside0.mk (ho); clear HB; clear HO110; have HB := n0_; have HO113 := n1_; clear n0_ n1_; clear ho hb hg hat))
      go_ret
      exact ⟨_, rfl, HO113.out, HB.out⟩
  · rw [if_neg c2] at H
    exact absurd H (by simp)

/-! ### impl_copyAccts: function 87 -/
def impl_copyAccts.l0 : Nat → List (S63) → List (S63) → Int → Int → Option ((List (S63)))
  | 0, _, _, _, _ => none
  | k + 1, x3, x6, x7, x8 => if x8 < x7 then (if 0 ≤ x8 then (if x8 < (x6.length : Int) then ((impl_Leave.f ((rd_T63 x6 x8).f4)).bind fun t197 => (if x3.length < 2199023255552 then (impl_copyAccts.l0 k (x3 ++ [(⟨(rd_T63 x6 x8).f0, (rd_T63 x6 x8).f1, (rd_T63 x6 x8).f2, (rd_T63 x6 x8).f3, t197⟩ : S63)]) x6 x7 (wrap64 (x8 + 1))) else (none))) else (none)) else (none)) else (some x3)
def impl_copyAccts.f (k : Nat) (l0 : List (S63)) : Option ((List (S63))) := impl_copyAccts.l0 k ([] : List (S63)) l0 (l0.length : Int) 0
theorem impl_copyAccts.mono_l : ∀ k, (∀ y0 y1 y2 y3, LeO (impl_copyAccts.l0 k y0 y1 y2 y3) (impl_copyAccts.l0 (k + 1) y0 y1 y2 y3))
  | 0 => fun _ _ _ _ r h => by simp [impl_copyAccts.l0] at h
  | k + 1 => by
    have ih0 := impl_copyAccts.mono_l k
    · intro y0 y1 y2 y3
      unfold impl_copyAccts.l0
      repeat' first
      | (with_reducible exact ih0 _ _ _ _)
      | (with_reducible exact LeO.refl _)
      | (with_reducible exact LeO.none _)
      | (with_reducible refine LeO.ite ?_ ?_)
      | (with_reducible refine LeO.bind ?_ (fun _ => ?_))
      | exact ih0 _ _ _ _
      | exact LeO.none _
      | refine LeO.ite ?_ ?_
      | refine LeO.bind ?_ (fun _ => ?_)
theorem impl_copyAccts.mono : ∀ a0 k, LeO (impl_copyAccts.f k a0) (impl_copyAccts.f (k + 1) a0) := by
  intro a0 k
  have ih0 := impl_copyAccts.mono_l k
  unfold impl_copyAccts.f
  repeat' first
      | (with_reducible exact ih0 _ _ _ _)
      | (with_reducible exact LeO.refl _)
      | (with_reducible exact LeO.none _)
      | (with_reducible refine LeO.ite ?_ ?_)
      | (with_reducible refine LeO.bind ?_ (fun _ => ?_))
      | exact ih0 _ _ _ _
      | exact LeO.none _
      | refine LeO.ite ?_ ?_
      | refine LeO.bind ?_ (fun _ => ?_)
set_option maxHeartbeats 8000000 in
set_option maxRecDepth 100000 in
theorem impl_copyAccts.calls (k : Nat) (A0 : Option Addr) (c0 : Nat) (l0 : List (S63)) (r : List (S63)) (w : World) (hr0 : Kd.C k63 w A0 l0.length l0) (hc0 : l0.length ≤ c0) (h : impl_copyAccts.f k l0 = some r) :
    Calls Try.prog 87 #[.slice A0 l0.length c0] w fun e w' => ∃ v0_ : Value, e = .returned (v0_) ∧ Kd.S k63 63 w' w.heap.size (fun _ => True) v0_ r ∧ Below w.heap.size w w' := by
  have hu63 := Try.underlying63
  have HR0 := Aside0.mk hr0
  have HC0 := Aside0.mk hc0
  clear hr0 hc0
  have HB := Aside0.mk (Below.refl w.heap.size w)
  have H : (impl_copyAccts.l0 k ([] : List (S63)) l0 (l0.length : Int) 0) = some r := h
  clear h
  have H' := Aside0.mk H
  clear H
  go_enter Try.func87, Try.ntmps87
  go_wp2
  go_loopg [3, 8] k (fun kq v3 v8 w' => ∃ (x3_1 : List (S63)) (x8_1 : Int), v8 = .int .i64 x8_1 ∧ Aside0 (impl_copyAccts.l0 kq x3_1 l0 (l0.length : Int) x8_1 = some r) ∧ Aside0 (kq ≤ k) ∧ Aside0 (Kd.S k63 63 w' w.heap.size (fun _ => True) v3 x3_1) ∧ Aside0 (Below w.heap.size w w'))
  case atStart => exact ⟨(([] : List (S63))), (0), (by first | rfl | (simp; done) | (simp [*]; done)), H', ⟨Nat.le_refl _⟩, ⟨by first | exact Kd.S_nil _ _ _ _ _ | exact Kd.N_nil _ _ _ _ _ | exact Kd.V_nil _ _ _ _ _ | exact Kd.Q_nil _ _ _ _ _ | exact Kd.R_nil _ _ _ _ _⟩, ⟨by repeat (first | (with_reducible first | exact HB.out | apply below_alloc | apply pw_below_drewN | apply below_drew1) | exact HB.out)⟩⟩
  case round =>
    clear H'
    obtain ⟨x3_1, x8_1, rfl, HA, HK1, HO_3, HB⟩ := hrel
    cases gk with
    | zero => exact absurd HA.out (by simp [impl_copyAccts.l0])
    | succ k1 =>
      have H := HA.out
      clear HA
      simp only [impl_copyAccts.l0] at H
      by_cases c2 : x8_1 < (l0.length : Int)
      · rw [if_pos c2] at H
        have c2b0 : decide (x8_1 < (l0.length : Int)) = true := decide_eq_true c2
        clear c2
        by_cases c3 : 0 ≤ x8_1
        · rw [if_pos c3] at H
          have c3b0 : decide (0 ≤ x8_1) = true := decide_eq_true c3
          clear c3
          by_cases c4 : x8_1 < (l0.length : Int)
          · rw [if_pos c4] at H
            have c4b0 : decide (x8_1 < (l0.length : Int)) = true := decide_eq_true c4
            clear c4
            replace H := Option.bind_eq_some_iff.mp H
            obtain ⟨t197, A50, H⟩ := H
            replace H : (if x3_1.length < 2199023255552 then (impl_copyAccts.l0 k1 (x3_1 ++ [(⟨(rd_T63 l0 x8_1).f0, (rd_T63 l0 x8_1).f1, (rd_T63 l0 x8_1).f2, (rd_T63 l0 x8_1).f3, t197⟩ : S63)]) l0 (l0.length : Int) (wrap64 (x8_1 + 1))) else (none)) = some r := H
            have A5 := Aside0.mk A50
            clear A50
            by_cases c6 : x3_1.length < 2199023255552
            · rw [if_pos c6] at H
              have LMc6 := Aside0.mk c6
              clear c6
              obtain ⟨y200, hy200⟩ : ∃ y_ : List (S63), y_ = (x3_1 ++ [(⟨(rd_T63 l0 x8_1).f0, (rd_T63 l0 x8_1).f1, (rd_T63 l0 x8_1).f2, (rd_T63 l0 x8_1).f3, t197⟩ : S63)]) := ⟨_, rfl⟩
              replace H : (impl_copyAccts.l0 k1 y200 l0 (l0.length : Int) (wrap64 (x8_1 + 1))) = some r := by first | (rw [hy200]; with_reducible exact H) | (have H2_ := (Option.bind_some _ _).symm.trans H; rw [hy200]; with_reducible exact H2_) | (have H2_ := (Option.bind_some _ _).symm.trans H; with_reducible exact H2_) | with_reducible exact H | (rw [hy200]; exact H) | exact H
              have Ny200 := Aside0.mk hy200
              clear hy200
              have H' := Aside0.mk H
              clear H
              have p195 : 0 ≤ (x8_1 : Int) := of_decide_eq_true (by first | (with_reducible assumption) | assumption)
              have q195 : x8_1 < (l0.length : Int) := of_decide_eq_true (by first | (with_reducible assumption) | assumption)
              obtain ⟨ad195, A195_4, c195_4, e195, hx195_0, hx195_1, hx195_2, hx195_3, hx195_4, hl195_4, hi195_4⟩ := at_T63 HR0.out x8_1 p195 q195
              cases e195
              replace hx195_0 := (HB.out.cell (World.block_lt_of_cell? w _ hx195_0)).trans hx195_0
              replace hx195_1 := (HB.out.cell (World.block_lt_of_cell? w _ hx195_1)).trans hx195_1
              replace hx195_2 := (HB.out.cell (World.block_lt_of_cell? w _ hx195_2)).trans hx195_2
              replace hx195_3 := (HB.out.cell (World.block_lt_of_cell? w _ hx195_3)).trans hx195_3
              replace hx195_4 := (HB.out.cell (World.block_lt_of_cell? w _ hx195_4)).trans hx195_4
              have HR195_4 := Aside0.mk hi195_4
              have HC195_4 := Aside0.mk hl195_4
              clear hi195_4 hl195_4
              replace p195 := eq_true p195
              replace q195 := eq_true q195
              go_wp2_with (first | ((with_reducible refine gate_dst (N := 5) rfl ?_); refine box_event ?hg (N := 5) ?hd (cs := #[.string (⟨#[]⟩ : ByteArray), .int .i64 0, .int .i64 0, .int .i64 0, .slice none 0 0]) (t := 63) ?hr ?_; (case hd => rfl); (case hg => rfl); (case hr => first | (go_simp; done) | (go_simp; rfl) | (obtain ⟨_, _, rfl⟩ := Kd.R_slice HO199.out; first | (go_simp; done) | (go_simp; rfl)) | (obtain ⟨_, _, rfl⟩ := Kd.R_slice HO202.out; first | (go_simp; done) | (go_simp; rfl))); intro gb196 hg w7 hbox hb; have n0_ := Aside0.mk (Kd.S_below (Kd.S_elderB (by (with_reducible repeat (first | apply Kd.S_alloc | apply Kd.S_drewN | apply Kd.S_drew)); exact HO_3.out) gb196 (Nat.le_of_eq hg.symm)) hb); have n1_ := Aside0.mk (below_step (by repeat (first | (with_reducible first | exact HB.out | apply below_alloc | apply pw_below_drewN | apply below_drew1) | exact HB.out)) hb); have n2_ := Aside0.mk (hbox); have n3_ := Aside0.mk ((by rw [hg]; exact (below_size (by repeat (first | (with_reducible first | exact HB.out | apply below_alloc | apply pw_below_drewN | apply below_drew1) | exact HB.out))) : w.heap.size ≤ gb196)); have n4_ := Aside0.mk ((by rw [hg]; exact (below_size (by repeat (first | (with_reducible first | exact HB.out | apply below_alloc | apply pw_below_drewN | apply below_drew1) | exact HB.out))) : w.heap.size ≤ gb196)); clear HO_3; clear HB; have HO_3 := n0_; have HB := n1_; have BK196 := n2_; have GW196 := n3_; have GE196 := n4_; clear n0_ n1_ n2_ n3_ n4_; clear hb hbox hg; have hcz8_0 : w7.cell? ⟨gb196, 0, none⟩ = some (.string (⟨#[]⟩ : ByteArray)) := (blk_cell BK196.out 0).trans rfl; have hcz8_1 : w7.cell? ⟨gb196, 1, none⟩ = some (.int .i64 0) := (blk_cell BK196.out 1).trans rfl; have hcz8_2 : w7.cell? ⟨gb196, 2, none⟩ = some (.int .i64 0) := (blk_cell BK196.out 2).trans rfl; have hcz8_3 : w7.cell? ⟨gb196, 3, none⟩ = some (.int .i64 0) := (blk_cell BK196.out 3).trans rfl; have hcz8_4 : w7.cell? ⟨gb196, 4, none⟩ = some (.slice none 0 0) := (blk_cell BK196.out 4).trans rfl; have hfz8_0 := blk_frozen BK196.out 0; have hfz8_1 := blk_frozen BK196.out 1; have hfz8_2 := blk_frozen BK196.out 2; have hfz8_3 := blk_frozen BK196.out 3; have hfz8_4 := blk_frozen BK196.out 4) | ((with_reducible refine gate_callee (f := 121) rfl ?_); refine goesL_ (some 14) rfl rfl Try.func121 (by kernel_rfl) rfl #[.slice A195_4 ((rd_T63 l0 x8_1).f4).length c195_4] rfl (by (try simp only [List.map_toArray, List.map_cons, List.map_nil]); first | done | rfl | (simp only [List.length_drop, List.length_take]; rfl)) ?_; (with_reducible refine (impl_Leave.calls _ _ ((rd_T63 l0 x8_1).f4) t197 _ ?side1 ?side2 A5.out).mono ?_); (case side1 => exact Kd.C_below HR195_4.out (by repeat (first | (with_reducible first | exact HB.out | apply below_alloc | apply pw_below_drewN | apply below_drew1 | refine below_set ?_ GE196.out) | exact HB.out))); (case side2 => exact HC195_4.out); rintro e w9 ⟨v198, rfl, ho0, hb⟩; refine ⟨_, rfl, ?_⟩; have n0_ := Aside0.mk (Kd.S_elder' (by (with_reducible repeat (first | apply Kd.S_alloc | apply Kd.S_drewN | apply Kd.S_drew)); exact (Kd.S_mono (Kd.S_far (p := ⟨gb196, 4, none⟩) (Kd.S_far (p := ⟨gb196, 3, none⟩) (Kd.S_far (p := ⟨gb196, 2, none⟩) (Kd.S_far (p := ⟨gb196, 1, none⟩) (Kd.S_far (p := ⟨gb196, 0, none⟩) (Kd.S_mono HO_3.out (fun k_ hk => (⟨hk, hk.2⟩ : _ ∧ k_ ≠ gb196))) (fun _ hk => hk.2) (.string ((rd_T63 l0 x8_1).f0))) (fun _ hk => hk.2) (.int .i64 ((rd_T63 l0 x8_1).f1))) (fun _ hk => hk.2) (.int .i64 ((rd_T63 l0 x8_1).f2))) (fun _ hk => hk.2) (.int .i64 ((rd_T63 l0 x8_1).f3))) (fun _ hk => hk.2) (.slice A195_4 ((rd_T63 l0 x8_1).f4).length c195_4)) (fun _ h_ => h_.1))) (Kd.R_base ho0) hb); have n1_ := Aside0.mk (Kd.R_lower ho0 (below_size (by repeat (first | (with_reducible first | exact HB.out | apply below_alloc | apply pw_below_drewN | apply below_drew1 | refine below_set ?_ GE196.out) | exact HB.out)))); have n2_ := Aside0.mk (blk_below (g := gb196) (o := .cells #[.string ((rd_T63 l0 x8_1).f0), .int .i64 ((rd_T63 l0 x8_1).f1), .int .i64 ((rd_T63 l0 x8_1).f2), .int .i64 ((rd_T63 l0 x8_1).f3), .slice A195_4 ((rd_T63 l0 x8_1).f4).length c195_4] 63 (0, 0)) (by (with_reducible repeat (first | refine blk_drewN ?_ _ | refine blk_drew ?_ | refine blk_alloc ?_ _)); refine blk_put (cs := #[.string ((rd_T63 l0 x8_1).f0), .int .i64 ((rd_T63 l0 x8_1).f1), .int .i64 ((rd_T63 l0 x8_1).f2), .int .i64 ((rd_T63 l0 x8_1).f3), .slice none 0 0]) ?_ 4 _ rfl; (with_reducible repeat (first | refine blk_drewN ?_ _ | refine blk_drew ?_ | refine blk_alloc ?_ _)); refine blk_put (cs := #[.string ((rd_T63 l0 x8_1).f0), .int .i64 ((rd_T63 l0 x8_1).f1), .int .i64 ((rd_T63 l0 x8_1).f2), .int .i64 0, .slice none 0 0]) ?_ 3 _ rfl; (with_reducible repeat (first | refine blk_drewN ?_ _ | refine blk_drew ?_ | refine blk_alloc ?_ _)); refine blk_put (cs := #[.string ((rd_T63 l0 x8_1).f0), .int .i64 ((rd_T63 l0 x8_1).f1), .int .i64 0, .int .i64 0, .slice none 0 0]) ?_ 2 _ rfl; (with_reducible repeat (first | refine blk_drewN ?_ _ | refine blk_drew ?_ | refine blk_alloc ?_ _)); refine blk_put (cs := #[.string ((rd_T63 l0 x8_1).f0), .int .i64 0, .int .i64 0, .int .i64 0, .slice none 0 0]) ?_ 1 _ rfl; (with_reducible repeat (first | refine blk_drewN ?_ _ | refine blk_drew ?_ | refine blk_alloc ?_ _)); refine blk_put (cs := #[.string (⟨#[]⟩ : ByteArray), .int .i64 0, .int .i64 0, .int .i64 0, .slice none 0 0]) ?_ 0 _ rfl; (with_reducible repeat (first | refine blk_drewN ?_ _ | refine blk_drew ?_ | refine blk_alloc ?_ _)); exact BK196.out) hb); have n3_ := Aside0.mk (below_step (by repeat (first | (with_reducible first | exact HB.out | apply below_alloc | apply pw_below_drewN | apply below_drew1 | refine below_set ?_ GE196.out) | exact HB.out)) hb); clear HO_3; clear BK196; clear HB; have HO_3 := n0_; have HO199 := n1_; have BK196 := n2_; have HB := n3_; clear n0_ n1_ n2_ n3_; (try clear hb); (try clear hb2); (try clear hk); (try clear hi); (try clear ho0); obtain ⟨Ao10, co10, eo10⟩ := Kd.R_slice HO199.out; subst eo10; have hcz11_0 : w9.cell? ⟨gb196, 0, none⟩ = some (.string ((rd_T63 l0 x8_1).f0)) := (blk_cell BK196.out 0).trans rfl; have hcz11_1 : w9.cell? ⟨gb196, 1, none⟩ = some (.int .i64 ((rd_T63 l0 x8_1).f1)) := (blk_cell BK196.out 1).trans rfl; have hcz11_2 : w9.cell? ⟨gb196, 2, none⟩ = some (.int .i64 ((rd_T63 l0 x8_1).f2)) := (blk_cell BK196.out 2).trans rfl; have hcz11_3 : w9.cell? ⟨gb196, 3, none⟩ = some (.int .i64 ((rd_T63 l0 x8_1).f3)) := (blk_cell BK196.out 3).trans rfl; have hcz11_4 : w9.cell? ⟨gb196, 4, none⟩ = some (.slice A195_4 ((rd_T63 l0 x8_1).f4).length c195_4) := (blk_cell BK196.out 4).trans rfl; have hfz11_0 := blk_frozen BK196.out 0; have hfz11_1 := blk_frozen BK196.out 1; have hfz11_2 := blk_frozen BK196.out 2; have hfz11_3 := blk_frozen BK196.out 3; have hfz11_4 := blk_frozen BK196.out 4) | ((with_reducible refine gate_store (t := 61) (p := 15) rfl ?_); refine store_event (t := 61) (p := 15) (v := ?vo_w12) (w1 := (w9.setCell ⟨gb196, 4, none⟩ (.slice Ao10 t197.length co10))) ?hg ?ho ?hn ?hr ?_; (case ho => rfl); (case hg => rfl); (case hn => rfl); (case hr => first | (go_simp; done) | (go_simp; rfl) | (obtain ⟨_, _, rfl⟩ := Kd.R_slice HO199.out; first | (go_simp; done) | (go_simp; rfl)) | (obtain ⟨_, _, rfl⟩ := Kd.R_slice HO202.out; first | (go_simp; done) | (go_simp; rfl))); intro w12 hw; have n0_ : Aside0 (Kd.S k63 63 w12 w.heap.size (fun k_ => some k_ ≠ (.slice Ao10 t197.length co10 : Value).ownBlock ∧ k_ ≠ gb196) u3 x3_1) := ⟨(by rw [hw]; exact (by (with_reducible repeat (first | apply Kd.S_alloc | apply Kd.S_drewN | apply Kd.S_drew)); exact Kd.S_mono (Kd.S_far (p := ⟨gb196, 4, none⟩) (Kd.S_mono HO_3.out (fun k_ hk => (⟨hk, hk.1.2⟩ : _ ∧ k_ ≠ gb196))) (fun _ hk => hk.2) (.slice Ao10 t197.length co10)) (fun _ hk => ⟨hk.1.2, hk.1.1.2⟩)))⟩; have n1_ : Aside0 (Kd.R k65 65 w12 w.heap.size (fun _ => True) (.slice Ao10 t197.length co10) t197) := ⟨(by rw [hw]; exact (by (with_reducible repeat (first | apply Kd.R_alloc | apply Kd.R_drewN | apply Kd.R_drew)); exact Kd.R_mono (Kd.R_far (p := ⟨gb196, 4, none⟩) (Kd.R_types HO199.out BK196.out (by decide)) (fun _ hk => hk.2) (.slice Ao10 t197.length co10)) (fun _ hk => trivial)))⟩; have n2_ : Aside0 (w12.heap[gb196]? = some (.cells #[.string ((rd_T63 l0 x8_1).f0), .int .i64 ((rd_T63 l0 x8_1).f1), .int .i64 ((rd_T63 l0 x8_1).f2), .int .i64 ((rd_T63 l0 x8_1).f3), .slice Ao10 t197.length co10] 63 (0, 0))) := ⟨(by rw [hw]; exact (by (with_reducible repeat (first | refine blk_drewN ?_ _ | refine blk_drew ?_ | refine blk_alloc ?_ _)); refine blk_put (cs := #[.string ((rd_T63 l0 x8_1).f0), .int .i64 ((rd_T63 l0 x8_1).f1), .int .i64 ((rd_T63 l0 x8_1).f2), .int .i64 ((rd_T63 l0 x8_1).f3), .slice A195_4 ((rd_T63 l0 x8_1).f4).length c195_4]) ?_ 4 _ rfl; (with_reducible repeat (first | refine blk_drewN ?_ _ | refine blk_drew ?_ | refine blk_alloc ?_ _)); exact BK196.out))⟩; have n3_ : Aside0 (Below w.heap.size w w12) := ⟨(by rw [hw]; exact (by repeat (first | (with_reducible first | exact HB.out | apply below_alloc | apply pw_below_drewN | apply below_drew1 | refine below_set ?_ GE196.out) | exact HB.out)))⟩; clear hw; clear HO_3; clear HO199; clear BK196; clear HB; have HO_3 := n0_; have HO199 := n1_; have BK196 := n2_; have HB := n3_; clear n0_ n1_ n2_ n3_; have hcz13_0 : w12.cell? ⟨gb196, 0, none⟩ = some (.string ((rd_T63 l0 x8_1).f0)) := (blk_cell BK196.out 0).trans rfl; have hcz13_1 : w12.cell? ⟨gb196, 1, none⟩ = some (.int .i64 ((rd_T63 l0 x8_1).f1)) := (blk_cell BK196.out 1).trans rfl; have hcz13_2 : w12.cell? ⟨gb196, 2, none⟩ = some (.int .i64 ((rd_T63 l0 x8_1).f2)) := (blk_cell BK196.out 2).trans rfl; have hcz13_3 : w12.cell? ⟨gb196, 3, none⟩ = some (.int .i64 ((rd_T63 l0 x8_1).f3)) := (blk_cell BK196.out 3).trans rfl; have hcz13_4 : w12.cell? ⟨gb196, 4, none⟩ = some (.slice Ao10 t197.length co10) := (blk_cell BK196.out 4).trans rfl; have hfz13_0 := blk_frozen BK196.out 0; have hfz13_1 := blk_frozen BK196.out 1; have hfz13_2 := blk_frozen BK196.out 2; have hfz13_3 := blk_frozen BK196.out 3; have hfz13_4 := blk_frozen BK196.out 4) | ((with_reducible refine gate_builtin (b := .append) (xs := #[.tmp 16, .tmp 18]) rfl ?_); at_builtin; refine Kd.S_append k63 (w0 := w) w.heap.size rfl (.tmp 16) (.tmp 18) 29 63 (.agg #[(.string ⟨#[]⟩), (.int .i64 0), (.int .i64 0), (.int .i64 0), (.slice none 0 0)]) 64 rfl Try.underlying29 info63 rfl (by decide) (by omega) u3 x3_1 (⟨(rd_T63 l0 x8_1).f0, (rd_T63 l0 x8_1).f1, (rd_T63 l0 x8_1).f2, (rd_T63 l0 x8_1).f3, t197⟩ : S63) [.string ((rd_T63 l0 x8_1).f0), .int .i64 ((rd_T63 l0 x8_1).f1), .int .i64 ((rd_T63 l0 x8_1).f2), .int .i64 ((rd_T63 l0 x8_1).f3), .slice Ao10 t197.length co10] (fun k_ => k_ ≠ gb196) (fun k_ => some k_ = (.slice Ao10 t197.length co10 : Value).ownBlock) rfl rfl ?aP (fun k_ hk_ => ((Kd.R_mono (ok' := fun k_ => ((fun k_ => k_ ≠ gb196)) k_ ∧ some k_ ≠ (u3 : Value).ownBlock) (Kd.R_types (Kd.R_apart' (HO199.out) (Kd.S_typed HO_3.out) (by decide)) BK196.out (by decide)) (fun k_ hk => ⟨hk.2, hk.1.2⟩))).1 k_ hk_.symm) ?aF ?aO ?aB ?aS ?aL ?_; (case aP => exact k63_mkM _ _ _ (⟨(rd_T63 l0 x8_1).f0, (rd_T63 l0 x8_1).f1, (rd_T63 l0 x8_1).f2, (rd_T63 l0 x8_1).f3, t197⟩ : S63) (Kd.R_mono (Kd.R_tight rfl (Kd.R_mono (ok' := fun k_ => ((fun k_ => k_ ≠ gb196)) k_ ∧ some k_ ≠ (u3 : Value).ownBlock) (Kd.R_types (Kd.R_apart' (HO199.out) (Kd.S_typed HO_3.out) (by decide)) BK196.out (by decide)) (fun k_ hk => ⟨hk.2, hk.1.2⟩))) (fun _ h_ => h_))); (case aB => exact (by repeat (first | (with_reducible first | exact HB.out | apply below_alloc | apply pw_below_drewN | apply below_drew1 | refine below_set ?_ GE196.out) | exact HB.out))); (case aF => exact (fun k_ hk => Kd.freshB (g := gb196) (o := .cells #[.string ((rd_T63 l0 x8_1).f0), .int .i64 ((rd_T63 l0 x8_1).f1), .int .i64 ((rd_T63 l0 x8_1).f2), .int .i64 ((rd_T63 l0 x8_1).f3), .slice Ao10 t197.length co10] 63 (0, 0)) (by (with_reducible repeat (first | refine blk_drewN ?_ _ | refine blk_drew ?_ | refine blk_alloc ?_ _)); exact BK196.out) k_ hk)); (case aO => exact (by (with_reducible repeat (first | apply Kd.S_alloc | apply Kd.S_drewN | apply Kd.S_drew)); exact Kd.S_mono HO_3.out (fun k_ hk => ⟨hk.2, fun e_ => hk.1 e_⟩))); (case aS => exact (below_size (by repeat (first | (with_reducible first | exact HB.out | apply below_alloc | apply pw_below_drewN | apply below_drew1 | refine below_set ?_ GE196.out) | exact HB.out)))); (case aL => have := LMc6.out; omega); intro v201 w14 ho hb hg hat; rw [← Ny200.out] at ho; have n0_ := Aside0.mk (blk_grown (g := gb196) (o := .cells #[.string ((rd_T63 l0 x8_1).f0), .int .i64 ((rd_T63 l0 x8_1).f1), .int .i64 ((rd_T63 l0 x8_1).f2), .int .i64 ((rd_T63 l0 x8_1).f3), .slice Ao10 t197.length co10] 63 (0, 0)) (by (with_reducible repeat (first | refine blk_drewN ?_ _ | refine blk_drew ?_ | refine blk_alloc ?_ _)); exact BK196.out) hg (Kd.S_away HO_3.out (fun _ hk => hk.2))); have n1_ := Aside0.mk (hb); have n2_ := Aside0.mk (ho); clear BK196; clear HB; clear HO_3; clear HO199; have BK196 := n0_; have HB := n1_; have HO202 := n2_; clear n0_ n1_ n2_; clear ho hb hg hat))
              go_roundg k1
              case measure => have := HK1.out; omega
              case rel => exact ⟨(y200), (wrap64 (x8_1 + 1)), (by first | rfl | (simp; done) | (simp [*]; done)), H', ⟨by have := HK1.out; omega⟩, ⟨by (with_reducible repeat (first | apply Kd.S_alloc | apply Kd.S_drewN | apply Kd.S_drew)); exact Kd.S_mono HO202.out (fun _ hk => trivial)⟩, ⟨by repeat (first | (with_reducible first | exact HB.out | apply below_alloc | apply pw_below_drewN | apply below_drew1 | refine below_set ?_ GE196.out) | exact HB.out)⟩⟩
            · rw [if_neg c6] at H
              exact absurd H (by simp)
          · rw [if_neg c4] at H
            exact absurd H (by simp)
        · rw [if_neg c3] at H
          exact absurd H (by simp)
      · rw [if_neg c2] at H
        have c2b0 : decide (x8_1 < (l0.length : Int)) = false := decide_eq_false c2
        clear c2
        obtain rfl := Option.some.inj H
        go_wp2
        go_ret
        exact ⟨_, by first | rfl | (simp [errW_none, errW_some] <;> rfl) | (simp [*, errW_none, errW_some] <;> rfl), by (with_reducible repeat (first | apply Kd.S_alloc | apply Kd.S_drewN | apply Kd.S_drew)); exact HO_3.out, by repeat (first | (with_reducible first | exact HB.out | apply below_alloc | apply pw_below_drewN | apply below_drew1) | exact HB.out)⟩

/-! ### impl_copyLedger: function 63 -/
def impl_copyLedger.f (k : Nat) (a0_0 : Int) (l0_1 : List (S63)) : Option (Int × (List (S63))) := (impl_copyAccts.f k l0_1).bind fun t205 => (some (a0_0, t205))
theorem impl_copyLedger.mono : ∀ a0 a1 k, LeO (impl_copyLedger.f k a0 a1) (impl_copyLedger.f (k + 1) a0 a1) := by
  intro a0 a1 k
  unfold impl_copyLedger.f
  repeat' first
      | (with_reducible exact impl_copyAccts.mono _ _)
      | (with_reducible exact LeO.refl _)
      | (with_reducible exact LeO.none _)
      | (with_reducible refine LeO.ite ?_ ?_)
      | (with_reducible refine LeO.bind ?_ (fun _ => ?_))
      | exact impl_copyAccts.mono _ _
      | exact LeO.none _
      | refine LeO.ite ?_ ?_
      | refine LeO.bind ?_ (fun _ => ?_)
set_option maxHeartbeats 8000000 in
set_option maxRecDepth 100000 in
theorem impl_copyLedger.calls (k : Nat) (a0_0 : Int) (A0_1 : Option Addr) (c0_1 : Nat) (l0_1 : List (S63)) (r1 : Int) (r2 : List (S63)) (w : World) (hr0_1 : Kd.C k63 w A0_1 l0_1.length l0_1) (hc0_1 : l0_1.length ≤ c0_1) (h : impl_copyLedger.f k a0_0 l0_1 = some (r1, r2)) :
    Calls Try.prog 63 #[.agg #[.int .i64 a0_0, .slice A0_1 l0_1.length c0_1]] w fun e w' => ∃ v1_ : Value, e = .returned (.agg #[.int .i64 r1, v1_]) ∧ Kd.S k63 63 w' w.heap.size (fun _ => True) v1_ r2 ∧ Below w.heap.size w w' := by
  have hu31 := Try.underlying31
  have HR0_1 := Aside0.mk hr0_1
  have HC0_1 := Aside0.mk hc0_1
  clear hr0_1 hc0_1
  have HB := Aside0.mk (Below.refl w.heap.size w)
  have H : ((impl_copyAccts.f k l0_1).bind fun t205 => (some (a0_0, t205))) = some (r1, r2) := h
  clear h
  replace H := Option.bind_eq_some_iff.mp H
  obtain ⟨t205, A20, H⟩ := H
  replace H : (some (a0_0, t205)) = some (r1, r2) := H
  have A2 := Aside0.mk A20
  clear A20
  simp only [Option.some.injEq, Prod.mk.injEq] at H
  obtain ⟨rfl, rfl⟩ := H
  go_enter Try.func63, Try.ntmps63
  try go_wp2_with (first | ((with_reducible refine gate_dst (N := 1) rfl ?_); refine box_event ?hg (N := 1) ?hd (cs := #[.int .i64 a0_0, .slice A0_1 l0_1.length c0_1]) (t := 31) ?hr ?_; (case hd => rfl); (case hg => rfl); (case hr => first | (go_simp; done) | (go_simp; rfl)); intro gb203 hg w3 hbox hb; have n0_ := Aside0.mk (below_step (by repeat (first | (with_reducible first | exact HB.out | apply below_alloc | apply pw_below_drewN | apply below_drew1) | exact HB.out)) hb); have n1_ := Aside0.mk (hbox); have n2_ := Aside0.mk ((by rw [hg]; exact (below_size (by repeat (first | (with_reducible first | exact HB.out | apply below_alloc | apply pw_below_drewN | apply below_drew1) | exact HB.out))) : w.heap.size ≤ gb203)); have n3_ := Aside0.mk ((by rw [hg]; exact (below_size (by repeat (first | (with_reducible first | exact HB.out | apply below_alloc | apply pw_below_drewN | apply below_drew1) | exact HB.out))) : w.heap.size ≤ gb203)); clear HB; have HB := n0_; have BK203 := n1_; have GW203 := n2_; have GE203 := n3_; clear n0_ n1_ n2_ n3_; clear hb hbox hg) | ((with_reducible refine gate_dst (N := 2) rfl ?_); refine box_event ?hg (N := 2) ?hd (cs := #[.int .i64 0, .slice none 0 0]) (t := 31) ?hr ?_; (case hd => rfl); (case hg => rfl); (case hr => first | (go_simp; done) | (go_simp; rfl)); intro gb204 hg w4 hbox hb; have n0_ := Aside0.mk (blk_below (g := gb203) (o := .cells #[.int .i64 a0_0, .slice A0_1 l0_1.length c0_1] 31 (0, 0)) (by (with_reducible repeat (first | refine blk_drewN ?_ _ | refine blk_drew ?_ | refine blk_alloc ?_ _)); exact BK203.out) hb); have n1_ := Aside0.mk (below_step (by repeat (first | (with_reducible first | exact HB.out | apply below_alloc | apply pw_below_drewN | apply below_drew1 | refine below_set ?_ GE203.out) | exact HB.out)) hb); have n2_ := Aside0.mk (hbox); have n3_ := Aside0.mk ((by rw [hg]; exact (below_size (by repeat (first | (with_reducible first | exact HB.out | apply below_alloc | apply pw_below_drewN | apply below_drew1 | refine below_set ?_ GE203.out) | exact HB.out))) : w.heap.size ≤ gb204)); have n4_ := Aside0.mk ((by rw [hg]; exact (below_size (by repeat (first | (with_reducible first | exact HB.out | apply below_alloc | apply pw_below_drewN | apply below_drew1 | refine below_set ?_ GE203.out) | exact HB.out))) : w.heap.size ≤ gb204)); have n5_ := Aside0.mk ((by rw [hg]; exact Nat.ne_of_lt (blk_lt (g := gb203) (o := .cells #[.int .i64 a0_0, .slice A0_1 l0_1.length c0_1] 31 (0, 0)) (by (with_reducible repeat (first | refine blk_drewN ?_ _ | refine blk_drew ?_ | refine blk_alloc ?_ _)); exact BK203.out)) : gb203 ≠ gb204)); have n6_ := Aside0.mk ((by rw [hg]; exact Nat.ne_of_gt (blk_lt (g := gb203) (o := .cells #[.int .i64 a0_0, .slice A0_1 l0_1.length c0_1] 31 (0, 0)) (by (with_reducible repeat (first | refine blk_drewN ?_ _ | refine blk_drew ?_ | refine blk_alloc ?_ _)); exact BK203.out)) : gb204 ≠ gb203)); clear BK203; clear HB; have BK203 := n0_; have HB := n1_; have BK204 := n2_; have GW204 := n3_; have GE204 := n4_; have NB203_204 := n5_; have NB204_203 := n6_; clear n0_ n1_ n2_ n3_ n4_ n5_ n6_; clear hb hbox hg))
  have n0_ := Aside0.mk (blk_drew BK203.out)
  have n1_ := Aside0.mk (blk_drew BK204.out)
  have n2_ := Aside0.mk (below_drew1 HB.out)
  clear BK203
  clear BK204
  clear HB
  have BK203 := n0_
  have BK204 := n1_
  have HB := n2_
  clear n0_ n1_ n2_
  refine start_ (n := 7) (S := fun w' => w'.cell? ⟨gb203, 0, none⟩ = some (.int .i64 a0_0) ∧ w'.cell? ⟨gb203, 1, none⟩ = some (.slice A0_1 l0_1.length c0_1)) (ds := []) #[false, false, false, false, false, false, false] (by kernel_rfl) rfl rfl ⟨(blk_cell BK203.out 0).trans rfl, (blk_cell BK203.out 1).trans rfl⟩ (fun hHeld => ?_)
  generalize w4.drew = w5 at BK203 BK204 HB hHeld ⊢
  refine pure_ (i := 0) (N := some 3) (v := ?_) (a' := ?_) #[true, false, false, false, false, false, false] rfl rfl (by kernel_rfl) (fun _ _ _ h => h) (Or.inl ⟨by rfl, ?_⟩) ?_ ?_
  rotate_left
  · intro w'
    go_simp
    with_reducible rfl
  rotate_left
  · simp only [Act.put, List.setIfInBounds_toArray, List.set_cons_zero, List.set_cons_succ, i64_w, i32_w]
    rfl
  refine pure_ (i := 2) (N := some 5) (v := ?_) (a' := ?_) #[true, false, true, false, false, false, false] rfl rfl (by kernel_rfl) (fun _ _ _ h => h) (Or.inl ⟨by rfl, ?_⟩) ?_ ?_
  rotate_left
  · intro w'
    go_simp
    with_reducible rfl
  rotate_left
  · simp only [Act.put, List.setIfInBounds_toArray, List.set_cons_zero, List.set_cons_succ, i64_w, i32_w]
    rfl
  refine take_ (i := 1) (N := some 4) (v := ?_) (a' := ?_) #[true, true, true, false, false, false, false] rfl rfl (by kernel_rfl) (fun _ _ _ h => h) (Or.inl ⟨by rfl, ?_⟩) hHeld ?_ ?_
  rotate_left
  · rintro w' ⟨s0, s1⟩
    go_simp
    with_reducible rfl
  rotate_left
  · simp only [Act.put, List.setIfInBounds_toArray, List.set_cons_zero, List.set_cons_succ, i64_w, i32_w]
    rfl
  refine take_ (i := 3) (N := some 6) (v := ?_) (a' := ?_) #[true, true, true, true, false, false, false] rfl rfl (by kernel_rfl) (fun _ _ _ h => h) (Or.inl ⟨by rfl, ?_⟩) hHeld ?_ ?_
  rotate_left
  · rintro w' ⟨s0, s1⟩
    go_simp
    with_reducible rfl
  rotate_left
  · simp only [Act.put, List.setIfInBounds_toArray, List.set_cons_zero, List.set_cons_succ, i64_w, i32_w]
    rfl
  refine one_ (i := 4) (N := some 7) #[true, true, true, true, true, false, false] rfl rfl (by kernel_rfl) (by decide) (fun K hK => ?_)
  refine goes_ Try.func87 (by kernel_rfl) rfl #[.slice A0_1 l0_1.length c0_1] (by rfl) rfl rfl (by (try simp only [List.map_toArray, List.map_cons, List.map_nil]); first | done | rfl | (simp only [List.length_drop, List.length_take]; rfl)) ?_
  with_reducible refine (impl_copyAccts.calls k _ _ l0_1 t205 _ ?side1 ?side2 A2.out).mono ?_
  (case side1 => repeat (first | exact (Kd.C_below HR0_1.out HB.out) | (with_reducible refine Kd.C_alloc ?_ _) | (with_reducible refine Kd.C_drewN ?_ _) | (with_reducible refine Kd.C_drew ?_)))
  (case side2 => exact HC0_1.out)
  rintro e w6 ⟨v206, rfl, ho0, hb⟩
  refine ⟨_, rfl, ?_⟩
  have n0_ := Aside0.mk (Kd.S_lower ho0 (below_size (by repeat (first | (with_reducible first | exact HB.out | apply below_alloc | apply pw_below_drewN | apply below_drew1 | refine below_set ?_ GE203.out | refine below_set ?_ GE204.out) | exact HB.out))))
  have n1_ := Aside0.mk (blk_below (g := gb203) (o := .cells #[.int .i64 a0_0, .slice A0_1 l0_1.length c0_1] 31 (0, 0)) (by (with_reducible repeat (first | refine blk_drewN ?_ _ | refine blk_drew ?_ | refine blk_alloc ?_ _)); exact BK203.out) hb)
  have n2_ := Aside0.mk (blk_below (g := gb204) (o := .cells #[.int .i64 0, .slice none 0 0] 31 (0, 0)) (by (with_reducible repeat (first | refine blk_drewN ?_ _ | refine blk_drew ?_ | refine blk_alloc ?_ _)); exact BK204.out) hb)
  have n3_ := Aside0.mk (below_step (by repeat (first | (with_reducible first | exact HB.out | apply below_alloc | apply pw_below_drewN | apply below_drew1 | refine below_set ?_ GE203.out | refine below_set ?_ GE204.out) | exact HB.out)) hb)
  clear BK203
  clear BK204
  clear HB
  have HO207 := n0_
  have BK203 := n1_
  have BK204 := n2_
  have HB := n3_
  clear n0_ n1_ n2_ n3_
  (try clear hb)
  (try clear hb2)
  (try clear hk)
  (try clear hi)
  (try clear ho0)
  obtain ⟨Ao7, co7, eo7⟩ := Kd.S_slice HO207.out
  (first | subst eo7 | (injection eo7 with f1_ f2_ f3_; have f4_ := f1_.symm; have f5_ := f3_.symm; clear f1_ f2_ f3_; subst f4_; subst f5_))
  refine hK.out _ _ ⟨(blk_cell BK203.out 0).trans rfl, (blk_cell BK203.out 1).trans rfl⟩ (fun hHeld => ?_)
  clear hK K
  refine norm_ (a' := ?_) ?_ ?_
  rotate_left
  · show Act.put _ (some 7) _ = _
    simp only [Act.put, List.setIfInBounds_toArray, List.set_cons_zero, List.set_cons_succ, i64_w, i32_w]
    rfl
  refine pure_ (i := 5) (N := some 8) (v := ?_) (a' := ?_) #[true, true, true, true, true, true, false] rfl rfl (by kernel_rfl) (fun _ _ _ h => h) (Or.inl ⟨by rfl, ?_⟩) ?_ ?_
  rotate_left
  · intro w'
    go_simp
    with_reducible rfl
  rotate_left
  · simp only [Act.put, List.setIfInBounds_toArray, List.set_cons_zero, List.set_cons_succ, i64_w, i32_w]
    rfl
  refine one_ (i := 6) (N := none) #[true, true, true, true, true, true, true] rfl rfl (by kernel_rfl) (by decide) (fun K hK => ?_)
  have hs8 : w6.cell? ⟨gb204, 0, none⟩ = some (.int .i64 0) := (blk_cell BK204.out 0).trans rfl
  have hfs8 := blk_frozen BK204.out 0
  have hns8_0 := NB203_204.out
  have hms8_0 := NB204_203.out
  have hs9 : w6.cell? ⟨gb204, 1, none⟩ = some (.slice none 0 0) := (blk_cell BK204.out 1).trans rfl
  have hfs9 := blk_frozen BK204.out 1
  have hns9_0 := NB203_204.out
  have hms9_0 := NB204_203.out
  refine skip_ (w1 := ?_) (by rfl) rfl ?_ ?_
  rotate_left
  · go_simp
    rfl
  refine hK.out _ _ ⟨((cell_far (p := ⟨gb204, _, none⟩) NB203_204.out _).trans (((cell_far (p := ⟨gb204, _, none⟩) NB203_204.out _).trans (hHeld.1)))), ((cell_far (p := ⟨gb204, _, none⟩) NB203_204.out _).trans (((cell_far (p := ⟨gb204, _, none⟩) NB203_204.out _).trans (hHeld.2))))⟩ (fun hHeld => ?_)
  clear hK K
  refine done_ (by kernel_rfl) ?_
  try go_wp2
  refine bodyPost_ret (results_cell_row rfl _ _ gb204 31 #[.int .i64 a0_0, .slice Ao7 t205.length co7] (0, 0) _ rfl (by (with_reducible repeat (first | refine blk_drewN ?_ _ | refine blk_drew ?_ | refine blk_alloc ?_ _)); refine blk_put (cs := #[.int .i64 a0_0, .slice none 0 0]) ?_ 1 _ rfl; (with_reducible repeat (first | refine blk_drewN ?_ _ | refine blk_drew ?_ | refine blk_alloc ?_ _)); refine blk_put (cs := #[.int .i64 0, .slice none 0 0]) ?_ 0 _ rfl; (with_reducible repeat (first | refine blk_drewN ?_ _ | refine blk_drew ?_ | refine blk_alloc ?_ _)); exact BK204.out) Try.underlying31 rfl (by kernel_rfl)) rfl ?_
  exact ⟨_, by first | rfl | (simp [errW_none, errW_some] <;> rfl) | (simp [*, errW_none, errW_some] <;> rfl), by (with_reducible repeat (first | apply Kd.S_alloc | apply Kd.S_drewN | apply Kd.S_drew)); exact Kd.S_mono (Kd.S_far (p := ⟨gb204, 1, none⟩) (Kd.S_far (p := ⟨gb204, 0, none⟩) (Kd.S_types HO207.out BK204.out (by decide)) (fun _ hk => hk.2) (.int .i64 a0_0)) (fun _ hk => hk.2) (.slice Ao7 t205.length co7)) (fun _ hk => trivial), by repeat (first | (with_reducible first | exact HB.out | apply below_alloc | apply pw_below_drewN | apply below_drew1 | refine below_set ?_ GE203.out | refine below_set ?_ GE204.out) | exact HB.out)⟩

/-! ### impl_NextEpoch: function 25 -/
def impl_NextEpoch.due (e : Int) : Int → List S65 → Int
  | n, [] => n
  | n, x :: l => impl_NextEpoch.due e (if x.f1 ≤ e then wrap64 (n + x.f0) else n) l
def impl_NextEpoch.on (e : Int) (a : S63) : S63 := ⟨a.f0, impl_NextEpoch.due e a.f1 a.f4, a.f2, a.f3, a.f4.filter (fun x => !decide (x.f1 ≤ e))⟩
def impl_NextEpoch.g (k : Nat) (a0 : Int) (l0 : List S63) (p : Int × List S63) : Option (Int × List S63) :=
  if (p.2.all fun a => decide (a.f4.length < 1099511627776)) = true then (impl_LedgerOk.f k (wrap64 (p.1 + 1)) (p.2.map (impl_NextEpoch.on (wrap64 (p.1 + 1))))).bind fun b => if b = true then some (wrap64 (p.1 + 1), p.2.map (impl_NextEpoch.on (wrap64 (p.1 + 1)))) else impl_copyLedger.f k a0 l0 else none
def impl_NextEpoch.f (k : Nat) (a0 : Int) (l0 : List S63) : Option (Int × List S63) :=
  (impl_LedgerOk.f k a0 l0).bind fun b => if b = true then (impl_copyLedger.f k a0 l0).bind fun p => impl_NextEpoch.g k a0 l0 p else impl_copyLedger.f k a0 l0
theorem impl_NextEpoch.due_append (e : Int) (l m : List S65) : ∀ n : Int, impl_NextEpoch.due e n (l ++ m) = impl_NextEpoch.due e (impl_NextEpoch.due e n l) m := by
  induction l with
  | nil => exact fun _ => rfl
  | cons x t ih => exact fun n => ih _
theorem impl_NextEpoch.due_step (e n : Int) (l : List S65) (j : Nat) (h : j < l.length) : impl_NextEpoch.due e n (l.take (j + 1)) = if (l.getD j z65).f1 ≤ e then wrap64 (impl_NextEpoch.due e n (l.take j) + (l.getD j z65).f0) else impl_NextEpoch.due e n (l.take j) := by
  rw [List.take_succ_eq_append_getElem h, impl_NextEpoch.due_append, List.getD_eq_getElem?_getD, List.getElem?_eq_getElem h]
  rfl
def impl_NextEpoch.late (e : Int) (l : List S65) : List S65 := l.filter (fun x => !decide (x.f1 ≤ e))
theorem impl_NextEpoch.late_step (e : Int) (l : List S65) (j : Nat) (h : j < l.length) : impl_NextEpoch.late e (l.take (j + 1)) = if (l.getD j z65).f1 ≤ e then impl_NextEpoch.late e (l.take j) else impl_NextEpoch.late e (l.take j) ++ [l.getD j z65] := by
  rw [List.take_succ_eq_append_getElem h, impl_NextEpoch.late, List.filter_append, List.getD_eq_getElem?_getD, List.getElem?_eq_getElem h]
  simp only [Option.getD_some]
  by_cases hh : l[j].f1 ≤ e
  · rw [if_pos hh]; simp [impl_NextEpoch.late, hh]
  · rw [if_neg hh]; simp [impl_NextEpoch.late, hh]
def impl_NextEpoch.mid (e : Int) (a : S63) (j : Nat) : S63 := ⟨a.f0, impl_NextEpoch.due e a.f1 (a.f4.take j), a.f2, a.f3, a.f4⟩
theorem impl_NextEpoch.next (j N : Nat) (h : j < N) (hN : N ≤ 9223372036854775807) : wrap64 ((j : Int) + 1) = ((j + 1 : Nat) : Int) := by
  unfold wrap64
  omega
theorem impl_NextEpoch.meas (N j : Nat) (h : j < N) : N - (intOf (Value.int IntKind.i64 ((j + 1 : Nat) : Int))).toNat < N - (intOf (Value.int IntKind.i64 (j : Int))).toNat := by
  simp only [intOf]
  omega
theorem impl_NextEpoch.mid_pos (e : Int) (a : S63) (j : Nat) (h : j < a.f4.length) (x : S65) (hx : x = a.f4.getD j z65) (hle : x.f1 ≤ e) : impl_NextEpoch.mid e a (j + 1) = ⟨a.f0, wrap64 ((impl_NextEpoch.mid e a j).f1 + x.f0), a.f2, a.f3, a.f4⟩ := by
  subst hx
  unfold impl_NextEpoch.mid
  rw [impl_NextEpoch.due_step e a.f1 a.f4 j h, if_pos hle]
theorem impl_NextEpoch.mid_neg (e : Int) (a : S63) (j : Nat) (h : j < a.f4.length) (x : S65) (hx : x = a.f4.getD j z65) (hle : ¬ x.f1 ≤ e) : impl_NextEpoch.mid e a (j + 1) = impl_NextEpoch.mid e a j := by
  subst hx
  unfold impl_NextEpoch.mid
  rw [impl_NextEpoch.due_step e a.f1 a.f4 j h, if_neg hle]
def impl_NextEpoch.pre (e : Int) (ys : List S63) (m : Nat) : List S63 := (ys.take m).map (impl_NextEpoch.on e) ++ ys.drop m
theorem impl_NextEpoch.pre_len (e : Int) (ys : List S63) (m : Nat) (h : m ≤ ys.length) : (impl_NextEpoch.pre e ys m).length = ys.length := by
  rw [impl_NextEpoch.pre, List.length_append, List.length_map, List.length_take, List.length_drop]
  omega
theorem impl_NextEpoch.pre_at (e : Int) (ys : List S63) (m : Nat) (h : m < ys.length) : (impl_NextEpoch.pre e ys m).getD m z63 = ys.getD m z63 := by
  rw [impl_NextEpoch.pre, List.getD_eq_getElem?_getD, List.getElem?_append_right (by simp; omega), List.length_map, List.length_take, Nat.min_eq_left (by omega), Nat.sub_self, List.getElem?_drop, Nat.add_zero, List.getD_eq_getElem?_getD]
theorem impl_NextEpoch.pre_set (e : Int) (ys : List S63) (m : Nat) (h : m < ys.length) : (impl_NextEpoch.pre e ys m).set m (impl_NextEpoch.on e (ys.getD m z63)) = impl_NextEpoch.pre e ys (m + 1) := by
  have hl : ((ys.take m).map (impl_NextEpoch.on e)).length = m := by rw [List.length_map, List.length_take]; omega
  rw [impl_NextEpoch.pre, List.set_append, if_neg (by omega), hl, Nat.sub_self, impl_NextEpoch.pre, List.take_succ_eq_append_getElem h, List.map_append, List.append_assoc, List.drop_eq_getElem_cons h, List.set_cons_zero, List.getD_eq_getElem?_getD, List.getElem?_eq_getElem h]
  rfl
theorem impl_NextEpoch.pre_end (e : Int) (ys : List S63) : impl_NextEpoch.pre e ys ys.length = ys.map (impl_NextEpoch.on e) := by
  rw [impl_NextEpoch.pre, List.take_length, List.drop_length, List.append_nil]
theorem impl_NextEpoch.mono : ∀ a0 a1 k, LeO (impl_NextEpoch.f k a0 a1) (impl_NextEpoch.f (k + 1) a0 a1) := by
  intro a0 a1 k
  unfold impl_NextEpoch.f impl_NextEpoch.g
  repeat' first
      | (with_reducible exact impl_LedgerOk.mono _ _ _)
      | (with_reducible exact impl_copyLedger.mono _ _ _)
      | (with_reducible exact LeO.refl _)
      | (with_reducible exact LeO.none _)
      | (with_reducible refine LeO.ite ?_ ?_)
      | (with_reducible refine LeO.bind ?_ (fun _ => ?_))
theorem impl_NextEpoch.two (w : World) (o1 o2 : Obj) : ((w.alloc o1).alloc o2).heap[w.heap.size]? = some o1 ∧ ((w.alloc o1).alloc o2).heap[w.heap.size + 1]? = some o2 := by
  have h1 := blk_new w o1
  have e1 : (w.alloc o1).heap.size = w.heap.size + 1 := Array.size_push _
  refine ⟨((below_alloc (Below.refl (w.alloc o1).heap.size (w.alloc o1)) o2).block _ (blk_lt h1)).trans h1, ?_⟩
  rw [← e1]
  exact blk_new _ _
theorem impl_NextEpoch.held {W w1 : World} {b : Nat} {o : Obj} (h : W.heap[b]? = some o) (hb : Below W.heap.size W w1) : w1.heap[b]? = some o := (hb.block b (blk_lt h)).trans h
theorem impl_NextEpoch.mid_zero (e : Int) (ys : List S63) (m : Nat) (h : m < ys.length) (a : S63) (ha : a = ys.getD m z63) : (impl_NextEpoch.pre e ys m).set m (impl_NextEpoch.mid e a 0) = impl_NextEpoch.pre e ys m := by
  have h1 := impl_NextEpoch.pre_at e ys m h
  have h2 : m < (impl_NextEpoch.pre e ys m).length := by rw [impl_NextEpoch.pre_len _ _ _ (Nat.le_of_lt h)]; exact h
  rw [List.getD_eq_getElem?_getD, List.getElem?_eq_getElem h2, Option.getD_some, ← ha] at h1
  have h3 : impl_NextEpoch.mid e a 0 = (impl_NextEpoch.pre e ys m)[m] := by rw [h1]; rfl
  rw [h3, List.set_getElem_self]
theorem impl_NextEpoch.mid_end (e : Int) (ys : List S63) (m : Nat) (h : m < ys.length) (a : S63) (ha : a = ys.getD m z63) : ((impl_NextEpoch.pre e ys m).set m (impl_NextEpoch.mid e a a.f4.length)).set m ⟨a.f0, (impl_NextEpoch.mid e a a.f4.length).f1, a.f2, a.f3, impl_NextEpoch.late e (a.f4.take a.f4.length)⟩ = impl_NextEpoch.pre e ys (m + 1) := by
  rw [List.set_set, ← impl_NextEpoch.pre_set e ys m h, ← ha, List.take_length, impl_NextEpoch.mid, List.take_length]
  rfl
/-- The ledgers' blocks and the accounts' row, as they lie while the accounts are gone through. -/
structure impl_NextEpoch.Inn (w : World) (b3 B0 N g m n c : Nat) (o1 o2 o3 : Obj) (v4 : Value) (zs : List S63) (W : World) : Prop where
  s : Kd.S k63 63 W B0 (fun k_ => (B0 ≤ k_ ∧ k_ ≠ b3) ∧ k_ < N) (.slice (some ⟨g, 0, none⟩) n c) zs
  x4 : W.cell? ⟨g, m * 5 + 4, none⟩ = some v4
  g1 : W.heap[w.heap.size]? = some o1
  g2 : W.heap[w.heap.size + 1]? = some o2
  g3 : W.heap[b3]? = some o3
  b : Below w.heap.size w W
  gN : g < N
  g3N : b3 < N
  wN : w.heap.size + 1 < N
  NW : N ≤ W.heap.size
section
variable {w : World} {b3 B0 N g m n c : Nat} {o1 o2 o3 : Obj} {v4 : Value} {zs : List S63} {W W' : World}
theorem impl_NextEpoch.Inn.step (h : impl_NextEpoch.Inn w b3 B0 N g m n c o1 o2 o3 v4 zs W) (hm : ∀ k, k < N → W'.heap[k]? = W.heap[k]?) (hb : Below w.heap.size w W') (hN : N ≤ W'.heap.size) : impl_NextEpoch.Inn w b3 B0 N g m n c o1 o2 o3 v4 zs W' where
  s := Kd.S_step h.s (fun k hk _ => hm k hk.2)
  x4 := by have := h.x4; unfold World.cell? at this ⊢; rw [hm g h.gN]; exact this
  g1 := (hm _ (Nat.lt_of_succ_lt h.wN)).trans h.g1
  g2 := (hm _ h.wN).trans h.g2
  g3 := (hm _ h.g3N).trans h.g3
  b := hb
  gN := h.gN
  g3N := h.g3N
  wN := h.wN
  NW := hN
theorem impl_NextEpoch.Inn.below (h : impl_NextEpoch.Inn w b3 B0 N g m n c o1 o2 o3 v4 zs W) (hb : Below W.heap.size W W') : impl_NextEpoch.Inn w b3 B0 N g m n c o1 o2 o3 v4 zs W' :=
  h.step (fun k hk => hb.block k (Nat.lt_of_lt_of_le hk h.NW)) (below_step h.b hb) (Nat.le_trans h.NW hb.size)
theorem impl_NextEpoch.Inn.far (h : impl_NextEpoch.Inn w b3 B0 N g m n c o1 o2 o3 v4 zs W) (q j : Nat) (hq : N ≤ q) (v : Value) : impl_NextEpoch.Inn w b3 B0 N g m n c o1 o2 o3 v4 zs (W.setCell ⟨q, j, none⟩ v) :=
  h.step (fun k hk => Below.heap_setCell W ⟨q, j, none⟩ v k (Nat.ne_of_lt (Nat.lt_of_lt_of_le hk hq))) (below_set h.b (Nat.le_trans (Nat.le_of_lt (Nat.lt_of_succ_lt h.wN)) hq)) (by rw [show (W.setCell ⟨q, j, none⟩ v).heap.size = W.heap.size from by simp [World.setCell]]; exact h.NW)
theorem impl_NextEpoch.Inn.grow (h : impl_NextEpoch.Inn w b3 B0 N g m n c o1 o2 o3 v4 zs W) (hb : Below N W W') : impl_NextEpoch.Inn w b3 B0 N g m n c o1 o2 o3 v4 zs W' :=
  h.step hb.block ⟨hb.os.trans h.b.os, hb.tape.trans h.b.tape, hb.output.trans h.b.output, Nat.le_trans h.b.size hb.size, fun k hk => (hb.block k (Nat.lt_trans hk (Nat.lt_of_succ_lt h.wN))).trans (h.b.block k hk)⟩ (Nat.le_trans h.NW hb.size)
/-- Element m's free coins are written. -/
theorem impl_NextEpoch.Inn.free (h : impl_NextEpoch.Inn w b3 B0 N g m n c o1 o2 o3 v4 zs W) (hB : w.heap.size + 1 < B0) (hg : B0 ≤ g) (h3 : g ≠ b3) (hn : n = zs.length) (hl : m < zs.length) (u : Int) :
    impl_NextEpoch.Inn w b3 B0 N g m n c o1 o2 o3 v4 (zs.set m ⟨(zs.getD m z63).f0, u, (zs.getD m z63).f2, (zs.getD m z63).f3, (zs.getD m z63).f4⟩) (W.setCell ⟨g, m * 5 + 1, none⟩ (.int .i64 u)) ∧ W.cell? ⟨g, m * 5 + 1, none⟩ = some (.int .i64 (zs.getD m z63).f1) ∧ W.frozen? ⟨g, m * 5 + 1, none⟩ = false := by
  have hX : Kd.S k63 63 W B0 (fun k_ => (fun k_ => (B0 ≤ k_ ∧ k_ ≠ b3) ∧ k_ < N) k_ ∧ ¬ (fun _ => False) k_) (.slice (some ⟨g, 0, none⟩) n c) zs := Kd.S_mono h.s (fun _ hk => ⟨hk, fun e => e⟩)
  obtain ⟨oki, cs, _, hM, hcc, hfr, hoki, hH⟩ := Kd.S_elem hX z63 (m : Int) (by omega) (by omega)
  rw [Int.toNat_natCast] at hM
  obtain ⟨v4', rfl, hR4⟩ := k63_openM hM
  have hP := Kd.S_seg hH (by omega) (by omega) (seg := [.int .i64 u]) (j := 1) (show 2 ≤ 5 from by decide) (x' := (⟨(zs.getD m z63).f0, u, (zs.getD m z63).f2, (zs.getD m z63).f3, (zs.getD m z63).f4⟩ : S63)) (k63_mkM _ _ _ (⟨(zs.getD m z63).f0, u, (zs.getD m z63).f2, (zs.getD m z63).f3, (zs.getD m z63).f4⟩ : S63) (Kd.R_mono hR4 (fun _ h_ => Or.inl h_))) (fun _ hk => hk) (fun k_ hk_ => hk_.elim)
  have hf : ∀ k, k ≠ g → (W.setCell ⟨g, m * 5 + 1, none⟩ (.int .i64 u)).heap[k]? = W.heap[k]? := fun k hk => Below.heap_setCell W ⟨g, m * 5 + 1, none⟩ _ k hk
  refine ⟨⟨hP.1, ?_, (hf _ (by omega)).trans h.g1, (hf _ (by omega)).trans h.g2, (hf _ (Ne.symm h3)).trans h.g3, below_set h.b (by omega), h.gN, h.g3N, h.wN, ?_⟩, hcc 1 _ rfl, hfr 1⟩
  · obtain ⟨cells, hcs⟩ := Kd.S_typed h.s g rfl
    exact (blk_cell (blk_set hcs (m * 5 + 1) (.int .i64 u)) (m * 5 + 4)).trans ((Array.getElem?_setIfInBounds_ne (by omega)).trans ((blk_cell hcs (m * 5 + 4)).symm.trans h.x4))
  · rw [show (W.setCell ⟨g, m * 5 + 1, none⟩ (.int .i64 u)).heap.size = W.heap.size from by simp [World.setCell]]
    exact h.NW
/-- Element m's leaves are written: a row that is new. -/
theorem impl_NextEpoch.Inn.leave (h : impl_NextEpoch.Inn w b3 B0 N g m n c o1 o2 o3 v4 zs W) (hB : w.heap.size + 1 < B0) (hBN : B0 ≤ N) (hg : B0 ≤ g) (h3 : g ≠ b3) (hn : n = zs.length) (hl : m < zs.length) (u : Value) (ls : List S65) (hR : Kd.R k65 65 W N (fun _ => True) u ls) :
    Kd.S k63 63 (W.setCell ⟨g, m * 5 + 4, none⟩ u) B0 (fun k_ => B0 ≤ k_ ∧ k_ ≠ b3) (.slice (some ⟨g, 0, none⟩) n c) (zs.set m ⟨(zs.getD m z63).f0, (zs.getD m z63).f1, (zs.getD m z63).f2, (zs.getD m z63).f3, ls⟩) ∧ (W.setCell ⟨g, m * 5 + 4, none⟩ u).heap[w.heap.size]? = some o1 ∧ (W.setCell ⟨g, m * 5 + 4, none⟩ u).heap[w.heap.size + 1]? = some o2 ∧ (W.setCell ⟨g, m * 5 + 4, none⟩ u).heap[b3]? = some o3 ∧ Below w.heap.size w (W.setCell ⟨g, m * 5 + 4, none⟩ u) ∧ W.frozen? ⟨g, m * 5 + 4, none⟩ = false := by
  have hgN := h.gN
  have h3N := h.g3N
  have hX : Kd.S k63 63 W B0 (fun k_ => (B0 ≤ k_ ∧ k_ ≠ b3) ∧ ¬ (N ≤ k_)) (.slice (some ⟨g, 0, none⟩) n c) zs := Kd.S_mono h.s (fun k_ hk => ⟨hk.1, by have := hk.2; omega⟩)
  obtain ⟨oki, cs, _, hM, hcc, hfr, hoki, hH⟩ := Kd.S_elem hX z63 (m : Int) (by omega) (by omega)
  rw [Int.toNat_natCast] at hM
  obtain ⟨v4', rfl, hR4⟩ := k63_openM hM
  have hR' : Kd.R k65 65 W B0 (fun k_ => N ≤ k_) u ls := Kd.R_lower (Kd.R_mono (Kd.R_bound hR) (fun k_ hk => hk.2.1)) hBN
  have hP := Kd.S_seg hH (by omega) (by omega) (seg := [u]) (j := 4) (show 5 ≤ 5 from by decide) (x' := (⟨(zs.getD m z63).f0, (zs.getD m z63).f1, (zs.getD m z63).f2, (zs.getD m z63).f3, ls⟩ : S63)) (okp := fun k_ => N ≤ k_) (k63_mkM _ _ _ (⟨(zs.getD m z63).f0, (zs.getD m z63).f1, (zs.getD m z63).f2, (zs.getD m z63).f3, ls⟩ : S63) hR') (fun _ hk => .inr hk) (fun k_ hk_ => ⟨⟨Nat.le_trans hBN hk_, by omega⟩, by omega⟩)
  have hf : ∀ k, k ≠ g → (W.setCell ⟨g, m * 5 + 4, none⟩ u).heap[k]? = W.heap[k]? := fun k hk => Below.heap_setCell W ⟨g, m * 5 + 4, none⟩ _ k hk
  exact ⟨hP.1, (hf _ (by omega)).trans h.g1, (hf _ (by omega)).trans h.g2, (hf _ (Ne.symm h3)).trans h.g3, below_set h.b (by omega), hfr 4⟩
end
set_option maxHeartbeats 8000000 in
set_option maxRecDepth 100000 in
theorem impl_NextEpoch.calls (k : Nat) (a0_0 : Int) (A0_1 : Option Addr) (c0_1 : Nat) (l0_1 : List S63) (r1 : Int) (r2 : List S63) (w : World) (hr0_1 : Kd.C k63 w A0_1 l0_1.length l0_1) (hc0_1 : l0_1.length ≤ c0_1) (h : impl_NextEpoch.f k a0_0 l0_1 = some (r1, r2)) :
    Calls Try.prog 25 #[.agg #[.int .i64 a0_0, .slice A0_1 l0_1.length c0_1]] w fun e w' => ∃ v1_ : Value, e = .returned (.agg #[.int .i64 r1, v1_]) ∧ Kd.S k63 63 w' w.heap.size (fun _ => True) v1_ r2 ∧ Below w.heap.size w w' := by
  have HR := Aside0.mk hr0_1
  have HC := Aside0.mk hc0_1
  unfold impl_NextEpoch.f at h
  obtain ⟨b, hb, h⟩ := Option.bind_eq_some_iff.mp h
  have HOK := Aside0.mk hb
  clear hr0_1 hc0_1 hb
  cases b with
  | false =>
    rw [if_neg (by simp)] at h
    have HCP := Aside0.mk h
    clear h
    go_enter Try.func25, Try.ntmps25
    go_wp2_with (first | (go_at_call 27; refine (impl_LedgerOk.calls k a0_0 _ _ l0_1 false _ ?s1 ?s2 HOK.out).mono ?_; (case s1 => exact Kd.C_below HR.out (by repeat (first | exact Below.refl _ _ | apply below_alloc))); (case s2 => exact HC.out); rintro e w1 ⟨rfl, hb1⟩; have g1 := impl_NextEpoch.held (impl_NextEpoch.two w _ _).1 hb1; have G2 := Aside0.mk (impl_NextEpoch.held (impl_NextEpoch.two w _ _).2 hb1); have HB1 := Aside0.mk (below_step (by repeat (first | exact Below.refl _ _ | apply below_alloc)) hb1 : Below w.heap.size w w1); clear hb1; have z0 : w1.cell? ⟨w.heap.size, 0, none⟩ = some (.int .i64 a0_0) := (blk_cell g1 0).trans rfl; have z1 : w1.cell? ⟨w.heap.size, 1, none⟩ = some (.slice A0_1 l0_1.length c0_1) := (blk_cell g1 1).trans rfl; clear g1) | (go_at_call 63; refine (impl_copyLedger.calls k a0_0 _ _ l0_1 r1 r2 _ ?s1 ?s2 HCP.out).mono ?_; (case s1 => exact Kd.C_below HR.out HB1.out); (case s2 => exact HC.out); rintro e w2 ⟨v1, rfl, hS, hb2⟩; have g2 := impl_NextEpoch.held G2.out hb2; obtain ⟨A, c, rfl⟩ := Kd.S_slice hS; have z2 : w2.cell? ⟨w.heap.size + 1, 0, none⟩ = some (.int .i64 0) := (blk_cell g2 0).trans rfl; have z3 : w2.cell? ⟨w.heap.size + 1, 1, none⟩ = some (.slice none 0 0) := (blk_cell g2 1).trans rfl; have f2 := blk_frozen g2 0; have f3 := blk_frozen g2 1; have HS := Aside0.mk (Kd.S_lower (Kd.S_mono (Kd.S_bound hS) (fun k_ hk => hk.2.1)) HB1.out.size); have G3 := Aside0.mk g2; have HB2 := Aside0.mk (below_step HB1.out hb2); have LT := Aside0.mk (blk_lt G2.out); clear hS hb2 g2))
    (try simp only [Exit.inBlock, Exit.then])
    refine bodyPost_ret (results_cell_row rfl _ _ (w.heap.size + 1) 31 #[.int .i64 r1, .slice A r2.length c] (0, 0) _ rfl (blk_put (cs := #[.int .i64 r1, .slice none 0 0]) (blk_put (cs := #[.int .i64 0, .slice none 0 0]) G3.out 0 _ rfl) 1 _ rfl) Try.underlying31 rfl (by kernel_rfl)) rfl ?_
    exact ⟨_, rfl, Kd.S_mono (Kd.S_far (p := ⟨w.heap.size + 1, 1, none⟩) (Kd.S_far (p := ⟨w.heap.size + 1, 0, none⟩) HS.out (fun k_ hk => Nat.ne_of_gt (Nat.lt_of_lt_of_le LT.out hk)) _) (fun k_ hk => Nat.ne_of_gt (Nat.lt_of_lt_of_le LT.out hk)) _) (fun _ _ => trivial), below_set (below_set HB2.out (Nat.le_succ _)) (Nat.le_succ _)⟩
  | true =>
    rw [if_pos rfl] at h
    obtain ⟨⟨p1, ys⟩, hcp, h⟩ := Option.bind_eq_some_iff.mp h
    have HCP := Aside0.mk hcp
    unfold impl_NextEpoch.g at h
    split at h
    case isFalse => exact absurd h (by simp)
    rename_i hall
    have HALL := Aside0.mk (fun a ha => of_decide_eq_true (List.all_eq_true.1 hall a ha) : ∀ a ∈ ys, a.f4.length < 1099511627776)
    have H := Aside0.mk h
    clear h hcp hall
    go_enter Try.func25, Try.ntmps25
    go_wp2_with (first | ((with_reducible refine gate_dst (N := 3) rfl ?_); refine box_event ?hg (N := 3) ?hd (cs := #[.int .i64 0, .slice none 0 0]) (t := 31) ?hr ?_; (case hd => rfl); (case hg => rfl); (case hr => first | (go_simp; done) | (go_simp; rfl)); intro b3 hb3 w3 hbox hb; have HS3 := Aside0.mk (Kd.S_below (Kd.S_elderB HS.out b3 (Nat.le_of_eq hb3.symm)) hb); have G13 := Aside0.mk (impl_NextEpoch.held G12.out hb); have G23 := Aside0.mk (impl_NextEpoch.held G22.out hb); have G33 := Aside0.mk hbox; have HB3 := Aside0.mk (below_step HB2.out hb); have HN3 := Aside0.mk (hb3 ▸ HB2.out.size : w.heap.size ≤ b3); have HN13 := Aside0.mk (hb3 ▸ (blk_lt G22.out) : w.heap.size + 1 < b3); have c30 : w3.cell? ⟨b3, 0, none⟩ = some (.int .i64 0) := (blk_cell hbox 0).trans rfl; have c31 : w3.cell? ⟨b3, 1, none⟩ = some (.slice none 0 0) := (blk_cell hbox 1).trans rfl; have f30 := blk_frozen hbox 0; have f31 := blk_frozen hbox 1; clear hb hbox hb3) | (go_at_call 27; refine (impl_LedgerOk.calls k a0_0 _ _ l0_1 true _ ?s1 ?s2 HOK.out).mono ?_; (case s1 => exact Kd.C_below HR.out (by repeat (first | exact Below.refl _ _ | apply below_alloc))); (case s2 => exact HC.out); rintro e w1 ⟨rfl, hb1⟩; have g1 := impl_NextEpoch.held (impl_NextEpoch.two w _ _).1 hb1; have G11 := Aside0.mk g1; have G21 := Aside0.mk (impl_NextEpoch.held (impl_NextEpoch.two w _ _).2 hb1); have HB1 := Aside0.mk (below_step (by repeat (first | exact Below.refl _ _ | apply below_alloc)) hb1 : Below w.heap.size w w1); clear hb1; have z0 : w1.cell? ⟨w.heap.size, 0, none⟩ = some (.int .i64 a0_0) := (blk_cell g1 0).trans rfl; have z1 : w1.cell? ⟨w.heap.size, 1, none⟩ = some (.slice A0_1 l0_1.length c0_1) := (blk_cell g1 1).trans rfl; clear g1) | (go_at_call 63; refine (impl_copyLedger.calls k a0_0 _ _ l0_1 p1 ys _ ?s1 ?s2 HCP.out).mono ?_; (case s1 => exact Kd.C_below HR.out HB1.out); (case s2 => exact HC.out); rintro e w2 ⟨v1, rfl, hS, hb2⟩; obtain ⟨A, c, rfl⟩ := Kd.S_slice hS; have HS := Aside0.mk (Kd.S_mono (Kd.S_bound hS) (fun k_ hk => hk.2.1) : Kd.S k63 63 w2 w1.heap.size (fun k_ => w1.heap.size ≤ k_) (.slice A ys.length c) ys); have HB2 := Aside0.mk (below_step HB1.out hb2); have G12 := Aside0.mk (impl_NextEpoch.held G11.out hb2); have G22 := Aside0.mk (impl_NextEpoch.held G21.out hb2); clear hS hb2))
    go_loopw [23] (fun i wr => ∃ m : Nat, m ≤ ys.length ∧ i = .int .i64 m ∧ Kd.S k63 63 wr w1.heap.size (fun k_ => w1.heap.size ≤ k_ ∧ k_ ≠ b3) (.slice A ys.length c) (impl_NextEpoch.pre (wrap64 (p1 + 1)) ys m) ∧ wr.heap[w.heap.size]? = some (.cells #[.int .i64 a0_0, .slice A0_1 l0_1.length c0_1] 31 (0, 0)) ∧ wr.heap[w.heap.size + 1]? = some (.cells #[.int .i64 0, .slice none 0 0] 31 (0, 0)) ∧ wr.heap[b3]? = some (.cells #[.int .i64 (wrap64 (p1 + 1)), .slice A ys.length c] 31 (0, 0)) ∧ Below w.heap.size w wr) (fun i _ => ys.length - (intOf i).toNat)
    case atStart =>
      refine ⟨0, Nat.zero_le _, rfl, Kd.S_far (p := ⟨b3, 0, none⟩) (Kd.S_far (p := ⟨b3, 1, none⟩) (Kd.S_far (p := ⟨b3, 0, none⟩) HS3.out (fun k_ hk => hk.2) _) (fun k_ hk => hk.2) _) (fun k_ hk => hk.2) _, ?_, ?_, ?_, ?_⟩
      · exact blk_far (blk_far (blk_far G13.out (Nat.ne_of_lt (Nat.lt_of_succ_lt HN13.out)) _) (Nat.ne_of_lt (Nat.lt_of_succ_lt HN13.out)) _) (Nat.ne_of_lt (Nat.lt_of_succ_lt HN13.out)) _
      · exact blk_far (blk_far (blk_far G23.out (Nat.ne_of_lt HN13.out) _) (Nat.ne_of_lt HN13.out) _) (Nat.ne_of_lt HN13.out) _
      · exact blk_put (cs := #[.int .i64 p1, .slice A ys.length c]) (blk_put (cs := #[.int .i64 p1, .slice none 0 0]) (blk_put (cs := #[.int .i64 0, .slice none 0 0]) G33.out 0 _ rfl) 1 _ rfl) 0 _ rfl
      · exact below_set (below_set (below_set HB3.out HN3.out) HN3.out) HN3.out
    case round =>
      obtain ⟨m, hm, rfl, hS, hg1, hg2, hg3, hB⟩ := hrel
      have HS := Aside0.mk hS
      have HB := Aside0.mk hB
      have G1 := Aside0.mk hg1
      have G2 := Aside0.mk hg2
      have G3 := Aside0.mk hg3
      have c30 : wr.cell? ⟨b3, 0, none⟩ = some (.int .i64 (wrap64 (p1 + 1))) := (blk_cell hg3 0).trans rfl
      have c31 : wr.cell? ⟨b3, 1, none⟩ = some (.slice A ys.length c) := (blk_cell hg3 1).trans rfl
      clear hS hB hg1 hg2 hg3
      by_cases hlt : m < ys.length
      · have hlen := impl_NextEpoch.pre_len (wrap64 (p1 + 1)) ys m hm
        obtain ⟨g, cc, eS, hge, hgl, _⟩ := Kd.S_form HS.out (by rw [hlen]; omega)
        injection eS with eA en ec
        subst eA
        subst ec
        clear en
        obtain ⟨a, ha⟩ : ∃ a, a = ys.getD m z63 := ⟨_, rfl⟩
        obtain ⟨oki, cs, _, hM, hcc, hfr, hoki, _⟩ := Kd.S_elem HS.out z63 (m : Int) (by omega) (by omega)
        rw [Int.toNat_natCast, impl_NextEpoch.pre_at _ _ _ hlt, ← ha] at hM
        obtain ⟨v4, rfl, hR4⟩ := k63_openM hM
        obtain ⟨A4, c4, rfl⟩ := Kd.R_slice hR4
        have x4 : wr.cell? ⟨g, m * 5 + 4, none⟩ = some (.slice A4 a.f4.length c4) := hcc 4 _ rfl
        obtain ⟨NN, hNN⟩ : ∃ NN, NN = wr.heap.size := ⟨_, rfl⟩
        have HI := Aside0.mk (impl_NextEpoch.Inn.mk (w := w) (b3 := b3) (B0 := w1.heap.size) (N := NN) (g := g) (m := m) (n := ys.length) (c := c) (zs := impl_NextEpoch.pre (wrap64 (p1 + 1)) ys m) (Kd.S_mono (Kd.S_bound HS.out) (fun k_ hk => ⟨hk.1, hNN ▸ hk.2.2.1⟩)) x4 G1.out G2.out G3.out HB.out (hNN ▸ hgl) (hNN ▸ blk_lt G3.out) (hNN ▸ blk_lt G2.out) (Nat.le_of_eq hNN))
        have n0 : (0 ≤ (m : Int)) = True := eq_true (by omega)
        have n1 : ((m : Int) < (ys.length : Int)) = True := eq_true (by omega)
        have HA := Aside0.mk ha
        have HGE := Aside0.mk hge
        have HLT := Aside0.mk hlt
        have HG3 := Aside0.mk (show g ≠ b3 from ((Kd.S_R HS.out).1 g rfl).2)
        have HB0 := Aside0.mk (show w.heap.size + 1 < w1.heap.size from blk_lt G21.out)
        clear hM hcc hfr hoki hR4 ha hNN
        go_wp2
        go_loopw [6, 35] (fun v6 i wr2 => ∃ j : Nat, j ≤ a.f4.length ∧ i = .int .i64 j ∧ impl_NextEpoch.Inn w b3 w1.heap.size NN g m ys.length c (.cells #[.int .i64 a0_0, .slice A0_1 l0_1.length c0_1] 31 (0, 0)) (.cells #[.int .i64 0, .slice none 0 0] 31 (0, 0)) (.cells #[.int .i64 (wrap64 (p1 + 1)), .slice (some ⟨g, 0, none⟩) ys.length c] 31 (0, 0)) (.slice A4 a.f4.length c4) ((impl_NextEpoch.pre (wrap64 (p1 + 1)) ys m).set m (impl_NextEpoch.mid (wrap64 (p1 + 1)) a j)) wr2 ∧ Kd.R k65 65 wr2 NN (fun _ => True) v6 (impl_NextEpoch.late (wrap64 (p1 + 1)) (a.f4.take j))) (fun v6 i _ => a.f4.length - (intOf i).toNat)
        case atStart => exact ⟨0, Nat.zero_le _, rfl, by rw [impl_NextEpoch.mid_zero _ _ _ hlt _ HA.out]; exact HI.out, Kd.R_nil _ _ _ _ _⟩
        case round =>
          obtain ⟨j, hj, rfl, hI, hR⟩ := hrel
          have HI2 := Aside0.mk hI
          have HR2 := Aside0.mk hR
          clear hI hR
          by_cases hjl : j < a.f4.length
          · obtain ⟨zs, hzs⟩ : ∃ zs, zs = (impl_NextEpoch.pre (wrap64 (p1 + 1)) ys m).set m (impl_NextEpoch.mid (wrap64 (p1 + 1)) a j) := ⟨_, rfl⟩
            have hzl : zs.length = ys.length := by rw [hzs, List.length_set, impl_NextEpoch.pre_len _ _ _ hm]
            have hzm : zs.getD m z63 = impl_NextEpoch.mid (wrap64 (p1 + 1)) a j := by rw [hzs, List.getD_eq_getElem?_getD, List.getElem?_set_self (by rw [impl_NextEpoch.pre_len _ _ _ hm]; exact hlt)]; rfl
            have HI3 := Aside0.mk (show impl_NextEpoch.Inn w b3 w1.heap.size NN g m ys.length c (.cells #[.int .i64 a0_0, .slice A0_1 l0_1.length c0_1] 31 (0, 0)) (.cells #[.int .i64 0, .slice none 0 0] 31 (0, 0)) (.cells #[.int .i64 (wrap64 (p1 + 1)), .slice (some ⟨g, 0, none⟩) ys.length c] 31 (0, 0)) (.slice A4 a.f4.length c4) zs wr by rw [hzs]; exact HI2.out)
            have HZ := Aside0.mk hzs
            have HZL := Aside0.mk hzl
            have HZM := Aside0.mk hzm
            have HZT := Aside0.mk (show m < zs.length by rw [hzl]; exact hlt)
            obtain ⟨oki, cs, _, hM, hcc, _, _, _⟩ := Kd.S_elem HI3.out.s z63 (m : Int) (by omega) (by omega)
            rw [Int.toNat_natCast, hzm] at hM
            obtain ⟨v4, rfl, hR4⟩ := k63_openM hM
            have e4 := Option.some.inj ((hcc 4 _ rfl).symm.trans HI3.out.x4)
            subst e4
            obtain ⟨ad, e4, hy0, hy1⟩ := at_T65 (Kd.R_reads' hR4).2.2 (j : Int) (by omega) (by exact Int.ofNat_lt.2 hjl)
            subst e4
            obtain ⟨x, hx⟩ : ∃ x, x = rd_T65 a.f4 (j : Int) := ⟨_, rfl⟩
            rw [show rd_T65 (impl_NextEpoch.mid (wrap64 (p1 + 1)) a j).f4 (j : Int) = x from hx.symm, Int.toNat_natCast] at hy0 hy1
            have HX := Aside0.mk hx
            have hl4 : a.f4.length ≤ 9223372036854775807 := (Kd.R_reads' hR4).2.2.2.1
            have H01 := Aside0.mk (impl_NextEpoch.next j _ hjl hl4)
            clear hl4
            have q0 : (0 ≤ (j : Int)) = True := eq_true (by omega)
            have q1 : ((j : Int) < (a.f4.length : Int)) = True := eq_true (by omega)
            clear hzs hzl hzm hM hcc hR4 hx
            by_cases hle : x.f1 ≤ wrap64 (p1 + 1)
            · have hle' := eq_true hle
              have HLE := Aside0.mk hle
              clear hle
              go_upto_region 14 with (first | ((with_reducible refine gate_dst (N := 8) rfl ?_); refine box_event ?hg (N := 8) ?hd (cs := #[.int .i64 0, .int .i64 0]) (t := 65) ?hr ?_; (case hd => rfl); (case hg => rfl); (case hr => first | (go_simp; done) | (go_simp; rfl)); intro bx hbx w5 hbox hb; have HI5 := Aside0.mk (HI3.out.below hb); have HR5 := Aside0.mk (Kd.R_below (Kd.R_elderB HR2.out bx (Nat.le_of_eq hbx.symm)) hb); have HBX := Aside0.mk hbox; have HBN := Aside0.mk (Nat.le_trans HI3.out.NW (Nat.le_of_eq hbx.symm) : NN ≤ bx); have d0 : w5.cell? ⟨bx, 0, none⟩ = some (.int .i64 0) := (blk_cell hbox 0).trans rfl; have d1 : w5.cell? ⟨bx, 1, none⟩ = some (.int .i64 0) := (blk_cell hbox 1).trans rfl; have df0 := blk_frozen hbox 0; have df1 := blk_frozen hbox 1; have nb1 : bx ≠ b3 := Nat.ne_of_gt (Nat.lt_of_lt_of_le HI5.out.g3N HBN.out); have nb2 : b3 ≠ bx := Ne.symm nb1; have nb3 : bx ≠ g := Nat.ne_of_gt (Nat.lt_of_lt_of_le HI5.out.gN HBN.out); have nb4 : g ≠ bx := Ne.symm nb3; have c35 : w5.cell? ⟨b3, 0, none⟩ = some (.int .i64 (wrap64 (p1 + 1))) := (blk_cell HI5.out.g3 0).trans rfl; have hfr5 := (HI5.out.free HB0.out HGE.out HG3.out HZL.out.symm HZT.out 0).2; have x15 : w5.cell? ⟨g, m * 5 + 1, none⟩ = some (.int .i64 (impl_NextEpoch.mid (wrap64 (p1 + 1)) a j).f1) := (by rw [← HZM.out]; exact hfr5.1); have f15 := hfr5.2; clear hb hbox hbx hfr5))
              have hI6 : impl_NextEpoch.Inn w b3 w1.heap.size NN g m ys.length c (.cells #[.int .i64 a0_0, .slice A0_1 l0_1.length c0_1] 31 (0, 0)) (.cells #[.int .i64 0, .slice none 0 0] 31 (0, 0)) (.cells #[.int .i64 (wrap64 (p1 + 1)), .slice (some ⟨g, 0, none⟩) ys.length c] 31 (0, 0)) (.slice (some ad) a.f4.length c4) zs ((w5.setCell ⟨bx, 0, none⟩ (.int .i64 x.f0)).setCell ⟨bx, 1, none⟩ (.int .i64 x.f1)) := (HI5.out.far bx 0 HBN.out _).far bx 1 HBN.out _
              have hR6 : Kd.R k65 65 ((w5.setCell ⟨bx, 0, none⟩ (.int .i64 x.f0)).setCell ⟨bx, 1, none⟩ (.int .i64 x.f1)) NN (fun _ => True) u6 (impl_NextEpoch.late (wrap64 (p1 + 1)) (a.f4.take j)) := Kd.R_mono (Kd.R_far (p := ⟨bx, 1, none⟩) (Kd.R_far (p := ⟨bx, 0, none⟩) HR5.out (fun _ hk => hk.2) _) (fun _ hk => hk.2) _) (fun _ _ => trivial)
              have hb6 : ((w5.setCell ⟨bx, 0, none⟩ (.int .i64 x.f0)).setCell ⟨bx, 1, none⟩ (.int .i64 x.f1)).heap[bx]? = some (.cells #[.int .i64 x.f0, .int .i64 x.f1] 65 (0, 0)) := blk_put (cs := #[.int .i64 x.f0, .int .i64 0]) (blk_put (cs := #[.int .i64 0, .int .i64 0]) HBX.out 0 _ rfl) 1 _ rfl
              clear d0 d1 df0 df1 c35 x15 f15
              generalize ((w5.setCell ⟨bx, 0, none⟩ (.int .i64 x.f0)).setCell ⟨bx, 1, none⟩ (.int .i64 x.f1)) = w6 at hI6 hR6 hb6 ⊢
              have e0 : w6.cell? ⟨bx, 0, none⟩ = some (.int .i64 x.f0) := (blk_cell hb6 0).trans rfl
              have hfr6 := (hI6.free HB0.out HGE.out HG3.out HZL.out.symm HZT.out 0).2
              rw [HZM.out] at hfr6
              have x16 := hfr6.1
              have f16 := hfr6.2
              have HI6 := Aside0.mk hI6
              have HR6 := Aside0.mk hR6
              clear hI6 hR6 hb6 hfr6
              go_still_tail 9, (by kernel_rfl)
              change wpList _ _ _ _ _ w6.drew
              have hI7 : impl_NextEpoch.Inn w b3 w1.heap.size NN g m ys.length c (.cells #[.int .i64 a0_0, .slice A0_1 l0_1.length c0_1] 31 (0, 0)) (.cells #[.int .i64 0, .slice none 0 0] 31 (0, 0)) (.cells #[.int .i64 (wrap64 (p1 + 1)), .slice (some ⟨g, 0, none⟩) ys.length c] 31 (0, 0)) (.slice (some ad) a.f4.length c4) zs w6.drew := HI6.out.below (below_drew (Below.refl _ _))
              have hR7 : Kd.R k65 65 w6.drew NN (fun _ => True) u6 (impl_NextEpoch.late (wrap64 (p1 + 1)) (a.f4.take j)) := Kd.R_drew HR6.out
              clear e0 x16 f16
              generalize w6.drew = w7 at hI7 hR7 ⊢
              obtain ⟨hI8, x17, f17⟩ := hI7.free HB0.out HGE.out HG3.out HZL.out.symm HZT.out (wrap64 ((impl_NextEpoch.mid (wrap64 (p1 + 1)) a j).f1 + x.f0))
              rw [HZM.out] at hI8 x17
              have HI8 := Aside0.mk hI8
              have HR7 := Aside0.mk hR7
              have HGN := Aside0.mk hI7.gN
              clear hI8 hR7 hI7
              go_wp2
              go_roundw
              case rel =>
                refine ⟨j + 1, Nat.succ_le_of_lt hjl, by rw [H01.out], ?_, ?_⟩
                · rw [impl_NextEpoch.mid_pos _ a j hjl x HX.out HLE.out]
                  have h9 := HI8.out
                  rw [HZ.out, List.set_set] at h9
                  exact h9
                · rw [impl_NextEpoch.late_step _ _ _ hjl, if_pos (show (a.f4.getD j z65).f1 ≤ _ from (show x = a.f4.getD j z65 from HX.out) ▸ HLE.out)]
                  exact Kd.R_mono (Kd.R_far (p := ⟨g, m * 5 + 1, none⟩) (Kd.R_mono (Kd.R_bound HR7.out) (fun k_ hk => Nat.ne_of_gt (Nat.lt_of_lt_of_le HGN.out hk.2.1))) (fun _ hk => hk) _) (fun _ _ => trivial)
              case measure =>
                rw [H01.out]
                exact impl_NextEpoch.meas _ j hjl
            · have hle' := eq_false hle
              have HLE := Aside0.mk hle
              clear hle
              go_upto_region 15 with (first | ((with_reducible refine gate_dst (N := 8) rfl ?_); refine box_event ?hg (N := 8) ?hd (cs := #[.int .i64 0, .int .i64 0]) (t := 65) ?hr ?_; (case hd => rfl); (case hg => rfl); (case hr => first | (go_simp; done) | (go_simp; rfl)); intro bx hbx w5 hbox hb; have HI5 := Aside0.mk (HI3.out.below hb); have HR5 := Aside0.mk (Kd.R_below (Kd.R_elderB HR2.out bx (Nat.le_of_eq hbx.symm)) hb); have HBX := Aside0.mk hbox; have HBN := Aside0.mk (Nat.le_trans HI3.out.NW (Nat.le_of_eq hbx.symm) : NN ≤ bx); have d0 : w5.cell? ⟨bx, 0, none⟩ = some (.int .i64 0) := (blk_cell hbox 0).trans rfl; have d1 : w5.cell? ⟨bx, 1, none⟩ = some (.int .i64 0) := (blk_cell hbox 1).trans rfl; have df0 := blk_frozen hbox 0; have df1 := blk_frozen hbox 1; have nb1 : bx ≠ b3 := Nat.ne_of_gt (Nat.lt_of_lt_of_le HI5.out.g3N HBN.out); have nb2 : b3 ≠ bx := Ne.symm nb1; have nb3 : bx ≠ g := Nat.ne_of_gt (Nat.lt_of_lt_of_le HI5.out.gN HBN.out); have nb4 : g ≠ bx := Ne.symm nb3; have c35 : w5.cell? ⟨b3, 0, none⟩ = some (.int .i64 (wrap64 (p1 + 1))) := (blk_cell HI5.out.g3 0).trans rfl; have hfr5 := (HI5.out.free HB0.out HGE.out HG3.out HZL.out.symm HZT.out 0).2; have x15 : w5.cell? ⟨g, m * 5 + 1, none⟩ = some (.int .i64 (impl_NextEpoch.mid (wrap64 (p1 + 1)) a j).f1) := (by rw [← HZM.out]; exact hfr5.1); have f15 := hfr5.2; clear hb hbox hbx hfr5))
              have hI6 : impl_NextEpoch.Inn w b3 w1.heap.size NN g m ys.length c (.cells #[.int .i64 a0_0, .slice A0_1 l0_1.length c0_1] 31 (0, 0)) (.cells #[.int .i64 0, .slice none 0 0] 31 (0, 0)) (.cells #[.int .i64 (wrap64 (p1 + 1)), .slice (some ⟨g, 0, none⟩) ys.length c] 31 (0, 0)) (.slice (some ad) a.f4.length c4) zs ((w5.setCell ⟨bx, 0, none⟩ (.int .i64 x.f0)).setCell ⟨bx, 1, none⟩ (.int .i64 x.f1)) := (HI5.out.far bx 0 HBN.out _).far bx 1 HBN.out _
              have hR6 : Kd.R k65 65 ((w5.setCell ⟨bx, 0, none⟩ (.int .i64 x.f0)).setCell ⟨bx, 1, none⟩ (.int .i64 x.f1)) NN (fun _ => True) u6 (impl_NextEpoch.late (wrap64 (p1 + 1)) (a.f4.take j)) := Kd.R_mono (Kd.R_far (p := ⟨bx, 1, none⟩) (Kd.R_far (p := ⟨bx, 0, none⟩) HR5.out (fun _ hk => hk.2) _) (fun _ hk => hk.2) _) (fun _ _ => trivial)
              have hb6 : ((w5.setCell ⟨bx, 0, none⟩ (.int .i64 x.f0)).setCell ⟨bx, 1, none⟩ (.int .i64 x.f1)).heap[bx]? = some (.cells #[.int .i64 x.f0, .int .i64 x.f1] 65 (0, 0)) := blk_put (cs := #[.int .i64 x.f0, .int .i64 0]) (blk_put (cs := #[.int .i64 0, .int .i64 0]) HBX.out 0 _ rfl) 1 _ rfl
              clear d0 d1 df0 df1 c35 x15 f15
              generalize ((w5.setCell ⟨bx, 0, none⟩ (.int .i64 x.f0)).setCell ⟨bx, 1, none⟩ (.int .i64 x.f1)) = w6 at hI6 hR6 hb6 ⊢
              have e0 : w6.cell? ⟨bx, 0, none⟩ = some (.int .i64 x.f0) := (blk_cell hb6 0).trans rfl
              have e1 : w6.cell? ⟨bx, 1, none⟩ = some (.int .i64 x.f1) := (blk_cell hb6 1).trans rfl
              have HI6 := Aside0.mk hI6
              have HR6 := Aside0.mk hR6
              clear hI6 hR6 hb6
              have HLL := Aside0.mk (show ((impl_NextEpoch.late (wrap64 (p1 + 1)) (a.f4.take j)).length + 1) * 16 ≤ 140737488355328 from by
                have h1 : (impl_NextEpoch.late (wrap64 (p1 + 1)) (a.f4.take j)).length ≤ (a.f4.take j).length := List.length_filter_le _ _
                have h2 : (a.f4.take j).length ≤ a.f4.length := List.length_take_le' _ _
                have h3 : a.f4.length < 1099511627776 := HALL.out a (by rw [HA.out, List.getD_eq_getElem?_getD, List.getElem?_eq_getElem HLT.out]; exact List.getElem_mem _)
                omega)
              go_wp2_with (first | ((with_reducible refine gate_dst (N := 55) rfl ?_); refine Kd.R_lit k65 (w0 := w6) w6.heap.size 65 ?hg (N := 55) ?hd (xs := ([x] : List S65)) (inner := [.int .i64 x.f0, .int .i64 x.f1]) (ok := fun _ => True) (okp := fun _ => True) ?hr ?hp (fun _ hk => hk) trivial (Below.refl _ _) (Nat.le_refl _) (by simp) ?_; (case hd => rfl); (case hg => rfl); (case hr => first | (go_simp; done) | (go_simp; rfl)); (case hp => exact Reps.snoc (Reps.none _ _) (k65_mkM _ _ _ x) rfl); intro v55 w7 ho hb hg_ hnew_; have HI7 := Aside0.mk (HI6.out.below hb); have HR7 := Aside0.mk (Kd.R_below HR6.out hb); have HL7 := Aside0.mk ho; clear ho hb hg_ hnew_; obtain ⟨A7, c7, e7⟩ := Kd.R_slice HL7.out; subst e7) | ((with_reducible refine gate_builtin (b := .append) (xs := #[.tmp 53, .tmp 55]) rfl ?_); at_builtin; refine Kd.R_append_rows k65 (w0 := w7) NN rfl (.tmp 53) (.tmp 55) 61 65 (.agg #[.int .i64 0, .int .i64 0]) 16 rfl Try.underlying61 info65 rfl (by decide) (by omega) u6 (impl_NextEpoch.late (wrap64 (p1 + 1)) (a.f4.take j)) [x] _ _ _ (fun _ => True) (fun _ => False) rfl rfl ?aO ?aR (fun _ _ h => h) (fun _ h => h.elim) ?aF ?aB ?aS ?aL ?_; (case aO => exact HR7.out); (case aR => exact (Kd.R_reads' HL7.out).2.2); (case aF => exact fun _ _ => trivial); (case aB => exact Below.refl _ _); (case aS => exact HI7.out.NW); (case aL => exact HLL.out); intro v8 w8 ho hb hg hat; have HI8 := Aside0.mk (HI7.out.grow hb); have HR8 := Aside0.mk ho; clear ho hb hg hat))
              go_roundw
              case rel =>
                refine ⟨j + 1, Nat.succ_le_of_lt hjl, by rw [H01.out], ?_, ?_⟩
                · rw [impl_NextEpoch.mid_neg _ a j hjl x HX.out HLE.out]
                  have h9 := HI8.out
                  rw [HZ.out] at h9
                  exact h9
                · rw [impl_NextEpoch.late_step _ _ _ hjl, if_neg (show ¬ (a.f4.getD j z65).f1 ≤ _ from (show x = a.f4.getD j z65 from HX.out) ▸ HLE.out), show a.f4.getD j z65 = x from HX.out.symm]
                  exact HR8.out
              case measure =>
                rw [H01.out]
                exact impl_NextEpoch.meas _ j hjl
          · obtain rfl : j = a.f4.length := by omega
            have hp5 : (impl_NextEpoch.pre (wrap64 (p1 + 1)) ys m).length = ys.length := impl_NextEpoch.pre_len _ _ _ hm
            have hmm : ((impl_NextEpoch.pre (wrap64 (p1 + 1)) ys m).set m (impl_NextEpoch.mid (wrap64 (p1 + 1)) a a.f4.length)).getD m z63 = impl_NextEpoch.mid (wrap64 (p1 + 1)) a a.f4.length := by rw [List.getD_eq_getElem?_getD, List.getElem?_set_self (by rw [hp5]; exact hlt)]; rfl
            obtain ⟨A6, c6, e6⟩ := Kd.R_slice HR2.out
            generalize (impl_NextEpoch.late (wrap64 (p1 + 1)) (a.f4.take a.f4.length)).length = n6 at e6
            subst e6
            obtain ⟨hS9, hg1, hg2, hg3, hB9, f94⟩ := HI2.out.leave HB0.out (Nat.le_trans HGE.out (Nat.le_of_lt HI2.out.gN)) HGE.out HG3.out (by rw [List.length_set, hp5]) (by rw [List.length_set, hp5]; exact hlt) _ _ HR2.out
            rw [hmm] at hS9
            have x49 := HI2.out.x4
            have HS9 := Aside0.mk hS9
            have HG19 := Aside0.mk hg1
            have HG29 := Aside0.mk hg2
            have HG39 := Aside0.mk hg3
            have HB9 := Aside0.mk hB9
            have HP5 := Aside0.mk hp5
            have HLE := Aside0.mk (show m + 1 ≤ ys.length from hlt)
            have HY := Aside0.mk (Kd.S_reads' HS9.out).2.2.2.1
            have H01 := Aside0.mk (impl_NextEpoch.next m _ hlt (by have h1 := HY.out; rw [List.length_set, List.length_set, HP5.out] at h1; exact h1))
            clear hS9 hg1 hg2 hg3 hB9 hp5 hmm
            go_wp2
            go_roundw
            case rel =>
              refine ⟨m + 1, HLE.out, by rw [H01.out], ?_, HG19.out, HG29.out, HG39.out, HB9.out⟩
              rw [← impl_NextEpoch.mid_end _ ys m HLE.out a HA.out]
              have h9 := HS9.out
              exact h9
            case measure =>
              rw [H01.out]
              exact impl_NextEpoch.meas _ m HLE.out
      · obtain rfl : m = ys.length := by omega
        have n1 : ((ys.length : Int) < (ys.length : Int)) = False := eq_false (by omega)
        obtain ⟨zs, hzs⟩ : ∃ zs, zs = ys.map (impl_NextEpoch.on (wrap64 (p1 + 1))) := ⟨_, rfl⟩
        have hzl : ys.length = zs.length := by rw [hzs, List.length_map]
        have hS := HS.out
        rw [impl_NextEpoch.pre_end, ← hzs, hzl] at hS
        have g3 := G3.out
        rw [hzl] at g3 c31
        have h := H.out
        rw [← hzs] at h
        have HS5 := Aside0.mk hS
        have G35 := Aside0.mk g3
        have HN := Aside0.mk (show w.heap.size + 1 < w1.heap.size from blk_lt G21.out)
        clear hzs hzl hS g3
        obtain ⟨b, hb, h⟩ := Option.bind_eq_some_iff.mp h
        have HOK2 := Aside0.mk hb
        clear hb
        cases b with
        | true =>
          rw [if_pos rfl] at h
          obtain ⟨rfl, rfl⟩ : wrap64 (p1 + 1) = r1 ∧ zs = r2 := by injection h with h; injection h with h1 h2; exact ⟨h1, h2⟩
          clear h
          go_wp2_with (go_at_call 27; refine (impl_LedgerOk.calls k (wrap64 (p1 + 1)) _ _ zs true _ ?s1 ?s2 HOK2.out).mono ?_; (case s1 => exact (Kd.S_reads' HS5.out).2.2); (case s2 => exact (Kd.S_reads' HS5.out).2.1); rintro e w6 ⟨rfl, hb6⟩; have HS6 := Aside0.mk (Kd.S_below HS5.out hb6); have g2 := impl_NextEpoch.held G2.out hb6; have G26 := Aside0.mk g2; have g3 := impl_NextEpoch.held G35.out hb6; have HB6 := Aside0.mk (below_step HB.out hb6); have z30 : w6.cell? ⟨b3, 0, none⟩ = some (.int .i64 (wrap64 (p1 + 1))) := (blk_cell g3 0).trans rfl; have z31 : w6.cell? ⟨b3, 1, none⟩ = some (.slice A zs.length c) := (blk_cell g3 1).trans rfl; have z2 : w6.cell? ⟨w.heap.size + 1, 0, none⟩ = some (.int .i64 0) := (blk_cell g2 0).trans rfl; have z3 : w6.cell? ⟨w.heap.size + 1, 1, none⟩ = some (.slice none 0 0) := (blk_cell g2 1).trans rfl; have f2 := blk_frozen g2 0; have f3 := blk_frozen g2 1; clear g2 g3 hb6)
          (try simp only [Exit.inBlock, Exit.then])
          refine bodyPost_ret (results_cell_row rfl _ _ (w.heap.size + 1) 31 #[.int .i64 (wrap64 (p1 + 1)), .slice A zs.length c] (0, 0) _ rfl (blk_put (cs := #[.int .i64 (wrap64 (p1 + 1)), .slice none 0 0]) (blk_put (cs := #[.int .i64 0, .slice none 0 0]) G26.out 0 _ rfl) 1 _ rfl) Try.underlying31 rfl (by kernel_rfl)) rfl ?_
          exact ⟨_, rfl, Kd.S_lower (Kd.S_mono (Kd.S_far (p := ⟨w.heap.size + 1, 1, none⟩) (Kd.S_far (p := ⟨w.heap.size + 1, 0, none⟩) HS6.out (fun k_ hk => Nat.ne_of_gt (Nat.lt_of_lt_of_le HN.out hk.1)) _) (fun k_ hk => Nat.ne_of_gt (Nat.lt_of_lt_of_le HN.out hk.1)) _) (fun _ _ => trivial)) HB1.out.size, below_set (below_set HB6.out (Nat.le_succ _)) (Nat.le_succ _)⟩
        | false =>
          rw [if_neg (by simp)] at h
          have HCP2 := Aside0.mk h
          clear h
          go_wp2_with (first | (go_at_call 27; refine (impl_LedgerOk.calls k (wrap64 (p1 + 1)) _ _ zs false _ ?s1 ?s2 HOK2.out).mono ?_; (case s1 => exact (Kd.S_reads' HS5.out).2.2); (case s2 => exact (Kd.S_reads' HS5.out).2.1); rintro e w6 ⟨rfl, hb6⟩; have G26 := Aside0.mk (impl_NextEpoch.held G2.out hb6); have g1 := impl_NextEpoch.held G1.out hb6; have HB6 := Aside0.mk (below_step HB.out hb6); have z60 : w6.cell? ⟨w.heap.size, 0, none⟩ = some (.int .i64 a0_0) := (blk_cell g1 0).trans rfl; have z61 : w6.cell? ⟨w.heap.size, 1, none⟩ = some (.slice A0_1 l0_1.length c0_1) := (blk_cell g1 1).trans rfl; clear g1 hb6) | (go_at_call 63; refine (impl_copyLedger.calls k a0_0 _ _ l0_1 r1 r2 _ ?s1 ?s2 HCP2.out).mono ?_; (case s1 => exact Kd.C_below HR.out HB6.out); (case s2 => exact HC.out); rintro e w7 ⟨v1, rfl, hS, hb7⟩; have g2 := impl_NextEpoch.held G26.out hb7; obtain ⟨A7, c7, rfl⟩ := Kd.S_slice hS; have z2 : w7.cell? ⟨w.heap.size + 1, 0, none⟩ = some (.int .i64 0) := (blk_cell g2 0).trans rfl; have z3 : w7.cell? ⟨w.heap.size + 1, 1, none⟩ = some (.slice none 0 0) := (blk_cell g2 1).trans rfl; have f2 := blk_frozen g2 0; have f3 := blk_frozen g2 1; have HS7 := Aside0.mk (Kd.S_lower (Kd.S_mono (Kd.S_bound hS) (fun k_ hk => hk.2.1)) HB6.out.size); have G37 := Aside0.mk g2; have HB7 := Aside0.mk (below_step HB6.out hb7); have LT := Aside0.mk (blk_lt G26.out); clear hS hb7 g2))
          (try simp only [Exit.inBlock, Exit.then])
          refine bodyPost_ret (results_cell_row rfl _ _ (w.heap.size + 1) 31 #[.int .i64 r1, .slice A7 r2.length c7] (0, 0) _ rfl (blk_put (cs := #[.int .i64 r1, .slice none 0 0]) (blk_put (cs := #[.int .i64 0, .slice none 0 0]) G37.out 0 _ rfl) 1 _ rfl) Try.underlying31 rfl (by kernel_rfl)) rfl ?_
          exact ⟨_, rfl, Kd.S_mono (Kd.S_far (p := ⟨w.heap.size + 1, 1, none⟩) (Kd.S_far (p := ⟨w.heap.size + 1, 0, none⟩) HS7.out (fun k_ hk => Nat.ne_of_gt (Nat.lt_of_lt_of_le LT.out hk)) _) (fun k_ hk => Nat.ne_of_gt (Nat.lt_of_lt_of_le LT.out hk)) _) (fun _ _ => trivial), below_set (below_set HB7.out (Nat.le_succ _)) (Nat.le_succ _)⟩

/-! ### spec_l1In: function 91 -/
def spec_l1In.f (a0 : Int) (a1 : Int) (a2 : Int) : Option (Bool) := if a0 ≥ a1 then (some (decide (a0 ≤ a2))) else (some false)
set_option maxHeartbeats 8000000 in
set_option maxRecDepth 100000 in
theorem spec_l1In.calls (a0 : Int) (a1 : Int) (a2 : Int) (r : Bool) (w : World) (h : spec_l1In.f a0 a1 a2 = some r) :
    Calls Try.prog 91 #[.int .i64 a0, .int .i64 a1, .int .i64 a2] w fun e w' => e = .returned (.bool r) ∧ Drawn0 w w' := by
  have H : (if a0 ≥ a1 then (some (decide (a0 ≤ a2))) else (some false)) = some r := h
  clear h
  by_cases c4 : a0 ≥ a1
  · rw [if_pos c4] at H
    have c4b0 : decide (a1 ≤ a0) = true := decide_eq_true c4
    clear c4
    obtain rfl := Option.some.inj H
    go_enter Try.func91, Try.ntmps91
    go_wp2
    go_ret
    exact ⟨by first | rfl | (simp; done) | (simp [*]; done), by repeat (first | exact Drawn0.refl _ | apply Drawn0.step)⟩
  · rw [if_neg c4] at H
    have c4b0 : decide (a1 ≤ a0) = false := decide_eq_false c4
    clear c4
    obtain rfl := Option.some.inj H
    go_enter Try.func91, Try.ntmps91
    go_wp2
    go_ret
    exact ⟨by first | rfl | (simp; done) | (simp [*]; done), by repeat (first | exact Drawn0.refl _ | apply Drawn0.step)⟩

end Go.Proofs.Ytcbpfofkdipjhaa.PG
