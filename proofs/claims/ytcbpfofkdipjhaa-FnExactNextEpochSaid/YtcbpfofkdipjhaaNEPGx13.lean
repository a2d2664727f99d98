/- The machine's side of Go functions: each as a plain function, and that the call does what it says. Written by a program (wip/mprint). -/
import Derived.Test.YtcbpfofkdipjhaaNEPGx0
import Derived.Test.YtcbpfofkdipjhaaNEPGx1
import Derived.Test.YtcbpfofkdipjhaaNEPGx3
import Derived.Test.YtcbpfofkdipjhaaNEPGx6
import Derived.Test.YtcbpfofkdipjhaaNEPGx9
import Derived.Test.YtcbpfofkdipjhaaNEPGx12
import Derived.Lib.Hide
import Derived.Lib.Builder
import Derived.StillTailTactics
import Derived.Lib.Hide
import Derived.Deep.RegionHeld3
namespace Go.Proofs.Ytcbpfofkdipjhaa.PG
open Go.RowKit Go.Proofs.YtcbpfofkdipjhaaW.PrintWords Go.Proofs.YtcbpfofkdipjhaaW.PrintLast Go.Proofs.YtcbpfofkdipjhaaW.PrintMore
attribute [local go_sem] max2_int min2_int max_two min_two max_three min_three max_four min_four   -- for this text's walks alone
set_option linter.unusedVariables false
set_option linter.unusedSimpArgs false

/-! ### spec_LedgerOk: function 47 -/
def spec_LedgerOk.f (k : Nat) (a0_0 : Int) (l0_1 : List (S63)) : Option (Bool) := (spec_l1In.f a0_0 0 900).bind fun t231 => (if t231 = true then ((spec_AcctsOk.f k l0_1).bind fun t232 => (some t232)) else (some false))
theorem spec_LedgerOk.mono : ∀ a0 a1 k, LeO (spec_LedgerOk.f k a0 a1) (spec_LedgerOk.f (k + 1) a0 a1) := by
  intro a0 a1 k
  unfold spec_LedgerOk.f
  repeat' first
      | (with_reducible exact spec_AcctsOk.mono _ _)
      | (with_reducible exact LeO.refl _)
      | (with_reducible exact LeO.none _)
      | (with_reducible refine LeO.ite ?_ ?_)
      | (with_reducible refine LeO.bind ?_ (fun _ => ?_))
      | exact spec_AcctsOk.mono _ _
      | exact LeO.none _
      | refine LeO.ite ?_ ?_
      | refine LeO.bind ?_ (fun _ => ?_)
set_option maxHeartbeats 8000000 in
set_option maxRecDepth 100000 in
theorem spec_LedgerOk.calls (k : Nat) (a0_0 : Int) (A0_1 : Option Addr) (c0_1 : Nat) (l0_1 : List (S63)) (r : Bool) (w : World) (hr0_1 : Kd.C k63 w A0_1 l0_1.length l0_1) (hc0_1 : l0_1.length ≤ c0_1) (h : spec_LedgerOk.f k a0_0 l0_1 = some r) :
    Calls Try.prog 47 #[.agg #[.int .i64 a0_0, .slice A0_1 l0_1.length c0_1]] w fun e w' => e = .returned (.bool r) ∧ Below w.heap.size w w' := by
  have hu31 := Try.underlying31
  have HR0_1 := Aside0.mk hr0_1
  have HC0_1 := Aside0.mk hc0_1
  clear hr0_1 hc0_1
  have HB := Aside0.mk (Below.refl w.heap.size w)
  have H : ((spec_l1In.f a0_0 0 900).bind fun t231 => (if t231 = true then ((spec_AcctsOk.f k l0_1).bind fun t232 => (some t232)) else (some false))) = some r := h
  clear h
  replace H := Option.bind_eq_some_iff.mp H
  obtain ⟨t231, A20, H⟩ := H
  replace H : (if t231 = true then ((spec_AcctsOk.f k l0_1).bind fun t232 => (some t232)) else (some false)) = some r := H
  have A2 := Aside0.mk A20
  clear A20
  by_cases c3 : t231 = true
  · subst c3
    have H1 : ((spec_AcctsOk.f k l0_1).bind fun t232 => (some t232)) = some r := by rw [if_pos rfl] at H; exact H
    clear H
    have H := H1
    clear H1
    replace H := Option.bind_eq_some_iff.mp H
    obtain ⟨t232, A40, H⟩ := H
    replace H : (some t232) = some r := H
    have A4 := Aside0.mk A40
    clear A40
    obtain rfl := Option.some.inj H
    go_enter Try.func47, Try.ntmps47
    go_wp2_with (first | ((with_reducible refine gate_dst (N := 1) rfl ?_); refine box_event ?hg (N := 1) ?hd (cs := #[.int .i64 a0_0, .slice A0_1 l0_1.length c0_1]) (t := 31) ?hr ?_; (case hd => rfl); (case hg => rfl); (case hr => first | (go_simp; done) | (go_simp; rfl)); intro gb230 hg w5 hbox hb; have n0_ := Aside0.mk (below_step (by repeat (first | (with_reducible first | exact HB.out | apply below_alloc | apply pw_below_drewN | apply below_drew1) | exact HB.out)) hb); have n1_ := Aside0.mk (hbox); have n2_ := Aside0.mk ((by rw [hg]; exact (below_size (by repeat (first | (with_reducible first | exact HB.out | apply below_alloc | apply pw_below_drewN | apply below_drew1) | exact HB.out))) : w.heap.size ≤ gb230)); have n3_ := Aside0.mk ((by rw [hg]; exact (below_size (by repeat (first | (with_reducible first | exact HB.out | apply below_alloc | apply pw_below_drewN | apply below_drew1) | exact HB.out))) : w.heap.size ≤ gb230)); clear HB; have HB := n0_; have BK230 := n1_; have GW230 := n2_; have GE230 := n3_; clear n0_ n1_ n2_ n3_; clear hb hbox hg; have hcz6_0 : w5.cell? ⟨gb230, 0, none⟩ = some (.int .i64 a0_0) := (blk_cell BK230.out 0).trans rfl; have hcz6_1 : w5.cell? ⟨gb230, 1, none⟩ = some (.slice A0_1 l0_1.length c0_1) := (blk_cell BK230.out 1).trans rfl; have hfz6_0 := blk_frozen BK230.out 0; have hfz6_1 := blk_frozen BK230.out 1) | ((with_reducible refine gate_callee (f := 91) rfl ?_); refine goesL_ (some 5) rfl rfl Try.func91 (by kernel_rfl) rfl #[.int .i64 a0_0, .int .i64 0, .int .i64 900] rfl (by (try simp only [List.map_toArray, List.map_cons, List.map_nil]); first | done | rfl | (simp only [List.length_drop, List.length_take]; rfl)) ?_; (with_reducible refine (spec_l1In.calls a0_0 0 900 true _ A2.out).mono ?_); rintro e w' ⟨rfl, ⟨nd, rfl⟩⟩; refine ⟨_, rfl, ?_⟩) | (go_at_call 89; (with_reducible refine (spec_AcctsOk.calls k _ _ l0_1 t232 _ ?side1 ?side2 A4.out).mono ?_); (case side1 => repeat (first | exact (Kd.C_below HR0_1.out (by repeat (first | (with_reducible first | exact HB.out | apply below_alloc | apply pw_below_drewN | apply below_drew1 | refine below_set ?_ GE230.out) | exact HB.out))) | (with_reducible refine Kd.C_alloc ?_ _) | (with_reducible refine Kd.C_drewN ?_ _) | (with_reducible refine Kd.C_drew ?_))); (case side2 => exact HC0_1.out); rintro e w7 ⟨rfl, hb⟩; have n0_ := Aside0.mk (blk_below (g := gb230) (o := .cells #[.int .i64 a0_0, .slice A0_1 l0_1.length c0_1] 31 (0, 0)) (by (with_reducible repeat (first | refine blk_drewN ?_ _ | refine blk_drew ?_ | refine blk_alloc ?_ _)); exact BK230.out) hb); have n1_ := Aside0.mk (below_step (by repeat (first | (with_reducible first | exact HB.out | apply below_alloc | apply pw_below_drewN | apply below_drew1 | refine below_set ?_ GE230.out) | exact HB.out)) hb); clear BK230; clear HB; have BK230 := n0_; have HB := n1_; clear n0_ n1_; (try clear hb); (try clear hb2); (try clear hk); (try clear hi)))
    go_ret
    exact ⟨by first | rfl | (simp [errW_none, errW_some] <;> rfl) | (simp [*, errW_none, errW_some] <;> rfl), by repeat (first | (with_reducible first | exact HB.out | apply below_alloc | apply pw_below_drewN | apply below_drew1 | refine below_set ?_ GE230.out) | exact HB.out)⟩
  · replace c3 := Bool.eq_false_iff.mpr c3
    subst c3
    have H1 : (some false) = some r := by rw [if_neg (show ¬ (false = true) by decide)] at H; exact H
    clear H
    have H := H1
    clear H1
    obtain rfl := Option.some.inj H
    go_enter Try.func47, Try.ntmps47
    go_wp2_with (first | ((with_reducible refine gate_dst (N := 1) rfl ?_); refine box_event ?hg (N := 1) ?hd (cs := #[.int .i64 a0_0, .slice A0_1 l0_1.length c0_1]) (t := 31) ?hr ?_; (case hd => rfl); (case hg => rfl); (case hr => first | (go_simp; done) | (go_simp; rfl)); intro gb230 hg w8 hbox hb; have n0_ := Aside0.mk (below_step (by repeat (first | (with_reducible first | exact HB.out | apply below_alloc | apply pw_below_drewN | apply below_drew1) | exact HB.out)) hb); have n1_ := Aside0.mk (hbox); have n2_ := Aside0.mk ((by rw [hg]; exact (below_size (by repeat (first | (with_reducible first | exact HB.out | apply below_alloc | apply pw_below_drewN | apply below_drew1) | exact HB.out))) : w.heap.size ≤ gb230)); have n3_ := Aside0.mk ((by rw [hg]; exact (below_size (by repeat (first | (with_reducible first | exact HB.out | apply below_alloc | apply pw_below_drewN | apply below_drew1) | exact HB.out))) : w.heap.size ≤ gb230)); clear HB; have HB := n0_; have BK230 := n1_; have GW230 := n2_; have GE230 := n3_; clear n0_ n1_ n2_ n3_; clear hb hbox hg; have hcz9_0 : w8.cell? ⟨gb230, 0, none⟩ = some (.int .i64 a0_0) := (blk_cell BK230.out 0).trans rfl; have hcz9_1 : w8.cell? ⟨gb230, 1, none⟩ = some (.slice A0_1 l0_1.length c0_1) := (blk_cell BK230.out 1).trans rfl; have hfz9_0 := blk_frozen BK230.out 0; have hfz9_1 := blk_frozen BK230.out 1) | ((with_reducible refine gate_callee (f := 91) rfl ?_); refine goesL_ (some 5) rfl rfl Try.func91 (by kernel_rfl) rfl #[.int .i64 a0_0, .int .i64 0, .int .i64 900] rfl (by (try simp only [List.map_toArray, List.map_cons, List.map_nil]); first | done | rfl | (simp only [List.length_drop, List.length_take]; rfl)) ?_; (with_reducible refine (spec_l1In.calls a0_0 0 900 false _ A2.out).mono ?_); rintro e w' ⟨rfl, ⟨nd, rfl⟩⟩; refine ⟨_, rfl, ?_⟩))
    go_ret
    exact ⟨by first | rfl | (simp [errW_none, errW_some] <;> rfl) | (simp [*, errW_none, errW_some] <;> rfl), by repeat (first | (with_reducible first | exact HB.out | apply below_alloc | apply pw_below_drewN | apply below_drew1 | refine below_set ?_ GE230.out) | exact HB.out)⟩

/-! ### spec_l4Copy: function 92 -/
def spec_l4Copy.l0 : Nat → List (S63) → List (S63) → Int → Option ((List (S63)))
  | 0, _, _, _ => none
  | k + 1, x0, x3, x4 => if x4 < (x0.length : Int) then (if 0 ≤ x4 then ((some (([] : List (S65)) : List (S65))).bind fun y238 => (if y238.length + ((rd_T63 x0 x4).f4).length < 8796093022208 then (if x3.length < 2199023255552 then (spec_l4Copy.l0 k x0 (x3 ++ [(⟨(rd_T63 x0 x4).f0, (rd_T63 x0 x4).f1, (rd_T63 x0 x4).f2, (rd_T63 x0 x4).f3, (y238 ++ ((rd_T63 x0 x4).f4))⟩ : S63)]) (wrap64 (x4 + 1))) else (none)) else (none))) else (none)) else (some x3)
def spec_l4Copy.f (k : Nat) (l0 : List (S63)) : Option ((List (S63))) := spec_l4Copy.l0 k l0 (([] : List (S63))) 0
theorem spec_l4Copy.mono_l : ∀ k, (∀ y0 y1 y2, LeO (spec_l4Copy.l0 k y0 y1 y2) (spec_l4Copy.l0 (k + 1) y0 y1 y2))
  | 0 => fun _ _ _ r h => by simp [spec_l4Copy.l0] at h
  | k + 1 => by
    have ih0 := spec_l4Copy.mono_l k
    · intro y0 y1 y2
      unfold spec_l4Copy.l0
      repeat' first
      | (with_reducible exact ih0 _ _ _)
      | (with_reducible exact LeO.refl _)
      | (with_reducible exact LeO.none _)
      | (with_reducible refine LeO.ite ?_ ?_)
      | (with_reducible refine LeO.bind ?_ (fun _ => ?_))
      | exact ih0 _ _ _
      | exact LeO.none _
      | refine LeO.ite ?_ ?_
      | refine LeO.bind ?_ (fun _ => ?_)
theorem spec_l4Copy.mono : ∀ a0 k, LeO (spec_l4Copy.f k a0) (spec_l4Copy.f (k + 1) a0) := by
  intro a0 k
  have ih0 := spec_l4Copy.mono_l k
  unfold spec_l4Copy.f
  repeat' first
      | (with_reducible exact ih0 _ _ _)
      | (with_reducible exact LeO.refl _)
      | (with_reducible exact LeO.none _)
      | (with_reducible refine LeO.ite ?_ ?_)
      | (with_reducible refine LeO.bind ?_ (fun _ => ?_))
      | exact ih0 _ _ _
      | exact LeO.none _
      | refine LeO.ite ?_ ?_
      | refine LeO.bind ?_ (fun _ => ?_)
set_option maxHeartbeats 8000000 in
set_option maxRecDepth 100000 in
theorem spec_l4Copy.calls (k : Nat) (A0 : Option Addr) (c0 : Nat) (l0 : List (S63)) (r : List (S63)) (w : World) (hr0 : Kd.C k63 w A0 l0.length l0) (hc0 : l0.length ≤ c0) (h : spec_l4Copy.f k l0 = some r) :
    Calls Try.prog 92 #[.slice A0 l0.length c0] w fun e w' => ∃ v0_ : Value, e = .returned (v0_) ∧ Kd.S k63 63 w' w.heap.size (fun _ => True) v0_ r ∧ Below w.heap.size w w' := by
  have hu63 := Try.underlying63
  have HR0 := Aside0.mk hr0
  have HC0 := Aside0.mk hc0
  clear hr0 hc0
  have HB := Aside0.mk (Below.refl w.heap.size w)
  have H : (spec_l4Copy.l0 k l0 (([] : List (S63))) 0) = some r := h
  clear h
  obtain ⟨y233, hy233⟩ : ∃ y_ : List (S63), y_ = (([] : List (S63))) := ⟨_, rfl⟩
  replace H : (spec_l4Copy.l0 k l0 y233 0) = some r := by first | (rw [hy233]; with_reducible exact H) | (have H2_ := (Option.bind_some _ _).symm.trans H; rw [hy233]; with_reducible exact H2_) | (have H2_ := (Option.bind_some _ _).symm.trans H; with_reducible exact H2_) | with_reducible exact H | (rw [hy233]; exact H) | exact H
  have Ny233 := Aside0.mk hy233
  clear hy233
  have H' := Aside0.mk H
  clear H
  go_enter Try.func92, Try.ntmps92
  go_wp2_with (first | ((with_reducible refine gate_dst (N := 6) rfl ?_); refine Kd.S_lit k63 _ 63 ?hg (N := 6) ?hd (xs := ([] : List (S63))) (inner := []) (ok := fun _ => True) (okp := fun _ => True) ?hr ?hp (fun _ hk => hk) trivial (Below.refl _ _) (Nat.le_refl _) (by simp) ?_; (case hd => rfl); (case hg => rfl); (case hr => first | (go_simp; done) | (go_simp; rfl) | (obtain ⟨_, _, rfl⟩ := Kd.R_slice HO235.out; first | (go_simp; done) | (go_simp; rfl))); (case hp => exact (Reps.none _ _)); intro v234 w2 ho3 hb hg_ hnew_; clear hg_ hnew_; (first | rw [← Ny233.out] at ho3 | (simp only [Int.reduceToNat] at ho3; rw [← Ny233.out] at ho3)); have n0_ := Aside0.mk (Kd.S_lower ho3 (below_size (by repeat (first | (with_reducible first | exact HB.out | apply below_alloc | apply pw_below_drewN | apply below_drew1) | exact HB.out)))); have n1_ := Aside0.mk (below_step (by repeat (first | (with_reducible first | exact HB.out | apply below_alloc | apply pw_below_drewN | apply below_drew1) | exact HB.out)) hb); clear HB; have HO235 := n0_; have HB := n1_; clear n0_ n1_; clear hb ho3))
  go_loopg [3, 4] k (fun kq v3 v4 w' => ∃ (x3_1 : List (S63)) (x4_1 : Int), v4 = .int .i64 x4_1 ∧ Aside0 (spec_l4Copy.l0 kq l0 x3_1 x4_1 = some r) ∧ Aside0 (kq ≤ k) ∧ Aside0 (Kd.S k63 63 w' w.heap.size (fun _ => True) v3 x3_1) ∧ Aside0 (Below w.heap.size w w'))
  case atStart => exact ⟨(y233), (0), (by first | rfl | (simp; done) | (simp [*]; done)), H', ⟨Nat.le_refl _⟩, ⟨by (with_reducible repeat (first | apply Kd.S_alloc | apply Kd.S_drewN | apply Kd.S_drew)); exact HO235.out⟩, ⟨by repeat (first | (with_reducible first | exact HB.out | apply below_alloc | apply pw_below_drewN | apply below_drew1) | exact HB.out)⟩⟩
  case round =>
    clear H'
    try clear p2
    obtain ⟨x3_1, x4_1, rfl, HA, HK1, HO_3, HB⟩ := hrel
    cases gk with
    | zero => exact absurd HA.out (by simp [spec_l4Copy.l0])
    | succ k1 =>
      have H := HA.out
      clear HA
      simp only [spec_l4Copy.l0] at H
      by_cases c4 : x4_1 < (l0.length : Int)
      · rw [if_pos c4] at H
        have c4b0 : decide (x4_1 < (l0.length : Int)) = true := decide_eq_true c4
        clear c4
        by_cases c5 : 0 ≤ x4_1
        · rw [if_pos c5] at H
          have c5b0 : decide (0 ≤ x4_1) = true := decide_eq_true c5
          clear c5
          obtain ⟨y238, hy238⟩ : ∃ y_ : List (S65), y_ = (([] : List (S65))) := ⟨_, rfl⟩
          replace H : (if y238.length + ((rd_T63 l0 x4_1).f4).length < 8796093022208 then (if x3_1.length < 2199023255552 then (spec_l4Copy.l0 k1 l0 (x3_1 ++ [(⟨(rd_T63 l0 x4_1).f0, (rd_T63 l0 x4_1).f1, (rd_T63 l0 x4_1).f2, (rd_T63 l0 x4_1).f3, (y238 ++ ((rd_T63 l0 x4_1).f4))⟩ : S63)]) (wrap64 (x4_1 + 1))) else (none)) else (none)) = some r := by first | (rw [hy238]; with_reducible exact H) | (have H2_ := (Option.bind_some _ _).symm.trans H; rw [hy238]; with_reducible exact H2_) | (have H2_ := (Option.bind_some _ _).symm.trans H; with_reducible exact H2_) | with_reducible exact H | (rw [hy238]; exact H) | exact H
          have Ny238 := Aside0.mk hy238
          clear hy238
          by_cases c6 : y238.length + ((rd_T63 l0 x4_1).f4).length < 8796093022208
          · rw [if_pos c6] at H
            have LMc6 := Aside0.mk c6
            clear c6
            obtain ⟨y241, hy241⟩ : ∃ y_ : List (S65), y_ = (y238 ++ ((rd_T63 l0 x4_1).f4)) := ⟨_, rfl⟩
            replace H : (if x3_1.length < 2199023255552 then (spec_l4Copy.l0 k1 l0 (x3_1 ++ [(⟨(rd_T63 l0 x4_1).f0, (rd_T63 l0 x4_1).f1, (rd_T63 l0 x4_1).f2, (rd_T63 l0 x4_1).f3, y241⟩ : S63)]) (wrap64 (x4_1 + 1))) else (none)) = some r := by first | (rw [hy241]; with_reducible exact H) | (have H2_ := (Option.bind_some _ _).symm.trans H; rw [hy241]; with_reducible exact H2_) | (have H2_ := (Option.bind_some _ _).symm.trans H; with_reducible exact H2_) | with_reducible exact H | (rw [hy241]; exact H) | exact H
            have Ny241 := Aside0.mk hy241
            clear hy241
            by_cases c7 : x3_1.length < 2199023255552
            · rw [if_pos c7] at H
              have LMc7 := Aside0.mk c7
              clear c7
              obtain ⟨y244, hy244⟩ : ∃ y_ : List (S63), y_ = (x3_1 ++ [(⟨(rd_T63 l0 x4_1).f0, (rd_T63 l0 x4_1).f1, (rd_T63 l0 x4_1).f2, (rd_T63 l0 x4_1).f3, y241⟩ : S63)]) := ⟨_, rfl⟩
              replace H : (spec_l4Copy.l0 k1 l0 y244 (wrap64 (x4_1 + 1))) = some r := by first | (rw [hy244]; with_reducible exact H) | (have H2_ := (Option.bind_some _ _).symm.trans H; rw [hy244]; with_reducible exact H2_) | (have H2_ := (Option.bind_some _ _).symm.trans H; with_reducible exact H2_) | with_reducible exact H | (rw [hy244]; exact H) | exact H
              have Ny244 := Aside0.mk hy244
              clear hy244
              have H' := Aside0.mk H
              clear H
              have p236 : 0 ≤ (x4_1 : Int) := of_decide_eq_true (by first | (with_reducible assumption) | assumption)
              have q236 : x4_1 < (l0.length : Int) := of_decide_eq_true (by first | (with_reducible assumption) | assumption)
              obtain ⟨ad236, A236_4, c236_4, e236, hx236_0, hx236_1, hx236_2, hx236_3, hx236_4, hl236_4, hi236_4⟩ := at_T63 HR0.out x4_1 p236 q236
              cases e236
              replace hx236_0 := (HB.out.cell (World.block_lt_of_cell? w _ hx236_0)).trans hx236_0
              replace hx236_1 := (HB.out.cell (World.block_lt_of_cell? w _ hx236_1)).trans hx236_1
              replace hx236_2 := (HB.out.cell (World.block_lt_of_cell? w _ hx236_2)).trans hx236_2
              replace hx236_3 := (HB.out.cell (World.block_lt_of_cell? w _ hx236_3)).trans hx236_3
              replace hx236_4 := (HB.out.cell (World.block_lt_of_cell? w _ hx236_4)).trans hx236_4
              have HR236_4 := Aside0.mk hi236_4
              have HC236_4 := Aside0.mk hl236_4
              clear hi236_4 hl236_4
              replace p236 := eq_true p236
              replace q236 := eq_true q236
              go_wp2_with (first | ((with_reducible refine gate_dst (N := 5) rfl ?_); refine box_event ?hg (N := 5) ?hd (cs := #[.string (⟨#[]⟩ : ByteArray), .int .i64 0, .int .i64 0, .int .i64 0, .slice none 0 0]) (t := 63) ?hr ?_; (case hd => rfl); (case hg => rfl); (case hr => first | (go_simp; done) | (go_simp; rfl) | (obtain ⟨_, _, rfl⟩ := Kd.R_slice HO240.out; first | (go_simp; done) | (go_simp; rfl)) | (obtain ⟨_, _, rfl⟩ := Kd.R_slice HO243.out; first | (go_simp; done) | (go_simp; rfl)) | (obtain ⟨_, _, rfl⟩ := Kd.R_slice HO246.out; first | (go_simp; done) | (go_simp; rfl))); intro gb237 hg w8 hbox hb; have n0_ := Aside0.mk (Kd.S_below (Kd.S_elderB (by (with_reducible repeat (first | apply Kd.S_alloc | apply Kd.S_drewN | apply Kd.S_drew)); exact HO_3.out) gb237 (Nat.le_of_eq hg.symm)) hb); have n1_ := Aside0.mk (below_step (by repeat (first | (with_reducible first | exact HB.out | apply below_alloc | apply pw_below_drewN | apply below_drew1) | exact HB.out)) hb); have n2_ := Aside0.mk (hbox); have n3_ := Aside0.mk ((by rw [hg]; exact (below_size (by repeat (first | (with_reducible first | exact HB.out | apply below_alloc | apply pw_below_drewN | apply below_drew1) | exact HB.out))) : w.heap.size ≤ gb237)); have n4_ := Aside0.mk ((by rw [hg]; exact (below_size (by repeat (first | (with_reducible first | exact HB.out | apply below_alloc | apply pw_below_drewN | apply below_drew1) | exact HB.out))) : w.heap.size ≤ gb237)); clear HO_3; clear HB; have HO_3 := n0_; have HB := n1_; have BK237 := n2_; have GW237 := n3_; have GE237 := n4_; clear n0_ n1_ n2_ n3_ n4_; clear hb hbox hg; have hcz9_0 : w8.cell? ⟨gb237, 0, none⟩ = some (.string (⟨#[]⟩ : ByteArray)) := (blk_cell BK237.out 0).trans rfl; have hcz9_1 : w8.cell? ⟨gb237, 1, none⟩ = some (.int .i64 0) := (blk_cell BK237.out 1).trans rfl; have hcz9_2 : w8.cell? ⟨gb237, 2, none⟩ = some (.int .i64 0) := (blk_cell BK237.out 2).trans rfl; have hcz9_3 : w8.cell? ⟨gb237, 3, none⟩ = some (.int .i64 0) := (blk_cell BK237.out 3).trans rfl; have hcz9_4 : w8.cell? ⟨gb237, 4, none⟩ = some (.slice none 0 0) := (blk_cell BK237.out 4).trans rfl; have hfz9_0 := blk_frozen BK237.out 0; have hfz9_1 := blk_frozen BK237.out 1; have hfz9_2 := blk_frozen BK237.out 2; have hfz9_3 := blk_frozen BK237.out 3; have hfz9_4 := blk_frozen BK237.out 4) | ((with_reducible refine gate_dst (N := 17) rfl ?_); refine Kd.R_lit k65 _ 65 ?hg (N := 17) ?hd (xs := ([] : List (S65))) (inner := []) (ok := fun _ => True) (okp := fun _ => True) ?hr ?hp (fun _ hk => hk) trivial (Below.refl _ _) (Nat.le_refl _) (by simp) ?_; (case hd => rfl); (case hg => rfl); (case hr => first | (go_simp; done) | (go_simp; rfl) | (obtain ⟨_, _, rfl⟩ := Kd.R_slice HO240.out; first | (go_simp; done) | (go_simp; rfl)) | (obtain ⟨_, _, rfl⟩ := Kd.R_slice HO243.out; first | (go_simp; done) | (go_simp; rfl)) | (obtain ⟨_, _, rfl⟩ := Kd.R_slice HO246.out; first | (go_simp; done) | (go_simp; rfl))); (case hp => exact (Reps.none _ _)); intro v239 w10 ho11 hb hg_ hnew_; clear hg_ hnew_; (first | rw [← Ny238.out] at ho11 | (simp only [Int.reduceToNat] at ho11; rw [← Ny238.out] at ho11)); have n0_ := Aside0.mk (Kd.S_elder' (by (with_reducible repeat (first | apply Kd.S_alloc | apply Kd.S_drewN | apply Kd.S_drew)); exact (Kd.S_mono (Kd.S_far (p := ⟨gb237, 4, none⟩) (Kd.S_far (p := ⟨gb237, 3, none⟩) (Kd.S_far (p := ⟨gb237, 2, none⟩) (Kd.S_far (p := ⟨gb237, 1, none⟩) (Kd.S_far (p := ⟨gb237, 0, none⟩) (Kd.S_mono HO_3.out (fun k_ hk => (⟨hk, hk.2⟩ : _ ∧ k_ ≠ gb237))) (fun _ hk => hk.2) (.string ((rd_T63 l0 x4_1).f0))) (fun _ hk => hk.2) (.int .i64 ((rd_T63 l0 x4_1).f1))) (fun _ hk => hk.2) (.int .i64 ((rd_T63 l0 x4_1).f2))) (fun _ hk => hk.2) (.int .i64 ((rd_T63 l0 x4_1).f3))) (fun _ hk => hk.2) (.slice A236_4 ((rd_T63 l0 x4_1).f4).length c236_4)) (fun _ h_ => h_.1))) (Kd.R_base ho11) hb); have n1_ := Aside0.mk (Kd.R_lower ho11 (below_size (by repeat (first | (with_reducible first | exact HB.out | apply below_alloc | apply pw_below_drewN | apply below_drew1 | refine below_set ?_ GE237.out) | exact HB.out)))); have n2_ := Aside0.mk (blk_below (g := gb237) (o := .cells #[.string ((rd_T63 l0 x4_1).f0), .int .i64 ((rd_T63 l0 x4_1).f1), .int .i64 ((rd_T63 l0 x4_1).f2), .int .i64 ((rd_T63 l0 x4_1).f3), .slice A236_4 ((rd_T63 l0 x4_1).f4).length c236_4] 63 (0, 0)) (by (with_reducible repeat (first | refine blk_drewN ?_ _ | refine blk_drew ?_ | refine blk_alloc ?_ _)); refine blk_put (cs := #[.string ((rd_T63 l0 x4_1).f0), .int .i64 ((rd_T63 l0 x4_1).f1), .int .i64 ((rd_T63 l0 x4_1).f2), .int .i64 ((rd_T63 l0 x4_1).f3), .slice none 0 0]) ?_ 4 _ rfl; (with_reducible repeat (first | refine blk_drewN ?_ _ | refine blk_drew ?_ | refine blk_alloc ?_ _)); refine blk_put (cs := #[.string ((rd_T63 l0 x4_1).f0), .int .i64 ((rd_T63 l0 x4_1).f1), .int .i64 ((rd_T63 l0 x4_1).f2), .int .i64 0, .slice none 0 0]) ?_ 3 _ rfl; (with_reducible repeat (first | refine blk_drewN ?_ _ | refine blk_drew ?_ | refine blk_alloc ?_ _)); refine blk_put (cs := #[.string ((rd_T63 l0 x4_1).f0), .int .i64 ((rd_T63 l0 x4_1).f1), .int .i64 0, .int .i64 0, .slice none 0 0]) ?_ 2 _ rfl; (with_reducible repeat (first | refine blk_drewN ?_ _ | refine blk_drew ?_ | refine blk_alloc ?_ _)); refine blk_put (cs := #[.string ((rd_T63 l0 x4_1).f0), .int .i64 0, .int .i64 0, .int .i64 0, .slice none 0 0]) ?_ 1 _ rfl; (with_reducible repeat (first | refine blk_drewN ?_ _ | refine blk_drew ?_ | refine blk_alloc ?_ _)); refine blk_put (cs := #[.string (⟨#[]⟩ : ByteArray), .int .i64 0, .int .i64 0, .int .i64 0, .slice none 0 0]) ?_ 0 _ rfl; (with_reducible repeat (first | refine blk_drewN ?_ _ | refine blk_drew ?_ | refine blk_alloc ?_ _)); exact BK237.out) hb); have n3_ := Aside0.mk (below_step (by repeat (first | (with_reducible first | exact HB.out | apply below_alloc | apply pw_below_drewN | apply below_drew1 | refine below_set ?_ GE237.out) | exact HB.out)) hb); clear HO_3; clear BK237; clear HB; have HO_3 := n0_; have HO240 := n1_; have BK237 := n2_; have HB := n3_; clear n0_ n1_ n2_ n3_; clear hb ho11; have hcz12_0 : w10.cell? ⟨gb237, 0, none⟩ = some (.string ((rd_T63 l0 x4_1).f0)) := (blk_cell BK237.out 0).trans rfl; have hcz12_1 : w10.cell? ⟨gb237, 1, none⟩ = some (.int .i64 ((rd_T63 l0 x4_1).f1)) := (blk_cell BK237.out 1).trans rfl; have hcz12_2 : w10.cell? ⟨gb237, 2, none⟩ = some (.int .i64 ((rd_T63 l0 x4_1).f2)) := (blk_cell BK237.out 2).trans rfl; have hcz12_3 : w10.cell? ⟨gb237, 3, none⟩ = some (.int .i64 ((rd_T63 l0 x4_1).f3)) := (blk_cell BK237.out 3).trans rfl; have hcz12_4 : w10.cell? ⟨gb237, 4, none⟩ = some (.slice A236_4 ((rd_T63 l0 x4_1).f4).length c236_4) := (blk_cell BK237.out 4).trans rfl; have hfz12_0 := blk_frozen BK237.out 0; have hfz12_1 := blk_frozen BK237.out 1; have hfz12_2 := blk_frozen BK237.out 2; have hfz12_3 := blk_frozen BK237.out 3; have hfz12_4 := blk_frozen BK237.out 4) | ((with_reducible refine gate_builtin (b := .append) (xs := #[.tmp 17, .tmp 19]) rfl ?_); at_builtin; refine Kd.R_append_rows k65 (w0 := w) w.heap.size rfl (.tmp 17) (.tmp 19) 61 65 (.agg #[(.int .i64 0), (.int .i64 0)]) 16 rfl Try.underlying61 info65 rfl (by decide) (by omega) v239 y238 ((rd_T63 l0 x4_1).f4) _ _ _ (fun _ => True) (fun _ => False) rfl rfl ?aO ?aR (fun _ _ h => h) (fun _ h => h.elim) ?aF ?aB ?aS ?aL ?_; (case aR => repeat (first | exact (Kd.C_below HR236_4.out HB.out) | (with_reducible refine Kd.C_alloc ?_ _) | (with_reducible refine Kd.C_drewN ?_ _) | (with_reducible refine Kd.C_drew ?_))); (case aB => exact (by repeat (first | (with_reducible first | exact HB.out | apply below_alloc | apply pw_below_drewN | apply below_drew1 | refine below_set ?_ GE237.out) | exact HB.out))); (case aF => exact (fun _ _ => trivial)); (case aO => exact (by (with_reducible repeat (first | apply Kd.R_alloc | apply Kd.R_drewN | apply Kd.R_drew)); exact HO240.out)); (case aS => exact (below_size (by repeat (first | (with_reducible first | exact HB.out | apply below_alloc | apply pw_below_drewN | apply below_drew1 | refine below_set ?_ GE237.out) | exact HB.out)))); (case aL => have := LMc6.out; omega); intro v242 w13 ho hb hg hat; rw [← Ny241.out] at ho; have n0_ := Aside0.mk (Kd.S_after (ok := (fun k_ => k_ ≠ gb237)) (by (with_reducible repeat (first | apply Kd.S_alloc | apply Kd.S_drewN | apply Kd.S_drew)); exact Kd.S_mono HO_3.out (fun _ hk => ⟨hk.1.2, hk.2⟩)) hg hat); have n1_ := Aside0.mk (blk_grown (g := gb237) (o := .cells #[.string ((rd_T63 l0 x4_1).f0), .int .i64 ((rd_T63 l0 x4_1).f1), .int .i64 ((rd_T63 l0 x4_1).f2), .int .i64 ((rd_T63 l0 x4_1).f3), .slice A236_4 ((rd_T63 l0 x4_1).f4).length c236_4] 63 (0, 0)) (by (with_reducible repeat (first | refine blk_drewN ?_ _ | refine blk_drew ?_ | refine blk_alloc ?_ _)); exact BK237.out) hg (Kd.R_ne HO240.out BK237.out (by decide))); have n2_ := Aside0.mk (hb); have n3_ := Aside0.mk (ho); clear HO_3; clear BK237; clear HB; clear HO240; have HO_3 := n0_; have BK237 := n1_; have HB := n2_; have HO243 := n3_; clear n0_ n1_ n2_ n3_; clear ho hb hg hat; obtain ⟨Ao14, co14, eo14⟩ := Kd.R_slice HO243.out; subst eo14; have hcz15_0 : w13.cell? ⟨gb237, 0, none⟩ = some (.string ((rd_T63 l0 x4_1).f0)) := (blk_cell BK237.out 0).trans rfl; have hcz15_1 : w13.cell? ⟨gb237, 1, none⟩ = some (.int .i64 ((rd_T63 l0 x4_1).f1)) := (blk_cell BK237.out 1).trans rfl; have hcz15_2 : w13.cell? ⟨gb237, 2, none⟩ = some (.int .i64 ((rd_T63 l0 x4_1).f2)) := (blk_cell BK237.out 2).trans rfl; have hcz15_3 : w13.cell? ⟨gb237, 3, none⟩ = some (.int .i64 ((rd_T63 l0 x4_1).f3)) := (blk_cell BK237.out 3).trans rfl; have hcz15_4 : w13.cell? ⟨gb237, 4, none⟩ = some (.slice A236_4 ((rd_T63 l0 x4_1).f4).length c236_4) := (blk_cell BK237.out 4).trans rfl; have hfz15_0 := blk_frozen BK237.out 0; have hfz15_1 := blk_frozen BK237.out 1; have hfz15_2 := blk_frozen BK237.out 2; have hfz15_3 := blk_frozen BK237.out 3; have hfz15_4 := blk_frozen BK237.out 4) | ((with_reducible refine gate_store (t := 61) (p := 21) rfl ?_); refine store_event (t := 61) (p := 21) (v := ?vo_w16) (w1 := (w13.setCell ⟨gb237, 4, none⟩ (.slice Ao14 y241.length co14))) ?hg ?ho ?hn ?hr ?_; (case ho => rfl); (case hg => rfl); (case hn => rfl); (case hr => first | (go_simp; done) | (go_simp; rfl) | (obtain ⟨_, _, rfl⟩ := Kd.R_slice HO240.out; first | (go_simp; done) | (go_simp; rfl)) | (obtain ⟨_, _, rfl⟩ := Kd.R_slice HO243.out; first | (go_simp; done) | (go_simp; rfl)) | (obtain ⟨_, _, rfl⟩ := Kd.R_slice HO246.out; first | (go_simp; done) | (go_simp; rfl))); intro w16 hw; have n0_ : Aside0 (Kd.S k63 63 w16 w.heap.size (fun k_ => some k_ ≠ (.slice Ao14 y241.length co14 : Value).ownBlock ∧ k_ ≠ gb237) u3 x3_1) := ⟨(by rw [hw]; exact (by (with_reducible repeat (first | apply Kd.S_alloc | apply Kd.S_drewN | apply Kd.S_drew)); exact Kd.S_mono (Kd.S_far (p := ⟨gb237, 4, none⟩) (Kd.S_mono HO_3.out (fun k_ hk => (⟨hk, hk.1⟩ : _ ∧ k_ ≠ gb237))) (fun _ hk => hk.2) (.slice Ao14 y241.length co14)) (fun _ hk => ⟨hk.1.2, hk.1.1⟩)))⟩; have n1_ : Aside0 (Kd.R k65 65 w16 w.heap.size (fun _ => True) (.slice Ao14 y241.length co14) y241) := ⟨(by rw [hw]; exact (by (with_reducible repeat (first | apply Kd.R_alloc | apply Kd.R_drewN | apply Kd.R_drew)); exact Kd.R_mono (Kd.R_far (p := ⟨gb237, 4, none⟩) (Kd.R_types HO243.out BK237.out (by decide)) (fun _ hk => hk.2) (.slice Ao14 y241.length co14)) (fun _ hk => trivial)))⟩; have n2_ : Aside0 (w16.heap[gb237]? = some (.cells #[.string ((rd_T63 l0 x4_1).f0), .int .i64 ((rd_T63 l0 x4_1).f1), .int .i64 ((rd_T63 l0 x4_1).f2), .int .i64 ((rd_T63 l0 x4_1).f3), .slice Ao14 y241.length co14] 63 (0, 0))) := ⟨(by rw [hw]; exact (by (with_reducible repeat (first | refine blk_drewN ?_ _ | refine blk_drew ?_ | refine blk_alloc ?_ _)); refine blk_put (cs := #[.string ((rd_T63 l0 x4_1).f0), .int .i64 ((rd_T63 l0 x4_1).f1), .int .i64 ((rd_T63 l0 x4_1).f2), .int .i64 ((rd_T63 l0 x4_1).f3), .slice A236_4 ((rd_T63 l0 x4_1).f4).length c236_4]) ?_ 4 _ rfl; (with_reducible repeat (first | refine blk_drewN ?_ _ | refine blk_drew ?_ | refine blk_alloc ?_ _)); exact BK237.out))⟩; have n3_ : Aside0 (Below w.heap.size w w16) := ⟨(by rw [hw]; exact (by repeat (first | (with_reducible first | exact HB.out | apply below_alloc | apply pw_below_drewN | apply below_drew1 | refine below_set ?_ GE237.out) | exact HB.out)))⟩; clear hw; clear HO_3; clear HO243; clear BK237; clear HB; have HO_3 := n0_; have HO243 := n1_; have BK237 := n2_; have HB := n3_; clear n0_ n1_ n2_ n3_; have hcz17_0 : w16.cell? ⟨gb237, 0, none⟩ = some (.string ((rd_T63 l0 x4_1).f0)) := (blk_cell BK237.out 0).trans rfl; have hcz17_1 : w16.cell? ⟨gb237, 1, none⟩ = some (.int .i64 ((rd_T63 l0 x4_1).f1)) := (blk_cell BK237.out 1).trans rfl; have hcz17_2 : w16.cell? ⟨gb237, 2, none⟩ = some (.int .i64 ((rd_T63 l0 x4_1).f2)) := (blk_cell BK237.out 2).trans rfl; have hcz17_3 : w16.cell? ⟨gb237, 3, none⟩ = some (.int .i64 ((rd_T63 l0 x4_1).f3)) := (blk_cell BK237.out 3).trans rfl; have hcz17_4 : w16.cell? ⟨gb237, 4, none⟩ = some (.slice Ao14 y241.length co14) := (blk_cell BK237.out 4).trans rfl; have hfz17_0 := blk_frozen BK237.out 0; have hfz17_1 := blk_frozen BK237.out 1; have hfz17_2 := blk_frozen BK237.out 2; have hfz17_3 := blk_frozen BK237.out 3; have hfz17_4 := blk_frozen BK237.out 4) | ((with_reducible refine gate_builtin (b := .append) (xs := #[.tmp 22, .tmp 24]) rfl ?_); at_builtin; refine Kd.S_append k63 (w0 := w) w.heap.size rfl (.tmp 22) (.tmp 24) 29 63 (.agg #[(.string ⟨#[]⟩), (.int .i64 0), (.int .i64 0), (.int .i64 0), (.slice none 0 0)]) 64 rfl Try.underlying29 info63 rfl (by decide) (by omega) u3 x3_1 (⟨(rd_T63 l0 x4_1).f0, (rd_T63 l0 x4_1).f1, (rd_T63 l0 x4_1).f2, (rd_T63 l0 x4_1).f3, y241⟩ : S63) [.string ((rd_T63 l0 x4_1).f0), .int .i64 ((rd_T63 l0 x4_1).f1), .int .i64 ((rd_T63 l0 x4_1).f2), .int .i64 ((rd_T63 l0 x4_1).f3), .slice Ao14 y241.length co14] (fun k_ => k_ ≠ gb237) (fun k_ => some k_ = (.slice Ao14 y241.length co14 : Value).ownBlock) rfl rfl ?aP (fun k_ hk_ => ((Kd.R_mono (ok' := fun k_ => ((fun k_ => k_ ≠ gb237)) k_ ∧ some k_ ≠ (u3 : Value).ownBlock) (Kd.R_types (Kd.R_apart' (HO243.out) (Kd.S_typed HO_3.out) (by decide)) BK237.out (by decide)) (fun k_ hk => ⟨hk.2, hk.1.2⟩))).1 k_ hk_.symm) ?aF ?aO ?aB ?aS ?aL ?_; (case aP => exact k63_mkM _ _ _ (⟨(rd_T63 l0 x4_1).f0, (rd_T63 l0 x4_1).f1, (rd_T63 l0 x4_1).f2, (rd_T63 l0 x4_1).f3, y241⟩ : S63) (Kd.R_mono (Kd.R_tight rfl (Kd.R_mono (ok' := fun k_ => ((fun k_ => k_ ≠ gb237)) k_ ∧ some k_ ≠ (u3 : Value).ownBlock) (Kd.R_types (Kd.R_apart' (HO243.out) (Kd.S_typed HO_3.out) (by decide)) BK237.out (by decide)) (fun k_ hk => ⟨hk.2, hk.1.2⟩))) (fun _ h_ => h_))); (case aB => exact (by repeat (first | (with_reducible first | exact HB.out | apply below_alloc | apply pw_below_drewN | apply below_drew1 | refine below_set ?_ GE237.out) | exact HB.out))); (case aF => exact (fun k_ hk => Kd.freshB (g := gb237) (o := .cells #[.string ((rd_T63 l0 x4_1).f0), .int .i64 ((rd_T63 l0 x4_1).f1), .int .i64 ((rd_T63 l0 x4_1).f2), .int .i64 ((rd_T63 l0 x4_1).f3), .slice Ao14 y241.length co14] 63 (0, 0)) (by (with_reducible repeat (first | refine blk_drewN ?_ _ | refine blk_drew ?_ | refine blk_alloc ?_ _)); exact BK237.out) k_ hk)); (case aO => exact (by (with_reducible repeat (first | apply Kd.S_alloc | apply Kd.S_drewN | apply Kd.S_drew)); exact Kd.S_mono HO_3.out (fun k_ hk => ⟨hk.2, fun e_ => hk.1 e_⟩))); (case aS => exact (below_size (by repeat (first | (with_reducible first | exact HB.out | apply below_alloc | apply pw_below_drewN | apply below_drew1 | refine below_set ?_ GE237.out) | exact HB.out)))); (case aL => have := LMc7.out; omega); intro v245 w18 ho hb hg hat; rw [← Ny244.out] at ho; have n0_ := Aside0.mk (blk_grown (g := gb237) (o := .cells #[.string ((rd_T63 l0 x4_1).f0), .int .i64 ((rd_T63 l0 x4_1).f1), .int .i64 ((rd_T63 l0 x4_1).f2), .int .i64 ((rd_T63 l0 x4_1).f3), .slice Ao14 y241.length co14] 63 (0, 0)) (by (with_reducible repeat (first | refine blk_drewN ?_ _ | refine blk_drew ?_ | refine blk_alloc ?_ _)); exact BK237.out) hg (Kd.S_away HO_3.out (fun _ hk => hk.2))); have n1_ := Aside0.mk (hb); have n2_ := Aside0.mk (ho); clear BK237; clear HB; clear HO_3; clear HO243; have BK237 := n0_; have HB := n1_; have HO246 := n2_; clear n0_ n1_ n2_; clear ho hb hg hat))
              go_roundg k1
              case measure => have := HK1.out; omega
              case rel => exact ⟨(y244), (wrap64 (x4_1 + 1)), (by first | rfl | (simp; done) | (simp [*]; done)), H', ⟨by have := HK1.out; omega⟩, ⟨by (with_reducible repeat (first | apply Kd.S_alloc | apply Kd.S_drewN | apply Kd.S_drew)); exact Kd.S_mono HO246.out (fun _ hk => trivial)⟩, ⟨by repeat (first | (with_reducible first | exact HB.out | apply below_alloc | apply pw_below_drewN | apply below_drew1 | refine below_set ?_ GE237.out) | exact HB.out)⟩⟩
            · rw [if_neg c7] at H
              exact absurd H (by simp)
          · rw [if_neg c6] at H
            exact absurd H (by simp)
        · rw [if_neg c5] at H
          exact absurd H (by simp)
      · rw [if_neg c4] at H
        have c4b0 : decide (x4_1 < (l0.length : Int)) = false := decide_eq_false c4
        clear c4
        obtain rfl := Option.some.inj H
        go_wp2
        go_ret
        exact ⟨_, by first | rfl | (simp [errW_none, errW_some] <;> rfl) | (simp [*, errW_none, errW_some] <;> rfl), by (with_reducible repeat (first | apply Kd.S_alloc | apply Kd.S_drewN | apply Kd.S_drew)); exact HO_3.out, by repeat (first | (with_reducible first | exact HB.out | apply below_alloc | apply pw_below_drewN | apply below_drew1) | exact HB.out)⟩

/-! ### spec_l6Copy: function 58 -/
def spec_l6Copy.f (k : Nat) (a0_0 : Int) (l0_1 : List (S63)) : Option (Int × (List (S63))) := (spec_l4Copy.f k l0_1).bind fun t249 => (some (a0_0, t249))
theorem spec_l6Copy.mono : ∀ a0 a1 k, LeO (spec_l6Copy.f k a0 a1) (spec_l6Copy.f (k + 1) a0 a1) := by
  intro a0 a1 k
  unfold spec_l6Copy.f
  repeat' first
      | (with_reducible exact spec_l4Copy.mono _ _)
      | (with_reducible exact LeO.refl _)
      | (with_reducible exact LeO.none _)
      | (with_reducible refine LeO.ite ?_ ?_)
      | (with_reducible refine LeO.bind ?_ (fun _ => ?_))
      | exact spec_l4Copy.mono _ _
      | exact LeO.none _
      | refine LeO.ite ?_ ?_
      | refine LeO.bind ?_ (fun _ => ?_)
set_option maxHeartbeats 8000000 in
set_option maxRecDepth 100000 in
theorem spec_l6Copy.calls (k : Nat) (a0_0 : Int) (A0_1 : Option Addr) (c0_1 : Nat) (l0_1 : List (S63)) (r1 : Int) (r2 : List (S63)) (w : World) (hr0_1 : Kd.C k63 w A0_1 l0_1.length l0_1) (hc0_1 : l0_1.length ≤ c0_1) (h : spec_l6Copy.f k a0_0 l0_1 = some (r1, r2)) :
    Calls Try.prog 58 #[.agg #[.int .i64 a0_0, .slice A0_1 l0_1.length c0_1]] w fun e w' => ∃ v1_ : Value, e = .returned (.agg #[.int .i64 r1, v1_]) ∧ Kd.S k63 63 w' w.heap.size (fun _ => True) v1_ r2 ∧ Below w.heap.size w w' := by
  have hu31 := Try.underlying31
  have HR0_1 := Aside0.mk hr0_1
  have HC0_1 := Aside0.mk hc0_1
  clear hr0_1 hc0_1
  have HB := Aside0.mk (Below.refl w.heap.size w)
  have H : ((spec_l4Copy.f k l0_1).bind fun t249 => (some (a0_0, t249))) = some (r1, r2) := h
  clear h
  replace H := Option.bind_eq_some_iff.mp H
  obtain ⟨t249, A20, H⟩ := H
  replace H : (some (a0_0, t249)) = some (r1, r2) := H
  have A2 := Aside0.mk A20
  clear A20
  simp only [Option.some.injEq, Prod.mk.injEq] at H
  obtain ⟨rfl, rfl⟩ := H
  go_enter Try.func58, Try.ntmps58
  try go_wp2_with (first | ((with_reducible refine gate_dst (N := 1) rfl ?_); refine box_event ?hg (N := 1) ?hd (cs := #[.int .i64 a0_0, .slice A0_1 l0_1.length c0_1]) (t := 31) ?hr ?_; (case hd => rfl); (case hg => rfl); (case hr => first | (go_simp; done) | (go_simp; rfl)); intro gb247 hg w3 hbox hb; have n0_ := Aside0.mk (below_step (by repeat (first | (with_reducible first | exact HB.out | apply below_alloc | apply pw_below_drewN | apply below_drew1) | exact HB.out)) hb); have n1_ := Aside0.mk (hbox); have n2_ := Aside0.mk ((by rw [hg]; exact (below_size (by repeat (first | (with_reducible first | exact HB.out | apply below_alloc | apply pw_below_drewN | apply below_drew1) | exact HB.out))) : w.heap.size ≤ gb247)); have n3_ := Aside0.mk ((by rw [hg]; exact (below_size (by repeat (first | (with_reducible first | exact HB.out | apply below_alloc | apply pw_below_drewN | apply below_drew1) | exact HB.out))) : w.heap.size ≤ gb247)); clear HB; have HB := n0_; have BK247 := n1_; have GW247 := n2_; have GE247 := n3_; clear n0_ n1_ n2_ n3_; clear hb hbox hg) | ((with_reducible refine gate_dst (N := 2) rfl ?_); refine box_event ?hg (N := 2) ?hd (cs := #[.int .i64 0, .slice none 0 0]) (t := 31) ?hr ?_; (case hd => rfl); (case hg => rfl); (case hr => first | (go_simp; done) | (go_simp; rfl)); intro gb248 hg w4 hbox hb; have n0_ := Aside0.mk (blk_below (g := gb247) (o := .cells #[.int .i64 a0_0, .slice A0_1 l0_1.length c0_1] 31 (0, 0)) (by (with_reducible repeat (first | refine blk_drewN ?_ _ | refine blk_drew ?_ | refine blk_alloc ?_ _)); exact BK247.out) hb); have n1_ := Aside0.mk (below_step (by repeat (first | (with_reducible first | exact HB.out | apply below_alloc | apply pw_below_drewN | apply below_drew1 | refine below_set ?_ GE247.out) | exact HB.out)) hb); have n2_ := Aside0.mk (hbox); have n3_ := Aside0.mk ((by rw [hg]; exact (below_size (by repeat (first | (with_reducible first | exact HB.out | apply below_alloc | apply pw_below_drewN | apply below_drew1 | refine below_set ?_ GE247.out) | exact HB.out))) : w.heap.size ≤ gb248)); have n4_ := Aside0.mk ((by rw [hg]; exact (below_size (by repeat (first | (with_reducible first | exact HB.out | apply below_alloc | apply pw_below_drewN | apply below_drew1 | refine below_set ?_ GE247.out) | exact HB.out))) : w.heap.size ≤ gb248)); have n5_ := Aside0.mk ((by rw [hg]; exact Nat.ne_of_lt (blk_lt (g := gb247) (o := .cells #[.int .i64 a0_0, .slice A0_1 l0_1.length c0_1] 31 (0, 0)) (by (with_reducible repeat (first | refine blk_drewN ?_ _ | refine blk_drew ?_ | refine blk_alloc ?_ _)); exact BK247.out)) : gb247 ≠ gb248)); have n6_ := Aside0.mk ((by rw [hg]; exact Nat.ne_of_gt (blk_lt (g := gb247) (o := .cells #[.int .i64 a0_0, .slice A0_1 l0_1.length c0_1] 31 (0, 0)) (by (with_reducible repeat (first | refine blk_drewN ?_ _ | refine blk_drew ?_ | refine blk_alloc ?_ _)); exact BK247.out)) : gb248 ≠ gb247)); clear BK247; clear HB; have BK247 := n0_; have HB := n1_; have BK248 := n2_; have GW248 := n3_; have GE248 := n4_; have NB247_248 := n5_; have NB248_247 := n6_; clear n0_ n1_ n2_ n3_ n4_ n5_ n6_; clear hb hbox hg))
  have n0_ := Aside0.mk (blk_drew BK247.out)
  have n1_ := Aside0.mk (blk_drew BK248.out)
  have n2_ := Aside0.mk (below_drew1 HB.out)
  clear BK247
  clear BK248
  clear HB
  have BK247 := n0_
  have BK248 := n1_
  have HB := n2_
  clear n0_ n1_ n2_
  refine start_ (n := 7) (S := fun w' => w'.cell? ⟨gb247, 0, none⟩ = some (.int .i64 a0_0) ∧ w'.cell? ⟨gb247, 1, none⟩ = some (.slice A0_1 l0_1.length c0_1)) (ds := []) #[false, false, false, false, false, false, false] (by kernel_rfl) rfl rfl ⟨(blk_cell BK247.out 0).trans rfl, (blk_cell BK247.out 1).trans rfl⟩ (fun hHeld => ?_)
  generalize w4.drew = w5 at BK247 BK248 HB hHeld ⊢
  refine pure_ (i := 0) (N := some 3) (v := ?_) (a' := ?_) #[true, false, false, false, false, false, false] rfl rfl (by kernel_rfl) (fun _ _ _ h => h) (Or.inl ⟨by rfl, ?_⟩) ?_ ?_
  rotate_left
  · intro w'
    go_simp
    with_reducible rfl
  rotate_left
  · simp only [Act.put, List.setIfInBounds_toArray, List.set_cons_zero, List.set_cons_succ, i64_w, i32_w]
    rfl
  refine pure_ (i := 2) (N := some 5) (v := ?_) (a' := ?_) #[true, false, true, false, false, false, false] rfl rfl (by kernel_rfl) (fun _ _ _ h => h) (Or.inl ⟨by rfl, ?_⟩) ?_ ?_
  rotate_left
  · intro w'
    go_simp
    with_reducible rfl
  rotate_left
  · simp only [Act.put, List.setIfInBounds_toArray, List.set_cons_zero, List.set_cons_succ, i64_w, i32_w]
    rfl
  refine take_ (i := 1) (N := some 4) (v := ?_) (a' := ?_) #[true, true, true, false, false, false, false] rfl rfl (by kernel_rfl) (fun _ _ _ h => h) (Or.inl ⟨by rfl, ?_⟩) hHeld ?_ ?_
  rotate_left
  · rintro w' ⟨s0, s1⟩
    go_simp
    with_reducible rfl
  rotate_left
  · simp only [Act.put, List.setIfInBounds_toArray, List.set_cons_zero, List.set_cons_succ, i64_w, i32_w]
    rfl
  refine take_ (i := 3) (N := some 6) (v := ?_) (a' := ?_) #[true, true, true, true, false, false, false] rfl rfl (by kernel_rfl) (fun _ _ _ h => h) (Or.inl ⟨by rfl, ?_⟩) hHeld ?_ ?_
  rotate_left
  · rintro w' ⟨s0, s1⟩
    go_simp
    with_reducible rfl
  rotate_left
  · simp only [Act.put, List.setIfInBounds_toArray, List.set_cons_zero, List.set_cons_succ, i64_w, i32_w]
    rfl
  refine one_ (i := 4) (N := some 7) #[true, true, true, true, true, false, false] rfl rfl (by kernel_rfl) (by decide) (fun K hK => ?_)
  refine goes_ Try.func92 (by kernel_rfl) rfl #[.slice A0_1 l0_1.length c0_1] (by rfl) rfl rfl (by (try simp only [List.map_toArray, List.map_cons, List.map_nil]); first | done | rfl | (simp only [List.length_drop, List.length_take]; rfl)) ?_
  with_reducible refine (spec_l4Copy.calls k _ _ l0_1 t249 _ ?side1 ?side2 A2.out).mono ?_
  (case side1 => repeat (first | exact (Kd.C_below HR0_1.out HB.out) | (with_reducible refine Kd.C_alloc ?_ _) | (with_reducible refine Kd.C_drewN ?_ _) | (with_reducible refine Kd.C_drew ?_)))
  (case side2 => exact HC0_1.out)
  rintro e w6 ⟨v250, rfl, ho0, hb⟩
  refine ⟨_, rfl, ?_⟩
  have n0_ := Aside0.mk (Kd.S_lower ho0 (below_size (by repeat (first | (with_reducible first | exact HB.out | apply below_alloc | apply pw_below_drewN | apply below_drew1 | refine below_set ?_ GE247.out | refine below_set ?_ GE248.out) | exact HB.out))))
  have n1_ := Aside0.mk (blk_below (g := gb247) (o := .cells #[.int .i64 a0_0, .slice A0_1 l0_1.length c0_1] 31 (0, 0)) (by (with_reducible repeat (first | refine blk_drewN ?_ _ | refine blk_drew ?_ | refine blk_alloc ?_ _)); exact BK247.out) hb)
  have n2_ := Aside0.mk (blk_below (g := gb248) (o := .cells #[.int .i64 0, .slice none 0 0] 31 (0, 0)) (by (with_reducible repeat (first | refine blk_drewN ?_ _ | refine blk_drew ?_ | refine blk_alloc ?_ _)); exact BK248.out) hb)
  have n3_ := Aside0.mk (below_step (by repeat (first | (with_reducible first | exact HB.out | apply below_alloc | apply pw_below_drewN | apply below_drew1 | refine below_set ?_ GE247.out | refine below_set ?_ GE248.out) | exact HB.out)) hb)
  clear BK247
  clear BK248
  clear HB
  have HO251 := n0_
  have BK247 := n1_
  have BK248 := n2_
  have HB := n3_
  clear n0_ n1_ n2_ n3_
  (try clear hb)
  (try clear hb2)
  (try clear hk)
  (try clear hi)
  (try clear ho0)
  obtain ⟨Ao7, co7, eo7⟩ := Kd.S_slice HO251.out
  (first | subst eo7 | (injection eo7 with f1_ f2_ f3_; have f4_ := f1_.symm; have f5_ := f3_.symm; clear f1_ f2_ f3_; subst f4_; subst f5_))
  refine hK.out _ _ ⟨(blk_cell BK247.out 0).trans rfl, (blk_cell BK247.out 1).trans rfl⟩ (fun hHeld => ?_)
  clear hK K
  refine norm_ (a' := ?_) ?_ ?_
  rotate_left
  · show Act.put _ (some 7) _ = _
    simp only [Act.put, List.setIfInBounds_toArray, List.set_cons_zero, List.set_cons_succ, i64_w, i32_w]
    rfl
  refine pure_ (i := 5) (N := some 8) (v := ?_) (a' := ?_) #[true, true, true, true, true, true, false] rfl rfl (by kernel_rfl) (fun _ _ _ h => h) (Or.inl ⟨by rfl, ?_⟩) ?_ ?_
  rotate_left
  · intro w'
    go_simp
    with_reducible rfl
  rotate_left
  · simp only [Act.put, List.setIfInBounds_toArray, List.set_cons_zero, List.set_cons_succ, i64_w, i32_w]
    rfl
  refine one_ (i := 6) (N := none) #[true, true, true, true, true, true, true] rfl rfl (by kernel_rfl) (by decide) (fun K hK => ?_)
  have hs8 : w6.cell? ⟨gb248, 0, none⟩ = some (.int .i64 0) := (blk_cell BK248.out 0).trans rfl
  have hfs8 := blk_frozen BK248.out 0
  have hns8_0 := NB247_248.out
  have hms8_0 := NB248_247.out
  have hs9 : w6.cell? ⟨gb248, 1, none⟩ = some (.slice none 0 0) := (blk_cell BK248.out 1).trans rfl
  have hfs9 := blk_frozen BK248.out 1
  have hns9_0 := NB247_248.out
  have hms9_0 := NB248_247.out
  refine skip_ (w1 := ?_) (by rfl) rfl ?_ ?_
  rotate_left
  · go_simp
    rfl
  refine hK.out _ _ ⟨((cell_far (p := ⟨gb248, _, none⟩) NB247_248.out _).trans (((cell_far (p := ⟨gb248, _, none⟩) NB247_248.out _).trans (hHeld.1)))), ((cell_far (p := ⟨gb248, _, none⟩) NB247_248.out _).trans (((cell_far (p := ⟨gb248, _, none⟩) NB247_248.out _).trans (hHeld.2))))⟩ (fun hHeld => ?_)
  clear hK K
  refine done_ (by kernel_rfl) ?_
  try go_wp2
  refine bodyPost_ret (results_cell_row rfl _ _ gb248 31 #[.int .i64 a0_0, .slice Ao7 t249.length co7] (0, 0) _ rfl (by (with_reducible repeat (first | refine blk_drewN ?_ _ | refine blk_drew ?_ | refine blk_alloc ?_ _)); refine blk_put (cs := #[.int .i64 a0_0, .slice none 0 0]) ?_ 1 _ rfl; (with_reducible repeat (first | refine blk_drewN ?_ _ | refine blk_drew ?_ | refine blk_alloc ?_ _)); refine blk_put (cs := #[.int .i64 0, .slice none 0 0]) ?_ 0 _ rfl; (with_reducible repeat (first | refine blk_drewN ?_ _ | refine blk_drew ?_ | refine blk_alloc ?_ _)); exact BK248.out) Try.underlying31 rfl (by kernel_rfl)) rfl ?_
  exact ⟨_, by first | rfl | (simp [errW_none, errW_some] <;> rfl) | (simp [*, errW_none, errW_some] <;> rfl), by (with_reducible repeat (first | apply Kd.S_alloc | apply Kd.S_drewN | apply Kd.S_drew)); exact Kd.S_mono (Kd.S_far (p := ⟨gb248, 1, none⟩) (Kd.S_far (p := ⟨gb248, 0, none⟩) (Kd.S_types HO251.out BK248.out (by decide)) (fun _ hk => hk.2) (.int .i64 a0_0)) (fun _ hk => hk.2) (.slice Ao7 t249.length co7)) (fun _ hk => trivial), by repeat (first | (with_reducible first | exact HB.out | apply below_alloc | apply pw_below_drewN | apply below_drew1 | refine below_set ?_ GE247.out | refine below_set ?_ GE248.out) | exact HB.out)⟩

/-! ### spec_NextEpoch: function 39 -/
def spec_NextEpoch.g (k : Nat) (a0 : Int) (l0 : List S63) (p : Int × List S63) : Option (Int × List S63) :=
  if (p.2.all fun a => decide (a.f4.length < 1099511627776)) = true then (spec_LedgerOk.f k (wrap64 (a0 + 1)) (p.2.map (impl_NextEpoch.on (wrap64 (a0 + 1))))).bind fun b => if b = true then some (wrap64 (a0 + 1), p.2.map (impl_NextEpoch.on (wrap64 (a0 + 1)))) else spec_l6Copy.f k a0 l0 else none
def spec_NextEpoch.f (k : Nat) (a0 : Int) (l0 : List S63) : Option (Int × List S63) :=
  (spec_l6Copy.f k a0 l0).bind fun p => (spec_LedgerOk.f k a0 l0).bind fun b => if b = true then spec_NextEpoch.g k a0 l0 p else some p
theorem spec_NextEpoch.mono : ∀ a0 a1 k, LeO (spec_NextEpoch.f k a0 a1) (spec_NextEpoch.f (k + 1) a0 a1) := by
  intro a0 a1 k
  unfold spec_NextEpoch.f spec_NextEpoch.g
  repeat' first
      | (with_reducible exact spec_LedgerOk.mono _ _ _)
      | (with_reducible exact spec_l6Copy.mono _ _ _)
      | (with_reducible exact LeO.refl _)
      | (with_reducible exact LeO.none _)
      | (with_reducible refine LeO.ite ?_ ?_)
      | (with_reducible refine LeO.bind ?_ (fun _ => ?_))
set_option maxHeartbeats 8000000 in
set_option maxRecDepth 100000 in
theorem spec_NextEpoch.calls (k : Nat) (a0_0 : Int) (A0_1 : Option Addr) (c0_1 : Nat) (l0_1 : List S63) (r1 : Int) (r2 : List S63) (w : World) (hr0_1 : Kd.C k63 w A0_1 l0_1.length l0_1) (hc0_1 : l0_1.length ≤ c0_1) (h : spec_NextEpoch.f k a0_0 l0_1 = some (r1, r2)) :
    Calls Try.prog 39 #[.agg #[.int .i64 a0_0, .slice A0_1 l0_1.length c0_1]] w fun e w' => ∃ v1_ : Value, e = .returned (.agg #[.int .i64 r1, v1_]) ∧ Kd.S k63 63 w' w.heap.size (fun _ => True) v1_ r2 ∧ Below w.heap.size w w' := by
  have HR := Aside0.mk hr0_1
  have HC := Aside0.mk hc0_1
  unfold spec_NextEpoch.f at h
  obtain ⟨⟨p1, ys⟩, hcp, h⟩ := Option.bind_eq_some_iff.mp h
  have HCP := Aside0.mk hcp
  obtain ⟨b, hb, h⟩ := Option.bind_eq_some_iff.mp h
  have HOK := Aside0.mk hb
  clear hr0_1 hc0_1 hcp hb
  obtain ⟨B0, hB0⟩ : ∃ B0, B0 = w.heap.size + 2 := ⟨_, rfl⟩
  have HBB := Aside0.mk hB0
  clear hB0
  go_enter Try.func39, Try.ntmps39
  go_upto_region 2 with (first | ((with_reducible refine gate_dst (N := 3) rfl ?_); refine box_event ?hg (N := 3) ?hd (cs := #[.int .i64 0, .slice none 0 0]) (t := 31) ?hr ?_; (case hd => rfl); (case hg => rfl); (case hr => first | (go_simp; done) | (go_simp; rfl)); intro b3 hb3 w3 hbox hb; have HS3 := Aside0.mk (Kd.S_below (Kd.S_elderB HS.out b3 (Nat.le_of_eq hb3.symm)) hb); have G13 := Aside0.mk (impl_NextEpoch.held G11.out hb); have G23 := Aside0.mk (impl_NextEpoch.held G21.out hb); have G33 := Aside0.mk hbox; have HB3 := Aside0.mk (below_step HB1.out hb); have HN3 := Aside0.mk (hb3 ▸ HB1.out.size : w.heap.size ≤ b3); have HN13 := Aside0.mk (hb3 ▸ (blk_lt G21.out) : w.heap.size + 1 < b3); have c30 : w3.cell? ⟨b3, 0, none⟩ = some (.int .i64 0) := (blk_cell hbox 0).trans rfl; have c31 : w3.cell? ⟨b3, 1, none⟩ = some (.slice none 0 0) := (blk_cell hbox 1).trans rfl; have f30 := blk_frozen hbox 0; have f31 := blk_frozen hbox 1; clear hb hbox hb3) | (go_at_call 58; refine (spec_l6Copy.calls k a0_0 _ _ l0_1 p1 ys _ ?s1 ?s2 HCP.out).mono ?_; (case s1 => exact Kd.C_below HR.out (by repeat (first | exact Below.refl _ _ | apply below_alloc))); (case s2 => exact HC.out); rintro e w1 ⟨v1, rfl, hS, hb1⟩; obtain ⟨A, c, rfl⟩ := Kd.S_slice hS; have HS := Aside0.mk (Kd.S_lower (base' := B0) (Kd.S_mono (Kd.S_bound hS) (fun k_ hk => (by rw [HBB.out]; simpa using hk.2.1 : B0 ≤ k_))) (by rw [HBB.out]; simp) : Kd.S k63 63 w1 B0 (fun k_ => B0 ≤ k_) (.slice A ys.length c) ys); have G11 := Aside0.mk (impl_NextEpoch.held (impl_NextEpoch.two w _ _).1 hb1); have G21 := Aside0.mk (impl_NextEpoch.held (impl_NextEpoch.two w _ _).2 hb1); have HB1 := Aside0.mk (below_step (by repeat (first | exact Below.refl _ _ | apply below_alloc)) hb1 : Below w.heap.size w w1); clear hS hb1))
  have HS4 := Aside0.mk (Kd.S_far (p := ⟨b3, 1, none⟩) (Kd.S_far (p := ⟨b3, 0, none⟩) HS3.out (fun k_ hk => hk.2) (.int .i64 p1)) (fun k_ hk => hk.2) (.slice A ys.length c))
  have G14 := Aside0.mk (blk_far (blk_far G13.out (Nat.ne_of_lt (Nat.lt_of_succ_lt HN13.out)) (.int .i64 p1)) (Nat.ne_of_lt (Nat.lt_of_succ_lt HN13.out)) (.slice A ys.length c) : ((w3.setCell ⟨b3, 0, none⟩ (.int .i64 p1)).setCell ⟨b3, 1, none⟩ (.slice A ys.length c)).heap[w.heap.size]? = _)
  have G24 := Aside0.mk (blk_far (blk_far G23.out (Nat.ne_of_lt HN13.out) (.int .i64 p1)) (Nat.ne_of_lt HN13.out) (.slice A ys.length c) : ((w3.setCell ⟨b3, 0, none⟩ (.int .i64 p1)).setCell ⟨b3, 1, none⟩ (.slice A ys.length c)).heap[w.heap.size + 1]? = _)
  have G34 := Aside0.mk (blk_put (cs := #[.int .i64 p1, .slice none 0 0]) (blk_put (cs := #[.int .i64 0, .slice none 0 0]) G33.out 0 _ rfl) 1 _ rfl : ((w3.setCell ⟨b3, 0, none⟩ (.int .i64 p1)).setCell ⟨b3, 1, none⟩ (.slice A ys.length c)).heap[b3]? = some (.cells #[.int .i64 p1, .slice A ys.length c] 31 (0, 0)))
  have HB4 := Aside0.mk (below_set (below_set HB3.out HN3.out) HN3.out : Below w.heap.size w ((w3.setCell ⟨b3, 0, none⟩ (.int .i64 p1)).setCell ⟨b3, 1, none⟩ (.slice A ys.length c)))
  clear c30 c31 f30 f31 HS HS3 G11 G21 G13 G23 G33 HB1 HB3 HCP
  have HB0 := Aside0.mk (show w.heap.size + 1 < B0 by rw [HBB.out]; exact Nat.lt_succ_self _)
  have HWB := Aside0.mk (show w.heap.size ≤ B0 by rw [HBB.out]; exact Nat.le_add_right _ _)
  generalize ((w3.setCell ⟨b3, 0, none⟩ (.int .i64 p1)).setCell ⟨b3, 1, none⟩ (.slice A ys.length c)) = w4 at HS4 G14 G24 G34 HB4 ⊢
  have y0 : w4.cell? ⟨w.heap.size, 0, none⟩ = some (.int .i64 a0_0) := (blk_cell G14.out 0).trans rfl
  have y1 : w4.cell? ⟨w.heap.size, 1, none⟩ = some (.slice A0_1 l0_1.length c0_1) := (blk_cell G14.out 1).trans rfl
  cases b with
  | false =>
    rw [if_neg (by simp)] at h
    obtain ⟨rfl, rfl⟩ : p1 = r1 ∧ ys = r2 := by injection h with h; injection h with h1 h2; exact ⟨h1, h2⟩
    clear h
    go_wp2_with (go_at_call 47; refine (spec_LedgerOk.calls k a0_0 _ _ l0_1 false _ ?s1 ?s2 HOK.out).mono ?_; (case s1 => exact Kd.C_below HR.out HB4.out); (case s2 => exact HC.out); rintro e w5 ⟨rfl, hb⟩; have HS5 := Aside0.mk (Kd.S_below HS4.out hb); have g2 := impl_NextEpoch.held G24.out hb; have G25 := Aside0.mk g2; have g3 := impl_NextEpoch.held G34.out hb; have HB5 := Aside0.mk (below_step HB4.out hb); have z30 : w5.cell? ⟨b3, 0, none⟩ = some (.int .i64 p1) := (blk_cell g3 0).trans rfl; have z31 : w5.cell? ⟨b3, 1, none⟩ = some (.slice A ys.length c) := (blk_cell g3 1).trans rfl; have z2 : w5.cell? ⟨w.heap.size + 1, 0, none⟩ = some (.int .i64 0) := (blk_cell g2 0).trans rfl; have z3 : w5.cell? ⟨w.heap.size + 1, 1, none⟩ = some (.slice none 0 0) := (blk_cell g2 1).trans rfl; have f2 := blk_frozen g2 0; have f3 := blk_frozen g2 1; clear g2 g3 hb)
    (try simp only [Exit.inBlock, Exit.then])
    refine bodyPost_ret (results_cell_row rfl _ _ (w.heap.size + 1) 31 #[.int .i64 p1, .slice A ys.length c] (0, 0) _ rfl (blk_put (cs := #[.int .i64 p1, .slice none 0 0]) (blk_put (cs := #[.int .i64 0, .slice none 0 0]) G25.out 0 _ rfl) 1 _ rfl) Try.underlying31 rfl (by kernel_rfl)) rfl ?_
    exact ⟨_, rfl, Kd.S_lower (Kd.S_mono (Kd.S_far (p := ⟨w.heap.size + 1, 1, none⟩) (Kd.S_far (p := ⟨w.heap.size + 1, 0, none⟩) HS5.out (fun k_ hk => Nat.ne_of_gt (Nat.lt_of_lt_of_le HB0.out hk.1)) _) (fun k_ hk => Nat.ne_of_gt (Nat.lt_of_lt_of_le HB0.out hk.1)) _) (fun _ _ => trivial)) HWB.out, below_set (below_set HB5.out (Nat.le_succ _)) (Nat.le_succ _)⟩
  | true =>
    rw [if_pos rfl] at h
    unfold spec_NextEpoch.g at h
    split at h
    case isFalse => exact absurd h (by simp)
    rename_i hall
    have HALL := Aside0.mk (fun a ha => of_decide_eq_true (List.all_eq_true.1 hall a ha) : ∀ a ∈ ys, a.f4.length < 1099511627776)
    have H := Aside0.mk h
    clear h hall
    go_upto_region 4 with (go_at_call 47; refine (spec_LedgerOk.calls k a0_0 _ _ l0_1 true _ ?s1 ?s2 HOK.out).mono ?_; (case s1 => exact Kd.C_below HR.out HB4.out); (case s2 => exact HC.out); rintro e w5 ⟨rfl, hb⟩; have HS5 := Aside0.mk (Kd.S_below HS4.out hb); have g1 := impl_NextEpoch.held G14.out hb; have G15 := Aside0.mk g1; have G25 := Aside0.mk (impl_NextEpoch.held G24.out hb); have g3 := impl_NextEpoch.held G34.out hb; have G35 := Aside0.mk g3; have HB5 := Aside0.mk (below_step HB4.out hb); have z30 : w5.cell? ⟨b3, 0, none⟩ = some (.int .i64 p1) := (blk_cell g3 0).trans rfl; have f30 := blk_frozen g3 0; have z10 : w5.cell? ⟨w.heap.size, 0, none⟩ = some (.int .i64 a0_0) := (blk_cell g1 0).trans rfl; clear g1 g3 hb)
    go_wp2
    go_loopw [4] (fun i wr => ∃ m : Nat, m ≤ ys.length ∧ i = .int .i64 m ∧ Kd.S k63 63 wr B0 (fun k_ => B0 ≤ k_ ∧ k_ ≠ b3) (.slice A ys.length c) (impl_NextEpoch.pre (wrap64 (a0_0 + 1)) ys m) ∧ wr.heap[w.heap.size]? = some (.cells #[.int .i64 a0_0, .slice A0_1 l0_1.length c0_1] 31 (0, 0)) ∧ wr.heap[w.heap.size + 1]? = some (.cells #[.int .i64 0, .slice none 0 0] 31 (0, 0)) ∧ wr.heap[b3]? = some (.cells #[.int .i64 (wrap64 (a0_0 + 1)), .slice A ys.length c] 31 (0, 0)) ∧ Below w.heap.size w wr) (fun i _ => ys.length - (intOf i).toNat)
    case atStart =>
      refine ⟨0, Nat.zero_le _, rfl, Kd.S_far (p := ⟨b3, 0, none⟩) HS5.out (fun k_ hk => hk.2) _, ?_, ?_, ?_, ?_⟩
      · exact blk_far G15.out (Nat.ne_of_lt (Nat.lt_of_succ_lt HN13.out)) _
      · exact blk_far G25.out (Nat.ne_of_lt HN13.out) _
      · exact blk_put (cs := #[.int .i64 p1, .slice A ys.length c]) G35.out 0 _ rfl
      · exact below_set HB5.out HN3.out
    case round =>
      obtain ⟨m, hm, rfl, hS, hg1, hg2, hg3, hB⟩ := hrel
      have HS := Aside0.mk hS
      have HB := Aside0.mk hB
      have G1 := Aside0.mk hg1
      have G2 := Aside0.mk hg2
      have G3 := Aside0.mk hg3
      have c30 : wr.cell? ⟨b3, 0, none⟩ = some (.int .i64 (wrap64 (a0_0 + 1))) := (blk_cell hg3 0).trans rfl
      have c31 : wr.cell? ⟨b3, 1, none⟩ = some (.slice A ys.length c) := (blk_cell hg3 1).trans rfl
      clear hS hB hg1 hg2 hg3
      by_cases hlt : m < ys.length
      · have hlen := impl_NextEpoch.pre_len (wrap64 (a0_0 + 1)) ys m hm
        obtain ⟨g, cc, eS, hge, hgl, _⟩ := Kd.S_form HS.out (by rw [hlen]; omega)
        injection eS with eA en ec
        subst eA
        subst ec
        clear en
        obtain ⟨a, ha⟩ : ∃ a, a = ys.getD m z63 := ⟨_, rfl⟩
        obtain ⟨oki, cs, _, hM, hcc, hfr, hoki, _⟩ := Kd.S_elem HS.out z63 (m : Int) (by omega) (by omega)
        rw [Int.toNat_natCast, impl_NextEpoch.pre_at _ _ _ hlt, ← ha] at hM
        obtain ⟨v4, rfl, hR4⟩ := k63_openM hM
        obtain ⟨A4, c4, rfl⟩ := Kd.R_slice hR4
        have x4 : wr.cell? ⟨g, m * 5 + 4, none⟩ = some (.slice A4 a.f4.length c4) := hcc 4 _ rfl
        obtain ⟨NN, hNN⟩ : ∃ NN, NN = wr.heap.size := ⟨_, rfl⟩
        have HI := Aside0.mk (impl_NextEpoch.Inn.mk (w := w) (b3 := b3) (B0 := B0) (N := NN) (g := g) (m := m) (n := ys.length) (c := c) (zs := impl_NextEpoch.pre (wrap64 (a0_0 + 1)) ys m) (Kd.S_mono (Kd.S_bound HS.out) (fun k_ hk => ⟨hk.1, hNN ▸ hk.2.2.1⟩)) x4 G1.out G2.out G3.out HB.out (hNN ▸ hgl) (hNN ▸ blk_lt G3.out) (hNN ▸ blk_lt G2.out) (Nat.le_of_eq hNN))
        have n0 : (0 ≤ (m : Int)) = True := eq_true (by omega)
        have n1 : ((m : Int) < (ys.length : Int)) = True := eq_true (by omega)
        have HA := Aside0.mk ha
        have HGE := Aside0.mk hge
        have HLT := Aside0.mk hlt
        have HG3 := Aside0.mk (show g ≠ b3 from ((Kd.S_R HS.out).1 g rfl).2)
        have HWN := Aside0.mk (Nat.le_of_eq hNN)
        clear hM hcc hfr hoki hR4 ha hNN
        go_wp2
        have HI6 := Aside0.mk (HI.out.below (below_alloc (Below.refl wr.heap.size wr) (.cells #[] 65 (0, 0))))
        have HR6 := Aside0.mk (show Kd.R k65 65 (wr.alloc (.cells #[] 65 (0, 0))) NN (fun _ => True) (.slice (some ⟨wr.heap.size, 0, none⟩) 0 0) [] from ⟨fun _ _ => trivial, OwnRow.lit wr NN (Reps.none _ _) HWN.out (by simp)⟩)
        clear c30 c31 x4
        generalize (wr.alloc (.cells #[] 65 (0, 0))) = w6 at HI6 HR6 ⊢
        generalize (Value.slice (some ⟨wr.heap.size, 0, none⟩) 0 0) = v6 at HR6 ⊢
        go_loopw [6, 7] (fun v6 i wr2 => ∃ j : Nat, j ≤ a.f4.length ∧ i = .int .i64 j ∧ impl_NextEpoch.Inn w b3 B0 NN g m ys.length c (.cells #[.int .i64 a0_0, .slice A0_1 l0_1.length c0_1] 31 (0, 0)) (.cells #[.int .i64 0, .slice none 0 0] 31 (0, 0)) (.cells #[.int .i64 (wrap64 (a0_0 + 1)), .slice (some ⟨g, 0, none⟩) ys.length c] 31 (0, 0)) (.slice A4 a.f4.length c4) ((impl_NextEpoch.pre (wrap64 (a0_0 + 1)) ys m).set m (impl_NextEpoch.mid (wrap64 (a0_0 + 1)) a j)) wr2 ∧ Kd.R k65 65 wr2 NN (fun _ => True) v6 (impl_NextEpoch.late (wrap64 (a0_0 + 1)) (a.f4.take j))) (fun v6 i _ => a.f4.length - (intOf i).toNat)
        case atStart => exact ⟨0, Nat.zero_le _, rfl, by rw [impl_NextEpoch.mid_zero _ _ _ hlt _ HA.out]; exact HI6.out, HR6.out⟩
        case round =>
          obtain ⟨j, hj, rfl, hI, hR⟩ := hrel
          have HI2 := Aside0.mk hI
          have HR2 := Aside0.mk hR
          clear hI hR
          by_cases hjl : j < a.f4.length
          · obtain ⟨zs, hzs⟩ : ∃ zs, zs = (impl_NextEpoch.pre (wrap64 (a0_0 + 1)) ys m).set m (impl_NextEpoch.mid (wrap64 (a0_0 + 1)) a j) := ⟨_, rfl⟩
            have hzl : zs.length = ys.length := by rw [hzs, List.length_set, impl_NextEpoch.pre_len _ _ _ hm]
            have hzm : zs.getD m z63 = impl_NextEpoch.mid (wrap64 (a0_0 + 1)) a j := by rw [hzs, List.getD_eq_getElem?_getD, List.getElem?_set_self (by rw [impl_NextEpoch.pre_len _ _ _ hm]; exact hlt)]; rfl
            have HI3 := Aside0.mk (show impl_NextEpoch.Inn w b3 B0 NN g m ys.length c (.cells #[.int .i64 a0_0, .slice A0_1 l0_1.length c0_1] 31 (0, 0)) (.cells #[.int .i64 0, .slice none 0 0] 31 (0, 0)) (.cells #[.int .i64 (wrap64 (a0_0 + 1)), .slice (some ⟨g, 0, none⟩) ys.length c] 31 (0, 0)) (.slice A4 a.f4.length c4) zs wr by rw [hzs]; exact HI2.out)
            have HZ := Aside0.mk hzs
            have HZL := Aside0.mk hzl
            have HZM := Aside0.mk hzm
            have HZT := Aside0.mk (show m < zs.length by rw [hzl]; exact hlt)
            obtain ⟨oki, cs, _, hM, hcc, _, _, _⟩ := Kd.S_elem HI3.out.s z63 (m : Int) (by omega) (by omega)
            rw [Int.toNat_natCast, hzm] at hM
            obtain ⟨v4, rfl, hR4⟩ := k63_openM hM
            have e4 := Option.some.inj ((hcc 4 _ rfl).symm.trans HI3.out.x4)
            subst e4
            obtain ⟨ad, e4, hy0, hy1⟩ := at_T65 (Kd.R_reads' hR4).2.2 (j : Int) (by omega) (by exact Int.ofNat_lt.2 hjl)
            subst e4
            obtain ⟨x, hx⟩ : ∃ x, x = rd_T65 a.f4 (j : Int) := ⟨_, rfl⟩
            rw [show rd_T65 (impl_NextEpoch.mid (wrap64 (a0_0 + 1)) a j).f4 (j : Int) = x from hx.symm, Int.toNat_natCast] at hy0 hy1
            have HX := Aside0.mk hx
            have hl4 : a.f4.length ≤ 9223372036854775807 := (Kd.R_reads' hR4).2.2.2.1
            have H01 := Aside0.mk (impl_NextEpoch.next j _ hjl hl4)
            clear hl4
            have q0 : (0 ≤ (j : Int)) = True := eq_true (by omega)
            have q1 : ((j : Int) < (a.f4.length : Int)) = True := eq_true (by omega)
            have y4 := HI3.out.x4
            have y3 : wr.cell? ⟨b3, 0, none⟩ = some (.int .i64 (wrap64 (a0_0 + 1))) := (blk_cell HI3.out.g3 0).trans rfl
            clear hzs hzl hzm hM hcc hR4 hx
            go_wp2
            go_quiet (fail)
            have hI7 := HI3.out.below (pw_below_drewN (Below.refl wr.heap.size wr) nq)
            have hR7 : Kd.R k65 65 (wr.drewN nq) NN (fun _ => True) u6 (impl_NextEpoch.late (wrap64 (a0_0 + 1)) (a.f4.take j)) := Kd.R_drewN HR2.out nq
            have hy07 : (wr.drewN nq).cell? (ad.add (j * 2)) = some (.int .i64 x.f0) := hy0
            have hy17 : (wr.drewN nq).cell? ⟨(ad.add (j * 2)).block, (ad.add (j * 2)).off + 1, none⟩ = some (.int .i64 x.f1) := hy1
            clear hy0 hy1 y4 y3
            generalize (wr.drewN nq) = w7 at hI7 hR7 hy07 hy17 ⊢
            have y4 := hI7.x4
            have hfr7 := (hI7.free HB0.out HGE.out HG3.out HZL.out.symm HZT.out 0).2
            rw [HZM.out] at hfr7
            have x17 := hfr7.1
            have f17 := hfr7.2
            have HI7 := Aside0.mk hI7
            have HR7 := Aside0.mk hR7
            clear hI7 hR7 hfr7
            by_cases hle : x.f1 ≤ (wrap64 (a0_0 + 1))
            · rw [decide_eq_true hle]
              have HLE := Aside0.mk hle
              clear hle hy17
              go_upto_region 14 with (fail)
              go_still_tail 16, (by kernel_rfl)
              change wpList _ _ _ _ _ w7.drew
              have hI8 := HI7.out.below (below_drew (Below.refl w7.heap.size w7))
              have hR8 : Kd.R k65 65 w7.drew NN (fun _ => True) u6 (impl_NextEpoch.late (wrap64 (a0_0 + 1)) (a.f4.take j)) := Kd.R_drew HR7.out
              clear y4 x17 f17 hy07
              generalize w7.drew = w8 at hI8 hR8 ⊢
              obtain ⟨hI9, x18, f18⟩ := hI8.free HB0.out HGE.out HG3.out HZL.out.symm HZT.out (wrap64 ((impl_NextEpoch.mid (wrap64 (a0_0 + 1)) a j).f1 + x.f0))
              rw [HZM.out] at hI9 x18
              have HI9 := Aside0.mk hI9
              have HR8 := Aside0.mk hR8
              have HGN := Aside0.mk hI8.gN
              clear hI9 hR8 hI8
              go_wp2
              go_roundw
              case rel =>
                refine ⟨j + 1, Nat.succ_le_of_lt hjl, by rw [H01.out], ?_, ?_⟩
                · rw [impl_NextEpoch.mid_pos _ a j hjl x HX.out HLE.out]
                  have h9 := HI9.out
                  rw [HZ.out, List.set_set] at h9
                  exact h9
                · rw [impl_NextEpoch.late_step _ _ _ hjl, if_pos (show (a.f4.getD j z65).f1 ≤ _ from (show x = a.f4.getD j z65 from HX.out) ▸ HLE.out)]
                  exact Kd.R_mono (Kd.R_far (p := ⟨g, m * 5 + 1, none⟩) (Kd.R_mono (Kd.R_bound HR8.out) (fun k_ hk => Nat.ne_of_gt (Nat.lt_of_lt_of_le HGN.out hk.2.1))) (fun _ hk => hk) _) (fun _ _ => trivial)
              case measure =>
                rw [H01.out]
                exact impl_NextEpoch.meas _ j hjl
            · rw [decide_eq_false hle]
              have HLE := Aside0.mk hle
              clear hle
              have HLL := Aside0.mk (show ((impl_NextEpoch.late (wrap64 (a0_0 + 1)) (a.f4.take j)).length + 1) * 16 ≤ 140737488355328 from by
                have h1 : (impl_NextEpoch.late (wrap64 (a0_0 + 1)) (a.f4.take j)).length ≤ (a.f4.take j).length := List.length_filter_le _ _
                have h2 : (a.f4.take j).length ≤ a.f4.length := List.length_take_le' _ _
                have h3 : a.f4.length < 1099511627776 := HALL.out a (by rw [HA.out, List.getD_eq_getElem?_getD, List.getElem?_eq_getElem HLT.out]; exact List.getElem_mem _)
                omega)
              go_wp2_with (first | ((with_reducible refine gate_dst (N := 74) rfl ?_); refine Kd.R_lit k65 (w0 := w7) w7.heap.size 65 ?hg (N := 74) ?hd (xs := ([x] : List S65)) (inner := [.int .i64 x.f0, .int .i64 x.f1]) (ok := fun _ => True) (okp := fun _ => True) ?hr ?hp (fun _ hk => hk) trivial (Below.refl _ _) (Nat.le_refl _) (by simp) ?_; (case hd => rfl); (case hg => rfl); (case hr => first | (go_simp; done) | (go_simp; rfl)); (case hp => exact Reps.snoc (Reps.none _ _) (k65_mkM _ _ _ x) rfl); intro v74 w8 ho hb hg_ hnew_; have HI8 := Aside0.mk (HI7.out.below hb); have HR8 := Aside0.mk (Kd.R_below HR7.out hb); have HL8 := Aside0.mk ho; clear ho hb hg_ hnew_; obtain ⟨A8, c8, e8⟩ := Kd.R_slice HL8.out; subst e8) | ((with_reducible refine gate_builtin (b := .append) (xs := #[.tmp 66, .tmp 74]) rfl ?_); at_builtin; refine Kd.R_append_rows k65 (w0 := w8) NN rfl (.tmp 66) (.tmp 74) 61 65 (.agg #[.int .i64 0, .int .i64 0]) 16 rfl Try.underlying61 info65 rfl (by decide) (by omega) u6 (impl_NextEpoch.late (wrap64 (a0_0 + 1)) (a.f4.take j)) [x] _ _ _ (fun _ => True) (fun _ => False) rfl rfl ?aO ?aR (fun _ _ h => h) (fun _ h => h.elim) ?aF ?aB ?aS ?aL ?_; (case aO => exact HR8.out); (case aR => exact (Kd.R_reads' HL8.out).2.2); (case aF => exact fun _ _ => trivial); (case aB => exact Below.refl _ _); (case aS => exact HI8.out.NW); (case aL => exact HLL.out); intro v9 w9 ho hb hg hat; have HI9 := Aside0.mk (HI8.out.grow hb); have HR9 := Aside0.mk ho; clear ho hb hg hat))
              go_roundw
              case rel =>
                refine ⟨j + 1, Nat.succ_le_of_lt hjl, by rw [H01.out], ?_, ?_⟩
                · rw [impl_NextEpoch.mid_neg _ a j hjl x HX.out HLE.out]
                  have h9 := HI9.out
                  rw [HZ.out] at h9
                  exact h9
                · rw [impl_NextEpoch.late_step _ _ _ hjl, if_neg (show ¬ (a.f4.getD j z65).f1 ≤ _ from (show x = a.f4.getD j z65 from HX.out) ▸ HLE.out), show a.f4.getD j z65 = x from HX.out.symm]
                  exact HR9.out
              case measure =>
                rw [H01.out]
                exact impl_NextEpoch.meas _ j hjl
          · obtain rfl : j = a.f4.length := by omega
            have hp5 : (impl_NextEpoch.pre (wrap64 (a0_0 + 1)) ys m).length = ys.length := impl_NextEpoch.pre_len _ _ _ hm
            have hmm : ((impl_NextEpoch.pre (wrap64 (a0_0 + 1)) ys m).set m (impl_NextEpoch.mid (wrap64 (a0_0 + 1)) a a.f4.length)).getD m z63 = impl_NextEpoch.mid (wrap64 (a0_0 + 1)) a a.f4.length := by rw [List.getD_eq_getElem?_getD, List.getElem?_set_self (by rw [hp5]; exact hlt)]; rfl
            obtain ⟨A6, c6, e6⟩ := Kd.R_slice HR2.out
            generalize (impl_NextEpoch.late (wrap64 (a0_0 + 1)) (a.f4.take a.f4.length)).length = n6 at e6
            subst e6
            obtain ⟨hS9, hg1, hg2, hg3, hB9, f94⟩ := HI2.out.leave HB0.out (Nat.le_trans HGE.out (Nat.le_of_lt HI2.out.gN)) HGE.out HG3.out (by rw [List.length_set, hp5]) (by rw [List.length_set, hp5]; exact hlt) _ _ HR2.out
            rw [hmm] at hS9
            have x49 := HI2.out.x4
            have HS9 := Aside0.mk hS9
            have HG19 := Aside0.mk hg1
            have HG29 := Aside0.mk hg2
            have HG39 := Aside0.mk hg3
            have HB9 := Aside0.mk hB9
            have HP5 := Aside0.mk hp5
            have HLE := Aside0.mk (show m + 1 ≤ ys.length from hlt)
            have HY := Aside0.mk (Kd.S_reads' HS9.out).2.2.2.1
            have H01 := Aside0.mk (impl_NextEpoch.next m _ hlt (by have h1 := HY.out; rw [List.length_set, List.length_set, HP5.out] at h1; exact h1))
            clear hS9 hg1 hg2 hg3 hB9 hp5 hmm
            go_wp2
            go_roundw
            case rel =>
              refine ⟨m + 1, HLE.out, by rw [H01.out], ?_, HG19.out, HG29.out, HG39.out, HB9.out⟩
              rw [← impl_NextEpoch.mid_end _ ys m HLE.out a HA.out]
              have h9 := HS9.out
              exact h9
            case measure =>
              rw [H01.out]
              exact impl_NextEpoch.meas _ m HLE.out
      · obtain rfl : m = ys.length := by omega
        have n1 : ((ys.length : Int) < (ys.length : Int)) = False := eq_false (by omega)
        obtain ⟨zs, hzs⟩ : ∃ zs, zs = ys.map (impl_NextEpoch.on (wrap64 (a0_0 + 1))) := ⟨_, rfl⟩
        have hzl : ys.length = zs.length := by rw [hzs, List.length_map]
        have hS := HS.out
        rw [impl_NextEpoch.pre_end, ← hzs, hzl] at hS
        have g3 := G3.out
        rw [hzl] at g3 c31
        have n2 : ((ys.length : Int) < (zs.length : Int)) = False := eq_false (by omega)
        have h := H.out
        rw [← hzs] at h
        have HS5 := Aside0.mk hS
        have G35 := Aside0.mk g3
        clear hzs hzl hS g3
        obtain ⟨b, hb, h⟩ := Option.bind_eq_some_iff.mp h
        have HOK2 := Aside0.mk hb
        clear hb
        cases b with
        | true =>
          rw [if_pos rfl] at h
          obtain ⟨rfl, rfl⟩ : (wrap64 (a0_0 + 1)) = r1 ∧ zs = r2 := by injection h with h; injection h with h1 h2; exact ⟨h1, h2⟩
          clear h
          go_wp2_with (go_at_call 47; refine (spec_LedgerOk.calls k (wrap64 (a0_0 + 1)) _ _ zs true _ ?s1 ?s2 HOK2.out).mono ?_; (case s1 => exact (Kd.S_reads' HS5.out).2.2); (case s2 => exact (Kd.S_reads' HS5.out).2.1); rintro e w6 ⟨rfl, hb6⟩; have HS6 := Aside0.mk (Kd.S_below HS5.out hb6); have g2 := impl_NextEpoch.held G2.out hb6; have G26 := Aside0.mk g2; have g3 := impl_NextEpoch.held G35.out hb6; have HB6 := Aside0.mk (below_step HB.out hb6); have z30 : w6.cell? ⟨b3, 0, none⟩ = some (.int .i64 (wrap64 (a0_0 + 1))) := (blk_cell g3 0).trans rfl; have z31 : w6.cell? ⟨b3, 1, none⟩ = some (.slice A zs.length c) := (blk_cell g3 1).trans rfl; have z2 : w6.cell? ⟨w.heap.size + 1, 0, none⟩ = some (.int .i64 0) := (blk_cell g2 0).trans rfl; have z3 : w6.cell? ⟨w.heap.size + 1, 1, none⟩ = some (.slice none 0 0) := (blk_cell g2 1).trans rfl; have f2 := blk_frozen g2 0; have f3 := blk_frozen g2 1; clear g2 g3 hb6)
          (try simp only [Exit.inBlock, Exit.then])
          refine bodyPost_ret (results_cell_row rfl _ _ (w.heap.size + 1) 31 #[.int .i64 (wrap64 (a0_0 + 1)), .slice A zs.length c] (0, 0) _ rfl (blk_put (cs := #[.int .i64 (wrap64 (a0_0 + 1)), .slice none 0 0]) (blk_put (cs := #[.int .i64 0, .slice none 0 0]) G26.out 0 _ rfl) 1 _ rfl) Try.underlying31 rfl (by kernel_rfl)) rfl ?_
          exact ⟨_, rfl, Kd.S_lower (Kd.S_mono (Kd.S_far (p := ⟨w.heap.size + 1, 1, none⟩) (Kd.S_far (p := ⟨w.heap.size + 1, 0, none⟩) HS6.out (fun k_ hk => Nat.ne_of_gt (Nat.lt_of_lt_of_le HB0.out hk.1)) _) (fun k_ hk => Nat.ne_of_gt (Nat.lt_of_lt_of_le HB0.out hk.1)) _) (fun _ _ => trivial)) HWB.out, below_set (below_set HB6.out (Nat.le_succ _)) (Nat.le_succ _)⟩
        | false =>
          rw [if_neg (by simp)] at h
          have HCP2 := Aside0.mk h
          clear h
          go_wp2_with (first | (go_at_call 47; refine (spec_LedgerOk.calls k (wrap64 (a0_0 + 1)) _ _ zs false _ ?s1 ?s2 HOK2.out).mono ?_; (case s1 => exact (Kd.S_reads' HS5.out).2.2); (case s2 => exact (Kd.S_reads' HS5.out).2.1); rintro e w6 ⟨rfl, hb6⟩; have G26 := Aside0.mk (impl_NextEpoch.held G2.out hb6); have g1 := impl_NextEpoch.held G1.out hb6; have HB6 := Aside0.mk (below_step HB.out hb6); have z60 : w6.cell? ⟨w.heap.size, 0, none⟩ = some (.int .i64 a0_0) := (blk_cell g1 0).trans rfl; have z61 : w6.cell? ⟨w.heap.size, 1, none⟩ = some (.slice A0_1 l0_1.length c0_1) := (blk_cell g1 1).trans rfl; clear g1 hb6) | (go_at_call 58; refine (spec_l6Copy.calls k a0_0 _ _ l0_1 r1 r2 _ ?s1 ?s2 HCP2.out).mono ?_; (case s1 => exact Kd.C_below HR.out HB6.out); (case s2 => exact HC.out); rintro e w7 ⟨v1, rfl, hS, hb7⟩; have g2 := impl_NextEpoch.held G26.out hb7; obtain ⟨A7, c7, rfl⟩ := Kd.S_slice hS; have z2 : w7.cell? ⟨w.heap.size + 1, 0, none⟩ = some (.int .i64 0) := (blk_cell g2 0).trans rfl; have z3 : w7.cell? ⟨w.heap.size + 1, 1, none⟩ = some (.slice none 0 0) := (blk_cell g2 1).trans rfl; have f2 := blk_frozen g2 0; have f3 := blk_frozen g2 1; have HS7 := Aside0.mk (Kd.S_lower (Kd.S_mono (Kd.S_bound hS) (fun k_ hk => hk.2.1)) HB6.out.size); have G37 := Aside0.mk g2; have HB7 := Aside0.mk (below_step HB6.out hb7); have LT := Aside0.mk (blk_lt G26.out); clear hS hb7 g2))
          (try simp only [Exit.inBlock, Exit.then])
          refine bodyPost_ret (results_cell_row rfl _ _ (w.heap.size + 1) 31 #[.int .i64 r1, .slice A7 r2.length c7] (0, 0) _ rfl (blk_put (cs := #[.int .i64 r1, .slice none 0 0]) (blk_put (cs := #[.int .i64 0, .slice none 0 0]) G37.out 0 _ rfl) 1 _ rfl) Try.underlying31 rfl (by kernel_rfl)) rfl ?_
          exact ⟨_, rfl, Kd.S_mono (Kd.S_far (p := ⟨w.heap.size + 1, 1, none⟩) (Kd.S_far (p := ⟨w.heap.size + 1, 0, none⟩) HS7.out (fun k_ hk => Nat.ne_of_gt (Nat.lt_of_lt_of_le LT.out hk)) _) (fun k_ hk => Nat.ne_of_gt (Nat.lt_of_lt_of_le LT.out hk)) _) (fun _ _ => trivial), below_set (below_set HB7.out (Nat.le_succ _)) (Nat.le_succ _)⟩

/-! ### laws_FnExactNextEpoch: function 9 -/
/-- A ledger of the call's own, in a variable in memory: its rows lie from lo on, below hi. -/
structure laws_FnExactNextEpoch.BS (W : World) (base b lo hi : Nat) (n : Int) (v : Value) (xs : List S63) : Prop where
  g : W.heap[b]? = some (.cells #[.int .i64 n, v] 31 (0, 0))
  s : Kd.S k63 63 W base (fun k_ => lo ≤ k_ ∧ k_ < hi) v xs
section
variable {W W' : World} {base b lo hi : Nat} {n : Int} {v : Value} {xs : List S63}
theorem laws_FnExactNextEpoch.BS.below (h : laws_FnExactNextEpoch.BS W base b lo hi n v xs) (hb : Below W.heap.size W W') : laws_FnExactNextEpoch.BS W' base b lo hi n v xs := ⟨(hb.block b (blk_lt h.g)).trans h.g, Kd.S_below h.s hb⟩
theorem laws_FnExactNextEpoch.BS.kept {M : Nat → Prop} (h : laws_FnExactNextEpoch.BS W base b lo hi n v xs) (hk : Kept W W' M) (hb : ¬ M b) (hm : ∀ k, M k → k < lo ∨ hi ≤ k) : laws_FnExactNextEpoch.BS W' base b lo hi n v xs :=
  ⟨(hk.2 b (blk_lt h.g) hb).trans h.g, Kd.S_kept h.s hk (fun k_ hk_ hM => by have := hm k_ hM; omega)⟩
theorem laws_FnExactNextEpoch.BS.c0 (h : laws_FnExactNextEpoch.BS W base b lo hi n v xs) : W.cell? ⟨b, 0, none⟩ = some (.int .i64 n) := (blk_cell h.g 0).trans rfl
theorem laws_FnExactNextEpoch.BS.c1 (h : laws_FnExactNextEpoch.BS W base b lo hi n v xs) : W.cell? ⟨b, 1, none⟩ = some v := (blk_cell h.g 1).trans rfl
theorem laws_FnExactNextEpoch.BS.new (hS : Kd.S k63 63 W lo (fun _ => True) v xs) (hl : base ≤ lo) (n : Int) : laws_FnExactNextEpoch.BS (W.alloc (.cells #[.int .i64 n, v] 31 (0, 0))) base W.heap.size lo W.heap.size n v xs where
  g := blk_new W _
  s := Kd.S_lower (Kd.S_alloc (Kd.S_mono (Kd.S_bound hS) (fun k_ hk => ⟨hk.2.1, hk.2.2.1⟩)) _) hl
end
def laws_FnExactNextEpoch.h (k : Nat) (n : Int) (l : List S125) : Option Bool :=
  (laws_toLedger.f k n l).bind fun p => (spec_NextEpoch.f k p.1 p.2).bind fun a => (impl_NextEpoch.f k p.1 p.2).bind fun b =>
  (laws_eqLedger.f k b.1 b.2 a.1 a.2).bind fun q1 => (laws_eqLedger.f k p.1 p.2 p.1 p.2).bind fun q2 =>
  (laws_markAcctS.f k p.2 1).bind fun mx => (laws_markAcctS.f k b.2 1).bind fun mg => (laws_heldLedger.f k b.1 mg.2 1).bind fun hq =>
  if (q1 && (q2 && (decide (0 ≤ mx.1) && (decide (0 ≤ hq) && decide (hq = mg.1))))) = true then some true else none
def laws_FnExactNextEpoch.f (k : Nat) (n : Int) (l : List S125) : Option Bool :=
  (laws_szLedger.f k n l 1048576).bind fun t => if t < 0 then some true else laws_FnExactNextEpoch.h k n l
theorem laws_FnExactNextEpoch.mono : ∀ a0 a1 k, LeO (laws_FnExactNextEpoch.f k a0 a1) (laws_FnExactNextEpoch.f (k + 1) a0 a1) := by
  intro a0 a1 k
  unfold laws_FnExactNextEpoch.f laws_FnExactNextEpoch.h
  repeat' first
      | (with_reducible exact laws_szLedger.mono _ _ _ _)
      | (with_reducible exact laws_toLedger.mono _ _ _)
      | (with_reducible exact spec_NextEpoch.mono _ _ _)
      | (with_reducible exact impl_NextEpoch.mono _ _ _)
      | (with_reducible exact laws_eqLedger.mono _ _ _ _ _)
      | (with_reducible exact laws_markAcctS.mono _ _ _)
      | (with_reducible exact laws_heldLedger.mono _ _ _ _)
      | (with_reducible exact LeO.refl _)
      | (with_reducible exact LeO.none _)
      | (with_reducible refine LeO.ite ?_ ?_)
      | (with_reducible refine LeO.bind ?_ (fun _ => ?_))
set_option maxHeartbeats 8000000 in
set_option maxRecDepth 100000 in
theorem laws_FnExactNextEpoch.calls (k : Nat) (a0_0 : Int) (A0_1 : Option Addr) (c0_1 : Nat) (l0_1 : List S125) (r : Bool) (w : World) (hr0_1 : Kd.C k125 w A0_1 l0_1.length l0_1) (hc0_1 : l0_1.length ≤ c0_1) (h : laws_FnExactNextEpoch.f k a0_0 l0_1 = some r) :
    Calls Try.prog 9 #[.agg #[.int .i64 a0_0, .slice A0_1 l0_1.length c0_1]] w fun e w' => e = .returned (.bool r) ∧ Below w.heap.size w w' := by
  have HR := Aside0.mk hr0_1
  have HC := Aside0.mk hc0_1
  unfold laws_FnExactNextEpoch.f at h
  obtain ⟨t, ht, h⟩ := Option.bind_eq_some_iff.mp h
  have HT := Aside0.mk ht
  clear ht hr0_1 hc0_1
  by_cases hneg : t < 0
  · rw [if_pos hneg] at h
    obtain rfl := Option.some.inj h
    clear h
    have hn := eq_true hneg
    clear hneg
    go_enter Try.func9, Try.ntmps9
    go_wp2_with (go_at_call 13; refine (laws_szLedger.calls k a0_0 _ _ l0_1 1048576 t _ ?s1 ?s2 HT.out).mono ?_; (case s1 => exact Kd.C_alloc HR.out _); (case s2 => exact HC.out); rintro e w1 ⟨rfl, hb⟩; have HB1 := Aside0.mk (below_step (below_alloc (Below.refl _ _) _) hb : Below w.heap.size w w1); clear hb)
    go_ret
    exact ⟨rfl, HB1.out⟩
  · rw [if_neg hneg] at h
    have hn := eq_false hneg
    clear hneg
    unfold laws_FnExactNextEpoch.h at h
    obtain ⟨⟨p1, p2⟩, hp, h⟩ := Option.bind_eq_some_iff.mp h
    obtain ⟨⟨a1, a2⟩, ha, h⟩ := Option.bind_eq_some_iff.mp h
    obtain ⟨⟨b1, b2⟩, hb, h⟩ := Option.bind_eq_some_iff.mp h
    obtain ⟨q1, hq1, h⟩ := Option.bind_eq_some_iff.mp h
    obtain ⟨q2, hq2, h⟩ := Option.bind_eq_some_iff.mp h
    obtain ⟨⟨mx, x'⟩, hmx, h⟩ := Option.bind_eq_some_iff.mp h
    obtain ⟨⟨mg, g'⟩, hmg, h⟩ := Option.bind_eq_some_iff.mp h
    obtain ⟨hq, hhq, h⟩ := Option.bind_eq_some_iff.mp h
    by_cases hall : (q1 && (q2 && (decide (0 ≤ mx) && (decide (0 ≤ hq) && decide (hq = mg))))) = true
    case neg => rw [if_neg hall] at h; exact absurd h (by simp)
    rw [if_pos hall] at h
    obtain rfl := Option.some.inj h
    clear h
    simp only [Bool.and_eq_true, decide_eq_true_eq] at hall
    obtain ⟨rfl, rfl, hmx0, hhq0, rfl⟩ := hall
    have HP := Aside0.mk hp
    have HA := Aside0.mk ha
    have HBB := Aside0.mk hb
    have HQ1 := Aside0.mk hq1
    have HQ2 := Aside0.mk hq2
    have HMX := Aside0.mk hmx
    have HMG := Aside0.mk hmg
    have HHQ := Aside0.mk hhq
    clear hp ha hb hq1 hq2 hmx hmg hhq
    have m1 : (mx < 0) = False := eq_false (Int.not_lt.2 hmx0)
    have m2 : (hq < 0) = False := eq_false (Int.not_lt.2 hhq0)
    clear hmx0 hhq0
    go_enter Try.func9, Try.ntmps9
    go_upto_region 5 with (go_at_call 13; refine (laws_szLedger.calls k a0_0 _ _ l0_1 1048576 t _ ?s1 ?s2 HT.out).mono ?_; (case s1 => exact Kd.C_alloc HR.out _); (case s2 => exact HC.out); rintro e w1 ⟨rfl, hb⟩; have G1_1 := Aside0.mk (impl_NextEpoch.held (blk_new w (.cells #[.int .i64 a0_0, .slice A0_1 l0_1.length c0_1] 24 (0, 0))) hb); have HB_1 := Aside0.mk (below_step (below_alloc (Below.refl _ _) _) hb : Below w.heap.size w w1); clear hb)
    have y10 : w1.cell? ⟨w.heap.size, 0, none⟩ = some (.int .i64 a0_0) := (blk_cell G1_1.out 0).trans rfl
    have y11 : w1.cell? ⟨w.heap.size, 1, none⟩ = some (.slice A0_1 l0_1.length c0_1) := (blk_cell G1_1.out 1).trans rfl
    go_upto_region 6 with (first | (go_at_call 16; refine (laws_toLedger.calls k a0_0 _ _ l0_1 p1 p2 _ ?s1 ?s2 HP.out).mono ?_; (case s1 => exact Kd.C_below HR.out HB_1.out); (case s2 => exact HC.out); rintro e w2 ⟨v2, rfl, hS, hb⟩; obtain ⟨A2, c2, rfl⟩ := Kd.S_slice hS; have S2 := Aside0.mk hS; have HZ2 := Aside0.mk hb.size; clear hS; have G1_2 := Aside0.mk (impl_NextEpoch.held G1_1.out hb); have HB_2 := Aside0.mk (below_step HB_1.out hb); clear hb) | (go_at_call 39; refine (spec_NextEpoch.calls k p1 _ _ p2 a1 a2 _ ?s1 ?s2 HA.out).mono ?_; (case s1 => exact (Kd.S_reads' S2.out).2.2); (case s2 => exact (Kd.S_reads' S2.out).2.1); rintro e w3 ⟨v3, rfl, hS, hb⟩; obtain ⟨A3, c3, rfl⟩ := Kd.S_slice hS; have S3 := Aside0.mk hS; have HZ3 := Aside0.mk hb.size; clear hS; have G1_3 := Aside0.mk (impl_NextEpoch.held G1_2.out hb); have HB_3 := Aside0.mk (below_step HB_2.out hb); clear hb))
    clear y10 y11
    have hm := below_alloc (Below.refl w3.heap.size w3) (.cells #[.int .i64 a1, .slice A3 a2.length c3] 31 (0, 0))
    have hB := laws_FnExactNextEpoch.BS.new S3.out HB_2.out.size a1
    obtain ⟨b4, hb4⟩ : ∃ b4, b4 = w3.heap.size := ⟨_, rfl⟩
    have hG1 := impl_NextEpoch.held G1_3.out hm
    have hHB := below_step HB_3.out hm
    clear hm
    rw [← hb4] at hB ⊢
    generalize (w3.alloc (.cells #[.int .i64 a1, .slice A3 a2.length c3] 31 (0, 0))) = w4 at hB hHB hG1 ⊢
    have G1_4 := Aside0.mk hG1
    have B4_4 := Aside0.mk hB
    have HB_4 := Aside0.mk hHB
    have HN4 := Aside0.mk hb4
    clear hB hHB hb4 hG1
    have y10 : w4.cell? ⟨w.heap.size, 0, none⟩ = some (.int .i64 a0_0) := (blk_cell G1_4.out 0).trans rfl
    have y11 : w4.cell? ⟨w.heap.size, 1, none⟩ = some (.slice A0_1 l0_1.length c0_1) := (blk_cell G1_4.out 1).trans rfl
    go_upto_region 7 with (go_at_call 16; refine (laws_toLedger.calls k a0_0 _ _ l0_1 p1 p2 _ ?s1 ?s2 HP.out).mono ?_; (case s1 => exact Kd.C_below HR.out HB_4.out); (case s2 => exact HC.out); rintro e w5 ⟨v5, rfl, hS, hb⟩; obtain ⟨A5, c5, rfl⟩ := Kd.S_slice hS; have S5 := Aside0.mk hS; have HZ5 := Aside0.mk hb.size; clear hS; have G1_5 := Aside0.mk (impl_NextEpoch.held G1_4.out hb); have B4_5 := Aside0.mk (B4_4.out.below hb); have HB_5 := Aside0.mk (below_step HB_4.out hb); clear hb)
    clear y10 y11
    have hm := below_alloc (Below.refl w5.heap.size w5) (.cells #[.int .i64 p1, .slice A5 p2.length c5] 31 (0, 0))
    have hB := laws_FnExactNextEpoch.BS.new S5.out HB_4.out.size p1
    obtain ⟨b5, hb5⟩ : ∃ b5, b5 = w5.heap.size := ⟨_, rfl⟩
    have hG1 := impl_NextEpoch.held G1_5.out hm
    have hB4 := B4_5.out.below hm
    have hHB := below_step HB_5.out hm
    clear hm
    rw [← hb5] at hB ⊢
    generalize (w5.alloc (.cells #[.int .i64 p1, .slice A5 p2.length c5] 31 (0, 0))) = w6 at hB hHB hG1 hB4 ⊢
    have G1_6 := Aside0.mk hG1
    have B4_6 := Aside0.mk hB4
    have B5_6 := Aside0.mk hB
    have HB_6 := Aside0.mk hHB
    have HN5 := Aside0.mk hb5
    clear hB hHB hb5 hG1 hB4
    have y50 := B5_6.out.c0
    have y51 := B5_6.out.c1
    go_upto_region 8 with (go_at_call 25; refine (impl_NextEpoch.calls k p1 _ _ p2 b1 b2 _ ?s1 ?s2 HBB.out).mono ?_; (case s1 => exact (Kd.S_reads' B5_6.out.s).2.2); (case s2 => exact (Kd.S_reads' B5_6.out.s).2.1); rintro e w7 ⟨v7, rfl, hS, hb⟩; obtain ⟨A7, c7, rfl⟩ := Kd.S_slice hS; have S7 := Aside0.mk hS; have HZ7 := Aside0.mk hb.size; clear hS; have G1_7 := Aside0.mk (impl_NextEpoch.held G1_6.out hb); have B4_7 := Aside0.mk (B4_6.out.below hb); have B5_7 := Aside0.mk (B5_6.out.below hb); have HB_7 := Aside0.mk (below_step HB_6.out hb); clear hb)
    clear y50 y51
    have hm := below_alloc (Below.refl w7.heap.size w7) (.cells #[.int .i64 b1, .slice A7 b2.length c7] 31 (0, 0))
    have hB := laws_FnExactNextEpoch.BS.new S7.out HB_6.out.size b1
    obtain ⟨b6, hb6⟩ : ∃ b6, b6 = w7.heap.size := ⟨_, rfl⟩
    have hG1 := impl_NextEpoch.held G1_7.out hm
    have hB4 := B4_7.out.below hm
    have hB5 := B5_7.out.below hm
    have hHB := below_step HB_7.out hm
    clear hm
    rw [← hb6] at hB ⊢
    generalize (w7.alloc (.cells #[.int .i64 b1, .slice A7 b2.length c7] 31 (0, 0))) = w8 at hB hHB hG1 hB4 hB5 ⊢
    have G1_8 := Aside0.mk hG1
    have B4_8 := Aside0.mk hB4
    have B5_8 := Aside0.mk hB5
    have B6_8 := Aside0.mk hB
    have HB_8 := Aside0.mk hHB
    have HN6 := Aside0.mk hb6
    clear hB hHB hb6 hG1 hB4 hB5
    have HO := Aside0.mk (show w.heap.size < w4.heap.size ∧ b4 < w4.heap.size ∧ b5 < w6.heap.size ∧ w6.heap.size ≤ b6 ∧ w4.heap.size ≤ b5 from ⟨blk_lt G1_4.out, blk_lt B4_4.out.g, blk_lt B5_6.out.g, by rw [HN6.out]; exact HZ7.out, by rw [HN5.out]; exact HZ5.out⟩)
    have y60 := B6_8.out.c0
    have y61 := B6_8.out.c1
    have y40 := B4_8.out.c0
    have y41 := B4_8.out.c1
    go_upto_region 10 with (go_at_call 19; refine (laws_eqLedger.calls k b1 _ _ b2 a1 _ _ a2 true _ ?s1 ?s2 ?s3 ?s4 HQ1.out).mono ?_; (case s1 => exact (Kd.S_reads' B6_8.out.s).2.2); (case s2 => exact (Kd.S_reads' B6_8.out.s).2.1); (case s3 => exact (Kd.S_reads' B4_8.out.s).2.2); (case s4 => exact (Kd.S_reads' B4_8.out.s).2.1); rintro e w9 ⟨rfl, hb⟩; have G1_9 := Aside0.mk (impl_NextEpoch.held G1_8.out hb); have B4_9 := Aside0.mk (B4_8.out.below hb); have B5_9 := Aside0.mk (B5_8.out.below hb); have B6_9 := Aside0.mk (B6_8.out.below hb); have HB_9 := Aside0.mk (below_step HB_8.out hb); clear hb)
    clear y60 y61 y40 y41
    have y50 := B5_9.out.c0
    have y51 := B5_9.out.c1
    have y10 : w9.cell? ⟨w.heap.size, 0, none⟩ = some (.int .i64 a0_0) := (blk_cell G1_9.out 0).trans rfl
    have y11 : w9.cell? ⟨w.heap.size, 1, none⟩ = some (.slice A0_1 l0_1.length c0_1) := (blk_cell G1_9.out 1).trans rfl
    go_wp2_with fail
    have hd := below_drew (Below.refl w9.heap.size w9)
    have G1_d := Aside0.mk (impl_NextEpoch.held G1_9.out hd)
    have B4_d := Aside0.mk (B4_9.out.below hd)
    have B5_d := Aside0.mk (B5_9.out.below hd)
    have B6_d := Aside0.mk (B6_9.out.below hd)
    have HB_d := Aside0.mk (below_step HB_9.out hd)
    clear hd
    go_region_held3 (fun w' => w'.cell? ⟨b5, 0, none⟩ = some (.int .i64 p1) ∧ w'.cell? ⟨b5, 1, none⟩ = some (.slice A5 p2.length c5) ∧ w'.cell? ⟨w.heap.size, 0, none⟩ = some (.int .i64 a0_0) ∧ w'.cell? ⟨w.heap.size, 1, none⟩ = some (.slice A0_1 l0_1.length c0_1)) (first | go_keep | exact ⟨y50, y51, y10, y11⟩) (first | (go_at_call 16; refine (laws_toLedger.calls k a0_0 _ _ l0_1 p1 p2 _ ?s1 ?s2 HP.out).mono ?_; (case s1 => exact Kd.C_below HR.out HB_d.out); (case s2 => exact HC.out); rintro e w10 ⟨v10, rfl, hS, hb⟩; obtain ⟨A10, c10, rfl⟩ := Kd.S_slice hS; have S10 := Aside0.mk hS; have HZ10 := Aside0.mk hb.size; clear hS; have G1_10 := Aside0.mk (impl_NextEpoch.held G1_d.out hb); have B4_10 := Aside0.mk (B4_d.out.below hb); have B5_10 := Aside0.mk (B5_d.out.below hb); have B6_10 := Aside0.mk (B6_d.out.below hb); have HB_10 := Aside0.mk (below_step HB_d.out hb); clear hb; clear y50 y51 y10 y11; have y50 := B5_10.out.c0; have y51 := B5_10.out.c1; have y10 : w10.cell? ⟨w.heap.size, 0, none⟩ = some (.int .i64 a0_0) := (blk_cell G1_10.out 0).trans rfl; have y11 : w10.cell? ⟨w.heap.size, 1, none⟩ = some (.slice A0_1 l0_1.length c0_1) := (blk_cell G1_10.out 1).trans rfl) | (go_at_call 19; refine (laws_eqLedger.calls k p1 _ _ p2 p1 _ _ p2 true _ ?s1 ?s2 ?s3 ?s4 HQ2.out).mono ?_; (case s1 => exact (Kd.S_reads' B5_10.out.s).2.2); (case s2 => exact (Kd.S_reads' B5_10.out.s).2.1); (case s3 => exact (Kd.S_reads' S10.out).2.2); (case s4 => exact (Kd.S_reads' S10.out).2.1); rintro e w11 ⟨rfl, hb⟩; have G1_11 := Aside0.mk (impl_NextEpoch.held G1_10.out hb); have B4_11 := Aside0.mk (B4_10.out.below hb); have B5_11 := Aside0.mk (B5_10.out.below hb); have B6_11 := Aside0.mk (B6_10.out.below hb); have HB_11 := Aside0.mk (below_step HB_10.out hb); clear hb; clear y50 y51 y10 y11; have y50 := B5_11.out.c0; have y51 := B5_11.out.c1; have y10 : w11.cell? ⟨w.heap.size, 0, none⟩ = some (.int .i64 a0_0) := (blk_cell G1_11.out 0).trans rfl; have y11 : w11.cell? ⟨w.heap.size, 1, none⟩ = some (.slice A0_1 l0_1.length c0_1) := (blk_cell G1_11.out 1).trans rfl))
    clear y50 y51 y10 y11
    have y50 := B5_11.out.c0
    have y51 := B5_11.out.c1
    go_upto_region 14 with (go_at_call 20; refine (laws_markLedger.calls k (fun k_ => w4.heap.size ≤ k_ ∧ k_ < b5) _ p1 p2 1 mx x' w _ HB_11.out B5_11.out.s HMX.out).mono ?_; rintro e w12 ⟨rfl, hs, hb, hk⟩; have G1_12 := Aside0.mk (blk_kept G1_11.out hk (fun (hM : w4.heap.size ≤ w.heap.size ∧ w.heap.size < b5) => by have := HO.out; omega)); have B4_12 := Aside0.mk (B4_11.out.kept hk (fun (hM : w4.heap.size ≤ b4 ∧ b4 < b5) => by have := HO.out; omega) (fun k_ (hM : w4.heap.size ≤ k_ ∧ k_ < b5) => .inr (by have := HO.out; omega))); have B6_12 := Aside0.mk (B6_11.out.kept hk (fun (hM : w4.heap.size ≤ b6 ∧ b6 < b5) => by have := HO.out; omega) (fun k_ (hM : w4.heap.size ≤ k_ ∧ k_ < b5) => .inl (by have := HO.out; omega))); have HB_12 := Aside0.mk hb; have HS_12 := Aside0.mk hs; have HK_12 := Aside0.mk hk; clear hs hb hk)
    clear y50 y51
    have y60 := B6_12.out.c0
    have y61 := B6_12.out.c1
    have y40 := B4_12.out.c0
    have y41 := B4_12.out.c1
    go_upto_region 16 with (go_at_call 19; refine (laws_eqLedger.calls k b1 _ _ b2 a1 _ _ a2 true _ ?s1 ?s2 ?s3 ?s4 HQ1.out).mono ?_; (case s1 => exact (Kd.S_reads' B6_12.out.s).2.2); (case s2 => exact (Kd.S_reads' B6_12.out.s).2.1); (case s3 => exact (Kd.S_reads' B4_12.out.s).2.2); (case s4 => exact (Kd.S_reads' B4_12.out.s).2.1); rintro e w13 ⟨rfl, hb⟩; have G1_13 := Aside0.mk (impl_NextEpoch.held G1_12.out hb); have B4_13 := Aside0.mk (B4_12.out.below hb); have B6_13 := Aside0.mk (B6_12.out.below hb); have HB_13 := Aside0.mk (below_step HB_12.out hb); clear hb)
    clear y60 y61 y40 y41
    have y60 := B6_13.out.c0
    have y61 := B6_13.out.c1
    go_upto_region 18 with (go_at_call 20; refine (laws_markLedger.calls k (fun k_ => w6.heap.size ≤ k_ ∧ k_ < b6) _ b1 b2 1 hq g' w _ HB_13.out B6_13.out.s HMG.out).mono ?_; rintro e w14 ⟨rfl, hs, hb, hk⟩; have G1_14 := Aside0.mk (blk_kept G1_13.out hk (fun (hM : w6.heap.size ≤ w.heap.size ∧ w.heap.size < b6) => by have := HO.out; omega)); have B4_14 := Aside0.mk (B4_13.out.kept hk (fun (hM : w6.heap.size ≤ b4 ∧ b4 < b6) => by have := HO.out; omega) (fun k_ (hM : w6.heap.size ≤ k_ ∧ k_ < b6) => .inr (by have := HO.out; omega))); have HB_14 := Aside0.mk hb; have HS_14 := Aside0.mk hs; have HK_14 := Aside0.mk hk; clear hs hb hk)
    clear y60 y61
    have B6_14 := Aside0.mk (laws_FnExactNextEpoch.BS.mk (blk_kept B6_13.out.g HK_14.out (fun (hM : w6.heap.size ≤ b6 ∧ b6 < b6) => by omega)) HS_14.out)
    have e6 : b2.length = g'.length := by have h1 := Kd.S_reads' HS_14.out; exact h1.1
    have y60 := B6_14.out.c0
    have y61 := B6_14.out.c1
    rw [e6] at y61
    have B6b := B6_14.out; rw [e6] at B6b; replace B6_14 := Aside0.mk B6b; clear B6b
    have HE6 := Aside0.mk e6; clear e6
    go_upto_region 24 with (go_at_call 21; refine (laws_heldLedger.calls k b1 _ _ g' 1 hq _ ?s1 ?s2 HHQ.out).mono ?_; (case s1 => exact (Kd.S_reads' B6_14.out.s).2.2); (case s2 => exact (Kd.S_reads' B6_14.out.s).2.1); rintro e w15 ⟨rfl, hb⟩; have G1_15 := Aside0.mk (impl_NextEpoch.held G1_14.out hb); have B4_15 := Aside0.mk (B4_14.out.below hb); have B6_15 := Aside0.mk (B6_14.out.below hb); have HB_15 := Aside0.mk (below_step HB_14.out hb); clear hb)
    clear y60 y61
    have y10 : w15.cell? ⟨w.heap.size, 0, none⟩ = some (.int .i64 a0_0) := (blk_cell G1_15.out 0).trans rfl
    have y11 : w15.cell? ⟨w.heap.size, 1, none⟩ = some (.slice A0_1 l0_1.length c0_1) := (blk_cell G1_15.out 1).trans rfl
    go_upto_region 25 with (first | (go_at_call 16; refine (laws_toLedger.calls k a0_0 _ _ l0_1 p1 p2 _ ?s1 ?s2 HP.out).mono ?_; (case s1 => exact Kd.C_below HR.out HB_15.out); (case s2 => exact HC.out); rintro e w16 ⟨v16, rfl, hS, hb⟩; obtain ⟨A16, c16, rfl⟩ := Kd.S_slice hS; have S16 := Aside0.mk hS; have HZ16 := Aside0.mk hb.size; clear hS; have G1_16 := Aside0.mk (impl_NextEpoch.held G1_15.out hb); have B4_16 := Aside0.mk (B4_15.out.below hb); have B6_16 := Aside0.mk (B6_15.out.below hb); have HB_16 := Aside0.mk (below_step HB_15.out hb); clear hb) | (go_at_call 25; refine (impl_NextEpoch.calls k p1 _ _ p2 b1 b2 _ ?s1 ?s2 HBB.out).mono ?_; (case s1 => exact (Kd.S_reads' S16.out).2.2); (case s2 => exact (Kd.S_reads' S16.out).2.1); rintro e w17 ⟨v17, rfl, hS, hb⟩; obtain ⟨A17, c17, rfl⟩ := Kd.S_slice hS; have S17 := Aside0.mk hS; have HZ17 := Aside0.mk hb.size; clear hS; have G1_17 := Aside0.mk (impl_NextEpoch.held G1_16.out hb); have B4_17 := Aside0.mk (B4_16.out.below hb); have B6_17 := Aside0.mk (B6_16.out.below hb); have HB_17 := Aside0.mk (below_step HB_16.out hb); clear hb))
    clear y10 y11
    have hm := below_alloc (Below.refl w17.heap.size w17) (.cells #[.int .i64 b1, .slice A17 b2.length c17] 31 (0, 0))
    have hB := laws_FnExactNextEpoch.BS.new S17.out HB_16.out.size b1
    obtain ⟨b10, hb10⟩ : ∃ b10, b10 = w17.heap.size := ⟨_, rfl⟩
    have hG1 := impl_NextEpoch.held G1_17.out hm
    have hB4 := B4_17.out.below hm
    have hB6 := B6_17.out.below hm
    have hHB := below_step HB_17.out hm
    clear hm
    rw [← hb10] at hB ⊢
    generalize (w17.alloc (.cells #[.int .i64 b1, .slice A17 b2.length c17] 31 (0, 0))) = w18 at hB hHB hG1 hB4 hB6 ⊢
    have G1_18 := Aside0.mk hG1
    have B4_18 := Aside0.mk hB4
    have B6_18 := Aside0.mk hB6
    have B10_18 := Aside0.mk hB
    have HB_18 := Aside0.mk hHB
    have HN10 := Aside0.mk hb10
    clear hB hHB hb10 hG1 hB4 hB6
    have y100 := B10_18.out.c0
    have y101 := B10_18.out.c1
    have y40 := B4_18.out.c0
    have y41 := B4_18.out.c1
    go_upto_region 28 with (go_at_call 19; refine (laws_eqLedger.calls k b1 _ _ b2 a1 _ _ a2 true _ ?s1 ?s2 ?s3 ?s4 HQ1.out).mono ?_; (case s1 => exact (Kd.S_reads' B10_18.out.s).2.2); (case s2 => exact (Kd.S_reads' B10_18.out.s).2.1); (case s3 => exact (Kd.S_reads' B4_18.out.s).2.2); (case s4 => exact (Kd.S_reads' B4_18.out.s).2.1); rintro e w19 ⟨rfl, hb⟩; have G1_19 := Aside0.mk (impl_NextEpoch.held G1_18.out hb); have B4_19 := Aside0.mk (B4_18.out.below hb); have B6_19 := Aside0.mk (B6_18.out.below hb); have B10_19 := Aside0.mk (B10_18.out.below hb); have HB_19 := Aside0.mk (below_step HB_18.out hb); clear hb)
    clear y100 y101 y40 y41
    have y60 := B6_19.out.c0
    have y61 := B6_19.out.c1
    go_wp2_with (go_at_call 21; refine (laws_heldLedger.calls k b1 _ _ g' 1 hq _ ?s1 ?s2 HHQ.out).mono ?_; (case s1 => exact (Kd.S_reads' B6_19.out.s).2.2); (case s2 => exact (Kd.S_reads' B6_19.out.s).2.1); rintro e w20 ⟨rfl, hb⟩; have G1_20 := Aside0.mk (impl_NextEpoch.held G1_19.out hb); have B4_20 := Aside0.mk (B4_19.out.below hb); have B6_20 := Aside0.mk (B6_19.out.below hb); have B10_20 := Aside0.mk (B10_19.out.below hb); have HB_20 := Aside0.mk (below_step HB_19.out hb); clear hb)
    go_ret
    exact ⟨rfl, HB_20.out⟩

end Go.Proofs.Ytcbpfofkdipjhaa.PG
