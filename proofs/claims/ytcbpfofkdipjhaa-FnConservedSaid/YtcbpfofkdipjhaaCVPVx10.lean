/- The machine's side of Go functions: each as a plain function,and that the call does what it says. Written by a program (wip/mprint). -/
import Derived.Test.YtcbpfofkdipjhaaCVPVx0
import Derived.Test.YtcbpfofkdipjhaaCVPVx7
import Derived.Test.YtcbpfofkdipjhaaCVPVx9
namespace Go.Proofs.Ytcbpfofkdipjhaa.PV
open Go.RowKit Go.Proofs.YtcbpfofkdipjhaaW.PrintWords Go.Proofs.YtcbpfofkdipjhaaW.PrintLast Go.Proofs.YtcbpfofkdipjhaaW.PrintMore
attribute [local wf_preprocess] Act.put List.setIfInBounds_toArray List.set_cons_zero List.set_cons_succ i64_w i32_w
set_option maxHeartbeats 8000000
set_option maxRecDepth 100000
attribute [local go_sem] max2_int min2_int max_two min_two max_three min_three max_four min_four   -- for this text's walks alone
set_option linter.unusedVariables false
set_option linter.unusedSimpArgs false

/-! ### spec_LedgerOk: function 47 -/
def spec_LedgerOk.f (k : Nat) (a0_0 : Int) (l0_1 : List (S63)) : Option (Bool) := (spec_l1In.f a0_0 0 900).bind fun t259 => (if t259 = true then ((spec_AcctsOk.f k l0_1).bind fun t260 => (some t260)) else (some false))
theorem spec_LedgerOk.calls (k : Nat) (a0_0 : Int) (A0_1 : Option Addr) (c0_1 : Nat) (l0_1 : List (S63)) (r : Bool) (w : World) (hr0_1 : Kd.C k63 w A0_1 l0_1.length l0_1) (hc0_1 : l0_1.length ≤ c0_1) (h : spec_LedgerOk.f k a0_0 l0_1 = some r) :
  Calls Try.prog 47 #[.agg #[.int .i64 a0_0,.slice A0_1 l0_1.length c0_1]] w fun e w' => e = .returned (.bool r) ∧ Below w.heap.size w w' := by
 have hu31 := Try.underlying31;have HR0_1 := Aside0.mk hr0_1;have HC0_1 := Aside0.mk hc0_1;clear hr0_1 hc0_1;have HB := Aside0.mk (Below.refl w.heap.size w);have H : ((spec_l1In.f a0_0 0 900).bind fun t259 => (if t259 = true then ((spec_AcctsOk.f k l0_1).bind fun t260 => (some t260)) else (some false))) = some r := h;clear h;replace H := Option.bind_eq_some_iff.mp H;obtain ⟨t259,A20,H⟩ := H;replace H : (if t259 = true then ((spec_AcctsOk.f k l0_1).bind fun t260 => (some t260)) else (some false)) = some r := H;have A2 := Aside0.mk A20;clear A20
 by_cases c3 : t259 = true
 ·subst c3
  rw [if_pos rfl] at H
  replace H := Option.bind_eq_some_iff.mp H;obtain ⟨t260,A40,H⟩ := H;replace H : (some t260) = some r := H;have A4 := Aside0.mk A40;clear A40;obtain rfl := Option.some.inj H;go_enter Try.func47,Try.ntmps47
  go_wp2_with (first | ((with_reducible refine gate_dst (N := 1) rfl ?_); refine box_event (by rfl) (N := 1) (by rfl) (cs := #[.int .i64 a0_0,.slice A0_1 l0_1.length c0_1]) (t := 31) (by go_simp; done) ?_; intro gb258 hg w5 hbox hb; have BK258 := Aside0.mk hbox; have GW258 := gsz HB hg; have GE258 := GW258; replace HB := bst HB hb; clear hb hbox hg; obtain ⟨⟨hcz6_0,hcz6_1⟩,hfz6_0,hfz6_1⟩ := bc2 BK258.out) | ((with_reducible refine gate_callee (f := 91) rfl ?_); refine goesL_ (some 5) rfl rfl Try.func91 (by kernel_rfl) rfl #[.int .i64 a0_0,.int .i64 0,.int .i64 900] rfl (by (try simp only [List.map_toArray,List.map_cons,List.map_nil]); rfl) ?_; (with_reducible refine (spec_l1In.calls a0_0 0 900 true _ A2.out).mono ?_); rintro e w' ⟨rfl,⟨nd,rfl⟩⟩; refine ⟨_,rfl,?_⟩) | (go_at_call 89; (with_reducible refine (spec_AcctsOk.calls k _ _ l0_1 t260 _ ?side1 ?side2 A4.out).mono ?_); (case side1 => repeat (exact (Kd.C_below HR0_1.out (by repeat (with_reducible first | exact HB.out | apply pw_below_drewN))))); (case side2 => exact HC0_1.out); rintro e w7 ⟨rfl,hb⟩; replace BK258 := Aside0.mk (blk_below (g := gb258) (o := .cells #[.int .i64 a0_0,.slice A0_1 l0_1.length c0_1] 31 (0,0)) (by (with_reducible repeat (refine blk_drewN ?_ _)); exact BK258.out) hb); replace HB := Aside0.mk (below_step (by repeat (with_reducible first | exact HB.out | apply pw_below_drewN)) hb); (try clear hb); skip))
  go_ret;exact ⟨by rfl,HB.out⟩
 ·replace c3 := Bool.eq_false_iff.mpr c3;subst c3
  rw [if_neg (show ¬ (false = true) by decide)] at H
  obtain rfl := Option.some.inj H;go_enter Try.func47,Try.ntmps47
  go_wp2_with (first | ((with_reducible refine gate_dst (N := 1) rfl ?_); refine box_event (by rfl) (N := 1) (by rfl) (cs := #[.int .i64 a0_0,.slice A0_1 l0_1.length c0_1]) (t := 31) (by go_simp; done) ?_; intro gb258 hg w8 hbox hb; have BK258 := Aside0.mk hbox; have GW258 := gsz HB hg; have GE258 := GW258; replace HB := bst HB hb; clear hb hbox hg; obtain ⟨⟨hcz9_0,hcz9_1⟩,hfz9_0,hfz9_1⟩ := bc2 BK258.out) | ((with_reducible refine gate_callee (f := 91) rfl ?_); refine goesL_ (some 5) rfl rfl Try.func91 (by kernel_rfl) rfl #[.int .i64 a0_0,.int .i64 0,.int .i64 900] rfl (by (try simp only [List.map_toArray,List.map_cons,List.map_nil]); rfl) ?_; (with_reducible refine (spec_l1In.calls a0_0 0 900 false _ A2.out).mono ?_); rintro e w' ⟨rfl,⟨nd,rfl⟩⟩; refine ⟨_,rfl,?_⟩))
  go_ret;exact ⟨by rfl,by repeat (with_reducible first | exact HB.out | apply pw_below_drewN)⟩

/-! ### spec_l4Copy: function 92 -/
def spec_l4Copy.l0 : Nat → List (S63) → List (S63) → Int → Option (List (S63))
 | 0,_,_,_ => none
 | k + 1,x0,x3,x4 => if x4 < (x0.length : Int) then (if 0 ≤ x4 then ((some (([] : List (S65)) : List (S65))).bind fun y266 => (if y266.length + ((rd_T63 x0 x4).f4).length < 8796093022208 then (if x3.length < 2199023255552 then (spec_l4Copy.l0 k x0 (x3 ++ [(⟨(rd_T63 x0 x4).f0,(rd_T63 x0 x4).f1,(rd_T63 x0 x4).f2,(rd_T63 x0 x4).f3,(y266 ++ ((rd_T63 x0 x4).f4))⟩ : S63)]) (wrap64 (x4 + 1))) else (none)) else (none))) else (none)) else (some x3)
def spec_l4Copy.f (k : Nat) (l0 : List (S63)) : Option (List (S63)) := spec_l4Copy.l0 k l0 ([] : List (S63)) 0
theorem spec_l4Copy.calls (k : Nat) (A0 : Option Addr) (c0 : Nat) (l0 : List (S63)) (r : List (S63)) (w : World) (hr0 : Kd.C k63 w A0 l0.length l0) (hc0 : l0.length ≤ c0) (h : spec_l4Copy.f k l0 = some r) :
  Calls Try.prog 92 #[.slice A0 l0.length c0] w fun e w' => ∃ v0_ : Value,e = .returned (v0_) ∧ Kd.S k63 63 w' w.heap.size (fun _ => True) v0_ r ∧ Below w.heap.size w w' := by
 have hu63 := Try.underlying63;have HR0 := Aside0.mk hr0;have HC0 := Aside0.mk hc0;clear hr0 hc0;have HB := Aside0.mk (Below.refl w.heap.size w);have H : (spec_l4Copy.l0 k l0 ([] : List (S63)) 0) = some r := h;clear h;obtain ⟨y261,hy261⟩ : ∃ y_ : List (S63),y_ = ([] : List (S63)) := ⟨_,rfl⟩
 replace H : (spec_l4Copy.l0 k l0 y261 0) = some r := by (rw [hy261]; with_reducible exact H)
 have Ny261 := Aside0.mk hy261;clear hy261;have H' := Aside0.mk H;clear H;go_enter Try.func92,Try.ntmps92
 go_wp2_with (((with_reducible refine gate_dst (N := 6) rfl ?_); refine Kd.S_lit k63 _ 63 ?hg (N := 6) ?hd (xs := ([] : List (S63))) (inner := []) (ok := fun _ => True) (okp := fun _ => True) ?hr ?hp (fun _ hk => hk) trivial (Below.refl _ _) (Nat.le_refl _) (by simp) ?_; (case hd => rfl); (case hg => rfl); (case hr => (go_simp; done)); (case hp => exact (Reps.none _ _)); intro v262 w2 ho3 hb hg_ hnew_; clear hg_ hnew_; (rw [← Ny261.out] at ho3); have HO263 := Aside0.mk (Kd.S_lower ho3 (below_size HB.out)); replace HB := bst HB hb; clear hb ho3))
 go_loopg [3,4] k (fun kq v3 v4 w' => ∃ (x3_1 : List (S63)) (x4_1 : Int),v4 = .int .i64 x4_1 ∧ Aside0 (spec_l4Copy.l0 kq l0 x3_1 x4_1 = some r) ∧ Aside0 (kq ≤ k) ∧ Aside0 (Kd.S k63 63 w' w.heap.size (fun _ => True) v3 x3_1) ∧ Aside0 (Below w.heap.size w w'))
 case atStart => exact ⟨(y261),(0),(by rfl),H',⟨Nat.le_refl _⟩,⟨by exact HO263.out⟩,⟨HB.out⟩⟩
 case round =>
  clear H'
  try clear p2
  obtain ⟨x3_1,x4_1,rfl,HA,HK1,HO_3,HB⟩ := hrel
  cases gk with
  | zero => exact absurd HA.out (by simp [spec_l4Copy.l0])
  | succ k1 =>
   have H := HA.out;clear HA;simp only [spec_l4Copy.l0] at H
   by_cases c4 : x4_1 < (l0.length : Int)
   ·rw [if_pos c4] at H;have c4b0 := decide_eq_true c4;clear c4
    by_cases c5 : 0 ≤ x4_1
    ·rw [if_pos c5] at H;have c5b0 := decide_eq_true c5;clear c5;obtain ⟨y266,hy266⟩ : ∃ y_ : List (S65),y_ = ([] : List (S65)) := ⟨_,rfl⟩
     replace H : (if y266.length + ((rd_T63 l0 x4_1).f4).length < 8796093022208 then (if x3_1.length < 2199023255552 then (spec_l4Copy.l0 k1 l0 (x3_1 ++ [(⟨(rd_T63 l0 x4_1).f0,(rd_T63 l0 x4_1).f1,(rd_T63 l0 x4_1).f2,(rd_T63 l0 x4_1).f3,(y266 ++ ((rd_T63 l0 x4_1).f4))⟩ : S63)]) (wrap64 (x4_1 + 1))) else (none)) else (none)) = some r := by (have H2_ := (Option.bind_some _ _).symm.trans H; rw [hy266]; with_reducible exact H2_)
     have Ny266 := Aside0.mk hy266;clear hy266
     by_cases c6 : y266.length + ((rd_T63 l0 x4_1).f4).length < 8796093022208
     ·rw [if_pos c6] at H;have LMc6 := Aside0.mk c6;clear c6;obtain ⟨y269,hy269⟩ : ∃ y_ : List (S65),y_ = (y266 ++ ((rd_T63 l0 x4_1).f4)) := ⟨_,rfl⟩
      replace H : (if x3_1.length < 2199023255552 then (spec_l4Copy.l0 k1 l0 (x3_1 ++ [(⟨(rd_T63 l0 x4_1).f0,(rd_T63 l0 x4_1).f1,(rd_T63 l0 x4_1).f2,(rd_T63 l0 x4_1).f3,y269⟩ : S63)]) (wrap64 (x4_1 + 1))) else (none)) = some r := by (rw [hy269]; with_reducible exact H)
      have Ny269 := Aside0.mk hy269;clear hy269
      by_cases c7 : x3_1.length < 2199023255552
      ·rw [if_pos c7] at H;have LMc7 := Aside0.mk c7;clear c7;obtain ⟨y272,hy272⟩ : ∃ y_ : List (S63),y_ = (x3_1 ++ [(⟨(rd_T63 l0 x4_1).f0,(rd_T63 l0 x4_1).f1,(rd_T63 l0 x4_1).f2,(rd_T63 l0 x4_1).f3,y269⟩ : S63)]) := ⟨_,rfl⟩
       replace H : (spec_l4Copy.l0 k1 l0 y272 (wrap64 (x4_1 + 1))) = some r := by (rw [hy272]; with_reducible exact H)
       have Ny272 := Aside0.mk hy272;clear hy272;have H' := Aside0.mk H;clear H;have p264 : 0 ≤ (x4_1 : Int) := odt (by with_reducible assumption);have q264 : x4_1 < (l0.length : Int) := odt (by with_reducible assumption);obtain ⟨ad264,A264_4,c264_4,e264,hx264_0,hx264_1,hx264_2,hx264_3,hx264_4,hl264_4,hi264_4⟩ := at_T63 HR0.out x4_1 p264 q264
       cases e264
       replace ⟨hx264_0,hx264_1,hx264_2,hx264_3,hx264_4⟩ := up5 HB.out hx264_0 hx264_1 hx264_2 hx264_3 hx264_4;have HR264_4 := Aside0.mk hi264_4;have HC264_4 := Aside0.mk hl264_4;clear hi264_4 hl264_4;replace p264 := eq_true p264;replace q264 := eq_true q264
       go_wp2_with (first | ((with_reducible refine gate_dst (N := 5) rfl ?_); refine box_event (by rfl) (N := 5) (by rfl) (cs := #[.string (⟨#[]⟩ : ByteArray),.int .i64 0,.int .i64 0,.int .i64 0,.slice none 0 0]) (t := 63) (by go_simp; done) ?_; intro gb265 hg w8 hbox hb; replace HO_3 := Aside0.mk (Kd.S_below (Kd.S_elderB (by exact HO_3.out) gb265 (Nat.le_of_eq hg.symm)) hb); have BK265 := Aside0.mk hbox; have GW265 := gsz HB hg; have GE265 := GW265; replace HB := bst HB hb; clear hb hbox hg; obtain ⟨⟨hcz9_0,hcz9_1,hcz9_2,hcz9_3,hcz9_4⟩,hfz9_0,hfz9_1,hfz9_2,hfz9_3,hfz9_4⟩ := bc5 BK265.out) | ((with_reducible refine gate_dst (N := 17) rfl ?_); refine Kd.R_lit k65 _ 65 ?hg (N := 17) ?hd (xs := ([] : List (S65))) (inner := []) (ok := fun _ => True) (okp := fun _ => True) ?hr ?hp (fun _ hk => hk) trivial (Below.refl _ _) (Nat.le_refl _) (by simp) ?_; (case hd => rfl); (case hg => rfl); (case hr => (go_simp; done)); (case hp => exact (Reps.none _ _)); intro v267 w10 ho11 hb hg_ hnew_; clear hg_ hnew_; (rw [← Ny266.out] at ho11); replace HO_3 := Aside0.mk (Kd.S_elder' (by exact (Kd.S_mono (Kd.S_far (p := ⟨gb265,4,none⟩) (Kd.S_far (p := ⟨gb265,3,none⟩) (Kd.S_far (p := ⟨gb265,2,none⟩) (Kd.S_far (p := ⟨gb265,1,none⟩) (Kd.S_far (p := ⟨gb265,0,none⟩) (Kd.S_mono HO_3.out (fun k_ hk => (⟨hk,hk.2⟩ : _ ∧ k_ ≠ gb265))) (fun _ hk => hk.2) (.string ((rd_T63 l0 x4_1).f0))) (fun _ hk => hk.2) (.int .i64 ((rd_T63 l0 x4_1).f1))) (fun _ hk => hk.2) (.int .i64 ((rd_T63 l0 x4_1).f2))) (fun _ hk => hk.2) (.int .i64 ((rd_T63 l0 x4_1).f3))) (fun _ hk => hk.2) (.slice A264_4 ((rd_T63 l0 x4_1).f4).length c264_4)) (fun _ h_ => h_.1))) (Kd.R_base ho11) hb); have HO268 := Aside0.mk (Kd.R_lower ho11 (below_size (by repeat (with_reducible first | exact HB.out | refine below_set ?_ GE265.out)))); replace BK265 := Aside0.mk (blk_below (g := gb265) (o := .cells #[.string ((rd_T63 l0 x4_1).f0),.int .i64 ((rd_T63 l0 x4_1).f1),.int .i64 ((rd_T63 l0 x4_1).f2),.int .i64 ((rd_T63 l0 x4_1).f3),.slice A264_4 ((rd_T63 l0 x4_1).f4).length c264_4] 63 (0,0)) (by refine blk_put (cs := #[.string ((rd_T63 l0 x4_1).f0),.int .i64 ((rd_T63 l0 x4_1).f1),.int .i64 ((rd_T63 l0 x4_1).f2),.int .i64 ((rd_T63 l0 x4_1).f3),.slice none 0 0]) ?_ 4 _ rfl; refine blk_put (cs := #[.string ((rd_T63 l0 x4_1).f0),.int .i64 ((rd_T63 l0 x4_1).f1),.int .i64 ((rd_T63 l0 x4_1).f2),.int .i64 0,.slice none 0 0]) ?_ 3 _ rfl; refine blk_put (cs := #[.string ((rd_T63 l0 x4_1).f0),.int .i64 ((rd_T63 l0 x4_1).f1),.int .i64 0,.int .i64 0,.slice none 0 0]) ?_ 2 _ rfl; refine blk_put (cs := #[.string ((rd_T63 l0 x4_1).f0),.int .i64 0,.int .i64 0,.int .i64 0,.slice none 0 0]) ?_ 1 _ rfl; refine blk_put (cs := #[.string (⟨#[]⟩ : ByteArray),.int .i64 0,.int .i64 0,.int .i64 0,.slice none 0 0]) ?_ 0 _ rfl; exact BK265.out) hb); replace HB := Aside0.mk (below_step (by repeat (with_reducible first | exact HB.out | refine below_set ?_ GE265.out)) hb); clear hb ho11; obtain ⟨⟨hcz12_0,hcz12_1,hcz12_2,hcz12_3,hcz12_4⟩,hfz12_0,hfz12_1,hfz12_2,hfz12_3,hfz12_4⟩ := bc5 BK265.out) | ((with_reducible refine gate_builtin (b := .append) (xs := #[.tmp 17,.tmp 19]) rfl ?_); at_builtin; refine Kd.R_append_rows k65 (w0 := w) w.heap.size rfl (.tmp 17) (.tmp 19) 61 65 (.agg #[(.int .i64 0),(.int .i64 0)]) 16 rfl Try.underlying61 info65 rfl (by decide) (by omega) v267 y266 ((rd_T63 l0 x4_1).f4) _ _ _ (fun _ => True) (fun _ => False) rfl rfl ?aO ?aR (fun _ _ h => h) (fun _ h => h.elim) ?aF ?aB ?aS ?aL ?_; (case aR => repeat (exact (Kd.C_below HR264_4.out HB.out))); (case aB => exact HB.out); (case aF => exact (fun _ _ => trivial)); (case aO => exact (by exact HO268.out)); (case aS => exact (below_size HB.out)); (case aL => have := LMc6.out; omega); intro v270 w13 ho hb hg hat; rw [← Ny269.out] at ho; replace HO_3 := Aside0.mk (Kd.S_after (ok := (fun k_ => k_ ≠ gb265)) (by exact Kd.S_mono HO_3.out (fun _ hk => ⟨hk.1.2,hk.2⟩)) hg hat); replace BK265 := Aside0.mk (blk_grown BK265.out hg (Kd.R_ne HO268.out BK265.out (by decide))); replace HB := Aside0.mk (hb); have HO271 := Aside0.mk (ho); clear HO268; clear ho hb hg hat; obtain ⟨Ao14,co14,eo14⟩ := Kd.R_slice HO271.out; subst eo14; obtain ⟨⟨hcz15_0,hcz15_1,hcz15_2,hcz15_3,hcz15_4⟩,hfz15_0,hfz15_1,hfz15_2,hfz15_3,hfz15_4⟩ := bc5 BK265.out) | ((with_reducible refine gate_store (t := 61) (p := 21) rfl ?_); refine store_event (t := 61) (p := 21) (v := ?vo_w16) (w1 := (w13.setCell ⟨gb265,4,none⟩ (.slice Ao14 y269.length co14))) ?hg ?ho ?hn ?hr ?_; (case ho => rfl); (case hg => rfl); (case hn => rfl); (case hr => (go_simp; done)); intro w16 hw; have n0_ : Aside0 (Kd.S k63 63 w16 w.heap.size (fun k_ => some k_ ≠ (.slice Ao14 y269.length co14 : Value).ownBlock ∧ k_ ≠ gb265) u3 x3_1) := ⟨(by rw [hw]; exact (by exact Kd.S_mono (Kd.S_far (p := ⟨gb265,4,none⟩) (Kd.S_mono HO_3.out (fun k_ hk => (⟨hk,hk.1⟩ : _ ∧ k_ ≠ gb265))) (fun _ hk => hk.2) (.slice Ao14 y269.length co14)) (fun _ hk => ⟨hk.1.2,hk.1.1⟩)))⟩; have n1_ : Aside0 (Kd.R k65 65 w16 w.heap.size (fun _ => True) (.slice Ao14 y269.length co14) y269) := ⟨(by rw [hw]; exact (by exact Kd.R_mono (Kd.R_far (p := ⟨gb265,4,none⟩) (Kd.R_types HO271.out BK265.out (by decide)) (fun _ hk => hk.2) (.slice Ao14 y269.length co14)) (fun _ hk => trivial)))⟩; have n2_ : Aside0 (w16.heap[gb265]? = some (.cells #[.string ((rd_T63 l0 x4_1).f0),.int .i64 ((rd_T63 l0 x4_1).f1),.int .i64 ((rd_T63 l0 x4_1).f2),.int .i64 ((rd_T63 l0 x4_1).f3),.slice Ao14 y269.length co14] 63 (0,0))) := ⟨(by rw [hw]; exact (by refine blk_put (cs := #[.string ((rd_T63 l0 x4_1).f0),.int .i64 ((rd_T63 l0 x4_1).f1),.int .i64 ((rd_T63 l0 x4_1).f2),.int .i64 ((rd_T63 l0 x4_1).f3),.slice A264_4 ((rd_T63 l0 x4_1).f4).length c264_4]) ?_ 4 _ rfl; exact BK265.out))⟩; have n3_ : Aside0 (Below w.heap.size w w16) := ⟨(by rw [hw]; exact (by repeat (with_reducible first | exact HB.out | refine below_set ?_ GE265.out)))⟩; clear hw; clear HO_3; clear HO271; clear BK265; clear HB; have HO_3 := n0_; have HO271 := n1_; have BK265 := n2_; have HB := n3_; clear n0_ n1_ n2_ n3_; obtain ⟨⟨hcz17_0,hcz17_1,hcz17_2,hcz17_3,hcz17_4⟩,hfz17_0,hfz17_1,hfz17_2,hfz17_3,hfz17_4⟩ := bc5 BK265.out) | ((with_reducible refine gate_builtin (b := .append) (xs := #[.tmp 22,.tmp 24]) rfl ?_); at_builtin; refine Kd.S_append k63 (w0 := w) w.heap.size rfl (.tmp 22) (.tmp 24) 29 63 (.agg #[(.string ⟨#[]⟩),(.int .i64 0),(.int .i64 0),(.int .i64 0),(.slice none 0 0)]) 64 rfl Try.underlying29 info63 rfl (by decide) (by omega) u3 x3_1 (⟨(rd_T63 l0 x4_1).f0,(rd_T63 l0 x4_1).f1,(rd_T63 l0 x4_1).f2,(rd_T63 l0 x4_1).f3,y269⟩ : S63) [.string ((rd_T63 l0 x4_1).f0),.int .i64 ((rd_T63 l0 x4_1).f1),.int .i64 ((rd_T63 l0 x4_1).f2),.int .i64 ((rd_T63 l0 x4_1).f3),.slice Ao14 y269.length co14] (fun k_ => k_ ≠ gb265) (fun k_ => some k_ = (.slice Ao14 y269.length co14 : Value).ownBlock) rfl rfl ?aP (fun k_ hk_ => (Kd.R_mono (ok' := fun k_ => (fun k_ => k_ ≠ gb265) k_ ∧ some k_ ≠ (u3 : Value).ownBlock) (Kd.R_types (Kd.R_apart' (HO271.out) (Kd.S_typed HO_3.out) (by decide)) BK265.out (by decide)) (fun k_ hk => ⟨hk.2,hk.1.2⟩)).1 k_ hk_.symm) ?aF ?aO ?aB ?aS ?aL ?_; (case aP => exact k63_mkM _ _ _ (⟨(rd_T63 l0 x4_1).f0,(rd_T63 l0 x4_1).f1,(rd_T63 l0 x4_1).f2,(rd_T63 l0 x4_1).f3,y269⟩ : S63) (Kd.R_mono (Kd.R_tight rfl (Kd.R_mono (ok' := fun k_ => (fun k_ => k_ ≠ gb265) k_ ∧ some k_ ≠ (u3 : Value).ownBlock) (Kd.R_types (Kd.R_apart' (HO271.out) (Kd.S_typed HO_3.out) (by decide)) BK265.out (by decide)) (fun k_ hk => ⟨hk.2,hk.1.2⟩))) (fun _ h_ => h_))); (case aB => exact HB.out); (case aF => exact (fun k_ hk => Kd.freshB BK265.out k_ hk)); (case aO => exact (by exact Kd.S_mono HO_3.out (fun k_ hk => ⟨hk.2,fun e_ => hk.1 e_⟩))); (case aS => exact (below_size HB.out)); (case aL => have := LMc7.out; omega); intro v273 w18 ho hb hg hat; rw [← Ny272.out] at ho; replace BK265 := Aside0.mk (blk_grown BK265.out hg (Kd.S_away HO_3.out (fun _ hk => hk.2))); replace HB := Aside0.mk (hb); have HO274 := Aside0.mk (ho); clear HO_3 HO271; clear ho hb hg hat))
       go_roundg k1
       case measure => have := HK1.out; omega
       case rel => exact ⟨(y272),(wrap64 (x4_1 + 1)),(by rfl),H',⟨by have := HK1.out; omega⟩,⟨by exact Kd.S_mono HO274.out (fun _ hk => trivial)⟩,⟨HB.out⟩⟩
      ·rw [if_neg c7] at H;exact absurd H (by simp)
     ·rw [if_neg c6] at H;exact absurd H (by simp)
    ·rw [if_neg c5] at H;exact absurd H (by simp)
   ·rw [if_neg c4] at H;have c4b0 := decide_eq_false c4;clear c4;obtain rfl := Option.some.inj H;go_wp2;go_ret;exact ⟨_,by rfl,by exact HO_3.out,HB.out⟩

/-! ### spec_l6Copy: function 58 -/
def spec_l6Copy.f (k : Nat) (a0_0 : Int) (l0_1 : List (S63)) : Option (Int × (List (S63))) := (spec_l4Copy.f k l0_1).bind fun t277 => (some (a0_0,t277))
theorem spec_l6Copy.calls (k : Nat) (a0_0 : Int) (A0_1 : Option Addr) (c0_1 : Nat) (l0_1 : List (S63)) (r1 : Int) (r2 : List (S63)) (w : World) (hr0_1 : Kd.C k63 w A0_1 l0_1.length l0_1) (hc0_1 : l0_1.length ≤ c0_1) (h : spec_l6Copy.f k a0_0 l0_1 = some (r1,r2)) :
  Calls Try.prog 58 #[.agg #[.int .i64 a0_0,.slice A0_1 l0_1.length c0_1]] w fun e w' => ∃ v1_ : Value,e = .returned (.agg #[.int .i64 r1,v1_]) ∧ Kd.S k63 63 w' w.heap.size (fun _ => True) v1_ r2 ∧ Below w.heap.size w w' := by
 have hu31 := Try.underlying31;have HR0_1 := Aside0.mk hr0_1;have HC0_1 := Aside0.mk hc0_1;clear hr0_1 hc0_1;have HB := Aside0.mk (Below.refl w.heap.size w);have H : ((spec_l4Copy.f k l0_1).bind fun t277 => (some (a0_0,t277))) = some (r1,r2) := h;clear h;replace H := Option.bind_eq_some_iff.mp H;obtain ⟨t277,A20,H⟩ := H;replace H : (some (a0_0,t277)) = some (r1,r2) := H;have A2 := Aside0.mk A20;clear A20;simp only [Option.some.injEq,Prod.mk.injEq] at H;obtain ⟨rfl,rfl⟩ := H;go_enter Try.func58,Try.ntmps58
 try go_wp2_with (first | ((with_reducible refine gate_dst (N := 1) rfl ?_); refine box_event (by rfl) (N := 1) (by rfl) (cs := #[.int .i64 a0_0,.slice A0_1 l0_1.length c0_1]) (t := 31) (by go_simp; done) ?_; intro gb275 hg w3 hbox hb; have BK275 := Aside0.mk hbox; have GW275 := gsz HB hg; have GE275 := GW275; replace HB := bst HB hb; clear hb hbox hg) | ((with_reducible refine gate_dst (N := 2) rfl ?_); refine box_event (by rfl) (N := 2) (by rfl) (cs := #[.int .i64 0,.slice none 0 0]) (t := 31) (by go_simp; done) ?_; intro gb276 hg w4 hbox hb; have BK276 := Aside0.mk hbox; have GW276 := gsz HB hg; have GE276 := GW276; replace HB := bst HB hb; obtain ⟨NB275_276,NB276_275⟩ := nbb BK275 hg; replace BK275 := bkb BK275 hb; clear hb hbox hg))
 replace BK275 := Aside0.mk (blk_drew BK275.out);replace BK276 := Aside0.mk (blk_drew BK276.out);replace HB := Aside0.mk (below_drew1 HB.out);refine start_ (n := 7) (S := fun w' => w'.cell? ⟨gb275,0,none⟩ = some (.int .i64 a0_0) ∧ w'.cell? ⟨gb275,1,none⟩ = some (.slice A0_1 l0_1.length c0_1)) (ds := []) (Array.replicate 7 false) (by kernel_rfl) rfl rfl ⟨(blk_cell BK275.out 0).trans rfl,(blk_cell BK275.out 1).trans rfl⟩ (fun hHeld => ?_)
 generalize w4.drew = w5 at BK275 BK276 HB hHeld ⊢
 refine pure_ (i := 0) (N := some 3) (v := ?_) (a' := ?_) (fl 7 1) rfl rfl (by kernel_rfl) (fun _ _ _ h => h) (Or.inl ⟨by rfl,?_⟩) ?_ ?_;rotate_left
 ·intro w';go_simp;with_reducible rfl
 rotate_left
 ·simp only [wf_preprocess];rfl
 refine pure_ (i := 2) (N := some 5) (v := ?_) (a' := ?_) (fl 7 5) rfl rfl (by kernel_rfl) (fun _ _ _ h => h) (Or.inl ⟨by rfl,?_⟩) ?_ ?_;rotate_left
 ·intro w';go_simp;with_reducible rfl
 rotate_left
 ·simp only [wf_preprocess];rfl
 refine take_ (i := 1) (N := some 4) (v := ?_) (a' := ?_) (fl 7 7) rfl rfl (by kernel_rfl) (fun _ _ _ h => h) (Or.inl ⟨by rfl,?_⟩) hHeld ?_ ?_;rotate_left
 ·rintro w' ⟨s0,s1⟩;go_simp;with_reducible rfl
 rotate_left
 ·simp only [wf_preprocess];rfl
 refine take_ (i := 3) (N := some 6) (v := ?_) (a' := ?_) (fl 7 15) rfl rfl (by kernel_rfl) (fun _ _ _ h => h) (Or.inl ⟨by rfl,?_⟩) hHeld ?_ ?_;rotate_left
 ·rintro w' ⟨s0,s1⟩;go_simp;with_reducible rfl
 rotate_left
 ·simp only [wf_preprocess];rfl
 refine one_ (i := 4) (N := some 7) (fl 7 31) rfl rfl (by kernel_rfl) (by decide) (fun K hK => ?_);refine goes_ Try.func92 (by kernel_rfl) rfl #[.slice A0_1 l0_1.length c0_1] (by rfl) rfl rfl (by (try simp only [List.map_toArray,List.map_cons,List.map_nil]); rfl) ?_
 with_reducible refine (spec_l4Copy.calls k _ _ l0_1 t277 _ ?side1 ?side2 A2.out).mono ?_
 (case side1 => repeat (exact (Kd.C_below HR0_1.out HB.out)))
 (case side2 => exact HC0_1.out)
 rintro e w6 ⟨v278,rfl,ho0,hb⟩;refine ⟨_,rfl,?_⟩;have HO279 := Aside0.mk (Kd.S_lower ho0 (below_size HB.out));replace BK275 := bkb BK275 hb;replace BK276 := bkb BK276 hb;replace HB := bst HB hb
 (try clear hb)
 skip
 skip
 skip
 (try clear ho0)
 obtain ⟨Ao7,co7,eo7⟩ := Kd.S_slice HO279.out
 (subst eo7)
 refine hK.out _ _ ⟨(blk_cell BK275.out 0).trans rfl,(blk_cell BK275.out 1).trans rfl⟩ (fun hHeld => ?_);clear hK K;refine norm_ (a' := ?_) ?_ ?_;rotate_left
 ·show Act.put _ (some 7) _ = _
  simp only [wf_preprocess];rfl
 refine pure_ (i := 5) (N := some 8) (v := ?_) (a' := ?_) (fl 7 63) rfl rfl (by kernel_rfl) (fun _ _ _ h => h) (Or.inl ⟨by rfl,?_⟩) ?_ ?_;rotate_left
 ·intro w';go_simp;with_reducible rfl
 rotate_left
 ·simp only [wf_preprocess];rfl
 refine one_ (i := 6) (N := none) (fl 7 127) rfl rfl (by kernel_rfl) (by decide) (fun K hK => ?_);have hs8 : w6.cell? ⟨gb276,0,none⟩ = some (.int .i64 0) := (blk_cell BK276.out 0).trans rfl;have hfs8 := blk_frozen BK276.out 0;have hns8_0 := NB275_276.out;have hms8_0 := NB276_275.out;have hs9 : w6.cell? ⟨gb276,1,none⟩ = some (.slice none 0 0) := (blk_cell BK276.out 1).trans rfl;have hfs9 := blk_frozen BK276.out 1;have hns9_0 := NB275_276.out;have hms9_0 := NB276_275.out;refine skip_ (w1 := ?_) (by rfl) rfl ?_ ?_;rotate_left
 ·go_simp;rfl
 refine hK.out _ _ ⟨((cell_far (p := ⟨gb276,_,none⟩) NB275_276.out _).trans ((cell_far (p := ⟨gb276,_,none⟩) NB275_276.out _).trans (hHeld.1))),((cell_far (p := ⟨gb276,_,none⟩) NB275_276.out _).trans ((cell_far (p := ⟨gb276,_,none⟩) NB275_276.out _).trans (hHeld.2)))⟩ (fun hHeld => ?_);clear hK K;refine done_ (by kernel_rfl) ?_
 try go_wp2
 refine bodyPost_ret (results_cell_row rfl _ _ gb276 31 #[.int .i64 a0_0,.slice Ao7 t277.length co7] (0,0) _ rfl (by refine blk_put (cs := #[.int .i64 a0_0,.slice none 0 0]) ?_ 1 _ rfl; refine blk_put (cs := #[.int .i64 0,.slice none 0 0]) ?_ 0 _ rfl; exact BK276.out) Try.underlying31 rfl (by kernel_rfl)) rfl ?_;exact ⟨_,by rfl,by exact Kd.S_mono (Kd.S_far (p := ⟨gb276,1,none⟩) (Kd.S_far (p := ⟨gb276,0,none⟩) (Kd.S_types HO279.out BK276.out (by decide)) (fun _ hk => hk.2) (.int .i64 a0_0)) (fun _ hk => hk.2) (.slice Ao7 t277.length co7)) (fun _ hk => trivial),by repeat (with_reducible first | exact HB.out | refine below_set ?_ GE276.out)⟩

/-! ### spec_TxOk: function 59 -/
def spec_TxOk.j0 : Nat → Bool → Int → ByteArray → ByteArray → Int → Int → Option (Bool)
 | 0,_,_,_,_,_,_ => none
 | k + 1,x18,x281000,x281001,x281002,x281003,x281004 => if x18 = true then (some false) else (if x281000 = 1 then ((spec_NameOk.f k x281002).bind fun t284 => (some t284)) else ((spec_l1In.f x281000 2 3).bind fun t285 => (if t285 = true then (some (x281002.toList == ([] : List UInt8))) else (some false))))
def spec_TxOk.f (k : Nat) (a0_0 : Int) (a0_1 : ByteArray) (a0_2 : ByteArray) (a0_3 : Int) (a0_4 : Int) : Option (Bool) := (spec_NameOk.f k a0_1).bind fun t281 => (if t281 = true then ((spec_l1In.f a0_3 1 1000000).bind fun t282 => (if t282 = true then ((spec_l1In.f a0_4 0 10000).bind fun t283 => (spec_TxOk.j0 k (!t283) a0_0 a0_1 a0_2 a0_3 a0_4)) else (spec_TxOk.j0 k true a0_0 a0_1 a0_2 a0_3 a0_4))) else (spec_TxOk.j0 k true a0_0 a0_1 a0_2 a0_3 a0_4))
theorem spec_TxOk.calls (k : Nat) (a0_0 : Int) (a0_1 : ByteArray) (a0_2 : ByteArray) (a0_3 : Int) (a0_4 : Int) (r : Bool) (w : World) (h : spec_TxOk.f k a0_0 a0_1 a0_2 a0_3 a0_4 = some r) :
  Calls Try.prog 59 #[.agg #[.int .i64 a0_0,.string a0_1,.string a0_2,.int .i64 a0_3,.int .i64 a0_4]] w fun e w' => e = .returned (.bool r) ∧ Below w.heap.size w w' := by
 have hu35 := Try.underlying35;have HB := Aside0.mk (Below.refl w.heap.size w);have H : ((spec_NameOk.f k a0_1).bind fun t281 => (if t281 = true then ((spec_l1In.f a0_3 1 1000000).bind fun t282 => (if t282 = true then ((spec_l1In.f a0_4 0 10000).bind fun t283 => (spec_TxOk.j0 k (!t283) a0_0 a0_1 a0_2 a0_3 a0_4)) else (spec_TxOk.j0 k true a0_0 a0_1 a0_2 a0_3 a0_4))) else (spec_TxOk.j0 k true a0_0 a0_1 a0_2 a0_3 a0_4))) = some r := h;clear h;have HC2 := Aside0.mk H;clear H;go_enter Try.func59,Try.ntmps59
 go_upto_region 1 with (((with_reducible refine gate_dst (N := 1) rfl ?_); refine box_event (by rfl) (N := 1) (by rfl) (cs := #[.int .i64 a0_0,.string a0_1,.string a0_2,.int .i64 a0_3,.int .i64 a0_4]) (t := 35) (by go_simp; done) ?_; intro gb280 hg w3 hbox hb; have BK280 := Aside0.mk hbox; have GW280 := gsz HB hg; have GE280 := GW280; replace HB := bst HB hb; clear hb hbox hg))
 skip
 go_cut [18] (fun v18 wc => ∃ (kq : Nat) (x18_1 : Bool),v18 = .bool x18_1 ∧ Aside0 (spec_TxOk.j0 kq x18_1 a0_0 a0_1 a0_2 a0_3 a0_4 = some r) ∧ Aside0 (kq ≤ k) ∧ Aside0 (wc.heap[gb280]? = some (.cells #[.int .i64 a0_0,.string a0_1,.string a0_2,.int .i64 a0_3,.int .i64 a0_4] 35 (0,0))) ∧ Aside0 (Below w.heap.size w wc))
 case first =>
  have H := HC2.out;clear HC2;replace H := Option.bind_eq_some_iff.mp H;obtain ⟨t281,A40,H⟩ := H;replace H : (if t281 = true then ((spec_l1In.f a0_3 1 1000000).bind fun t282 => (if t282 = true then ((spec_l1In.f a0_4 0 10000).bind fun t283 => (spec_TxOk.j0 k (!t283) a0_0 a0_1 a0_2 a0_3 a0_4)) else (spec_TxOk.j0 k true a0_0 a0_1 a0_2 a0_3 a0_4))) else (spec_TxOk.j0 k true a0_0 a0_1 a0_2 a0_3 a0_4)) = some r := H;have A4 := Aside0.mk A40;clear A40
  by_cases c5 : t281 = true
  ·subst c5
   rw [if_pos rfl] at H
   replace H := Option.bind_eq_some_iff.mp H;obtain ⟨t282,A60,H⟩ := H;replace H : (if t282 = true then ((spec_l1In.f a0_4 0 10000).bind fun t283 => (spec_TxOk.j0 k (!t283) a0_0 a0_1 a0_2 a0_3 a0_4)) else (spec_TxOk.j0 k true a0_0 a0_1 a0_2 a0_3 a0_4)) = some r := H;have A6 := Aside0.mk A60;clear A60
   by_cases c7 : t282 = true
   ·subst c7
    rw [if_pos rfl] at H
    replace H := Option.bind_eq_some_iff.mp H;obtain ⟨t283,A80,H⟩ := H;replace H : (spec_TxOk.j0 k (!t283) a0_0 a0_1 a0_2 a0_3 a0_4) = some r := H;have A8 := Aside0.mk A80;clear A80;have H' := Aside0.mk H;clear H;obtain ⟨⟨hcz9_0,hcz9_1,hcz9_2,hcz9_3,hcz9_4⟩,hfz9_0,hfz9_1,hfz9_2,hfz9_3,hfz9_4⟩ := bc5 BK280.out
    go_wp2_with (first | ((with_reducible refine gate_callee (f := 90) rfl ?_); refine goesL_ (some 5) rfl rfl Try.func90 (by kernel_rfl) rfl #[.string a0_1] rfl (by (try simp only [List.map_toArray,List.map_cons,List.map_nil]); rfl) ?_; (with_reducible refine (spec_NameOk.calls k a0_1 true _ A4.out).mono ?_); rintro e w' ⟨rfl,⟨nd,rfl⟩⟩; refine ⟨_,rfl,?_⟩) | (go_at_call 91; (with_reducible refine (spec_l1In.calls a0_3 1 1000000 true _ A6.out).mono ?_); rintro e w' ⟨rfl,⟨nd,rfl⟩⟩) | (go_at_call 91; (with_reducible refine (spec_l1In.calls a0_4 0 10000 t283 _ A8.out).mono ?_); rintro e w' ⟨rfl,⟨nd,rfl⟩⟩))
    go_meet
    case rel => exact ⟨_,(!t283),(by rfl),H',⟨by omega⟩,⟨by (with_reducible repeat (refine blk_drewN ?_ _)); exact BK280.out⟩,⟨by repeat (with_reducible first | exact HB.out | apply pw_below_drewN)⟩⟩
   ·replace c7 := Bool.eq_false_iff.mpr c7;subst c7
    rw [if_neg (show ¬ (false = true) by decide)] at H
    have H' := Aside0.mk H;clear H;obtain ⟨⟨hcz10_0,hcz10_1,hcz10_2,hcz10_3,hcz10_4⟩,hfz10_0,hfz10_1,hfz10_2,hfz10_3,hfz10_4⟩ := bc5 BK280.out
    go_wp2_with (first | ((with_reducible refine gate_callee (f := 90) rfl ?_); refine goesL_ (some 5) rfl rfl Try.func90 (by kernel_rfl) rfl #[.string a0_1] rfl (by (try simp only [List.map_toArray,List.map_cons,List.map_nil]); rfl) ?_; (with_reducible refine (spec_NameOk.calls k a0_1 true _ A4.out).mono ?_); rintro e w' ⟨rfl,⟨nd,rfl⟩⟩; refine ⟨_,rfl,?_⟩) | (go_at_call 91; (with_reducible refine (spec_l1In.calls a0_3 1 1000000 false _ A6.out).mono ?_); rintro e w' ⟨rfl,⟨nd,rfl⟩⟩))
    go_meet
    case rel => exact ⟨_,(true),(by rfl),H',⟨by omega⟩,⟨by (with_reducible repeat (refine blk_drewN ?_ _)); exact BK280.out⟩,⟨by repeat (with_reducible first | exact HB.out | apply pw_below_drewN)⟩⟩
  ·replace c5 := Bool.eq_false_iff.mpr c5;subst c5
   rw [if_neg (show ¬ (false = true) by decide)] at H
   have H' := Aside0.mk H;clear H;obtain ⟨⟨hcz11_0,hcz11_1,hcz11_2,hcz11_3,hcz11_4⟩,hfz11_0,hfz11_1,hfz11_2,hfz11_3,hfz11_4⟩ := bc5 BK280.out
   go_wp2_with (((with_reducible refine gate_callee (f := 90) rfl ?_); refine goesL_ (some 5) rfl rfl Try.func90 (by kernel_rfl) rfl #[.string a0_1] rfl (by (try simp only [List.map_toArray,List.map_cons,List.map_nil]); rfl) ?_; (with_reducible refine (spec_NameOk.calls k a0_1 false _ A4.out).mono ?_); rintro e w' ⟨rfl,⟨nd,rfl⟩⟩; refine ⟨_,rfl,?_⟩))
   go_meet
   case rel => exact ⟨_,(true),(by rfl),H',⟨by omega⟩,⟨by (with_reducible repeat (refine blk_drewN ?_ _)); exact BK280.out⟩,⟨by repeat (with_reducible first | exact HB.out | apply pw_below_drewN)⟩⟩
 case rest =>
  clear HC2
  try clear p2
  try clear c5
  try clear c7
  try clear c9
  try clear hcz10_0
  try clear hcz10_1
  try clear hcz10_2
  try clear hcz10_3
  try clear hcz10_4
  try clear hcz11_0
  try clear hcz11_1
  try clear hcz11_2
  try clear hcz11_3
  try clear hcz11_4
  try clear hcz9_0
  try clear hcz9_1
  try clear hcz9_2
  try clear hcz9_3
  try clear hcz9_4
  try clear hfz10_0
  try clear hfz10_1
  try clear hfz10_2
  try clear hfz10_3
  try clear hfz10_4
  try clear hfz11_0
  try clear hfz11_1
  try clear hfz11_2
  try clear hfz11_3
  try clear hfz11_4
  try clear hfz9_0
  try clear hfz9_1
  try clear hfz9_2
  try clear hfz9_3
  try clear hfz9_4
  obtain ⟨kq,x18_1,rfl,HA,HJ1,BK280,HB⟩ := hcut
  cases kq with
  | zero => exact absurd HA.out (by simp [spec_TxOk.j0])
  | succ kj1 =>
   have H := HA.out;clear HA;simp only [spec_TxOk.j0] at H
   by_cases c12 : x18_1 = true
   ·subst c12
    rw [if_pos rfl] at H
    obtain rfl := Option.some.inj H;go_wp2;go_ret;exact ⟨by rfl,HB.out⟩
   ·replace c12 := Bool.eq_false_iff.mpr c12;subst c12
    rw [if_neg (show ¬ (false = true) by decide)] at H
    by_cases c13 : a0_0 = 1
    ·rw [if_pos c13] at H;have c13b0 : (a0_0 == 1) = true := beq_iff_eq.mpr c13;have c13b1 : (a0_0 != 1) = false := bne_eq_false_iff_eq.mpr c13;clear c13;replace H := Option.bind_eq_some_iff.mp H;obtain ⟨t284,A140,H⟩ := H;replace H : (some t284) = some r := H;have A14 := Aside0.mk A140;clear A140;obtain rfl := Option.some.inj H;obtain ⟨⟨hcz15_0,hcz15_1,hcz15_2,hcz15_3,hcz15_4⟩,hfz15_0,hfz15_1,hfz15_2,hfz15_3,hfz15_4⟩ := bc5 BK280.out
     go_wp2_with (((with_reducible refine gate_callee (f := 90) rfl ?_); refine goesL_ (some 24) rfl rfl Try.func90 (by kernel_rfl) rfl #[.string a0_2] rfl (by (try simp only [List.map_toArray,List.map_cons,List.map_nil]); rfl) ?_; (with_reducible refine (spec_NameOk.calls kj1 a0_2 t284 _ A14.out).mono ?_); rintro e w' ⟨rfl,⟨nd,rfl⟩⟩; refine ⟨_,rfl,?_⟩))
     go_ret;exact ⟨by rfl,by repeat (with_reducible first | exact HB.out | apply pw_below_drewN)⟩
    ·rw [if_neg c13] at H;have c13b0 : (a0_0 == 1) = false := beq_eq_false_iff_ne.mpr c13;have c13b1 : (a0_0 != 1) = true := bne_iff_ne.mpr c13;replace H := Option.bind_eq_some_iff.mp H;obtain ⟨t285,A160,H⟩ := H;replace H : (if t285 = true then (some (a0_2.toList == ([] : List UInt8))) else (some false)) = some r := H;have A16 := Aside0.mk A160;clear A160
     by_cases c17 : t285 = true
     ·subst c17
      rw [if_pos rfl] at H
      obtain rfl := Option.some.inj H;obtain ⟨⟨hcz18_0,hcz18_1,hcz18_2,hcz18_3,hcz18_4⟩,hfz18_0,hfz18_1,hfz18_2,hfz18_3,hfz18_4⟩ := bc5 BK280.out
      go_wp2_with (((with_reducible refine gate_callee (f := 91) rfl ?_); refine goesL_ (some 27) rfl rfl Try.func91 (by kernel_rfl) rfl #[.int .i64 a0_0,.int .i64 2,.int .i64 3] rfl (by (try simp only [List.map_toArray,List.map_cons,List.map_nil]); rfl) ?_; (with_reducible refine (spec_l1In.calls a0_0 2 3 true _ A16.out).mono ?_); rintro e w' ⟨rfl,⟨nd,rfl⟩⟩; refine ⟨_,rfl,?_⟩))
      go_ret;exact ⟨by rfl,by repeat (with_reducible first | exact HB.out | apply pw_below_drewN)⟩
     ·replace c17 := Bool.eq_false_iff.mpr c17;subst c17
      rw [if_neg (show ¬ (false = true) by decide)] at H
      obtain rfl := Option.some.inj H;obtain ⟨⟨hcz19_0,hcz19_1,hcz19_2,hcz19_3,hcz19_4⟩,hfz19_0,hfz19_1,hfz19_2,hfz19_3,hfz19_4⟩ := bc5 BK280.out
      go_wp2_with (((with_reducible refine gate_callee (f := 91) rfl ?_); refine goesL_ (some 27) rfl rfl Try.func91 (by kernel_rfl) rfl #[.int .i64 a0_0,.int .i64 2,.int .i64 3] rfl (by (try simp only [List.map_toArray,List.map_cons,List.map_nil]); rfl) ?_; (with_reducible refine (spec_l1In.calls a0_0 2 3 false _ A16.out).mono ?_); rintro e w' ⟨rfl,⟨nd,rfl⟩⟩; refine ⟨_,rfl,?_⟩))
      go_ret;exact ⟨by rfl,by repeat (with_reducible first | exact HB.out | apply pw_below_drewN)⟩

/-! ### spec_AcctAt: function 60 -/
def spec_AcctAt.l0 : Nat → List (S63) → ByteArray → Int → Option (Int)
 | 0,_,_,_ => none
 | k + 1,x0,x1,x5 => if x5 < (x0.length : Int) then (if 0 ≤ x5 then (if ((rd_T63 x0 x5).f0).toList = x1.toList then (some x5) else (spec_AcctAt.l0 k x0 x1 (wrap64 (x5 + 1)))) else (none)) else (some (-1))
def spec_AcctAt.f (k : Nat) (l0 : List (S63)) (a1 : ByteArray) : Option (Int) := spec_AcctAt.l0 k l0 a1 0
theorem spec_AcctAt.calls (k : Nat) (A0 : Option Addr) (c0 : Nat) (l0 : List (S63)) (a1 : ByteArray) (r : Int) (w : World) (hr0 : Kd.C k63 w A0 l0.length l0) (hc0 : l0.length ≤ c0) (h : spec_AcctAt.f k l0 a1 = some r) :
  Calls Try.prog 60 #[.slice A0 l0.length c0,.string a1] w fun e w' => e = .returned (.int .i64 r) ∧ Drawn0 w w' := by
 have HR0 := Aside0.mk hr0;have HC0 := Aside0.mk hc0;clear hr0 hc0;have H : (spec_AcctAt.l0 k l0 a1 0) = some r := h;clear h;have H' := Aside0.mk H;clear H;go_enter Try.func60,Try.ntmps60;go_wp2
 go_loopg [5] k (fun kq v5 w' => ∃ (x5_1 : Int),v5 = .int .i64 x5_1 ∧ Aside0 (spec_AcctAt.l0 kq l0 a1 x5_1 = some r) ∧ Aside0 (kq ≤ k) ∧ Drawn0 w w')
 case atStart => exact ⟨(0),(by rfl),H',⟨Nat.le_refl _⟩,by repeat (exact Drawn0.refl _)⟩
 case round =>
  clear H'
  try clear p2
  obtain ⟨x5_1,rfl,HA,HK1,⟨m1,rfl⟩⟩ := hrel
  cases gk with
  | zero => exact absurd HA.out (by simp [spec_AcctAt.l0])
  | succ k1 =>
   have H := HA.out;clear HA;simp only [spec_AcctAt.l0] at H
   by_cases c3 : x5_1 < (l0.length : Int)
   ·rw [if_pos c3] at H;have c3b0 := decide_eq_true c3;clear c3
    by_cases c4 : 0 ≤ x5_1
    ·rw [if_pos c4] at H;have c4b0 := decide_eq_true c4;clear c4
     by_cases c5 : ((rd_T63 l0 x5_1).f0).toList = a1.toList
     ·rw [if_pos c5] at H;have c5b0 : (((rd_T63 l0 x5_1).f0).toList == a1.toList) = true := beq_iff_eq.mpr c5;have c5b1 : (((rd_T63 l0 x5_1).f0).toList != a1.toList) = false := bne_eq_false_iff_eq.mpr c5;clear c5;obtain rfl := Option.some.inj H;have p286 : 0 ≤ (x5_1 : Int) := odt (by with_reducible assumption);have q286 : x5_1 < (l0.length : Int) := odt (by with_reducible assumption);obtain ⟨ad286,A286_4,c286_4,e286,hx286_0,hx286_1,hx286_2,hx286_3,hx286_4,hl286_4,hi286_4⟩ := at_T63 HR0.out x5_1 p286 q286
      cases e286
      have HR286_4 := Aside0.mk hi286_4;have HC286_4 := Aside0.mk hl286_4;clear hi286_4 hl286_4;replace p286 := eq_true p286;replace q286 := eq_true q286;go_wp2;go_ret;exact ⟨by rfl,by repeat (first | exact Drawn0.refl _ | apply Drawn0.step)⟩
     ·rw [if_neg c5] at H;have c5b0 : (((rd_T63 l0 x5_1).f0).toList == a1.toList) = false := beq_eq_false_iff_ne.mpr c5;have c5b1 : (((rd_T63 l0 x5_1).f0).toList != a1.toList) = true := bne_iff_ne.mpr c5;have H' := Aside0.mk H;clear H;have p286 : 0 ≤ (x5_1 : Int) := odt (by with_reducible assumption);have q286 : x5_1 < (l0.length : Int) := odt (by with_reducible assumption);obtain ⟨ad286,A286_4,c286_4,e286,hx286_0,hx286_1,hx286_2,hx286_3,hx286_4,hl286_4,hi286_4⟩ := at_T63 HR0.out x5_1 p286 q286
      cases e286
      have HR286_4 := Aside0.mk hi286_4;have HC286_4 := Aside0.mk hl286_4;clear hi286_4 hl286_4;replace p286 := eq_true p286;replace q286 := eq_true q286;go_wp2
      go_roundg k1
      case measure => have := HK1.out; omega
      case rel => exact ⟨(wrap64 (x5_1 + 1)),(by rfl),H',⟨by have := HK1.out; omega⟩,by repeat (first | exact Drawn0.refl _ | apply Drawn0.step)⟩
    ·rw [if_neg c4] at H;exact absurd H (by simp)
   ·rw [if_neg c3] at H;have c3b0 := decide_eq_false c3;clear c3;obtain rfl := Option.some.inj H;go_wp2;go_ret;exact ⟨by rfl,by repeat (first | exact Drawn0.refl _ | apply Drawn0.step)⟩

end Go.Proofs.Ytcbpfofkdipjhaa.PV
