/- The machine's side of Go functions: each as a plain function,and that the call does what it says. Written by a program (wip/mprint). -/
import Derived.Test.YtcbpfofkdipjhaaCVPVx0
import Derived.Test.YtcbpfofkdipjhaaCVPVx10
namespace Go.Proofs.Ytcbpfofkdipjhaa.PV
open Go.RowKit Go.Proofs.YtcbpfofkdipjhaaW.PrintWords Go.Proofs.YtcbpfofkdipjhaaW.PrintLast Go.Proofs.YtcbpfofkdipjhaaW.PrintMore
set_option maxHeartbeats 8000000
set_option maxRecDepth 100000
attribute [local go_sem] max2_int min2_int max_two min_two max_three min_three max_four min_four   -- for this text's walks alone
set_option linter.unusedVariables false
set_option linter.unusedSimpArgs false

/-! ### spec_l4With: function 93 -/
def spec_l4With.l0 : Nat → ByteArray → List (S63) → Int → Option (List (S63))
 | 0,_,_,_ => none
 | k + 1,x1,x5,x6 => if x6 > 0 then (if 0 ≤ (wrap64 (x6 - 1)) then (if (wrap64 (x6 - 1)) < (x5.length : Int) then (if (Op.bytesLess x1.toList (((rd_T63 x5 (wrap64 (x6 - 1))).f0).toList)) = true then (if 0 ≤ x6 then (if x6 < (x5.length : Int) then (spec_l4With.l0 k x1 (x5.set (x6 : Int).toNat (⟨(rd_T63 x5 (wrap64 (x6 - 1))).f0,(rd_T63 x5 (wrap64 (x6 - 1))).f1,(rd_T63 x5 (wrap64 (x6 - 1))).f2,(rd_T63 x5 (wrap64 (x6 - 1))).f3,(rd_T63 x5 (wrap64 (x6 - 1))).f4⟩ : S63)) (wrap64 (x6 - 1))) else (none)) else (none)) else (if 0 ≤ x6 then (if x6 < (x5.length : Int) then (some (x5.set (x6 : Int).toNat (⟨x1,0,0,0,([] : List (S65))⟩ : S63))) else (none)) else (none))) else (none)) else (none)) else (if 0 ≤ x6 then (if x6 < (x5.length : Int) then (some (x5.set (x6 : Int).toNat (⟨x1,0,0,0,([] : List (S65))⟩ : S63))) else (none)) else (none))
def spec_l4With.f (k : Nat) (l0 : List (S63)) (a1 : ByteArray) : Option (List (S63)) := (spec_l4Copy.f k l0).bind fun t287 => ((spec_AcctAt.f k l0 a1).bind fun t290 => (if t290 ≥ 0 then (some t287) else (if t287.length < 2199023255552 then ((some (t287 ++ [(⟨(⟨#[]⟩ : ByteArray),0,0,0,([] : List (S65))⟩ : S63)] : List (S63))).bind fun y291 => (spec_l4With.l0 k a1 y291 (wrap64 ((y291.length : Int) - 1)))) else (none))))
theorem spec_l4With.calls (k : Nat) (A0 : Option Addr) (c0 : Nat) (l0 : List (S63)) (a1 : ByteArray) (r : List (S63)) (w : World) (hr0 : Kd.C k63 w A0 l0.length l0) (hc0 : l0.length ≤ c0) (h : spec_l4With.f k l0 a1 = some r) :
  Calls Try.prog 93 #[.slice A0 l0.length c0,.string a1] w fun e w' => ∃ v0_ : Value,e = .returned (v0_) ∧ Kd.N k63 63 w' w.heap.size (fun k_ => (w.heap.size ≤ k_)) v0_ r ∧ Below w.heap.size w w' := by
 have hu63 := Try.underlying63;have HR0 := Aside0.mk hr0;have HC0 := Aside0.mk hc0;clear hr0 hc0;have HB := Aside0.mk (Below.refl w.heap.size w);have H : ((spec_l4Copy.f k l0).bind fun t287 => ((spec_AcctAt.f k l0 a1).bind fun t290 => (if t290 ≥ 0 then (some t287) else (if t287.length < 2199023255552 then ((some (t287 ++ [(⟨(⟨#[]⟩ : ByteArray),0,0,0,([] : List (S65))⟩ : S63)] : List (S63))).bind fun y291 => (spec_l4With.l0 k a1 y291 (wrap64 ((y291.length : Int) - 1)))) else (none))))) = some r := h;clear h;replace H := Option.bind_eq_some_iff.mp H;obtain ⟨t287,A30,H⟩ := H;replace H : ((spec_AcctAt.f k l0 a1).bind fun t290 => (if t290 ≥ 0 then (some t287) else (if t287.length < 2199023255552 then ((some (t287 ++ [(⟨(⟨#[]⟩ : ByteArray),0,0,0,([] : List (S65))⟩ : S63)] : List (S63))).bind fun y291 => (spec_l4With.l0 k a1 y291 (wrap64 ((y291.length : Int) - 1)))) else (none)))) = some r := H;have A3 := Aside0.mk A30;clear A30;replace H := Option.bind_eq_some_iff.mp H;obtain ⟨t290,A40,H⟩ := H;replace H : (if t290 ≥ 0 then (some t287) else (if t287.length < 2199023255552 then ((some (t287 ++ [(⟨(⟨#[]⟩ : ByteArray),0,0,0,([] : List (S65))⟩ : S63)] : List (S63))).bind fun y291 => (spec_l4With.l0 k a1 y291 (wrap64 ((y291.length : Int) - 1)))) else (none))) = some r := H;have A4 := Aside0.mk A40;clear A40
 by_cases c5 : t290 ≥ 0
 ·rw [if_pos c5] at H;have c5b0 := decide_eq_true c5;clear c5;obtain rfl := Option.some.inj H;go_enter Try.func93,Try.ntmps93
  go_wp2_with (first | ((with_reducible refine gate_callee (f := 92) rfl ?_); refine goesL_ (some 8) rfl rfl Try.func92 (by kernel_rfl) rfl #[.slice A0 l0.length c0] rfl (by (try simp only [List.map_toArray,List.map_cons,List.map_nil]); rfl) ?_; (with_reducible refine (spec_l4Copy.calls k _ _ l0 t287 _ ?side1 ?side2 A3.out).mono ?_); (case side1 => repeat (exact HR0.out)); (case side2 => exact HC0.out); rintro e w6 ⟨v288,rfl,ho0,hb⟩; refine ⟨_,rfl,?_⟩; have HO289 := Aside0.mk (Kd.N_lower (Kd.N_mono (ok' := fun k_ => (w.heap.size ≤ k_)) (Kd.S_N (Kd.S_bound ho0)) (fun k_ hk_ => (Nat.le_trans (below_size HB.out) hk_.2.1))) (below_size HB.out)); replace HB := bst HB hb; (try clear hb); (try clear ho0)) | ((with_reducible refine gate_callee (f := 60) rfl ?_); refine goesL_ (some 11) rfl rfl Try.func60 (by kernel_rfl) rfl #[.slice A0 l0.length c0,.string a1] rfl (by (try simp only [List.map_toArray,List.map_cons,List.map_nil]); rfl) ?_; (with_reducible refine (spec_AcctAt.calls k _ _ l0 a1 t290 _ ?side1 ?side2 A4.out).mono ?_); (case side1 => repeat (exact (Kd.C_below HR0.out HB.out))); (case side2 => exact HC0.out); rintro e w' ⟨rfl,⟨nd,rfl⟩⟩; refine ⟨_,rfl,?_⟩))
  go_ret;exact ⟨_,by rfl,by (with_reducible repeat (apply Kd.N_drewN)); exact HO289.out,by repeat (with_reducible first | exact HB.out | apply pw_below_drewN)⟩
 ·rw [if_neg c5] at H;have c5b0 := decide_eq_false c5;clear c5
  by_cases c7 : t287.length < 2199023255552
  ·rw [if_pos c7] at H;have LMc7 := Aside0.mk c7;clear c7;obtain ⟨y291,hy291⟩ : ∃ y_ : List (S63),y_ = (t287 ++ [(⟨(⟨#[]⟩ : ByteArray),0,0,0,([] : List (S65))⟩ : S63)]) := ⟨_,rfl⟩
   replace H : (spec_l4With.l0 k a1 y291 (wrap64 ((y291.length : Int) - 1))) = some r := by (have H2_ := (Option.bind_some _ _).symm.trans H; rw [hy291]; with_reducible exact H2_)
   have Ny291 := Aside0.mk hy291;clear hy291;have H' := Aside0.mk H;clear H;go_enter Try.func93,Try.ntmps93
   go_wp2_with (first | ((with_reducible refine gate_callee (f := 92) rfl ?_); refine goesL_ (some 8) rfl rfl Try.func92 (by kernel_rfl) rfl #[.slice A0 l0.length c0] rfl (by (try simp only [List.map_toArray,List.map_cons,List.map_nil]); rfl) ?_; (with_reducible refine (spec_l4Copy.calls k _ _ l0 t287 _ ?side1 ?side2 A3.out).mono ?_); (case side1 => repeat (exact HR0.out)); (case side2 => exact HC0.out); rintro e w8 ⟨v288,rfl,ho0,hb⟩; refine ⟨_,rfl,?_⟩; have HO289 := Aside0.mk (Kd.N_lower (Kd.N_mono (ok' := fun k_ => (w.heap.size ≤ k_)) (Kd.S_N (Kd.S_bound ho0)) (fun k_ hk_ => (Nat.le_trans (below_size HB.out) hk_.2.1))) (below_size HB.out)); replace HB := bst HB hb; (try clear hb); (try clear ho0)) | ((with_reducible refine gate_callee (f := 60) rfl ?_); refine goesL_ (some 11) rfl rfl Try.func60 (by kernel_rfl) rfl #[.slice A0 l0.length c0,.string a1] rfl (by (try simp only [List.map_toArray,List.map_cons,List.map_nil]); rfl) ?_; (with_reducible refine (spec_AcctAt.calls k _ _ l0 a1 t290 _ ?side1 ?side2 A4.out).mono ?_); (case side1 => repeat (exact (Kd.C_below HR0.out HB.out))); (case side2 => exact HC0.out); rintro e w' ⟨rfl,⟨nd,rfl⟩⟩; refine ⟨_,rfl,?_⟩) | ((with_reducible refine gate_builtin (b := .append) (xs := #[.tmp 14,.tmp 16]) rfl ?_); at_builtin; refine Kd.N_append k63 (w0 := w) w.heap.size rfl (.tmp 14) (.tmp 16) 29 63 (.agg #[(.string ⟨#[]⟩),(.int .i64 0),(.int .i64 0),(.int .i64 0),(.slice none 0 0)]) 64 rfl Try.underlying29 info63 rfl (by decide) (by omega) v288 t287 (⟨(⟨#[]⟩ : ByteArray),0,0,0,([] : List (S65))⟩ : S63) [.string (⟨#[]⟩ : ByteArray),.int .i64 0,.int .i64 0,.int .i64 0,.slice none 0 0] (fun k_ => (w.heap.size ≤ k_)) (fun k_ => (fun k_ => (w.heap.size ≤ k_)) k_ ∧ some k_ ≠ (v288 : Value).ownBlock) rfl rfl ?aP (fun _ hk => hk) ?aF ?aO ?aB ?aS ?aL ?_; (case aP => exact (k63_mkF _ _ (⟨(⟨#[]⟩ : ByteArray),0,0,0,([] : List (S65))⟩ : S63) (Nat.le_refl _) (Kd.F_nil _ _ _))); (case aB => exact (by repeat (with_reducible first | exact HB.out | apply pw_below_drewN))); (case aF => exact (fun k_ hk => (Nat.le_trans (below_size (by repeat (with_reducible first | exact HB.out | apply pw_below_drewN))) hk))); (case aO => exact (by (with_reducible repeat (apply Kd.N_drewN)); exact HO289.out)); (case aS => exact (below_size (by repeat (with_reducible first | exact HB.out | apply pw_below_drewN)))); (case aL => have := LMc7.out; omega); intro v292 w9 ho hb hg hat; rw [← Ny291.out] at ho; replace HB := Aside0.mk (hb); have HO293 := Aside0.mk (ho); clear HO289; clear ho hb hg hat; obtain ⟨Ao10,co10,eo10⟩ := Kd.N_slice HO293.out; subst eo10))
   go_loopg [6] k (fun kq v6 w' => ∃ (x5_1 : List (S63)) (x6_1 : Int),v6 = .int .i64 x6_1 ∧ Aside0 (spec_l4With.l0 kq a1 x5_1 x6_1 = some r) ∧ Aside0 (kq ≤ k) ∧ Aside0 (Kd.N k63 63 w' w.heap.size (fun k_ => (w.heap.size ≤ k_)) (.slice Ao10 y291.length co10) x5_1) ∧ Aside0 (Below w.heap.size w w'))
   case atStart => exact ⟨(y291),(wrap64 ((y291.length : Int) - 1)),(by rfl),H',⟨Nat.le_refl _⟩,⟨by exact HO293.out⟩,⟨HB.out⟩⟩
   case round =>
    clear H'
    try clear p2
    try clear c5
    try clear c5b0
    try clear c6
    try clear p6
    try clear c7
    try clear c9
    obtain ⟨x5_1,x6_1,rfl,HA,HK1,HO_5,HB⟩ := hrel;have hl5_1 := (Kd.N_reads' HO_5.out).1;rw [hl5_1] at HO_5
    (try simp only [hl5_1])
    cases gk with
    | zero => exact absurd HA.out (by simp [spec_l4With.l0])
    | succ k1 =>
     have H := HA.out;clear HA;simp only [spec_l4With.l0] at H
     by_cases c11 : x6_1 > 0
     ·rw [if_pos c11] at H;have c11b0 := decide_eq_true c11;clear c11;obtain ⟨ji12,hji12⟩ : ∃ j_ : Int,(wrap64 (x6_1 - 1)) = j_ := ⟨_,rfl⟩
      replace H : (if 0 ≤ (ji12) then (if (ji12) < (x5_1.length : Int) then (if (Op.bytesLess a1.toList (((rd_T63 x5_1 (ji12)).f0).toList)) = true then (if 0 ≤ x6_1 then (if x6_1 < (x5_1.length : Int) then (spec_l4With.l0 k1 a1 (x5_1.set (x6_1 : Int).toNat (⟨(rd_T63 x5_1 (ji12)).f0,(rd_T63 x5_1 (ji12)).f1,(rd_T63 x5_1 (ji12)).f2,(rd_T63 x5_1 (ji12)).f3,(rd_T63 x5_1 (ji12)).f4⟩ : S63)) ji12) else (none)) else (none)) else (if 0 ≤ x6_1 then (if x6_1 < (x5_1.length : Int) then (some (x5_1.set (x6_1 : Int).toNat (⟨a1,0,0,0,([] : List (S65))⟩ : S63))) else (none)) else (none))) else (none)) else (none)) = some r := by (rw [hji12] at H; exact H)
      have hji12w : (IntKind.i64.wrap (x6_1 - 1)) = ji12 := (i64_w _).trans hji12
      by_cases c13 : 0 ≤ (ji12)
      ·rw [if_pos c13] at H;have c13b0 := decide_eq_true c13;clear c13
       by_cases c14 : (ji12) < (x5_1.length : Int)
       ·rw [if_pos c14] at H;have c14b0 := decide_eq_true c14;clear c14
        by_cases c15 : (Op.bytesLess a1.toList (((rd_T63 x5_1 (ji12)).f0).toList)) = true
        ·rw [if_pos c15] at H;have c15b0 : (Op.bytesLess a1.toList (((rd_T63 x5_1 (ji12)).f0).toList)) = true := c15;clear c15
         by_cases c16 : 0 ≤ x6_1
         ·rw [if_pos c16] at H;have c16b0 := decide_eq_true c16;clear c16
          by_cases c17 : x6_1 < (x5_1.length : Int)
          ·rw [if_pos c17] at H;have c17b0 := decide_eq_true c17;clear c17;obtain ⟨y296,hy296⟩ : ∃ y_ : List (S63),y_ = (x5_1.set (x6_1 : Int).toNat (⟨(rd_T63 x5_1 (ji12)).f0,(rd_T63 x5_1 (ji12)).f1,(rd_T63 x5_1 (ji12)).f2,(rd_T63 x5_1 (ji12)).f3,(rd_T63 x5_1 (ji12)).f4⟩ : S63)) := ⟨_,rfl⟩
           replace H : (spec_l4With.l0 k1 a1 y296 ji12) = some r := by (rw [hy296]; with_reducible exact H)
           have Ny296 := Aside0.mk hy296;clear hy296;have H' := Aside0.mk H;clear H;have p294 : 0 ≤ ((ji12) : Int) := odt (by with_reducible assumption);have q294 : (ji12) < (x5_1.length : Int) := odt (by with_reducible assumption);obtain ⟨ad294,A294_4,c294_4,e294,hx294_0,hx294_1,hx294_2,hx294_3,hx294_4,hl294_4,hi294_4⟩ := at_T63 (Kd.N_reads' HO_5.out).2.2 (ji12) p294 q294
           cases e294
           obtain ⟨ce294,hce294,hMe294,hcc294⟩ := Kd.N_get HO_5.out z63 (ji12) p294 (by exact q294);obtain ⟨ua294_4,uc294_4,rfl,ul294_4,ge294_4⟩ := k63_openF hMe294;have hv294_4 := hcc294 4 _ rfl;rw [add_field _ _ 4 (by omega)] at hv294_4;replace hv294_4 := Option.some.inj (hv294_4.symm.trans hx294_4)
           injection hv294_4 with hva_ hvn_ hvc_
           rw [hva_] at ge294_4;rw [hvc_] at ul294_4;have HL294_4 := Aside0.mk (show Kd.V k65 65 _ w.heap.size _ _ ((rd_T63 x5_1 (ji12)).f4) from Kd.V_mk ul294_4 ge294_4);clear hva_ hvn_ hvc_ ge294_4 ul294_4;clear hcc294 hce294;have HR294_4 := Aside0.mk hi294_4;have HC294_4 := Aside0.mk hl294_4;clear hi294_4 hl294_4;replace p294 := eq_true p294;replace q294 := eq_true q294;have p295 : 0 ≤ ((ji12) : Int) := odt (by with_reducible assumption);have q295 : (ji12) < (x5_1.length : Int) := odt (by with_reducible assumption);obtain ⟨ad295,A295_4,c295_4,e295,hx295_0,hx295_1,hx295_2,hx295_3,hx295_4,hl295_4,hi295_4⟩ := at_T63 (Kd.N_reads' HO_5.out).2.2 (ji12) p295 q295;obtain rfl : ad294 = ad295 := (by injection e295);obtain ⟨ce295,hce295,hMe295,hcc295⟩ := Kd.N_get HO_5.out z63 (ji12) p295 (by exact q295);obtain ⟨ua295_4,uc295_4,rfl,ul295_4,ge295_4⟩ := k63_openF hMe295;have hv295_4 := hcc295 4 _ rfl;rw [add_field _ _ 4 (by omega)] at hv295_4;replace hv295_4 := Option.some.inj (hv295_4.symm.trans hx295_4)
           injection hv295_4 with hva_ hvn_ hvc_
           rw [hva_] at ge295_4;rw [hvc_] at ul295_4;have HL295_4 := Aside0.mk (show Kd.V k65 65 _ w.heap.size _ _ ((rd_T63 x5_1 (ji12)).f4) from Kd.V_mk ul295_4 ge295_4);clear hva_ hvn_ hvc_ ge295_4 ul295_4;clear hcc295 hce295;have HR295_4 := Aside0.mk hi295_4;have HC295_4 := Aside0.mk hl295_4;clear hi295_4 hl295_4;replace p295 := eq_true p295;replace q295 := eq_true q295;have ea_ := Option.some.inj (hx294_4.symm.trans hx295_4)
           injection ea_ with ea_ en_ ec_
           subst ea_;subst ec_;clear en_;have p18 : 0 ≤ (x6_1 : Int) := odt (by with_reducible assumption);have q18 : (x6_1 : Int) < ((x5_1.length : Int) : Int) := odt (by with_reducible assumption);obtain ⟨go18,co18,eo18,gb18,gl18,cl18,HG18⟩ := Kd.N_form HO_5.out (by omega)
           (cases eo18)
           have GB18 := Aside0.mk gb18;have GG18 := Aside0.mk HG18;clear gb18 gl18 HG18
           (simp only [add_plain] at hx294_0)
           (simp only [add_plain] at hx294_1)
           (simp only [add_plain] at hx294_2)
           (simp only [add_plain] at hx294_3)
           (simp only [add_plain] at hx294_4)
           (simp only [add_plain] at hx295_0)
           (simp only [add_plain] at hx295_1)
           (simp only [add_plain] at hx295_2)
           (simp only [add_plain] at hx295_3)
           (simp only [add_plain] at hx295_4)
           obtain ⟨ce18,hcl18,hM18,hcc18,hfr18⟩ := Kd.N_elem HO_5.out z63 (x6_1 : Int) p18 q18;obtain ⟨ua18_4,uc18_4,rfl,ul18_4,ge18_4⟩ := k63_openF hM18;have hx18_0 : wr.cell? ⟨go18,(x6_1 : Int).toNat * 5,none⟩ = some (.string ((rd_T63 x5_1 x6_1).f0)) := hcc18 0 _ rfl;have hx18_1 : wr.cell? ⟨go18,(x6_1 : Int).toNat * 5 + 1,none⟩ = some (.int .i64 ((rd_T63 x5_1 x6_1).f1)) := hcc18 1 _ rfl;have hx18_2 : wr.cell? ⟨go18,(x6_1 : Int).toNat * 5 + 2,none⟩ = some (.int .i64 ((rd_T63 x5_1 x6_1).f2)) := hcc18 2 _ rfl;have hx18_3 : wr.cell? ⟨go18,(x6_1 : Int).toNat * 5 + 3,none⟩ = some (.int .i64 ((rd_T63 x5_1 x6_1).f3)) := hcc18 3 _ rfl;have hx18_4 : wr.cell? ⟨go18,(x6_1 : Int).toNat * 5 + 4,none⟩ = some (.slice ua18_4 ((rd_T63 x5_1 x6_1).f4).length uc18_4) := hcc18 4 _ rfl;have hf18_0 : wr.frozen? ⟨go18,(x6_1 : Int).toNat * 5,none⟩ = false := hfr18 0;have hf18_1 : wr.frozen? ⟨go18,(x6_1 : Int).toNat * 5 + 1,none⟩ = false := hfr18 1;have hf18_2 : wr.frozen? ⟨go18,(x6_1 : Int).toNat * 5 + 2,none⟩ = false := hfr18 2;have hf18_3 : wr.frozen? ⟨go18,(x6_1 : Int).toNat * 5 + 3,none⟩ = false := hfr18 3;have hf18_4 : wr.frozen? ⟨go18,(x6_1 : Int).toNat * 5 + 4,none⟩ = false := hfr18 4;clear hcl18 hcc18 hfr18 hM18;replace p18 := eq_true p18;replace q18 := eq_true q18;have HX19 := Aside0.mk (show Kd.N k63 63 wr w.heap.size (fun k_ => (w.heap.size ≤ k_)) (.slice (some ⟨go18,0,none⟩) x5_1.length co10) x5_1 from (by exact HO_5.out));obtain ⟨ce19,hcl19,hM19,hcc19,hfr19⟩ := Kd.N_elem HX19.out z63 (x6_1 : Int) (odt (by with_reducible assumption)) (by have h_ : (x6_1 : Int) < ((x5_1.length : Int) : Int) := odt (by with_reducible assumption); exact h_);obtain ⟨ua19_4,uc19_4,rfl,ul19_4,ge19_4⟩ := k63_openF hM19;have HP19 := Kd.N_seg HX19.out (x6_1 : Int) (odt (by with_reducible assumption)) (by have h_ : (x6_1 : Int) < ((x5_1.length : Int) : Int) := odt (by with_reducible assumption); exact h_) (seg := [.string ((rd_T63 x5_1 (ji12)).f0),.int .i64 ((rd_T63 x5_1 (ji12)).f1),.int .i64 ((rd_T63 x5_1 (ji12)).f2),.int .i64 ((rd_T63 x5_1 (ji12)).f3),.slice A294_4 ((rd_T63 x5_1 (ji12)).f4).length c294_4]) (j := 0) hcl19 hcc19 (show 5 ≤ 5 from by decide) (x' := (⟨(rd_T63 x5_1 (ji12)).f0,(rd_T63 x5_1 (ji12)).f1,(rd_T63 x5_1 (ji12)).f2,(rd_T63 x5_1 (ji12)).f3,(rd_T63 x5_1 (ji12)).f4⟩ : S63)) (k63_mkF _ _ (⟨(rd_T63 x5_1 (ji12)).f0,(rd_T63 x5_1 (ji12)).f1,(rd_T63 x5_1 (ji12)).f2,(rd_T63 x5_1 (ji12)).f3,(rd_T63 x5_1 (ji12)).f4⟩ : S63) (Kd.V_reads' (Kd.V_mono (ok' := (fun k_ => (fun k_ => (w.heap.size ≤ k_)) k_ ∧ k_ ≠ go18)) (HL295_4.out) (fun k_ hk => ⟨hk.1,fun e_ => (hk.2) (by rw [e_]; rfl)⟩))).2.1 (Kd.V_F (Kd.V_mono (ok' := (fun k_ => (fun k_ => (w.heap.size ≤ k_)) k_ ∧ k_ ≠ go18)) (HL295_4.out) (fun k_ hk => ⟨hk.1,fun e_ => (hk.2) (by rw [e_]; rfl)⟩)))) (fun _ hk => hk);have hx19_0 := hcc19 0 _ rfl
           (try simp only [show (k63).sz = 5 from rfl,Nat.mul_one,Nat.add_zero] at hx19_0)
           have hf19_0 := hfr19 0
           (try simp only [show (k63).sz = 5 from rfl,Nat.mul_one,Nat.add_zero] at hf19_0)
           have hx19_1 := hcc19 1 _ rfl
           (try simp only [show (k63).sz = 5 from rfl,Nat.mul_one,Nat.add_zero] at hx19_1)
           have hf19_1 := hfr19 1
           (try simp only [show (k63).sz = 5 from rfl,Nat.mul_one,Nat.add_zero] at hf19_1)
           have hx19_2 := hcc19 2 _ rfl
           (try simp only [show (k63).sz = 5 from rfl,Nat.mul_one,Nat.add_zero] at hx19_2)
           have hf19_2 := hfr19 2
           (try simp only [show (k63).sz = 5 from rfl,Nat.mul_one,Nat.add_zero] at hf19_2)
           have hx19_3 := hcc19 3 _ rfl
           (try simp only [show (k63).sz = 5 from rfl,Nat.mul_one,Nat.add_zero] at hx19_3)
           have hf19_3 := hfr19 3
           (try simp only [show (k63).sz = 5 from rfl,Nat.mul_one,Nat.add_zero] at hf19_3)
           have hx19_4 := hcc19 4 _ rfl
           (try simp only [show (k63).sz = 5 from rfl,Nat.mul_one,Nat.add_zero] at hx19_4)
           have hf19_4 := hfr19 4
           (try simp only [show (k63).sz = 5 from rfl,Nat.mul_one,Nat.add_zero] at hf19_4)
           clear hcl19 hcc19 hfr19 hM19
           go_wp2_with (((with_reducible refine gate_store (t := 63) (p := 40) rfl ?_); refine store_event (t := 63) (p := 40) (v := ?vo_w20) (w1 := (((((wr.setCell ⟨go18,(x6_1 : Int).toNat * 5,none⟩ (.string ((rd_T63 x5_1 (ji12)).f0))).setCell ⟨go18,(x6_1 : Int).toNat * 5 + 1,none⟩ (.int .i64 ((rd_T63 x5_1 (ji12)).f1))).setCell ⟨go18,(x6_1 : Int).toNat * 5 + 2,none⟩ (.int .i64 ((rd_T63 x5_1 (ji12)).f2))).setCell ⟨go18,(x6_1 : Int).toNat * 5 + 3,none⟩ (.int .i64 ((rd_T63 x5_1 (ji12)).f3))).setCell ⟨go18,(x6_1 : Int).toNat * 5 + 4,none⟩ (.slice A294_4 ((rd_T63 x5_1 (ji12)).f4).length c294_4))) ?hg ?ho ?hn ?hr ?_; (case ho => rfl); (case hg => rfl); (case hn => rfl); (case hr => (go_simp; done)); intro w20 hw; have hg : wr.grownBy w20 (some go18) := (by rw [hw]; exact HP19.2); have hp_ : Kd.N k63 63 w20 w.heap.size (fun k_ => (w.heap.size ≤ k_)) (.slice (some ⟨go18,0,none⟩) x5_1.length co10) y296 := (by rw [hw,Ny296.out]; exact HP19.1); clear HP19; replace HO_5 := Aside0.mk (hp_); replace HL294_4 := Aside0.mk (Kd.V_afterv (v := (.slice (some ⟨go18,0,none⟩) x5_1.length co10)) (v1 := (.slice (some ⟨go18,0,none⟩) x5_1.length co10)) (ok := (fun k_ => (w.heap.size ≤ k_))) (by exact HL294_4.out) hg (.inl rfl)); replace HL295_4 := Aside0.mk (Kd.V_afterv (v := (.slice (some ⟨go18,0,none⟩) x5_1.length co10)) (v1 := (.slice (some ⟨go18,0,none⟩) x5_1.length co10)) (ok := (fun k_ => (w.heap.size ≤ k_))) (by exact HL295_4.out) hg (.inl rfl)); replace HB := Aside0.mk (by rw [hw]; exact below_set (below_set (below_set (below_set (below_set (HB.out) GB18.out) GB18.out) GB18.out) GB18.out) GB18.out : Below w.heap.size w w20); clear hg hw hp_))
           (try simp only [← hl5_1])
           go_roundg k1
           case measure => have := HK1.out; omega
           case rel => exact ⟨(y296),(ji12),(by rfl),H',⟨by have := HK1.out; omega⟩,⟨by (try simp only [hl5_1]); exact HO_5.out⟩,⟨HB.out⟩⟩
          ·rw [if_neg c17] at H;exact absurd H (by simp)
         ·rw [if_neg c16] at H;exact absurd H (by simp)
        ·rw [if_neg c15] at H
         have c15b0 : (Op.bytesLess a1.toList (((rd_T63 x5_1 (ji12)).f0).toList)) = false := by simpa using c15
         clear c15
         by_cases c21 : 0 ≤ x6_1
         ·rw [if_pos c21] at H;have c21b0 := decide_eq_true c21;clear c21
          by_cases c22 : x6_1 < (x5_1.length : Int)
          ·rw [if_pos c22] at H;have c22b0 := decide_eq_true c22;clear c22;obtain ⟨y297,hy297⟩ : ∃ y_ : List (S63),y_ = (x5_1.set (x6_1 : Int).toNat (⟨a1,0,0,0,([] : List (S65))⟩ : S63)) := ⟨_,rfl⟩
           replace H : (some y297) = some r := by (rw [hy297]; with_reducible exact H)
           have Ny297 := Aside0.mk hy297;clear hy297;obtain rfl := Option.some.inj H;have p294 : 0 ≤ ((ji12) : Int) := odt (by with_reducible assumption);have q294 : (ji12) < (x5_1.length : Int) := odt (by with_reducible assumption);obtain ⟨ad294,A294_4,c294_4,e294,hx294_0,hx294_1,hx294_2,hx294_3,hx294_4,hl294_4,hi294_4⟩ := at_T63 (Kd.N_reads' HO_5.out).2.2 (ji12) p294 q294
           cases e294
           obtain ⟨ce294,hce294,hMe294,hcc294⟩ := Kd.N_get HO_5.out z63 (ji12) p294 (by exact q294);obtain ⟨ua294_4,uc294_4,rfl,ul294_4,ge294_4⟩ := k63_openF hMe294;have hv294_4 := hcc294 4 _ rfl;rw [add_field _ _ 4 (by omega)] at hv294_4;replace hv294_4 := Option.some.inj (hv294_4.symm.trans hx294_4)
           injection hv294_4 with hva_ hvn_ hvc_
           rw [hva_] at ge294_4;rw [hvc_] at ul294_4;have HL294_4 := Aside0.mk (show Kd.V k65 65 _ w.heap.size _ _ ((rd_T63 x5_1 (ji12)).f4) from Kd.V_mk ul294_4 ge294_4);clear hva_ hvn_ hvc_ ge294_4 ul294_4;clear hcc294 hce294;have HR294_4 := Aside0.mk hi294_4;have HC294_4 := Aside0.mk hl294_4;clear hi294_4 hl294_4;replace p294 := eq_true p294;replace q294 := eq_true q294;have p23 : 0 ≤ (x6_1 : Int) := odt (by with_reducible assumption);have q23 : (x6_1 : Int) < ((x5_1.length : Int) : Int) := odt (by with_reducible assumption);obtain ⟨go23,co23,eo23,gb23,gl23,cl23,HG23⟩ := Kd.N_form HO_5.out (by omega)
           (cases eo23)
           have GB23 := Aside0.mk gb23;have GG23 := Aside0.mk HG23;clear gb23 gl23 HG23
           (simp only [add_plain] at hx294_0)
           (simp only [add_plain] at hx294_1)
           (simp only [add_plain] at hx294_2)
           (simp only [add_plain] at hx294_3)
           (simp only [add_plain] at hx294_4)
           obtain ⟨ce23,hcl23,hM23,hcc23,hfr23⟩ := Kd.N_elem HO_5.out z63 (x6_1 : Int) p23 q23;obtain ⟨ua23_4,uc23_4,rfl,ul23_4,ge23_4⟩ := k63_openF hM23;have hx23_0 : wr.cell? ⟨go23,(x6_1 : Int).toNat * 5,none⟩ = some (.string ((rd_T63 x5_1 x6_1).f0)) := hcc23 0 _ rfl;have hx23_1 : wr.cell? ⟨go23,(x6_1 : Int).toNat * 5 + 1,none⟩ = some (.int .i64 ((rd_T63 x5_1 x6_1).f1)) := hcc23 1 _ rfl;have hx23_2 : wr.cell? ⟨go23,(x6_1 : Int).toNat * 5 + 2,none⟩ = some (.int .i64 ((rd_T63 x5_1 x6_1).f2)) := hcc23 2 _ rfl;have hx23_3 : wr.cell? ⟨go23,(x6_1 : Int).toNat * 5 + 3,none⟩ = some (.int .i64 ((rd_T63 x5_1 x6_1).f3)) := hcc23 3 _ rfl;have hx23_4 : wr.cell? ⟨go23,(x6_1 : Int).toNat * 5 + 4,none⟩ = some (.slice ua23_4 ((rd_T63 x5_1 x6_1).f4).length uc23_4) := hcc23 4 _ rfl;have hf23_0 : wr.frozen? ⟨go23,(x6_1 : Int).toNat * 5,none⟩ = false := hfr23 0;have hf23_1 : wr.frozen? ⟨go23,(x6_1 : Int).toNat * 5 + 1,none⟩ = false := hfr23 1;have hf23_2 : wr.frozen? ⟨go23,(x6_1 : Int).toNat * 5 + 2,none⟩ = false := hfr23 2;have hf23_3 : wr.frozen? ⟨go23,(x6_1 : Int).toNat * 5 + 3,none⟩ = false := hfr23 3;have hf23_4 : wr.frozen? ⟨go23,(x6_1 : Int).toNat * 5 + 4,none⟩ = false := hfr23 4;clear hcl23 hcc23 hfr23 hM23;replace p23 := eq_true p23;replace q23 := eq_true q23;have HX24 := Aside0.mk (show Kd.N k63 63 wr w.heap.size (fun k_ => (w.heap.size ≤ k_)) (.slice (some ⟨go23,0,none⟩) x5_1.length co10) x5_1 from (by exact HO_5.out));obtain ⟨ce24,hcl24,hM24,hcc24,hfr24⟩ := Kd.N_elem HX24.out z63 (x6_1 : Int) (odt (by with_reducible assumption)) (by have h_ : (x6_1 : Int) < ((x5_1.length : Int) : Int) := odt (by with_reducible assumption); exact h_);obtain ⟨ua24_4,uc24_4,rfl,ul24_4,ge24_4⟩ := k63_openF hM24;have HP24 := Kd.N_seg HX24.out (x6_1 : Int) (odt (by with_reducible assumption)) (by have h_ : (x6_1 : Int) < ((x5_1.length : Int) : Int) := odt (by with_reducible assumption); exact h_) (seg := [.string a1,.int .i64 0,.int .i64 0,.int .i64 0,.slice none 0 0]) (j := 0) hcl24 hcc24 (show 5 ≤ 5 from by decide) (x' := (⟨a1,0,0,0,([] : List (S65))⟩ : S63)) (k63_mkF _ _ (⟨a1,0,0,0,([] : List (S65))⟩ : S63) (Nat.le_refl _) (Kd.F_nil _ _ _)) (fun _ hk => hk);have hx24_0 := hcc24 0 _ rfl
           (try simp only [show (k63).sz = 5 from rfl,Nat.mul_one,Nat.add_zero] at hx24_0)
           have hf24_0 := hfr24 0
           (try simp only [show (k63).sz = 5 from rfl,Nat.mul_one,Nat.add_zero] at hf24_0)
           have hx24_1 := hcc24 1 _ rfl
           (try simp only [show (k63).sz = 5 from rfl,Nat.mul_one,Nat.add_zero] at hx24_1)
           have hf24_1 := hfr24 1
           (try simp only [show (k63).sz = 5 from rfl,Nat.mul_one,Nat.add_zero] at hf24_1)
           have hx24_2 := hcc24 2 _ rfl
           (try simp only [show (k63).sz = 5 from rfl,Nat.mul_one,Nat.add_zero] at hx24_2)
           have hf24_2 := hfr24 2
           (try simp only [show (k63).sz = 5 from rfl,Nat.mul_one,Nat.add_zero] at hf24_2)
           have hx24_3 := hcc24 3 _ rfl
           (try simp only [show (k63).sz = 5 from rfl,Nat.mul_one,Nat.add_zero] at hx24_3)
           have hf24_3 := hfr24 3
           (try simp only [show (k63).sz = 5 from rfl,Nat.mul_one,Nat.add_zero] at hf24_3)
           have hx24_4 := hcc24 4 _ rfl
           (try simp only [show (k63).sz = 5 from rfl,Nat.mul_one,Nat.add_zero] at hx24_4)
           have hf24_4 := hfr24 4
           (try simp only [show (k63).sz = 5 from rfl,Nat.mul_one,Nat.add_zero] at hf24_4)
           clear hcl24 hcc24 hfr24 hM24
           go_wp2_with (((with_reducible refine gate_store (t := 63) (p := 47) rfl ?_); refine store_event (t := 63) (p := 47) (v := ?vo_w25) (w1 := (((((wr.setCell ⟨go23,(x6_1 : Int).toNat * 5,none⟩ (.string a1)).setCell ⟨go23,(x6_1 : Int).toNat * 5 + 1,none⟩ (.int .i64 0)).setCell ⟨go23,(x6_1 : Int).toNat * 5 + 2,none⟩ (.int .i64 0)).setCell ⟨go23,(x6_1 : Int).toNat * 5 + 3,none⟩ (.int .i64 0)).setCell ⟨go23,(x6_1 : Int).toNat * 5 + 4,none⟩ (.slice none 0 0))) ?hg ?ho ?hn ?hr ?_; (case ho => rfl); (case hg => rfl); (case hn => rfl); (case hr => (go_simp; done)); intro w25 hw; have hg : wr.grownBy w25 (some go23) := (by rw [hw]; exact HP24.2); have hp_ : Kd.N k63 63 w25 w.heap.size (fun k_ => (w.heap.size ≤ k_)) (.slice (some ⟨go23,0,none⟩) x5_1.length co10) y297 := (by rw [hw,Ny297.out]; exact HP24.1); clear HP24; replace HO_5 := Aside0.mk (hp_); replace HL294_4 := Aside0.mk (Kd.V_afterv (v := (.slice (some ⟨go23,0,none⟩) x5_1.length co10)) (v1 := (.slice (some ⟨go23,0,none⟩) x5_1.length co10)) (ok := (fun k_ => (w.heap.size ≤ k_))) (by exact HL294_4.out) hg (.inl rfl)); replace HB := Aside0.mk (by rw [hw]; exact below_set (below_set (below_set (below_set (below_set (HB.out) GB23.out) GB23.out) GB23.out) GB23.out) GB23.out : Below w.heap.size w w25); clear hg hw hp_))
           go_ret;exact ⟨_,by rfl,by exact HO_5.out,HB.out⟩
          ·rw [if_neg c22] at H;exact absurd H (by simp)
         ·rw [if_neg c21] at H;exact absurd H (by simp)
       ·rw [if_neg c14] at H;exact absurd H (by simp)
      ·rw [if_neg c13] at H;exact absurd H (by simp)
     ·rw [if_neg c11] at H;have c11b0 := decide_eq_false c11;clear c11
      by_cases c26 : 0 ≤ x6_1
      ·rw [if_pos c26] at H;have c26b0 := decide_eq_true c26;clear c26
       by_cases c27 : x6_1 < (x5_1.length : Int)
       ·rw [if_pos c27] at H;have c27b0 := decide_eq_true c27;clear c27;obtain ⟨y298,hy298⟩ : ∃ y_ : List (S63),y_ = (x5_1.set (x6_1 : Int).toNat (⟨a1,0,0,0,([] : List (S65))⟩ : S63)) := ⟨_,rfl⟩
        replace H : (some y298) = some r := by (rw [hy298]; with_reducible exact H)
        have Ny298 := Aside0.mk hy298;clear hy298;obtain rfl := Option.some.inj H;have p28 : 0 ≤ (x6_1 : Int) := odt (by with_reducible assumption);have q28 : (x6_1 : Int) < ((x5_1.length : Int) : Int) := odt (by with_reducible assumption);obtain ⟨go28,co28,eo28,gb28,gl28,cl28,HG28⟩ := Kd.N_form HO_5.out (by omega)
        (cases eo28)
        have GB28 := Aside0.mk gb28;have GG28 := Aside0.mk HG28;clear gb28 gl28 HG28;obtain ⟨ce28,hcl28,hM28,hcc28,hfr28⟩ := Kd.N_elem HO_5.out z63 (x6_1 : Int) p28 q28;obtain ⟨ua28_4,uc28_4,rfl,ul28_4,ge28_4⟩ := k63_openF hM28;have hx28_0 : wr.cell? ⟨go28,(x6_1 : Int).toNat * 5,none⟩ = some (.string ((rd_T63 x5_1 x6_1).f0)) := hcc28 0 _ rfl;have hx28_1 : wr.cell? ⟨go28,(x6_1 : Int).toNat * 5 + 1,none⟩ = some (.int .i64 ((rd_T63 x5_1 x6_1).f1)) := hcc28 1 _ rfl;have hx28_2 : wr.cell? ⟨go28,(x6_1 : Int).toNat * 5 + 2,none⟩ = some (.int .i64 ((rd_T63 x5_1 x6_1).f2)) := hcc28 2 _ rfl;have hx28_3 : wr.cell? ⟨go28,(x6_1 : Int).toNat * 5 + 3,none⟩ = some (.int .i64 ((rd_T63 x5_1 x6_1).f3)) := hcc28 3 _ rfl;have hx28_4 : wr.cell? ⟨go28,(x6_1 : Int).toNat * 5 + 4,none⟩ = some (.slice ua28_4 ((rd_T63 x5_1 x6_1).f4).length uc28_4) := hcc28 4 _ rfl;have hf28_0 : wr.frozen? ⟨go28,(x6_1 : Int).toNat * 5,none⟩ = false := hfr28 0;have hf28_1 : wr.frozen? ⟨go28,(x6_1 : Int).toNat * 5 + 1,none⟩ = false := hfr28 1;have hf28_2 : wr.frozen? ⟨go28,(x6_1 : Int).toNat * 5 + 2,none⟩ = false := hfr28 2;have hf28_3 : wr.frozen? ⟨go28,(x6_1 : Int).toNat * 5 + 3,none⟩ = false := hfr28 3;have hf28_4 : wr.frozen? ⟨go28,(x6_1 : Int).toNat * 5 + 4,none⟩ = false := hfr28 4;clear hcl28 hcc28 hfr28 hM28;replace p28 := eq_true p28;replace q28 := eq_true q28;have HX29 := Aside0.mk (show Kd.N k63 63 wr w.heap.size (fun k_ => (w.heap.size ≤ k_)) (.slice (some ⟨go28,0,none⟩) x5_1.length co10) x5_1 from (by exact HO_5.out));obtain ⟨ce29,hcl29,hM29,hcc29,hfr29⟩ := Kd.N_elem HX29.out z63 (x6_1 : Int) (odt (by with_reducible assumption)) (by have h_ : (x6_1 : Int) < ((x5_1.length : Int) : Int) := odt (by with_reducible assumption); exact h_);obtain ⟨ua29_4,uc29_4,rfl,ul29_4,ge29_4⟩ := k63_openF hM29;have HP29 := Kd.N_seg HX29.out (x6_1 : Int) (odt (by with_reducible assumption)) (by have h_ : (x6_1 : Int) < ((x5_1.length : Int) : Int) := odt (by with_reducible assumption); exact h_) (seg := [.string a1,.int .i64 0,.int .i64 0,.int .i64 0,.slice none 0 0]) (j := 0) hcl29 hcc29 (show 5 ≤ 5 from by decide) (x' := (⟨a1,0,0,0,([] : List (S65))⟩ : S63)) (k63_mkF _ _ (⟨a1,0,0,0,([] : List (S65))⟩ : S63) (Nat.le_refl _) (Kd.F_nil _ _ _)) (fun _ hk => hk);have hx29_0 := hcc29 0 _ rfl
        (try simp only [show (k63).sz = 5 from rfl,Nat.mul_one,Nat.add_zero] at hx29_0)
        have hf29_0 := hfr29 0
        (try simp only [show (k63).sz = 5 from rfl,Nat.mul_one,Nat.add_zero] at hf29_0)
        have hx29_1 := hcc29 1 _ rfl
        (try simp only [show (k63).sz = 5 from rfl,Nat.mul_one,Nat.add_zero] at hx29_1)
        have hf29_1 := hfr29 1
        (try simp only [show (k63).sz = 5 from rfl,Nat.mul_one,Nat.add_zero] at hf29_1)
        have hx29_2 := hcc29 2 _ rfl
        (try simp only [show (k63).sz = 5 from rfl,Nat.mul_one,Nat.add_zero] at hx29_2)
        have hf29_2 := hfr29 2
        (try simp only [show (k63).sz = 5 from rfl,Nat.mul_one,Nat.add_zero] at hf29_2)
        have hx29_3 := hcc29 3 _ rfl
        (try simp only [show (k63).sz = 5 from rfl,Nat.mul_one,Nat.add_zero] at hx29_3)
        have hf29_3 := hfr29 3
        (try simp only [show (k63).sz = 5 from rfl,Nat.mul_one,Nat.add_zero] at hf29_3)
        have hx29_4 := hcc29 4 _ rfl
        (try simp only [show (k63).sz = 5 from rfl,Nat.mul_one,Nat.add_zero] at hx29_4)
        have hf29_4 := hfr29 4
        (try simp only [show (k63).sz = 5 from rfl,Nat.mul_one,Nat.add_zero] at hf29_4)
        clear hcl29 hcc29 hfr29 hM29
        go_wp2_with (((with_reducible refine gate_store (t := 63) (p := 47) rfl ?_); refine store_event (t := 63) (p := 47) (v := ?vo_w30) (w1 := (((((wr.setCell ⟨go28,(x6_1 : Int).toNat * 5,none⟩ (.string a1)).setCell ⟨go28,(x6_1 : Int).toNat * 5 + 1,none⟩ (.int .i64 0)).setCell ⟨go28,(x6_1 : Int).toNat * 5 + 2,none⟩ (.int .i64 0)).setCell ⟨go28,(x6_1 : Int).toNat * 5 + 3,none⟩ (.int .i64 0)).setCell ⟨go28,(x6_1 : Int).toNat * 5 + 4,none⟩ (.slice none 0 0))) ?hg ?ho ?hn ?hr ?_; (case ho => rfl); (case hg => rfl); (case hn => rfl); (case hr => (go_simp; done)); intro w30 hw; have hg : wr.grownBy w30 (some go28) := (by rw [hw]; exact HP29.2); have hp_ : Kd.N k63 63 w30 w.heap.size (fun k_ => (w.heap.size ≤ k_)) (.slice (some ⟨go28,0,none⟩) x5_1.length co10) y298 := (by rw [hw,Ny298.out]; exact HP29.1); clear HP29; replace HO_5 := Aside0.mk (hp_); replace HB := Aside0.mk (by rw [hw]; exact below_set (below_set (below_set (below_set (below_set (HB.out) GB28.out) GB28.out) GB28.out) GB28.out) GB28.out : Below w.heap.size w w30); clear hg hw hp_))
        go_ret;exact ⟨_,by rfl,by exact HO_5.out,HB.out⟩
       ·rw [if_neg c27] at H;exact absurd H (by simp)
      ·rw [if_neg c26] at H;exact absurd H (by simp)
  ·rw [if_neg c7] at H;exact absurd H (by simp)

/-! ### spec_l6Leave: function 107 -/
mutual
def spec_l6Leave.l0 : Nat → List (S65) → Int → Int → List (S65) → Bool → Int → Option (List (S65))
 | 0,_,_,_,_,_,_ => none
 | k + 1,x0,x1,x2,x7,x8,x9 => if x9 < (x0.length : Int) then (if 0 ≤ x9 then (if x8 = true then (spec_l6Leave.j1 k x0 x1 x2 x7 x8 x9 false ((rd_T65 x0 x9).f0) ((rd_T65 x0 x9).f1)) else (spec_l6Leave.j1 k x0 x1 x2 x7 x8 x9 (((rd_T65 x0 x9).f1) == x2) ((rd_T65 x0 x9).f0) ((rd_T65 x0 x9).f1))) else (none)) else (if x8 = true then (some x7) else (if x7.length < 8796093022208 then (some (x7 ++ [(⟨x1,x2⟩ : S65)])) else (none)))
def spec_l6Leave.j1 : Nat → List (S65) → Int → Int → List (S65) → Bool → Int → Bool → Int → Int → Option (List (S65))
 | 0,_,_,_,_,_,_,_,_,_ => none
 | k + 1,x0,x1,x2,x7,x8,x9,x29,x307000,x307001 => if x29 = true then (if x7.length < 8796093022208 then (spec_l6Leave.l0 k x0 x1 x2 (x7 ++ [(⟨wrap64 (x307000 + x1),x307001⟩ : S65)]) true (wrap64 (x9 + 1))) else (none)) else (if x8 = true then (if x7.length < 8796093022208 then (spec_l6Leave.l0 k x0 x1 x2 (x7 ++ [(⟨x307000,x307001⟩ : S65)]) x8 (wrap64 (x9 + 1))) else (none)) else (if x307001 > x2 then (if x7.length < 8796093022208 then ((some (x7 ++ [(⟨x1,x2⟩ : S65)] : List (S65))).bind fun y313 => (if y313.length < 8796093022208 then (spec_l6Leave.l0 k x0 x1 x2 (y313 ++ [(⟨x307000,x307001⟩ : S65)]) true (wrap64 (x9 + 1))) else (none))) else (none)) else (if x7.length < 8796093022208 then (spec_l6Leave.l0 k x0 x1 x2 (x7 ++ [(⟨x307000,x307001⟩ : S65)]) x8 (wrap64 (x9 + 1))) else (none))))
end
def spec_l6Leave.f (k : Nat) (l0 : List (S65)) (a1 : Int) (a2 : Int) : Option (List (S65)) := spec_l6Leave.l0 k l0 a1 a2 ([] : List (S65)) false 0
theorem spec_l6Leave.calls (k : Nat) (A0 : Option Addr) (c0 : Nat) (l0 : List (S65)) (a1 : Int) (a2 : Int) (r : List (S65)) (w : World) (hr0 : Kd.C k65 w A0 l0.length l0) (hc0 : l0.length ≤ c0) (h : spec_l6Leave.f k l0 a1 a2 = some r) :
  Calls Try.prog 107 #[.slice A0 l0.length c0,.int .i64 a1,.int .i64 a2] w fun e w' => ∃ v0_ : Value,e = .returned (v0_) ∧ Kd.R k65 65 w' w.heap.size (fun _ => True) v0_ r ∧ Below w.heap.size w w' := by
 have hu65 := Try.underlying65;have HR0 := Aside0.mk hr0;have HC0 := Aside0.mk hc0;clear hr0 hc0;have HB := Aside0.mk (Below.refl w.heap.size w);have H : (spec_l6Leave.l0 k l0 a1 a2 ([] : List (S65)) false 0) = some r := h;clear h;obtain ⟨y299,hy299⟩ : ∃ y_ : List (S65),y_ = ([] : List (S65)) := ⟨_,rfl⟩
 replace H : (spec_l6Leave.l0 k l0 a1 a2 y299 false 0) = some r := by (rw [hy299]; with_reducible exact H)
 have Ny299 := Aside0.mk hy299;clear hy299;have H' := Aside0.mk H;clear H;go_enter Try.func107,Try.ntmps107
 go_wp2_with (((with_reducible refine gate_dst (N := 11) rfl ?_); refine Kd.R_lit k65 _ 65 ?hg (N := 11) ?hd (xs := ([] : List (S65))) (inner := []) (ok := fun _ => True) (okp := fun _ => True) ?hr ?hp (fun _ hk => hk) trivial (Below.refl _ _) (Nat.le_refl _) (by simp) ?_; (case hd => rfl); (case hg => rfl); (case hr => (go_simp; done)); (case hp => exact (Reps.none _ _)); intro v300 w4 ho5 hb hg_ hnew_; clear hg_ hnew_; (rw [← Ny299.out] at ho5); have HO301 := Aside0.mk (Kd.R_lower ho5 (below_size HB.out)); replace HB := bst HB hb; clear hb ho5))
 go_loopg [7,8,9] k (fun kq v7 v8 v9 w' => ∃ (x7_1 : List (S65)) (x8_1 : Bool) (x9_1 : Int),v8 = .bool x8_1 ∧ v9 = .int .i64 x9_1 ∧ Aside0 (spec_l6Leave.l0 kq l0 a1 a2 x7_1 x8_1 x9_1 = some r) ∧ Aside0 (kq ≤ k) ∧ Aside0 (Kd.R k65 65 w' w.heap.size (fun _ => True) v7 x7_1) ∧ Aside0 (Below w.heap.size w w'))
 case atStart => exact ⟨(y299),(false),(0),(by rfl),(by rfl),H',⟨Nat.le_refl _⟩,⟨by exact HO301.out⟩,⟨HB.out⟩⟩
 case round =>
  clear H'
  try clear c1
  try clear p2
  obtain ⟨x7_1,x8_1,x9_1,rfl,rfl,HA,HK1,HO_7,HB⟩ := hrel
  cases gk with
  | zero => exact absurd HA.out (by simp [spec_l6Leave.l0])
  | succ k1 =>
   have H := HA.out;clear HA;simp only [spec_l6Leave.l0] at H
   by_cases c6 : x9_1 < (l0.length : Int)
   ·rw [if_pos c6] at H;have c6b0 := decide_eq_true c6;clear c6
    by_cases c7 : 0 ≤ x9_1
    ·rw [if_pos c7] at H;have c7b0 := decide_eq_true c7;clear c7;have HC8 := Aside0.mk H;clear H;have p305 : 0 ≤ (x9_1 : Int) := odt (by with_reducible assumption);have q305 : x9_1 < (l0.length : Int) := odt (by with_reducible assumption);obtain ⟨ad305,e305,hx305_0,hx305_1⟩ := at_T65 HR0.out x9_1 p305 q305
     cases e305
     replace hx305_0 := up_ HB.out hx305_0;replace hx305_1 := up_ HB.out hx305_1;replace p305 := eq_true p305;replace q305 := eq_true q305
     go_upto_region 7 with (((with_reducible refine gate_dst (N := 10) rfl ?_); refine box_event (by rfl) (N := 10) (by rfl) (cs := #[.int .i64 0,.int .i64 0]) (t := 65) (by go_simp; done) ?_; intro gb306 hg w9 hbox hb; replace HO_7 := Aside0.mk (Kd.R_below (Kd.R_elderB (by exact HO_7.out) gb306 (Nat.le_of_eq hg.symm)) hb); have BK306 := Aside0.mk hbox; have GW306 := gsz HB hg; have GE306 := GW306; replace HB := bst HB hb; clear hb hbox hg; obtain ⟨⟨hcz10_0,hcz10_1⟩,hfz10_0,hfz10_1⟩ := bc2 BK306.out))
     skip
     go_cut [29] (fun v29 wc => ∃ (kq : Nat) (x29_7 : Bool),v29 = .bool x29_7 ∧ Aside0 (spec_l6Leave.j1 kq l0 a1 a2 x7_1 x8_1 x9_1 x29_7 ((rd_T65 l0 x9_1).f0) ((rd_T65 l0 x9_1).f1) = some r) ∧ Aside0 (kq ≤ k1) ∧ Aside0 (Kd.R k65 65 wc w.heap.size (fun k_ => k_ ≠ gb306) u7 x7_1) ∧ Aside0 (wc.heap[gb306]? = some (.cells #[.int .i64 ((rd_T65 l0 x9_1).f0),.int .i64 ((rd_T65 l0 x9_1).f1)] 65 (0,0))) ∧ Aside0 (Below w.heap.size w wc))
     case first =>
      have H := HC8.out;clear HC8
      by_cases c11 : x8_1 = true
      ·subst c11
       rw [if_pos rfl] at H
       have H' := Aside0.mk H;clear H;go_wp2
       go_meet
       case rel => exact ⟨_,(false),(by rfl),H',⟨by have := HK1.out; omega⟩,⟨by exact Kd.R_mono (Kd.R_far (p := ⟨gb306,1,none⟩) (Kd.R_far (p := ⟨gb306,0,none⟩) (Kd.R_mono HO_7.out (fun k_ hk => (⟨hk,hk.2⟩ : _ ∧ k_ ≠ gb306))) (fun _ hk => hk.2) (.int .i64 ((rd_T65 l0 x9_1).f0))) (fun _ hk => hk.2) (.int .i64 ((rd_T65 l0 x9_1).f1))) (fun _ hk => hk.1.2)⟩,⟨by refine blk_put (cs := #[.int .i64 ((rd_T65 l0 x9_1).f0),.int .i64 0]) ?_ 1 _ rfl; refine blk_put (cs := #[.int .i64 0,.int .i64 0]) ?_ 0 _ rfl; exact BK306.out⟩,⟨by repeat (with_reducible first | exact HB.out | refine below_set ?_ GE306.out)⟩⟩
      ·replace c11 := Bool.eq_false_iff.mpr c11;subst c11
       rw [if_neg (show ¬ (false = true) by decide)] at H
       have H' := Aside0.mk H;clear H;obtain ⟨⟨hcz12_0,hcz12_1⟩,hfz12_0,hfz12_1⟩ := bc2 BK306.out;go_wp2
       go_meet
       case rel => exact ⟨_,(((rd_T65 l0 x9_1).f1) == a2),(by rfl),H',⟨by have := HK1.out; omega⟩,⟨by exact Kd.R_mono (Kd.R_far (p := ⟨gb306,1,none⟩) (Kd.R_far (p := ⟨gb306,0,none⟩) (Kd.R_mono HO_7.out (fun k_ hk => (⟨hk,hk.2⟩ : _ ∧ k_ ≠ gb306))) (fun _ hk => hk.2) (.int .i64 ((rd_T65 l0 x9_1).f0))) (fun _ hk => hk.2) (.int .i64 ((rd_T65 l0 x9_1).f1))) (fun _ hk => hk.1.2)⟩,⟨by refine blk_put (cs := #[.int .i64 ((rd_T65 l0 x9_1).f0),.int .i64 0]) ?_ 1 _ rfl; refine blk_put (cs := #[.int .i64 0,.int .i64 0]) ?_ 0 _ rfl; exact BK306.out⟩,⟨by repeat (with_reducible first | exact HB.out | refine below_set ?_ GE306.out)⟩⟩
     case rest =>
      clear HC8
      try clear c1
      try clear p2
      try clear p3
      try clear q3
      try clear hx3
      try clear c6
      try clear c6b0
      try clear c7
      try clear c7b0
      try clear c10
      try clear c11
      try clear hcz10_0
      try clear hcz10_1
      try clear hcz12_0
      try clear hcz12_1
      try clear hfz10_0
      try clear hfz10_1
      try clear hfz12_0
      try clear hfz12_1
      try clear hx305_0
      try clear hx305_1
      try clear p2
      try clear p305
      try clear q305
      obtain ⟨kq,x29_7,rfl,HA,HJ7,HO_7,BK306,HB⟩ := hcut
      cases kq with
      | zero => exact absurd HA.out (by simp [spec_l6Leave.j1])
      | succ kj7 =>
       have H := HA.out;clear HA;simp only [spec_l6Leave.j1] at H
       by_cases c13 : x29_7 = true
       ·subst c13
        rw [if_pos rfl] at H
        by_cases c14 : x7_1.length < 8796093022208
        ·rw [if_pos c14] at H;have LMc14 := Aside0.mk c14;clear c14;obtain ⟨y307,hy307⟩ : ∃ y_ : List (S65),y_ = (x7_1 ++ [(⟨wrap64 (((rd_T65 l0 x9_1).f0) + a1),((rd_T65 l0 x9_1).f1)⟩ : S65)]) := ⟨_,rfl⟩
         replace H : (spec_l6Leave.l0 kj7 l0 a1 a2 y307 true (wrap64 (x9_1 + 1))) = some r := by (rw [hy307]; with_reducible exact H)
         have Ny307 := Aside0.mk hy307;clear hy307;have H' := Aside0.mk H;clear H;obtain ⟨⟨hcz15_0,hcz15_1⟩,hfz15_0,hfz15_1⟩ := bc2 BK306.out
         go_wp2_with (((with_reducible refine gate_builtin (b := .append) (xs := #[.tmp 49,.tmp 51]) rfl ?_); at_builtin; refine Kd.R_append k65 (w0 := w) w.heap.size rfl (.tmp 49) (.tmp 51) 61 65 (.agg #[(.int .i64 0),(.int .i64 0)]) 16 rfl Try.underlying61 info65 rfl (by decide) (by omega) u7 x7_1 (⟨wrap64 (((rd_T65 l0 x9_1).f0) + a1),((rd_T65 l0 x9_1).f1)⟩ : S65) [.int .i64 (wrap64 (((rd_T65 l0 x9_1).f0) + a1)),.int .i64 ((rd_T65 l0 x9_1).f1)] (fun k_ => k_ ≠ gb306) (fun _ => False) rfl (by (go_simp; done)) ?aP (fun _ hk => hk.elim) ?aF ?aO ?aB ?aS ?aL ?_; (case aP => exact k65_mkM _ _ _ (⟨wrap64 (((rd_T65 l0 x9_1).f0) + a1),((rd_T65 l0 x9_1).f1)⟩ : S65)); (case aB => exact (by repeat (with_reducible first | exact HB.out | refine below_set ?_ GE306.out))); (case aF => exact (fun k_ hk => Kd.freshB (g := gb306) (o := .cells #[.int .i64 (wrap64 (((rd_T65 l0 x9_1).f0) + a1)),.int .i64 ((rd_T65 l0 x9_1).f1)] 65 (0,0)) (by refine blk_put (cs := #[.int .i64 ((rd_T65 l0 x9_1).f0),.int .i64 ((rd_T65 l0 x9_1).f1)]) ?_ 0 _ rfl; exact BK306.out) k_ hk)); (case aO => exact (by exact Kd.R_mono (Kd.R_far (p := ⟨gb306,0,none⟩) (Kd.R_mono HO_7.out (fun k_ hk => (⟨hk,hk⟩ : _ ∧ k_ ≠ gb306))) (fun _ hk => hk.2) (.int .i64 (wrap64 (((rd_T65 l0 x9_1).f0) + a1)))) (fun _ hk => hk.1))); (case aS => exact (below_size (by repeat (with_reducible first | exact HB.out | refine below_set ?_ GE306.out)))); (case aL => have := LMc14.out; omega); intro v308 w16 ho hb hg hat; rw [← Ny307.out] at ho; replace BK306 := Aside0.mk (blk_grown (g := gb306) (o := .cells #[.int .i64 (wrap64 (((rd_T65 l0 x9_1).f0) + a1)),.int .i64 ((rd_T65 l0 x9_1).f1)] 65 (0,0)) (by refine blk_put (cs := #[.int .i64 ((rd_T65 l0 x9_1).f0),.int .i64 ((rd_T65 l0 x9_1).f1)]) ?_ 0 _ rfl; exact BK306.out) hg (Kd.R_away HO_7.out (fun _ hk => hk))); replace HB := Aside0.mk (hb); have HO309 := Aside0.mk (ho); clear HO_7; clear ho hb hg hat))
         go_roundg kj7
         case measure => have := HK1.out; have := HJ7.out; omega
         case rel => exact ⟨(y307),(true),(wrap64 (x9_1 + 1)),(by rfl),(by rfl),H',⟨by have := HK1.out; have := HJ7.out; omega⟩,⟨by exact Kd.R_mono HO309.out (fun _ hk => trivial)⟩,⟨HB.out⟩⟩
        ·rw [if_neg c14] at H;exact absurd H (by simp)
       ·replace c13 := Bool.eq_false_iff.mpr c13;subst c13
        rw [if_neg (show ¬ (false = true) by decide)] at H
        by_cases c17 : x8_1 = true
        ·subst c17
         rw [if_pos rfl] at H
         by_cases c18 : x7_1.length < 8796093022208
         ·rw [if_pos c18] at H;have LMc18 := Aside0.mk c18;clear c18;obtain ⟨y310,hy310⟩ : ∃ y_ : List (S65),y_ = (x7_1 ++ [(⟨((rd_T65 l0 x9_1).f0),((rd_T65 l0 x9_1).f1)⟩ : S65)]) := ⟨_,rfl⟩
          replace H : (spec_l6Leave.l0 kj7 l0 a1 a2 y310 true (wrap64 (x9_1 + 1))) = some r := by (rw [hy310]; with_reducible exact H)
          have Ny310 := Aside0.mk hy310;clear hy310;have H' := Aside0.mk H;clear H;obtain ⟨⟨hcz19_0,hcz19_1⟩,hfz19_0,hfz19_1⟩ := bc2 BK306.out
          go_wp2_with (((with_reducible refine gate_builtin (b := .append) (xs := #[.tmp 49,.tmp 51]) rfl ?_); at_builtin; refine Kd.R_append k65 (w0 := w) w.heap.size rfl (.tmp 49) (.tmp 51) 61 65 (.agg #[(.int .i64 0),(.int .i64 0)]) 16 rfl Try.underlying61 info65 rfl (by decide) (by omega) u7 x7_1 (⟨((rd_T65 l0 x9_1).f0),((rd_T65 l0 x9_1).f1)⟩ : S65) [.int .i64 ((rd_T65 l0 x9_1).f0),.int .i64 ((rd_T65 l0 x9_1).f1)] (fun k_ => k_ ≠ gb306) (fun _ => False) rfl rfl ?aP (fun _ hk => hk.elim) ?aF ?aO ?aB ?aS ?aL ?_; (case aP => exact k65_mkM _ _ _ (⟨((rd_T65 l0 x9_1).f0),((rd_T65 l0 x9_1).f1)⟩ : S65)); (case aB => exact HB.out); (case aF => exact (fun k_ hk => Kd.freshB BK306.out k_ hk)); (case aO => exact (by exact HO_7.out)); (case aS => exact (below_size HB.out)); (case aL => have := LMc18.out; omega); intro v311 w20 ho hb hg hat; rw [← Ny310.out] at ho; replace BK306 := Aside0.mk (blk_grown BK306.out hg (Kd.R_away HO_7.out (fun _ hk => hk))); replace HB := Aside0.mk (hb); have HO312 := Aside0.mk (ho); clear HO_7; clear ho hb hg hat))
          go_roundg kj7
          case measure => have := HK1.out; have := HJ7.out; omega
          case rel => exact ⟨(y310),(true),(wrap64 (x9_1 + 1)),(by rfl),(by rfl),H',⟨by have := HK1.out; have := HJ7.out; omega⟩,⟨by exact Kd.R_mono HO312.out (fun _ hk => trivial)⟩,⟨HB.out⟩⟩
         ·rw [if_neg c18] at H;exact absurd H (by simp)
        ·replace c17 := Bool.eq_false_iff.mpr c17;subst c17
         rw [if_neg (show ¬ (false = true) by decide)] at H
         by_cases c21 : ((rd_T65 l0 x9_1).f1) > a2
         ·rw [if_pos c21] at H;have c21b0 := decide_eq_true c21;clear c21
          by_cases c22 : x7_1.length < 8796093022208
          ·rw [if_pos c22] at H;have LMc22 := Aside0.mk c22;clear c22;obtain ⟨y313,hy313⟩ : ∃ y_ : List (S65),y_ = (x7_1 ++ [(⟨a1,a2⟩ : S65)]) := ⟨_,rfl⟩
           replace H : (if y313.length < 8796093022208 then (spec_l6Leave.l0 kj7 l0 a1 a2 (y313 ++ [(⟨((rd_T65 l0 x9_1).f0),((rd_T65 l0 x9_1).f1)⟩ : S65)]) true (wrap64 (x9_1 + 1))) else (none)) = some r := by (have H2_ := (Option.bind_some _ _).symm.trans H; rw [hy313]; with_reducible exact H2_)
           have Ny313 := Aside0.mk hy313;clear hy313
           by_cases c23 : y313.length < 8796093022208
           ·rw [if_pos c23] at H;have LMc23 := Aside0.mk c23;clear c23;obtain ⟨y316,hy316⟩ : ∃ y_ : List (S65),y_ = (y313 ++ [(⟨((rd_T65 l0 x9_1).f0),((rd_T65 l0 x9_1).f1)⟩ : S65)]) := ⟨_,rfl⟩
            replace H : (spec_l6Leave.l0 kj7 l0 a1 a2 y316 true (wrap64 (x9_1 + 1))) = some r := by (rw [hy316]; with_reducible exact H)
            have Ny316 := Aside0.mk hy316;clear hy316;have H' := Aside0.mk H;clear H;obtain ⟨⟨hcz24_0,hcz24_1⟩,hfz24_0,hfz24_1⟩ := bc2 BK306.out
            go_wp2_with (first | ((with_reducible refine gate_builtin (b := .append) (xs := #[.tmp 43,.tmp 47]) rfl ?_); at_builtin; refine Kd.R_append k65 (w0 := w) w.heap.size rfl (.tmp 43) (.tmp 47) 61 65 (.agg #[(.int .i64 0),(.int .i64 0)]) 16 rfl Try.underlying61 info65 rfl (by decide) (by omega) u7 x7_1 (⟨a1,a2⟩ : S65) [.int .i64 a1,.int .i64 a2] (fun k_ => k_ ≠ gb306) (fun _ => False) rfl rfl ?aP (fun _ hk => hk.elim) ?aF ?aO ?aB ?aS ?aL ?_; (case aP => exact k65_mkM _ _ _ (⟨a1,a2⟩ : S65)); (case aB => exact HB.out); (case aF => exact (fun k_ hk => Kd.freshB BK306.out k_ hk)); (case aO => exact (by exact HO_7.out)); (case aS => exact (below_size HB.out)); (case aL => have := LMc22.out; omega); intro v314 w25 ho hb hg hat; rw [← Ny313.out] at ho; replace BK306 := Aside0.mk (blk_grown BK306.out hg (Kd.R_away HO_7.out (fun _ hk => hk))); replace HB := Aside0.mk (hb); have HO315 := Aside0.mk (ho); clear HO_7; clear ho hb hg hat; obtain ⟨⟨hcz26_0,hcz26_1⟩,hfz26_0,hfz26_1⟩ := bc2 BK306.out) | ((with_reducible refine gate_builtin (b := .append) (xs := #[.tmp 49,.tmp 51]) rfl ?_); at_builtin; refine Kd.R_append k65 (w0 := w) w.heap.size rfl (.tmp 49) (.tmp 51) 61 65 (.agg #[(.int .i64 0),(.int .i64 0)]) 16 rfl Try.underlying61 info65 rfl (by decide) (by omega) v314 y313 (⟨((rd_T65 l0 x9_1).f0),((rd_T65 l0 x9_1).f1)⟩ : S65) [.int .i64 ((rd_T65 l0 x9_1).f0),.int .i64 ((rd_T65 l0 x9_1).f1)] (fun k_ => k_ ≠ gb306) (fun _ => False) rfl rfl ?aP (fun _ hk => hk.elim) ?aF ?aO ?aB ?aS ?aL ?_; (case aP => exact k65_mkM _ _ _ (⟨((rd_T65 l0 x9_1).f0),((rd_T65 l0 x9_1).f1)⟩ : S65)); (case aB => exact HB.out); (case aF => exact (fun k_ hk => Kd.freshB BK306.out k_ hk)); (case aO => exact (by exact HO315.out)); (case aS => exact (below_size HB.out)); (case aL => have := LMc23.out; omega); intro v317 w27 ho hb hg hat; rw [← Ny316.out] at ho; replace BK306 := Aside0.mk (blk_grown BK306.out hg (Kd.R_away HO315.out (fun _ hk => hk))); replace HB := Aside0.mk (hb); have HO318 := Aside0.mk (ho); clear HO315; clear ho hb hg hat))
            go_roundg kj7
            case measure => have := HK1.out; have := HJ7.out; omega
            case rel => exact ⟨(y316),(true),(wrap64 (x9_1 + 1)),(by rfl),(by rfl),H',⟨by have := HK1.out; have := HJ7.out; omega⟩,⟨by exact Kd.R_mono HO318.out (fun _ hk => trivial)⟩,⟨HB.out⟩⟩
           ·rw [if_neg c23] at H;exact absurd H (by simp)
          ·rw [if_neg c22] at H;exact absurd H (by simp)
         ·rw [if_neg c21] at H;have c21b0 := decide_eq_false c21;clear c21
          by_cases c28 : x7_1.length < 8796093022208
          ·rw [if_pos c28] at H;have LMc28 := Aside0.mk c28;clear c28;obtain ⟨y319,hy319⟩ : ∃ y_ : List (S65),y_ = (x7_1 ++ [(⟨((rd_T65 l0 x9_1).f0),((rd_T65 l0 x9_1).f1)⟩ : S65)]) := ⟨_,rfl⟩
           replace H : (spec_l6Leave.l0 kj7 l0 a1 a2 y319 false (wrap64 (x9_1 + 1))) = some r := by (rw [hy319]; with_reducible exact H)
           have Ny319 := Aside0.mk hy319;clear hy319;have H' := Aside0.mk H;clear H;obtain ⟨⟨hcz29_0,hcz29_1⟩,hfz29_0,hfz29_1⟩ := bc2 BK306.out
           go_wp2_with (((with_reducible refine gate_builtin (b := .append) (xs := #[.tmp 49,.tmp 51]) rfl ?_); at_builtin; refine Kd.R_append k65 (w0 := w) w.heap.size rfl (.tmp 49) (.tmp 51) 61 65 (.agg #[(.int .i64 0),(.int .i64 0)]) 16 rfl Try.underlying61 info65 rfl (by decide) (by omega) u7 x7_1 (⟨((rd_T65 l0 x9_1).f0),((rd_T65 l0 x9_1).f1)⟩ : S65) [.int .i64 ((rd_T65 l0 x9_1).f0),.int .i64 ((rd_T65 l0 x9_1).f1)] (fun k_ => k_ ≠ gb306) (fun _ => False) rfl rfl ?aP (fun _ hk => hk.elim) ?aF ?aO ?aB ?aS ?aL ?_; (case aP => exact k65_mkM _ _ _ (⟨((rd_T65 l0 x9_1).f0),((rd_T65 l0 x9_1).f1)⟩ : S65)); (case aB => exact HB.out); (case aF => exact (fun k_ hk => Kd.freshB BK306.out k_ hk)); (case aO => exact (by exact HO_7.out)); (case aS => exact (below_size HB.out)); (case aL => have := LMc28.out; omega); intro v320 w30 ho hb hg hat; rw [← Ny319.out] at ho; replace BK306 := Aside0.mk (blk_grown BK306.out hg (Kd.R_away HO_7.out (fun _ hk => hk))); replace HB := Aside0.mk (hb); have HO321 := Aside0.mk (ho); clear HO_7; clear ho hb hg hat))
           go_roundg kj7
           case measure => have := HK1.out; have := HJ7.out; omega
           case rel => exact ⟨(y319),(false),(wrap64 (x9_1 + 1)),(by rfl),(by rfl),H',⟨by have := HK1.out; have := HJ7.out; omega⟩,⟨by exact Kd.R_mono HO321.out (fun _ hk => trivial)⟩,⟨HB.out⟩⟩
          ·rw [if_neg c28] at H;exact absurd H (by simp)
    ·rw [if_neg c7] at H;exact absurd H (by simp)
   ·rw [if_neg c6] at H;have c6b0 := decide_eq_false c6;clear c6
    by_cases c31 : x8_1 = true
    ·subst c31
     rw [if_pos rfl] at H
     obtain rfl := Option.some.inj H;go_wp2;go_ret;exact ⟨_,by rfl,by exact HO_7.out,HB.out⟩
    ·replace c31 := Bool.eq_false_iff.mpr c31;subst c31
     rw [if_neg (show ¬ (false = true) by decide)] at H
     by_cases c32 : x7_1.length < 8796093022208
     ·rw [if_pos c32] at H;have LMc32 := Aside0.mk c32;clear c32;obtain ⟨y302,hy302⟩ : ∃ y_ : List (S65),y_ = (x7_1 ++ [(⟨a1,a2⟩ : S65)]) := ⟨_,rfl⟩
      replace H : (some y302) = some r := by (rw [hy302]; with_reducible exact H)
      have Ny302 := Aside0.mk hy302;clear hy302;obtain rfl := Option.some.inj H
      go_wp2_with (((with_reducible refine gate_builtin (b := .append) (xs := #[.tmp 55,.tmp 59]) rfl ?_); at_builtin; refine Kd.R_append k65 (w0 := w) w.heap.size rfl (.tmp 55) (.tmp 59) 61 65 (.agg #[(.int .i64 0),(.int .i64 0)]) 16 rfl Try.underlying61 info65 rfl (by decide) (by omega) u7 x7_1 (⟨a1,a2⟩ : S65) [.int .i64 a1,.int .i64 a2] (fun _ => True) (fun _ => False) rfl rfl ?aP (fun _ hk => hk.elim) ?aF ?aO ?aB ?aS ?aL ?_; (case aP => exact k65_mkM _ _ _ (⟨a1,a2⟩ : S65)); (case aB => exact HB.out); (case aF => exact (fun _ _ => trivial)); (case aO => exact (by exact HO_7.out)); (case aS => exact (below_size HB.out)); (case aL => have := LMc32.out; omega); intro v303 w33 ho hb hg hat; rw [← Ny302.out] at ho; replace HB := Aside0.mk (hb); have HO304 := Aside0.mk (ho); clear HO_7; clear ho hb hg hat))
      go_ret;exact ⟨_,by rfl,by exact HO304.out,HB.out⟩
     ·rw [if_neg c32] at H;exact absurd H (by simp)

end Go.Proofs.Ytcbpfofkdipjhaa.PV
