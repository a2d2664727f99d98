/- The machine's side of Go functions: each as a plain function,and that the call does what it says. Written by a program (wip/mprint). -/
import Derived.Test.YtcbpfofkdipjhaaCVPVx0
import Derived.Test.YtcbpfofkdipjhaaCVPVx3
import Derived.Test.YtcbpfofkdipjhaaCVPVx4
import Derived.Lib.Hide
import Derived.Lib.Hide
import Derived.StillTailTactics
import Derived.Lib.Hide
import Derived.StillTailTactics
import Derived.Deep.QuietTactic
import Derived.BigQuiet
import Derived.Deep.RegionHeld3
namespace Go.Proofs.Ytcbpfofkdipjhaa.PV
open Go.RowKit Go.Proofs.YtcbpfofkdipjhaaW.PrintWords Go.Proofs.YtcbpfofkdipjhaaW.PrintLast Go.Proofs.YtcbpfofkdipjhaaW.PrintMore
set_option maxHeartbeats 8000000
set_option maxRecDepth 100000
attribute [local go_sem] max2_int min2_int max_two min_two max_three min_three max_four min_four   -- for this text's walks alone
set_option linter.unusedVariables false
set_option linter.unusedSimpArgs false

/-! ### impl_Acct_leaves: function 108 -/
def lvFind (ls : List S65) (e : Int) : Nat → Nat → Option Nat
 | 0,_ => none
 | d + 1,i => if (ls.getD i z65).f1 = e then some i else lvFind ls e d (i + 1)
def lvPl (ls : List S65) (e : Int) : Nat → Nat → Nat
 | 0,i => i
 | d + 1,i => if (ls.getD i z65).f1 < e then lvPl ls e d (i + 1) else i
theorem lvPl_le (ls : List S65) (e : Int) : ∀ d i,lvPl ls e d i ≤ i + d
 | 0,i => Nat.le_refl _
 | d + 1,i => by
  unfold lvPl
  split
  ·have := lvPl_le ls e d (i + 1); omega
  ·omega
/-- Leaves with an amount that leaves at an epoch. -/
def leavesL (ls : List S65) (n e : Int) : List S65 :=
 match lvFind ls e ls.length 0 with
 | some i => ls.set i ⟨wrap64 ((ls.getD i z65).f0 + n),(ls.getD i z65).f1⟩
 | none => ls.take (lvPl ls e ls.length 0) ++ [(⟨n,e⟩ : S65)] ++ ls.drop (lvPl ls e ls.length 0)
def withLv (s : S63) (ls : List S65) : S63 := ⟨s.f0,s.f1,s.f2,s.f3,ls⟩
theorem lvE {W : World} {base g n c : Nat} {ok : Nat → Prop} {xs : List S63} (h : Kd.S k63 63 W base ok (.slice (some ⟨g,0,none⟩) n c) xs) (j : Nat) (hj : j < xs.length) :
  ∃ A4 c4,W.cell? ⟨g,j * 5 + 4,none⟩ = some (.slice A4 (xs.getD j z63).f4.length c4) ∧ W.frozen? ⟨g,j * 5 + 4,none⟩ = false := by
 have hn := (Kd.S_reads' h).1;obtain ⟨oki,cs,_,hM,hcc,hfr,hoki,hH⟩ := Kd.S_elem h z63 (j : Int) (by omega) (by omega);rw [Int.toNat_natCast] at hM;obtain ⟨v4,rfl,hR4⟩ := k63_openM hM;obtain ⟨A4,c4,rfl⟩ := Kd.R_slice hR4;exact ⟨A4,c4,hcc 4 _ rfl,hfr 4⟩
theorem lvI {W : World} {base g n c : Nat} {ok : Nat → Prop} {xs : List S63} (h : Kd.S k63 63 W base ok (.slice (some ⟨g,0,none⟩) n c) xs) (j : Nat) (hj : j < xs.length) (i : Nat) (hi : i < (xs.getD j z63).f4.length) :
  ∃ g4 c4,W.cell? ⟨g,j * 5 + 4,none⟩ = some (.slice (some ⟨g4,0,none⟩) (xs.getD j z63).f4.length c4) ∧ W.cell? ⟨g4,i * 2,none⟩ = some (.int .i64 ((xs.getD j z63).f4.getD i z65).f0) ∧ W.cell? ⟨g4,i * 2 + 1,none⟩ = some (.int .i64 ((xs.getD j z63).f4.getD i z65).f1) ∧ W.frozen? ⟨g4,i * 2,none⟩ = false ∧ base ≤ g4 ∧ ok g4 ∧
   ∀ u,Kd.S k63 63 (W.setCell ⟨g4,i * 2,none⟩ (.int .i64 u)) base ok (.slice (some ⟨g,0,none⟩) n c) (xs.set j (withLv (xs.getD j z63) ((xs.getD j z63).f4.set i ⟨u,((xs.getD j z63).f4.getD i z65).f1⟩))) := by
 have hn := (Kd.S_reads' h).1;obtain ⟨oki,cs,_,hM,hcc,hoki,hback⟩ := Kd.S_borrow h z63 (j : Int) (by omega) (by omega);rw [Int.toNat_natCast] at hM hback;obtain ⟨v4,rfl,hR4⟩ := k63_openM hM;obtain ⟨g4,c4,rfl,hb4,_⟩ := Kd.R_form hR4 (by omega);obtain ⟨cs4,hcl,hM4,hcc4,hfr4⟩ := Kd.R_elem hR4 z65 (i : Int) (by omega) (by omega);rw [Int.toNat_natCast] at hM4;obtain rfl := k65_openM hM4;have hok4 := hR4.1 g4 rfl
 have hc4 : W.cell? ⟨g,j * 5 + 4,none⟩ = some (.slice (some ⟨g4,0,none⟩) (xs.getD j z63).f4.length c4) := by
  have := hcc 4 _ rfl;rw [add_at,Nat.zero_add,Int.toNat_natCast] at this;exact this
 refine ⟨g4,c4,hc4,hcc4 0 _ rfl,hcc4 1 _ rfl,hfr4 0,hb4,(hoki g4 hok4).1,fun u => ?_⟩;have hseg := Kd.R_seg hR4 (i : Int) (by omega) (by omega) (c := [.int .i64 ((xs.getD j z63).f4.getD i z65).f0,.int .i64 ((xs.getD j z63).f4.getD i z65).f1]) (seg := [.int .i64 u]) (j := 0) rfl hcc4 (show 1 ≤ 2 from by decide) (x' := (⟨u,((xs.getD j z63).f4.getD i z65).f1⟩ : S65)) (okp := fun _ => False) (k65_mkM _ _ _ (⟨u,((xs.getD j z63).f4.getD i z65).f1⟩ : S65)) (fun _ h => h.elim);refine hback hseg.2 (fun k hk => by injection hk with hk; exact hk ▸ hok4) (k63_mkM _ _ _ (withLv (xs.getD j z63) ((xs.getD j z63).f4.set i ⟨u,((xs.getD j z63).f4.getD i z65).f1⟩)) ?_);have h2 := hseg.1;rw [Int.toNat_natCast] at h2;exact h2
theorem lvPut {W : World} {base g n c : Nat} {ok okg oki okp : Nat → Prop} {xs : List S63} {j : Nat} {f0 : ByteArray} {f1 f2 f3 : Int} {v4 v' : Value} {ls' : List S65} (hs : (xs.getD j z63).f0 = f0 ∧ (xs.getD j z63).f1 = f1 ∧ (xs.getD j z63).f2 = f2 ∧ (xs.getD j z63).f3 = f3) (hn : j < n) (hH : Kd.H k63 63 W base (fun k_ => ok k_ ∧ ¬ okg k_) (.slice (some ⟨g,0,none⟩) n c) xs (j : Int) oki [.string f0,.int .i64 f1,.int .i64 f2,.int .i64 f3,v4])
  (hR' : Kd.R k65 65 W base okp v' ls') (hokp : ∀ k,okp k → oki k ∨ okg k) (hg : ∀ k,okg k → ok k ∧ k ≠ g) :
  Kd.S k63 63 (W.setCell ⟨g,j * 5 + 4,none⟩ v') base ok (.slice (some ⟨g,0,none⟩) n c) (xs.set j (withLv (xs.getD j z63) ls')) ∧ W.cell? ⟨g,j * 5 + 4,none⟩ = some v4 ∧ W.frozen? ⟨g,j * 5 + 4,none⟩ = false := by
 obtain ⟨rfl,rfl,rfl,rfl⟩ := hs;have hP := Kd.S_seg hH (by omega) (by omega) (seg := [v']) (j := 4) (show 5 ≤ 5 from by decide) (x' := withLv (xs.getD j z63) ls') (okp := okp) (k63_mkM _ _ _ (withLv (xs.getD j z63) ls') hR') hokp hg;obtain ⟨rows,_,hraw,_,_,hcc,_⟩ := Kd.H_raw hH (by omega) (by omega);obtain ⟨_,_,_,_,hfr⟩ := Kd.R_elem hraw [] (j : Int) (by omega) (by omega);exact ⟨hP.1,hcc 4 _ rfl,hfr 4⟩
theorem impl_Acct_leaves.calls (P0_ : Nat → Prop) (g n c : Nat) (l0 : List S63) (j : Nat) (am e : Int) (w0 w : World) (hB : Below w0.heap.size w0 w) (ho0 : Kd.S k63 63 w w0.heap.size P0_ (.slice (some ⟨g,0,none⟩) n c) l0) (hj : j < l0.length) (hbig : (l0.getD j z63).f4.length < 1000000000000) :
  Calls Try.prog 108 #[.pointer (some ⟨g,j * 5,none⟩),.int .i64 am,.int .i64 e] w fun ee w' => ee = .returned (.tuple #[]) ∧ Kd.S k63 63 w' w0.heap.size (fun k_ => P0_ k_ ∨ w.heap.size ≤ k_) (.slice (some ⟨g,0,none⟩) n c) (l0.set j (withLv (l0.getD j z63) (leavesL (l0.getD j z63).f4 am e))) ∧ Below w0.heap.size w0 w' ∧ Kept w w' P0_ := by
 have HS0 := Aside0.mk ho0;have HB0 := Aside0.mk hB;have HJ := Aside0.mk hj;obtain ⟨A4,c4,x4,_⟩ := lvE ho0 j hj;obtain ⟨ls,hls⟩ : ∃ ls,ls = (l0.getD j z63).f4 := ⟨_,rfl⟩;have HLS := Aside0.mk hls;have HBIG := Aside0.mk (show ls.length < 1000000000000 by rw [hls]; exact hbig);rw [← hls] at x4;rw [show leavesL (l0.getD j z63).f4 am e = leavesL ls am e by rw [hls]];have HT0 := Aside0.mk (Kd.S_mono (Kd.S_bound ho0) (fun k_ hk => ⟨.inl hk.1,Nat.not_le.2 hk.2.2.1⟩) : Kd.S k63 63 w w0.heap.size (fun k_ => (P0_ k_ ∨ w.heap.size ≤ k_) ∧ ¬ w.heap.size ≤ k_) (.slice (some ⟨g,0,none⟩) n c) l0);have HN := Aside0.mk (Kd.S_reads' ho0).1;have HPG := Aside0.mk ((Kd.S_R ho0).1 g rfl);have HGL := Aside0.mk (Kd.S_lt ho0 g rfl);have HGB := Aside0.mk (Kd.S_base ho0 g rfl);clear ho0 hB hbig hls;go_enter Try.func108,Try.ntmps108;go_wp2;clear x4
 go_loopw [13] (fun iv wr => ∃ i : Nat,iv = .int .i64 (i : Int) ∧ i ≤ ls.length ∧ lvFind ls e ls.length 0 = lvFind ls e (ls.length - i) i ∧ Below w.heap.size w wr) (fun iv _ => ls.length - (intOf iv).toNat)
 case atStart => exact ⟨0,rfl,Nat.zero_le _,rfl,Below.refl _ _⟩
 case round =>
  obtain ⟨i,rfl,hi,hp,hb⟩ := hrel;have HF := Aside0.mk hp;have HB := Aside0.mk hb;have HS := Aside0.mk (Kd.S_below HS0.out hb);clear hp hb
  by_cases hlt : i < ls.length
  ·obtain ⟨g4,c4,x4,x0,x1,f0,hb4,hok4,hst⟩ := lvI HS.out j HJ.out i (by rw [← HLS.out]; exact hlt);rw [← HLS.out] at x4 x0 x1 hst;have n0 : (0 ≤ (i : Int)) = True := eq_true (by omega);have n1 : ((i : Int) < (ls.length : Int)) = True := eq_true (by omega);have HLT := Aside0.mk hlt;have hf := HF.out;rw [show ls.length - i = (ls.length - (i + 1)) + 1 by omega,lvFind] at hf;have HB4 := Aside0.mk hb4;have HOK4 := Aside0.mk hok4
   by_cases c : (ls.getD i z65).f1 = e
   ·rw [if_pos c] at hf
    have hL : leavesL ls am e = ls.set i ⟨wrap64 ((ls.getD i z65).f0 + am),(ls.getD i z65).f1⟩ := by unfold leavesL; rw [hf]
    have hS' := hst (wrap64 ((ls.getD i z65).f0 + am));rw [← hL] at hS';clear hst hf hL hlt hb4 hok4;have c0 : ((ls.getD i z65).f1 == e) = true := beq_iff_eq.mpr c;clear c
    generalize (ls.getD i z65).f1 = o1 at x1 c0
    generalize (ls.getD i z65).f0 = o0 at x0 hS'
    have HS5 := Aside0.mk hS';clear hS';go_wp2
    (refine bodyPost_ret (results_none rfl _ _ _) rfl ?_)
    exact ⟨rfl,Kd.S_mono HS5.out (fun _ h_ => .inl h_),below_set (below_step HB0.out HB.out) HB4.out,(Kept.of_below HB.out P0_).setCell (.inl HOK4.out) _⟩
   ·rw [if_neg c] at hf;have HF2 := Aside0.mk hf;clear hst hf hlt hb4 hok4;have c0 : ((ls.getD i z65).f1 == e) = false := beq_eq_false_iff_ne.mpr c;clear c
    generalize (ls.getD i z65).f1 = o1 at x1 c0
    have hY := (Kd.S_reads' HS.out).2.2.2.1;have H01 := Aside0.mk (show wrap64 ((i : Int) + 1) = ((i + 1 : Nat) : Int) by have h1 := HLT.out; have h2 := HBIG.out; unfold wrap64; omega);clear hY;go_wp2
    go_roundw
    case rel => exact ⟨i + 1,by rw [H01.out],HLT.out,HF2.out,HB.out⟩
    case measure =>
     rw [H01.out];have := HLT.out;simp only [intOf]
     omega
  ·obtain rfl : i = ls.length := by omega
   have n1 : ((ls.length : Int) < (ls.length : Int)) = False := eq_false (by omega);have hf := HF.out;rw [Nat.sub_self,lvFind] at hf
   have hL : leavesL ls am e = ls.take (lvPl ls e ls.length 0) ++ [(⟨am,e⟩ : S65)] ++ ls.drop (lvPl ls e ls.length 0) := by unfold leavesL; rw [hf]
   have HLL := Aside0.mk hL;clear hf hL;obtain ⟨A4,c4,x4,_⟩ := lvE HS.out j HJ.out;rw [← HLS.out] at x4;go_wp2;obtain ⟨p,hp⟩ : ∃ p,p = lvPl ls e ls.length 0 := ⟨_,rfl⟩;obtain ⟨R,hR⟩ : ∃ R,R = ls.take p ++ [(⟨am,e⟩ : S65)] ++ ls.drop p := ⟨_,rfl⟩;have HPL := Aside0.mk (show p ≤ ls.length by rw [hp]; have := lvPl_le ls e ls.length 0; omega);have hLL := HLL.out;rw [← hp,← hR] at hLL;replace HLL := Aside0.mk hLL;have HP := Aside0.mk hp;have HRR := Aside0.mk hR;clear hLL hp hR x4 n1;have HBI := HB;have HSI := HS
   go_loopw [7] (fun iv wr => ∃ i : Nat,iv = .int .i64 (i : Int) ∧ i ≤ ls.length ∧ p = lvPl ls e (ls.length - i) i ∧ Below w.heap.size w wr) (fun iv _ => ls.length - (intOf iv).toNat)
   case atStart => exact ⟨0,rfl,Nat.zero_le _,HP.out,HBI.out⟩
   case round =>
    clear HB HS HBI HSI;obtain ⟨i,rfl,hi,hp,hb⟩ := hrel;have HF := Aside0.mk hp;have HB := Aside0.mk hb;have HS := Aside0.mk (Kd.S_below HS0.out hb);clear hp hb
    rename_i wr
    by_cases hlt : i < ls.length
    ·have hf := HF.out;rw [show ls.length - i = (ls.length - (i + 1)) + 1 by omega,lvPl] at hf;have n0 : (0 ≤ (i : Int)) = True := eq_true (by omega);have n1 : ((i : Int) < (ls.length : Int)) = True := eq_true (by omega);have HLT := Aside0.mk hlt
     by_cases c : (ls.getD i z65).f1 < e
     ·obtain ⟨g4,c4,x4,_,x1,_,_,_,_⟩ := lvI HS.out j HJ.out i (by rw [← HLS.out]; exact hlt);rw [← HLS.out] at x4 x1;rw [if_pos c] at hf;have HF2 := Aside0.mk hf;have c0 : ((ls.getD i z65).f1 < e) = True := eq_true c;clear hf hlt c
      generalize (ls.getD i z65).f1 = o1 at x1 c0
      have H01 := Aside0.mk (show wrap64 ((i : Int) + 1) = ((i + 1 : Nat) : Int) by have h1 := HLT.out; have h2 := HBIG.out; unfold wrap64; omega);go_wp2
      go_roundw
      case rel => exact ⟨i + 1,by rw [H01.out],HLT.out,HF2.out,HB.out⟩
      case measure =>
       rw [H01.out];have := HLT.out;simp only [intOf]
       omega
     ·rw [if_neg c] at hf;subst hf;have c0 : ((ls.getD p z65).f1 < e) = False := eq_false c;clear hlt c;have hT := Kd.S_below HT0.out HB.out;obtain ⟨oki,cs,_,hM,hcc,hfr,hoki,hH⟩ := Kd.S_elem hT z63 (j : Int) (by omega) (by have h1 := HN.out; have h2 := HJ.out; omega);rw [Int.toNat_natCast] at hM;obtain ⟨v4,rfl,hR4⟩ := k63_openM hM;obtain ⟨A4,c4,rfl⟩ := Kd.R_slice hR4;have x4 : wr.cell? ⟨g,j * 5 + 4,none⟩ = some (.slice A4 (l0.getD j z63).f4.length c4) := hcc 4 _ rfl;have f4 : wr.frozen? ⟨g,j * 5 + 4,none⟩ = false := hfr 4;rw [← HLS.out] at x4 hR4 hH;have HR4 := Aside0.mk hR4;have HH := Aside0.mk hH;have HOKI := Aside0.mk hoki;have HB2 := Aside0.mk (below_step HB0.out HB.out);clear hT hM hcc hfr hoki hH hR4;obtain ⟨g4,c4',eS,_,_⟩ := Kd.R_form HR4.out (show 0 < ls.length by have := HLT.out; omega)
      injection eS with eA en ec
      subst eA;subst ec;clear en;obtain ⟨cs4,_,hM4,hcc4,_⟩ := Kd.R_elem HR4.out z65 (p : Int) (by omega) (by have := HLT.out; omega);rw [Int.toNat_natCast] at hM4;obtain rfl := k65_openM hM4;have x1 : wr.cell? ⟨g4,p * 2 + 1,none⟩ = some (.int .i64 (ls.getD p z65).f1) := hcc4 1 _ rfl;clear hM4 hcc4
      generalize (ls.getD p z65).f1 = o1 at x1 c0
      go_wp2_with (go_at_call 129; refine (impl_Leave_129.calls oki _ ls p wr.heap.size (⟨am,e⟩ : S65) [.int .i64 am,.int .i64 e] w0 _ (below_alloc HB2.out _) (Kd.R_alloc HR4.out _) HPL.out (blk_new _ _) (fun w' => k65_mkM _ _ _ (⟨am,e⟩ : S65)) (fun h_ => (HOKI.out _ h_).1.2 HB.out.size) (by have h1 := HBIG.out; omega)).mono ?_; rintro e w5 ⟨v,rfl,hr,hb,hk⟩; rw [← HRR.out] at hr; obtain ⟨A5,c5,rfl⟩ := Kd.R_slice hr; have hH5 := Kd.H_kept (Kd.H_alloc HH.out _) hk (fun _ _ hn_ hs_ => hn_ hs_); obtain ⟨hs5,x5,f5⟩ := lvPut ⟨rfl,rfl,rfl,rfl⟩ (by rw [HN.out]; exact HJ.out) hH5 hr (fun k_ hk_ => hk_.imp id (fun h_ => by have h1 := HB.out.size; have h2 : wr.heap.size + 1 ≤ k_ := (by simpa using h_); omega)) (fun k_ hk_ => ⟨.inr hk_,fun e_ => by have h1 := HGL.out; omega⟩); have HS5 := Aside0.mk hs5; have HB5 := Aside0.mk hb; have HK5 := Aside0.mk (((Kept.of_below HB.out P0_).alloc _).then_ hk (fun k_ hk_ => .inl ((HOKI.out k_ hk_).1.1.elim id (fun h_ => absurd h_ (HOKI.out k_ hk_).1.2)))); clear hs5 hb hk hr hH5)
      (go_end0)
      exact ⟨rfl,HLL.out ▸ HS5.out,below_set HB5.out HGB.out,HK5.out.setCell (.inl HPG.out) _⟩
    ·obtain rfl : i = ls.length := by omega
     have n1 : ((ls.length : Int) < (ls.length : Int)) = False := eq_false (by omega);have hf := HF.out;rw [Nat.sub_self,lvPl] at hf;subst hf;have hT := Kd.S_below HT0.out HB.out;obtain ⟨oki,cs,_,hM,hcc,hfr,hoki,hH⟩ := Kd.S_elem hT z63 (j : Int) (by omega) (by have h1 := HN.out; have h2 := HJ.out; omega);rw [Int.toNat_natCast] at hM;obtain ⟨v4,rfl,hR4⟩ := k63_openM hM;obtain ⟨A4,c4,rfl⟩ := Kd.R_slice hR4;have x4 : wr.cell? ⟨g,j * 5 + 4,none⟩ = some (.slice A4 (l0.getD j z63).f4.length c4) := hcc 4 _ rfl;have f4 : wr.frozen? ⟨g,j * 5 + 4,none⟩ = false := hfr 4;rw [← HLS.out] at x4 hR4 hH;have HR4 := Aside0.mk hR4;have HH := Aside0.mk hH;have HOKI := Aside0.mk hoki;have HB2 := Aside0.mk (below_step HB0.out HB.out);clear hT hM hcc hfr hoki hH hR4
     go_wp2_with (go_at_call 129; refine (impl_Leave_129.calls oki _ ls ls.length wr.heap.size (⟨am,e⟩ : S65) [.int .i64 am,.int .i64 e] w0 _ (below_alloc HB2.out _) (Kd.R_alloc HR4.out _) HPL.out (blk_new _ _) (fun w' => k65_mkM _ _ _ (⟨am,e⟩ : S65)) (fun h_ => (HOKI.out _ h_).1.2 HB.out.size) (by have h1 := HBIG.out; omega)).mono ?_; rintro e w5 ⟨v,rfl,hr,hb,hk⟩; rw [← HRR.out] at hr; obtain ⟨A5,c5,rfl⟩ := Kd.R_slice hr; have hH5 := Kd.H_kept (Kd.H_alloc HH.out _) hk (fun _ _ hn_ hs_ => hn_ hs_); obtain ⟨hs5,x5,f5⟩ := lvPut ⟨rfl,rfl,rfl,rfl⟩ (by rw [HN.out]; exact HJ.out) hH5 hr (fun k_ hk_ => hk_.imp id (fun h_ => by have h1 := HB.out.size; have h2 : wr.heap.size + 1 ≤ k_ := (by simpa using h_); omega)) (fun k_ hk_ => ⟨.inr hk_,fun e_ => by have h1 := HGL.out; omega⟩); have HS5 := Aside0.mk hs5; have HB5 := Aside0.mk hb; have HK5 := Aside0.mk (((Kept.of_below HB.out P0_).alloc _).then_ hk (fun k_ hk_ => .inl ((HOKI.out k_ hk_).1.1.elim id (fun h_ => absurd h_ (HOKI.out k_ hk_).1.2)))); clear hs5 hb hk hr hH5)
     (go_end0)
     exact ⟨rfl,HLL.out ▸ HS5.out,below_set HB5.out HGB.out,HK5.out.setCell (.inl HPG.out) _⟩

/-! ### impl_done: function 65 -/
def setN (l : List S63) (j : Nat) (u : Int) : List S63 := l.set j ⟨(l.getD j z63).f0,(l.getD j z63).f1,u,(l.getD j z63).f3,(l.getD j z63).f4⟩
def setF (l : List S63) (j : Nat) (u : Int) : List S63 := l.set j ⟨(l.getD j z63).f0,u,(l.getD j z63).f2,(l.getD j z63).f3,(l.getD j z63).f4⟩
def setS (l : List S63) (j : Nat) (u : Int) : List S63 := l.set j ⟨(l.getD j z63).f0,(l.getD j z63).f1,(l.getD j z63).f2,u,(l.getD j z63).f4⟩
def setL (l : List S63) (j : Nat) (ls : List S65) : List S63 := l.set j (withLv (l.getD j z63) ls)
/-- The ledger behind an order,in steps. -/
def impl_done.n1 (l : List S63) (j : Nat) : List S63 := setN l j (wrap64 ((l.getD j z63).f2 + 1))
def impl_done.f (ep : Int) (l : List S63) (j : Nat) (kind : Int) (tt : ByteArray) (am : Int) : Option (List S63) :=
 if kind = 1 then impl_credited.f (setF (impl_done.n1 l j) j (wrap64 (((impl_done.n1 l j).getD j z63).f1 - am))) tt am
 else if kind = 2 then some (setS (setF (impl_done.n1 l j) j (wrap64 (((impl_done.n1 l j).getD j z63).f1 - am))) j (wrap64 (((setF (impl_done.n1 l j) j (wrap64 (((impl_done.n1 l j).getD j z63).f1 - am))).getD j z63).f3 + am)))
 else if kind = 3 then if ((setS (impl_done.n1 l j) j (wrap64 (((impl_done.n1 l j).getD j z63).f3 - am))).getD j z63).f4.length < 1000000000000 then some (setL (setS (impl_done.n1 l j) j (wrap64 (((impl_done.n1 l j).getD j z63).f3 - am))) j (leavesL ((setS (impl_done.n1 l j) j (wrap64 (((impl_done.n1 l j).getD j z63).f3 - am))).getD j z63).f4 am (wrap64 (ep + 2)))) else none
 else some (impl_done.n1 l j)
/-- The ledger that is the call's own,the three variables in memory,and what is kept. -/
structure impl_done.D (w0 w W : World) (P : Nat → Prop) (g n c : Nat) (ep kind : Int) (fr tt : ByteArray) (am no : Int) (xs : List S63) : Prop where
 s : Kd.S k63 63 W w0.heap.size (fun k_ => P k_ ∧ k_ < w.heap.size) (.slice (some ⟨g,0,none⟩) n c) xs
 hl : W.heap[w.heap.size]? = some (.cells #[.int .i64 ep,.slice (some ⟨g,0,none⟩) n c] 31 (0,0))
 ht : W.heap[w.heap.size + 1]? = some (.cells #[.int .i64 kind,.string fr,.string tt,.int .i64 am,.int .i64 no] 35 (0,0))
 hr : W.heap[w.heap.size + 1 + 1]? = some (.cells #[.int .i64 0,.slice none 0 0] 31 (0,0))
 b : Below w0.heap.size w0 W
 k : Kept w W P
 ge : w0.heap.size ≤ g
section
variable {w0 w W W' : World} {P : Nat → Prop} {g n c : Nat} {ep kind : Int} {fr tt : ByteArray} {am no : Int} {xs : List S63}
theorem impl_done.D.below (h : impl_done.D w0 w W P g n c ep kind fr tt am no xs) (hb : Below W.heap.size W W') : impl_done.D w0 w W' P g n c ep kind fr tt am no xs :=
 ⟨Kd.S_below h.s hb,(hb.block _ (blk_lt h.hl)).trans h.hl,(hb.block _ (blk_lt h.ht)).trans h.ht,(hb.block _ (blk_lt h.hr)).trans h.hr,below_step h.b hb,h.k.below hb,h.ge⟩
theorem impl_done.D.pg (h : impl_done.D w0 w W P g n c ep kind fr tt am no xs) : P g ∧ g < w.heap.size := (Kd.S_R h.s).1 g rfl
theorem impl_done.D.put (h : impl_done.D w0 w W P g n c ep kind fr tt am no xs) {q : Nat} {u : Value} {ys : List S63} (hs : Kd.S k63 63 (W.setCell ⟨g,q,none⟩ u) w0.heap.size (fun k_ => P k_ ∧ k_ < w.heap.size) (.slice (some ⟨g,0,none⟩) n c) ys) : impl_done.D w0 w (W.setCell ⟨g,q,none⟩ u) P g n c ep kind fr tt am no ys := by
 have hg := h.pg
 have hf : ∀ k,k ≠ g → (W.setCell ⟨g,q,none⟩ u).heap[k]? = W.heap[k]? := fun k hk => Below.heap_setCell W ⟨g,q,none⟩ _ k hk
 exact ⟨hs,(hf _ (by omega)).trans h.hl,(hf _ (by omega)).trans h.ht,(hf _ (by omega)).trans h.hr,below_set h.b h.ge,h.k.setCell (.inl hg.1) _,h.ge⟩
theorem impl_done.D.setN (h : impl_done.D w0 w W P g n c ep kind fr tt am no xs) (j : Nat) (hj : j < xs.length) (u : Int) : impl_done.D w0 w (W.setCell ⟨g,j * 5 + 2,none⟩ (.int .i64 u)) P g n c ep kind fr tt am no (setN xs j u) ∧ W.cell? ⟨g,j * 5 + 2,none⟩ = some (.int .i64 (xs.getD j z63).f2) ∧ W.frozen? ⟨g,j * 5 + 2,none⟩ = false := by
 obtain ⟨hs,hx,hf,_⟩ := acS2 h.s j hj u;exact ⟨h.put hs,hx,hf⟩
theorem impl_done.D.setF (h : impl_done.D w0 w W P g n c ep kind fr tt am no xs) (j : Nat) (hj : j < xs.length) (u : Int) : impl_done.D w0 w (W.setCell ⟨g,j * 5 + 1,none⟩ (.int .i64 u)) P g n c ep kind fr tt am no (setF xs j u) ∧ W.cell? ⟨g,j * 5 + 1,none⟩ = some (.int .i64 (xs.getD j z63).f1) ∧ W.frozen? ⟨g,j * 5 + 1,none⟩ = false := by
 obtain ⟨hs,hx,hf,_⟩ := acS1 h.s j hj u;exact ⟨h.put hs,hx,hf⟩
theorem impl_done.D.setS (h : impl_done.D w0 w W P g n c ep kind fr tt am no xs) (j : Nat) (hj : j < xs.length) (u : Int) : impl_done.D w0 w (W.setCell ⟨g,j * 5 + 3,none⟩ (.int .i64 u)) P g n c ep kind fr tt am no (setS xs j u) ∧ W.cell? ⟨g,j * 5 + 3,none⟩ = some (.int .i64 (xs.getD j z63).f3) ∧ W.frozen? ⟨g,j * 5 + 3,none⟩ = false := by
 obtain ⟨hs,hx,hf,_⟩ := acS3 h.s j hj u;exact ⟨h.put hs,hx,hf⟩
theorem impl_done.D.cells (h : impl_done.D w0 w W P g n c ep kind fr tt am no xs) : W.cell? ⟨w.heap.size,0,none⟩ = some (.int .i64 ep) ∧ W.cell? ⟨w.heap.size,1,none⟩ = some (.slice (some ⟨g,0,none⟩) n c) ∧ W.cell? ⟨w.heap.size + 1,0,none⟩ = some (.int .i64 kind) ∧ W.cell? ⟨w.heap.size + 1,2,none⟩ = some (.string tt) ∧ W.cell? ⟨w.heap.size + 1,3,none⟩ = some (.int .i64 am) ∧ W.cell? ⟨w.heap.size + 1 + 1,0,none⟩ = some (.int .i64 0) ∧ W.cell? ⟨w.heap.size + 1 + 1,1,none⟩ = some (.slice none 0 0) ∧ W.frozen? ⟨w.heap.size,1,none⟩ = false ∧ W.frozen? ⟨w.heap.size + 1 + 1,0,none⟩ = false ∧ W.frozen? ⟨w.heap.size + 1 + 1,1,none⟩ = false :=
 ⟨(blk_cell h.hl 0).trans rfl,(blk_cell h.hl 1).trans rfl,(blk_cell h.ht 0).trans rfl,(blk_cell h.ht 2).trans rfl,(blk_cell h.ht 3).trans rfl,(blk_cell h.hr 0).trans rfl,(blk_cell h.hr 1).trans rfl,blk_frozen h.hl 1,blk_frozen h.hr 0,blk_frozen h.hr 1⟩
end
theorem impl_done.three (w : World) (o1 o2 o3 : Obj) : (((w.alloc o1).alloc o2).alloc o3).heap[w.heap.size]? = some o1 ∧ (((w.alloc o1).alloc o2).alloc o3).heap[w.heap.size + 1]? = some o2 ∧ (((w.alloc o1).alloc o2).alloc o3).heap[w.heap.size + 1 + 1]? = some o3 := by
 have e1 : (w.alloc o1).heap.size = w.heap.size + 1 := Array.size_push _
 have e2 : ((w.alloc o1).alloc o2).heap.size = w.heap.size + 1 + 1 := by rw [← e1]; exact Array.size_push _
 have h1 := blk_new w o1;have h2 := blk_new (w.alloc o1) o2;have h3 := blk_new ((w.alloc o1).alloc o2) o3;have b2 := below_alloc (Below.refl (w.alloc o1).heap.size (w.alloc o1)) o2;have b3 := below_alloc (Below.refl ((w.alloc o1).alloc o2).heap.size ((w.alloc o1).alloc o2)) o3;have h12 := (b2.block _ (blk_lt h1)).trans h1;refine ⟨(b3.block _ (blk_lt h12)).trans h12,?_,?_⟩
 ·rw [e1] at h2;exact (b3.block _ (blk_lt h2)).trans h2
 ·rw [e2] at h3;exact h3
theorem impl_done.len_setN (l : List S63) (j : Nat) (u : Int) : (setN l j u).length = l.length := List.length_set
theorem impl_done.len_setF (l : List S63) (j : Nat) (u : Int) : (setF l j u).length = l.length := List.length_set
theorem impl_done.len_setS (l : List S63) (j : Nat) (u : Int) : (setS l j u).length = l.length := List.length_set
theorem impl_done.calls (P0_ : Nat → Prop) (ep : Int) (u0_ : Value) (l0 : List S63) (j : Nat) (kind : Int) (fr tt : ByteArray) (am no : Int) (r : List S63) (w0 w : World) (hB : Below w0.heap.size w0 w) (ho0 : Kd.S k63 63 w w0.heap.size P0_ u0_ l0) (hj : j < l0.length) (h : impl_done.f ep l0 j kind tt am = some r) :
  Calls Try.prog 65 #[.agg #[.int .i64 ep,u0_],.int .i64 (j : Int),.agg #[.int .i64 kind,.string fr,.string tt,.int .i64 am,.int .i64 no]] w fun e w' => ∃ v,e = .returned (.agg #[.int .i64 ep,v]) ∧ Kd.S k63 63 w' w0.heap.size (fun k_ => P0_ k_ ∨ w.heap.size ≤ k_) v r ∧ Below w0.heap.size w0 w' ∧ Kept w w' P0_ := by
 obtain ⟨g,c,rfl,hge,hgl,_⟩ := Kd.S_form ho0 (by omega);have HS0 := Aside0.mk ho0;have HB0 := Aside0.mk hB;have HJ := Aside0.mk hj;have HGE := Aside0.mk hge;have HGL := Aside0.mk hgl;have HPG := Aside0.mk ((Kd.S_R ho0).1 g rfl);have n0 : (0 ≤ (j : Int)) = True := eq_true (by omega);have n1 : ((j : Int) < (l0.length : Int)) = True := eq_true (by omega);have HY := Aside0.mk (Kd.S_reads' ho0);clear ho0 hB hge hgl;go_enter Try.func65,Try.ntmps65
 go_upto_region 1 with fail
 have hD : impl_done.D w0 w (((w.alloc (.cells #[.int .i64 ep,.slice (some ⟨g,0,none⟩) l0.length c] 31)).alloc (.cells #[.int .i64 kind,.string fr,.string tt,.int .i64 am,.int .i64 no] 35)).alloc (.cells #[.int .i64 0,.slice none 0 0] 31)) P0_ g l0.length c ep kind fr tt am no l0 := ⟨Kd.S_alloc (Kd.S_alloc (Kd.S_alloc (Kd.S_mono (Kd.S_bound HS0.out) (fun k_ hk => ⟨hk.1,hk.2.2.1⟩)) _) _) _,(impl_done.three w _ _ _).1,(impl_done.three w _ _ _).2.1,(impl_done.three w _ _ _).2.2,below_alloc (below_alloc (below_alloc HB0.out _) _) _,(((Kept.refl w P0_).alloc _).alloc _).alloc _,HGE.out⟩
 generalize (((w.alloc (.cells #[.int .i64 ep,.slice (some ⟨g,0,none⟩) l0.length c] 31)).alloc (.cells #[.int .i64 kind,.string fr,.string tt,.int .i64 am,.int .i64 no] 35)).alloc (.cells #[.int .i64 0,.slice none 0 0] 31)) = w1 at hD ⊢
 obtain ⟨c0,c1,t0,t2,t3,r0,r1,fl,fr0,fr1⟩ := hD.cells;obtain ⟨hD1,x,fx⟩ := hD.setN j HJ.out (wrap64 ((l0.getD j z63).f2 + 1));obtain ⟨l1,hl1⟩ : ∃ l1,l1 = impl_done.n1 l0 j := ⟨_,rfl⟩;rw [show setN l0 j (wrap64 ((l0.getD j z63).f2 + 1)) = l1 from hl1.symm] at hD1
 have hj1 : j < l1.length := by rw [hl1,impl_done.n1,impl_done.len_setN]; exact HJ.out
 unfold impl_done.f at h;rw [← hl1] at h;clear hl1 hD
 generalize (l0.getD j z63).f2 = o2 at hD1 x
 go_upto_region 3 with fail
 clear c0 c1 t0 t2 t3 r0 r1 fl fr0 fr1 x fx
 rename impl_done.D w0 w _ P0_ g l0.length c ep kind fr tt am no l1 => hD
 generalize w1.setCell ⟨g,j * 5 + 2,none⟩ (.int .i64 (wrap64 (o2 + 1))) = w2 at hD ⊢
 by_cases k1 : kind = 1
 ·have k1b : (kind == 1) = true := beq_iff_eq.mpr k1;rw [if_pos k1] at h;obtain ⟨_,x,fx⟩ := hD.setF j hj1 0;obtain ⟨c0,c1,t0,t2,t3,r0,r1,fl,fr0,fr1⟩ := hD.cells
  generalize ho : (l1.getD j z63).f1 = o at x h
  go_upto_region 5 with fail
  go_still_tail 9,(by kernel_rfl)
  change wpList _ _ _ _ _ w2.drew
  clear c0 c1 t0 t2 t3 r0 r1 fl fr0 fr1 x fx;replace hD := hD.below (below_drew (Below.refl _ _))
  generalize w2.drew = w2d at hD ⊢
  obtain ⟨hD1,x,fx⟩ := hD.setF j hj1 (wrap64 (o - am));rw [ho] at x;obtain ⟨l2,hl_⟩ : ∃ l_,l_ = setF l1 j (wrap64 (o - am)) := ⟨_,rfl⟩;rw [← hl_] at hD1 h
  have hj2 : j < l2.length := by rw [hl_,impl_done.len_setF]; exact hj1
  clear hl_ hj1 hD ho
  rename impl_done.D w0 w _ P0_ g l0.length c ep kind fr tt am no l2 => hD
  rename j < l2.length => hj1
  go_upto_region 6 with fail
  clear x fx
  generalize w2d.setCell ⟨g,j * 5 + 1,none⟩ (.int .i64 (wrap64 (o - am))) = w3 at hD ⊢
  obtain ⟨c0,c1,t0,t2,t3,r0,r1,fl,fr0,fr1⟩ := hD.cells;have HD := Aside0.mk hD;have HH := Aside0.mk h;clear hD h;have GR := Aside0.mk HD.out.hr
  go_wp2_with (go_at_call 88; refine (impl_credited.calls (fun k_ => P0_ k_ ∧ k_ < w.heap.size) _ l2 tt am r w0 _ HD.out.b HD.out.s HH.out).mono ?_; rintro e w4 ⟨v,rfl,hs,hb,hk⟩; obtain ⟨A4,c4,rfl⟩ := Kd.S_slice hs; have HS4 := Aside0.mk hs; have HB4 := Aside0.mk hb; have HK4 := Aside0.mk (HD.out.k.then_ hk (fun _ h_ => .inl h_.1)); have hl4 := blk_kept HD.out.hl hk (fun h_ => Nat.lt_irrefl _ h_.2); have hr4 := blk_kept HD.out.hr hk (fun h_ => by have := h_.2; omega); have GL4 := Aside0.mk hl4; have GR4 := Aside0.mk hr4; have d1 := (blk_cell hl4 1).trans rfl; have df := blk_frozen hl4 1; have d0 := (blk_cell hl4 0).trans rfl; have s0 := (blk_cell hr4 0).trans rfl; have s1 := (blk_cell hr4 1).trans rfl; have sf0 := blk_frozen hr4 0; have sf1 := blk_frozen hr4 1; clear hs hb hk hl4 hr4)
  have HE := Aside0.mk (Kd.S_mono HS4.out (fun k_ hk_ => hk_.imp id (fun h_ => Nat.lt_of_lt_of_le (blk_lt GR.out) h_)) : Kd.S k63 63 w4 w0.heap.size (fun k_ => (P0_ k_ ∧ k_ < w.heap.size) ∨ w.heap.size + 1 + 1 < k_) (.slice A4 r.length c4) r);have GRE := GR4;have HBE := HB4;have HKE := HK4
  skip
  refine bodyPost_ret (results_cell_row rfl _ _ (w.heap.size + 1 + 1) 31 #[.int .i64 ep,.slice A4 r.length c4] (0,0) _ rfl (blk_put (cs := #[.int .i64 ep,.slice none 0 0]) (blk_put (cs := #[.int .i64 0,.slice none 0 0]) (blk_far GRE.out (show w.heap.size + 1 + 1 ≠ w.heap.size by omega) _) 0 _ rfl) 1 _ rfl) Try.underlying31 rfl (by kernel_rfl)) rfl ?_;exact ⟨_,rfl,Kd.S_mono (Kd.S_far (p := ⟨w.heap.size + 1 + 1,1,none⟩) (Kd.S_far (p := ⟨w.heap.size + 1 + 1,0,none⟩) (Kd.S_far (p := ⟨w.heap.size,1,none⟩) HE.out (fun k_ hk_ => show k_ ≠ w.heap.size from hk_.elim (fun h_ => by have := h_.2; omega) (fun h_ => by omega)) _) (fun k_ hk_ => show k_ ≠ w.heap.size + 1 + 1 from hk_.elim (fun h_ => by have := h_.2; omega) (fun h_ => by omega)) _) (fun k_ hk_ => show k_ ≠ w.heap.size + 1 + 1 from hk_.elim (fun h_ => by have := h_.2; omega) (fun h_ => by omega)) _) (fun k_ hk_ => hk_.imp (fun h_ => h_.1) (fun h_ => by omega)),(below_set (below_set (below_set HBE.out (show w0.heap.size ≤ w.heap.size from Nat.le_trans HB0.out.size (by omega))) (show w0.heap.size ≤ w.heap.size + 1 + 1 from Nat.le_trans HB0.out.size (by omega))) (show w0.heap.size ≤ w.heap.size + 1 + 1 from Nat.le_trans HB0.out.size (by omega))),(((HKE.out.setCell (.inr (show w.heap.size ≤ w.heap.size by omega)) _).setCell (.inr (show w.heap.size ≤ w.heap.size + 1 + 1 by omega)) _).setCell (.inr (show w.heap.size ≤ w.heap.size + 1 + 1 by omega)) _)⟩
 ·have k1b : (kind == 1) = false := beq_eq_false_iff_ne.mpr k1;rw [if_neg k1] at h
  by_cases k2 : kind = 2
  ·have k2b : (kind == 2) = true := beq_iff_eq.mpr k2;rw [if_pos k2] at h;obtain ⟨_,x,fx⟩ := hD.setF j hj1 0;obtain ⟨c0,c1,t0,t2,t3,r0,r1,fl,fr0,fr1⟩ := hD.cells
   generalize ho : (l1.getD j z63).f1 = o at x h
   go_upto_region 8 with fail
   go_still_tail 9,(by kernel_rfl)
   change wpList _ _ _ _ _ w2.drew
   clear c0 c1 t0 t2 t3 r0 r1 fl fr0 fr1 x fx;replace hD := hD.below (below_drew (Below.refl _ _))
   generalize w2.drew = w2d at hD ⊢
   obtain ⟨hD1,x,fx⟩ := hD.setF j hj1 (wrap64 (o - am));rw [ho] at x;obtain ⟨l2,hl_⟩ : ∃ l_,l_ = setF l1 j (wrap64 (o - am)) := ⟨_,rfl⟩;rw [← hl_] at hD1 h
   have hj2 : j < l2.length := by rw [hl_,impl_done.len_setF]; exact hj1
   clear hl_ hj1 hD ho
   rename impl_done.D w0 w _ P0_ g l0.length c ep kind fr tt am no l2 => hD
   rename j < l2.length => hj1
   go_upto_region 9 with fail
   clear x fx
   generalize w2d.setCell ⟨g,j * 5 + 1,none⟩ (.int .i64 (wrap64 (o - am))) = w3 at hD ⊢
   obtain ⟨_,x,fx⟩ := hD.setS j hj1 0;obtain ⟨c0,c1,t0,t2,t3,r0,r1,fl,fr0,fr1⟩ := hD.cells
   generalize ho : (l2.getD j z63).f3 = o at x h
   go_still_tail 9,(by kernel_rfl)
   change wpList _ _ _ _ _ w3.drew
   clear c0 c1 t0 t2 t3 r0 r1 fl fr0 fr1 x fx;replace hD := hD.below (below_drew (Below.refl _ _))
   generalize w3.drew = w3d at hD ⊢
   obtain ⟨hD1,x,fx⟩ := hD.setS j hj1 (wrap64 (o + am));rw [ho] at x;obtain ⟨l3,hl_⟩ : ∃ l_,l_ = setS l2 j (wrap64 (o + am)) := ⟨_,rfl⟩;rw [← hl_] at hD1 h;clear hl_ hj1 hD ho
   rename impl_done.D w0 w _ P0_ g l0.length c ep kind fr tt am no l3 => hD
   obtain rfl := Option.some.inj h;clear h
   go_upto_region 13 with fail
   clear x fx
   generalize w3d.setCell ⟨g,j * 5 + 3,none⟩ (.int .i64 (wrap64 (o + am))) = w4 at hD ⊢
   obtain ⟨c0,c1,t0,t2,t3,r0,r1,fl,fr0,fr1⟩ := hD.cells;have HE := Aside0.mk (Kd.S_mono hD.s (fun k_ hk_ => .inl hk_) : Kd.S k63 63 w4 w0.heap.size (fun k_ => (P0_ k_ ∧ k_ < w.heap.size) ∨ w.heap.size + 1 + 1 < k_) (.slice (some ⟨g,0,none⟩) l0.length c) _);have GRE := Aside0.mk hD.hr;have HBE := Aside0.mk hD.b;have HKE := Aside0.mk hD.k;clear hD;go_wp2
   skip
   refine bodyPost_ret (results_cell_row rfl _ _ (w.heap.size + 1 + 1) 31 #[.int .i64 ep,.slice (some ⟨g,0,none⟩) l0.length c] (0,0) _ rfl (blk_put (cs := #[.int .i64 ep,.slice none 0 0]) (blk_put (cs := #[.int .i64 0,.slice none 0 0]) GRE.out 0 _ rfl) 1 _ rfl) Try.underlying31 rfl (by kernel_rfl)) rfl ?_;exact ⟨_,rfl,Kd.S_mono (Kd.S_far (p := ⟨w.heap.size + 1 + 1,1,none⟩) (Kd.S_far (p := ⟨w.heap.size + 1 + 1,0,none⟩) HE.out (fun k_ hk_ => show k_ ≠ w.heap.size + 1 + 1 from hk_.elim (fun h_ => by have := h_.2; omega) (fun h_ => by omega)) _) (fun k_ hk_ => show k_ ≠ w.heap.size + 1 + 1 from hk_.elim (fun h_ => by have := h_.2; omega) (fun h_ => by omega)) _) (fun k_ hk_ => hk_.imp (fun h_ => h_.1) (fun h_ => by omega)),(below_set (below_set HBE.out (show w0.heap.size ≤ w.heap.size + 1 + 1 from Nat.le_trans HB0.out.size (by omega))) (show w0.heap.size ≤ w.heap.size + 1 + 1 from Nat.le_trans HB0.out.size (by omega))),((HKE.out.setCell (.inr (show w.heap.size ≤ w.heap.size + 1 + 1 by omega)) _).setCell (.inr (show w.heap.size ≤ w.heap.size + 1 + 1 by omega)) _)⟩
  ·have k2b : (kind == 2) = false := beq_eq_false_iff_ne.mpr k2;rw [if_neg k2] at h
   by_cases k3 : kind = 3
   ·have k3b : (kind == 3) = true := beq_iff_eq.mpr k3;rw [if_pos k3] at h;obtain ⟨_,x,fx⟩ := hD.setS j hj1 0;obtain ⟨c0,c1,t0,t2,t3,r0,r1,fl,fr0,fr1⟩ := hD.cells
    generalize ho : (l1.getD j z63).f3 = o at x h
    go_upto_region 11 with fail
    go_still_tail 9,(by kernel_rfl)
    change wpList _ _ _ _ _ w2.drew
    clear c0 c1 t0 t2 t3 r0 r1 fl fr0 fr1 x fx;replace hD := hD.below (below_drew (Below.refl _ _))
    generalize w2.drew = w2d at hD ⊢
    obtain ⟨hD1,x,fx⟩ := hD.setS j hj1 (wrap64 (o - am));rw [ho] at x;obtain ⟨l2,hl_⟩ : ∃ l_,l_ = setS l1 j (wrap64 (o - am)) := ⟨_,rfl⟩;rw [← hl_] at hD1 h
    have hj2 : j < l2.length := by rw [hl_,impl_done.len_setS]; exact hj1
    clear hl_ hj1 hD ho
    rename impl_done.D w0 w _ P0_ g l0.length c ep kind fr tt am no l2 => hD
    rename j < l2.length => hj1
    go_upto_region 12 with fail
    clear x fx
    generalize w2d.setCell ⟨g,j * 5 + 3,none⟩ (.int .i64 (wrap64 (o - am))) = w3 at hD ⊢
    by_cases hlen : (l2.getD j z63).f4.length < 1000000000000
    case neg => rw [if_neg hlen] at h; exact absurd h (by simp)
    rw [if_pos hlen] at h;have hr : r = setL l2 j (leavesL (l2.getD j z63).f4 am (wrap64 (ep + 2))) := (Option.some.inj h).symm;clear h;obtain ⟨c0,c1,t0,t2,t3,r0,r1,fl,fr0,fr1⟩ := hD.cells;have HD := Aside0.mk hD;have HR := Aside0.mk hr;have HJ1 := Aside0.mk hj1;have HLN := Aside0.mk hlen;clear hD hr hj1 hlen;have GR := Aside0.mk HD.out.hr
    go_wp2_with (go_at_call 108; refine (impl_Acct_leaves.calls (fun k_ => P0_ k_ ∧ k_ < w.heap.size) g l0.length c l2 j am (wrap64 (ep + 2)) w0 _ HD.out.b HD.out.s HJ1.out HLN.out).mono ?_; rintro e w4 ⟨rfl,hs,hb,hk⟩; have hs' : Kd.S k63 63 w4 w0.heap.size (fun k_ => (P0_ k_ ∧ k_ < w.heap.size) ∨ w3.heap.size ≤ k_) (.slice (some ⟨g,0,none⟩) l0.length c) r := (congrArg (fun z => Kd.S k63 63 w4 w0.heap.size (fun k_ => (P0_ k_ ∧ k_ < w.heap.size) ∨ w3.heap.size ≤ k_) (.slice (some ⟨g,0,none⟩) l0.length c) z) HR.out).mpr hs; have HE := Aside0.mk (Kd.S_mono hs' (fun k_ hk_ => hk_.imp id (fun h_ => Nat.lt_of_lt_of_le (blk_lt GR.out) h_)) : Kd.S k63 63 w4 w0.heap.size (fun k_ => (P0_ k_ ∧ k_ < w.heap.size) ∨ w.heap.size + 1 + 1 < k_) (.slice (some ⟨g,0,none⟩) l0.length c) r); have HBE := Aside0.mk hb; have HKE := Aside0.mk (HD.out.k.then_ hk (fun _ h_ => .inl h_.1)); have hl4 := blk_kept HD.out.hl hk (fun h_ => Nat.lt_irrefl _ h_.2); have hr4 := blk_kept HD.out.hr hk (fun h_ => by have := h_.2; omega); have GRE := Aside0.mk hr4; have d1 := (blk_cell hl4 1).trans rfl; have d0 := (blk_cell hl4 0).trans rfl; have s0 := (blk_cell hr4 0).trans rfl; have s1 := (blk_cell hr4 1).trans rfl; have sf0 := blk_frozen hr4 0; have sf1 := blk_frozen hr4 1; clear hs hs' hb hk hl4 hr4)
    skip
    refine bodyPost_ret (results_cell_row rfl _ _ (w.heap.size + 1 + 1) 31 #[.int .i64 ep,.slice (some ⟨g,0,none⟩) l0.length c] (0,0) _ rfl (blk_put (cs := #[.int .i64 ep,.slice none 0 0]) (blk_put (cs := #[.int .i64 0,.slice none 0 0]) GRE.out 0 _ rfl) 1 _ rfl) Try.underlying31 rfl (by kernel_rfl)) rfl ?_;exact ⟨_,rfl,Kd.S_mono (Kd.S_far (p := ⟨w.heap.size + 1 + 1,1,none⟩) (Kd.S_far (p := ⟨w.heap.size + 1 + 1,0,none⟩) HE.out (fun k_ hk_ => show k_ ≠ w.heap.size + 1 + 1 from hk_.elim (fun h_ => by have := h_.2; omega) (fun h_ => by omega)) _) (fun k_ hk_ => show k_ ≠ w.heap.size + 1 + 1 from hk_.elim (fun h_ => by have := h_.2; omega) (fun h_ => by omega)) _) (fun k_ hk_ => hk_.imp (fun h_ => h_.1) (fun h_ => by omega)),(below_set (below_set HBE.out (show w0.heap.size ≤ w.heap.size + 1 + 1 from Nat.le_trans HB0.out.size (by omega))) (show w0.heap.size ≤ w.heap.size + 1 + 1 from Nat.le_trans HB0.out.size (by omega))),((HKE.out.setCell (.inr (show w.heap.size ≤ w.heap.size + 1 + 1 by omega)) _).setCell (.inr (show w.heap.size ≤ w.heap.size + 1 + 1 by omega)) _)⟩
   ·have k3b : (kind == 3) = false := beq_eq_false_iff_ne.mpr k3;rw [if_neg k3] at h;obtain rfl := Option.some.inj h;clear h;obtain ⟨c0,c1,t0,t2,t3,r0,r1,fl,fr0,fr1⟩ := hD.cells;have HE := Aside0.mk (Kd.S_mono hD.s (fun k_ hk_ => .inl hk_) : Kd.S k63 63 w2 w0.heap.size (fun k_ => (P0_ k_ ∧ k_ < w.heap.size) ∨ w.heap.size + 1 + 1 < k_) (.slice (some ⟨g,0,none⟩) l0.length c) _);have GRE := Aside0.mk hD.hr;have HBE := Aside0.mk hD.b;have HKE := Aside0.mk hD.k;clear hD;go_wp2
    skip
    refine bodyPost_ret (results_cell_row rfl _ _ (w.heap.size + 1 + 1) 31 #[.int .i64 ep,.slice (some ⟨g,0,none⟩) l0.length c] (0,0) _ rfl (blk_put (cs := #[.int .i64 ep,.slice none 0 0]) (blk_put (cs := #[.int .i64 0,.slice none 0 0]) GRE.out 0 _ rfl) 1 _ rfl) Try.underlying31 rfl (by kernel_rfl)) rfl ?_;exact ⟨_,rfl,Kd.S_mono (Kd.S_far (p := ⟨w.heap.size + 1 + 1,1,none⟩) (Kd.S_far (p := ⟨w.heap.size + 1 + 1,0,none⟩) HE.out (fun k_ hk_ => show k_ ≠ w.heap.size + 1 + 1 from hk_.elim (fun h_ => by have := h_.2; omega) (fun h_ => by omega)) _) (fun k_ hk_ => show k_ ≠ w.heap.size + 1 + 1 from hk_.elim (fun h_ => by have := h_.2; omega) (fun h_ => by omega)) _) (fun k_ hk_ => hk_.imp (fun h_ => h_.1) (fun h_ => by omega)),(below_set (below_set HBE.out (show w0.heap.size ≤ w.heap.size + 1 + 1 from Nat.le_trans HB0.out.size (by omega))) (show w0.heap.size ≤ w.heap.size + 1 + 1 from Nat.le_trans HB0.out.size (by omega))),((HKE.out.setCell (.inr (show w.heap.size ≤ w.heap.size + 1 + 1 by omega)) _).setCell (.inr (show w.heap.size ≤ w.heap.size + 1 + 1 by omega)) _)⟩

/-! ### impl_Apply: function 18 -/
def impl_Apply.copy (k : Nat) (ep : Int) (l : List S63) (c : Int) : Option (Int × List S63 × Int) := (impl_copyLedger.f k ep l).bind fun x => some (x.1,x.2,c)
def impl_Apply.do (k : Nat) (ep : Int) (l : List S63) (a : Nat) (kind : Int) (tt : ByteArray) (am : Int) : Option (Int × List S63 × Int) :=
 (impl_copyLedger.f k ep l).bind fun y => if a < y.2.length then (impl_done.f y.1 y.2 a kind tt am).bind fun z => (impl_LedgerOk.f k y.1 z).bind fun q =>
  if q = true then some (y.1,z,0) else impl_Apply.copy k ep l 5 else none
def impl_Apply.g (k : Nat) (ep : Int) (l : List S63) (s : S63) (a : Nat) (kind : Int) (tt : ByteArray) (am no : Int) : Option (Int × List S63 × Int) :=
 if no = s.f2 then (impl_Acct_has.f s.f1 s.f3 kind).bind fun hs => if hs < am then impl_Apply.copy k ep l 4 else impl_Apply.do k ep l a kind tt am else impl_Apply.copy k ep l 3
def impl_Apply.f (k : Nat) (ep : Int) (l : List S63) (kind : Int) (fr tt : ByteArray) (am no : Int) : Option (Int × List S63 × Int) :=
 (impl_AcctAt.f l fr).bind fun a => (impl_LedgerOk.f k ep l).bind fun q1 => (if q1 = true then impl_TxOk.f k kind fr tt am no else some false).bind fun q2 =>
 if q2 = true then (if a < 0 then impl_Apply.copy k ep l 2 else if a < (l.length : Int) then impl_Apply.g k ep l (rd_T63 l a) a.toNat kind tt am no else none) else impl_Apply.copy k ep l 1
theorem impl_Apply.results2 {P : Program} {fn : Func} {p q : Tmp} {ty : TypeId} (h : fn.results = #[.cell p ty,.tmp q]) (tmps : Array Value) (w : World) (g : Nat) (t : TypeId) (cs : Array Value) (fr : Nat × Nat) (d : TypeDesc) (v : Value)
  (hp : tmps.getD p undef = .pointer (some ⟨g,0,none⟩)) (hv : tmps.getD q undef = v) (hg : w.heap[g]? = some (.cells cs t fr))
  (hu : P.underlying ty = some d) (hd : (match d with | .struct _ | .array _ _ => true | _ => false) = true) (hi : (P.info? ty).map (·.size) = some cs.size) :
  (results fn tmps).run P w = .ok (.tuple #[.agg cs,v]) w := by
 have hp' : tmps[p]?.getD undef = .pointer (some ⟨g,0,none⟩) := by simpa using hp
 have hv' : tmps[q]?.getD undef = v := by simpa using hv
 simp [results,h,hp',hv',asAddr,run_loadVar_row w g t ty cs fr d hg hu hd hi]
/-- The three variables in memory. -/
structure impl_Apply.D (w W : World) (ep kind : Int) (A0 : Option Addr) (n c : Nat) (fr tt : ByteArray) (am no : Int) : Prop where
 hl : W.heap[w.heap.size]? = some (.cells #[.int .i64 ep,.slice A0 n c] 31 (0,0))
 ht : W.heap[w.heap.size + 1]? = some (.cells #[.int .i64 kind,.string fr,.string tt,.int .i64 am,.int .i64 no] 35 (0,0))
 hr : W.heap[w.heap.size + 1 + 1]? = some (.cells #[.int .i64 0,.slice none 0 0] 31 (0,0))
 b : Below w.heap.size w W
section
variable {w W W' : World} {ep kind : Int} {A0 : Option Addr} {n c : Nat} {fr tt : ByteArray} {am no : Int}
theorem impl_Apply.D.below (h : impl_Apply.D w W ep kind A0 n c fr tt am no) (hb : Below W.heap.size W W') : impl_Apply.D w W' ep kind A0 n c fr tt am no :=
 ⟨(hb.block _ (blk_lt h.hl)).trans h.hl,(hb.block _ (blk_lt h.ht)).trans h.ht,(hb.block _ (blk_lt h.hr)).trans h.hr,below_step h.b hb⟩
theorem impl_Apply.D.kept {S : Nat → Prop} (h : impl_Apply.D w W ep kind A0 n c fr tt am no) (hk : Kept W W' S) (hS : ∀ k,S k → w.heap.size + 1 + 1 < k) (hb : Below w.heap.size w W') : impl_Apply.D w W' ep kind A0 n c fr tt am no :=
 ⟨blk_kept h.hl hk (fun h_ => by have := hS _ h_; omega),blk_kept h.ht hk (fun h_ => by have := hS _ h_; omega),blk_kept h.hr hk (fun h_ => by have := hS _ h_; omega),hb⟩
theorem impl_Apply.D.cells (h : impl_Apply.D w W ep kind A0 n c fr tt am no) : W.cell? ⟨w.heap.size,0,none⟩ = some (.int .i64 ep) ∧ W.cell? ⟨w.heap.size,1,none⟩ = some (.slice A0 n c) ∧ W.cell? ⟨w.heap.size + 1,0,none⟩ = some (.int .i64 kind) ∧ W.cell? ⟨w.heap.size + 1,1,none⟩ = some (.string fr) ∧ W.cell? ⟨w.heap.size + 1,2,none⟩ = some (.string tt) ∧ W.cell? ⟨w.heap.size + 1,3,none⟩ = some (.int .i64 am) ∧ W.cell? ⟨w.heap.size + 1,4,none⟩ = some (.int .i64 no) ∧ W.cell? ⟨w.heap.size + 1 + 1,0,none⟩ = some (.int .i64 0) ∧ W.cell? ⟨w.heap.size + 1 + 1,1,none⟩ = some (.slice none 0 0) ∧ W.frozen? ⟨w.heap.size + 1 + 1,0,none⟩ = false ∧ W.frozen? ⟨w.heap.size + 1 + 1,1,none⟩ = false :=
 ⟨(blk_cell h.hl 0).trans rfl,(blk_cell h.hl 1).trans rfl,(blk_cell h.ht 0).trans rfl,(blk_cell h.ht 1).trans rfl,(blk_cell h.ht 2).trans rfl,(blk_cell h.ht 3).trans rfl,(blk_cell h.ht 4).trans rfl,(blk_cell h.hr 0).trans rfl,(blk_cell h.hr 1).trans rfl,blk_frozen h.hr 0,blk_frozen h.hr 1⟩
theorem impl_Apply.D.far (h : impl_Apply.D w W ep kind A0 n c fr tt am no) {g j : Nat} (hp : w.heap.size + 1 + 1 < g) (u : Value) : impl_Apply.D w (W.setCell ⟨g,j,none⟩ u) ep kind A0 n c fr tt am no :=
 ⟨blk_far h.hl (show w.heap.size ≠ g by omega) u,blk_far h.ht (show w.heap.size + 1 ≠ g by omega) u,blk_far h.hr (show w.heap.size + 1 + 1 ≠ g by omega) u,below_set h.b (by omega)⟩
theorem impl_Apply.D.seven (h : impl_Apply.D w W ep kind A0 n c fr tt am no) : W.cell? ⟨w.heap.size,0,none⟩ = some (.int .i64 ep) ∧ W.cell? ⟨w.heap.size,1,none⟩ = some (.slice A0 n c) ∧ W.cell? ⟨w.heap.size + 1,0,none⟩ = some (.int .i64 kind) ∧ W.cell? ⟨w.heap.size + 1,1,none⟩ = some (.string fr) ∧ W.cell? ⟨w.heap.size + 1,2,none⟩ = some (.string tt) ∧ W.cell? ⟨w.heap.size + 1,3,none⟩ = some (.int .i64 am) ∧ W.cell? ⟨w.heap.size + 1,4,none⟩ = some (.int .i64 no) :=
 ⟨(blk_cell h.hl 0).trans rfl,(blk_cell h.hl 1).trans rfl,(blk_cell h.ht 0).trans rfl,(blk_cell h.ht 1).trans rfl,(blk_cell h.ht 2).trans rfl,(blk_cell h.ht 3).trans rfl,(blk_cell h.ht 4).trans rfl⟩
end
theorem impl_Apply.calls (k : Nat) (ep : Int) (A0 : Option Addr) (c0 : Nat) (l0 : List S63) (kind : Int) (fr tt : ByteArray) (am no : Int) (r1 : Int) (r2 : List S63) (r3 : Int) (w : World) (hr0 : Kd.C k63 w A0 l0.length l0) (hc0 : l0.length ≤ c0) (h : impl_Apply.f k ep l0 kind fr tt am no = some (r1,r2,r3)) :
  Calls Try.prog 18 #[.agg #[.int .i64 ep,.slice A0 l0.length c0],.agg #[.int .i64 kind,.string fr,.string tt,.int .i64 am,.int .i64 no]] w fun e w' => ∃ v1_ : Value,e = .returned (.tuple #[.agg #[.int .i64 r1,v1_],.int .i64 r3]) ∧ Kd.S k63 63 w' w.heap.size (fun _ => True) v1_ r2 ∧ Below w.heap.size w w' := by
 have HR := Aside0.mk hr0;have HC := Aside0.mk hc0;unfold impl_Apply.f at h;obtain ⟨a,ha,h1⟩ := Option.bind_eq_some_iff.mp h;clear h;obtain ⟨q1,hq1,h2⟩ := Option.bind_eq_some_iff.mp h1;clear h1;obtain ⟨q2,hq2,h⟩ := Option.bind_eq_some_iff.mp h2;clear h2;have H0 := Aside0.mk h;have HQ20 := Aside0.mk hq2;clear h hq2;have HA := Aside0.mk ha;have HQ1 := Aside0.mk hq1;clear hr0 hc0 ha hq1;go_enter Try.func18,Try.ntmps18
 go_upto_region 1 with fail
 have g := impl_done.three w (.cells #[.int .i64 ep,.slice A0 l0.length c0] 31) (.cells #[.int .i64 kind,.string fr,.string tt,.int .i64 am,.int .i64 no] 35) (.cells #[.int .i64 0,.slice none 0 0] 31);have HD1 := Aside0.mk (impl_Apply.D.mk (n := l0.length) (c := c0) g.1 g.2.1 g.2.2 (below_alloc (below_alloc (below_alloc (Below.refl w.heap.size w) _) _) _));clear g
 generalize (((w.alloc (.cells #[.int .i64 ep,.slice A0 l0.length c0] 31)).alloc (.cells #[.int .i64 kind,.string fr,.string tt,.int .i64 am,.int .i64 no] 35)).alloc (.cells #[.int .i64 0,.slice none 0 0] 31)) = w1 at HD1 ⊢
 obtain ⟨a0,a1,t0,t1,t2,t3,t4,r0,r1',fr0,fr1⟩ := HD1.out.cells
 go_upto_region 2 with (go_at_call 43; (with_reducible refine (impl_AcctAt.calls _ _ l0 fr a _ ?s1 ?s2 HA.out).mono ?_); (case s1 => exact Kd.C_below HR.out HD1.out.b); (case s2 => exact HC.out); rintro e w2 ⟨rfl,hb⟩; have HD2 := Aside0.mk (HD1.out.below hb); clear hb a0 a1 t0 t1 t2 t3 t4 r0 r1' fr0 fr1; obtain ⟨a0,a1,t0,t1,t2,t3,t4,r0,r1',fr0,fr1⟩ := HD2.out.cells)
 cases q1 with
 | false =>
  have hq2 := HQ20.out;have h := H0.out;clear H0 HQ20;rw [if_neg (by simp)] at hq2;obtain rfl := Option.some.inj hq2;rw [if_neg (by simp)] at h;clear hq2;unfold impl_Apply.copy at h;obtain ⟨⟨x1,x2⟩,hx,h3⟩ := Option.bind_eq_some_iff.mp h;clear h;have HX := Aside0.mk hx
  injection h3 with h4
  injection h4 with e1 h5
  injection h5 with e2 e3
  subst e1 e2 e3;clear hx
  go_wp2_with (first | (go_at_call 27; (with_reducible refine (impl_LedgerOk.calls k ep _ _ l0 false _ ?s1 ?s2 HQ1.out).mono ?_); (case s1 => exact Kd.C_below HR.out HD2.out.b); (case s2 => exact HC.out); rintro e w3 ⟨rfl,hb⟩; have HD3 := Aside0.mk (HD2.out.below hb); clear hb a0 a1 t0 t1 t2 t3 t4 r0 r1' fr0 fr1; obtain ⟨a0,a1,t0,t1,t2,t3,t4,r0,r1',fr0,fr1⟩ := HD3.out.cells) | (go_at_call 63; (with_reducible refine (impl_copyLedger.calls k ep _ _ l0 x1 x2 _ ?s1 ?s2 HX.out).mono ?_); (case s1 => exact Kd.C_below HR.out HD3.out.b); (case s2 => exact HC.out); rintro e w9 ⟨v9,rfl,hS,hb⟩; obtain ⟨A9,c9,rfl⟩ := Kd.S_slice hS; have HS9 := Aside0.mk (Kd.S_lower (Kd.S_mono (ok' := fun k_ => w.heap.size + 1 + 1 < k_) (Kd.S_bound hS) (fun k_ hk => Nat.lt_of_lt_of_le (blk_lt HD3.out.hr) hk.2.1)) HD3.out.b.size); have HD9 := Aside0.mk (HD3.out.below hb); clear hS hb a0 a1 t0 t1 t2 t3 t4 r0 r1' fr0 fr1; obtain ⟨a0,a1,t0,t1,t2,t3,t4,r0,r1',fr0,fr1⟩ := HD9.out.cells))
  skip
  refine bodyPost_ret (impl_Apply.results2 rfl _ _ (w.heap.size + 1 + 1) 31 #[.int .i64 x1,.slice A9 x2.length c9] (0,0) _ (.int .i64 1) rfl rfl (blk_put (cs := #[.int .i64 x1,.slice none 0 0]) (blk_put (cs := #[.int .i64 0,.slice none 0 0]) HD9.out.hr 0 _ rfl) 1 _ rfl) Try.underlying31 rfl (by kernel_rfl)) rfl ?_;exact ⟨_,rfl,Kd.S_mono (Kd.S_far (p := ⟨w.heap.size + 1 + 1,1,none⟩) (Kd.S_far (p := ⟨w.heap.size + 1 + 1,0,none⟩) HS9.out (fun k_ hk => Nat.ne_of_gt hk) _) (fun k_ hk => Nat.ne_of_gt hk) _) (fun _ _ => trivial),below_set (below_set HD9.out.b (by omega)) (by omega)⟩
 | true =>
  have hq2 := HQ20.out;clear HQ20;rw [if_pos rfl] at hq2;have HQ2 := Aside0.mk hq2;clear hq2
  cases q2 with
  | false =>
   have h := H0.out;clear H0;rw [if_neg (by simp)] at h;unfold impl_Apply.copy at h;obtain ⟨⟨x1,x2⟩,hx,h3⟩ := Option.bind_eq_some_iff.mp h;clear h;have HX := Aside0.mk hx
   injection h3 with h4
   injection h4 with e1 h5
   injection h5 with e2 e3
   subst e1 e2 e3;clear hx
   go_wp2_with (first | (go_at_call 27; (with_reducible refine (impl_LedgerOk.calls k ep _ _ l0 true _ ?s1 ?s2 HQ1.out).mono ?_); (case s1 => exact Kd.C_below HR.out HD2.out.b); (case s2 => exact HC.out); rintro e w3 ⟨rfl,hb⟩; have HD3 := Aside0.mk (HD2.out.below hb); clear hb a0 a1 t0 t1 t2 t3 t4 r0 r1' fr0 fr1; obtain ⟨a0,a1,t0,t1,t2,t3,t4,r0,r1',fr0,fr1⟩ := HD3.out.cells) | (go_at_call 62; (with_reducible refine (impl_TxOk.calls k kind fr tt am no false _ HQ2.out).mono ?_); rintro e w4 ⟨rfl,hb⟩; have HD4 := Aside0.mk (HD3.out.below hb); clear hb a0 a1 t0 t1 t2 t3 t4 r0 r1' fr0 fr1; obtain ⟨a0,a1,t0,t1,t2,t3,t4,r0,r1',fr0,fr1⟩ := HD4.out.cells) | (go_at_call 63; (with_reducible refine (impl_copyLedger.calls k ep _ _ l0 x1 x2 _ ?s1 ?s2 HX.out).mono ?_); (case s1 => exact Kd.C_below HR.out HD4.out.b); (case s2 => exact HC.out); rintro e w9 ⟨v9,rfl,hS,hb⟩; obtain ⟨A9,c9,rfl⟩ := Kd.S_slice hS; have HS9 := Aside0.mk (Kd.S_lower (Kd.S_mono (ok' := fun k_ => w.heap.size + 1 + 1 < k_) (Kd.S_bound hS) (fun k_ hk => Nat.lt_of_lt_of_le (blk_lt HD4.out.hr) hk.2.1)) HD4.out.b.size); have HD9 := Aside0.mk (HD4.out.below hb); clear hS hb a0 a1 t0 t1 t2 t3 t4 r0 r1' fr0 fr1; obtain ⟨a0,a1,t0,t1,t2,t3,t4,r0,r1',fr0,fr1⟩ := HD9.out.cells))
   skip
   refine bodyPost_ret (impl_Apply.results2 rfl _ _ (w.heap.size + 1 + 1) 31 #[.int .i64 x1,.slice A9 x2.length c9] (0,0) _ (.int .i64 1) rfl rfl (blk_put (cs := #[.int .i64 x1,.slice none 0 0]) (blk_put (cs := #[.int .i64 0,.slice none 0 0]) HD9.out.hr 0 _ rfl) 1 _ rfl) Try.underlying31 rfl (by kernel_rfl)) rfl ?_;exact ⟨_,rfl,Kd.S_mono (Kd.S_far (p := ⟨w.heap.size + 1 + 1,1,none⟩) (Kd.S_far (p := ⟨w.heap.size + 1 + 1,0,none⟩) HS9.out (fun k_ hk => Nat.ne_of_gt hk) _) (fun k_ hk => Nat.ne_of_gt hk) _) (fun _ _ => trivial),below_set (below_set HD9.out.b (by omega)) (by omega)⟩
  | true =>
   have h := H0.out;clear H0;rw [if_pos rfl] at h;have H0 := Aside0.mk h;clear h
   go_upto_region 4 with (first | (go_at_call 27; (with_reducible refine (impl_LedgerOk.calls k ep _ _ l0 true _ ?s1 ?s2 HQ1.out).mono ?_); (case s1 => exact Kd.C_below HR.out HD2.out.b); (case s2 => exact HC.out); rintro e w3 ⟨rfl,hb⟩; have HD3 := Aside0.mk (HD2.out.below hb); clear hb a0 a1 t0 t1 t2 t3 t4 r0 r1' fr0 fr1; obtain ⟨a0,a1,t0,t1,t2,t3,t4,r0,r1',fr0,fr1⟩ := HD3.out.cells) | (go_at_call 62; (with_reducible refine (impl_TxOk.calls k kind fr tt am no true _ HQ2.out).mono ?_); rintro e w4 ⟨rfl,hb⟩; have HD4 := Aside0.mk (HD3.out.below hb); clear hb a0 a1 t0 t1 t2 t3 t4 r0 r1' fr0 fr1; obtain ⟨a0,a1,t0,t1,t2,t3,t4,r0,r1',fr0,fr1⟩ := HD4.out.cells))
   have h := H0.out;clear H0
   by_cases hneg : a < 0
   ·rw [if_pos hneg] at h;have n0 := eq_true hneg;clear hneg;unfold impl_Apply.copy at h;obtain ⟨⟨x1,x2⟩,hx,h3⟩ := Option.bind_eq_some_iff.mp h;clear h;have HX := Aside0.mk hx
    injection h3 with h4
    injection h4 with e1 h5
    injection h5 with e2 e3
    subst e1 e2 e3;clear hx
    go_wp2_with (go_at_call 63; (with_reducible refine (impl_copyLedger.calls k ep _ _ l0 x1 x2 _ ?s1 ?s2 HX.out).mono ?_); (case s1 => exact Kd.C_below HR.out HD4.out.b); (case s2 => exact HC.out); rintro e w9 ⟨v9,rfl,hS,hb⟩; obtain ⟨A9,c9,rfl⟩ := Kd.S_slice hS; have HS9 := Aside0.mk (Kd.S_lower (Kd.S_mono (ok' := fun k_ => w.heap.size + 1 + 1 < k_) (Kd.S_bound hS) (fun k_ hk => Nat.lt_of_lt_of_le (blk_lt HD4.out.hr) hk.2.1)) HD4.out.b.size); have HD9 := Aside0.mk (HD4.out.below hb); clear hS hb a0 a1 t0 t1 t2 t3 t4 r0 r1' fr0 fr1; obtain ⟨a0,a1,t0,t1,t2,t3,t4,r0,r1',fr0,fr1⟩ := HD9.out.cells)
    skip
    refine bodyPost_ret (impl_Apply.results2 rfl _ _ (w.heap.size + 1 + 1) 31 #[.int .i64 x1,.slice A9 x2.length c9] (0,0) _ (.int .i64 2) rfl rfl (blk_put (cs := #[.int .i64 x1,.slice none 0 0]) (blk_put (cs := #[.int .i64 0,.slice none 0 0]) HD9.out.hr 0 _ rfl) 1 _ rfl) Try.underlying31 rfl (by kernel_rfl)) rfl ?_;exact ⟨_,rfl,Kd.S_mono (Kd.S_far (p := ⟨w.heap.size + 1 + 1,1,none⟩) (Kd.S_far (p := ⟨w.heap.size + 1 + 1,0,none⟩) HS9.out (fun k_ hk => Nat.ne_of_gt hk) _) (fun k_ hk => Nat.ne_of_gt hk) _) (fun _ _ => trivial),below_set (below_set HD9.out.b (by omega)) (by omega)⟩
   rw [if_neg hneg] at h;have nn := eq_false hneg
   by_cases hlt : a < (l0.length : Int)
   case neg => rw [if_neg hlt] at h; exact absurd h (by simp)
   rw [if_pos hlt] at h;obtain ⟨j,rfl⟩ : ∃ j : Nat,a = (j : Int) := ⟨a.toNat,by omega⟩;have HJ := Aside0.mk (show j < l0.length by omega);have n0 : (0 ≤ (j : Int)) = True := eq_true (by omega);have n1 := eq_true hlt;clear hneg hlt;obtain ⟨ad,A4,c4,rfl,_,y1,y2,y3,_,_⟩ := at_T63 (Kd.C_below HR.out HD4.out.b) (j : Int) (by omega) (by have := HJ.out; omega);rw [Int.toNat_natCast] at y1 y2 y3 h
   generalize rd_T63 l0 (j : Int) = s at y1 y2 y3 h
   unfold impl_Apply.g at h
   generalize s.f1 = o1 at y1 h
   generalize s.f2 = o2 at y2 h
   generalize s.f3 = o3 at y3 h
   go_upto_region 6 with fail
   go_quiet (fail)
   have HD5 := Aside0.mk (HD4.out.below (pw_below_drewN (Below.refl _ _) nq));have y1' : (w4.drewN nq).cell? ⟨(ad.add (j * 5)).block,(ad.add (j * 5)).off + 1,none⟩ = some (.int .i64 o1) := y1;have y2' : (w4.drewN nq).cell? ⟨(ad.add (j * 5)).block,(ad.add (j * 5)).off + 2,none⟩ = some (.int .i64 o2) := y2;have y3' : (w4.drewN nq).cell? ⟨(ad.add (j * 5)).block,(ad.add (j * 5)).off + 3,none⟩ = some (.int .i64 o3) := y3;clear y1 y2 y3 a0 a1 t0 t1 t2 t3 t4 r0 r1' fr0 fr1
   generalize w4.drewN nq = w5 at HD5 y1' y2' y3' ⊢
   obtain ⟨a0,a1,t0,t1,t2,t3,t4,r0,r1',fr0,fr1⟩ := HD5.out.cells
   by_cases hno : no = o2
   case neg =>
    have kb : (no != o2) = true := bne_iff_ne.mpr hno;rw [if_neg hno] at h;unfold impl_Apply.copy at h;obtain ⟨⟨x1,x2⟩,hx,h3⟩ := Option.bind_eq_some_iff.mp h;clear h;have HX := Aside0.mk hx
    injection h3 with h4
    injection h4 with e1 h5
    injection h5 with e2 e3
    subst e1 e2 e3;clear hx
    go_wp2_with (go_at_call 63; (with_reducible refine (impl_copyLedger.calls k ep _ _ l0 x1 x2 _ ?s1 ?s2 HX.out).mono ?_); (case s1 => exact Kd.C_below HR.out HD5.out.b); (case s2 => exact HC.out); rintro e w9 ⟨v9,rfl,hS,hb⟩; obtain ⟨A9,c9,rfl⟩ := Kd.S_slice hS; have HS9 := Aside0.mk (Kd.S_lower (Kd.S_mono (ok' := fun k_ => w.heap.size + 1 + 1 < k_) (Kd.S_bound hS) (fun k_ hk => Nat.lt_of_lt_of_le (blk_lt HD5.out.hr) hk.2.1)) HD5.out.b.size); have HD9 := Aside0.mk (HD5.out.below hb); clear hS hb a0 a1 t0 t1 t2 t3 t4 r0 r1' fr0 fr1; obtain ⟨a0,a1,t0,t1,t2,t3,t4,r0,r1',fr0,fr1⟩ := HD9.out.cells)
    skip
    refine bodyPost_ret (impl_Apply.results2 rfl _ _ (w.heap.size + 1 + 1) 31 #[.int .i64 x1,.slice A9 x2.length c9] (0,0) _ (.int .i64 3) rfl rfl (blk_put (cs := #[.int .i64 x1,.slice none 0 0]) (blk_put (cs := #[.int .i64 0,.slice none 0 0]) HD9.out.hr 0 _ rfl) 1 _ rfl) Try.underlying31 rfl (by kernel_rfl)) rfl ?_;exact ⟨_,rfl,Kd.S_mono (Kd.S_far (p := ⟨w.heap.size + 1 + 1,1,none⟩) (Kd.S_far (p := ⟨w.heap.size + 1 + 1,0,none⟩) HS9.out (fun k_ hk => Nat.ne_of_gt hk) _) (fun k_ hk => Nat.ne_of_gt hk) _) (fun _ _ => trivial),below_set (below_set HD9.out.b (by omega)) (by omega)⟩
   have kb : (no != o2) = false := by rw [hno]; exact bne_self_eq_false _
   rw [if_pos hno] at h;obtain ⟨hs,hh,h1⟩ := Option.bind_eq_some_iff.mp h;clear h;have HH := Aside0.mk hh;clear hh hno
   go_upto_region 8 with fail
   go_quiet ((go_at_call 64; exact Calls.quiet_of_same (impl_Acct_has.calls (ad.add (j * 5)) o1 o3 kind hs _ y1' y3' HH.out)))
   have HD6 := Aside0.mk (HD5.out.below (pw_below_drewN (Below.refl _ _) nq));clear y1' y2' y3' a0 a1 t0 t1 t2 t3 t4 r0 r1' fr0 fr1
   generalize w5.drewN nq = w6 at HD6 ⊢
   obtain ⟨a0,a1,t0,t1,t2,t3,t4,r0,r1',fr0,fr1⟩ := HD6.out.cells
   by_cases hsl : hs < am
   ·rw [if_pos hsl] at h1;have h := h1;clear h1;rw [decide_eq_true hsl];unfold impl_Apply.copy at h;obtain ⟨⟨x1,x2⟩,hx,h3⟩ := Option.bind_eq_some_iff.mp h;clear h;have HX := Aside0.mk hx
    injection h3 with h4
    injection h4 with e1 h5
    injection h5 with e2 e3
    subst e1 e2 e3;clear hx
    go_wp2_with (go_at_call 63; (with_reducible refine (impl_copyLedger.calls k ep _ _ l0 x1 x2 _ ?s1 ?s2 HX.out).mono ?_); (case s1 => exact Kd.C_below HR.out HD6.out.b); (case s2 => exact HC.out); rintro e w9 ⟨v9,rfl,hS,hb⟩; obtain ⟨A9,c9,rfl⟩ := Kd.S_slice hS; have HS9 := Aside0.mk (Kd.S_lower (Kd.S_mono (ok' := fun k_ => w.heap.size + 1 + 1 < k_) (Kd.S_bound hS) (fun k_ hk => Nat.lt_of_lt_of_le (blk_lt HD6.out.hr) hk.2.1)) HD6.out.b.size); have HD9 := Aside0.mk (HD6.out.below hb); clear hS hb a0 a1 t0 t1 t2 t3 t4 r0 r1' fr0 fr1; obtain ⟨a0,a1,t0,t1,t2,t3,t4,r0,r1',fr0,fr1⟩ := HD9.out.cells)
    skip
    refine bodyPost_ret (impl_Apply.results2 rfl _ _ (w.heap.size + 1 + 1) 31 #[.int .i64 x1,.slice A9 x2.length c9] (0,0) _ (.int .i64 4) rfl rfl (blk_put (cs := #[.int .i64 x1,.slice none 0 0]) (blk_put (cs := #[.int .i64 0,.slice none 0 0]) HD9.out.hr 0 _ rfl) 1 _ rfl) Try.underlying31 rfl (by kernel_rfl)) rfl ?_;exact ⟨_,rfl,Kd.S_mono (Kd.S_far (p := ⟨w.heap.size + 1 + 1,1,none⟩) (Kd.S_far (p := ⟨w.heap.size + 1 + 1,0,none⟩) HS9.out (fun k_ hk => Nat.ne_of_gt hk) _) (fun k_ hk => Nat.ne_of_gt hk) _) (fun _ _ => trivial),below_set (below_set HD9.out.b (by omega)) (by omega)⟩
   rw [if_neg hsl] at h1;rw [decide_eq_false hsl];unfold impl_Apply.do at h1;obtain ⟨⟨p1,p2⟩,hp,h2⟩ := Option.bind_eq_some_iff.mp h1;clear h1 hsl
   by_cases hjp : j < p2.length
   case neg => rw [if_neg hjp] at h2; exact absurd h2 (by simp)
   rw [if_pos hjp] at h2;obtain ⟨z,hz,h3⟩ := Option.bind_eq_some_iff.mp h2;clear h2;obtain ⟨q,hq,h4⟩ := Option.bind_eq_some_iff.mp h3;clear h3;have HP := Aside0.mk hp;have HJP := Aside0.mk hjp;have HZ := Aside0.mk hz;have HQ := Aside0.mk hq;have H4 := Aside0.mk h4;clear hp hjp hz hq h4 kb nn
   go_upto_region 10 with fail
   have HDd := Aside0.mk (HD6.out.below (below_drew (Below.refl w6.heap.size w6)));clear a0 a1 t0 t1 t2 t3 t4 r0 r1' fr0 fr1;have HLD := Aside0.mk (blk_lt HDd.out.hr);obtain ⟨a0,a1,t0,t1,t2,t3,t4,r0,r1',fr0,fr1⟩ := HDd.out.cells
   go_wp2_with fail
   go_region_held3 (fun w' => w'.cell? ⟨w.heap.size,0,none⟩ = some (.int .i64 ep) ∧ w'.cell? ⟨w.heap.size,1,none⟩ = some (.slice (some ad) l0.length c0) ∧ w'.cell? ⟨w.heap.size + 1,0,none⟩ = some (.int .i64 kind) ∧ w'.cell? ⟨w.heap.size + 1,1,none⟩ = some (.string fr) ∧ w'.cell? ⟨w.heap.size + 1,2,none⟩ = some (.string tt) ∧ w'.cell? ⟨w.heap.size + 1,3,none⟩ = some (.int .i64 am) ∧ w'.cell? ⟨w.heap.size + 1,4,none⟩ = some (.int .i64 no)) (first | exact ⟨a0,a1,t0,t1,t2,t3,t4⟩ | exact ((HD12.out.far (blk_lt HD10.out.hr) _).far (blk_lt HD10.out.hr) _).seven | exact ((HD12.out.far HLD.out _).far HLD.out _).seven | exact ((HD6.out.below (below_alloc (Below.refl _ _) _)).below (below_drew (Below.refl _ _))).seven | go_keep) (first | (go_at_call 63; (with_reducible refine (impl_copyLedger.calls k ep _ _ l0 p1 p2 _ ?s1 ?s2 HP.out).mono ?_); (case s1 => first | exact Kd.C_below HR.out HDd.out.b | exact Kd.C_below HR.out (below_drew (below_alloc HD6.out.b _))); (case s2 => exact HC.out); rintro e w10 ⟨v10,rfl,hS,hb⟩; obtain ⟨A10,c10,rfl⟩ := Kd.S_slice hS; (first | (obtain ⟨N,hN0,hN1⟩ : ∃ N,w6.heap.size < N ∧ Kd.S k63 63 w10 w.heap.size (fun k_ => N ≤ k_ ∧ k_ < w10.heap.size) (.slice A10 p2.length c10) p2 := ⟨w6.heap.size + 1,Nat.lt_succ_self _,Kd.S_lower (Kd.S_mono (Kd.S_bound hS) (fun k_ hk => ⟨(by have h_ : (w6.alloc (.cells #[.int .i64 0,.slice none 0 0] 31)).heap.size ≤ k_ := hk.2.1; rw [World.size_alloc] at h_; exact h_),hk.2.2.1⟩)) (show w.heap.size ≤ (w6.alloc (.cells #[.int .i64 0,.slice none 0 0] 31)).heap.size by rw [World.size_alloc]; exact Nat.le_succ_of_le HD6.out.b.size)⟩; have BK0 := Aside0.mk (blk_below (blk_drew (blk_new w6 (.cells #[.int .i64 0,.slice none 0 0] 31 (0,0)))) hb); have HNS := Aside0.mk hN0; have HN0 := Aside0.mk (Nat.le_of_lt hN0); have HS10 := Aside0.mk hN1; have HD10 := Aside0.mk (((HD6.out.below (below_alloc (Below.refl _ _) _)).below (below_drew (Below.refl _ _))).below hb); clear hN0 hN1) | (obtain ⟨N,hN0,hN1⟩ : ∃ N,w6.heap.size ≤ N ∧ Kd.S k63 63 w10 w.heap.size (fun k_ => N ≤ k_ ∧ k_ < w10.heap.size) (.slice A10 p2.length c10) p2 := ⟨w6.heap.size,Nat.le_refl _,Kd.S_lower (Kd.S_mono (Kd.S_bound hS) (fun k_ hk => ⟨hk.2.1,hk.2.2.1⟩)) HD6.out.b.size⟩; have HN0 := Aside0.mk hN0; have HS10 := Aside0.mk hN1; have HD10 := Aside0.mk (HDd.out.below hb); clear hN0 hN1)); clear hS hb a0 a1 t0 t1 t2 t3 t4 r0 r1' fr0 fr1; obtain ⟨a0,a1,t0,t1,t2,t3,t4,r0,r1',fr0,fr1⟩ := HD10.out.cells) | (go_at_call 65; (with_reducible refine (impl_done.calls (fun k_ => N ≤ k_ ∧ k_ < w10.heap.size) p1 _ p2 j kind fr tt am no z w _ ?s1 ?s2 HJP.out HZ.out).mono ?_); (case s1 => first | exact HD10.out.b | exact below_alloc HD10.out.b _); (case s2 => first | exact HS10.out | exact Kd.S_alloc HS10.out _); rintro e w12 ⟨v12,rfl,hs,hb,hk⟩; obtain ⟨A12,c12,rfl⟩ := Kd.S_slice hs; have HS12 := Aside0.mk hs; have HK12 := Aside0.mk hk; have HD12 : Aside0 (impl_Apply.D w w12 ep kind (some ad) l0.length c0 fr tt am no) := (by first | exact ⟨HD10.out.kept hk (fun k_ hk_ => Nat.lt_of_lt_of_le (Nat.lt_of_lt_of_le HLD.out HN0.out) hk_.1) hb⟩ | exact ⟨(HD10.out.below (below_alloc (Below.refl _ _) _)).kept hk (fun k_ hk_ => Nat.lt_of_lt_of_le (Nat.lt_of_lt_of_le HLD.out HN0.out) hk_.1) hb⟩); (first | (have BK12 := Aside0.mk (blk_kept BK0.out hk (fun h_ => absurd h_.1 (Nat.not_le.2 HNS.out))); have b0 := (blk_cell BK12.out 0).trans rfl; have b1 := (blk_cell BK12.out 1).trans rfl; have fb0 := blk_frozen BK12.out 0; have fb1 := blk_frozen BK12.out 1) | (have BK12 := Aside0.mk (blk_kept (blk_new w10 (.cells #[.int .i64 0,.slice none 0 0] 31 (0,0))) hk (fun h_ => Nat.lt_irrefl _ h_.2)); have b0 := (blk_cell BK12.out 0).trans rfl; have b1 := (blk_cell BK12.out 1).trans rfl; have fb0 := blk_frozen BK12.out 0; have fb1 := blk_frozen BK12.out 1) | skip); clear hs hb hk a0 a1 t0 t1 t2 t3 t4 r0 r1' fr0 fr1; obtain ⟨a0,a1,t0,t1,t2,t3,t4,r0,r1',fr0,fr1⟩ := HD12.out.cells))
   all_goals
    rename_i hHeld_
    clear hHeld_ a0 a1 t0 t1 t2 t3 t4 r0 r1' fr0 fr1
    (try clear b0 b1 fb0 fb1)
    (first | (have HB13 : Aside0 (((w12.setCell ⟨w10.heap.size,0,none⟩ (.int .i64 p1)).setCell ⟨w10.heap.size,1,none⟩ (.slice A12 z.length c12)).heap[w10.heap.size]? = some (.cells #[.int .i64 p1,.slice A12 z.length c12] 31 (0,0))) := ⟨blk_put (cs := #[.int .i64 p1,.slice none 0 0]) (blk_put (cs := #[.int .i64 0,.slice none 0 0]) BK12.out 0 _ rfl) 1 _ rfl⟩; have HD13 : Aside0 (impl_Apply.D w ((w12.setCell ⟨w10.heap.size,0,none⟩ (.int .i64 p1)).setCell ⟨w10.heap.size,1,none⟩ (.slice A12 z.length c12)) ep kind (some ad) l0.length c0 fr tt am no) := ⟨(HD12.out.far (g := w10.heap.size) (blk_lt HD10.out.hr) _).far (g := w10.heap.size) (blk_lt HD10.out.hr) _⟩; have HS13 : Aside0 (Kd.S k63 63 ((w12.setCell ⟨w10.heap.size,0,none⟩ (.int .i64 p1)).setCell ⟨w10.heap.size,1,none⟩ (.slice A12 z.length c12)) w.heap.size (fun k_ => w.heap.size + 1 + 1 < k_ ∧ k_ ≠ w10.heap.size) (.slice A12 z.length c12) z) := ⟨Kd.S_far (p := ⟨w10.heap.size,1,none⟩) (Kd.S_far (p := ⟨w10.heap.size,0,none⟩) (show Kd.S k63 63 w12 w.heap.size (fun k_ => w.heap.size + 1 + 1 < k_ ∧ k_ ≠ w10.heap.size) (.slice A12 z.length c12) z from Kd.S_mono (Kd.S_bound HS12.out) (fun k_ hk => hk.1.elim (fun h_ => ⟨Nat.lt_of_lt_of_le (Nat.lt_of_lt_of_le HLD.out HN0.out) h_.1,Nat.ne_of_lt h_.2⟩) (fun h_ => ⟨(by have h2 : (w10.alloc (.cells #[.int .i64 0,.slice none 0 0] 31)).heap.size ≤ k_ := h_; rw [World.size_alloc] at h2; have h3 := (blk_lt HD10.out.hr); omega),(by have h2 : (w10.alloc (.cells #[.int .i64 0,.slice none 0 0] 31)).heap.size ≤ k_ := h_; rw [World.size_alloc] at h2; omega)⟩))) (fun k_ hk => hk.2) _) (fun k_ hk => hk.2) _⟩; have HBW13 : Aside0 (w.heap.size + 1 + 1 < w10.heap.size) := ⟨(blk_lt HD10.out.hr)⟩; generalize (w12.setCell ⟨w10.heap.size,0,none⟩ (.int .i64 p1)).setCell ⟨w10.heap.size,1,none⟩ (.slice A12 z.length c12) = w13 at HB13 HD13 HS13 ⊢; generalize w10.heap.size = bb at HB13 HS13 HBW13 ⊢) | (have HB13 : Aside0 (((w12.setCell ⟨w6.heap.size,0,none⟩ (.int .i64 p1)).setCell ⟨w6.heap.size,1,none⟩ (.slice A12 z.length c12)).heap[w6.heap.size]? = some (.cells #[.int .i64 p1,.slice A12 z.length c12] 31 (0,0))) := ⟨blk_put (cs := #[.int .i64 p1,.slice none 0 0]) (blk_put (cs := #[.int .i64 0,.slice none 0 0]) BK12.out 0 _ rfl) 1 _ rfl⟩; have HD13 : Aside0 (impl_Apply.D w ((w12.setCell ⟨w6.heap.size,0,none⟩ (.int .i64 p1)).setCell ⟨w6.heap.size,1,none⟩ (.slice A12 z.length c12)) ep kind (some ad) l0.length c0 fr tt am no) := ⟨(HD12.out.far (g := w6.heap.size) HLD.out _).far (g := w6.heap.size) HLD.out _⟩; have HS13 : Aside0 (Kd.S k63 63 ((w12.setCell ⟨w6.heap.size,0,none⟩ (.int .i64 p1)).setCell ⟨w6.heap.size,1,none⟩ (.slice A12 z.length c12)) w.heap.size (fun k_ => w.heap.size + 1 + 1 < k_ ∧ k_ ≠ w6.heap.size) (.slice A12 z.length c12) z) := ⟨Kd.S_far (p := ⟨w6.heap.size,1,none⟩) (Kd.S_far (p := ⟨w6.heap.size,0,none⟩) (show Kd.S k63 63 w12 w.heap.size (fun k_ => w.heap.size + 1 + 1 < k_ ∧ k_ ≠ w6.heap.size) (.slice A12 z.length c12) z from Kd.S_mono (Kd.S_bound HS12.out) (fun k_ hk => hk.1.elim (fun h_ => ⟨Nat.lt_of_lt_of_le (Nat.lt_of_lt_of_le HLD.out HN0.out) h_.1,(by have h2 := HNS.out; have h3 := h_.1; omega)⟩) (fun h_ => ⟨Nat.lt_of_lt_of_le (blk_lt HD10.out.hr) h_,(by have h2 := blk_lt BK0.out; have h3 : w10.heap.size ≤ k_ := h_; omega)⟩))) (fun k_ hk => hk.2) _) (fun k_ hk => hk.2) _⟩; have HBW13 : Aside0 (w.heap.size + 1 + 1 < w6.heap.size) := ⟨HLD.out⟩; generalize (w12.setCell ⟨w6.heap.size,0,none⟩ (.int .i64 p1)).setCell ⟨w6.heap.size,1,none⟩ (.slice A12 z.length c12) = w13 at HB13 HD13 HS13 ⊢; generalize w6.heap.size = bb at HB13 HS13 HBW13 ⊢) | (have HB13 : Aside0 ((w12.alloc (.cells #[.int .i64 p1,.slice A12 z.length c12] 31)).heap[w12.heap.size]? = some (.cells #[.int .i64 p1,.slice A12 z.length c12] 31 (0,0))) := ⟨blk_new w12 (.cells #[.int .i64 p1,.slice A12 z.length c12] 31 (0,0))⟩; have HD13 : Aside0 (impl_Apply.D w (w12.alloc (.cells #[.int .i64 p1,.slice A12 z.length c12] 31)) ep kind (some ad) l0.length c0 fr tt am no) := ⟨HD12.out.below (below_alloc (Below.refl _ _) _)⟩; have HS13 : Aside0 (Kd.S k63 63 (w12.alloc (.cells #[.int .i64 p1,.slice A12 z.length c12] 31)) w.heap.size (fun k_ => w.heap.size + 1 + 1 < k_ ∧ k_ ≠ w12.heap.size) (.slice A12 z.length c12) z) := ⟨Kd.S_alloc (Kd.S_mono (Kd.S_bound HS12.out) (fun k_ hk => hk.1.elim (fun h_ => ⟨Nat.lt_of_lt_of_le (Nat.lt_of_lt_of_le HLD.out HN0.out) h_.1,Nat.ne_of_lt hk.2.2.1⟩) (fun h_ => ⟨Nat.lt_of_lt_of_le (blk_lt HD10.out.hr) h_,Nat.ne_of_lt hk.2.2.1⟩))) _⟩; have HBW13 : Aside0 (w.heap.size + 1 + 1 < w12.heap.size) := ⟨blk_lt HD12.out.hr⟩; generalize w12.alloc (.cells #[.int .i64 p1,.slice A12 z.length c12] 31) = w13 at HB13 HD13 HS13 ⊢; generalize w12.heap.size = bb at HB13 HS13 HBW13 ⊢))
    clear HS12 HD12 HK12 HS10 HD10 HN0 HDd HLD;have d0 := (blk_cell HB13.out 0).trans rfl;have d1 := (blk_cell HB13.out 1).trans rfl;obtain ⟨a0,a1,t0,t1,t2,t3,t4,r0,r1',fr0,fr1⟩ := HD13.out.cells;have h4 := H4.out
    cases q with
    | true =>
     rw [if_pos rfl] at h4
     injection h4 with h5
     injection h5 with e1 h6
     injection h6 with e2 e3
     subst e1 e2 e3;clear H4
     go_wp2_with (go_at_call 27; (with_reducible refine (impl_LedgerOk.calls k p1 _ _ z true _ ?s1 ?s2 HQ.out).mono ?_); (case s1 => exact (Kd.S_reads' HS13.out).2.2); (case s2 => exact (Kd.S_reads' HS13.out).2.1); rintro e w14 ⟨rfl,hb⟩; have HD14 := Aside0.mk (HD13.out.below hb); have HB14 := Aside0.mk (blk_below HB13.out hb); have HS14 := Aside0.mk (Kd.S_below HS13.out hb); clear hb d0 d1 a0 a1 t0 t1 t2 t3 t4 r0 r1' fr0 fr1; have d0 := (blk_cell HB14.out 0).trans rfl; have d1 := (blk_cell HB14.out 1).trans rfl; obtain ⟨a0,a1,t0,t1,t2,t3,t4,r0,r1',fr0,fr1⟩ := HD14.out.cells)
     skip
     refine bodyPost_ret (impl_Apply.results2 rfl _ _ (w.heap.size + 1 + 1) 31 #[.int .i64 p1,.slice A12 z.length c12] (0,0) _ (.int .i64 0) rfl rfl (blk_put (cs := #[.int .i64 p1,.slice none 0 0]) (blk_put (cs := #[.int .i64 0,.slice none 0 0]) HD14.out.hr 0 _ rfl) 1 _ rfl) Try.underlying31 rfl (by kernel_rfl)) rfl ?_;exact ⟨_,rfl,Kd.S_mono (Kd.S_far (p := ⟨w.heap.size + 1 + 1,1,none⟩) (Kd.S_far (p := ⟨w.heap.size + 1 + 1,0,none⟩) (Kd.S_mono HS14.out (fun k_ hk => hk.1)) (fun k_ hk => Nat.ne_of_gt hk) _) (fun k_ hk => Nat.ne_of_gt hk) _) (fun _ _ => trivial),below_set (below_set HD14.out.b (by omega)) (by omega)⟩
    | false =>
     rw [if_neg (by simp)] at h4;have h := h4;clear h4 H4;unfold impl_Apply.copy at h;obtain ⟨⟨x1,x2⟩,hx,h3⟩ := Option.bind_eq_some_iff.mp h;clear h;have HX := Aside0.mk hx
     injection h3 with h4
     injection h4 with e1 h5
     injection h5 with e2 e3
     subst e1 e2 e3;clear hx
     go_wp2_with (first | (go_at_call 27; (with_reducible refine (impl_LedgerOk.calls k p1 _ _ z false _ ?s1 ?s2 HQ.out).mono ?_); (case s1 => exact (Kd.S_reads' HS13.out).2.2); (case s2 => exact (Kd.S_reads' HS13.out).2.1); rintro e w14 ⟨rfl,hb⟩; have HD14 := Aside0.mk (HD13.out.below hb); have HB14 := Aside0.mk (blk_below HB13.out hb); have HS14 := Aside0.mk (Kd.S_below HS13.out hb); clear hb d0 d1 a0 a1 t0 t1 t2 t3 t4 r0 r1' fr0 fr1; have d0 := (blk_cell HB14.out 0).trans rfl; have d1 := (blk_cell HB14.out 1).trans rfl; obtain ⟨a0,a1,t0,t1,t2,t3,t4,r0,r1',fr0,fr1⟩ := HD14.out.cells) | (go_at_call 63; (with_reducible refine (impl_copyLedger.calls k ep _ _ l0 x1 x2 _ ?s1 ?s2 HX.out).mono ?_); (case s1 => exact Kd.C_below HR.out HD14.out.b); (case s2 => exact HC.out); rintro e w9 ⟨v9,rfl,hS,hb⟩; obtain ⟨A9,c9,rfl⟩ := Kd.S_slice hS; have HS9 := Aside0.mk (Kd.S_lower (Kd.S_mono (ok' := fun k_ => w.heap.size + 1 + 1 < k_) (Kd.S_bound hS) (fun k_ hk => Nat.lt_of_lt_of_le (blk_lt HD14.out.hr) hk.2.1)) HD14.out.b.size); have HD9 := Aside0.mk (HD14.out.below hb); clear hS hb a0 a1 t0 t1 t2 t3 t4 r0 r1' fr0 fr1; obtain ⟨a0,a1,t0,t1,t2,t3,t4,r0,r1',fr0,fr1⟩ := HD9.out.cells))
     skip
     refine bodyPost_ret (impl_Apply.results2 rfl _ _ (w.heap.size + 1 + 1) 31 #[.int .i64 x1,.slice A9 x2.length c9] (0,0) _ (.int .i64 5) rfl rfl (blk_put (cs := #[.int .i64 x1,.slice none 0 0]) (blk_put (cs := #[.int .i64 0,.slice none 0 0]) HD9.out.hr 0 _ rfl) 1 _ rfl) Try.underlying31 rfl (by kernel_rfl)) rfl ?_;exact ⟨_,rfl,Kd.S_mono (Kd.S_far (p := ⟨w.heap.size + 1 + 1,1,none⟩) (Kd.S_far (p := ⟨w.heap.size + 1 + 1,0,none⟩) HS9.out (fun k_ hk => Nat.ne_of_gt hk) _) (fun k_ hk => Nat.ne_of_gt hk) _) (fun _ _ => trivial),below_set (below_set HD9.out.b (by omega)) (by omega)⟩

/-! ### laws_big: function 22 -/
def laws_big.f (l0 : List Int) : Option (Bool) := some (decide ((l0.length : Int) > 1048576))
theorem laws_big.calls (A0 : Option Addr) (c0 : Nat) (l0 : List Int) (r : Bool) (w : World) (hr0 : Kd.C (Kd.int .u8) w A0 l0.length l0) (hc0 : l0.length ≤ c0) (h : laws_big.f l0 = some r) :
  Calls Try.prog 22 #[.slice A0 l0.length c0] w fun e w' => e = .returned (.bool r) ∧ Drawn0 w w' := by
 have HR0 := Aside0.mk hr0;have HC0 := Aside0.mk hc0;clear hr0 hc0;have H : (some (decide ((l0.length : Int) > 1048576))) = some r := h;clear h;obtain rfl := Option.some.inj H;go_enter Try.func22,Try.ntmps22;go_wp2;go_ret;exact ⟨by rfl,by repeat (exact Drawn0.refl _)⟩

end Go.Proofs.Ytcbpfofkdipjhaa.PV
