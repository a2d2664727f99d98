/- The machine's side of Go functions: each as a plain function,and that the call does what it says. Written by a program (wip/mprint). -/
import Derived.Test.YtcbpfofkdipjhaaCVPVx0
import Derived.Test.YtcbpfofkdipjhaaCVPVx10
import Derived.Test.YtcbpfofkdipjhaaCVPVx11
import Derived.Lib.Hide
import Derived.StillTailTactics
import Derived.Deep.RegionHeld3
namespace Go.Proofs.Ytcbpfofkdipjhaa.PV
open Go.RowKit Go.Proofs.YtcbpfofkdipjhaaW.PrintWords Go.Proofs.YtcbpfofkdipjhaaW.PrintLast Go.Proofs.YtcbpfofkdipjhaaW.PrintMore
attribute [local go_sem] max2_int min2_int max_two min_two max_three min_three max_four min_four   -- for this text's walks alone
set_option linter.unusedVariables false
set_option linter.unusedSimpArgs false

/-! ### spec_l6Do: function 61 -/
def spec_l6Do.sN (l : List S63) (j : Nat) (u : Int) : List S63 := l.set j ⟨(l.getD j z63).f0,(l.getD j z63).f1,u,(l.getD j z63).f3,(l.getD j z63).f4⟩
def spec_l6Do.sF (l : List S63) (j : Nat) (u : Int) : List S63 := l.set j ⟨(l.getD j z63).f0,u,(l.getD j z63).f2,(l.getD j z63).f3,(l.getD j z63).f4⟩
def spec_l6Do.sS (l : List S63) (j : Nat) (u : Int) : List S63 := l.set j ⟨(l.getD j z63).f0,(l.getD j z63).f1,(l.getD j z63).f2,u,(l.getD j z63).f4⟩
def spec_l6Do.sL (l : List S63) (j : Nat) (ls : List S65) : List S63 := l.set j ⟨(l.getD j z63).f0,(l.getD j z63).f1,(l.getD j z63).f2,(l.getD j z63).f3,ls⟩
def spec_l6Do.n1 (l : List S63) (j : Nat) : List S63 := spec_l6Do.sN l j (wrap64 ((l.getD j z63).f2 + 1))
def spec_l6Do.g (k : Nat) (ep : Int) (l : List S63) (j : Nat) (kind : Int) (tt : ByteArray) (am : Int) : Option (Int × List S63) :=
 if kind = 1 then (spec_l4With.f k (spec_l6Do.sF l j (wrap64 ((l.getD j z63).f1 - am))) tt).bind fun x => (spec_AcctAt.f k x tt).bind fun i => if 0 ≤ i ∧ i < (x.length : Int) then some (ep,spec_l6Do.sF x i.toNat (wrap64 ((x.getD i.toNat z63).f1 + am))) else none
 else if kind = 2 then some (ep,spec_l6Do.sS (spec_l6Do.sF l j (wrap64 ((l.getD j z63).f1 - am))) j (wrap64 (((spec_l6Do.sF l j (wrap64 ((l.getD j z63).f1 - am))).getD j z63).f3 + am)))
 else (spec_l6Leave.f k ((spec_l6Do.sS l j (wrap64 ((l.getD j z63).f3 - am))).getD j z63).f4 am (wrap64 (ep + 2))).bind fun ls => some (ep,spec_l6Do.sL (spec_l6Do.sS l j (wrap64 ((l.getD j z63).f3 - am))) j ls)
def spec_l6Do.f (k : Nat) (ep : Int) (l : List S63) (kind : Int) (fr tt : ByteArray) (am no : Int) (a : Int) : Option (Int × List S63) :=
 (spec_l6Copy.f k ep l).bind fun y => if y.1 = ep ∧ 0 ≤ a ∧ a < (y.2.length : Int) then spec_l6Do.g k ep (spec_l6Do.n1 y.2 a.toNat) a.toNat kind tt am else none
theorem spec_l6Do.acS1 {W : World} {base g n c : Nat} {ok : Nat → Prop} {xs : List S63} (h : Kd.S k63 63 W base ok (.slice (some ⟨g,0,none⟩) n c) xs) (j : Nat) (hj : j < xs.length) (u : Int) :
  Kd.S k63 63 (W.setCell ⟨g,j * 5 + 1,none⟩ (.int .i64 u)) base ok (.slice (some ⟨g,0,none⟩) n c) (xs.set j (⟨(xs.getD j z63).f0,u,(xs.getD j z63).f2,(xs.getD j z63).f3,(xs.getD j z63).f4⟩ : S63)) ∧ W.cell? ⟨g,j * 5 + 1,none⟩ = some (.int .i64 (xs.getD j z63).f1) ∧ W.frozen? ⟨g,j * 5 + 1,none⟩ = false ∧ W.grownBy (W.setCell ⟨g,j * 5 + 1,none⟩ (.int .i64 u)) (some g) := by
 have hn := (Kd.S_reads' h).1;have hX : Kd.S k63 63 W base (fun k_ => ok k_ ∧ ¬ (fun _ => False) k_) (.slice (some ⟨g,0,none⟩) n c) xs := Kd.S_mono h (fun _ hk => ⟨hk,fun e => e⟩);obtain ⟨oki,cs,_,hM,hcc,hfr,hoki,hH⟩ := Kd.S_elem hX z63 (j : Int) (by omega) (by omega);rw [Int.toNat_natCast] at hM;obtain ⟨v4,rfl,hR4⟩ := k63_openM hM;have hP := Kd.S_seg hH (by omega) (by omega) (seg := [.int .i64 u]) (j := 1) (show 2 ≤ 5 from by decide) (x' := (⟨(xs.getD j z63).f0,u,(xs.getD j z63).f2,(xs.getD j z63).f3,(xs.getD j z63).f4⟩ : S63)) (k63_mkM _ _ _ (⟨(xs.getD j z63).f0,u,(xs.getD j z63).f2,(xs.getD j z63).f3,(xs.getD j z63).f4⟩ : S63) (Kd.R_mono hR4 (fun _ h_ => Or.inl h_))) (fun _ hk => hk) (fun k_ hk_ => hk_.elim);exact ⟨hP.1,hcc 1 _ rfl,hfr 1,hP.2⟩
theorem spec_l6Do.acS2 {W : World} {base g n c : Nat} {ok : Nat → Prop} {xs : List S63} (h : Kd.S k63 63 W base ok (.slice (some ⟨g,0,none⟩) n c) xs) (j : Nat) (hj : j < xs.length) (u : Int) :
  Kd.S k63 63 (W.setCell ⟨g,j * 5 + 2,none⟩ (.int .i64 u)) base ok (.slice (some ⟨g,0,none⟩) n c) (xs.set j (⟨(xs.getD j z63).f0,(xs.getD j z63).f1,u,(xs.getD j z63).f3,(xs.getD j z63).f4⟩ : S63)) ∧ W.cell? ⟨g,j * 5 + 2,none⟩ = some (.int .i64 (xs.getD j z63).f2) ∧ W.frozen? ⟨g,j * 5 + 2,none⟩ = false ∧ W.grownBy (W.setCell ⟨g,j * 5 + 2,none⟩ (.int .i64 u)) (some g) := by
 have hn := (Kd.S_reads' h).1;have hX : Kd.S k63 63 W base (fun k_ => ok k_ ∧ ¬ (fun _ => False) k_) (.slice (some ⟨g,0,none⟩) n c) xs := Kd.S_mono h (fun _ hk => ⟨hk,fun e => e⟩);obtain ⟨oki,cs,_,hM,hcc,hfr,hoki,hH⟩ := Kd.S_elem hX z63 (j : Int) (by omega) (by omega);rw [Int.toNat_natCast] at hM;obtain ⟨v4,rfl,hR4⟩ := k63_openM hM;have hP := Kd.S_seg hH (by omega) (by omega) (seg := [.int .i64 u]) (j := 2) (show 3 ≤ 5 from by decide) (x' := (⟨(xs.getD j z63).f0,(xs.getD j z63).f1,u,(xs.getD j z63).f3,(xs.getD j z63).f4⟩ : S63)) (k63_mkM _ _ _ (⟨(xs.getD j z63).f0,(xs.getD j z63).f1,u,(xs.getD j z63).f3,(xs.getD j z63).f4⟩ : S63) (Kd.R_mono hR4 (fun _ h_ => Or.inl h_))) (fun _ hk => hk) (fun k_ hk_ => hk_.elim);exact ⟨hP.1,hcc 2 _ rfl,hfr 2,hP.2⟩
theorem spec_l6Do.acS3 {W : World} {base g n c : Nat} {ok : Nat → Prop} {xs : List S63} (h : Kd.S k63 63 W base ok (.slice (some ⟨g,0,none⟩) n c) xs) (j : Nat) (hj : j < xs.length) (u : Int) :
  Kd.S k63 63 (W.setCell ⟨g,j * 5 + 3,none⟩ (.int .i64 u)) base ok (.slice (some ⟨g,0,none⟩) n c) (xs.set j (⟨(xs.getD j z63).f0,(xs.getD j z63).f1,(xs.getD j z63).f2,u,(xs.getD j z63).f4⟩ : S63)) ∧ W.cell? ⟨g,j * 5 + 3,none⟩ = some (.int .i64 (xs.getD j z63).f3) ∧ W.frozen? ⟨g,j * 5 + 3,none⟩ = false ∧ W.grownBy (W.setCell ⟨g,j * 5 + 3,none⟩ (.int .i64 u)) (some g) := by
 have hn := (Kd.S_reads' h).1;have hX : Kd.S k63 63 W base (fun k_ => ok k_ ∧ ¬ (fun _ => False) k_) (.slice (some ⟨g,0,none⟩) n c) xs := Kd.S_mono h (fun _ hk => ⟨hk,fun e => e⟩);obtain ⟨oki,cs,_,hM,hcc,hfr,hoki,hH⟩ := Kd.S_elem hX z63 (j : Int) (by omega) (by omega);rw [Int.toNat_natCast] at hM;obtain ⟨v4,rfl,hR4⟩ := k63_openM hM;have hP := Kd.S_seg hH (by omega) (by omega) (seg := [.int .i64 u]) (j := 3) (show 4 ≤ 5 from by decide) (x' := (⟨(xs.getD j z63).f0,(xs.getD j z63).f1,(xs.getD j z63).f2,u,(xs.getD j z63).f4⟩ : S63)) (k63_mkM _ _ _ (⟨(xs.getD j z63).f0,(xs.getD j z63).f1,(xs.getD j z63).f2,u,(xs.getD j z63).f4⟩ : S63) (Kd.R_mono hR4 (fun _ h_ => Or.inl h_))) (fun _ hk => hk) (fun k_ hk_ => hk_.elim);exact ⟨hP.1,hcc 3 _ rfl,hfr 3,hP.2⟩
theorem spec_l6Do.lvE {W : World} {base g n c : Nat} {ok : Nat → Prop} {xs : List S63} (h : Kd.S k63 63 W base ok (.slice (some ⟨g,0,none⟩) n c) xs) (j : Nat) (hj : j < xs.length) :
  ∃ A4 c4,W.cell? ⟨g,j * 5 + 4,none⟩ = some (.slice A4 (xs.getD j z63).f4.length c4) ∧ W.frozen? ⟨g,j * 5 + 4,none⟩ = false := by
 have hn := (Kd.S_reads' h).1;obtain ⟨oki,cs,_,hM,hcc,hfr,hoki,hH⟩ := Kd.S_elem h z63 (j : Int) (by omega) (by omega);rw [Int.toNat_natCast] at hM;obtain ⟨v4,rfl,hR4⟩ := k63_openM hM;obtain ⟨A4,c4,rfl⟩ := Kd.R_slice hR4;exact ⟨A4,c4,hcc 4 _ rfl,hfr 4⟩
theorem spec_l6Do.put {W : World} {base g n c : Nat} {ok : Nat → Prop} {xs : List S63} (h : Kd.N k63 63 W base ok (.slice (some ⟨g,0,none⟩) n c) xs) (j : Nat) (hj : j < xs.length) (u : Int) :
  Kd.N k63 63 (W.setCell ⟨g,j * 5 + 1,none⟩ (.int .i64 u)) base ok (.slice (some ⟨g,0,none⟩) n c) (xs.set j ⟨(xs.getD j z63).f0,u,(xs.getD j z63).f2,(xs.getD j z63).f3,(xs.getD j z63).f4⟩) ∧ W.cell? ⟨g,j * 5 + 1,none⟩ = some (.int .i64 (xs.getD j z63).f1) ∧ W.frozen? ⟨g,j * 5 + 1,none⟩ = false := by
 have hn := (Kd.N_reads' h).1;obtain ⟨cs,hcl,hM,hcc,hfr⟩ := Kd.N_elem h z63 (j : Int) (by omega) (by omega);rw [Int.toNat_natCast] at hM;obtain ⟨A4,c4,rfl,hl4,hF4⟩ := k63_openF hM;have hP := Kd.N_seg h (j : Int) (by omega) (by omega) (seg := [.int .i64 u]) (j := 1) rfl hcc (show 2 ≤ 5 from by decide) (x' := (⟨(xs.getD j z63).f0,u,(xs.getD j z63).f2,(xs.getD j z63).f3,(xs.getD j z63).f4⟩ : S63)) (k63_mkF _ _ (⟨(xs.getD j z63).f0,u,(xs.getD j z63).f2,(xs.getD j z63).f3,(xs.getD j z63).f4⟩ : S63) hl4 hF4) (fun _ hk => hk);exact ⟨hP.1,hcc 1 _ rfl,hfr 1⟩
theorem spec_l6Do.lvPut {W : World} {base g n c : Nat} {ok okg oki okp : Nat → Prop} {xs : List S63} {j : Nat} {f0 : ByteArray} {f1 f2 f3 : Int} {v4 v' : Value} {ls' : List S65} (hs : (xs.getD j z63).f0 = f0 ∧ (xs.getD j z63).f1 = f1 ∧ (xs.getD j z63).f2 = f2 ∧ (xs.getD j z63).f3 = f3) (hn : j < n) (hH : Kd.H k63 63 W base (fun k_ => ok k_ ∧ ¬ okg k_) (.slice (some ⟨g,0,none⟩) n c) xs (j : Int) oki [.string f0,.int .i64 f1,.int .i64 f2,.int .i64 f3,v4])
  (hR' : Kd.R k65 65 W base okp v' ls') (hokp : ∀ k,okp k → oki k ∨ okg k) (hg : ∀ k,okg k → ok k ∧ k ≠ g) :
  Kd.S k63 63 (W.setCell ⟨g,j * 5 + 4,none⟩ v') base ok (.slice (some ⟨g,0,none⟩) n c) (xs.set j (⟨(xs.getD j z63).f0,(xs.getD j z63).f1,(xs.getD j z63).f2,(xs.getD j z63).f3,ls'⟩ : S63)) ∧ W.cell? ⟨g,j * 5 + 4,none⟩ = some v4 ∧ W.frozen? ⟨g,j * 5 + 4,none⟩ = false := by
 obtain ⟨rfl,rfl,rfl,rfl⟩ := hs;have hP := Kd.S_seg hH (by omega) (by omega) (seg := [v']) (j := 4) (show 5 ≤ 5 from by decide) (x' := (⟨(xs.getD j z63).f0,(xs.getD j z63).f1,(xs.getD j z63).f2,(xs.getD j z63).f3,ls'⟩ : S63)) (okp := okp) (k63_mkM _ _ _ (⟨(xs.getD j z63).f0,(xs.getD j z63).f1,(xs.getD j z63).f2,(xs.getD j z63).f3,ls'⟩ : S63) hR') hokp hg;obtain ⟨rows,_,hraw,_,_,hcc,_⟩ := Kd.H_raw hH (by omega) (by omega);obtain ⟨_,_,_,_,hfr⟩ := Kd.R_elem hraw [] (j : Int) (by omega) (by omega);exact ⟨hP.1,hcc 4 _ rfl,hfr 4⟩
/-- The ledger that is the call's own,the variables in memory. -/
structure spec_l6Do.D (w W : World) (A0 : Option Addr) (n0 c0 : Nat) (b7 g n c : Nat) (ep kind : Int) (fr tt : ByteArray) (am no : Int) (xs : List S63) : Prop where
 s : Kd.S k63 63 W w.heap.size (fun k_ => w.heap.size + 1 + 1 < k_ ∧ k_ < b7) (.slice (some ⟨g,0,none⟩) n c) xs
 hl : W.heap[w.heap.size]? = some (.cells #[.int .i64 ep,.slice A0 n0 c0] 31 (0,0))
 ht : W.heap[w.heap.size + 1]? = some (.cells #[.int .i64 kind,.string fr,.string tt,.int .i64 am,.int .i64 no] 35 (0,0))
 hr : W.heap[w.heap.size + 1 + 1]? = some (.cells #[.int .i64 0,.slice none 0 0] 31 (0,0))
 h7 : W.heap[b7]? = some (.cells #[.int .i64 ep,.slice (some ⟨g,0,none⟩) n c] 31 (0,0))
 b : Below w.heap.size w W
 lt : w.heap.size + 1 + 1 < b7
section
variable {w W W' : World} {A0 : Option Addr} {n0 c0 b7 g n c : Nat} {ep kind : Int} {fr tt : ByteArray} {am no : Int} {xs : List S63}
theorem spec_l6Do.D.below (h : spec_l6Do.D w W A0 n0 c0 b7 g n c ep kind fr tt am no xs) (hb : Below W.heap.size W W') : spec_l6Do.D w W' A0 n0 c0 b7 g n c ep kind fr tt am no xs :=
 ⟨Kd.S_below h.s hb,(hb.block _ (blk_lt h.hl)).trans h.hl,(hb.block _ (blk_lt h.ht)).trans h.ht,(hb.block _ (blk_lt h.hr)).trans h.hr,(hb.block _ (blk_lt h.h7)).trans h.h7,below_step h.b hb,h.lt⟩
theorem spec_l6Do.D.pg (h : spec_l6Do.D w W A0 n0 c0 b7 g n c ep kind fr tt am no xs) : w.heap.size + 1 + 1 < g ∧ g < b7 := (Kd.S_R h.s).1 g rfl
theorem spec_l6Do.D.put (h : spec_l6Do.D w W A0 n0 c0 b7 g n c ep kind fr tt am no xs) {q : Nat} {u : Value} {ys : List S63} (hs : Kd.S k63 63 (W.setCell ⟨g,q,none⟩ u) w.heap.size (fun k_ => w.heap.size + 1 + 1 < k_ ∧ k_ < b7) (.slice (some ⟨g,0,none⟩) n c) ys) : spec_l6Do.D w (W.setCell ⟨g,q,none⟩ u) A0 n0 c0 b7 g n c ep kind fr tt am no ys := by
 have hg := h.pg
 have hf : ∀ k,k ≠ g → (W.setCell ⟨g,q,none⟩ u).heap[k]? = W.heap[k]? := fun k hk => Below.heap_setCell W ⟨g,q,none⟩ _ k hk
 exact ⟨hs,(hf _ (by omega)).trans h.hl,(hf _ (by omega)).trans h.ht,(hf _ (by omega)).trans h.hr,(hf _ (by omega)).trans h.h7,below_set h.b (by omega),h.lt⟩
theorem spec_l6Do.D.sN (h : spec_l6Do.D w W A0 n0 c0 b7 g n c ep kind fr tt am no xs) (j : Nat) (hj : j < xs.length) (u : Int) : spec_l6Do.D w (W.setCell ⟨g,j * 5 + 2,none⟩ (.int .i64 u)) A0 n0 c0 b7 g n c ep kind fr tt am no (spec_l6Do.sN xs j u) ∧ W.cell? ⟨g,j * 5 + 2,none⟩ = some (.int .i64 (xs.getD j z63).f2) ∧ W.frozen? ⟨g,j * 5 + 2,none⟩ = false := by
 obtain ⟨hs,hx,hf,_⟩ := spec_l6Do.acS2 h.s j hj u;exact ⟨h.put hs,hx,hf⟩
theorem spec_l6Do.D.sF (h : spec_l6Do.D w W A0 n0 c0 b7 g n c ep kind fr tt am no xs) (j : Nat) (hj : j < xs.length) (u : Int) : spec_l6Do.D w (W.setCell ⟨g,j * 5 + 1,none⟩ (.int .i64 u)) A0 n0 c0 b7 g n c ep kind fr tt am no (spec_l6Do.sF xs j u) ∧ W.cell? ⟨g,j * 5 + 1,none⟩ = some (.int .i64 (xs.getD j z63).f1) ∧ W.frozen? ⟨g,j * 5 + 1,none⟩ = false := by
 obtain ⟨hs,hx,hf,_⟩ := spec_l6Do.acS1 h.s j hj u;exact ⟨h.put hs,hx,hf⟩
theorem spec_l6Do.D.sS (h : spec_l6Do.D w W A0 n0 c0 b7 g n c ep kind fr tt am no xs) (j : Nat) (hj : j < xs.length) (u : Int) : spec_l6Do.D w (W.setCell ⟨g,j * 5 + 3,none⟩ (.int .i64 u)) A0 n0 c0 b7 g n c ep kind fr tt am no (spec_l6Do.sS xs j u) ∧ W.cell? ⟨g,j * 5 + 3,none⟩ = some (.int .i64 (xs.getD j z63).f3) ∧ W.frozen? ⟨g,j * 5 + 3,none⟩ = false := by
 obtain ⟨hs,hx,hf,_⟩ := spec_l6Do.acS3 h.s j hj u;exact ⟨h.put hs,hx,hf⟩
theorem spec_l6Do.D.cells (h : spec_l6Do.D w W A0 n0 c0 b7 g n c ep kind fr tt am no xs) : W.cell? ⟨w.heap.size,0,none⟩ = some (.int .i64 ep) ∧ W.cell? ⟨w.heap.size + 1,0,none⟩ = some (.int .i64 kind) ∧ W.cell? ⟨w.heap.size + 1,2,none⟩ = some (.string tt) ∧ W.cell? ⟨w.heap.size + 1,3,none⟩ = some (.int .i64 am) ∧ W.cell? ⟨w.heap.size + 1 + 1,0,none⟩ = some (.int .i64 0) ∧ W.cell? ⟨w.heap.size + 1 + 1,1,none⟩ = some (.slice none 0 0) ∧ W.cell? ⟨b7,0,none⟩ = some (.int .i64 ep) ∧ W.cell? ⟨b7,1,none⟩ = some (.slice (some ⟨g,0,none⟩) n c) ∧ W.frozen? ⟨b7,1,none⟩ = false ∧ W.frozen? ⟨w.heap.size + 1 + 1,0,none⟩ = false ∧ W.frozen? ⟨w.heap.size + 1 + 1,1,none⟩ = false :=
 ⟨(blk_cell h.hl 0).trans rfl,(blk_cell h.ht 0).trans rfl,(blk_cell h.ht 2).trans rfl,(blk_cell h.ht 3).trans rfl,(blk_cell h.hr 0).trans rfl,(blk_cell h.hr 1).trans rfl,(blk_cell h.h7 0).trans rfl,(blk_cell h.h7 1).trans rfl,blk_frozen h.h7 1,blk_frozen h.hr 0,blk_frozen h.hr 1⟩
end
theorem spec_l6Do.three (w : World) (o1 o2 o3 : Obj) : (((w.alloc o1).alloc o2).alloc o3).heap[w.heap.size]? = some o1 ∧ (((w.alloc o1).alloc o2).alloc o3).heap[w.heap.size + 1]? = some o2 ∧ (((w.alloc o1).alloc o2).alloc o3).heap[w.heap.size + 1 + 1]? = some o3 ∧ (((w.alloc o1).alloc o2).alloc o3).heap.size = w.heap.size + 1 + 1 + 1 := by
 have e1 : (w.alloc o1).heap.size = w.heap.size + 1 := Array.size_push _
 have e2 : ((w.alloc o1).alloc o2).heap.size = w.heap.size + 1 + 1 := by rw [← e1]; exact Array.size_push _
 have e3 : (((w.alloc o1).alloc o2).alloc o3).heap.size = w.heap.size + 1 + 1 + 1 := by rw [← e2]; exact Array.size_push _
 have h1 := blk_new w o1;have h2 := blk_new (w.alloc o1) o2;have h3 := blk_new ((w.alloc o1).alloc o2) o3;have b2 := below_alloc (Below.refl (w.alloc o1).heap.size (w.alloc o1)) o2;have b3 := below_alloc (Below.refl ((w.alloc o1).alloc o2).heap.size ((w.alloc o1).alloc o2)) o3;have h12 := (b2.block _ (blk_lt h1)).trans h1;refine ⟨(b3.block _ (blk_lt h12)).trans h12,?_,?_,e3⟩
 ·rw [e1] at h2;exact (b3.block _ (blk_lt h2)).trans h2
 ·rw [e2] at h3;exact h3
/-- What a copy leaves,laid into a variable. -/
theorem spec_l6Do.D.mk1 {w w1 w3 : World} {A0 : Option Addr} {n0 c0 g n c : Nat} {ep kind : Int} {fr tt : ByteArray} {am no : Int} {xs : List S63} (hl : w1.heap[w.heap.size]? = some (.cells #[.int .i64 ep,.slice A0 n0 c0] 31 (0,0)))
  (ht : w1.heap[w.heap.size + 1]? = some (.cells #[.int .i64 kind,.string fr,.string tt,.int .i64 am,.int .i64 no] 35 (0,0))) (hr : w1.heap[w.heap.size + 1 + 1]? = some (.cells #[.int .i64 0,.slice none 0 0] 31 (0,0))) (hz : w1.heap.size = w.heap.size + 1 + 1 + 1) (hb1 : Below w.heap.size w w1)
  (hs : Kd.S k63 63 w3 w1.heap.size (fun _ => True) (.slice (some ⟨g,0,none⟩) n c) xs) (hb : Below w1.heap.size w1 w3) :
  spec_l6Do.D w (w3.alloc (.cells #[.int .i64 ep,.slice (some ⟨g,0,none⟩) n c] 31)) A0 n0 c0 w3.heap.size g n c ep kind fr tt am no xs := by
 have h3 := hb.size
 have hf : ∀ k,k < w3.heap.size → (w3.alloc (.cells #[.int .i64 ep,.slice (some ⟨g,0,none⟩) n c] 31)).heap[k]? = w3.heap[k]? := fun k hk => (below_alloc (Below.refl w3.heap.size w3) _).block k hk
 have hS : Kd.S k63 63 w3 w.heap.size (fun k_ => w.heap.size + 1 + 1 < k_ ∧ k_ < w3.heap.size) (.slice (some ⟨g,0,none⟩) n c) xs := Kd.S_lower (Kd.S_mono (Kd.S_bound hs) (fun k_ hk => ⟨by have := hk.2.1; omega,hk.2.2.1⟩)) (by omega);refine ⟨Kd.S_step hS (fun k _ hk => hf k hk),?_,?_,?_,blk_new _ _,below_alloc (below_step hb1 hb) _,by omega⟩
 ·exact (hf _ (by omega)).trans ((hb.block _ (by omega)).trans hl)
 ·exact (hf _ (by omega)).trans ((hb.block _ (by omega)).trans ht)
 ·exact (hf _ (by omega)).trans ((hb.block _ (by omega)).trans hr)
theorem spec_l6Do.len_sN (l : List S63) (j : Nat) (u : Int) : (spec_l6Do.sN l j u).length = l.length := List.length_set
theorem spec_l6Do.len_sF (l : List S63) (j : Nat) (u : Int) : (spec_l6Do.sF l j u).length = l.length := List.length_set
theorem spec_l6Do.len_sS (l : List S63) (j : Nat) (u : Int) : (spec_l6Do.sS l j u).length = l.length := List.length_set
set_option maxHeartbeats 8000000 in
set_option maxRecDepth 100000 in
theorem spec_l6Do.calls (k : Nat) (ep : Int) (A0 : Option Addr) (c0 : Nat) (l0 : List S63) (kind : Int) (fr tt : ByteArray) (am no : Int) (a : Int) (r1 : Int) (r2 : List S63) (w : World) (hr0 : Kd.C k63 w A0 l0.length l0) (hc0 : l0.length ≤ c0) (h : spec_l6Do.f k ep l0 kind fr tt am no a = some (r1,r2)) :
  Calls Try.prog 61 #[.agg #[.int .i64 ep,.slice A0 l0.length c0],.agg #[.int .i64 kind,.string fr,.string tt,.int .i64 am,.int .i64 no],.int .i64 a] w fun e w' => ∃ v1_ : Value,e = .returned (.agg #[.int .i64 r1,v1_]) ∧ Kd.N k63 63 w' w.heap.size (fun k_ => w.heap.size ≤ k_) v1_ r2 ∧ Below w.heap.size w w' := by
 have HR := Aside0.mk hr0;have HC := Aside0.mk hc0;unfold spec_l6Do.f at h;obtain ⟨⟨y1,y2⟩,hy,h⟩ := Option.bind_eq_some_iff.mp h
 by_cases hin : y1 = ep ∧ 0 ≤ a ∧ a < (y2.length : Int)
 case neg => rw [if_neg hin] at h; exact absurd h (by simp)
 rw [if_pos hin] at h;obtain ⟨rfl,ha0,ha1⟩ := hin;obtain ⟨j,rfl⟩ : ∃ j : Nat,a = (j : Int) := ⟨a.toNat,by omega⟩;have HY := Aside0.mk hy;have HJ := Aside0.mk (show j < y2.length by omega);have H : Aside0 (spec_l6Do.g k y1 (spec_l6Do.n1 y2 j) j kind tt am = some (r1,r2)) := Aside0.mk h;clear h;have n0 : (0 ≤ (j : Int)) = True := eq_true ha0;have n1 : ((j : Int) < (y2.length : Int)) = True := eq_true ha1;clear hr0 hc0 hy ha0 ha1;go_enter Try.func61,Try.ntmps61
 go_upto_region 1 with fail
 obtain ⟨g1,g2,g3,hz⟩ := spec_l6Do.three w (.cells #[.int .i64 y1,.slice A0 l0.length c0] 31) (.cells #[.int .i64 kind,.string fr,.string tt,.int .i64 am,.int .i64 no] 35) (.cells #[.int .i64 0,.slice none 0 0] 31);have HB1 := Aside0.mk (below_alloc (below_alloc (below_alloc (Below.refl w.heap.size w) (.cells #[.int .i64 y1,.slice A0 l0.length c0] 31)) (.cells #[.int .i64 kind,.string fr,.string tt,.int .i64 am,.int .i64 no] 35)) (.cells #[.int .i64 0,.slice none 0 0] 31))
 generalize (((w.alloc (.cells #[.int .i64 y1,.slice A0 l0.length c0] 31)).alloc (.cells #[.int .i64 kind,.string fr,.string tt,.int .i64 am,.int .i64 no] 35)).alloc (.cells #[.int .i64 0,.slice none 0 0] 31)) = w1 at g1 g2 g3 hz HB1 ⊢
 have x0 : w1.cell? ⟨w.heap.size,0,none⟩ = some (.int .i64 y1) := (blk_cell g1 0).trans rfl;have x1 : w1.cell? ⟨w.heap.size,1,none⟩ = some (.slice A0 l0.length c0) := (blk_cell g1 1).trans rfl;have G1 := Aside0.mk g1;have G2 := Aside0.mk g2;have G3 := Aside0.mk g3;have HZ := Aside0.mk hz;clear g1 g2 g3 hz
 go_upto_region 2 with (go_at_call 58; refine (spec_l6Copy.calls k y1 _ _ l0 y1 y2 _ ?s1 ?s2 HY.out).mono ?_; (case s1 => exact Kd.C_below HR.out HB1.out); (case s2 => exact HC.out); rintro e w3 ⟨v3,rfl,hS,hb⟩; obtain ⟨g,c,rfl,_⟩ := Kd.S_form hS (Nat.lt_of_le_of_lt (Nat.zero_le _) HJ.out); have HD := Aside0.mk (spec_l6Do.D.mk1 (ep := y1) (am := am) (no := no) G1.out G2.out G3.out HZ.out HB1.out hS hb); clear hS hb x0 x1)
 have hD := HD.out;clear HD
 generalize w3.alloc (.cells #[.int .i64 y1,.slice (some ⟨g,0,none⟩) y2.length c] 31) = w4 at hD ⊢
 generalize w3.heap.size = b7 at hD ⊢
 have hg2 := H.out;unfold spec_l6Do.g at hg2;obtain ⟨c0',t0,t2,t3,r0,r1',s0,s1,fs1,fr0,fr1⟩ := hD.cells;obtain ⟨hD1,x,fx⟩ := hD.sN j HJ.out (wrap64 ((y2.getD j z63).f2 + 1));obtain ⟨l1,hl1⟩ : ∃ l1,l1 = spec_l6Do.n1 y2 j := ⟨_,rfl⟩;rw [show spec_l6Do.sN y2 j (wrap64 ((y2.getD j z63).f2 + 1)) = l1 from hl1.symm] at hD1
 have hj1 : j < l1.length := by rw [hl1,spec_l6Do.n1,spec_l6Do.len_sN]; exact HJ.out
 have E1 := Aside0.mk (show y2.length = l1.length by rw [hl1,spec_l6Do.n1,spec_l6Do.len_sN]);rw [← hl1] at hg2;clear hl1 hD
 generalize (y2.getD j z63).f2 = o2 at hD1 x
 go_upto_region 4 with fail
 clear c0' t0 t2 t3 r0 r1' s0 s1 fs1 fr0 fr1 x fx
 generalize w4.setCell ⟨g,j * 5 + 2,none⟩ (.int .i64 (wrap64 (o2 + 1))) = w5 at hD1 ⊢
 by_cases k1 : kind = 1
 ·have k1b : (kind == 1) = true := beq_iff_eq.mpr k1;rw [if_pos k1] at hg2;obtain ⟨_,x,fx⟩ := hD1.sF j hj1 0;obtain ⟨c0',t0,t2,t3,r0,r1',s0,s1,fs1,fr0,fr1⟩ := hD1.cells
  generalize ho : (l1.getD j z63).f1 = o at x hg2
  go_upto_region 8 with fail
  go_still_tail 9,(by kernel_rfl)
  change wpList _ _ _ _ _ w5.drew
  clear c0' t0 t2 t3 r0 r1' s0 s1 fs1 fr0 fr1 x fx;replace hD1 := hD1.below (below_drew (Below.refl _ _))
  generalize w5.drew = w5d at hD1 ⊢
  obtain ⟨hD2,x,fx⟩ := hD1.sF j hj1 (wrap64 (o - am));rw [ho] at x;obtain ⟨c0',t0,t2,t3,r0,r1',s0,s1,fs1,fr0,fr1⟩ := hD1.cells;obtain ⟨l2,hl_⟩ : ∃ l_,l_ = spec_l6Do.sF l1 j (wrap64 (o - am)) := ⟨_,rfl⟩;have E2 := Aside0.mk (show y2.length = l2.length by rw [hl_,spec_l6Do.len_sF]; exact E1.out);rw [← hl_] at hD2 hg2;clear hl_ hD1 ho
  go_upto_region 9 with fail
  clear c0' t0 t2 t3 r0 r1' s0 s1 fs1 fr0 fr1 x fx
  generalize w5d.setCell ⟨g,j * 5 + 1,none⟩ (.int .i64 (wrap64 (o - am))) = w6 at hD2 ⊢
  obtain ⟨c0',t0,t2,t3,r0,r1',s0,s1,fs1,fr0,fr1⟩ := hD2.cells;rw [E2.out] at s1 hD2 n1 ⊢;obtain ⟨xl,hx,hg2⟩ := Option.bind_eq_some_iff.mp hg2;obtain ⟨i,hi,hg2⟩ := Option.bind_eq_some_iff.mp hg2
  by_cases hin : 0 ≤ i ∧ i < (xl.length : Int)
  case neg => rw [if_neg hin] at hg2; exact absurd hg2 (by simp)
  rw [if_pos hin] at hg2;obtain ⟨q,rfl⟩ : ∃ q : Nat,i = (q : Int) := ⟨i.toNat,by omega⟩
  have hq : q < xl.length := by omega
  have hr2 : spec_l6Do.sF xl q (wrap64 ((xl.getD q z63).f1 + am)) = r2 := by have h2 := Option.some.inj hg2; injection h2
  have hr1 : y1 = r1 := by have h2 := Option.some.inj hg2; injection h2
  have m0 : (0 ≤ (q : Int)) = True := eq_true hin.1;have m1 : ((q : Int) < (xl.length : Int)) = True := eq_true hin.2;have HD := Aside0.mk hD2;have HX := Aside0.mk hx;have HI := Aside0.mk hi;have HQ := Aside0.mk hq;have HR2 := Aside0.mk hr2;have HR1 := Aside0.mk hr1;clear hD2 hx hi hq hr2 hr1 hin hg2 h;have hp1 : 0 < xl.length := Nat.lt_of_le_of_lt (Nat.zero_le _) HQ.out;have HP1 := Aside0.mk hp1;clear hp1
  go_upto_region 10 with (go_at_call 93; (with_reducible refine (spec_l4With.calls k _ _ l2 tt xl _ ?s1 ?s2 HX.out).mono ?_); (case s1 => exact (Kd.S_reads' HD.out.s).2.2); (case s2 => exact (Kd.S_reads' HD.out.s).2.1); rintro e w7 ⟨v7,rfl,hN,hb⟩; obtain ⟨gx,cx,rfl,hgx,_⟩ := Kd.N_form hN HP1.out; have HN7 := Aside0.mk hN; have HGX := Aside0.mk hgx; have d7 := HD.out; have H7 := Aside0.mk ((hb.block _ (blk_lt d7.h7)).trans d7.h7); have HT7 := Aside0.mk ((hb.block _ (blk_lt d7.ht)).trans d7.ht); have HR7 := Aside0.mk ((hb.block _ (blk_lt d7.hr)).trans d7.hr); have HB7 := Aside0.mk (below_step d7.b hb); have HL7 := Aside0.mk (blk_lt d7.h7); have s1' := (blk_cell H7.out 1).trans rfl; have fs1' := blk_frozen H7.out 1; clear hN hb hgx d7)
  have HN8 := Aside0.mk (Kd.N_far (p := ⟨b7,1,none⟩) HN7.out (fun k_ hk => Nat.ne_of_gt (Nat.lt_of_lt_of_le HL7.out hk)) (.slice (some ⟨gx,0,none⟩) xl.length cx));have h78 : (w7.setCell ⟨b7,1,none⟩ (.slice (some ⟨gx,0,none⟩) xl.length cx)).heap[b7]? = _ := blk_put (cs := #[.int .i64 y1,.slice (some ⟨g,0,none⟩) l2.length c]) H7.out 1 _ rfl;have ht8 : (w7.setCell ⟨b7,1,none⟩ (.slice (some ⟨gx,0,none⟩) xl.length cx)).heap[w.heap.size + 1]? = _ := blk_far HT7.out (by have h1 := HD.out.lt; show w.heap.size + 1 ≠ b7; omega) _;have hr8 : (w7.setCell ⟨b7,1,none⟩ (.slice (some ⟨gx,0,none⟩) xl.length cx)).heap[w.heap.size + 1 + 1]? = _ := blk_far HR7.out (by have h1 := HD.out.lt; show w.heap.size + 1 + 1 ≠ b7; omega) _;have HB8 := Aside0.mk (below_set (g := b7) (j := 1) (v := .slice (some ⟨gx,0,none⟩) xl.length cx) HB7.out (by have h1 := HD.out.lt; omega));have h78' : (w7.setCell ⟨b7,1,none⟩ (.slice (some ⟨gx,0,none⟩) xl.length cx)).heap[b7]? = some (.cells #[.int .i64 y1,.slice (some ⟨gx,0,none⟩) xl.length cx] 31 (0,0)) := h78;clear h78 s1' fs1' c0' t0 t2 t3 r0 r1' s0 s1 fs1 fr0 fr1
  generalize w7.setCell ⟨b7,1,none⟩ (.slice (some ⟨gx,0,none⟩) xl.length cx) = w8 at HN8 h78' ht8 hr8 HB8 ⊢
  have H78 := Aside0.mk h78';have HT8 := Aside0.mk ht8;have HR8 := Aside0.mk hr8;have s1 := (blk_cell h78' 1).trans rfl;have t2 := (blk_cell ht8 2).trans rfl;clear h78' ht8 hr8
  go_upto_region 11 with (go_at_call 60; (with_reducible refine (spec_AcctAt.calls k _ _ xl tt (q : Int) _ ?s1 ?s2 HI.out).mono ?_); (case s1 => exact (Kd.N_reads' HN8.out).2.2); (case s2 => exact (Kd.N_reads' HN8.out).2.1); rintro e w' ⟨rfl,⟨nd9,rfl⟩⟩; have HN9 := Aside0.mk (Kd.N_drewN HN8.out nd9); have HB9 := Aside0.mk (pw_below_drewN HB8.out nd9); have H79 := Aside0.mk (blk_drewN H78.out nd9); have HT9 := Aside0.mk (blk_drewN HT8.out nd9); have HR9 := Aside0.mk (blk_drewN HR8.out nd9))
  clear s1 t2
  generalize w8.drewN nd9 = w9 at HN9 HB9 H79 HT9 HR9 ⊢
  obtain ⟨_,x,fx⟩ := spec_l6Do.put HN9.out q HQ.out 0;have s1 := (blk_cell H79.out 1).trans rfl;have t3 := (blk_cell HT9.out 3).trans rfl;have hr2 := HR2.out
  generalize ho : (xl.getD q z63).f1 = o4 at x hr2
  go_still_tail 13,(by kernel_rfl)
  change wpList _ _ _ _ _ w9.drew
  have HN10 := Aside0.mk (Kd.N_drew HN9.out);have HB10 := Aside0.mk (below_drew HB9.out);have H710 := Aside0.mk (blk_drew H79.out);have HR10 := Aside0.mk (blk_drew HR9.out);clear s1 t3 x fx
  generalize w9.drew = w10 at HN10 HB10 H710 HR10 ⊢
  obtain ⟨hN,x,fx⟩ := spec_l6Do.put HN10.out q HQ.out (wrap64 (o4 + am));rw [ho] at x;rw [show xl.set q _ = r2 from hr2] at hN;clear hr2 ho
  go_upto_region 15 with fail
  clear x fx;have hgx : b7 < gx := Nat.lt_of_lt_of_le HL7.out HGX.out;have hlt := HD.out.lt;have h711 : (w10.setCell ⟨gx,q * 5 + 1,none⟩ (.int .i64 (wrap64 (o4 + am)))).heap[b7]? = _ := blk_far H710.out (show b7 ≠ gx by omega) _;have hr11 : (w10.setCell ⟨gx,q * 5 + 1,none⟩ (.int .i64 (wrap64 (o4 + am)))).heap[w.heap.size + 1 + 1]? = _ := blk_far HR10.out (show w.heap.size + 1 + 1 ≠ gx by omega) _;have HB11 := Aside0.mk (below_set (g := gx) (j := q * 5 + 1) (v := .int .i64 (wrap64 (o4 + am))) HB10.out (by omega));have h76 := HL7.out;have HN11 := Aside0.mk (Kd.N_mono (Kd.N_lower hN (show w.heap.size ≤ w6.heap.size by omega)) (fun k_ hk => show w.heap.size + 1 + 1 < k_ by have h1 : w6.heap.size ≤ k_ := hk; omega));clear hN hgx hlt h76
  generalize w10.setCell ⟨gx,q * 5 + 1,none⟩ (.int .i64 (wrap64 (o4 + am))) = w11 at h711 hr11 HB11 HN11 ⊢
  have HR11 := Aside0.mk hr11;have s0 := (blk_cell h711 0).trans rfl;have s1 := (blk_cell h711 1).trans rfl;have r0 := (blk_cell hr11 0).trans rfl;have r1' := (blk_cell hr11 1).trans rfl;have fr0 := blk_frozen hr11 0;have fr1 := blk_frozen hr11 1;clear h711 hr11;go_wp2
  skip
  refine bodyPost_ret (results_cell_row rfl _ _ (w.heap.size + 1 + 1) 31 #[.int .i64 y1,.slice (some ⟨gx,0,none⟩) xl.length cx] (0,0) _ rfl (blk_put (cs := #[.int .i64 y1,.slice none 0 0]) (blk_put (cs := #[.int .i64 0,.slice none 0 0]) HR11.out 0 _ rfl) 1 _ rfl) Try.underlying31 rfl (by kernel_rfl)) rfl ?_;exact ⟨_,by rw [← HR1.out],Kd.N_mono (Kd.N_far (p := ⟨w.heap.size + 1 + 1,1,none⟩) (Kd.N_far (p := ⟨w.heap.size + 1 + 1,0,none⟩) HN11.out (fun k_ hk => Nat.ne_of_gt hk) _) (fun k_ hk => Nat.ne_of_gt hk) _) (fun k_ hk => by have h1 : w.heap.size + 1 + 1 < k_ := hk; omega),below_set (below_set HB11.out (by omega)) (by omega)⟩
 ·have k1b : (kind == 1) = false := beq_eq_false_iff_ne.mpr k1;rw [if_neg k1] at hg2
  by_cases k2 : kind = 2
  ·have k2b : (kind == 2) = true := beq_iff_eq.mpr k2;rw [if_pos k2] at hg2;obtain ⟨_,x,fx⟩ := hD1.sF j hj1 0;obtain ⟨c0',t0,t2,t3,r0,r1',s0,s1,fs1,fr0,fr1⟩ := hD1.cells
   generalize ho : (l1.getD j z63).f1 = o at x hg2
   go_upto_region 13 with fail
   go_still_tail 9,(by kernel_rfl)
   change wpList _ _ _ _ _ w5.drew
   clear c0' t0 t2 t3 r0 r1' s0 s1 fs1 fr0 fr1 x fx;replace hD1 := hD1.below (below_drew (Below.refl _ _))
   generalize w5.drew = w5d at hD1 ⊢
   obtain ⟨hD2,x,fx⟩ := hD1.sF j hj1 (wrap64 (o - am));rw [ho] at x;obtain ⟨l2,hl_⟩ : ∃ l_,l_ = spec_l6Do.sF l1 j (wrap64 (o - am)) := ⟨_,rfl⟩;rw [← hl_] at hD2 hg2
   have hj2 : j < l2.length := by rw [hl_,spec_l6Do.len_sF]; exact hj1
   clear hl_ hj1 hD1 ho
   go_upto_region 14 with fail
   clear x fx
   generalize w5d.setCell ⟨g,j * 5 + 1,none⟩ (.int .i64 (wrap64 (o - am))) = w6 at hD2 ⊢
   obtain ⟨_,x,fx⟩ := hD2.sS j hj2 0;obtain ⟨c0',t0,t2,t3,r0,r1',s0,s1,fs1,fr0,fr1⟩ := hD2.cells
   generalize ho : (l2.getD j z63).f3 = o at x hg2
   go_still_tail 9,(by kernel_rfl)
   change wpList _ _ _ _ _ w6.drew
   clear c0' t0 t2 t3 r0 r1' s0 s1 fs1 fr0 fr1 x fx;replace hD2 := hD2.below (below_drew (Below.refl _ _))
   generalize w6.drew = w6d at hD2 ⊢
   obtain ⟨hD3,x,fx⟩ := hD2.sS j hj2 (wrap64 (o + am));rw [ho] at x;obtain ⟨l3,hl_⟩ : ∃ l_,l_ = spec_l6Do.sS l2 j (wrap64 (o + am)) := ⟨_,rfl⟩;rw [← hl_] at hD3 hg2;clear hl_ hD2 ho
   have hr2 : l3 = r2 := by have h2 := Option.some.inj hg2; injection h2
   have hr1 : y1 = r1 := by have h2 := Option.some.inj hg2; injection h2
   have HR2 := Aside0.mk hr2;have HR1 := Aside0.mk hr1;clear hr2 hr1 hg2
   go_upto_region 15 with fail
   clear x fx
   generalize w6d.setCell ⟨g,j * 5 + 3,none⟩ (.int .i64 (wrap64 (o + am))) = w7 at hD3 ⊢
   obtain ⟨c0',t0,t2,t3,r0,r1',s0,s1,fs1,fr0,fr1⟩ := hD3.cells;have HD := Aside0.mk hD3;clear hD3;go_wp2
   skip
   refine bodyPost_ret (results_cell_row rfl _ _ (w.heap.size + 1 + 1) 31 #[.int .i64 y1,.slice (some ⟨g,0,none⟩) y2.length c] (0,0) _ rfl (blk_put (cs := #[.int .i64 y1,.slice none 0 0]) (blk_put (cs := #[.int .i64 0,.slice none 0 0]) HD.out.hr 0 _ rfl) 1 _ rfl) Try.underlying31 rfl (by kernel_rfl)) rfl ?_;exact ⟨_,by rw [← HR1.out],Kd.S_N (Kd.S_mono (Kd.S_far (p := ⟨w.heap.size + 1 + 1,1,none⟩) (Kd.S_far (p := ⟨w.heap.size + 1 + 1,0,none⟩) (HR2.out ▸ HD.out.s) (fun k_ hk => Nat.ne_of_gt hk.1) _) (fun k_ hk => Nat.ne_of_gt hk.1) _) (fun k_ hk => by have h1 := hk.1; omega)),below_set (below_set HD.out.b (by omega)) (by omega)⟩
  ·have k2b : (kind == 2) = false := beq_eq_false_iff_ne.mpr k2;rw [if_neg k2] at hg2;obtain ⟨_,x,fx⟩ := hD1.sS j hj1 0;obtain ⟨c0',t0,t2,t3,r0,r1',s0,s1,fs1,fr0,fr1⟩ := hD1.cells
   generalize ho : (l1.getD j z63).f3 = o at x hg2
   go_upto_region 5 with fail
   go_still_tail 9,(by kernel_rfl)
   change wpList _ _ _ _ _ w5.drew
   clear c0' t0 t2 t3 r0 r1' s0 s1 fs1 fr0 fr1 x fx;replace hD1 := hD1.below (below_drew (Below.refl _ _))
   generalize w5.drew = w5d at hD1 ⊢
   obtain ⟨hD2,x,fx⟩ := hD1.sS j hj1 (wrap64 (o - am));rw [ho] at x;obtain ⟨l2,hl_⟩ : ∃ l_,l_ = spec_l6Do.sS l1 j (wrap64 (o - am)) := ⟨_,rfl⟩;rw [← hl_] at hD2 hg2
   have hj2 : j < l2.length := by rw [hl_,spec_l6Do.len_sS]; exact hj1
   clear hl_ hj1 hD1 ho
   go_upto_region 6 with fail
   clear x fx
   generalize w5d.setCell ⟨g,j * 5 + 3,none⟩ (.int .i64 (wrap64 (o - am))) = w6 at hD2 ⊢
   obtain ⟨ls,hls,hg2⟩ := Option.bind_eq_some_iff.mp hg2
   have hr2 : spec_l6Do.sL l2 j ls = r2 := by have h2 := Option.some.inj hg2; injection h2
   have hr1 : y1 = r1 := by have h2 := Option.some.inj hg2; injection h2
   have HR2 := Aside0.mk hr2;have HR1 := Aside0.mk hr1;have HLS := Aside0.mk hls;clear hr2 hr1 hg2 hls h;have hT : Kd.S k63 63 w6 w.heap.size (fun k_ => ((w.heap.size + 1 + 1 < k_ ∧ k_ < b7) ∨ w6.heap.size ≤ k_) ∧ ¬ w6.heap.size ≤ k_) (.slice (some ⟨g,0,none⟩) y2.length c) l2 := Kd.S_mono (Kd.S_bound hD2.s) (fun k_ hk => ⟨.inl hk.1,Nat.not_le.2 hk.2.2.1⟩);obtain ⟨oki,cs,_,hM,hcc,hfr,hoki,hH⟩ := Kd.S_elem hT z63 (j : Int) (by omega) (by have := HJ.out; omega);rw [Int.toNat_natCast] at hM;obtain ⟨v4,rfl,hR4⟩ := k63_openM hM;obtain ⟨A4,c4,rfl⟩ := Kd.R_slice hR4;have x : w6.cell? ⟨g,j * 5 + 4,none⟩ = some (.slice A4 (l2.getD j z63).f4.length c4) := hcc 4 _ rfl;obtain ⟨lv,hlv⟩ : ∃ lv,lv = (l2.getD j z63).f4 := ⟨_,rfl⟩;obtain ⟨e2,he2⟩ : ∃ e2,e2 = wrap64 (y1 + 2) := ⟨_,rfl⟩;have hls := HLS.out;rw [← hlv,← he2] at hls;replace HLS := Aside0.mk hls;rw [← hlv] at x hR4 hH;have sw : IntKind.i64.wrap (y1 + 2) = e2 := (IntWalk.i64_left _).trans he2.symm;clear hls hlv he2;obtain ⟨c0',t0,t2,t3,r0,r1',s0,s1,fs1,fr0,fr1⟩ := hD2.cells;have HR4 := Aside0.mk hR4;have HH := Aside0.mk hH;have HD := Aside0.mk hD2;have HPG := Aside0.mk hD2.pg;have HG7 := Aside0.mk (blk_lt hD2.h7);clear hT hM hcc hfr hoki hH hR4 hD2 fr0 fr1 r0 r1' s0 s1 fs1 t2 t0
   go_region_with (go_at_call 107; go_loud ((with_reducible refine (spec_l6Leave.calls k _ _ lv am e2 ls _ ?s1 ?s2 HLS.out).mono ?_); (case s1 => exact (Kd.R_reads' HR4.out).2.2); (case s2 => exact (Kd.R_reads' HR4.out).2.1); rintro e w7 ⟨v7,rfl,hR,hb⟩; obtain ⟨A7,c7,rfl⟩ := Kd.R_slice hR; replace hb := below_step (below_drew (Below.refl w6.heap.size w6)) hb; replace hR : Kd.R k65 65 w7 w6.heap.size (fun _ => True) (.slice A7 ls.length c7) ls := hR; have HR7 := Aside0.mk hR; have HD7 := Aside0.mk (HD.out.below hb); have hH7 := Kd.H_below HH.out hb; obtain ⟨hs7,x7,fx7⟩ := spec_l6Do.lvPut (okg := fun k_ => w6.heap.size ≤ k_) (okp := fun k_ => w6.heap.size ≤ k_) ⟨rfl,rfl,rfl,rfl⟩ (by have := HJ.out; omega) hH7 (Kd.R_lower (Kd.R_mono (Kd.R_bound hR) (fun k_ hk => hk.2.1)) HD.out.b.size) (fun k_ hk => .inr hk) (fun k_ hk => ⟨.inr hk,by have h1 := HPG.out; have h2 := HG7.out; omega⟩); have HS7 := Aside0.mk hs7; clear hR hb hs7 hH7))
   all_goals
    clear x x7 fx7 t3 c0';have hg7 : b7 ≠ g := Nat.ne_of_gt HPG.out.2;have hg3 : w.heap.size + 1 + 1 ≠ g := Nat.ne_of_lt HPG.out.1;have h78 : (w7.setCell ⟨g,j * 5 + 4,none⟩ (.slice A7 ls.length c7)).heap[b7]? = _ := blk_far HD7.out.h7 hg7 _;have hr8 : (w7.setCell ⟨g,j * 5 + 4,none⟩ (.slice A7 ls.length c7)).heap[w.heap.size + 1 + 1]? = _ := blk_far HD7.out.hr hg3 _;have HB8 := Aside0.mk (below_set (g := g) (j := j * 5 + 4) (v := .slice A7 ls.length c7) HD7.out.b (by have h1 := HPG.out.1; omega));have HS8 := Aside0.mk (Kd.S_mono (HR2.out ▸ HS7.out : Kd.S k63 63 (w7.setCell ⟨g,j * 5 + 4,none⟩ (.slice A7 ls.length c7)) w.heap.size (fun k_ => (w.heap.size + 1 + 1 < k_ ∧ k_ < b7) ∨ w6.heap.size ≤ k_) (.slice (some ⟨g,0,none⟩) y2.length c) r2) (fun k_ hk => show w.heap.size + 1 + 1 < k_ from hk.elim (fun h => h.1) (fun h => by have h1 := HG7.out; have h2 := HPG.out; omega)));clear HS7 HR7 hg7 hg3
    generalize w7.setCell ⟨g,j * 5 + 4,none⟩ (.slice A7 ls.length c7) = w8 at h78 hr8 HB8 HS8 ⊢
    have HR8 := Aside0.mk hr8;have s0 := (blk_cell h78 0).trans rfl;have s1 := (blk_cell h78 1).trans rfl;have r0 := (blk_cell hr8 0).trans rfl;have r1' := (blk_cell hr8 1).trans rfl;have fr0 := blk_frozen hr8 0;have fr1 := blk_frozen hr8 1;clear h78 hr8;go_wp2
    skip
    refine bodyPost_ret (results_cell_row rfl _ _ (w.heap.size + 1 + 1) 31 #[.int .i64 y1,.slice (some ⟨g,0,none⟩) y2.length c] (0,0) _ rfl (blk_put (cs := #[.int .i64 y1,.slice none 0 0]) (blk_put (cs := #[.int .i64 0,.slice none 0 0]) HR8.out 0 _ rfl) 1 _ rfl) Try.underlying31 rfl (by kernel_rfl)) rfl ?_;exact ⟨_,by rw [← HR1.out],Kd.S_N (Kd.S_mono (Kd.S_far (p := ⟨w.heap.size + 1 + 1,1,none⟩) (Kd.S_far (p := ⟨w.heap.size + 1 + 1,0,none⟩) HS8.out (fun k_ hk => Nat.ne_of_gt hk) _) (fun k_ hk => Nat.ne_of_gt hk) _) (fun k_ hk => by have h1 : w.heap.size + 1 + 1 < k_ := hk; omega)),below_set (below_set HB8.out (by omega)) (by omega)⟩

end Go.Proofs.Ytcbpfofkdipjhaa.PV
