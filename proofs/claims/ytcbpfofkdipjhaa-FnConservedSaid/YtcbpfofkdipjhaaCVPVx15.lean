/- The machine's side of Go functions: each as a plain function,and that the call does what it says. Written by a program (wip/mprint). -/
import Derived.Test.YtcbpfofkdipjhaaCVPVx0
import Derived.Test.YtcbpfofkdipjhaaCVPVx3
import Derived.Lib.Hide
import Derived.Lib.Builder
import Derived.StillTailTactics
import Derived.Test.YtcbpfofkdipjhaaCVShaE
import Derived.Test.YtcbpfofkdipjhaaCVApp
namespace Go.Proofs.Ytcbpfofkdipjhaa.PV
open Go.RowKit Go.Proofs.YtcbpfofkdipjhaaW.PrintWords Go.Proofs.YtcbpfofkdipjhaaW.PrintLast Go.Proofs.YtcbpfofkdipjhaaW.PrintMore
set_option maxHeartbeats 8000000
set_option maxRecDepth 100000
attribute [local go_sem] max2_int min2_int max_two min_two max_three min_three max_four min_four   -- for this text's walks alone
set_option linter.unusedVariables false
set_option linter.unusedSimpArgs false

/-! ### impl_NextEpoch: function 25 -/
def impl_NextEpoch.due (e : Int) : Int → List S65 → Int
 | n,[] => n
 | n,x :: l => impl_NextEpoch.due e (if x.f1 ≤ e then wrap64 (n + x.f0) else n) l
def impl_NextEpoch.on (e : Int) (a : S63) : S63 := ⟨a.f0,impl_NextEpoch.due e a.f1 a.f4,a.f2,a.f3,a.f4.filter (fun x => !decide (x.f1 ≤ e))⟩
def impl_NextEpoch.g (k : Nat) (a0 : Int) (l0 : List S63) (p : Int × List S63) : Option (Int × List S63) :=
 if (p.2.all fun a => decide (a.f4.length < 1099511627776)) = true then (impl_LedgerOk.f k (wrap64 (p.1 + 1)) (p.2.map (impl_NextEpoch.on (wrap64 (p.1 + 1))))).bind fun b => if b = true then some (wrap64 (p.1 + 1),p.2.map (impl_NextEpoch.on (wrap64 (p.1 + 1)))) else impl_copyLedger.f k a0 l0 else none
def impl_NextEpoch.f (k : Nat) (a0 : Int) (l0 : List S63) : Option (Int × List S63) :=
 (impl_LedgerOk.f k a0 l0).bind fun b => if b = true then (impl_copyLedger.f k a0 l0).bind fun p => impl_NextEpoch.g k a0 l0 p else impl_copyLedger.f k a0 l0
theorem impl_NextEpoch.due_append (e : Int) (l m : List S65) : ∀ n : Int,impl_NextEpoch.due e n (l ++ m) = impl_NextEpoch.due e (impl_NextEpoch.due e n l) m := by
 induction l with
 | nil => exact fun _ => rfl
 | cons x t ih => exact fun n => ih _
theorem impl_NextEpoch.due_step (e n : Int) (l : List S65) (j : Nat) (h : j < l.length) : impl_NextEpoch.due e n (l.take (j + 1)) = if (l.getD j z65).f1 ≤ e then wrap64 (impl_NextEpoch.due e n (l.take j) + (l.getD j z65).f0) else impl_NextEpoch.due e n (l.take j) := by
 rw [List.take_succ_eq_append_getElem h,impl_NextEpoch.due_append,List.getD_eq_getElem?_getD,List.getElem?_eq_getElem h];rfl
def impl_NextEpoch.late (e : Int) (l : List S65) : List S65 := l.filter (fun x => !decide (x.f1 ≤ e))
theorem impl_NextEpoch.late_step (e : Int) (l : List S65) (j : Nat) (h : j < l.length) : impl_NextEpoch.late e (l.take (j + 1)) = if (l.getD j z65).f1 ≤ e then impl_NextEpoch.late e (l.take j) else impl_NextEpoch.late e (l.take j) ++ [l.getD j z65] := by
 rw [List.take_succ_eq_append_getElem h,impl_NextEpoch.late,List.filter_append,List.getD_eq_getElem?_getD,List.getElem?_eq_getElem h];simp only [Option.getD_some]
 by_cases hh : l[j].f1 ≤ e
 ·rw [if_pos hh]; simp [impl_NextEpoch.late,hh]
 ·rw [if_neg hh]; simp [impl_NextEpoch.late,hh]
def impl_NextEpoch.mid (e : Int) (a : S63) (j : Nat) : S63 := ⟨a.f0,impl_NextEpoch.due e a.f1 (a.f4.take j),a.f2,a.f3,a.f4⟩
theorem impl_NextEpoch.next (j N : Nat) (h : j < N) (hN : N ≤ 9223372036854775807) : wrap64 ((j : Int) + 1) = ((j + 1 : Nat) : Int) := by
 unfold wrap64
 omega
theorem impl_NextEpoch.meas (N j : Nat) (h : j < N) : N - (intOf (Value.int IntKind.i64 ((j + 1 : Nat) : Int))).toNat < N - (intOf (Value.int IntKind.i64 (j : Int))).toNat := by
 simp only [intOf]
 omega
theorem impl_NextEpoch.mid_pos (e : Int) (a : S63) (j : Nat) (h : j < a.f4.length) (x : S65) (hx : x = a.f4.getD j z65) (hle : x.f1 ≤ e) : impl_NextEpoch.mid e a (j + 1) = ⟨a.f0,wrap64 ((impl_NextEpoch.mid e a j).f1 + x.f0),a.f2,a.f3,a.f4⟩ := by
 subst hx;unfold impl_NextEpoch.mid;rw [impl_NextEpoch.due_step e a.f1 a.f4 j h,if_pos hle]
theorem impl_NextEpoch.mid_neg (e : Int) (a : S63) (j : Nat) (h : j < a.f4.length) (x : S65) (hx : x = a.f4.getD j z65) (hle : ¬ x.f1 ≤ e) : impl_NextEpoch.mid e a (j + 1) = impl_NextEpoch.mid e a j := by
 subst hx;unfold impl_NextEpoch.mid;rw [impl_NextEpoch.due_step e a.f1 a.f4 j h,if_neg hle]
def impl_NextEpoch.pre (e : Int) (ys : List S63) (m : Nat) : List S63 := (ys.take m).map (impl_NextEpoch.on e) ++ ys.drop m
theorem impl_NextEpoch.pre_len (e : Int) (ys : List S63) (m : Nat) (h : m ≤ ys.length) : (impl_NextEpoch.pre e ys m).length = ys.length := by
 rw [impl_NextEpoch.pre,List.length_append,List.length_map,List.length_take,List.length_drop]
 omega
theorem impl_NextEpoch.pre_at (e : Int) (ys : List S63) (m : Nat) (h : m < ys.length) : (impl_NextEpoch.pre e ys m).getD m z63 = ys.getD m z63 := by
 rw [impl_NextEpoch.pre,List.getD_eq_getElem?_getD,List.getElem?_append_right (by simp; omega),List.length_map,List.length_take,Nat.min_eq_left (by omega),Nat.sub_self,List.getElem?_drop,Nat.add_zero,List.getD_eq_getElem?_getD]
theorem impl_NextEpoch.pre_set (e : Int) (ys : List S63) (m : Nat) (h : m < ys.length) : (impl_NextEpoch.pre e ys m).set m (impl_NextEpoch.on e (ys.getD m z63)) = impl_NextEpoch.pre e ys (m + 1) := by
 have hl : ((ys.take m).map (impl_NextEpoch.on e)).length = m := by rw [List.length_map,List.length_take]; omega
 rw [impl_NextEpoch.pre,List.set_append,if_neg (by omega),hl,Nat.sub_self,impl_NextEpoch.pre,List.take_succ_eq_append_getElem h,List.map_append,List.append_assoc,List.drop_eq_getElem_cons h,List.set_cons_zero,List.getD_eq_getElem?_getD,List.getElem?_eq_getElem h];rfl
theorem impl_NextEpoch.pre_end (e : Int) (ys : List S63) : impl_NextEpoch.pre e ys ys.length = ys.map (impl_NextEpoch.on e) := by
 rw [impl_NextEpoch.pre,List.take_length,List.drop_length,List.append_nil]
theorem impl_NextEpoch.two (w : World) (o1 o2 : Obj) : ((w.alloc o1).alloc o2).heap[w.heap.size]? = some o1 ∧ ((w.alloc o1).alloc o2).heap[w.heap.size + 1]? = some o2 := by
 have h1 := blk_new w o1;have e1 : (w.alloc o1).heap.size = w.heap.size + 1 := Array.size_push _;refine ⟨((below_alloc (Below.refl (w.alloc o1).heap.size (w.alloc o1)) o2).block _ (blk_lt h1)).trans h1,?_⟩;rw [← e1];exact blk_new _ _
theorem impl_NextEpoch.held {W w1 : World} {b : Nat} {o : Obj} (h : W.heap[b]? = some o) (hb : Below W.heap.size W w1) : w1.heap[b]? = some o := (hb.block b (blk_lt h)).trans h
theorem impl_NextEpoch.mid_zero (e : Int) (ys : List S63) (m : Nat) (h : m < ys.length) (a : S63) (ha : a = ys.getD m z63) : (impl_NextEpoch.pre e ys m).set m (impl_NextEpoch.mid e a 0) = impl_NextEpoch.pre e ys m := by
 have h1 := impl_NextEpoch.pre_at e ys m h
 have h2 : m < (impl_NextEpoch.pre e ys m).length := by rw [impl_NextEpoch.pre_len _ _ _ (Nat.le_of_lt h)]; exact h
 rw [List.getD_eq_getElem?_getD,List.getElem?_eq_getElem h2,Option.getD_some,← ha] at h1
 have h3 : impl_NextEpoch.mid e a 0 = (impl_NextEpoch.pre e ys m)[m] := by rw [h1]; rfl
 rw [h3,List.set_getElem_self]
theorem impl_NextEpoch.mid_end (e : Int) (ys : List S63) (m : Nat) (h : m < ys.length) (a : S63) (ha : a = ys.getD m z63) : ((impl_NextEpoch.pre e ys m).set m (impl_NextEpoch.mid e a a.f4.length)).set m ⟨a.f0,(impl_NextEpoch.mid e a a.f4.length).f1,a.f2,a.f3,impl_NextEpoch.late e (a.f4.take a.f4.length)⟩ = impl_NextEpoch.pre e ys (m + 1) := by
 rw [List.set_set,← impl_NextEpoch.pre_set e ys m h,← ha,List.take_length,impl_NextEpoch.mid,List.take_length];rfl
/-- The ledgers' blocks and the accounts' row,as they lie while the accounts are gone through. -/
structure impl_NextEpoch.Inn (w : World) (b3 B0 N g m n c : Nat) (o1 o2 o3 : Obj) (v4 : Value) (zs : List S63) (W : World) : Prop where
 s : Kd.S k63 63 W B0 (fun k_ => (B0 ≤ k_ ∧ k_ ≠ b3) ∧ k_ < N) (.slice (some ⟨g,0,none⟩) n c) zs
 x4 : W.cell? ⟨g,m * 5 + 4,none⟩ = some v4
 g1 : W.heap[w.heap.size]? = some o1
 g2 : W.heap[w.heap.size + 1]? = some o2
 g3 : W.heap[b3]? = some o3
 b : Below w.heap.size w W
 gN : g < N
 g3N : b3 < N
 wN : w.heap.size + 1 < N
 NW : N ≤ W.heap.size
section
variable {w : World} {b3 B0 N g m n c : Nat} {o1 o2 o3 : Obj} {v4 : Value} {zs : List S63} {W W' : World}
theorem impl_NextEpoch.Inn.step (h : impl_NextEpoch.Inn w b3 B0 N g m n c o1 o2 o3 v4 zs W) (hm : ∀ k,k < N → W'.heap[k]? = W.heap[k]?) (hb : Below w.heap.size w W') (hN : N ≤ W'.heap.size) : impl_NextEpoch.Inn w b3 B0 N g m n c o1 o2 o3 v4 zs W' where
 s := Kd.S_step h.s (fun k hk _ => hm k hk.2)
 x4 := by have := h.x4; unfold World.cell? at this ⊢; rw [hm g h.gN]; exact this
 g1 := (hm _ (Nat.lt_of_succ_lt h.wN)).trans h.g1
 g2 := (hm _ h.wN).trans h.g2
 g3 := (hm _ h.g3N).trans h.g3
 b := hb
 gN := h.gN
 g3N := h.g3N
 wN := h.wN
 NW := hN
theorem impl_NextEpoch.Inn.below (h : impl_NextEpoch.Inn w b3 B0 N g m n c o1 o2 o3 v4 zs W) (hb : Below W.heap.size W W') : impl_NextEpoch.Inn w b3 B0 N g m n c o1 o2 o3 v4 zs W' :=
 h.step (fun k hk => hb.block k (Nat.lt_of_lt_of_le hk h.NW)) (below_step h.b hb) (Nat.le_trans h.NW hb.size)
theorem impl_NextEpoch.Inn.far (h : impl_NextEpoch.Inn w b3 B0 N g m n c o1 o2 o3 v4 zs W) (q j : Nat) (hq : N ≤ q) (v : Value) : impl_NextEpoch.Inn w b3 B0 N g m n c o1 o2 o3 v4 zs (W.setCell ⟨q,j,none⟩ v) :=
 h.step (fun k hk => Below.heap_setCell W ⟨q,j,none⟩ v k (Nat.ne_of_lt (Nat.lt_of_lt_of_le hk hq))) (below_set h.b (Nat.le_trans (Nat.le_of_lt (Nat.lt_of_succ_lt h.wN)) hq)) (by rw [show (W.setCell ⟨q,j,none⟩ v).heap.size = W.heap.size from by simp [World.setCell]]; exact h.NW)
theorem impl_NextEpoch.Inn.grow (h : impl_NextEpoch.Inn w b3 B0 N g m n c o1 o2 o3 v4 zs W) (hb : Below N W W') : impl_NextEpoch.Inn w b3 B0 N g m n c o1 o2 o3 v4 zs W' :=
 h.step hb.block ⟨hb.os.trans h.b.os,hb.tape.trans h.b.tape,hb.output.trans h.b.output,Nat.le_trans h.b.size hb.size,fun k hk => (hb.block k (Nat.lt_trans hk (Nat.lt_of_succ_lt h.wN))).trans (h.b.block k hk)⟩ (Nat.le_trans h.NW hb.size)
/-- Element m's free coins are written. -/
theorem impl_NextEpoch.Inn.free (h : impl_NextEpoch.Inn w b3 B0 N g m n c o1 o2 o3 v4 zs W) (hB : w.heap.size + 1 < B0) (hg : B0 ≤ g) (h3 : g ≠ b3) (hn : n = zs.length) (hl : m < zs.length) (u : Int) :
  impl_NextEpoch.Inn w b3 B0 N g m n c o1 o2 o3 v4 (zs.set m ⟨(zs.getD m z63).f0,u,(zs.getD m z63).f2,(zs.getD m z63).f3,(zs.getD m z63).f4⟩) (W.setCell ⟨g,m * 5 + 1,none⟩ (.int .i64 u)) ∧ W.cell? ⟨g,m * 5 + 1,none⟩ = some (.int .i64 (zs.getD m z63).f1) ∧ W.frozen? ⟨g,m * 5 + 1,none⟩ = false := by
 have hX : Kd.S k63 63 W B0 (fun k_ => (fun k_ => (B0 ≤ k_ ∧ k_ ≠ b3) ∧ k_ < N) k_ ∧ ¬ (fun _ => False) k_) (.slice (some ⟨g,0,none⟩) n c) zs := Kd.S_mono h.s (fun _ hk => ⟨hk,fun e => e⟩);obtain ⟨oki,cs,_,hM,hcc,hfr,hoki,hH⟩ := Kd.S_elem hX z63 (m : Int) (by omega) (by omega);rw [Int.toNat_natCast] at hM;obtain ⟨v4',rfl,hR4⟩ := k63_openM hM;have hP := Kd.S_seg hH (by omega) (by omega) (seg := [.int .i64 u]) (j := 1) (show 2 ≤ 5 from by decide) (x' := (⟨(zs.getD m z63).f0,u,(zs.getD m z63).f2,(zs.getD m z63).f3,(zs.getD m z63).f4⟩ : S63)) (k63_mkM _ _ _ (⟨(zs.getD m z63).f0,u,(zs.getD m z63).f2,(zs.getD m z63).f3,(zs.getD m z63).f4⟩ : S63) (Kd.R_mono hR4 (fun _ h_ => Or.inl h_))) (fun _ hk => hk) (fun k_ hk_ => hk_.elim)
 have hf : ∀ k,k ≠ g → (W.setCell ⟨g,m * 5 + 1,none⟩ (.int .i64 u)).heap[k]? = W.heap[k]? := fun k hk => Below.heap_setCell W ⟨g,m * 5 + 1,none⟩ _ k hk
 refine ⟨⟨hP.1,?_,(hf _ (by omega)).trans h.g1,(hf _ (by omega)).trans h.g2,(hf _ (Ne.symm h3)).trans h.g3,below_set h.b (by omega),h.gN,h.g3N,h.wN,?_⟩,hcc 1 _ rfl,hfr 1⟩
 ·obtain ⟨cells,hcs⟩ := Kd.S_typed h.s g rfl;exact (blk_cell (blk_set hcs (m * 5 + 1) (.int .i64 u)) (m * 5 + 4)).trans ((Array.getElem?_setIfInBounds_ne (by omega)).trans ((blk_cell hcs (m * 5 + 4)).symm.trans h.x4))
 ·rw [show (W.setCell ⟨g,m * 5 + 1,none⟩ (.int .i64 u)).heap.size = W.heap.size from by simp [World.setCell]];exact h.NW
/-- Element m's leaves are written: a row that is new. -/
theorem impl_NextEpoch.Inn.leave (h : impl_NextEpoch.Inn w b3 B0 N g m n c o1 o2 o3 v4 zs W) (hB : w.heap.size + 1 < B0) (hBN : B0 ≤ N) (hg : B0 ≤ g) (h3 : g ≠ b3) (hn : n = zs.length) (hl : m < zs.length) (u : Value) (ls : List S65) (hR : Kd.R k65 65 W N (fun _ => True) u ls) :
  Kd.S k63 63 (W.setCell ⟨g,m * 5 + 4,none⟩ u) B0 (fun k_ => B0 ≤ k_ ∧ k_ ≠ b3) (.slice (some ⟨g,0,none⟩) n c) (zs.set m ⟨(zs.getD m z63).f0,(zs.getD m z63).f1,(zs.getD m z63).f2,(zs.getD m z63).f3,ls⟩) ∧ (W.setCell ⟨g,m * 5 + 4,none⟩ u).heap[w.heap.size]? = some o1 ∧ (W.setCell ⟨g,m * 5 + 4,none⟩ u).heap[w.heap.size + 1]? = some o2 ∧ (W.setCell ⟨g,m * 5 + 4,none⟩ u).heap[b3]? = some o3 ∧ Below w.heap.size w (W.setCell ⟨g,m * 5 + 4,none⟩ u) ∧ W.frozen? ⟨g,m * 5 + 4,none⟩ = false := by
 have hgN := h.gN;have h3N := h.g3N;have hX : Kd.S k63 63 W B0 (fun k_ => (B0 ≤ k_ ∧ k_ ≠ b3) ∧ ¬ (N ≤ k_)) (.slice (some ⟨g,0,none⟩) n c) zs := Kd.S_mono h.s (fun k_ hk => ⟨hk.1,by have := hk.2; omega⟩);obtain ⟨oki,cs,_,hM,hcc,hfr,hoki,hH⟩ := Kd.S_elem hX z63 (m : Int) (by omega) (by omega);rw [Int.toNat_natCast] at hM;obtain ⟨v4',rfl,hR4⟩ := k63_openM hM;have hR' : Kd.R k65 65 W B0 (fun k_ => N ≤ k_) u ls := Kd.R_lower (Kd.R_mono (Kd.R_bound hR) (fun k_ hk => hk.2.1)) hBN;have hP := Kd.S_seg hH (by omega) (by omega) (seg := [u]) (j := 4) (show 5 ≤ 5 from by decide) (x' := (⟨(zs.getD m z63).f0,(zs.getD m z63).f1,(zs.getD m z63).f2,(zs.getD m z63).f3,ls⟩ : S63)) (okp := fun k_ => N ≤ k_) (k63_mkM _ _ _ (⟨(zs.getD m z63).f0,(zs.getD m z63).f1,(zs.getD m z63).f2,(zs.getD m z63).f3,ls⟩ : S63) hR') (fun _ hk => .inr hk) (fun k_ hk_ => ⟨⟨Nat.le_trans hBN hk_,by omega⟩,by omega⟩)
 have hf : ∀ k,k ≠ g → (W.setCell ⟨g,m * 5 + 4,none⟩ u).heap[k]? = W.heap[k]? := fun k hk => Below.heap_setCell W ⟨g,m * 5 + 4,none⟩ _ k hk
 exact ⟨hP.1,(hf _ (by omega)).trans h.g1,(hf _ (by omega)).trans h.g2,(hf _ (Ne.symm h3)).trans h.g3,below_set h.b (by omega),hfr 4⟩
end
theorem impl_NextEpoch.calls (k : Nat) (a0_0 : Int) (A0_1 : Option Addr) (c0_1 : Nat) (l0_1 : List S63) (r1 : Int) (r2 : List S63) (w : World) (hr0_1 : Kd.C k63 w A0_1 l0_1.length l0_1) (hc0_1 : l0_1.length ≤ c0_1) (h : impl_NextEpoch.f k a0_0 l0_1 = some (r1,r2)) :
  Calls Try.prog 25 #[.agg #[.int .i64 a0_0,.slice A0_1 l0_1.length c0_1]] w fun e w' => ∃ v1_ : Value,e = .returned (.agg #[.int .i64 r1,v1_]) ∧ Kd.S k63 63 w' w.heap.size (fun _ => True) v1_ r2 ∧ Below w.heap.size w w' := by
 have HR := Aside0.mk hr0_1;have HC := Aside0.mk hc0_1;unfold impl_NextEpoch.f at h;obtain ⟨b,hb,h⟩ := Option.bind_eq_some_iff.mp h;have HOK := Aside0.mk hb;clear hr0_1 hc0_1 hb
 cases b with
 | false =>
  rw [if_neg (by simp)] at h;have HCP := Aside0.mk h;clear h;go_enter Try.func25,Try.ntmps25
  go_wp2_with (first | (go_at_call 27; refine (impl_LedgerOk.calls k a0_0 _ _ l0_1 false _ ?s1 ?s2 HOK.out).mono ?_; (case s1 => exact Kd.C_below HR.out (by repeat (first | exact Below.refl _ _ | apply below_alloc))); (case s2 => exact HC.out); rintro e w1 ⟨rfl,hb1⟩; have g1 := impl_NextEpoch.held (impl_NextEpoch.two w _ _).1 hb1; have G2 := Aside0.mk (impl_NextEpoch.held (impl_NextEpoch.two w _ _).2 hb1); have HB1 := Aside0.mk (below_step (by repeat (first | exact Below.refl _ _ | apply below_alloc)) hb1 : Below w.heap.size w w1); clear hb1; have z0 : w1.cell? ⟨w.heap.size,0,none⟩ = some (.int .i64 a0_0) := (blk_cell g1 0).trans rfl; have z1 : w1.cell? ⟨w.heap.size,1,none⟩ = some (.slice A0_1 l0_1.length c0_1) := (blk_cell g1 1).trans rfl; clear g1) | (go_at_call 63; refine (impl_copyLedger.calls k a0_0 _ _ l0_1 r1 r2 _ ?s1 ?s2 HCP.out).mono ?_; (case s1 => exact Kd.C_below HR.out HB1.out); (case s2 => exact HC.out); rintro e w2 ⟨v1,rfl,hS,hb2⟩; have g2 := impl_NextEpoch.held G2.out hb2; obtain ⟨A,c,rfl⟩ := Kd.S_slice hS; have z2 : w2.cell? ⟨w.heap.size + 1,0,none⟩ = some (.int .i64 0) := (blk_cell g2 0).trans rfl; have z3 : w2.cell? ⟨w.heap.size + 1,1,none⟩ = some (.slice none 0 0) := (blk_cell g2 1).trans rfl; have f2 := blk_frozen g2 0; have f3 := blk_frozen g2 1; have HS := Aside0.mk (Kd.S_lower (Kd.S_mono (Kd.S_bound hS) (fun k_ hk => hk.2.1)) HB1.out.size); have G3 := Aside0.mk g2; have HB2 := Aside0.mk (below_step HB1.out hb2); have LT := Aside0.mk (blk_lt G2.out); clear hS hb2 g2))
  skip
  refine bodyPost_ret (results_cell_row rfl _ _ (w.heap.size + 1) 31 #[.int .i64 r1,.slice A r2.length c] (0,0) _ rfl (blk_put (cs := #[.int .i64 r1,.slice none 0 0]) (blk_put (cs := #[.int .i64 0,.slice none 0 0]) G3.out 0 _ rfl) 1 _ rfl) Try.underlying31 rfl (by kernel_rfl)) rfl ?_;exact ⟨_,rfl,Kd.S_mono (Kd.S_far (p := ⟨w.heap.size + 1,1,none⟩) (Kd.S_far (p := ⟨w.heap.size + 1,0,none⟩) HS.out (fun k_ hk => Nat.ne_of_gt (Nat.lt_of_lt_of_le LT.out hk)) _) (fun k_ hk => Nat.ne_of_gt (Nat.lt_of_lt_of_le LT.out hk)) _) (fun _ _ => trivial),below_set (below_set HB2.out (Nat.le_succ _)) (Nat.le_succ _)⟩
 | true =>
  rw [if_pos rfl] at h;obtain ⟨⟨p1,ys⟩,hcp,h⟩ := Option.bind_eq_some_iff.mp h;have HCP := Aside0.mk hcp;unfold impl_NextEpoch.g at h
  split at h
  case isFalse => exact absurd h (by simp)
  rename_i hall
  have HALL := Aside0.mk (fun a ha => odt (List.all_eq_true.1 hall a ha) : ∀ a ∈ ys,a.f4.length < 1099511627776);have H := Aside0.mk h;clear h hcp hall;go_enter Try.func25,Try.ntmps25
  go_wp2_with (first | ((with_reducible refine gate_dst (N := 3) rfl ?_); refine box_event (by rfl) (N := 3) (by rfl) (cs := #[.int .i64 0,.slice none 0 0]) (t := 31) (by go_simp; done) ?_; intro b3 hb3 w3 hbox hb; have HS3 := Aside0.mk (Kd.S_below (Kd.S_elderB HS.out b3 (Nat.le_of_eq hb3.symm)) hb); have G13 := Aside0.mk (impl_NextEpoch.held G12.out hb); have G23 := Aside0.mk (impl_NextEpoch.held G22.out hb); have G33 := Aside0.mk hbox; have HB3 := bst HB2 hb; have HN3 := Aside0.mk (hb3 ▸ HB2.out.size : w.heap.size ≤ b3); have HN13 := Aside0.mk (hb3 ▸ (blk_lt G22.out) : w.heap.size + 1 < b3); have c30 : w3.cell? ⟨b3,0,none⟩ = some (.int .i64 0) := (blk_cell hbox 0).trans rfl; have c31 : w3.cell? ⟨b3,1,none⟩ = some (.slice none 0 0) := (blk_cell hbox 1).trans rfl; have f30 := blk_frozen hbox 0; have f31 := blk_frozen hbox 1; clear hb hbox hb3) | (go_at_call 27; refine (impl_LedgerOk.calls k a0_0 _ _ l0_1 true _ ?s1 ?s2 HOK.out).mono ?_; (case s1 => exact Kd.C_below HR.out (by repeat (first | exact Below.refl _ _ | apply below_alloc))); (case s2 => exact HC.out); rintro e w1 ⟨rfl,hb1⟩; have g1 := impl_NextEpoch.held (impl_NextEpoch.two w _ _).1 hb1; have G11 := Aside0.mk g1; have G21 := Aside0.mk (impl_NextEpoch.held (impl_NextEpoch.two w _ _).2 hb1); have HB1 := Aside0.mk (below_step (by repeat (first | exact Below.refl _ _ | apply below_alloc)) hb1 : Below w.heap.size w w1); clear hb1; have z0 : w1.cell? ⟨w.heap.size,0,none⟩ = some (.int .i64 a0_0) := (blk_cell g1 0).trans rfl; have z1 : w1.cell? ⟨w.heap.size,1,none⟩ = some (.slice A0_1 l0_1.length c0_1) := (blk_cell g1 1).trans rfl; clear g1) | (go_at_call 63; refine (impl_copyLedger.calls k a0_0 _ _ l0_1 p1 ys _ ?s1 ?s2 HCP.out).mono ?_; (case s1 => exact Kd.C_below HR.out HB1.out); (case s2 => exact HC.out); rintro e w2 ⟨v1,rfl,hS,hb2⟩; obtain ⟨A,c,rfl⟩ := Kd.S_slice hS; have HS := Aside0.mk (Kd.S_mono (Kd.S_bound hS) (fun k_ hk => hk.2.1) : Kd.S k63 63 w2 w1.heap.size (fun k_ => w1.heap.size ≤ k_) (.slice A ys.length c) ys); have HB2 := Aside0.mk (below_step HB1.out hb2); have G12 := Aside0.mk (impl_NextEpoch.held G11.out hb2); have G22 := Aside0.mk (impl_NextEpoch.held G21.out hb2); clear hS hb2))
  go_loopw [23] (fun i wr => ∃ m : Nat,m ≤ ys.length ∧ i = .int .i64 m ∧ Kd.S k63 63 wr w1.heap.size (fun k_ => w1.heap.size ≤ k_ ∧ k_ ≠ b3) (.slice A ys.length c) (impl_NextEpoch.pre (wrap64 (p1 + 1)) ys m) ∧ wr.heap[w.heap.size]? = some (.cells #[.int .i64 a0_0,.slice A0_1 l0_1.length c0_1] 31 (0,0)) ∧ wr.heap[w.heap.size + 1]? = some (.cells #[.int .i64 0,.slice none 0 0] 31 (0,0)) ∧ wr.heap[b3]? = some (.cells #[.int .i64 (wrap64 (p1 + 1)),.slice A ys.length c] 31 (0,0)) ∧ Below w.heap.size w wr) (fun i _ => ys.length - (intOf i).toNat)
  case atStart =>
   refine ⟨0,Nat.zero_le _,rfl,Kd.S_far (p := ⟨b3,0,none⟩) (Kd.S_far (p := ⟨b3,1,none⟩) (Kd.S_far (p := ⟨b3,0,none⟩) HS3.out (fun k_ hk => hk.2) _) (fun k_ hk => hk.2) _) (fun k_ hk => hk.2) _,?_,?_,?_,?_⟩
   ·exact blk_far (blk_far (blk_far G13.out (Nat.ne_of_lt (Nat.lt_of_succ_lt HN13.out)) _) (Nat.ne_of_lt (Nat.lt_of_succ_lt HN13.out)) _) (Nat.ne_of_lt (Nat.lt_of_succ_lt HN13.out)) _
   ·exact blk_far (blk_far (blk_far G23.out (Nat.ne_of_lt HN13.out) _) (Nat.ne_of_lt HN13.out) _) (Nat.ne_of_lt HN13.out) _
   ·exact blk_put (cs := #[.int .i64 p1,.slice A ys.length c]) (blk_put (cs := #[.int .i64 p1,.slice none 0 0]) (blk_put (cs := #[.int .i64 0,.slice none 0 0]) G33.out 0 _ rfl) 1 _ rfl) 0 _ rfl
   ·exact below_set (below_set (below_set HB3.out HN3.out) HN3.out) HN3.out
  case round =>
   obtain ⟨m,hm,rfl,hS,hg1,hg2,hg3,hB⟩ := hrel;have HS := Aside0.mk hS;have HB := Aside0.mk hB;have G1 := Aside0.mk hg1;have G2 := Aside0.mk hg2;have G3 := Aside0.mk hg3;have c30 : wr.cell? ⟨b3,0,none⟩ = some (.int .i64 (wrap64 (p1 + 1))) := (blk_cell hg3 0).trans rfl;have c31 : wr.cell? ⟨b3,1,none⟩ = some (.slice A ys.length c) := (blk_cell hg3 1).trans rfl;clear hS hB hg1 hg2 hg3
   by_cases hlt : m < ys.length
   ·have hlen := impl_NextEpoch.pre_len (wrap64 (p1 + 1)) ys m hm;obtain ⟨g,cc,eS,hge,hgl,_⟩ := Kd.S_form HS.out (by rw [hlen]; omega)
    injection eS with eA en ec
    subst eA;subst ec;clear en;obtain ⟨a,ha⟩ : ∃ a,a = ys.getD m z63 := ⟨_,rfl⟩;obtain ⟨oki,cs,_,hM,hcc,hfr,hoki,_⟩ := Kd.S_elem HS.out z63 (m : Int) (by omega) (by omega);rw [Int.toNat_natCast,impl_NextEpoch.pre_at _ _ _ hlt,← ha] at hM;obtain ⟨v4,rfl,hR4⟩ := k63_openM hM;obtain ⟨A4,c4,rfl⟩ := Kd.R_slice hR4;have x4 : wr.cell? ⟨g,m * 5 + 4,none⟩ = some (.slice A4 a.f4.length c4) := hcc 4 _ rfl;obtain ⟨NN,hNN⟩ : ∃ NN,NN = wr.heap.size := ⟨_,rfl⟩;have HI := Aside0.mk (impl_NextEpoch.Inn.mk (w := w) (b3 := b3) (B0 := w1.heap.size) (N := NN) (g := g) (m := m) (n := ys.length) (c := c) (zs := impl_NextEpoch.pre (wrap64 (p1 + 1)) ys m) (Kd.S_mono (Kd.S_bound HS.out) (fun k_ hk => ⟨hk.1,hNN ▸ hk.2.2.1⟩)) x4 G1.out G2.out G3.out HB.out (hNN ▸ hgl) (hNN ▸ blk_lt G3.out) (hNN ▸ blk_lt G2.out) (Nat.le_of_eq hNN));have n0 : (0 ≤ (m : Int)) = True := eq_true (by omega);have n1 : ((m : Int) < (ys.length : Int)) = True := eq_true (by omega);have HA := Aside0.mk ha;have HGE := Aside0.mk hge;have HLT := Aside0.mk hlt;have HG3 := Aside0.mk (show g ≠ b3 from ((Kd.S_R HS.out).1 g rfl).2);have HB0 := Aside0.mk (show w.heap.size + 1 < w1.heap.size from blk_lt G21.out);clear hM hcc hfr hoki hR4 ha hNN;go_wp2
    go_loopw [6,35] (fun v6 i wr2 => ∃ j : Nat,j ≤ a.f4.length ∧ i = .int .i64 j ∧ impl_NextEpoch.Inn w b3 w1.heap.size NN g m ys.length c (.cells #[.int .i64 a0_0,.slice A0_1 l0_1.length c0_1] 31 (0,0)) (.cells #[.int .i64 0,.slice none 0 0] 31 (0,0)) (.cells #[.int .i64 (wrap64 (p1 + 1)),.slice (some ⟨g,0,none⟩) ys.length c] 31 (0,0)) (.slice A4 a.f4.length c4) ((impl_NextEpoch.pre (wrap64 (p1 + 1)) ys m).set m (impl_NextEpoch.mid (wrap64 (p1 + 1)) a j)) wr2 ∧ Kd.R k65 65 wr2 NN (fun _ => True) v6 (impl_NextEpoch.late (wrap64 (p1 + 1)) (a.f4.take j))) (fun v6 i _ => a.f4.length - (intOf i).toNat)
    case atStart => exact ⟨0,Nat.zero_le _,rfl,by rw [impl_NextEpoch.mid_zero _ _ _ hlt _ HA.out]; exact HI.out,Kd.R_nil _ _ _ _ _⟩
    case round =>
     obtain ⟨j,hj,rfl,hI,hR⟩ := hrel;have HI2 := Aside0.mk hI;have HR2 := Aside0.mk hR;clear hI hR
     by_cases hjl : j < a.f4.length
     ·obtain ⟨zs,hzs⟩ : ∃ zs,zs = (impl_NextEpoch.pre (wrap64 (p1 + 1)) ys m).set m (impl_NextEpoch.mid (wrap64 (p1 + 1)) a j) := ⟨_,rfl⟩
      have hzl : zs.length = ys.length := by rw [hzs,List.length_set,impl_NextEpoch.pre_len _ _ _ hm]
      have hzm : zs.getD m z63 = impl_NextEpoch.mid (wrap64 (p1 + 1)) a j := by rw [hzs,List.getD_eq_getElem?_getD,List.getElem?_set_self (by rw [impl_NextEpoch.pre_len _ _ _ hm]; exact hlt)]; rfl
      have HI3 := Aside0.mk (show impl_NextEpoch.Inn w b3 w1.heap.size NN g m ys.length c (.cells #[.int .i64 a0_0,.slice A0_1 l0_1.length c0_1] 31 (0,0)) (.cells #[.int .i64 0,.slice none 0 0] 31 (0,0)) (.cells #[.int .i64 (wrap64 (p1 + 1)),.slice (some ⟨g,0,none⟩) ys.length c] 31 (0,0)) (.slice A4 a.f4.length c4) zs wr by rw [hzs]; exact HI2.out);have HZ := Aside0.mk hzs;have HZL := Aside0.mk hzl;have HZM := Aside0.mk hzm;have HZT := Aside0.mk (show m < zs.length by rw [hzl]; exact hlt);obtain ⟨oki,cs,_,hM,hcc,_,_,_⟩ := Kd.S_elem HI3.out.s z63 (m : Int) (by omega) (by omega);rw [Int.toNat_natCast,hzm] at hM;obtain ⟨v4,rfl,hR4⟩ := k63_openM hM;have e4 := Option.some.inj ((hcc 4 _ rfl).symm.trans HI3.out.x4);subst e4;obtain ⟨ad,e4,hy0,hy1⟩ := at_T65 (Kd.R_reads' hR4).2.2 (j : Int) (by omega) (by exact Int.ofNat_lt.2 hjl);subst e4;obtain ⟨x,hx⟩ : ∃ x,x = rd_T65 a.f4 (j : Int) := ⟨_,rfl⟩;rw [show rd_T65 (impl_NextEpoch.mid (wrap64 (p1 + 1)) a j).f4 (j : Int) = x from hx.symm,Int.toNat_natCast] at hy0 hy1;have HX := Aside0.mk hx;have hl4 : a.f4.length ≤ 9223372036854775807 := (Kd.R_reads' hR4).2.2.2.1;have H01 := Aside0.mk (impl_NextEpoch.next j _ hjl hl4);clear hl4;have q0 : (0 ≤ (j : Int)) = True := eq_true (by omega);have q1 : ((j : Int) < (a.f4.length : Int)) = True := eq_true (by omega);clear hzs hzl hzm hM hcc hR4 hx
      by_cases hle : x.f1 ≤ wrap64 (p1 + 1)
      ·have hle' := eq_true hle;have HLE := Aside0.mk hle;clear hle
       go_upto_region 14 with (((with_reducible refine gate_dst (N := 8) rfl ?_); refine box_event (by rfl) (N := 8) (by rfl) (cs := #[.int .i64 0,.int .i64 0]) (t := 65) (by go_simp; done) ?_; intro bx hbx w5 hbox hb; have HI5 := Aside0.mk (HI3.out.below hb); have HR5 := Aside0.mk (Kd.R_below (Kd.R_elderB HR2.out bx (Nat.le_of_eq hbx.symm)) hb); have HBX := Aside0.mk hbox; have HBN := Aside0.mk (Nat.le_trans HI3.out.NW (Nat.le_of_eq hbx.symm) : NN ≤ bx); have d0 : w5.cell? ⟨bx,0,none⟩ = some (.int .i64 0) := (blk_cell hbox 0).trans rfl; have d1 : w5.cell? ⟨bx,1,none⟩ = some (.int .i64 0) := (blk_cell hbox 1).trans rfl; have df0 := blk_frozen hbox 0; have df1 := blk_frozen hbox 1; have nb1 : bx ≠ b3 := Nat.ne_of_gt (Nat.lt_of_lt_of_le HI5.out.g3N HBN.out); have nb2 : b3 ≠ bx := Ne.symm nb1; have nb3 : bx ≠ g := Nat.ne_of_gt (Nat.lt_of_lt_of_le HI5.out.gN HBN.out); have nb4 : g ≠ bx := Ne.symm nb3; have c35 : w5.cell? ⟨b3,0,none⟩ = some (.int .i64 (wrap64 (p1 + 1))) := (blk_cell HI5.out.g3 0).trans rfl; have hfr5 := (HI5.out.free HB0.out HGE.out HG3.out HZL.out.symm HZT.out 0).2; have x15 : w5.cell? ⟨g,m * 5 + 1,none⟩ = some (.int .i64 (impl_NextEpoch.mid (wrap64 (p1 + 1)) a j).f1) := (by rw [← HZM.out]; exact hfr5.1); have f15 := hfr5.2; clear hb hbox hbx hfr5))
       have hI6 : impl_NextEpoch.Inn w b3 w1.heap.size NN g m ys.length c (.cells #[.int .i64 a0_0,.slice A0_1 l0_1.length c0_1] 31 (0,0)) (.cells #[.int .i64 0,.slice none 0 0] 31 (0,0)) (.cells #[.int .i64 (wrap64 (p1 + 1)),.slice (some ⟨g,0,none⟩) ys.length c] 31 (0,0)) (.slice (some ad) a.f4.length c4) zs ((w5.setCell ⟨bx,0,none⟩ (.int .i64 x.f0)).setCell ⟨bx,1,none⟩ (.int .i64 x.f1)) := (HI5.out.far bx 0 HBN.out _).far bx 1 HBN.out _;have hR6 : Kd.R k65 65 ((w5.setCell ⟨bx,0,none⟩ (.int .i64 x.f0)).setCell ⟨bx,1,none⟩ (.int .i64 x.f1)) NN (fun _ => True) u6 (impl_NextEpoch.late (wrap64 (p1 + 1)) (a.f4.take j)) := Kd.R_mono (Kd.R_far (p := ⟨bx,1,none⟩) (Kd.R_far (p := ⟨bx,0,none⟩) HR5.out (fun _ hk => hk.2) _) (fun _ hk => hk.2) _) (fun _ _ => trivial);have hb6 : ((w5.setCell ⟨bx,0,none⟩ (.int .i64 x.f0)).setCell ⟨bx,1,none⟩ (.int .i64 x.f1)).heap[bx]? = some (.cells #[.int .i64 x.f0,.int .i64 x.f1] 65 (0,0)) := blk_put (cs := #[.int .i64 x.f0,.int .i64 0]) (blk_put (cs := #[.int .i64 0,.int .i64 0]) HBX.out 0 _ rfl) 1 _ rfl;clear d0 d1 df0 df1 c35 x15 f15
       generalize ((w5.setCell ⟨bx,0,none⟩ (.int .i64 x.f0)).setCell ⟨bx,1,none⟩ (.int .i64 x.f1)) = w6 at hI6 hR6 hb6 ⊢
       have e0 : w6.cell? ⟨bx,0,none⟩ = some (.int .i64 x.f0) := (blk_cell hb6 0).trans rfl;have hfr6 := (hI6.free HB0.out HGE.out HG3.out HZL.out.symm HZT.out 0).2;rw [HZM.out] at hfr6;have x16 := hfr6.1;have f16 := hfr6.2;have HI6 := Aside0.mk hI6;have HR6 := Aside0.mk hR6;clear hI6 hR6 hb6 hfr6
       go_still_tail 9,(by kernel_rfl)
       change wpList _ _ _ _ _ w6.drew
       have hI7 : impl_NextEpoch.Inn w b3 w1.heap.size NN g m ys.length c (.cells #[.int .i64 a0_0,.slice A0_1 l0_1.length c0_1] 31 (0,0)) (.cells #[.int .i64 0,.slice none 0 0] 31 (0,0)) (.cells #[.int .i64 (wrap64 (p1 + 1)),.slice (some ⟨g,0,none⟩) ys.length c] 31 (0,0)) (.slice (some ad) a.f4.length c4) zs w6.drew := HI6.out.below (below_drew (Below.refl _ _));have hR7 : Kd.R k65 65 w6.drew NN (fun _ => True) u6 (impl_NextEpoch.late (wrap64 (p1 + 1)) (a.f4.take j)) := Kd.R_drew HR6.out;clear e0 x16 f16
       generalize w6.drew = w7 at hI7 hR7 ⊢
       obtain ⟨hI8,x17,f17⟩ := hI7.free HB0.out HGE.out HG3.out HZL.out.symm HZT.out (wrap64 ((impl_NextEpoch.mid (wrap64 (p1 + 1)) a j).f1 + x.f0));rw [HZM.out] at hI8 x17;have HI8 := Aside0.mk hI8;have HR7 := Aside0.mk hR7;have HGN := Aside0.mk hI7.gN;clear hI8 hR7 hI7;go_wp2
       go_roundw
       case rel =>
        refine ⟨j + 1,Nat.succ_le_of_lt hjl,by rw [H01.out],?_,?_⟩
        ·rw [impl_NextEpoch.mid_pos _ a j hjl x HX.out HLE.out];have h9 := HI8.out;rw [HZ.out,List.set_set] at h9;exact h9
        ·rw [impl_NextEpoch.late_step _ _ _ hjl,if_pos (show (a.f4.getD j z65).f1 ≤ _ from (show x = a.f4.getD j z65 from HX.out) ▸ HLE.out)];exact Kd.R_mono (Kd.R_far (p := ⟨g,m * 5 + 1,none⟩) (Kd.R_mono (Kd.R_bound HR7.out) (fun k_ hk => Nat.ne_of_gt (Nat.lt_of_lt_of_le HGN.out hk.2.1))) (fun _ hk => hk) _) (fun _ _ => trivial)
       case measure =>
        rw [H01.out];exact impl_NextEpoch.meas _ j hjl
      ·have hle' := eq_false hle;have HLE := Aside0.mk hle;clear hle
       go_upto_region 15 with (((with_reducible refine gate_dst (N := 8) rfl ?_); refine box_event (by rfl) (N := 8) (by rfl) (cs := #[.int .i64 0,.int .i64 0]) (t := 65) (by go_simp; done) ?_; intro bx hbx w5 hbox hb; have HI5 := Aside0.mk (HI3.out.below hb); have HR5 := Aside0.mk (Kd.R_below (Kd.R_elderB HR2.out bx (Nat.le_of_eq hbx.symm)) hb); have HBX := Aside0.mk hbox; have HBN := Aside0.mk (Nat.le_trans HI3.out.NW (Nat.le_of_eq hbx.symm) : NN ≤ bx); have d0 : w5.cell? ⟨bx,0,none⟩ = some (.int .i64 0) := (blk_cell hbox 0).trans rfl; have d1 : w5.cell? ⟨bx,1,none⟩ = some (.int .i64 0) := (blk_cell hbox 1).trans rfl; have df0 := blk_frozen hbox 0; have df1 := blk_frozen hbox 1; have nb1 : bx ≠ b3 := Nat.ne_of_gt (Nat.lt_of_lt_of_le HI5.out.g3N HBN.out); have nb2 : b3 ≠ bx := Ne.symm nb1; have nb3 : bx ≠ g := Nat.ne_of_gt (Nat.lt_of_lt_of_le HI5.out.gN HBN.out); have nb4 : g ≠ bx := Ne.symm nb3; have c35 : w5.cell? ⟨b3,0,none⟩ = some (.int .i64 (wrap64 (p1 + 1))) := (blk_cell HI5.out.g3 0).trans rfl; have hfr5 := (HI5.out.free HB0.out HGE.out HG3.out HZL.out.symm HZT.out 0).2; have x15 : w5.cell? ⟨g,m * 5 + 1,none⟩ = some (.int .i64 (impl_NextEpoch.mid (wrap64 (p1 + 1)) a j).f1) := (by rw [← HZM.out]; exact hfr5.1); have f15 := hfr5.2; clear hb hbox hbx hfr5))
       have hI6 : impl_NextEpoch.Inn w b3 w1.heap.size NN g m ys.length c (.cells #[.int .i64 a0_0,.slice A0_1 l0_1.length c0_1] 31 (0,0)) (.cells #[.int .i64 0,.slice none 0 0] 31 (0,0)) (.cells #[.int .i64 (wrap64 (p1 + 1)),.slice (some ⟨g,0,none⟩) ys.length c] 31 (0,0)) (.slice (some ad) a.f4.length c4) zs ((w5.setCell ⟨bx,0,none⟩ (.int .i64 x.f0)).setCell ⟨bx,1,none⟩ (.int .i64 x.f1)) := (HI5.out.far bx 0 HBN.out _).far bx 1 HBN.out _;have hR6 : Kd.R k65 65 ((w5.setCell ⟨bx,0,none⟩ (.int .i64 x.f0)).setCell ⟨bx,1,none⟩ (.int .i64 x.f1)) NN (fun _ => True) u6 (impl_NextEpoch.late (wrap64 (p1 + 1)) (a.f4.take j)) := Kd.R_mono (Kd.R_far (p := ⟨bx,1,none⟩) (Kd.R_far (p := ⟨bx,0,none⟩) HR5.out (fun _ hk => hk.2) _) (fun _ hk => hk.2) _) (fun _ _ => trivial);have hb6 : ((w5.setCell ⟨bx,0,none⟩ (.int .i64 x.f0)).setCell ⟨bx,1,none⟩ (.int .i64 x.f1)).heap[bx]? = some (.cells #[.int .i64 x.f0,.int .i64 x.f1] 65 (0,0)) := blk_put (cs := #[.int .i64 x.f0,.int .i64 0]) (blk_put (cs := #[.int .i64 0,.int .i64 0]) HBX.out 0 _ rfl) 1 _ rfl;clear d0 d1 df0 df1 c35 x15 f15
       generalize ((w5.setCell ⟨bx,0,none⟩ (.int .i64 x.f0)).setCell ⟨bx,1,none⟩ (.int .i64 x.f1)) = w6 at hI6 hR6 hb6 ⊢
       have e0 : w6.cell? ⟨bx,0,none⟩ = some (.int .i64 x.f0) := (blk_cell hb6 0).trans rfl;have e1 : w6.cell? ⟨bx,1,none⟩ = some (.int .i64 x.f1) := (blk_cell hb6 1).trans rfl;have HI6 := Aside0.mk hI6;have HR6 := Aside0.mk hR6;clear hI6 hR6 hb6
       have HLL := Aside0.mk (show ((impl_NextEpoch.late (wrap64 (p1 + 1)) (a.f4.take j)).length + 1) * 16 ≤ 140737488355328 from by
        have h1 : (impl_NextEpoch.late (wrap64 (p1 + 1)) (a.f4.take j)).length ≤ (a.f4.take j).length := List.length_filter_le _ _;have h2 : (a.f4.take j).length ≤ a.f4.length := List.length_take_le' _ _;have h3 : a.f4.length < 1099511627776 := HALL.out a (by rw [HA.out,List.getD_eq_getElem?_getD,List.getElem?_eq_getElem HLT.out]; exact List.getElem_mem _)
        omega)
       go_wp2_with (first | ((with_reducible refine gate_dst (N := 55) rfl ?_); refine Kd.R_lit k65 (w0 := w6) w6.heap.size 65 ?hg (N := 55) ?hd (xs := ([x] : List S65)) (inner := [.int .i64 x.f0,.int .i64 x.f1]) (ok := fun _ => True) (okp := fun _ => True) ?hr ?hp (fun _ hk => hk) trivial (Below.refl _ _) (Nat.le_refl _) (by simp) ?_; (case hd => rfl); (case hg => rfl); (case hr => (go_simp; done)); (case hp => exact Reps.snoc (Reps.none _ _) (k65_mkM _ _ _ x) rfl); intro v55 w7 ho hb hg_ hnew_; have HI7 := Aside0.mk (HI6.out.below hb); have HR7 := Aside0.mk (Kd.R_below HR6.out hb); have HL7 := Aside0.mk ho; clear ho hb hg_ hnew_; obtain ⟨A7,c7,e7⟩ := Kd.R_slice HL7.out; subst e7) | ((with_reducible refine gate_builtin (b := .append) (xs := #[.tmp 53,.tmp 55]) rfl ?_); at_builtin; refine Kd.R_append_rows k65 (w0 := w7) NN rfl (.tmp 53) (.tmp 55) 61 65 (.agg #[.int .i64 0,.int .i64 0]) 16 rfl Try.underlying61 info65 rfl (by decide) (by omega) u6 (impl_NextEpoch.late (wrap64 (p1 + 1)) (a.f4.take j)) [x] _ _ _ (fun _ => True) (fun _ => False) rfl rfl ?aO ?aR (fun _ _ h => h) (fun _ h => h.elim) ?aF ?aB ?aS ?aL ?_; (case aO => exact HR7.out); (case aR => exact (Kd.R_reads' HL7.out).2.2); (case aF => exact fun _ _ => trivial); (case aB => exact Below.refl _ _); (case aS => exact HI7.out.NW); (case aL => exact HLL.out); intro v8 w8 ho hb hg hat; have HI8 := Aside0.mk (HI7.out.grow hb); have HR8 := Aside0.mk ho; clear ho hb hg hat))
       go_roundw
       case rel =>
        refine ⟨j + 1,Nat.succ_le_of_lt hjl,by rw [H01.out],?_,?_⟩
        ·rw [impl_NextEpoch.mid_neg _ a j hjl x HX.out HLE.out];have h9 := HI8.out;rw [HZ.out] at h9;exact h9
        ·rw [impl_NextEpoch.late_step _ _ _ hjl,if_neg (show ¬ (a.f4.getD j z65).f1 ≤ _ from (show x = a.f4.getD j z65 from HX.out) ▸ HLE.out),show a.f4.getD j z65 = x from HX.out.symm];exact HR8.out
       case measure =>
        rw [H01.out];exact impl_NextEpoch.meas _ j hjl
     ·obtain rfl : j = a.f4.length := by omega
      have hp5 : (impl_NextEpoch.pre (wrap64 (p1 + 1)) ys m).length = ys.length := impl_NextEpoch.pre_len _ _ _ hm
      have hmm : ((impl_NextEpoch.pre (wrap64 (p1 + 1)) ys m).set m (impl_NextEpoch.mid (wrap64 (p1 + 1)) a a.f4.length)).getD m z63 = impl_NextEpoch.mid (wrap64 (p1 + 1)) a a.f4.length := by rw [List.getD_eq_getElem?_getD,List.getElem?_set_self (by rw [hp5]; exact hlt)]; rfl
      obtain ⟨A6,c6,e6⟩ := Kd.R_slice HR2.out
      generalize (impl_NextEpoch.late (wrap64 (p1 + 1)) (a.f4.take a.f4.length)).length = n6 at e6
      subst e6;obtain ⟨hS9,hg1,hg2,hg3,hB9,f94⟩ := HI2.out.leave HB0.out (Nat.le_trans HGE.out (Nat.le_of_lt HI2.out.gN)) HGE.out HG3.out (by rw [List.length_set,hp5]) (by rw [List.length_set,hp5]; exact hlt) _ _ HR2.out;rw [hmm] at hS9;have x49 := HI2.out.x4;have HS9 := Aside0.mk hS9;have HG19 := Aside0.mk hg1;have HG29 := Aside0.mk hg2;have HG39 := Aside0.mk hg3;have HB9 := Aside0.mk hB9;have HP5 := Aside0.mk hp5;have HLE := Aside0.mk (show m + 1 ≤ ys.length from hlt);have HY := Aside0.mk (Kd.S_reads' HS9.out).2.2.2.1;have H01 := Aside0.mk (impl_NextEpoch.next m _ hlt (by have h1 := HY.out; rw [List.length_set,List.length_set,HP5.out] at h1; exact h1));clear hS9 hg1 hg2 hg3 hB9 hp5 hmm;go_wp2
      go_roundw
      case rel =>
       refine ⟨m + 1,HLE.out,by rw [H01.out],?_,HG19.out,HG29.out,HG39.out,HB9.out⟩;rw [← impl_NextEpoch.mid_end _ ys m HLE.out a HA.out];have h9 := HS9.out;exact h9
      case measure =>
       rw [H01.out];exact impl_NextEpoch.meas _ m HLE.out
   ·obtain rfl : m = ys.length := by omega
    have n1 : ((ys.length : Int) < (ys.length : Int)) = False := eq_false (by omega);obtain ⟨zs,hzs⟩ : ∃ zs,zs = ys.map (impl_NextEpoch.on (wrap64 (p1 + 1))) := ⟨_,rfl⟩
    have hzl : ys.length = zs.length := by rw [hzs,List.length_map]
    have hS := HS.out;rw [impl_NextEpoch.pre_end,← hzs,hzl] at hS;have g3 := G3.out;rw [hzl] at g3 c31;have h := H.out;rw [← hzs] at h;have HS5 := Aside0.mk hS;have G35 := Aside0.mk g3;have HN := Aside0.mk (show w.heap.size + 1 < w1.heap.size from blk_lt G21.out);clear hzs hzl hS g3;obtain ⟨b,hb,h⟩ := Option.bind_eq_some_iff.mp h;have HOK2 := Aside0.mk hb;clear hb
    cases b with
    | true =>
     rw [if_pos rfl] at h
     obtain ⟨rfl,rfl⟩ : wrap64 (p1 + 1) = r1 ∧ zs = r2 := by injection h with h; injection h with h1 h2; exact ⟨h1,h2⟩
     clear h
     go_wp2_with (go_at_call 27; refine (impl_LedgerOk.calls k (wrap64 (p1 + 1)) _ _ zs true _ ?s1 ?s2 HOK2.out).mono ?_; (case s1 => exact (Kd.S_reads' HS5.out).2.2); (case s2 => exact (Kd.S_reads' HS5.out).2.1); rintro e w6 ⟨rfl,hb6⟩; have HS6 := Aside0.mk (Kd.S_below HS5.out hb6); have g2 := impl_NextEpoch.held G2.out hb6; have G26 := Aside0.mk g2; have g3 := impl_NextEpoch.held G35.out hb6; have HB6 := Aside0.mk (below_step HB.out hb6); have z30 : w6.cell? ⟨b3,0,none⟩ = some (.int .i64 (wrap64 (p1 + 1))) := (blk_cell g3 0).trans rfl; have z31 : w6.cell? ⟨b3,1,none⟩ = some (.slice A zs.length c) := (blk_cell g3 1).trans rfl; have z2 : w6.cell? ⟨w.heap.size + 1,0,none⟩ = some (.int .i64 0) := (blk_cell g2 0).trans rfl; have z3 : w6.cell? ⟨w.heap.size + 1,1,none⟩ = some (.slice none 0 0) := (blk_cell g2 1).trans rfl; have f2 := blk_frozen g2 0; have f3 := blk_frozen g2 1; clear g2 g3 hb6)
     skip
     refine bodyPost_ret (results_cell_row rfl _ _ (w.heap.size + 1) 31 #[.int .i64 (wrap64 (p1 + 1)),.slice A zs.length c] (0,0) _ rfl (blk_put (cs := #[.int .i64 (wrap64 (p1 + 1)),.slice none 0 0]) (blk_put (cs := #[.int .i64 0,.slice none 0 0]) G26.out 0 _ rfl) 1 _ rfl) Try.underlying31 rfl (by kernel_rfl)) rfl ?_;exact ⟨_,rfl,Kd.S_lower (Kd.S_mono (Kd.S_far (p := ⟨w.heap.size + 1,1,none⟩) (Kd.S_far (p := ⟨w.heap.size + 1,0,none⟩) HS6.out (fun k_ hk => Nat.ne_of_gt (Nat.lt_of_lt_of_le HN.out hk.1)) _) (fun k_ hk => Nat.ne_of_gt (Nat.lt_of_lt_of_le HN.out hk.1)) _) (fun _ _ => trivial)) HB1.out.size,below_set (below_set HB6.out (Nat.le_succ _)) (Nat.le_succ _)⟩
    | false =>
     rw [if_neg (by simp)] at h;have HCP2 := Aside0.mk h;clear h
     go_wp2_with (first | (go_at_call 27; refine (impl_LedgerOk.calls k (wrap64 (p1 + 1)) _ _ zs false _ ?s1 ?s2 HOK2.out).mono ?_; (case s1 => exact (Kd.S_reads' HS5.out).2.2); (case s2 => exact (Kd.S_reads' HS5.out).2.1); rintro e w6 ⟨rfl,hb6⟩; have G26 := Aside0.mk (impl_NextEpoch.held G2.out hb6); have g1 := impl_NextEpoch.held G1.out hb6; have HB6 := Aside0.mk (below_step HB.out hb6); have z60 : w6.cell? ⟨w.heap.size,0,none⟩ = some (.int .i64 a0_0) := (blk_cell g1 0).trans rfl; have z61 : w6.cell? ⟨w.heap.size,1,none⟩ = some (.slice A0_1 l0_1.length c0_1) := (blk_cell g1 1).trans rfl; clear g1 hb6) | (go_at_call 63; refine (impl_copyLedger.calls k a0_0 _ _ l0_1 r1 r2 _ ?s1 ?s2 HCP2.out).mono ?_; (case s1 => exact Kd.C_below HR.out HB6.out); (case s2 => exact HC.out); rintro e w7 ⟨v1,rfl,hS,hb7⟩; have g2 := impl_NextEpoch.held G26.out hb7; obtain ⟨A7,c7,rfl⟩ := Kd.S_slice hS; have z2 : w7.cell? ⟨w.heap.size + 1,0,none⟩ = some (.int .i64 0) := (blk_cell g2 0).trans rfl; have z3 : w7.cell? ⟨w.heap.size + 1,1,none⟩ = some (.slice none 0 0) := (blk_cell g2 1).trans rfl; have f2 := blk_frozen g2 0; have f3 := blk_frozen g2 1; have HS7 := Aside0.mk (Kd.S_lower (Kd.S_mono (Kd.S_bound hS) (fun k_ hk => hk.2.1)) HB6.out.size); have G37 := Aside0.mk g2; have HB7 := Aside0.mk (below_step HB6.out hb7); have LT := Aside0.mk (blk_lt G26.out); clear hS hb7 g2))
     skip
     refine bodyPost_ret (results_cell_row rfl _ _ (w.heap.size + 1) 31 #[.int .i64 r1,.slice A7 r2.length c7] (0,0) _ rfl (blk_put (cs := #[.int .i64 r1,.slice none 0 0]) (blk_put (cs := #[.int .i64 0,.slice none 0 0]) G37.out 0 _ rfl) 1 _ rfl) Try.underlying31 rfl (by kernel_rfl)) rfl ?_;exact ⟨_,rfl,Kd.S_mono (Kd.S_far (p := ⟨w.heap.size + 1,1,none⟩) (Kd.S_far (p := ⟨w.heap.size + 1,0,none⟩) HS7.out (fun k_ hk => Nat.ne_of_gt (Nat.lt_of_lt_of_le LT.out hk)) _) (fun k_ hk => Nat.ne_of_gt (Nat.lt_of_lt_of_le LT.out hk)) _) (fun _ _ => trivial),below_set (below_set HB7.out (Nat.le_succ _)) (Nat.le_succ _)⟩

/-! ### impl_putNum: function 70 -/
mutual
def impl_putNum.j0 : Nat → List Int → Int → Option (List Int)
 | 0,_,_ => none
 | k + 1,x0,x5 => impl_putNum.l0 k x0 x5
def impl_putNum.l0 : Nat → List Int → Int → Option (List Int)
 | 0,_,_ => none
 | k + 1,x0,x5 => if x5 > 127 then (if x0.length < 140737488355328 then (impl_putNum.l0 k (x0 ++ [(Go.bits .or .i64 128 (Go.bits .and .i64 x5 127)) % 256]) (x5 / 128)) else (none)) else (if x0.length < 140737488355328 then (some (x0 ++ [(x5) % 256])) else (none))
end
def impl_putNum.f (k : Nat) (l0 : List Int) (a1 : Int) : Option (List Int) := if (mx (-1000000000) (mn a1 1000000000)) < 0 then (impl_putNum.j0 k l0 (((-2) * (mx (-1000000000) (mn a1 1000000000))) - 1)) else (impl_putNum.j0 k l0 (2 * (mx (-1000000000) (mn a1 1000000000))))
theorem impl_putNum.calls (k : Nat) (P0_ : Nat → Prop) (u9000_ : Value) (l0 : List Int) (a1 : Int) (r : List Int) (w0 w : World) (hB : Below w0.heap.size w0 w) (ho0 : Kd.R (Kd.int .u8) 5 w w0.heap.size P0_ u9000_ l0) (h : impl_putNum.f k l0 a1 = some r) :
  Calls Try.prog 70 #[u9000_,.int .i64 a1] w fun e w' => ∃ v0_ : Value,e = .returned (v0_) ∧ Kd.R (Kd.int .u8) 5 w' w0.heap.size (fun k_ => (P0_ k_ ∨ w.heap.size ≤ k_)) v0_ r ∧ Below w0.heap.size w0 w' ∧ Kept w w' (fun k_ => P0_ k_) := by
 have HO0 := Aside0.mk (show Kd.R (Kd.int .u8) 5 w w0.heap.size (fun k_ => (P0_ k_ ∨ w.heap.size ≤ k_)) u9000_ l0 from Kd.R_mono ho0 (fun k_ hk => (.inl hk)));have HK := Aside0.mk (Kept.refl w (fun k_ => P0_ k_));have HW0 := Aside0.mk hB.size;have HB := Aside0.mk hB;clear hB;have H : (if (mx (-1000000000) (mn a1 1000000000)) < 0 then (impl_putNum.j0 k l0 (((-2) * (mx (-1000000000) (mn a1 1000000000))) - 1)) else (impl_putNum.j0 k l0 (2 * (mx (-1000000000) (mn a1 1000000000))))) = some r := h;clear h;obtain ⟨ji3,hji3⟩ : ∃ j_ : Int,(mn a1 1000000000) = j_ := ⟨_,rfl⟩
 replace H : (if (mx (-1000000000) (ji3)) < 0 then (impl_putNum.j0 k l0 (((-2) * (mx (-1000000000) (ji3))) - 1)) else (impl_putNum.j0 k l0 (2 * (mx (-1000000000) (ji3))))) = some r := by (rw [hji3] at H; exact H)
 (try (have hji3h : ji3 ≤ 1000000000 := by (rw [← hji3]; unfold mn; (repeat' split) <;> omega)))
 skip
 have hji3_ : (if 1000000000 < a1 then 1000000000 else a1) = ji3 := hji3;obtain ⟨ji4,hji4⟩ : ∃ j_ : Int,(mx (-1000000000) (ji3)) = j_ := ⟨_,rfl⟩
 replace H : (if (ji4) < 0 then (impl_putNum.j0 k l0 (((-2) * (ji4)) - 1)) else (impl_putNum.j0 k l0 (2 * (ji4)))) = some r := by (rw [hji4] at H; exact H)
 have hji4_ : (if (-1000000000) < (ji3) then (ji3) else (-1000000000)) = ji4 := hji4;have HC5 := Aside0.mk H;clear H;go_enter Try.func70,Try.ntmps70
 go_upto_if 12 with (fail)
 go_cut [5] (fun v5 wc => ∃ (kq : Nat) (x5_4 : Int),v5 = .int .i64 x5_4 ∧ Aside0 (impl_putNum.j0 kq l0 x5_4 = some r) ∧ Aside0 (kq ≤ k) ∧ Aside0 (Kd.R (Kd.int .u8) 5 wc w0.heap.size (fun k_ => (P0_ k_ ∨ w.heap.size ≤ k_)) u9000_ l0) ∧ Aside0 (Kept w wc (fun k_ => P0_ k_)) ∧ Aside0 (Below w0.heap.size w0 wc))
 case first =>
  have H := HC5.out;clear HC5
  by_cases c6 : (ji4) < 0
  ·rw [if_pos c6] at H;have c6b0 := decide_eq_true c6;clear c6
   (rw [c6b0])
   have H' := Aside0.mk H;clear H;go_wp2
   go_meet
   case rel => exact ⟨_,(((-2) * (ji4)) - 1),(by rfl),H',⟨by omega⟩,⟨by exact HO0.out⟩,⟨HK.out⟩,⟨HB.out⟩⟩
  ·rw [if_neg c6] at H;have c6b0 := decide_eq_false c6;clear c6
   (rw [c6b0])
   have H' := Aside0.mk H;clear H;go_wp2
   go_meet
   case rel => exact ⟨_,(2 * (ji4)),(by rfl),H',⟨by omega⟩,⟨by exact HO0.out⟩,⟨HK.out⟩,⟨HB.out⟩⟩
 case rest =>
  clear HC5
  try clear p2
  try clear c6
  try clear c6b0
  obtain ⟨kq,x5_4,rfl,HA,HJ4,HO_0,HK,HB⟩ := hcut
  cases kq with
  | zero => exact absurd HA.out (by simp [impl_putNum.j0])
  | succ kj4 =>
   have H := HA.out;clear HA;simp only [impl_putNum.j0] at H;have H' := Aside0.mk H;clear H;go_wp2
   go_loopg [0,5] kj4 (fun kq v0 v5 w' => ∃ (x0_2 : List Int) (x5_2 : Int),v5 = .int .i64 x5_2 ∧ Aside0 (impl_putNum.l0 kq x0_2 x5_2 = some r) ∧ Aside0 (kq ≤ kj4) ∧ Aside0 (Kd.R (Kd.int .u8) 5 w' w0.heap.size (fun k_ => (P0_ k_ ∨ w.heap.size ≤ k_)) v0 x0_2) ∧ Aside0 (Kept w w' (fun k_ => P0_ k_)) ∧ Aside0 (Below w0.heap.size w0 w'))
   case atStart => exact ⟨(l0),(x5_4),(by rfl),H',⟨Nat.le_refl _⟩,⟨by exact HO_0.out⟩,⟨HK.out⟩,⟨HB.out⟩⟩
   case round =>
    clear H'
    try clear p2
    try clear c6
    try clear c6b0
    try clear p2
    obtain ⟨x0_2,x5_2,rfl,HA,HK2,HO_0,HK,HB⟩ := hrel
    cases gk with
    | zero => exact absurd HA.out (by simp [impl_putNum.l0])
    | succ k2 =>
     have H := HA.out;clear HA;simp only [impl_putNum.l0] at H
     by_cases c7 : x5_2 > 127
     ·rw [if_pos c7] at H;have c7b0 := decide_eq_true c7;clear c7
      by_cases c8 : x0_2.length < 140737488355328
      ·rw [if_pos c8] at H;have LMc8 := Aside0.mk c8;clear c8;obtain ⟨y411,hy411⟩ : ∃ y_ : List Int,y_ = (x0_2 ++ [(Go.bits .or .i64 128 (Go.bits .and .i64 x5_2 127)) % 256]) := ⟨_,rfl⟩
       replace H : (impl_putNum.l0 k2 y411 (x5_2 / 128)) = some r := by (rw [hy411]; with_reducible exact H)
       have Ny411 := Aside0.mk hy411;clear hy411;have H' := Aside0.mk H;clear H
       go_wp2_with (((with_reducible refine gate_builtin (b := .append) (xs := #[.tmp 18,.tmp 23]) rfl ?_); at_builtin; refine Kd.R_append (Kd.int .u8) (w0 := w0) w0.heap.size rfl (.tmp 18) (.tmp 23) 40 5 (.int .u8 0) 1 rfl Try.underlying40 info5 rfl (by decide) (by omega) u0 x0_2 ((Go.bits .or .i64 128 (Go.bits .and .i64 x5_2 127)) % 256) [.int .u8 ((Go.bits .or .i64 128 (Go.bits .and .i64 x5_2 127)) % 256)] (fun k_ => (P0_ k_ ∨ w.heap.size ≤ k_)) (fun _ => False) rfl rfl ?aP (fun _ hk => hk.elim) ?aF ?aO ?aB ?aS ?aL ?_; (case aP => exact rfl); (case aB => exact HB.out); (case aF => exact (fun k_ hk => (.inr (Nat.le_trans (by exact HK.out.1) hk)))); (case aO => exact (by exact HO_0.out)); (case aS => exact (below_size HB.out)); (case aL => have := LMc8.out; omega); intro v412 w9 ho hb hg hat; rw [← Ny411.out] at ho; replace HB := Aside0.mk (hb); replace HK := Aside0.mk (Kept.of_grown (S := (fun k_ => P0_ k_)) hg HK.out (fun k_ e_ => (HO_0.out.1 k_ e_))); have HO413 := Aside0.mk (ho); clear HO_0; clear ho hb hg hat))
       go_roundg k2
       case measure => have := HJ4.out; have := HK2.out; omega
       case rel => exact ⟨(y411),(x5_2 / 128),(by rfl),H',⟨by have := HJ4.out; have := HK2.out; omega⟩,⟨by exact HO413.out⟩,⟨HK.out⟩,⟨HB.out⟩⟩
      ·rw [if_neg c8] at H;exact absurd H (by simp)
     ·rw [if_neg c7] at H;have c7b0 := decide_eq_false c7;clear c7
      by_cases c10 : x0_2.length < 140737488355328
      ·rw [if_pos c10] at H;have LMc10 := Aside0.mk c10;clear c10;obtain ⟨y414,hy414⟩ : ∃ y_ : List Int,y_ = (x0_2 ++ [(x5_2) % 256]) := ⟨_,rfl⟩
       replace H : (some y414) = some r := by (rw [hy414]; with_reducible exact H)
       have Ny414 := Aside0.mk hy414;clear hy414;obtain rfl := Option.some.inj H
       go_wp2_with (((with_reducible refine gate_builtin (b := .append) (xs := #[.tmp 27,.tmp 30]) rfl ?_); at_builtin; refine Kd.R_append (Kd.int .u8) (w0 := w0) w0.heap.size rfl (.tmp 27) (.tmp 30) 40 5 (.int .u8 0) 1 rfl Try.underlying40 info5 rfl (by decide) (by omega) u0 x0_2 ((x5_2) % 256) [.int .u8 ((x5_2) % 256)] (fun k_ => (P0_ k_ ∨ w.heap.size ≤ k_)) (fun _ => False) rfl rfl ?aP (fun _ hk => hk.elim) ?aF ?aO ?aB ?aS ?aL ?_; (case aP => exact rfl); (case aB => exact HB.out); (case aF => exact (fun k_ hk => (.inr (Nat.le_trans (by exact HK.out.1) hk)))); (case aO => exact (by exact HO_0.out)); (case aS => exact (below_size HB.out)); (case aL => have := LMc10.out; omega); intro v415 w11 ho hb hg hat; rw [← Ny414.out] at ho; replace HB := Aside0.mk (hb); replace HK := Aside0.mk (Kept.of_grown (S := (fun k_ => P0_ k_)) hg HK.out (fun k_ e_ => (HO_0.out.1 k_ e_))); have HO416 := Aside0.mk (ho); clear HO_0; clear ho hb hg hat))
       go_ret;exact ⟨_,by rfl,by exact HO416.out,HB.out,HK.out⟩
      ·rw [if_neg c10] at H;exact absurd H (by simp)

/-! ### impl_putText: function 71 -/
def impl_putText.f (k : Nat) (l0 : List Int) (a1 : ByteArray) : Option (List Int) := (impl_putNum.f k l0 (a1.size : Int)).bind fun t417 => (if t417.length + a1.size < 140737488355328 then (some (t417 ++ bytesOf a1)) else (none))
theorem impl_putText.calls (k : Nat) (P0_ : Nat → Prop) (u9000_ : Value) (l0 : List Int) (a1 : ByteArray) (r : List Int) (w0 w : World) (hB : Below w0.heap.size w0 w) (ho0 : Kd.R (Kd.int .u8) 5 w w0.heap.size P0_ u9000_ l0) (h : impl_putText.f k l0 a1 = some r) :
  Calls Try.prog 71 #[u9000_,.string a1] w fun e w' => ∃ v0_ : Value,e = .returned (v0_) ∧ Kd.R (Kd.int .u8) 5 w' w0.heap.size (fun k_ => (P0_ k_ ∨ w.heap.size ≤ k_)) v0_ r ∧ Below w0.heap.size w0 w' ∧ Kept w w' (fun k_ => P0_ k_) := by
 have HO0 := Aside0.mk (show Kd.R (Kd.int .u8) 5 w w0.heap.size (fun k_ => (P0_ k_ ∨ w.heap.size ≤ k_)) u9000_ l0 from Kd.R_mono ho0 (fun k_ hk => (.inl hk)));have HK := Aside0.mk (Kept.refl w (fun k_ => P0_ k_));have HW0 := Aside0.mk hB.size;have HB := Aside0.mk hB;clear hB;have H : ((impl_putNum.f k l0 (a1.size : Int)).bind fun t417 => (if t417.length + a1.size < 140737488355328 then (some (t417 ++ bytesOf a1)) else (none))) = some r := h;clear h;replace H := Option.bind_eq_some_iff.mp H;obtain ⟨t417,A30,H⟩ := H;replace H : (if t417.length + a1.size < 140737488355328 then (some (t417 ++ bytesOf a1)) else (none)) = some r := H;have A3 := Aside0.mk A30;clear A30
 by_cases c4 : t417.length + a1.size < 140737488355328
 ·rw [if_pos c4] at H;have LMc4 := Aside0.mk c4;clear c4;obtain ⟨y420,hy420⟩ : ∃ y_ : List Int,y_ = (t417 ++ bytesOf a1) := ⟨_,rfl⟩
  replace H : (some y420) = some r := by (rw [hy420]; with_reducible exact H)
  have Ny420 := Aside0.mk hy420;clear hy420;obtain rfl := Option.some.inj H;obtain ⟨Ao5,co5,eo5⟩ := Kd.R_slice HO0.out;subst eo5;go_enter Try.func71,Try.ntmps71
  go_wp2_with (first | ((with_reducible refine gate_callee (f := 70) rfl ?_); refine goesL_ (some 8) rfl rfl Try.func70 (by kernel_rfl) rfl #[.slice Ao5 l0.length co5,.int .i64 (a1.size : Int)] rfl (by (try simp only [List.map_toArray,List.map_cons,List.map_nil]); rfl) ?_; (with_reducible refine (impl_putNum.calls k (fun k_ => some k_ = (.slice Ao5 l0.length co5 : Value).ownBlock) (.slice Ao5 l0.length co5) l0 (a1.size : Int) t417 w0 _ ?side1 ?side2 A3.out).mono ?_); (case side1 => repeat (with_reducible exact HB.out)); (case side2 => exact Kd.R_tight rfl HO0.out); rintro e w6 ⟨v418,rfl,ho0,hb,hkp⟩; refine ⟨_,rfl,?_⟩; have HO419 := Aside0.mk (Kd.R_mono (ok' := fun k_ => (P0_ k_ ∨ w.heap.size ≤ k_)) ho0 (fun k_ hk_ => Or.elim hk_ (fun hs_ => (HO0.out.1 k_ (hs_).symm)) (fun hn_ => (.inr (Nat.le_trans (by exact HK.out.1) hn_))))); replace HK := Aside0.mk (Kept.then_ (S := (fun k_ => P0_ k_)) HK.out hkp (fun k_ hs_ => (fun e_ => (HO0.out.1 k_ e_.symm)) hs_)); replace HB := Aside0.mk (hb); clear HO0; (try clear hb); (try clear hkp); (try clear ho0)) | (at_builtin; refine Go.Proofs.Ytcbpfofkdipjhaa.App.append_str_at (w0 := w0) w0.heap.size rfl (.tmp 8) _ 40 9 5 rfl Try.underlying40 Try.underlying9 info5 v418 t417 a1 rfl rfl ?aO ?aB ?aS ?aL ?_; (case aB => exact HB.out); (case aO => exact (Kd.own_of_R (by exact HO419.out))); (case aS => exact (below_size HB.out)); (case aL => have := LMc4.out; omega); intro v421 w7 ho0 hb hg hat0; have ho := Kd.R_of_own (h1 := fun _ => rfl) (ok := (fun k_ => (P0_ k_ ∨ w.heap.size ≤ k_))) ho0 (fun k_ hk_ => Or.elim hat0 (fun e_ => HO419.out.1 k_ (e_.symm.trans hk_)) (fun e_ => .inr (Nat.le_trans (by exact HK.out.1) (Nat.le_of_eq (Option.some.inj (e_.symm.trans hk_)))))); clear ho0 hat0; have hat := True.intro; rw [← Ny420.out] at ho; replace HB := Aside0.mk (hb); replace HK := Aside0.mk (Kept.of_grown (S := (fun k_ => P0_ k_)) hg HK.out (fun k_ e_ => (HO419.out.1 k_ e_))); have HO422 := Aside0.mk (ho); clear HO419; clear ho hb hg hat))
  go_ret;exact ⟨_,by rfl,by exact HO422.out,HB.out,HK.out⟩
 ·rw [if_neg c4] at H;exact absurd H (by simp)

-- NOT PRINTED: function 131 (impl_rounds)

-- NOT PRINTED: function 132 (slices_Chunk_byte_byte)

/-! ### slices_Clone_byte_byte: function 96 -/
def slices_Clone_byte_byte.f (l0 : List Int) : Option (List Int) := if l0.length < 140737488355328 then (some l0) else (none)
theorem slices_Clone_byte_byte.calls (A0 : Option Addr) (c0 : Nat) (l0 : List Int) (r : List Int) (w : World) (hr0 : Kd.C (Kd.int .u8) w A0 l0.length l0) (hc0 : l0.length ≤ c0) (h : slices_Clone_byte_byte.f l0 = some r) :
  Calls Try.prog 96 #[.slice A0 l0.length c0] w fun e w' => ∃ v0_ : Value,e = .returned (v0_) ∧ Kd.R (Kd.int .u8) 5 w' w.heap.size (fun _ => True) v0_ r ∧ Below w.heap.size w w' := by
 have HR0 := Aside0.mk hr0;have HC0 := Aside0.mk hc0;have HB := Aside0.mk (Below.refl w.heap.size w);have H : (if l0.length < 140737488355328 then (some l0) else (none)) = some r := h;clear h
 by_cases c2 : l0.length < 140737488355328
 ·rw [if_pos c2] at H;have LM := Aside0.mk c2;clear c2;obtain rfl := Option.some.inj H;clear H
  cases A0 with
  | none =>
   have hl : l0 = [] := by
    cases l0 with
    | nil => rfl
    | cons x t =>
     obtain ⟨_,_,h2⟩ := hr0;obtain ⟨ad,e,_⟩ := h2 (by simp)
     cases e
   clear hr0 hc0;subst hl
   have heq := fun (W : World) (c : Nat) => Lib.run_eql_slice_nil (P := Try.prog) W 40 5 none 0 c 0 0 Try.underlying40
   go_enter Try.func96,Try.ntmps96;go_wp2;go_ret;exact ⟨_,rfl,Kd.R_nil _ _ _ _ _,Below.refl _ _⟩
  | some ad =>
   clear hr0 hc0
   have heq := fun (W : World) (n c : Nat) => Lib.run_eql_slice_nil (P := Try.prog) W 40 5 (some ad) n c 0 0 Try.underlying40
   go_enter Try.func96,Try.ntmps96
   go_wp2_with (first | ((with_reducible refine gate_dst (N := 5) rfl ?_); refine Kd.R_lit (Kd.int .u8) _ 5 ?hg (N := 5) ?hd (xs := ([] : List Int)) (inner := []) (ok := fun _ => True) (okp := fun _ => True) ?hr ?hp (fun _ hk => hk) trivial (Below.refl _ _) (Nat.le_refl _) (by simp) ?_; (case hd => rfl); (case hg => rfl); (case hr => (go_simp; done)); (case hp => exact (Reps.none _ _)); intro v109 w4 ho5 hb hg_ hnew_; clear hg_ hnew_; have HO110 := Aside0.mk (Kd.R_lower ho5 (below_size HB.out)); replace HB := bst HB hb; clear hb ho5) | ((with_reducible refine gate_builtin (b := .append) (xs := #[.tmp 5,.tmp 6]) rfl ?_); at_builtin; refine Kd.R_append_rows (Kd.int .u8) (w0 := w) w.heap.size rfl (.tmp 5) (.tmp 6) 40 5 (.int .u8 0) 1 rfl Try.underlying40 info5 rfl (by decide) (by omega) v109 ([] : List Int) l0 _ _ _ (fun _ => True) (fun _ => False) rfl rfl ?aO ?aR (fun _ _ h => h) (fun _ h => h.elim) ?aF ?aB ?aS ?aL ?_; (case aR => repeat (exact (Kd.C_below HR0.out HB.out))); (case aB => exact HB.out); (case aF => exact (fun _ _ => trivial)); (case aO => exact (by exact HO110.out)); (case aS => exact (below_size HB.out)); (case aL => have := LM.out; simp only [List.length_nil]; omega); intro v112 w6 ho hb hg hat; replace HB := Aside0.mk (hb); have HO113 := Aside0.mk (ho); clear HO110; clear ho hb hg hat))
   go_ret;exact ⟨_,rfl,HO113.out,HB.out⟩
 ·rw [if_neg c2] at H;exact absurd H (by simp)

/-! ### impl_Padded: function 133 -/
mutual
def impl_Padded.l0 : Nat → List Int → List Int → Option (List Int)
 | 0,_,_ => none
 | k + 1,x0,x3 => if (Int.tmod (wrap64 ((x3.length : Int) + 8)) 64) = 0 then (impl_Padded.l1 k x3 (wrap64 (8 * (x0.length : Int))) 7) else (if x3.length < 140737488355328 then (impl_Padded.l0 k x0 (x3 ++ [0])) else (none))
def impl_Padded.l1 : Nat → List Int → Int → Int → Option (List Int)
 | 0,_,_,_ => none
 | k + 1,x3,x4,x5 => if x5 ≥ 0 then (if 0 ≤ (IntKind.u64.wrap (wrap64 (8 * x5))) then (if x3.length < 140737488355328 then (impl_Padded.l1 k (x3 ++ [(shr .i64 x4 (IntKind.u64.wrap (wrap64 (8 * x5)))) % 256]) x4 (wrap64 (x5 - 1))) else (none)) else (none)) else (some x3)
end
def impl_Padded.f (k : Nat) (l0 : List Int) : Option (List Int) := (slices_Clone_byte_byte.f l0).bind fun t423 => (if t423.length < 140737488355328 then (impl_Padded.l0 k l0 (t423 ++ [128])) else (none))
theorem impl_Padded.calls (k : Nat) (A0 : Option Addr) (c0 : Nat) (l0 : List Int) (r : List Int) (w : World) (hr0 : Kd.C (Kd.int .u8) w A0 l0.length l0) (hc0 : l0.length ≤ c0) (h : impl_Padded.f k l0 = some r) :
  Calls Try.prog 133 #[.slice A0 l0.length c0] w fun e w' => ∃ v0_ : Value,e = .returned (v0_) ∧ Kd.R (Kd.int .u8) 5 w' w.heap.size (fun _ => True) v0_ r ∧ Below w.heap.size w w' := by
 have HR0 := Aside0.mk hr0;have HC0 := Aside0.mk hc0;clear hr0 hc0;have HB := Aside0.mk (Below.refl w.heap.size w);have H : ((slices_Clone_byte_byte.f l0).bind fun t423 => (if t423.length < 140737488355328 then (impl_Padded.l0 k l0 (t423 ++ [128])) else (none))) = some r := h;clear h;replace H := Option.bind_eq_some_iff.mp H;obtain ⟨t423,A20,H⟩ := H;replace H : (if t423.length < 140737488355328 then (impl_Padded.l0 k l0 (t423 ++ [128])) else (none)) = some r := H;have A2 := Aside0.mk A20;clear A20
 by_cases c3 : t423.length < 140737488355328
 ·rw [if_pos c3] at H;have LMc3 := Aside0.mk c3;clear c3;obtain ⟨y426,hy426⟩ : ∃ y_ : List Int,y_ = (t423 ++ [128]) := ⟨_,rfl⟩
  replace H : (impl_Padded.l0 k l0 y426) = some r := by (rw [hy426]; with_reducible exact H)
  have Ny426 := Aside0.mk hy426;clear hy426;have H' := Aside0.mk H;clear H;go_enter Try.func133,Try.ntmps133
  go_wp2_with (first | ((with_reducible refine gate_callee (f := 96) rfl ?_); refine goesL_ (some 7) rfl rfl Try.func96 (by kernel_rfl) rfl #[.slice A0 l0.length c0] rfl (by (try simp only [List.map_toArray,List.map_cons,List.map_nil]); rfl) ?_; (with_reducible refine (slices_Clone_byte_byte.calls _ _ l0 t423 _ ?side1 ?side2 A2.out).mono ?_); (case side1 => repeat (exact HR0.out)); (case side2 => exact HC0.out); rintro e w4 ⟨v424,rfl,ho0,hb⟩; refine ⟨_,rfl,?_⟩; have HO425 := Aside0.mk (Kd.R_lower ho0 (below_size HB.out)); replace HB := bst HB hb; (try clear hb); (try clear ho0)) | ((with_reducible refine gate_builtin (b := .append) (xs := #[.tmp 7,.tmp 8]) rfl ?_); at_builtin; refine Kd.R_append (Kd.int .u8) (w0 := w) w.heap.size rfl (.tmp 7) (.tmp 8) 40 5 (.int .u8 0) 1 rfl Try.underlying40 info5 rfl (by decide) (by omega) v424 t423 128 [.int .u8 128] (fun _ => True) (fun _ => False) rfl rfl ?aP (fun _ hk => hk.elim) ?aF ?aO ?aB ?aS ?aL ?_; (case aP => exact rfl); (case aB => exact HB.out); (case aF => exact (fun _ _ => trivial)); (case aO => exact (by exact HO425.out)); (case aS => exact (below_size HB.out)); (case aL => have := LMc3.out; omega); intro v427 w5 ho hb hg hat; rw [← Ny426.out] at ho; replace HB := Aside0.mk (hb); have HO428 := Aside0.mk (ho); clear HO425; clear ho hb hg hat))
  go_loopg [3] k (fun kq v3 w' => ∃ (x3_1 : List Int),Aside0 (impl_Padded.l0 kq l0 x3_1 = some r) ∧ Aside0 (kq ≤ k) ∧ Aside0 (Kd.R (Kd.int .u8) 5 w' w.heap.size (fun _ => True) v3 x3_1) ∧ Aside0 (Below w.heap.size w w'))
  case atStart => exact ⟨(y426),H',⟨Nat.le_refl _⟩,⟨by exact HO428.out⟩,⟨HB.out⟩⟩
  case round =>
   clear H'
   try clear c1
   try clear p2
   try clear c3
   obtain ⟨x3_1,HA,HK1,HO_3,HB⟩ := hrel
   cases gk with
   | zero => exact absurd HA.out (by simp [impl_Padded.l0])
   | succ k1 =>
    have H := HA.out;clear HA;simp only [impl_Padded.l0] at H
    by_cases c6 : (Int.tmod (wrap64 ((x3_1.length : Int) + 8)) 64) = 0
    ·rw [if_pos c6] at H;have c6b0 : ((Int.tmod (wrap64 ((x3_1.length : Int) + 8)) 64) == 0) = true := beq_iff_eq.mpr c6;have c6b1 : ((Int.tmod (wrap64 ((x3_1.length : Int) + 8)) 64) != 0) = false := bne_eq_false_iff_eq.mpr c6;clear c6;have H' := Aside0.mk H;clear H;obtain ⟨Ao7,co7,eo7⟩ := Kd.R_slice HO_3.out;subst eo7;go_wp2
     go_loopg [3,5] k1 (fun kq v3 v5 w' => ∃ (x3_2 : List Int) (x5_2 : Int),v5 = .int .i64 x5_2 ∧ Aside0 (impl_Padded.l1 kq x3_2 (wrap64 (8 * (l0.length : Int))) x5_2 = some r) ∧ Aside0 (kq ≤ k1) ∧ Aside0 (Kd.R (Kd.int .u8) 5 w' w.heap.size (fun _ => True) v3 x3_2) ∧ Aside0 (Below w.heap.size w w'))
     case atStart => exact ⟨(x3_1),(7),(by rfl),H',⟨Nat.le_refl _⟩,⟨by exact HO_3.out⟩,⟨HB.out⟩⟩
     case round =>
      clear H'
      try clear c1
      try clear p2
      try clear c3
      try clear c6
      try clear c6b0
      try clear c6b1
      try clear p6
      try clear p2
      obtain ⟨x3_2,x5_2,rfl,HA,HK2,HO_3,HB⟩ := hrel
      cases gk with
      | zero => exact absurd HA.out (by simp [impl_Padded.l1])
      | succ k2 =>
       have H := HA.out;clear HA;simp only [impl_Padded.l1] at H
       by_cases c8 : x5_2 ≥ 0
       ·rw [if_pos c8] at H;have c8b0 := decide_eq_true c8;clear c8;obtain ⟨ji9,hji9⟩ : ∃ j_ : Int,(IntKind.u64.wrap (wrap64 (8 * x5_2))) = j_ := ⟨_,rfl⟩
        replace H : (if 0 ≤ (ji9) then (if x3_2.length < 140737488355328 then (impl_Padded.l1 k2 (x3_2 ++ [(shr .i64 (wrap64 (8 * (l0.length : Int))) (ji9)) % 256]) (wrap64 (8 * (l0.length : Int))) (wrap64 (x5_2 - 1))) else (none)) else (none)) = some r := by (rw [hji9] at H; exact H)
        by_cases c10 : 0 ≤ (ji9)
        ·rw [if_pos c10] at H;have c10b0 := eq_true c10;have c10b1 := decide_eq_true c10;clear c10;obtain ⟨ji11,hji11⟩ : ∃ j_ : Int,(shr .i64 (wrap64 (8 * (l0.length : Int))) (ji9)) = j_ := ⟨_,rfl⟩
         replace H : (if x3_2.length < 140737488355328 then (impl_Padded.l1 k2 (x3_2 ++ [(ji11) % 256]) (wrap64 (8 * (l0.length : Int))) (wrap64 (x5_2 - 1))) else (none)) = some r := by (rw [hji11] at H; exact H)
         have hji11_ : ((wrap64 (8 * (l0.length : Int))) / 2 ^ min (ji9).toNat 64) = ji11 := hji11;have hji11z : (ji9) ≤ 64 → ((wrap64 (8 * (l0.length : Int))) / 2 ^ (ji9).toNat) = ji11 := shr_small hji11
         by_cases c12 : x3_2.length < 140737488355328
         ·rw [if_pos c12] at H;have LMc12 := Aside0.mk c12;clear c12;obtain ⟨y432,hy432⟩ : ∃ y_ : List Int,y_ = (x3_2 ++ [(ji11) % 256]) := ⟨_,rfl⟩
          replace H : (impl_Padded.l1 k2 y432 (wrap64 (8 * (l0.length : Int))) (wrap64 (x5_2 - 1))) = some r := by (rw [hy432]; with_reducible exact H)
          have Ny432 := Aside0.mk hy432;clear hy432;have H' := Aside0.mk H;clear H
          go_wp2_with (((with_reducible refine gate_builtin (b := .append) (xs := #[.tmp 25,.tmp 32]) rfl ?_); at_builtin; refine Kd.R_append (Kd.int .u8) (w0 := w) w.heap.size rfl (.tmp 25) (.tmp 32) 40 5 (.int .u8 0) 1 rfl Try.underlying40 info5 rfl (by decide) (by omega) u3 x3_2 ((ji11) % 256) [.int .u8 ((ji11) % 256)] (fun _ => True) (fun _ => False) rfl rfl ?aP (fun _ hk => hk.elim) ?aF ?aO ?aB ?aS ?aL ?_; (case aP => exact rfl); (case aB => exact HB.out); (case aF => exact (fun _ _ => trivial)); (case aO => exact (by exact HO_3.out)); (case aS => exact (below_size HB.out)); (case aL => have := LMc12.out; omega); intro v433 w13 ho hb hg hat; rw [← Ny432.out] at ho; replace HB := Aside0.mk (hb); have HO434 := Aside0.mk (ho); clear HO_3; clear ho hb hg hat))
          go_roundg k2
          case measure => have := HK1.out; have := HK2.out; omega
          case rel => exact ⟨(y432),(wrap64 (x5_2 - 1)),(by rfl),H',⟨by have := HK1.out; have := HK2.out; omega⟩,⟨by exact HO434.out⟩,⟨HB.out⟩⟩
         ·rw [if_neg c12] at H;exact absurd H (by simp)
        ·rw [if_neg c10] at H;exact absurd H (by simp)
       ·rw [if_neg c8] at H;have c8b0 := decide_eq_false c8;clear c8;obtain rfl := Option.some.inj H;go_wp2;go_ret;exact ⟨_,by rfl,by exact HO_3.out,HB.out⟩
    ·rw [if_neg c6] at H;have c6b0 : ((Int.tmod (wrap64 ((x3_1.length : Int) + 8)) 64) == 0) = false := beq_eq_false_iff_ne.mpr c6;have c6b1 : ((Int.tmod (wrap64 ((x3_1.length : Int) + 8)) 64) != 0) = true := bne_iff_ne.mpr c6
     by_cases c14 : x3_1.length < 140737488355328
     ·rw [if_pos c14] at H;have LMc14 := Aside0.mk c14;clear c14;obtain ⟨y429,hy429⟩ : ∃ y_ : List Int,y_ = (x3_1 ++ [0]) := ⟨_,rfl⟩
      replace H : (impl_Padded.l0 k1 l0 y429) = some r := by (rw [hy429]; with_reducible exact H)
      have Ny429 := Aside0.mk hy429;clear hy429;have H' := Aside0.mk H;clear H;obtain ⟨Ao15,co15,eo15⟩ := Kd.R_slice HO_3.out;subst eo15
      go_wp2_with (((with_reducible refine gate_builtin (b := .append) (xs := #[.tmp 15,.tmp 16]) rfl ?_); at_builtin; refine Kd.R_append (Kd.int .u8) (w0 := w) w.heap.size rfl (.tmp 15) (.tmp 16) 40 5 (.int .u8 0) 1 rfl Try.underlying40 info5 rfl (by decide) (by omega) (.slice Ao15 x3_1.length co15) x3_1 0 [.int .u8 0] (fun _ => True) (fun _ => False) rfl rfl ?aP (fun _ hk => hk.elim) ?aF ?aO ?aB ?aS ?aL ?_; (case aP => exact rfl); (case aB => exact HB.out); (case aF => exact (fun _ _ => trivial)); (case aO => exact (by exact HO_3.out)); (case aS => exact (below_size HB.out)); (case aL => have := LMc14.out; omega); intro v430 w16 ho hb hg hat; rw [← Ny429.out] at ho; replace HB := Aside0.mk (hb); have HO431 := Aside0.mk (ho); clear HO_3; clear ho hb hg hat))
      go_roundg k1
      case measure => have := HK1.out; omega
      case rel => exact ⟨(y429),H',⟨by have := HK1.out; omega⟩,⟨by exact HO431.out⟩,⟨HB.out⟩⟩
     ·rw [if_neg c14] at H;exact absurd H (by simp)
 ·rw [if_neg c3] at H;exact absurd H (by simp)

/-! ### bits_RotateLeft32: function 146 -/
-- NOT PRINTED: function 145 (impl_wordsOf)

-- NOT PRINTED: function 134 (impl_turnBlock)

/-! ### impl_Digest: function 110 -/
def impl_Digest.f (k : Nat) (l0 : List Int) : Option (ByteArray) := (impl_Padded.f k l0).bind fun p => if 0 < p.length / 64 ∧ p.length = 64 * (p.length / 64) then some (Sha.digL p (p.length / 64)) else none
theorem impl_Digest.calls (k : Nat) (A0 : Option Addr) (c0 : Nat) (l0 : List Int) (r : ByteArray) (w : World) (hr0 : Kd.C (Kd.int .u8) w A0 l0.length l0) (hc0 : l0.length ≤ c0) (h : impl_Digest.f k l0 = some r) :
  Calls Try.prog 110 #[.slice A0 l0.length c0] w fun e w' => e = .returned (.string r) ∧ Below w.heap.size w w' := by
 unfold impl_Digest.f at h
 cases hp : impl_Padded.f k l0 with
 | none => rw [hp] at h; cases h
 | some p =>
  rw [hp] at h;simp only [Option.bind_some] at h
  split at h
  ·rename_i hc
   obtain rfl := Option.some.inj h;exact Sha.digest_in A0 l0.length c0 p (p.length / 64) w hc.2 hc.1 (fun W hW => impl_Padded.calls k A0 c0 l0 p W (Kd.C_below hr0 hW) hc0 hp)
  ·cases h

end Go.Proofs.Ytcbpfofkdipjhaa.PV
