/- A strings.Builder that the call itself has made: what copyCheck, WriteByte and String do. The new length takes at most 2^47 bytes. -/
import Derived.Shelf.Strings.Builder1
import Derived.Test.YtcbpfofkdipjhaaProg
import Derived.Test.YtcbpfofkdipjhaaWWords
import Derived.WalkKit
import Derived.OwnWalk
import Derived.Maps.AppendAt
import Derived.KernelRfl
import Derived.RowKit
namespace Go.Proofs.Ytcbpfofkdipjhaa.Build
open Go.Shelf Go.RowKit Go.Proofs.YtcbpfofkdipjhaaW.PrintWords
set_option linter.unusedVariables false
def ren : Go.Shelf.Ren := ⟨fun | 169 => 77 | n => n, fun | 70 => 100 | 9 => 9 | 0 => 0 | 72 => 102 | 37 => 40 | 127 => 138 | 3 => 3 | 5 => 5 | n => n, fun | n => n⟩
theorem lays : Go.Proofs.Lays.n169 Try.prog ren := {
  mixed := by kernel_rfl
  f169 := Try.func77.trans (congrArg some (by kernel_rfl))
  t0 := Try.underlying0
  a0 := Try.isAgg0
  z0 := Try.sizeOf0
  v0 := Try.zeroValue0
  t3 := Try.underlying3
  a3 := Try.isAgg3
  z3 := Try.sizeOf3
  v3 := Try.zeroValue3
  t9 := Try.underlying9
  a9 := Try.isAgg9
  z9 := Try.sizeOf9
  v9 := Try.zeroValue9
  t37 := Try.underlying40
  a37 := Try.isAgg40
  z37 := Try.sizeOf40
  v37 := Try.zeroValue40
  t70 := Try.underlying100
  a70 := Try.isAgg100
  z70 := Try.sizeOf100
  v70 := Try.zeroValue100
  t72 := Try.underlying102
  a72 := Try.isAgg102
  z72 := Try.sizeOf102
  v72 := Try.zeroValue102
  t127 := Try.underlying138
  a127 := Try.isAgg138
  z127 := Try.sizeOf138
  v127 := Try.zeroValue138 }
theorem extra : Builder.Extra Try.prog ren := {
  sizeBuilder := by kernel_rfl
  liesBuilder := by kernel_rfl
  t5 := Try.underlying5
  a5 := Try.isAgg5
  z5 := Try.sizeOf5
  v5 := Try.zeroValue5
  infoByte := by kernel_rfl
  cellsByte := by kernel_rfl
  sizeByte := by kernel_rfl
  neB5 := by decide }
theorem sizeB : (Try.prog.info? 102).map (·.size) = some 2 := by kernel_rfl
theorem liesB : liesAt Try.prog Try.prog.depth 102 (2 / Try.prog.cellsOf 102) 0 102 1 = true := by kernel_rfl
theorem infoB : (Try.prog.info? 5).map (fun i => (i.zero, i.size, i.bytes)) = some (some (.int .u8 0), 1, 1) := by kernel_rfl
/-- b: the builder's block; n1: its buffer lies from block n1 on; p: its first cell; bs: its bytes. -/
def BAt (n1 b : Nat) (p : Value) (bs : List Value) (w : World) : Prop := b < n1 ∧ n1 ≤ w.heap.size ∧ ∃ v, w.heap[b]? = some (.cells #[p, v] 102 (0, 0)) ∧ w.ownsRow n1 5 1 v bs.length bs
def Fr (n1 b : Nat) (w w' : World) : Prop := Below b w w' ∧ ∀ i, i < n1 → i ≠ b → w'.heap[i]? = w.heap[i]?
theorem Fr.refl (n1 b : Nat) (w : World) : Fr n1 b w w := ⟨Below.refl _ _, fun _ _ _ => rfl⟩
theorem Fr.trans {n1 b : Nat} {w w' w'' : World} (h : Fr n1 b w w') (k : Fr n1 b w' w'') : Fr n1 b w w'' := ⟨h.1.trans k.1, fun i hi hb => (k.2 i hi hb).trans (h.2 i hi hb)⟩
theorem keep_own {w w1 : World} {base : Nat} {e : TypeId} {n : Nat} {v : Value} {xs : List Value} (h : w.ownsRow base e 1 v n xs) (hm : ∀ k, base ≤ k → k < w.heap.size → w1.heap[k]? = w.heap[k]?) : w1.ownsRow base e 1 v n xs :=
  own_move h (fun k hk => hm k (own_base h k hk) (own_lt h k hk))
set_option maxHeartbeats 1000000 in
set_option maxRecDepth 100000 in
theorem copyCheck_used (b : Nat) (w : World) (h0 : w.cell? ⟨b, 0, none⟩ = some (.pointer (some ⟨b, 0, none⟩))) :
    Calls Try.prog 115 #[.pointer (some ⟨b, 0, none⟩)] w fun e w' => e = .returned (.tuple #[]) ∧ w' = w := by
  obtain ⟨j, hj, _⟩ := Option.map_eq_some_iff.1 sizeB
  go_enter Try.func115, Try.ntmps115
  go_wp2
  rw [Lib.run_neq_ptr_same w _ Try.underlying100 hj]
  go_wp2
  go_end0
  exact ⟨rfl, rfl⟩
set_option maxHeartbeats 1000000 in
set_option maxRecDepth 100000 in
theorem copyCheck_fresh (b : Nat) (w : World) (h0 : w.cell? ⟨b, 0, none⟩ = some (.pointer none)) (hsh : w.shape? b = some (102, 2)) (hfz : w.frozen? ⟨b, 0, none⟩ = false) :
    Calls Try.prog 115 #[.pointer (some ⟨b, 0, none⟩)] w fun e w' => e = .returned (.tuple #[]) ∧ w' = w.setCell ⟨b, 0, none⟩ (.pointer (some ⟨b, 0, none⟩)) := by
  obtain ⟨j, hj, hjs⟩ := Option.map_eq_some_iff.1 sizeB
  go_enter Try.func115, Try.ntmps115
  go_wp2
  rw [Lib.run_to_unsafe w ⟨b, 0, none⟩ Try.underlying100 Try.underlying158 hj (by rw [hjs]; decide) hsh (Nat.zero_lt_succ 1)]
  simp only [Result.andThen]
  rw [Oper.upon_value]
  go_wp2
  rw [run_callFunc_extern Try.func135 (by kernel_rfl) (by kernel_rfl) (by kernel_rfl) (e := Extern.AbiNoEscape.same) (by kernel_rfl)]
  rw [Lib.run_noEscape]
  simp only [Result.andThen]
  rw [Oper.upon_value]
  go_wp2
  rw [Lib.run_from_unsafe w ⟨b, 0, none⟩ Try.underlying158 Try.underlying100 hj hsh liesB]
  simp only [Result.andThen]
  rw [Oper.upon_value]
  go_wp2
  go_end0
  exact ⟨rfl, rfl⟩
theorem copyCheck (n1 b : Nat) (p : Value) (hp : p = .pointer none ∨ p = .pointer (some ⟨b, 0, none⟩)) (bs : List Value) (w : World) (h : BAt n1 b p bs w) :
    Calls Try.prog 115 #[.pointer (some ⟨b, 0, none⟩)] w fun e w' => e = .returned (.tuple #[]) ∧ (BAt n1 b (.pointer (some ⟨b, 0, none⟩)) bs w' ∧ Fr n1 b w w') := by
  obtain ⟨hb, hn, v, hbk, hown⟩ := h
  rcases hp with rfl | rfl
  · refine (copyCheck_fresh b w (by rw [Lib.cell_of_heap hbk]; rfl) (by simp [World.shape?, hbk]) (Lib.frozen_of_heap hbk 0)).mono ?_
    rintro e w' ⟨rfl, rfl⟩
    have hset : ∀ i, i ≠ b → (w.setCell ⟨b, 0, none⟩ (.pointer (some ⟨b, 0, none⟩))).heap[i]? = w.heap[i]? := fun i hi => Below.heap_setCell w ⟨b, 0, none⟩ _ i hi
    refine ⟨rfl, ⟨hb, by simpa [World.setCell] using hn, v, by simp [World.setCell, Array.getElem?_modify, hbk], keep_own hown (fun k hk _ => hset k (by omega))⟩, (Below.refl b w).setCell (p := ⟨b, 0, none⟩) (Nat.le_refl _) _, fun i _ hi => hset i hi⟩
  · refine (copyCheck_used b w (by rw [Lib.cell_of_heap hbk]; rfl)).mono ?_
    rintro e w' ⟨rfl, rfl⟩
    exact ⟨rfl, ⟨hb, hn, v, hbk, hown⟩, Fr.refl _ _ _⟩
set_option maxHeartbeats 2000000 in
set_option maxRecDepth 100000 in
theorem writeByte (n1 b : Nat) (p : Value) (hp : p = .pointer none ∨ p = .pointer (some ⟨b, 0, none⟩)) (bs : List Value) (c : Int) (w : World) (h : BAt n1 b p bs w) (hlen : bs.length + 1 ≤ 140737488355328) :
    Calls Try.prog 76 #[.pointer (some ⟨b, 0, none⟩), .int .u8 c] w fun e w' => e = .returned .nilIface ∧ (BAt n1 b (.pointer (some ⟨b, 0, none⟩)) (bs ++ [.int .u8 c]) w' ∧ Fr n1 b w w') := by
  obtain ⟨i0, hi, hz0, hz1, hz2⟩ := info_parts infoB
  go_enter Try.func76, Try.ntmps76
  go_wp2_with (go_at_call 115; refine (copyCheck n1 b p hp bs _ h).mono ?_)
  rintro e w1 ⟨rfl, h1, hf1⟩
  obtain ⟨hB, hn1, v, hbk, hown⟩ := h1
  have c0 : w1.cell? ⟨b, 0, none⟩ = some (.pointer (some ⟨b, 0, none⟩)) := by rw [Lib.cell_of_heap hbk]; rfl
  have c1 : w1.cell? ⟨b, 1, none⟩ = some v := by rw [Lib.cell_of_heap hbk]; rfl
  go_wp2_with (at_builtin; refine wpList_append_own _ rfl _ _ 40 rfl n1 5 i0 (.int .u8 0) 1 1 Try.underlying40 hi hz0 hz1 hz2 rfl (by decide) _ _ _ rfl (hown.alloc _) ⟨w1.heap.size, 0, none⟩ 1 1 [.int .u8 c] rfl rfl ?c1 ?c2 ?c3 ?c4 ?c5 ?_)
  case c1 =>
    intro j u hj
    match j, hj with
    | 0, hj => simp at hj; subst hj; simp [Addr.add]
  case c2 => intro u hu; simp at hu; subst hu; rfl
  case c3 => unfold maxLen; omega
  case c4 => omega
  case c5 => simp; omega
  intro v' w2 hown' hgrow _
  have hlt : b < w1.heap.size := by omega
  have hob : ∀ k, v.ownBlock = some k → n1 ≤ k := fun k hk => own_base hown k hk
  have hb2 : w2.heap[b]? = some (.cells #[.pointer (some ⟨b, 0, none⟩), v] 102 (0, 0)) := by
    rw [hgrow.block b (by simp; omega) (fun e => by have := hob b e.symm; omega), Lib.alloc_old w1 _ b hlt]
    exact hbk
  have d0 : w2.cell? ⟨b, 0, none⟩ = some (.pointer (some ⟨b, 0, none⟩)) := by rw [Lib.cell_of_heap hb2]; rfl
  have d1 : w2.cell? ⟨b, 1, none⟩ = some v := by rw [Lib.cell_of_heap hb2]; rfl
  have f1 : w2.frozen? ⟨b, 1, none⟩ = false := Lib.frozen_of_heap hb2 1
  have hz2' : w1.heap.size + 1 ≤ w2.heap.size := by have := hgrow.size; simpa using this
  obtain ⟨g, cap, rfl⟩ : ∃ g cap, v' = .slice (some ⟨g, 0, none⟩) (bs.length + 1) cap := by
    rcases hown'.2 with ⟨_, h0⟩ | ⟨g, cap, cur, hv, _⟩
    · omega
    · exact ⟨g, cap, hv⟩
  go_wp2
  go_ret
  have hset : ∀ i, i ≠ b → (w2.setCell ⟨b, 1, none⟩ (.slice (some ⟨g, 0, none⟩) (bs.length + 1) cap)).heap[i]? = w2.heap[i]? := fun i hi => Below.heap_setCell w2 ⟨b, 1, none⟩ _ i hi
  refine ⟨rfl, ⟨hB, ?_, .slice (some ⟨g, 0, none⟩) (bs.length + 1) cap, ?_, ?_⟩, hf1.trans ⟨?_, ?_⟩⟩
  · simp [World.setCell]; omega
  · exact (by simp [World.setCell, Array.getElem?_modify, hb2] : (w2.setCell ⟨b, 1, none⟩ (.slice (some ⟨g, 0, none⟩) (bs.length + 1) cap)).heap[b]? = some (.cells #[.pointer (some ⟨b, 0, none⟩), .slice (some ⟨g, 0, none⟩) (bs.length + 1) cap] 102 (0, 0)))
  · rw [show (bs ++ [Value.int .u8 c]).length = bs.length + 1 by simp]
    exact keep_own hown' (fun k hk _ => hset k (by omega))
  · exact (((Below.refl b w1).alloc (by omega) _).grown hgrow (by simp; omega) (fun k hk => by have := hob k hk; omega)).setCell (p := ⟨b, 1, none⟩) (Nat.le_refl _) _
  · intro i hi hne
    rw [hset i hne, hgrow.block i (by simp; omega) (fun e => by have := hob i e.symm; omega), Lib.alloc_old w1 _ i (by omega)]
theorem string_any (n1 b : Nat) (p : Value) (hp : p = .pointer none ∨ p = .pointer (some ⟨b, 0, none⟩)) (l : List UInt8) (w : World) (h : BAt n1 b p (Lib.byteCells l) w) :
    Calls Try.prog 77 #[.pointer (some ⟨b, 0, none⟩)] w fun e w' => e = .returned (.string ⟨l.toArray⟩) ∧ Below b w w' := by
  obtain ⟨hb, hn, v, hbk, hown⟩ := h
  have hat : Lib.BuilderAt 102 5 b b p (Lib.byteCells l) w := ⟨Nat.le_refl _, v, hbk, own_weaken hown (by omega), fun e => by have := own_base hown b e; omega⟩
  have hI : Lib.IsBuilder 102 5 b b (Lib.byteCells l) w := by
    rcases hp with rfl | rfl
    · exact .inl hat
    · exact .inr hat
  exact Any.Builder_String_any lays extra b b l w hI (by omega)
end Go.Proofs.Ytcbpfofkdipjhaa.Build
