/- SHA-256: the blocks of a padded text, one behind the other (slices.Chunk), as the machine hands them out. -/
import Derived.Test.YtcbpfofkdipjhaaSRShaC
import Derived.RangeFuncNested
import Derived.RangeFuncBound
import Derived.RangeFuncCalls
import Derived.RangeFuncLeaves
import Derived.RangeFuncFrom
import Derived.Shelf.Abstract
import Derived.Shelf.RegionOpen
import Derived.WalkKit
import Derived.OwnWalkIn
import Derived.TacticsInMore
import Derived.LoopNIn
import Derived.LoopIn
namespace Go.Proofs.Ytcbpfofkdipjhaa.Sha
open Go.RowKit Go.Shelf Go.Proofs.YtcbpfofkdipjhaaW.PrintWords Go.Proofs.YtcbpfofkdipjhaaW.PrintLast Go.Proofs.YtcbpfofkdipjhaaW.PrintMore
set_option linter.unusedVariables false
set_option linter.unusedSimpArgs false
attribute [local go_sem] Oper.semAt_some
attribute [local go_sem] max2_int min2_int max_two min_two
set_option maxHeartbeats 8000000 in
set_option maxRecDepth 100000 in
theorem chunk_calls (A : Option Addr) (n c : Nat) (w : World) : Calls Try.prog 132 #[.slice A n c, .int .i64 64] w fun e w' => e = .returned (.func (.func 144) #[] #[.pointer (some ⟨w.heap.size, 0, none⟩), .pointer (some ⟨w.heap.size + 1, 0, none⟩)]) ∧
    w' = (w.alloc (.cells #[.slice A n c] 40)).alloc (.cells #[.int .i64 64] 3) := by
  go_enter Try.func132, Try.ntmps132
  go_wp2
  go_ret
  exact ⟨rfl, rfl⟩
/-- What a round keeps: the two boxes of the iterator. -/
def Kp2 (Bs Bn : Nat) (W W' : World) : Prop := W'.heap[Bs]? = W.heap[Bs]? ∧ W'.heap[Bn]? = W.heap[Bn]?
theorem Kp2.trans {Bs Bn : Nat} {A B C : World} (h : Kp2 Bs Bn A B) (k : Kp2 Bs Bn B C) : Kp2 Bs Bn A C := ⟨k.1.trans h.1, k.2.trans h.2⟩
def blk (g : Nat) (k : Nat) : Array Value := #[.slice (some ⟨g, 64 * k, none⟩) 64 64]
set_option maxHeartbeats 8000000 in
set_option maxRecDepth 100000 in
theorem chunk1_in (n : Nat) (hn : 1 ≤ n) (l Bs Bn g m cap : Nat) (hcap : 64 * m ≤ cap) (hbig : cap ≤ 9223372036854775807) (J Jx : List (Fin m) → World → Prop)
    (hY : ∀ pre x W, J pre W → pre.length < m → YieldAt Fence.wide (n - 1) Try.prog l (blk g x.val) W fun e W' =>
      (e = .returned (.bool true) ∧ J (pre ++ [x]) W' ∧ Kp2 Bs Bn W W') ∨ (e = .returned (.bool false) ∧ Jx (pre ++ [x]) W'))
    (hJd : ∀ s W n, J s W → J s (W.drewN n))
    (W : World) (hBs : W.cell? ⟨Bs, 0, none⟩ = some (.slice (some ⟨g, 0, none⟩) (64 * m) cap)) (hBn : W.cell? ⟨Bn, 0, none⟩ = some (.int .i64 64)) (h0 : J [] W) :
    CallsIn Fence.wide n Try.prog 144 #[.func (.yield l) #[] #[], .pointer (some ⟨Bs, 0, none⟩), .pointer (some ⟨Bn, 0, none⟩)] W fun e W' => (∃ v, e = .returned v) ∧
      ((∃ ys : List (Fin m), ys.map Fin.val = List.range m ∧ J ys W') ∨ (∃ pre : List (Fin m), (∃ k, k ≤ m ∧ pre.map Fin.val = List.range k) ∧ Jx pre W')) := by
  refine callsIn_of_wp Try.func144 rfl trivial ?_ rfl
  simp only [Try.ntmps144, List.size_toArray, List.length_cons, List.length_nil, Nat.reduceAdd, Nat.reduceSub, Array.replicate_succ, Array.replicate_zero, List.push_toArray, List.append_toArray, List.nil_append, List.cons_append]
  obtain ⟨L, hL⟩ : ∃ L, L = 64 * m := ⟨_, rfl⟩
  rw [← hL] at hBs
  have HL := Lib.hid hL
  clear hL
  gi_wp2
  gi_loopw [4] (fun i wr => ∃ (k : Nat) (pre : List (Fin m)), k ≤ m ∧ i = .int .i64 ((64 * k : Nat) : Int) ∧ pre.map Fin.val = List.range k ∧ J pre wr ∧ Kp2 Bs Bn W wr) (fun i _ => L - (intOf i).toNat)
  case atStart => exact ⟨0, [], Nat.zero_le _, rfl, rfl, h0, rfl, rfl⟩
  case round =>
    obtain ⟨k, pre, hk, rfl, hpre, hJs, hKp⟩ := hrel
    have hplen : pre.length = k := by rw [← List.length_map (f := Fin.val), hpre, List.length_range]
    have HPL := Lib.hid hplen
    have HPR := Lib.hid hpre
    clear hplen hpre
    have hB1 : wr.cell? ⟨Bs, 0, none⟩ = some (.slice (some ⟨g, 0, none⟩) L cap) := (World.cell?_of_block hKp.1).trans hBs
    have hB2 : wr.cell? ⟨Bn, 0, none⟩ = some (.int .i64 64) := (World.cell?_of_block hKp.2).trans hBn
    by_cases hlt : k < m
    · obtain ⟨j, hj⟩ : ∃ j, j = 64 * k := ⟨_, rfl⟩
      have hjL : j + 64 ≤ L := by rw [HL.out, hj]; omega
      have hLc : L ≤ cap := by rw [HL.out]; exact hcap
      rw [← hj]
      have HJ := Lib.hid hj
      have HKP := Lib.hid hKp
      have HLT := Lib.hid hlt
      clear hj hKp hcap hBs hBn hlt hk
      gi_wp2
      have g0 : (0 : Int) ≤ (j : Int) := by omega
      have g1 : (j : Int) ≤ (L : Int) := by omega
      have g2 : (j : Int) ≤ (cap : Int) := by omega
      refine wpIn_wide.2 ?_
      go_quiet (fail)
      have hK3 : Kp2 Bs Bn W (wr.drewN nq) := HKP.out
      obtain ⟨fn, tmps, assign, body, hy, hR⟩ := hY _ (⟨k, HLT.out⟩ : Fin m) (wr.drewN nq) (hJd _ _ nq hJs) (by rw [HPL.out]; exact HLT.out)
      dsimp only [blk] at hy
      rw [← HJ.out] at hy
      replace hB1 : (wr.drewN nq).cell? _ = _ := hB1
      replace hB2 : (wr.drewN nq).cell? _ = _ := hB2
      clear hY hJs HKP
      generalize wr.drewN nq = w2 at hK3 hy hR hB1 hB2 ⊢
      have HK3 := Lib.hid hK3
      clear hK3
      have e1 : IntKind.i64.wrap ((j : Int) + 64) = ((j + 64 : Nat) : Int) := by rw [IntKind.wrap_i64]; omega
      gi_wp2
      refine hR.mono ?_
      rintro e W3 (⟨rfl, hJ3, hk3⟩ | ⟨rfl, hJx3⟩)
      · have hB4 : W3.cell? ⟨Bn, 0, none⟩ = some (.int .i64 64) := (World.cell?_of_block hk3.2).trans hB2
        gi_wp2
        go_roundw
        case rel =>
          refine ⟨k + 1, _, HLT.out, ?_, ?_, hJ3, HK3.out.trans hk3⟩
          · rw [HJ.out]
            exact congrArg (Value.int .i64) (by omega)
          · rw [List.map_append, HPR.out, List.range_succ]
            rfl
        case measure =>
          clear hR hB1 hB2 hB4 hJ3 hk3 e1
          simp only [intOf]
          omega
      · gi_wp2
        refine bodyPost_ret (results_none rfl _ _ _) rfl ?_
        exact ⟨⟨_, rfl⟩, .inr ⟨_, ⟨k + 1, HLT.out, by rw [List.map_append, HPR.out, List.range_succ]; rfl⟩, hJx3⟩⟩
    · have hke : k = m := by omega
      obtain ⟨j, hj⟩ : ∃ j, j = 64 * k := ⟨_, rfl⟩
      have hjL : j = L := by rw [HL.out, hj, hke]
      subst hke
      rw [← hj, hjL]
      have n1 : ((L : Int) < (L : Int)) = False := eq_false (by omega)
      clear hj hjL hlt hcap
      gi_wp2
      go_end0
      exact ⟨⟨_, rfl⟩, .inl ⟨_, HPR.out, hJs⟩⟩
theorem chunk_stops (n : Nat) (hn : 1 ≤ n) (Bs Bn g m cap : Nat) (hcap : 64 * m ≤ cap) (hbig : cap ≤ 9223372036854775807) (w : World) (hs : Bs < w.heap.size) (hb : Bn < w.heap.size) (hBs : w.cell? ⟨Bs, 0, none⟩ = some (.slice (some ⟨g, 0, none⟩) (64 * m) cap)) (hBn : w.cell? ⟨Bn, 0, none⟩ = some (.int .i64 64)) :
    SeqStopsK Fence.wide n Try.prog 144 #[.pointer (some ⟨Bs, 0, none⟩), .pointer (some ⟨Bn, 0, none⟩)] (fun x : Fin m => #[Value.slice (some ⟨g, 64 * x.val, none⟩) 64 64]) (Kp2 Bs Bn) (fun ys => ys.map Fin.val = List.range m) (fun pre => ∃ k, k ≤ m ∧ pre.map Fin.val = List.range k) m w := fun l J Jx W hW hJ _ hY h0 =>
  chunk1_in n hn l Bs Bn g m cap hcap hbig J Jx hY (fun s W1 k h => hJ s W1 _ none h ⟨rfl, rfl, rfl, Nat.le_refl _, fun _ _ _ => rfl⟩ (fun r e => by cases e)) W
    ((hW.cell (p := ⟨Bs, 0, none⟩) hs).trans hBs) ((hW.cell (p := ⟨Bn, 0, none⟩) hb).trans hBn) h0
end Go.Proofs.Ytcbpfofkdipjhaa.Sha
