/- What the reference's digest computes, said plainly. No condition but sizes. -/
import Derived.Test.YtcbpfofkdipjhaaSRPIx0
import Derived.Test.YtcbpfofkdipjhaaSRPIx3
import Derived.Test.YtcbpfofkdipjhaaSRShaP
import Derived.Test.YtcbpfofkdipjhaaSRLibFnStateRoots
namespace Go.Proofs.Ytcbpfofkdipjhaa.PI
open Go.RowKit Go.Proofs.YtcbpfofkdipjhaaW.PrintWords Go.Proofs.YtcbpfofkdipjhaaW.PrintLast Go.Proofs.YtcbpfofkdipjhaaW.PrintMore Go.Proofs.Ytcbpfofkdipjhaa.Base Go.Proofs.Ytcbpfofkdipjhaa.Sha
set_option linter.unusedVariables false
set_option linter.unusedSimpArgs false
theorem iPad_l1 (m : Int) : ∀ (j : Nat) (x : List Int), j ≤ 8 → x.length + j < 140737488355328 → Ev (fun k => impl_Padded.l1 k x m ((j : Int) - 1)) (x ++ tailB m j) := by
  intro j
  induction j with
  | zero =>
    intro x hj hl
    refine evOne fun k => ?_
    simp only [impl_Padded.l1]
    rw [if_neg (by omega), tailB, List.append_nil]
  | succ j ih =>
    intro x hj hl
    have h1 := ih (x ++ [(shr .i64 m (8 * (j : Int))) % 256]) (by omega) (by simp; omega)
    have e2 : (((j + 1 : Nat) : Int) - 1) = (j : Int) := by omega
    rw [List.append_assoc] at h1
    refine Ev.step (fun k => ?_) h1
    simp only [impl_Padded.l1]
    rw [e2, if_pos (by omega), w64 (x := 8 * (j : Int)) (by omega) (by omega), u64_id _ (by omega) (by omega), if_pos (by omega), if_pos (by omega), w64 (by omega) (by omega)]
theorem iPad_l0 (b : List Int) (hb : b.length ≤ 281474976) : ∀ (d : Nat) (x : List Int), d < 64 → (x.length + d) % 64 = 56 → x.length + d ≤ 281474977 + 64 → Ev (fun k => impl_Padded.l0 k b x) (x ++ List.replicate d 0 ++ tailB (wrap64 ((b.length : Int) * 8)) 8) := by
  intro d
  induction d with
  | zero =>
    intro x hd hm hl
    have h1 := iPad_l1 (wrap64 ((b.length : Int) * 8)) 8 x (by omega) (by omega)
    have ht : Int.tmod (wrap64 ((x.length : Int) + 8)) 64 = 0 := by
      rw [w64 (by omega) (by omega), Int.tmod_eq_emod_of_nonneg (by omega)]
      omega
    rw [List.replicate_zero, List.append_nil]
    refine Ev.step (fun k => ?_) h1
    simp only [impl_Padded.l0]
    rw [if_pos ht, Int.mul_comm 8]
    rfl
  | succ d ih =>
    intro x hd hm hl
    have ht : ¬ Int.tmod (wrap64 ((x.length : Int) + 8)) 64 = 0 := by
      rw [w64 (by omega) (by omega), Int.tmod_eq_emod_of_nonneg (by omega)]
      omega
    have h1 := ih (x ++ [0]) (by omega) (by simp; omega) (by simp; omega)
    rw [List.append_assoc x, List.singleton_append, ← List.replicate_succ] at h1
    refine Ev.step (fun k => ?_) h1
    simp only [impl_Padded.l0]
    rw [if_neg ht, if_pos (by omega)]
theorem iPadded_ev (b : List Int) (hb : b.length ≤ 281474976) : Ev (fun k => impl_Padded.f k b) (padL b) := by
  have hc : slices_Clone_byte_byte.f b = some b := by
    unfold slices_Clone_byte_byte.f
    rw [if_pos (by omega)]
  simp only [impl_Padded.f]
  exact evBindC hc (evPos (by omega) (iPad_l0 b hb ((119 - b.length % 64) % 64) (b ++ [128]) (by omega) (by simp; omega) (by simp; omega)))
theorem iDigest_ev (b : List Int) (hb : b.length ≤ 281474976) : Ev (fun k => impl_Digest.f k b) (dig b) := by
  have hl := padL_len b
  simp only [impl_Digest.f]
  exact Ev.bind (iPadded_ev b hb) (evPos ⟨hl.2.1, hl.1⟩ (Ev.now _))
theorem iLeaf_ev (a : ByteArray) (h : a.size ≤ 281474900) : Ev (fun k => impl_LeafDigest.f k a) (leafD a) := by
  have hl := bytes_length a
  simp only [impl_LeafDigest.f, Option.bind_some]
  exact evPos (by simp; omega) (Ev.bind (iDigest_ev _ (by simp; omega)) (Ev.now _))
theorem iNode_ev (a b : ByteArray) (h : a.size + b.size ≤ 281474900) : Ev (fun k => impl_NodeDigest.f k a b) (nodeD a b) := by
  have hl := bytes_length a
  have hl2 := bytes_length b
  simp only [impl_NodeDigest.f, Option.bind_some]
  exact evPos (by simp; omega) (evPos (by simp; omega) (Ev.bind (iDigest_ev _ (by simp; omega)) (Ev.now _)))
end Go.Proofs.Ytcbpfofkdipjhaa.PI
