/- The texts of accounts, and the root of a ledger, said plainly. No condition but sizes. -/
import Derived.Test.YtcbpfofkdipjhaaSRPIx0
import Derived.Test.YtcbpfofkdipjhaaSRPIx3
import Derived.Test.YtcbpfofkdipjhaaSRPIx5
import Derived.Test.YtcbpfofkdipjhaaSRPIx11
import Derived.Test.YtcbpfofkdipjhaaSRLibTFnStateRoots
import Derived.Test.YtcbpfofkdipjhaaSRLibAFnStateRoots
import Derived.Test.YtcbpfofkdipjhaaSRLibPFnStateRoots
namespace Go.Proofs.Ytcbpfofkdipjhaa.PI
open Go.RowKit Go.Proofs.YtcbpfofkdipjhaaW.PrintWords Go.Proofs.YtcbpfofkdipjhaaW.PrintLast Go.Proofs.YtcbpfofkdipjhaaW.PrintMore Go.Proofs.Ytcbpfofkdipjhaa.Base Go.Proofs.Ytcbpfofkdipjhaa.Sha
set_option linter.unusedVariables false
set_option linter.unusedSimpArgs false
def leavesB (l : List S65) : List Int := l.flatMap fun x => putN x.f0 ++ putN x.f1
def txtB (s : S63) : List Int := putT s.f0 ++ putN s.f1 ++ putN s.f2 ++ putN s.f3 ++ putN (s.f4.length : Int) ++ leavesB s.f4
def txt (s : S63) : ByteArray := strOfNums (txtB s)
theorem leavesB_len (l : List S65) : (leavesB l).length ≤ 12 * l.length := by
  induction l with
  | nil => simp [leavesB]
  | cons x l ih =>
    have h0 := putN_length x.f0
    have h1 := putN_length x.f1
    have e : leavesB (x :: l) = putN x.f0 ++ putN x.f1 ++ leavesB l := rfl
    rw [e, List.length_append, List.length_append, List.length_cons]
    omega
theorem txt_size (s : S63) : (txt s).size ≤ s.f0.size + 30 + 12 * s.f4.length := by
  have h0 := putT_length s.f0
  have h1 := putN_length s.f1
  have h2 := putN_length s.f2
  have h3 := putN_length s.f3
  have h4 := putN_length (s.f4.length : Int)
  have h5 := leavesB_len s.f4
  rw [txt, strOfNums_size, txtB]
  simp only [List.length_append]
  omega
theorem leavesB_drop {l : List S65} {i : Nat} (h : i < l.length) : leavesB (l.drop i) = putN (rd_T65 l (i : Int)).f0 ++ putN (rd_T65 l (i : Int)).f1 ++ leavesB (l.drop (i + 1)) := by
  rw [drop_cons h, rdIL_get h]
  rfl
def Bd (s : S63) : Prop := s.f0.size ≤ 1048576 ∧ s.f4.length ≤ 1048576
def stateL (n : Int) (l : List S63) : ByteArray := if (inr n 0 900 && acctsOk l) = true then rootL (l.map txt) else (⟨#[]⟩ : ByteArray)
theorem acctsOk_len {l : List S63} (h : acctsOk l = true) : l.length ≤ 12 := by
  unfold acctsOk at h
  simp only [Bool.and_eq_true, decide_eq_true_eq] at h
  exact h.2.1
theorem sLedgerOk_ev (n : Int) (l : List S63) (hl : l.length ≤ 281474976710656) (hb : ∀ s ∈ l, s.f0.size ≤ 9223372036854775807 ∧ s.f4.length ≤ 281474976710656) : Ev (fun k => spec_LedgerOk.f k n l) (inr n 0 900 && acctsOk l) := by
  simp only [spec_LedgerOk.f, l1In_eq, Option.bind_some]
  by_cases h : inr n 0 900 = true
  · exact evPos h (Ev.bind (sAcctsOk_ev l hl hb) (evEq (Ev.now _) (by rw [h]; simp)))
  · exact evNeg h (evEq (Ev.now _) (by rw [Bool.not_eq_true] at h; rw [h]; simp))
theorem iLedgerOk_ev (n : Int) (l : List S63) (hl : l.length ≤ 281474976710656) (hb : ∀ s ∈ l, s.f0.size ≤ 9223372036854775807 ∧ s.f4.length ≤ 281474976710656) : Ev (fun k => impl_LedgerOk.f k n l) (inr n 0 900 && acctsOk l) := by
  simp only [impl_LedgerOk.f, inRange_eq, Option.bind_some]
  by_cases h : inr n 0 900 = true
  · exact evPos h (Ev.bind (iAcctsOk_ev l hl hb) (evEq (Ev.now _) (by rw [h]; simp)))
  · exact evNeg h (evEq (Ev.now _) (by rw [Bool.not_eq_true] at h; rw [h]; simp))
theorem iState_l1 (x : List ByteArray) (hx : x.length ≤ 2000) (l : List S63) (N i : Int) (m : List S65) (hm : m.length ≤ 1048576) (r : ByteArray) : ∀ (d j : Nat) (b : List Int), j + d = m.length → b.length + 12 * d ≤ 281474976 → Ev (fun k => impl_StateRoot.l0 k (x ++ [strOfNums (b ++ leavesB (m.drop j))]) l N (wrap64 (i + 1))) r → Ev (fun k => impl_StateRoot.l1 k x b l N i m (m.length : Int) (j : Int)) r := by
  intro d
  induction d with
  | zero =>
    intro j b hj hb h
    rw [List.drop_of_length_le (by omega)] at h
    simp only [leavesB, List.flatMap_nil, List.append_nil] at h
    refine Ev.step (fun k => ?_) h
    simp only [impl_StateRoot.l1]
    rw [if_neg (by omega), if_pos (by omega)]
  | succ d ih =>
    intro j b hj hb h
    have hlt : j < m.length := by omega
    have h0 := putN_length (rd_T65 m (j : Int)).f0
    have h1 := putN_length (rd_T65 m (j : Int)).f1
    have p0 := iputNum_ev b (rd_T65 m (j : Int)).f0 (by omega)
    have p1 := iputNum_ev (b ++ putN (rd_T65 m (j : Int)).f0) (rd_T65 m (j : Int)).f1 (by rw [List.length_append]; omega)
    rw [leavesB_drop hlt, ← List.append_assoc, ← List.append_assoc] at h
    have ih' := ih (j + 1) (b ++ putN (rd_T65 m (j : Int)).f0 ++ putN (rd_T65 m (j : Int)).f1) (by omega) (by rw [List.length_append, List.length_append]; omega) h
    refine Ev.step (f := fun k => (impl_putNum.f k b (rd_T65 m (j : Int)).f0).bind fun t => (impl_putNum.f k t (rd_T65 m (j : Int)).f1).bind fun t2 => impl_StateRoot.l1 k x t2 l N i m (m.length : Int) ((j + 1 : Nat) : Int)) (fun k => ?_) (Ev.bind p0 (Ev.bind p1 ih'))
    simp only [impl_StateRoot.l1]
    rw [if_pos (by omega), if_pos (by omega), if_pos (by omega), w64 (by omega) (by omega)]
    rfl
set_option maxHeartbeats 4000000 in
theorem iState_l (l : List S63) (hl : l.length ≤ 1000) (hb : ∀ s ∈ l, Bd s) : ∀ (m i : Nat) (x : List ByteArray), i + m = l.length → x.length = i → (∀ s ∈ x, s.size ≤ 140000000) → Ev (fun k => impl_StateRoot.l0 k x l (l.length : Int) (i : Int)) (rootL (x ++ (l.drop i).map txt)) := by
  intro m
  induction m with
  | zero =>
    intro i x hi hx hz
    have hr := irootL_ev x (by omega) hz
    rw [List.drop_of_length_le (by omega), List.map_nil, List.append_nil]
    refine Ev.step (f := fun k => (impl_rootOf.f k x).bind fun t => some t) (fun k => ?_) (Ev.bind hr (Ev.now _))
    simp only [impl_StateRoot.l0]
    rw [if_neg (by omega)]
  | succ m ih =>
    intro i x hi hx hz
    have hlt : i < l.length := by omega
    have hxl : x.length ≤ 2000 := by omega
    have q1 : (i : Int) < (l.length : Int) := by omega
    have q0 : 0 ≤ (i : Int) := Int.natCast_nonneg i
    have hjm : 0 + l[i].f4.length = l[i].f4.length := Nat.zero_add _
    have hbs := hb _ (List.getElem_mem hlt)
    have hsz := txt_size l[i]
    have hb0 := hbs.1
    have hb4 := hbs.2
    have h0 := putT_length l[i].f0
    have h1 := putN_length l[i].f1
    have h2 := putN_length l[i].f2
    have h3 := putN_length l[i].f3
    have h4 := putN_length (l[i].f4.length : Int)
    have p0 := iputText_ev ([] : List Int) l[i].f0 (by simp; omega)
    rw [List.nil_append] at p0
    have p1 := iputNum_ev (putT l[i].f0) l[i].f1 (by omega)
    have p2 := iputNum_ev (putT l[i].f0 ++ putN l[i].f1) l[i].f2 (by rw [List.length_append]; omega)
    have p3 := iputNum_ev (putT l[i].f0 ++ putN l[i].f1 ++ putN l[i].f2) l[i].f3 (by simp only [List.length_append]; omega)
    have p4 := iputNum_ev (putT l[i].f0 ++ putN l[i].f1 ++ putN l[i].f2 ++ putN l[i].f3) (l[i].f4.length : Int) (by simp only [List.length_append]; omega)
    have ih' := ih (i + 1) (x ++ [txt l[i]]) (by omega) (by simp; omega) (by
      intro s hs
      rcases List.mem_append.1 hs with h | h
      · exact hz s h
      · rw [List.mem_singleton.1 h]; omega)
    have e1 : wrap64 ((i : Int) + 1) = ((i + 1 : Nat) : Int) := by rw [w64 (by omega) (by omega)]; rfl
    rw [← e1] at ih'
    have hd0 : txt l[i] = strOfNums (putT l[i].f0 ++ putN l[i].f1 ++ putN l[i].f2 ++ putN l[i].f3 ++ putN (l[i].f4.length : Int) ++ leavesB (l[i].f4.drop 0)) := by rw [List.drop_zero]; rfl
    rw [hd0] at ih'
    have hln : (putT l[i].f0 ++ putN l[i].f1 ++ putN l[i].f2 ++ putN l[i].f3 ++ putN (l[i].f4.length : Int)).length + 12 * l[i].f4.length ≤ 281474976 := by
      clear ih ih' p0 p1 p2 p3 p4 hd0 hz
      simp only [List.length_append]
      omega
    have hq := iState_l1 x hxl l (l.length : Int) (i : Int) l[i].f4 hb4 _ l[i].f4.length 0 (putT l[i].f0 ++ putN l[i].f1 ++ putN l[i].f2 ++ putN l[i].f3 ++ putN (l[i].f4.length : Int)) hjm hln ih'
    refine Ev.step (f := fun k => (impl_putText.f k ([] : List Int) l[i].f0).bind fun t1 => (impl_putNum.f k t1 l[i].f1).bind fun t2 => (impl_putNum.f k t2 l[i].f2).bind fun t3 => (impl_putNum.f k t3 l[i].f3).bind fun t4 => (impl_putNum.f k t4 (l[i].f4.length : Int)).bind fun t5 => impl_StateRoot.l1 k x t5 l (l.length : Int) (i : Int) l[i].f4 (l[i].f4.length : Int) 0) (fun k => ?_) (Ev.bind p0 (Ev.bind p1 (Ev.bind p2 (Ev.bind p3 (Ev.bind p4 (evEq hq ?_))))))
    · simp only [impl_StateRoot.l0]
      rw [if_pos q1, if_pos q0, if_pos q1, rdIA_get hlt]
    · rw [drop_cons hlt, List.map_cons, List.append_assoc]
      rfl
theorem iState_ev (n : Int) (l : List S63) (hl : l.length ≤ 281474976) (hb : ∀ s ∈ l, Bd s) : Ev (fun k => impl_StateRoot.f k n l) (stateL n l) := by
  have ho := iLedgerOk_ev n l (by omega) (fun s hs => ⟨by have := (hb s hs).1; omega, by have := (hb s hs).2; omega⟩)
  simp only [impl_StateRoot.f]
  unfold stateL
  by_cases h : (inr n 0 900 && acctsOk l) = true
  · have h12 := acctsOk_len (Bool.and_eq_true _ _ ▸ h).2
    rw [if_pos h]
    have hs := iState_l l (by omega) hb l.length 0 [] (by omega) rfl (fun s h => by simp at h)
    rw [List.nil_append, List.drop_zero] at hs
    exact Ev.bind ho (evPos h hs)
  · rw [if_neg h]
    exact Ev.bind ho (evNeg h (Ev.now _))
end Go.Proofs.Ytcbpfofkdipjhaa.PI
