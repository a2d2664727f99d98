/- The plain law of FnStateRoots: what it computes is always true. -/
import Derived.Test.YtcbpfofkdipjhaaSRPIx0
import Derived.Test.YtcbpfofkdipjhaaSRPIx13
import Derived.Test.YtcbpfofkdipjhaaSRLibXFnStateRoots
import Derived.Test.YtcbpfofkdipjhaaSRLibYFnStateRoots
import Derived.Test.YtcbpfofkdipjhaaSRTelI
namespace Go.Proofs.Ytcbpfofkdipjhaa.Pure
open Go.RowKit Go.Proofs.YtcbpfofkdipjhaaW.PrintWords Go.Proofs.YtcbpfofkdipjhaaW.PrintLast Go.Proofs.YtcbpfofkdipjhaaW.PrintMore Go.Proofs.Ytcbpfofkdipjhaa.Base Go.Proofs.Ytcbpfofkdipjhaa.PI
set_option linter.unusedVariables false
set_option linter.unusedSimpArgs false
theorem sr_l2 (x : List ByteArray) (hx : x.length ≤ 60) (hz : ∀ s ∈ x, s.size ≤ 140000000) : ∀ (d i : Nat), i + d = x.length → Ev (fun k => laws_FnStateRoots.l2 k (Sha.rootL x) x (i : Int)) true := by
  intro d
  induction d with
  | zero =>
    intro i hi
    refine evOne fun k => ?_
    simp only [laws_FnStateRoots.l2]
    rw [if_neg (by omega), Sha.rootL_size]
    rfl
  | succ d ih =>
    intro i hi
    have hj : i < x.length := by omega
    have hp := iPathOf_ev x (i : Int) (by omega) hz
    have e2 : Sha.pathOfL x (i : Int) = Sha.pathL x i := by unfold Sha.pathOfL; rw [if_neg (by omega), if_pos (by omega), Int.toNat_natCast]
    rw [e2] at hp
    have hpl : (Sha.pathL x i).length ≤ x.length := Sha.pathF_len _ _ _
    have hps : ∀ s ∈ Sha.pathL x i, s.size ≤ 140000000 := fun s h => by have := Sha.pathF_size _ _ _ s h; omega
    have hs : (rdOf ByteArray.empty x (i : Int)).size ≤ 140000000 := by
      rw [Sha.rdSat hj]
      exact hz _ (List.getElem_mem _)
    have k1 : Sha.checkL (rdOf ByteArray.empty x (i : Int)) (i : Int) (x.length : Int) (Sha.pathL x i) (Sha.rootL x) = true := by
      have hcl := Sha.climb_path x.length x i (Nat.le_refl _) hj
      unfold Sha.checkL Sha.pathL
      rw [if_pos (by omega), Int.toNat_natCast, Int.toNat_natCast, hcl]
      simp
    have c1 := iCheck_ev (rdOf ByteArray.empty x (i : Int)) hs (i : Int) (x.length : Int) (by omega) (by omega) (Sha.pathL x i) (by omega) hps (Sha.rootL x)
    rw [k1] at c1
    refine Ev.step (f := fun k => (impl_PathOf.f k x (i : Int)).bind fun t => (impl_CheckPath.f k (rdOf ByteArray.empty x (i : Int)) (i : Int) (x.length : Int) t (Sha.rootL x)).bind fun t2 => if t2 = true then laws_FnStateRoots.l2 k (Sha.rootL x) x ((i + 1 : Nat) : Int) else some false) (fun k => ?_) (Ev.bind hp (Ev.bind c1 (evPos rfl (ih (i + 1) (by omega)))))
    simp only [laws_FnStateRoots.l2]
    rw [if_pos (by omega), if_pos (by omega), w64 (by omega) (by omega)]
    rfl
theorem sr_l1 (x4 : ByteArray) (x : List ByteArray) (hx : x.length ≤ 2000) (i n : Int) (l : List S63) (a : ByteArray) (p q s : Int) (m : List S65) (hm : m.length ≤ 1048576) : ∀ (d j : Nat) (b : List Int), j + d = m.length → b.length + 12 * d ≤ 281474976 → Ev (fun k => laws_FnStateRoots.l0 k x4 (x ++ [strOfNums (b ++ leavesB (m.drop j))]) (wrap64 (i + 1)) n l) true → Ev (fun k => laws_FnStateRoots.l1 k x4 x i b (j : Int) n l a p q s m) true := by
  intro d
  induction d with
  | zero =>
    intro j b hj hb h
    rw [List.drop_of_length_le (by omega)] at h
    simp only [leavesB, List.flatMap_nil, List.append_nil] at h
    refine Ev.step (fun k => ?_) h
    simp only [laws_FnStateRoots.l1]
    rw [if_neg (by omega), if_pos (by omega)]
  | succ d ih =>
    intro j b hj hb h
    have hlt : j < m.length := by omega
    have h0 := putN_length (rd_T65 m (j : Int)).f0
    have h1 := putN_length (rd_T65 m (j : Int)).f1
    have p0 := iPutNum_ev b (rd_T65 m (j : Int)).f0 (by omega)
    have p1 := iPutNum_ev (b ++ putN (rd_T65 m (j : Int)).f0) (rd_T65 m (j : Int)).f1 (by rw [List.length_append]; omega)
    rw [leavesB_drop hlt, ← List.append_assoc, ← List.append_assoc] at h
    have ih' := ih (j + 1) (b ++ putN (rd_T65 m (j : Int)).f0 ++ putN (rd_T65 m (j : Int)).f1) (by omega) (by rw [List.length_append, List.length_append]; omega) h
    refine Ev.step (f := fun k => (impl_PutNum.f k b (rd_T65 m (j : Int)).f0).bind fun t => (impl_PutNum.f k t (rd_T65 m (j : Int)).f1).bind fun t2 => laws_FnStateRoots.l1 k x4 x i t2 ((j + 1 : Nat) : Int) n l a p q s m) (fun k => ?_) (Ev.bind p0 (Ev.bind p1 ih'))
    simp only [laws_FnStateRoots.l1]
    rw [if_pos (by omega), if_pos (by omega), w64 (by omega) (by omega)]
    rfl
theorem sr_l0 (n : Int) (l : List S63) (hl : l.length ≤ 60) (hb : ∀ s ∈ l, Bd s) : ∀ (m i : Nat) (x : List ByteArray), i + m = l.length → x.length = i → x = (l.take i).map txt → Ev (fun k => laws_FnStateRoots.l0 k (Sha.rootL (l.map txt)) x (i : Int) n l) true := by
  intro m
  induction m with
  | zero =>
    intro i x hi hx he
    have hxe : x = l.map txt := by rw [he, List.take_of_length_le (by omega)]
    have hz : ∀ s ∈ x, s.size ≤ 140000000 := by
      intro s hs
      rw [hxe] at hs
      obtain ⟨y, hy, rfl⟩ := List.mem_map.1 hs
      have h1 := txt_size y
      have h2 := (hb y hy).1
      have h3 := (hb y hy).2
      omega
    have h2 := sr_l2 x (by omega) hz x.length 0 (by omega)
    rw [← hxe]
    refine Ev.step (fun k => ?_) h2
    simp only [laws_FnStateRoots.l0]
    rw [if_neg (by omega)]
    rfl
  | succ m ih =>
    intro i x hi hx he
    have hlt : i < l.length := by omega
    have hxl : x.length ≤ 2000 := by omega
    have q1 : (i : Int) < (l.length : Int) := by omega
    have q0 : 0 ≤ (i : Int) := Int.natCast_nonneg i
    have hbs := hb _ (List.getElem_mem hlt)
    have hb0 := hbs.1
    have hb4 := hbs.2
    have h0 := putT_length l[i].f0
    have h1 := putN_length l[i].f1
    have h2 := putN_length l[i].f2
    have h3 := putN_length l[i].f3
    have h4 := putN_length (l[i].f4.length : Int)
    have p0 := iPutText_ev ([] : List Int) l[i].f0 (by simp; omega)
    rw [List.nil_append] at p0
    have p1 := iPutNum_ev (putT l[i].f0) l[i].f1 (by omega)
    have p2 := iPutNum_ev (putT l[i].f0 ++ putN l[i].f1) l[i].f2 (by rw [List.length_append]; omega)
    have p3 := iPutNum_ev (putT l[i].f0 ++ putN l[i].f1 ++ putN l[i].f2) l[i].f3 (by simp only [List.length_append]; omega)
    have p4 := iPutNum_ev (putT l[i].f0 ++ putN l[i].f1 ++ putN l[i].f2 ++ putN l[i].f3) (l[i].f4.length : Int) (by simp only [List.length_append]; omega)
    have hln : (putT l[i].f0 ++ putN l[i].f1 ++ putN l[i].f2 ++ putN l[i].f3 ++ putN (l[i].f4.length : Int)).length + 12 * l[i].f4.length ≤ 281474976 := by
      clear ih p0 p1 p2 p3 p4
      simp only [List.length_append]
      omega
    have ih' := ih (i + 1) (x ++ [txt l[i]]) (by omega) (by simp; omega) (by rw [he, take_snoc hlt, List.map_append]; rfl)
    have e1 : wrap64 ((i : Int) + 1) = ((i + 1 : Nat) : Int) := by rw [w64 (by omega) (by omega)]; rfl
    rw [← e1] at ih'
    have hjm : 0 + l[i].f4.length = l[i].f4.length := Nat.zero_add _
    have hd0 : txt l[i] = strOfNums (putT l[i].f0 ++ putN l[i].f1 ++ putN l[i].f2 ++ putN l[i].f3 ++ putN (l[i].f4.length : Int) ++ leavesB (l[i].f4.drop 0)) := by rw [List.drop_zero]; rfl
    rw [hd0] at ih'
    have hq := sr_l1 (Sha.rootL (l.map txt)) x hxl (i : Int) n l l[i].f0 l[i].f1 l[i].f2 l[i].f3 l[i].f4 hb4 l[i].f4.length 0 (putT l[i].f0 ++ putN l[i].f1 ++ putN l[i].f2 ++ putN l[i].f3 ++ putN (l[i].f4.length : Int)) hjm hln ih'
    refine Ev.step (f := fun k => (impl_PutText.f k ([] : List Int) l[i].f0).bind fun t1 => (impl_PutNum.f k t1 l[i].f1).bind fun t2 => (impl_PutNum.f k t2 l[i].f2).bind fun t3 => (impl_PutNum.f k t3 l[i].f3).bind fun t4 => (impl_PutNum.f k t4 (l[i].f4.length : Int)).bind fun t5 => laws_FnStateRoots.l1 k (Sha.rootL (l.map txt)) x (i : Int) t5 0 n l l[i].f0 l[i].f1 l[i].f2 l[i].f3 l[i].f4) (fun k => ?_) (Ev.bind p0 (Ev.bind p1 (Ev.bind p2 (Ev.bind p3 (Ev.bind p4 hq)))))
    simp only [laws_FnStateRoots.l0]
    rw [if_pos q1, if_pos q0, rdIA_get hlt]
theorem FnStateRoots : ∀ (l0 : (List Int)), (l0.length ≤ maxLen ∧ ∀ x ∈ l0, (Lit.int .u8 x).wf = true) → ∃ k, laws_FnStateRoots.f k l0 = some true := by
  intro l0 hw
  refine Ev.rounds (g := fun k => laws_FnStateRoots.f k l0) ?_
  simp only [laws_FnStateRoots.f]
  refine evBindC (show laws_big.f l0 = some (decide ((l0.length : Int) > 1048576)) from rfl) ?_
  by_cases hbig : (l0.length : Int) > 1048576
  · exact evPos (by simpa using hbig) (Ev.now _)
  · obtain ⟨n, l, hd, hl, hz⟩ := DrawStateRoot_ev l0 (AllB.of_wf hw.2) (by omega)
    have hb : ∀ s ∈ l, Bd s := fun s hs => by have := hz s hs; unfold Bd; omega
    have hb2 : ∀ s ∈ l, s.f0.size ≤ 9223372036854775807 ∧ s.f4.length ≤ 281474976710656 := fun s hs => by have := hz s hs; omega
    have hi := iState_ev n l (by omega) hb
    have hso := sLedgerOk_ev n l (by omega) hb2
    have hio := iLedgerOk_ev n l (by omega) hb2
    refine evNeg (by simpa using hbig) (Ev.bind hd (Ev.bind hi (Ev.bind hso ?_)))
    unfold stateL
    by_cases h : (inr n 0 900 && acctsOk l) = true
    · rw [if_pos h]
      exact evPos h (sr_l0 n l (by omega) hb l.length 0 [] (by omega) rfl rfl)
    · rw [if_neg h]
      refine evNeg h (evPos (by unfold ByteArray.toList ByteArray.toList.loop; rfl) (Ev.bind hio (evEq (Ev.now _) ?_)))
      rw [Bool.not_eq_true] at h
      rw [h]
      rfl
end Go.Proofs.Ytcbpfofkdipjhaa.Pure
