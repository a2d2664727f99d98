/- Rows of orders, and orders done one behind another, said plainly. No condition but sizes. -/
import Derived.Test.YtcbpfofkdipjhaaAAPJx0
import Derived.Test.YtcbpfofkdipjhaaAAPJx3
import Derived.Test.YtcbpfofkdipjhaaAAPJx11
import Derived.Test.YtcbpfofkdipjhaaAAPJx12
import Derived.Test.YtcbpfofkdipjhaaAAPJx19
import Derived.Test.YtcbpfofkdipjhaaAAPJx20
import Derived.Test.YtcbpfofkdipjhaaAALibRFnExactApplyAll
import Derived.Test.YtcbpfofkdipjhaaAALibKFnExactApplyAll
import Derived.Test.YtcbpfofkdipjhaaAALibCFnExactApplyAll
namespace Go.Proofs.Ytcbpfofkdipjhaa.PJ
open Go.RowKit Go.Proofs.YtcbpfofkdipjhaaW.PrintWords Go.Proofs.YtcbpfofkdipjhaaW.PrintLast Go.Proofs.YtcbpfofkdipjhaaW.PrintMore Go.Proofs.Ytcbpfofkdipjhaa.Base
set_option linter.unusedVariables false
set_option linter.unusedSimpArgs false
theorem rdIX_get {xs : List S35} {i : Nat} (h : i < xs.length) : rd_T35 xs (i : Int) = xs[i] := by
  unfold rd_T35;rw [Int.toNat_natCast, List.getD_eq_getElem?_getD, List.getElem?_eq_getElem h];rfl
theorem rdLX_get {xs : List S26} {i : Nat} (h : i < xs.length) : rd_T26 xs (i : Int) = xs[i] := by
  unfold rd_T26;rw [Int.toNat_natCast, List.getD_eq_getElem?_getD, List.getElem?_eq_getElem h];rfl
theorem szTxS_l (x0 : List S26) (h : x0.length ≤ 9223372036854775807) (hs : ∀ s ∈ x0, s.f1.size ≤ 9223372036854775807 ∧ s.f2.size ≤ 9223372036854775807) : ∀ (d i : Nat) (v : Int), i + d = x0.length → 0 ≤ v → v ≤ 1048576 →
    ∃ r, Ev (fun k => laws_szTxS.l0 k x0 v (i : Int)) r ∧ (r < 0 ∨ (∀ s ∈ x0.drop i, s.f1.size ≤ 1048576 ∧ s.f2.size ≤ 1048576)) := by
  intro d
  induction d with
  | zero =>
    intro i v hi h0 h1;refine ⟨v, evOne fun k => ?_, .inr fun s hs => ?_⟩
    · simp only [laws_szTxS.l0]
      rw [if_neg (by omega)]
    · rw [List.drop_of_length_le (by omega)] at hs
      simp at hs
  | succ d ih =>
    intro i v hi h0 h1
    have hlt : i < x0.length := by omega
    have hsz := hs _ (List.getElem_mem hlt);obtain ⟨r, e, hp⟩ := szTx_eq x0[i].f0 x0[i].f1 x0[i].f2 x0[i].f3 x0[i].f4 v hsz.1 hsz.2 h0 h1
    have hopen : ∀ k, laws_szTxS.l0 (k + 1) x0 v (i : Int) = (if r < 0 then (some (-1)) else (laws_szTxS.l0 k x0 r ((i + 1 : Nat) : Int))) := by
      intro k;simp only [laws_szTxS.l0];rw [if_pos (by omega), if_pos (by omega), rdLX_get hlt, e, Option.bind_some, w64 (by omega) (by omega)];rfl
    by_cases hneg : r < 0
    · exact ⟨-1, evOne fun k => by rw [hopen, if_pos hneg], .inl (by omega)⟩
    · obtain ⟨r', hr', hp'⟩ := ih (i + 1) r (by omega) (by omega) (by omega)
      refine ⟨r', Ev.step (fun k => by rw [hopen, if_neg hneg]) hr', ?_⟩
      rcases hp' with hp' | hp'
      · exact .inl hp'
      · refine .inr ?_
        rw [drop_cons hlt];intro s hs
        rcases List.mem_cons.1 hs with rfl | hs
        · omega
        · exact hp' s hs
theorem szTxS_ev (x : List S26) (v : Int) (h0 : 0 ≤ v) (h1 : v ≤ 1048576) (h : x.length ≤ 9223372036854775807) (hs : ∀ s ∈ x, s.f1.size ≤ 9223372036854775807 ∧ s.f2.size ≤ 9223372036854775807) :
    ∃ r, Ev (fun k => laws_szTxS.f k x v) r ∧ (r < 0 ∨ (x.length ≤ 1048576 ∧ ∀ s ∈ x, s.f1.size ≤ 1048576 ∧ s.f2.size ≤ 1048576)) := by
  have hw : wrap64 (v - (x.length : Int)) = v - (x.length : Int) := w64 (by omega) (by omega)
  by_cases hneg : v - (x.length : Int) < 0
  · refine ⟨-1, evVal fun k => ?_, .inl (by omega)⟩
    simp only [laws_szTxS.f];rw [hw, if_pos hneg]
  · obtain ⟨r, hr, hp⟩ := szTxS_l x h hs x.length 0 (v - (x.length : Int)) (by omega) (by omega) (by omega)
    refine ⟨r, Ev.congr (fun k => ?_) hr, ?_⟩
    · simp only [laws_szTxS.f]
      rw [hw, if_neg hneg];rfl
    · rcases hp with hp | hp
      · exact .inl hp
      · exact .inr ⟨by omega, by rw [List.drop_zero] at hp; exact hp⟩
def cvX (s : S26) : S35 := ⟨s.f0, s.f1, s.f2, s.f3, s.f4⟩
theorem set_mapX (f : S26 → S35) {x3 : List S35} {x0 : List S26} {i : Nat} (h : i < x0.length) (hl : x3.length = x0.length) : (x3.set i (f x0[i])).take (i + 1) ++ (x0.drop (i + 1)).map f = x3.take i ++ (x0.drop i).map f := by
  rw [take_snoc (by simp; omega), List.getElem_set_self, List.append_assoc, List.take_set_of_le (Nat.le_refl _), drop_cons h];rfl
theorem toTxS_l (x0 : List S26) (h : x0.length ≤ 4398046511104) : ∀ (d i : Nat) (x3 : List S35), i + d = x0.length → x3.length = x0.length → Ev (fun k => laws_toTxS.l0 k x0 x3 (i : Int)) (x3.take i ++ (x0.drop i).map cvX) := by
  intro d
  induction d with
  | zero =>
    intro i x3 hi hl
    refine evOne fun k => ?_
    simp only [laws_toTxS.l0];rw [if_neg (by omega), List.take_of_length_le (by omega), List.drop_of_length_le (by omega), List.map_nil, List.append_nil]
  | succ d ih =>
    intro i x3 hi hl
    have hlt : i < x0.length := by omega
    have h1 := ih (i + 1) (x3.set i (cvX x0[i])) (by omega) (by simp; exact hl);rw [set_mapX cvX hlt hl] at h1;refine Ev.step (f := fun k => laws_toTxS.l0 k x0 (x3.set i (cvX x0[i])) ((i + 1 : Nat) : Int)) (fun k => ?_) h1;simp only [laws_toTxS.l0, laws_toTx.f, Option.bind_some];rw [if_pos (by omega), if_pos (by omega), rdLX_get hlt, w64 (by omega) (by omega), if_pos (by omega), Int.toNat_natCast];rfl
theorem toTxS_ev (l : List S26) (h : l.length ≤ 4398046511104) : Ev (fun k => laws_toTxS.f k l) (l.map cvX) := by
  have h1 := toTxS_l l h l.length 0 (List.replicate l.length z35) (by omega) (by simp);simp only [laws_toTxS.f];simp only [Int.toNat_natCast];refine evPos (by omega) (evPos (by omega) (evEq h1 (by simp)))
theorem eqTxS_l (x : List S35) (h : x.length ≤ 281474976710656) : ∀ (d i : Nat), i + d = x.length → Ev (fun k => laws_eqTxS.l0 k x x (i : Int)) true := by
  intro d
  induction d with
  | zero =>
    intro i hi
    refine evOne fun k => ?_
    simp only [laws_eqTxS.l0];rw [if_neg (by omega)]
  | succ d ih =>
    intro i hi
    have hlt : i < x.length := by omega
    have e : laws_eqTx.f x[i].f0 x[i].f1 x[i].f2 x[i].f3 x[i].f4 x[i].f0 x[i].f1 x[i].f2 x[i].f3 x[i].f4 = some true := by simp [laws_eqTx.f]
    refine Ev.step (f := fun k => laws_eqTxS.l0 k x x ((i + 1 : Nat) : Int)) (fun k => ?_) (ih (i + 1) (by omega));simp only [laws_eqTxS.l0];rw [if_pos (by omega), if_pos (by omega), if_pos (by omega), rdIX_get hlt, e, Option.bind_some, if_pos rfl, w64 (by omega) (by omega)];rfl
theorem eqTxS_ev (x : List S35) (h : x.length ≤ 281474976710656) : Ev (fun k => laws_eqTxS.f k x x) true := by
  simp only [laws_eqTxS.f];exact evPos trivial (eqTxS_l x h x.length 0 (by omega))
def xK (x : List S35) (i v : Int) : List S35 := x.set i.toNat ⟨v, (rd_T35 x i).f1, (rd_T35 x i).f2, (rd_T35 x i).f3, (rd_T35 x i).f4⟩
def xF (x : List S35) (i : Int) (v : ByteArray) : List S35 := x.set i.toNat ⟨(rd_T35 x i).f0, v, (rd_T35 x i).f2, (rd_T35 x i).f3, (rd_T35 x i).f4⟩
def xT (x : List S35) (i : Int) (v : ByteArray) : List S35 := x.set i.toNat ⟨(rd_T35 x i).f0, (rd_T35 x i).f1, v, (rd_T35 x i).f3, (rd_T35 x i).f4⟩
def xA (x : List S35) (i v : Int) : List S35 := x.set i.toNat ⟨(rd_T35 x i).f0, (rd_T35 x i).f1, (rd_T35 x i).f2, v, (rd_T35 x i).f4⟩
def xN (x : List S35) (i v : Int) : List S35 := x.set i.toNat ⟨(rd_T35 x i).f0, (rd_T35 x i).f1, (rd_T35 x i).f2, (rd_T35 x i).f3, v⟩
theorem xs_len (x : List S35) (i m a b : Int) (t u : ByteArray) : (xN (xA (xT (xF (xK x i m) i t) i u) i a) i b).length = x.length :=
  (List.length_set ..).trans ((List.length_set ..).trans ((List.length_set ..).trans ((List.length_set ..).trans (List.length_set ..))))
theorem markTxS_l (n : Nat) (hn : n ≤ 100000000) : ∀ (d i : Nat) (x : List S35) (m : Int), i + d = n → x.length = n → 0 ≤ m → m + 5 * (d : Int) ≤ 9000000000000 → ∃ y, Ev (fun k => laws_markTxS.l0 k x m (i : Int)) (m + 5 * (d : Int), y) := by
  intro d
  induction d with
  | zero =>
    intro i x m hi hl h0 h1;refine ⟨x, evOne fun k => ?_⟩;simp only [laws_markTxS.l0];rw [if_neg (by omega)];simp
  | succ d ih =>
    intro i x m hi hl h0 h1
    have g0 : 0 ≤ m + 5 := by omega
    have g1 : m + 5 + 5 * (d : Int) ≤ 9000000000000 := by omega
    have g2 : i + 1 + d = n := by omega
    have g3 : m + 5 + 5 * (d : Int) = m + 5 * ((d + 1 : Nat) : Int) := by omega
    have g4 : (i : Int) < (x.length : Int) := by omega
    have g5 : 0 ≤ (i : Int) := by omega
    have e1 := markText_ev (m + 1) (by omega) (by omega);have e2 := markText_ev (m + 2) (by omega) (by omega)
    have wj : ∀ j : Int, 0 ≤ j → j ≤ 5 → wrap64 (m + j) = m + j := fun j h2 h3 => w64 (by omega) (by omega)
    have wi : wrap64 ((i : Int) + 1) = ((i + 1 : Nat) : Int) := (w64 (by omega) (by omega)).trans (by omega)
    have a2 : m + 1 + 1 = m + 2 := by omega
    have a3 : m + 2 + 1 = m + 3 := by omega
    have a4 : m + 3 + 1 = m + 4 := by omega
    have a5 : m + 4 + 1 = m + 5 := by omega
    have w1 := wj 1 (by decide) (by decide);have w2 := wj 2 (by decide) (by decide);have w3 := wj 3 (by decide) (by decide);have w4 := wj 4 (by decide) (by decide);have w5 := wj 5 (by decide) (by decide);clear hi h0 h1;obtain ⟨y, hy⟩ := ih (i + 1) (xN (xA (xT (xF (xK x i m) i (mtext (m + 1))) i (mtext (m + 2))) i (m + 3)) i (m + 4)) (m + 5) g2 ((xs_len ..).trans hl) g0 g1;refine ⟨y, evEq (Ev.step (f := fun k => (laws_markText.f k (m + 1)).bind fun t => (laws_markText.f k (m + 2)).bind fun u => laws_markTxS.l0 k (xN (xA (xT (xF (xK x i m) i t) i u) i (m + 3)) i (m + 4)) (m + 5) ((i + 1 : Nat) : Int)) (fun k => ?_) (Ev.bind e1 (Ev.bind e2 hy))) (by rw [g3])⟩;simp only [laws_markTxS.l0];rw [if_pos g4, if_pos g5];simp only [Option.bind_some, w1, a2, w2, a3, w3, a4, w4, a5, w5, wi];rfl
theorem markTxS_ev (x : List S35) (m : Int) (h0 : 0 ≤ m) (h1 : m ≤ 8000000000000) (hx : x.length ≤ 100000000) : ∃ y, Ev (fun k => laws_markTxS.f k x m) (m + 5 * (x.length : Int), y) := by
  have h := markTxS_l x.length hx x.length 0 x m (by omega) rfl h0 (by omega);exact h
/-! ### orders, one behind another -/
theorem name_len {s : ByteArray} (h : nameOk s = true) : s.size ≤ 8 := by
  unfold nameOk lenOk at h;simp only [Bool.and_eq_true, decide_eq_true_eq] at h
  omega
theorem ledger_bd {n : Int} {l : List S63} (h : ledgerOk n l = true) : l.length ≤ 12 ∧ ∀ s ∈ l, BdE s := by
  obtain ⟨_, hok, _, hl, _⟩ := ledger_parts h;refine ⟨hl, fun s hs => ?_⟩;have ho := okA_parts (hok s hs);have := name_len ho.1;unfold BdE
  omega
theorem applyL_cases (ep : Int) (l : List S63) (kind : Int) (fr tt : ByteArray) (am no : Int) : (∃ c, applyL ep l kind fr tt am no = (ep, l, c) ∧ ¬ c = 0) ∨ (∃ l', applyL ep l kind fr tt am no = (ep, l', 0) ∧ ledgerOk ep l' = true) := by
  unfold applyL
  repeat' split
  all_goals first | exact .inl ⟨_, rfl, by decide⟩ | skip
  exact .inr ⟨_, rfl, by assumption⟩
def allL (ep : Int) : List S35 → List S63 → Int → List S63 × Int
  | [], l, n => (l, n)
  | t :: ts, l, n => if (applyL ep l t.f0 t.f1 t.f2 t.f3 t.f4).2.2 = 0 then allL ep ts (applyL ep l t.f0 t.f1 t.f2 t.f3 t.f4).2.1 (n + 1) else allL ep ts l n
theorem allL_bd (ep : Int) : ∀ (ts : List S35) (l : List S63) (n : Int), l.length ≤ 1048576 → (∀ s ∈ l, BdE s) → (allL ep ts l n).1.length ≤ 1048576 ∧ ∀ s ∈ (allL ep ts l n).1, BdE s
  | [], l, n, h, hb => ⟨h, hb⟩
  | t :: ts, l, n, h, hb => by
    unfold allL
    rcases applyL_cases ep l t.f0 t.f1 t.f2 t.f3 t.f4 with ⟨c, e, hc⟩ | ⟨l', e, hok⟩
    · rw [e, if_neg hc]
      exact allL_bd ep ts l n h hb
    · rw [e, if_pos rfl]
      have := ledger_bd hok;exact allL_bd ep ts l' (n + 1) (by show l'.length ≤ _; omega) this.2
def TxE (t : S35) : Prop := t.f1.size ≤ 1048576 ∧ t.f2.size ≤ 1048576
theorem iAll_l (ep : Int) (ts : List S35) (hts : ts.length ≤ 100000000) (ht : ∀ t ∈ ts, TxE t) : ∀ (d i : Nat) (l : List S63) (n : Int), i + d = ts.length → l.length ≤ 1048576 → (∀ s ∈ l, BdE s) → 0 ≤ n → n ≤ (i : Int) →
    Ev (fun k => impl_ApplyAll.l0 k ts i n ep l) (ep, (allL ep (ts.drop i) l n).1, (allL ep (ts.drop i) l n).2) := by
  intro d
  induction d with
  | zero =>
    intro i l n hi hl hb h0 h1;rw [List.drop_of_length_le (by omega)]
    refine evOne fun k => ?_
    simp only [impl_ApplyAll.l0];rw [if_neg (by omega)];rfl
  | succ d ih =>
    intro i l n hi hl hb h0 h1
    have hlt : i < ts.length := by omega
    have wn : wrap64 (n + 1) = n + 1 := w64 (by omega) (by omega);have htx := ht _ (List.getElem_mem hlt);have ha := iApply_ev ep l ts[i].f0 ts[i].f1 ts[i].f2 ts[i].f3 ts[i].f4 (by omega) hb htx.1 htx.2;rw [drop_cons hlt];unfold allL;refine Ev.step (f := fun k => (impl_Apply.f k ep l ts[i].f0 ts[i].f1 ts[i].f2 ts[i].f3 ts[i].f4).bind fun b => impl_ApplyAll.l0 k ts (i + 1) (if b.2.2 = 0 then n + 1 else n) b.1 b.2.1) (fun k => ?_) (Ev.bind ha ?_)
    · simp only [impl_ApplyAll.l0]
      rw [if_pos hlt, rdIX_get hlt, wn]
    rcases applyL_cases ep l ts[i].f0 ts[i].f1 ts[i].f2 ts[i].f3 ts[i].f4 with ⟨c, e, hc⟩ | ⟨l', e, hok⟩
    · rw [e, if_neg hc]
      have h2 := ih (i + 1) l n (by omega) hl hb h0 (by omega);simp only [if_neg hc];exact h2
    · rw [e, if_pos rfl]
      have := ledger_bd hok;have h2 := ih (i + 1) l' (n + 1) (by omega) (by omega) this.2 (by omega) (by omega);simp only [if_true];exact h2
theorem iAll_ev (ep : Int) (l : List S63) (ts : List S35) (hts : ts.length ≤ 100000000) (ht : ∀ t ∈ ts, TxE t) (hl : l.length ≤ 1048576) (hb : ∀ s ∈ l, BdE s) : Ev (fun k => impl_ApplyAll.f k ep l ts) (ep, (allL ep ts l 0).1, (allL ep ts l 0).2) := by
  simp only [impl_ApplyAll.f];exact Ev.bind (iCopyL_ev ep l (by omega) hb) (iAll_l ep ts hts ht ts.length 0 l 0 (by omega) hl hb (by omega) (by omega))
theorem sAll_l (ep : Int) (ts : List S35) (hts : ts.length ≤ 100000000) (ht : ∀ t ∈ ts, TxE t) : ∀ (d i : Nat) (l : List S63) (n : Int), i + d = ts.length → l.length ≤ 1048576 → (∀ s ∈ l, BdE s) → 0 ≤ n → n ≤ (i : Int) →
    Ev (fun k => spec_ApplyAll.l0 k ts i n ep l) (ep, (allL ep (ts.drop i) l n).1, (allL ep (ts.drop i) l n).2) := by
  intro d
  induction d with
  | zero =>
    intro i l n hi hl hb h0 h1;rw [List.drop_of_length_le (by omega)]
    refine evOne fun k => ?_
    simp only [spec_ApplyAll.l0];rw [if_neg (by omega)];rfl
  | succ d ih =>
    intro i l n hi hl hb h0 h1
    have hlt : i < ts.length := by omega
    have wn : wrap64 (n + 1) = n + 1 := w64 (by omega) (by omega);have htx := ht _ (List.getElem_mem hlt);have ha := sApply_ev ep l ts[i].f0 ts[i].f1 ts[i].f2 ts[i].f3 ts[i].f4 (by omega) hb htx.1 htx.2;rw [drop_cons hlt];unfold allL;refine Ev.step (f := fun k => (spec_Apply.f k ep l ts[i].f0 ts[i].f1 ts[i].f2 ts[i].f3 ts[i].f4).bind fun b => if b.2.2 = 0 then spec_ApplyAll.l0 k ts (i + 1) (n + 1) b.1 b.2.1 else spec_ApplyAll.l0 k ts (i + 1) n ep l) (fun k => ?_) (Ev.bind ha ?_)
    · simp only [spec_ApplyAll.l0]
      rw [if_pos hlt, rdIX_get hlt, wn]
    rcases applyL_cases ep l ts[i].f0 ts[i].f1 ts[i].f2 ts[i].f3 ts[i].f4 with ⟨c, e, hc⟩ | ⟨l', e, hok⟩
    · rw [e, if_neg hc]
      exact evNeg hc (ih (i + 1) l n (by omega) hl hb h0 (by omega))
    · rw [e, if_pos rfl]
      have := ledger_bd hok;exact evPos rfl (ih (i + 1) l' (n + 1) (by omega) (by omega) this.2 (by omega) (by omega))
theorem sAll_ev (ep : Int) (l : List S63) (ts : List S35) (hts : ts.length ≤ 100000000) (ht : ∀ t ∈ ts, TxE t) (hl : l.length ≤ 1048576) (hb : ∀ s ∈ l, BdE s) : Ev (fun k => spec_ApplyAll.f k ep l ts) (ep, (allL ep ts l 0).1, (allL ep ts l 0).2) := by
  simp only [spec_ApplyAll.f];exact Ev.bind (sCopyL_ev ep l (by omega) hb) (sAll_l ep ts hts ht ts.length 0 l 0 (by omega) hl hb (by omega) (by omega))
end Go.Proofs.Ytcbpfofkdipjhaa.PJ
