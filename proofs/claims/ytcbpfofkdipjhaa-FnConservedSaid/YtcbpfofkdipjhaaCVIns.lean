/- Inserting into a row of the call's own, said of cells and of elements; copy between rows of elements of several cells. No condition but sizes. -/
import Derived.Test.YtcbpfofkdipjhaaCVZ
import Derived.Test.YtcbpfofkdipjhaaProg
import Derived.Lib.AppendZerosOnto
import Derived.Lib.Overlaps
import Derived.Deep.AppendSrc
import Derived.Laws.IdiomCopy
import Derived.Laws.NewBlocks
import Derived.Laws.Externs
import Derived.WalkKit
namespace Go.Proofs.Ytcbpfofkdipjhaa.Ins
open Go.RowKit Go.Lib Go.Proofs.YtcbpfofkdipjhaaW.PrintWords
set_option linter.unusedVariables false
set_option linter.unusedSimpArgs false
section
variable {P : Program}
/-- copy, elements of sz cells: all is read before anything is written. -/
theorem run_copy_wide (w : World) (dT sT ty elem : TypeId) (b o dLen dCap : Nat) (a : Addr) (sLen sCap sz n : Nat) (cs : List Value)
    (hu : P.underlying dT = some (.slice elem)) (hs : (P.info? elem).map (·.size) = some sz) (hn : n = Nat.min sLen dLen) (hl0 : cs.length = n * sz)
    (hsrc : ∀ j v, cs[j]? = some v → w.cell? (a.add j) = some v) (hc : ∀ j, j < cs.length → (w.cell? ⟨b, o + j, none⟩).isSome = true) (hf : ∀ j, j < cs.length → w.frozen? ⟨b, o + j, none⟩ = false) (h1 : ∀ v ∈ cs, v.oneCell' = true) :
    (Builtin.copy_ #[dT, sT] ty #[.slice (some ⟨b, o, none⟩) dLen dCap, .slice (some a) sLen sCap]).run P w = .ok (goInt n) (w.setCells b o cs) := by
  have hl := run_loadCells_list (P := P) w a cs hsrc;rw [hl0] at hl;have hst := run_storeCells_cells (P := P) b o cs 0 w (by simpa using hc) (by simpa using hf) h1
  cases hq : P.info? elem with
  | none => simp [hq] at hs
  | some i =>
    have hi : i.size = sz := by simpa [hq] using hs
    simp [Builtin.copy_, run_underlying hu, Builtin.lenOf, Builtin.firstCells, sizeOf, typeInfo, hq, hi, ← hn, hl, hst]
/-- THE OPERATION 'copy(d, s)' FOR THE WALK, WHERE ITS RUN IS KNOWN BY AN EQUATION. -/
theorem wp_copy (w : World) {o : Oper} {a : Act} {K : Act → World → Prop} {Q : Exit → Act → World → Prop} (d s : Operand) (t t' : TypeId)
    (ho : o.op = .call { callee := .builtin .copy, args := #[d, s], argTypes := #[t, t'] }) (v u : Value) (hd : a.eval d = v) (hs : a.eval s = u) {v' : Value} {w' : World}
    (hr : (Builtin.copy_ #[t, t'] o.type #[v, u]).run P w = .ok v' w') (h : K (a.put o.dst v') w') : o.wp P a w K Q := by
  unfold Oper.wp execOp;simp only [ho, resolve, invoke, builtin, Sem.run_bind, Sem.run_pure, Result.andThen_ok, List.map_toArray, List.map_cons, List.map_nil, hd, hs, hr];exact h
theorem wpList_copy (w : World) {ops : Array Oper} {rest : List Oper} {o : Oper} {a : Act} {Q : Exit → Act → World → Prop} (hgd : o.guard = none) (d s : Operand) (t t' : TypeId)
    (ho : o.op = .call { callee := .builtin .copy, args := #[d, s], argTypes := #[t, t'] }) (v u : Value) (hd : a.eval d = v) (hs : a.eval s = u) {v' : Value} {w' : World}
    (hr : (Builtin.copy_ #[t, t'] o.type #[v, u]).run P w = .ok v' w') (h : wpList P ops Q rest (a.put o.dst v') w') : wpList P ops Q (o :: rest) a w :=
  wpList_plain hgd fun _ hK => wp_copy w d s t t' ho v u hd hs hr (hK _ _ h)
theorem step_copy {ops : Array Oper} {o : Oper} {a : Act} {w : World} {K : Act → World → Prop} {Q : Exit → Act → World → Prop} {E : Prop}
    (hg : o.guard = none) (d x : Operand) (dT sT : TypeId) (hop : o.op = Op.call { callee := Callee.builtin Builtin.copy, args := #[d, x], argTypes := #[dT, sT] })
    (v u : Value) (hd : a.eval d = v) (hx : a.eval x = u) {v' : Value} {w' : World} (hr : (Builtin.copy_ #[dT, sT] o.type #[v, u]).run P w = .ok v' w') (hK : K (a.put o.dst v') w') :
    if Region.wanted o (yielded ops a.tmps) = true then Oper.wp P o a w K Q else E := by
  have hw : Region.wanted o (yielded ops a.tmps) = true := by simp [Region.wanted, hg]
  rw [if_pos hw];unfold Oper.wp;simp [execOp, hop, resolve, invoke, builtin, hd, hx, hr, Result.andThen];exact hK
end
theorem isSome_setCells (b : Nat) (vs : List Value) (o : Nat) (w : World) (h : ∀ j, j < vs.length → (w.cell? ⟨b, o + j, none⟩).isSome = true) (k : Nat) (hk : (w.cell? ⟨b, k, none⟩).isSome = true) : ((w.setCells b o vs).cell? ⟨b, k, none⟩).isSome = true := by
  by_cases hin : o ≤ k ∧ k < o + vs.length
  · have := World.cell?_setCells_in b vs o w h (k - o) (by omega)
    rw [show o + (k - o) = k by omega] at this;rw [this]; rfl
  · rw [World.cell?_setCells_out b vs o w ⟨b, k, none⟩ (fun _ _ => by show k < o ∨ o + vs.length ≤ k; omega)]
    exact hk
theorem zeroCells_size (z : Array Value) (k sz : Nat) (h : z.size = sz) : (Builtin.zeroCells z k).size = k * sz := by
  subst h;simp [Builtin.zeroCells]
/-! ### lists: the three pieces -/
theorem put_at {α : Type} (cur inner vs : List α) (I s N : Nat) (hI : I ≤ N) (hs : vs.length = s) (hin : cur.take N = inner) (hN : N + s ≤ cur.length) :
    ((cur.take (I + s) ++ inner.drop I ++ cur.drop (I + s + (inner.drop I).length)).take I ++ vs ++ (cur.take (I + s) ++ inner.drop I ++ cur.drop (I + s + (inner.drop I).length)).drop (I + s)) = inner.take I ++ vs ++ inner.drop I ++ cur.drop (N + s) := by
  have hil : inner.length = N := by rw [← hin, List.length_take]; omega
  have h1 : (cur.take (I + s)).length = I + s := by rw [List.length_take]; omega
  have h2 : inner.take I = cur.take I := by rw [← hin, List.take_take, Nat.min_eq_left hI]
  have h3 : I + s + (inner.drop I).length = N + s := by rw [List.length_drop, hil]; omega
  rw [h3, List.append_assoc (cur.take (I + s)), List.take_append_of_le_length (by omega), List.take_take, Nat.min_eq_left (by omega), List.drop_append, h1, Nat.sub_self, List.drop_zero, List.drop_of_length_le (by omega), List.nil_append, h2];simp only [List.append_assoc]
theorem three_take {α : Type} (inner vs rest : List α) (I s N : Nat) (hI : I ≤ N) (hs : vs.length = s) (hil : inner.length = N) : (inner.take I ++ vs ++ inner.drop I ++ rest).take (N + s) = inner.take I ++ vs ++ inner.drop I := by
  apply List.take_left'
  simp only [List.length_append, List.length_take, List.length_drop]
  omega
theorem three_seg {α : Type} (inner vs : List α) (i n z : Nat) (hi : i ≤ n) (hs : vs.length = z) (hil : inner.length = n * z) (j : Nat) :
    ((inner.take (i * z) ++ vs ++ inner.drop (i * z)).drop (j * z)).take z = if j < i then (inner.drop (j * z)).take z else if j = i then vs else (inner.drop ((j - 1) * z)).take z := by
  have hI : i * z ≤ n * z := Nat.mul_le_mul_right _ hi
  have ht : (inner.take (i * z)).length = i * z := by rw [List.length_take]; omega
  split
  · rename_i h
    have hj : j * z + z ≤ i * z := by rw [← Nat.succ_mul]; exact Nat.mul_le_mul_right _ h
    rw [List.append_assoc, List.drop_append_of_le_length (by omega), List.take_append_of_le_length (by rw [List.length_drop, ht]; omega), List.drop_take, List.take_take, Nat.min_eq_left (by omega)]
  · rename_i h
    split
    · rename_i h2
      subst h2;rw [List.append_assoc, List.drop_append, ht, Nat.sub_self, List.drop_zero, List.drop_of_length_le (by omega), List.nil_append, List.take_left' hs]
    · rename_i h2
      obtain ⟨m, rfl⟩ : ∃ m, j = m + 1 := ⟨j - 1, by omega⟩;have hm : i * z ≤ m * z := Nat.mul_le_mul_right _ (by omega);rw [Nat.add_sub_cancel, Nat.succ_mul, List.drop_append, List.drop_of_length_le (by rw [List.length_append, ht, hs]; omega), List.nil_append, List.length_append, ht, hs, List.drop_drop]
      congr 2
      omega
/-! ### worlds -/
theorem grown_set {w W : World} {b : Nat} {row : Option Nat} (h : w.grownBy W row) (hb : row = some b ∨ w.heap.size ≤ b) (o : Nat) (vs : List Value) : w.grownBy (W.setCells b o vs) row := by
  obtain ⟨h1, h2, h3, h4⟩ := setCells_same b vs o W;refine ⟨h1.trans h.os, h2.trans h.tape, h3.trans h.output, by rw [h4]; exact h.size, fun k hk hn => (setCells_far vs o k ?_).trans (h.block k hk hn)⟩;rintro rfl
  rcases hb with hb | hb
  · exact hn hb.symm
  · omega
theorem grown_refl (w : World) (row : Option Nat) : w.grownBy w row := ⟨rfl, rfl, rfl, Nat.le_refl _, fun _ _ _ => rfl⟩
/-- The row behind an insertion: what its block holds. -/
theorem own_three {w' : World} {base e z b c n : Nat} {cur : Array Value} {inner vs rest : List Value} {i : Nat} (hb : base ≤ b) (hh : w'.heap[b]? = some (.cells cur e (0, 0))) (hcur : cur.toList = inner.take (i * z) ++ vs ++ inner.drop (i * z) ++ rest)
    (hi : i ≤ n) (hvl : vs.length = z) (hil : inner.length = n * z) (hn : n + 1 ≤ c) (hc : c ≤ maxLen) (hsz : cur.size = c * z) : w'.ownsRow base e z (.slice (some ⟨b, 0, none⟩) (n + 1) c) (n + 1) (inner.take (i * z) ++ vs ++ inner.drop (i * z)) := by
  have hI : i * z ≤ n * z := Nat.mul_le_mul_right _ hi;refine ⟨?_, .inr ⟨b, c, cur, rfl, hb, hh, hn, hc, hsz, ?_⟩⟩
  · simp only [List.length_append, List.length_take, List.length_drop]
    rw [Nat.succ_mul]
    omega
  · rw [hcur, Nat.succ_mul]
    exact three_take inner vs rest (i * z) z (n * z) hI hvl hil
theorem grown_drew {w W : World} {row : Option Nat} (h : w.grownBy W row) : w.grownBy W.drew row := ⟨h.os, h.tape, h.output, h.size, h.block⟩
theorem grown_of_drew {w W : World} {row : Option Nat} (h : w.drew.grownBy W row) : w.grownBy W row := ⟨h.os, h.tape, h.output, h.size, h.block⟩
/-! ### the four ways of an insertion -/
def InsPost (w : World) (base e z n i : Nat) (row : Option Nat) (inner vs : List Value) (v : Value) (w' : World) : Prop :=
  ∃ g c, v = .slice (some ⟨g, 0, none⟩) (n + 1) c ∧ w'.ownsRow base e z v (n + 1) (inner.take (i * z) ++ vs ++ inner.drop (i * z)) ∧ w.grownBy w' row ∧ (row = some g ∨ w.heap.size ≤ g)
section
variable {w : World} {base e z b c n i : Nat} {cur : Array Value} {inner vs : List Value}
theorem post_shift (hh : w.heap[b]? = some (.cells cur e (0, 0))) (hin : cur.toList.take (n * z) = inner) (hil : inner.length = n * z) (hi : i ≤ n) (hvl : vs.length = z) (hroom : n + 1 ≤ c) (hc : c ≤ maxLen) (hsz : cur.size = c * z) (hb : base ≤ b) :
    InsPost w base e z n i (some b) inner vs (.slice (some ⟨b, 0, none⟩) (n + 1) c) ((w.drew.setCells b ((i + 1) * z) (inner.drop (i * z))).setCells b (i * z) vs) := by
  have hI : i * z ≤ n * z := Nat.mul_le_mul_right _ hi
  have hC : n * z + z ≤ c * z := by rw [← Nat.succ_mul]; exact Nat.mul_le_mul_right _ hroom
  have hdl : (inner.drop (i * z)).length = n * z - i * z := by rw [List.length_drop, hil]
  rw [Nat.succ_mul];obtain ⟨cur1, g1, s1, l1⟩ := setCells_row (inner.drop (i * z)) (i * z + z) w.drew cur hh (by rw [hdl]; omega);obtain ⟨cur2, g2, s2, l2⟩ := setCells_row vs (i * z) _ cur1 g1 (by rw [hvl, s1]; omega);refine ⟨b, c, rfl, own_three (rest := cur.toList.drop (n * z + z)) hb g2 ?_ hi hvl hil hroom hc (by rw [s2, s1, hsz]), grown_set (grown_set (grown_drew (grown_refl w (some b))) (.inl rfl) _ _) (.inl rfl) _ _, .inl rfl⟩;rw [l2, l1, hvl];exact put_at cur.toList inner vs (i * z) z (n * z) hI hvl hin (by rw [Array.length_toList]; omega)
theorem post_end_room (hh : w.heap[b]? = some (.cells cur e (0, 0))) (hin : cur.toList.take (n * z) = inner) (hil : inner.length = n * z) (hvl : vs.length = z) (hroom : n + 1 ≤ c) (hc : c ≤ maxLen) (hsz : cur.size = c * z) (hb : base ≤ b) :
    InsPost w base e z n n (some b) inner vs (.slice (some ⟨b, 0, none⟩) (n + 1) c) (w.setCells b (n * z) vs) := by
  have hC : n * z + z ≤ c * z := by rw [← Nat.succ_mul]; exact Nat.mul_le_mul_right _ hroom
  obtain ⟨cur1, g1, s1, l1⟩ := setCells_row vs (n * z) w cur hh (by rw [hvl]; omega);refine ⟨b, c, rfl, own_three (rest := cur.toList.drop (n * z + z)) hb g1 ?_ (Nat.le_refl _) hvl hil hroom hc (by rw [s1, hsz]), grown_set (grown_refl w (some b)) (.inl rfl) _ _, .inl rfl⟩;have e1 : inner.take (n * z) = inner := List.take_of_length_le (by omega);have e2 : inner.drop (n * z) = [] := List.drop_of_length_le (by omega);rw [l1, hvl, hin, e1, e2, List.append_nil]
theorem post_end_grow {row : Option Nat} {zs : Array Value} {G : Nat} (hil : inner.length = n * z) (hvl : vs.length = z) (hG : n + 1 ≤ G) (hc : G ≤ maxLen) (hzs : zs.size = (G - (n + 1)) * z) (hb : base ≤ w.heap.size) :
    InsPost w base e z n n row inner vs (.slice (some ⟨w.heap.size, 0, none⟩) (n + 1) G) (w.drew.alloc (.cells ((inner ++ vs).toArray ++ zs) e)) := by
  have hC : n * z + z ≤ G * z := by rw [← Nat.succ_mul]; exact Nat.mul_le_mul_right _ hG
  have e1 : (G - (n + 1)) * z = G * z - (n * z + z) := by rw [Nat.sub_mul, Nat.succ_mul]
  refine ⟨w.heap.size, G, rfl, own_three (cur := (inner ++ vs).toArray ++ zs) (rest := zs.toList) hb (blk_new w.drew _) ?_ (Nat.le_refl _) hvl hil hG hc ?_, grown_of_drew (World.grownBy_alloc w.drew _ row), .inr (Nat.le_refl _)⟩
  · have e3 : inner.take (n * z) = inner := List.take_of_length_le (by omega)
    have e4 : inner.drop (n * z) = [] := List.drop_of_length_le (by omega);rw [e3, e4, List.append_nil];simp
  · rw [Array.size_append, hzs, List.size_toArray, List.length_append, hil, hvl, e1]
    omega
theorem post_grow {row : Option Nat} {z1 z2 : Array Value} {G : Nat} (hi : i < n) (hil : inner.length = n * z) (hvl : vs.length = z) (hG : n + 1 ≤ G) (hc : G ≤ maxLen) (hz1 : z1.size = (n + 1 - i) * z) (hz2 : z2.size = (G - (n + 1)) * z) (hb : base ≤ w.heap.size) :
    InsPost w base e z n i row inner vs (.slice (some ⟨w.heap.size, 0, none⟩) (n + 1) G) ((((w.alloc (.cells ((inner.take (i * z)).toArray ++ z1 ++ z2) e)).drew.setCells w.heap.size (i * z) vs).drew).setCells w.heap.size ((i + 1) * z) (inner.drop (i * z))) := by
  have hI : i * z + z ≤ n * z := by rw [← Nat.succ_mul]; exact Nat.mul_le_mul_right _ hi
  have hC : n * z + z ≤ G * z := by rw [← Nat.succ_mul]; exact Nat.mul_le_mul_right _ hG
  have e1 : (G - (n + 1)) * z = G * z - (n * z + z) := by rw [Nat.sub_mul, Nat.succ_mul]
  have e2 : (n + 1 - i) * z = n * z + z - i * z := by rw [Nat.sub_mul, Nat.succ_mul]
  have ht : (inner.take (i * z)).length = i * z := by rw [List.length_take]; omega
  have hdl : (inner.drop (i * z)).length = n * z - i * z := by rw [List.length_drop, hil]
  rw [Nat.succ_mul];obtain ⟨cur1, g1, s1, l1⟩ := setCells_row (g := w.heap.size) (e := e) vs (i * z) (w.alloc (.cells ((inner.take (i * z)).toArray ++ z1 ++ z2) e)).drew _ (blk_new w _) (by rw [hvl, Array.size_append, Array.size_append, hz1, hz2, List.size_toArray, ht]; omega);obtain ⟨cur2, g2, s2, l2⟩ := setCells_row (g := w.heap.size) (e := e) (inner.drop (i * z)) (i * z + z) (((w.alloc (.cells ((inner.take (i * z)).toArray ++ z1 ++ z2) e)).drew.setCells w.heap.size (i * z) vs).drew) cur1 g1 (by rw [hdl, s1, Array.size_append, Array.size_append, hz1, hz2, List.size_toArray, ht]; omega)
  have hsz : ((inner.take (i * z)).toArray ++ z1 ++ z2).size = G * z := by rw [Array.size_append, Array.size_append, hz1, hz2, List.size_toArray, ht, e1, e2]; omega
  refine ⟨w.heap.size, G, rfl, own_three (rest := cur1.toList.drop (i * z + z + (inner.drop (i * z)).length)) hb g2 ?_ (Nat.le_of_lt hi) hvl hil hG hc (by rw [s2, s1, hsz]), grown_set (w := w) (W := ((w.alloc _).drew.setCells w.heap.size (i * z) vs).drew) (grown_drew (grown_set (w := w) (W := (w.alloc _).drew) (grown_drew (World.grownBy_alloc w _ row)) (.inr (Nat.le_refl _)) _ _)) (.inr (Nat.le_refl _)) _ _, .inr (Nat.le_refl _)⟩;rw [l2]
  congr 2
  rw [l1, hvl, List.take_left' (by simp only [List.length_append, List.length_take, Array.length_toList, Array.size_append, List.size_toArray, ht, hvl]; omega)]
  congr 1
  rw [Array.toList_append, Array.toList_append, List.append_assoc, List.take_left' ht]
end
/-! ### rows of elements -/
theorem get_ins {α : Type} (xs : List α) (x : α) (i : Nat) (hi : i ≤ xs.length) (j : Nat) : (xs.take i ++ [x] ++ xs.drop i)[j]? = if j < i then xs[j]? else if j = i then some x else xs[j - 1]? := by
  have ht : (xs.take i).length = i := by rw [List.length_take]; omega
  rw [List.append_assoc]
  split
  · rename_i h
    rw [List.getElem?_append_left (by omega), List.getElem?_take, if_pos h]
  · rename_i h
    rw [List.getElem?_append_right (by omega), ht]
    split
    · rename_i h2
      subst h2;rw [Nat.sub_self];rfl
    · rename_i h2
      obtain ⟨m, hm⟩ : ∃ m, j - i = m + 1 := ⟨j - i - 1, by omega⟩;rw [hm, List.getElem?_append_right (by simp), List.length_singleton, Nat.add_sub_cancel, List.getElem?_drop]
      congr 1
      omega
theorem ins_length {α : Type} (xs : List α) (x : α) (i : Nat) (hi : i ≤ xs.length) : (xs.take i ++ [x] ++ xs.drop i).length = xs.length + 1 := by
  simp only [List.length_append, List.length_take, List.length_drop, List.length_singleton]
  omega
section
variable {α : Type} {d : Kd α} {e base : Nat} {w : World} {ok : Nat → Prop} {u : Value} {xs : List α}
theorem inner_one {R : α → List Value → Prop} {sz : Nat} {inner : List Value} (hr : Reps R sz xs inner) (h1 : ∀ p c, R p c → ∀ v ∈ c, v.oneCell' = true) : ∀ v ∈ inner, v.oneCell' = true := by
  intro v hv;obtain ⟨q, hq, rfl⟩ := List.getElem_of_mem hv
  have hz : 0 < sz := by
    rcases Nat.eq_zero_or_pos sz with h | h
    · rw [hr.1, h, Nat.mul_zero] at hq
      omega
    · exact h
  have hj : q / sz < xs.length := by
    have := hr.1;rw [this] at hq;exact Nat.div_lt_of_lt_mul (by rw [Nat.mul_comm]; exact hq)
  have h2 := hr.2 (q / sz) _ (List.getElem?_eq_getElem hj);refine h1 _ _ h2 _ ?_;have h3 := Nat.mod_lt q hz
  have h4 : q / sz * sz + q % sz = q := by rw [Nat.mul_comm]; exact Nat.div_add_mod q sz
  refine List.mem_iff_getElem?.2 ⟨q % sz, ?_⟩;rw [List.getElem?_take, if_pos h3, List.getElem?_drop, h4, List.getElem?_eq_getElem hq]
open Classical in
/-- An element is laid into a row of elements whose rows lie apart: what came before it and behind it stays. -/
theorem S_insert (h : Kd.S d e w base ok u xs) (i : Nat) (hi : i ≤ xs.length) :
    ∃ inner, w.ownsRow base e d.sz u xs.length inner ∧ (∀ v ∈ inner, v.oneCell' = true) ∧ ∀ (w' : World) (u' : Value) (x : α) (vs : List Value), w'.ownsRow base e d.sz u' (xs.length + 1) (inner.take (i * d.sz) ++ vs ++ inner.drop (i * d.sz)) →
      d.M w' base (fun _ => False) x vs → w.grownBy w' u.ownBlock → (u'.ownBlock = u.ownBlock ∨ ∃ b, u'.ownBlock = some b ∧ w.heap.size ≤ b) → Kd.S d e w' base (fun k => ok k ∨ w.heap.size ≤ k) u' (xs.take i ++ [x] ++ xs.drop i) := by
  obtain ⟨f, h0, inner, ho, hr⟩ := h;rw [List.length_zipIdx] at ho
  have hil : inner.length = xs.length * d.sz := by have := hr.1; rw [List.length_zipIdx] at this; exact this
  refine ⟨inner, ho, inner_one hr (fun p c hp v hv => (Kd.tag f d).K_one ((Kd.tag f d).K_of_M hp) v hv), fun w' u' x vs ho' hM hg hat => ?_⟩;have hvl : vs.length = d.sz := d.K_len (d.K_of_M hM);refine ⟨fun k => if f k < i then f k else f k + 1, fun k hk => ?_, inner.take (i * d.sz) ++ vs ++ inner.drop (i * d.sz), by rw [List.length_zipIdx, ins_length _ _ _ hi]; exact ho', ?_, fun j p hp => ?_⟩
  · rcases hat with hat | ⟨b, hb, hle⟩
    · exact .inl (h0 k (hat ▸ hk))
    · rw [hb] at hk
      injection hk with hk
      exact .inr (hk ▸ hle)
  · rw [List.length_zipIdx, ins_length _ _ _ hi]
    exact ho'.1
  · rw [List.getElem?_zipIdx, Nat.zero_add] at hp
    obtain ⟨y, hy, rfl⟩ := Option.map_eq_some_iff.1 hp;rw [get_ins xs x i hi j] at hy
    have hold : ∀ m, xs[m]? = some y → (∀ k, f k = m → (if f k < i then f k else f k + 1) = j) → (Kd.tag (fun k => if f k < i then f k else f k + 1) d).M w' base (fun k => (ok k ∨ w.heap.size ≤ k) ∧ some k ≠ u'.ownBlock) (y, j) ((inner.drop (m * d.sz)).take d.sz) := by
      intro m hm hf;have h2 := hr.2 m (y, m) (Kd.zip_at hm);have h3 : d.M w base (fun k => (ok k ∧ some k ≠ u.ownBlock) ∧ f k = m) y ((inner.drop (m * d.sz)).take d.sz) := h2;have h4 := d.M_bound h3;have h5 := d.M_move (w1 := w') (fun k hk => hg.block k hk.2.2.1 hk.1.1.2) h4;refine d.M_mono (fun k hk => ?_) h5;refine ⟨⟨.inl hk.1.1.1, ?_⟩, hf k hk.1.2⟩
      rcases hat with hat | ⟨b, hb, hle⟩
      · rw [hat]; exact hk.1.1.2
      · rw [hb]
        intro he
        injection he with he
        have := hk.2.2.1
        omega
    show (Kd.tag (fun k => if f k < i then f k else f k + 1) d).M w' base _ (y, j) (((inner.take (i * d.sz) ++ vs ++ inner.drop (i * d.sz)).drop (j * d.sz)).take d.sz)
    rw [three_seg inner vs i xs.length d.sz hi hvl hil j]
    by_cases c1 : j < i
    · rw [if_pos c1] at hy ⊢
      exact hold j hy (fun k hk => by rw [hk, if_pos c1])
    · rw [if_neg c1] at hy ⊢
      by_cases c2 : j = i
      · rw [if_pos c2] at hy ⊢
        injection hy with hy
        subst hy;exact d.M_mono (fun k hk => hk.elim) hM
      · rw [if_neg c2] at hy ⊢
        exact hold (j - 1) hy (fun k hk => by rw [hk, if_neg (by omega)]; omega)
/-- The same of a flat row. -/
theorem R_insert (h : d.R e w base ok u xs) (i : Nat) (hi : i ≤ xs.length) :
    ∃ inner, w.ownsRow base e d.sz u xs.length inner ∧ (∀ v ∈ inner, v.oneCell' = true) ∧ ∀ (w' : World) (u' : Value) (x : α) (vs : List Value), w'.ownsRow base e d.sz u' (xs.length + 1) (inner.take (i * d.sz) ++ vs ++ inner.drop (i * d.sz)) →
      d.M w' base (fun _ => False) x vs → w.grownBy w' u.ownBlock → (u'.ownBlock = u.ownBlock ∨ ∃ b, u'.ownBlock = some b ∧ w.heap.size ≤ b) → d.R e w' base (fun k => ok k ∨ w.heap.size ≤ k) u' (xs.take i ++ [x] ++ xs.drop i) := by
  obtain ⟨h0, inner, ho, hr⟩ := h;have hil : inner.length = xs.length * d.sz := hr.1;refine ⟨inner, ho, inner_one hr (fun p c hp v hv => d.K_one (d.K_of_M hp) v hv), fun w' u' x vs ho' hM hg hat => ?_⟩;have hvl : vs.length = d.sz := d.K_len (d.K_of_M hM);refine ⟨fun k hk => ?_, inner.take (i * d.sz) ++ vs ++ inner.drop (i * d.sz), by rw [ins_length _ _ _ hi]; exact ho', ?_, fun j y hy => ?_⟩
  · rcases hat with hat | ⟨b, hb, hle⟩
    · exact .inl (h0 k (hat ▸ hk))
    · rw [hb] at hk
      injection hk with hk
      exact .inr (hk ▸ hle)
  · rw [ins_length _ _ _ hi]
    exact ho'.1
  · rw [get_ins xs x i hi j] at hy
    have hold : ∀ m, xs[m]? = some y → d.M w' base (fun k => (ok k ∨ w.heap.size ≤ k) ∧ some k ≠ u'.ownBlock) y ((inner.drop (m * d.sz)).take d.sz) := by
      intro m hm;have h4 := d.M_bound (hr.2 m y hm);have h5 := d.M_move (w1 := w') (fun k hk => hg.block k hk.2.2.1 hk.1.2) h4;refine d.M_mono (fun k hk => ?_) h5;refine ⟨.inl hk.1.1, ?_⟩
      rcases hat with hat | ⟨b, hb, hle⟩
      · rw [hat]; exact hk.1.2
      · rw [hb]
        intro he
        injection he with he
        have := hk.2.2.1
        omega
    rw [three_seg inner vs i xs.length d.sz hi hvl hil j]
    by_cases c1 : j < i
    · rw [if_pos c1] at hy ⊢
      exact hold j hy
    · rw [if_neg c1] at hy ⊢
      by_cases c2 : j = i
      · rw [if_pos c2] at hy ⊢
        injection hy with hy
        subst hy;exact d.M_mono (fun k hk => hk.elim) hM
      · rw [if_neg c2] at hy ⊢
        exact hold (j - 1) hy
end
end Go.Proofs.Ytcbpfofkdipjhaa.Ins
