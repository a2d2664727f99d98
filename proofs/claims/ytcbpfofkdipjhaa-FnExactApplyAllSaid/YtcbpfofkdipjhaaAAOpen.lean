/- What an argument's reading as data tells of its cells, in the print's kinds: integers, bools, strings, slices and structs of one-cell fields, in any nesting. No condition. -/
import Derived.Test.YtcbpfofkdipjhaaAAZ
import Derived.Deep.Slices
import Derived.Deep.Fields
import Derived.ChangeArms
import Derived.WideShapes
import Derived.ChangeSlices
namespace Go.Proofs.Ytcbpfofkdipjhaa.Open
open Go.RowKit Go.ChangeShapes Go.WideShapes Go.Deep Go.Proofs.YtcbpfofkdipjhaaW.PrintWords

section
variable {H : Type} (enc : TypeId × Value → H) (P : Program) (w : World)
/-- Every reading of type t tells a value of kind d. -/
def Tells {α : Type} (t : TypeId) (d : Kd α) (ok : α → Prop) : Prop :=
  ∀ (base : Nat) (spare : Nat → Bool) (held : Bool) (fuel : Nat) (cs : List Value) (x : DataW H × List MemPlace), DataW.trod enc P w base spare held fuel t cs = some x → ∃ a, d.K w a cs ∧ ok a
end
section
variable {H : Type} {enc : TypeId × Value → H} {P : Program} {w : World}
theorem tells_int {t : TypeId} {k : IntKind} (ht : P.underlying t = some (.int k)) : Tells enc P w t (Kd.int k) (fun n => (Lit.int k n).wf = true) := by
  intro base spare held fuel cs x h;obtain ⟨n, rfl, _, hw⟩ := DataW.trod_int ht h;exact ⟨n, rfl, hw⟩
theorem tells_string {t : TypeId} (ht : P.underlying t = some .string) : Tells enc P w t Kd.string (fun s => s.size ≤ maxLen) := by
  intro base spare held fuel cs x h;obtain ⟨s, rfl, _, hw⟩ := DataW.trod_string ht h;exact ⟨s, rfl, hw⟩
theorem tells_slice {α : Type} {t e : TypeId} {d : Kd α} {ok : α → Prop} (ht : P.underlying t = some (.slice e)) (hs : P.cellsOf e = d.sz) (he : Tells enc P w e d ok) :
    Tells enc P w t (Kd.slice e d) (fun l => l.length ≤ maxLen ∧ ∀ x ∈ l, ok x) := by
  intro base spare held fuel cs x h
  rcases open_slice ht h with ⟨rfl, _⟩ | ⟨a, len, cap, m, n, D, Pl, rfl, hb, hl, hm, hmm, _, hi⟩
  · refine ⟨[], ⟨none, 0, rfl, by simp, rfl, by simp, fun h0 => absurd h0 (by simp)⟩, by simp, fun x hx => by simp at hx⟩
  · have hlm : len ≤ m := by rw [hmm]; split <;> omega
    have each : ∀ i : Fin len, ∃ y : α, ∃ cs', w.cells? base (a.add (i.val * d.sz)) d.sz = some cs' ∧ d.K w y cs' ∧ ok y := by
      intro i;obtain ⟨cs', hc, hy⟩ := hi i.val (Nat.lt_of_lt_of_le i.isLt hlm);obtain ⟨y, hK, hok⟩ := he _ _ _ _ _ _ hy;rw [hs] at hc;exact ⟨y, cs', hc, hK, hok⟩
    obtain ⟨f, hf⟩ := Classical.axiomOfChoice each
    have hlen : (List.ofFn f).length = len := by simp
    refine ⟨List.ofFn f, ⟨some a, cap, by rw [hlen], by rw [hlen]; exact hl, rfl, ?_, fun h0 => ⟨a, rfl, fun j p hj => ?_⟩⟩, ?_, ?_⟩
    · rw [hlen]; unfold maxLen at hm; omega
    · obtain ⟨hjl, hp⟩ := List.getElem?_eq_some_iff.1 hj
      have hj' : j < len := by omega
      obtain ⟨cs', hc, hK, _⟩ := hf ⟨j, hj'⟩;obtain ⟨_, hcl, hat⟩ := World.cells?_some hc
      have hpe : p = f ⟨j, hj'⟩ := by rw [← hp, List.getElem_ofFn]
      refine ⟨cs', hcl, by rw [hpe]; exact hK, fun i u hu => ?_⟩
      have hil : i < d.sz := by rw [← hcl]; exact (List.getElem?_eq_some_iff.1 hu).1
      rw [← Go.Deep.add_add, hat i hil, hu]
    · rw [hlen]; omega
    · intro x hx
      obtain ⟨i, rfl⟩ := (List.mem_ofFn).1 hx;obtain ⟨_, _, _, hok⟩ := hf i;exact hok
theorem fields_of {t : TypeId} {fs : Array Field} {base : Nat} {spare : Nat → Bool} {held : Bool} {fuel : Nat} {cs : List Value} {x : DataW H × List MemPlace} (ht : P.underlying t = some (.struct fs)) (hone : oneCellFields P fs = true) (hC : P.cellsOf t = fs.size)
    (h : DataW.trod enc P w base spare held fuel t cs = some x) :
    cs.length = fs.size ∧ ∃ n, ∀ (j : Nat) (f : Field), fs[j]? = some f → ∃ v y, cs[j]? = some v ∧ DataW.trod enc P w base spare held n f.type [v] = some y := by
  obtain ⟨ys, n, _, _, hlen, hyl, hf⟩ := DataW.trod_struct ht h;rw [hC] at hlen;refine ⟨hlen, n, fun j f hj => ?_⟩;obtain ⟨ho, hk⟩ := hone_of hone j f hj;have hjl : j < fs.size := (Array.getElem?_eq_some_iff.1 hj).1;have h1 := hf j f hj;rw [ho, hk] at h1
  have hone' : (cs.drop j).take 1 = [cs[j]'(by omega)] := by
    rw [List.drop_eq_getElem_cons (by omega)];rfl
  rw [hone'] at h1;exact ⟨_, _, List.getElem?_eq_getElem (by omega), h1.trans (List.getElem?_eq_getElem (by omega))⟩
theorem list2 {α : Type} {cs : List α} {a b : α} (h : cs.length = 2) (h0 : cs[0]? = some a) (h1 : cs[1]? = some b) : cs = [a, b] := by
  match cs, h with
  | [x, y], _ => simp at h0 h1; rw [h0, h1]
theorem list5 {α : Type} {cs : List α} {a b c d e : α} (h : cs.length = 5) (h0 : cs[0]? = some a) (h1 : cs[1]? = some b) (h2 : cs[2]? = some c) (h3 : cs[3]? = some d) (h4 : cs[4]? = some e) : cs = [a, b, c, d, e] := by
  match cs, h with
  | [x, y, z, u, v], _ => simp at h0 h1 h2 h3 h4; rw [h0, h1, h2, h3, h4]
/-- An argument that is a slice. -/
theorem tells_arg_slice {α : Type} {t e : TypeId} {d : Kd α} {ok : List α → Prop} {v : Value} {x : DataW H} {ps : List MemPlace} {base : Nat} {spare : Nat → Bool} {held : Bool} {a : Option Addr} {n c : Nat} (hv : v = .slice a n c) (hT : Tells enc P w t (Kd.slice e d) ok)
    (h : DataW.Trod enc P w base spare held t v x ps) : ∃ l : List α, l.length = n ∧ n ≤ c ∧ d.C w a n l ∧ ok l := by
  obtain ⟨fuel, hf⟩ := h;obtain ⟨l, ⟨A, c', he, hl, hC⟩, hok⟩ := hT _ _ _ _ _ _ hf;subst hv;simp [Value.cells] at he;obtain ⟨rfl, rfl, rfl⟩ := he;exact ⟨l, rfl, hl, hC, hok⟩
end
end Go.Proofs.Ytcbpfofkdipjhaa.Open
