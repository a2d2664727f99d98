/- What an argument's reading as data tells of its cells, in the print's kinds: integers, bools, strings, slices and structs of one-cell fields, in any nesting. No condition. -/
import Derived.Test.YtcbpfofkdipjhaaCVZ
import Derived.Deep.Slices
import Derived.Deep.Fields
import Derived.ChangeArms
import Derived.WideShapes
import Derived.ChangeSlices
namespace Go.Proofs.Ytcbpfofkdipjhaa.Open
open Go.RowKit Go.ChangeShapes Go.WideShapes Go.Deep Go.Proofs.YtcbpfofkdipjhaaW.PrintWords

section
variable {H : Type} (enc : TypeId × Value → H) (P : Program) (w : World)
/-- Every reading of type t tells a value of kind d. -/
def Tells {α : Type} (t : TypeId) (d : Kd α) (ok : α → Prop) : Prop :=
  ∀ (base : Nat) (spare : Nat → Bool) (held : Bool) (fuel : Nat) (cs : List Value) (x : DataW H × List MemPlace), DataW.trod enc P w base spare held fuel t cs = some x → ∃ a, d.K w a cs ∧ ok a
end
section
variable {H : Type} {enc : TypeId × Value → H} {P : Program} {w : World}
theorem tells_int {t : TypeId} {k : IntKind} (ht : P.underlying t = some (.int k)) : Tells enc P w t (Kd.int k) (fun n => (Lit.int k n).wf = true) := by
  intro base spare held fuel cs x h;obtain ⟨n, rfl, _, hw⟩ := DataW.trod_int ht h;exact ⟨n, rfl, hw⟩
theorem tells_slice {α : Type} {t e : TypeId} {d : Kd α} {ok : α → Prop} (ht : P.underlying t = some (.slice e)) (hs : P.cellsOf e = d.sz) (he : Tells enc P w e d ok) :
    Tells enc P w t (Kd.slice e d) (fun l => l.length ≤ maxLen ∧ ∀ x ∈ l, ok x) := by
  intro base spare held fuel cs x h
  rcases open_slice ht h with ⟨rfl, _⟩ | ⟨a, len, cap, m, n, D, Pl, rfl, hb, hl, hm, hmm, _, hi⟩
  · refine ⟨[], ⟨none, 0, rfl, by simp, rfl, by simp, fun h0 => absurd h0 (by simp)⟩, by simp, fun x hx => by simp at hx⟩
  · have hlm : len ≤ m := by rw [hmm]; split <;> omega
    have each : ∀ i : Fin len, ∃ y : α, ∃ cs', w.cells? base (a.add (i.val * d.sz)) d.sz = some cs' ∧ d.K w y cs' ∧ ok y := by
      intro i;obtain ⟨cs', hc, hy⟩ := hi i.val (Nat.lt_of_lt_of_le i.isLt hlm);obtain ⟨y, hK, hok⟩ := he _ _ _ _ _ _ hy;rw [hs] at hc;exact ⟨y, cs', hc, hK, hok⟩
    obtain ⟨f, hf⟩ := Classical.axiomOfChoice each
    have hlen : (List.ofFn f).length = len := by simp
    refine ⟨List.ofFn f, ⟨some a, cap, by rw [hlen], by rw [hlen]; exact hl, rfl, ?_, fun h0 => ⟨a, rfl, fun j p hj => ?_⟩⟩, ?_, ?_⟩
    · rw [hlen]; unfold maxLen at hm; omega
    · obtain ⟨hjl, hp⟩ := List.getElem?_eq_some_iff.1 hj
      have hj' : j < len := by omega
      obtain ⟨cs', hc, hK, _⟩ := hf ⟨j, hj'⟩;obtain ⟨_, hcl, hat⟩ := World.cells?_some hc
      have hpe : p = f ⟨j, hj'⟩ := by rw [← hp, List.getElem_ofFn]
      refine ⟨cs', hcl, by rw [hpe]; exact hK, fun i u hu => ?_⟩
      have hil : i < d.sz := by rw [← hcl]; exact (List.getElem?_eq_some_iff.1 hu).1
      rw [← Go.Deep.add_add, hat i hil, hu]
    · rw [hlen]; omega
    · intro x hx
      obtain ⟨i, rfl⟩ := (List.mem_ofFn).1 hx;obtain ⟨_, _, _, hok⟩ := hf i;exact hok
/-- An argument that is a slice. -/
theorem tells_arg_slice {α : Type} {t e : TypeId} {d : Kd α} {ok : List α → Prop} {v : Value} {x : DataW H} {ps : List MemPlace} {base : Nat} {spare : Nat → Bool} {held : Bool} {a : Option Addr} {n c : Nat} (hv : v = .slice a n c) (hT : Tells enc P w t (Kd.slice e d) ok)
    (h : DataW.Trod enc P w base spare held t v x ps) : ∃ l : List α, l.length = n ∧ n ≤ c ∧ d.C w a n l ∧ ok l := by
  obtain ⟨fuel, hf⟩ := h;obtain ⟨l, ⟨A, c', he, hl, hC⟩, hok⟩ := hT _ _ _ _ _ _ hf;subst hv;simp [Value.cells] at he;obtain ⟨rfl, rfl, rfl⟩ := he;exact ⟨l, rfl, hl, hC, hok⟩
end
end Go.Proofs.Ytcbpfofkdipjhaa.Open
