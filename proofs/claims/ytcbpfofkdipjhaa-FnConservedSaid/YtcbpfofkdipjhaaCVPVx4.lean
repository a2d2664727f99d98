/- The machine's side of Go functions: each as a plain function,and that the call does what it says. Written by a program (wip/mprint). -/
import Derived.Test.YtcbpfofkdipjhaaCVPVx0
import Derived.Test.YtcbpfofkdipjhaaCVPVx3
import Derived.Test.YtcbpfofkdipjhaaCVIns
import Derived.Lib.Hide
import Derived.WalkKit
import Derived.Lib.Walk
import Derived.Lib.SliceRun
import Derived.Lib.JoinLaws
import Derived.Stop.Walk2
import Derived.Laws.Externs
import Derived.Shelf.RegionOpenPlain
import Derived.Lib.Hide
import Derived.Test.YtcbpfofkdipjhaaCVIns
import Derived.Lib.Hide
import Derived.WalkKit
import Derived.Lib.Walk
import Derived.Lib.SliceRun
import Derived.Lib.JoinLaws
import Derived.Stop.Walk2
import Derived.Laws.Externs
import Derived.Shelf.RegionOpenPlain
namespace Go.Proofs.Ytcbpfofkdipjhaa.PV
open Go.RowKit Go.Proofs.YtcbpfofkdipjhaaW.PrintWords Go.Proofs.YtcbpfofkdipjhaaW.PrintLast Go.Proofs.YtcbpfofkdipjhaaW.PrintMore
set_option maxHeartbeats 8000000
set_option maxRecDepth 100000
attribute [local go_sem] max2_int min2_int max_two min_two max_three min_three max_four min_four   -- for this text's walks alone
set_option linter.unusedVariables false
set_option linter.unusedSimpArgs false

/-! ### impl_Acct_122: function 122 -/
theorem impl_Acct_122.shift (b n c i vb m vc : Nat) (cs vs : List Value) (w : World) (hi : i < n) (hm : 0 < m) (hroom : n + m ≤ c) (hc63 : c ≤ 9223372036854775807) (hvb : vb ≠ b)
  (hcl : cs.length = n * 5) (hvl : vs.length = m * 5)
  (hcs : ∀ j v,cs[j]? = some v → w.cell? ⟨b,j,none⟩ = some v) (hsp : ∀ j,j < (n + m) * 5 → (w.cell? ⟨b,j,none⟩).isSome = true) (hfz : ∀ j,w.frozen? ⟨b,j,none⟩ = false)
  (hvs : ∀ j v,vs[j]? = some v → w.cell? ⟨vb,j,none⟩ = some v) (h1c : ∀ v ∈ cs,v.oneCell' = true) (h1v : ∀ v ∈ vs,v.oneCell' = true)
  (tA tB : TypeId) (kA kB : Nat) (hsa : w.shape? vb = some (tA,kA)) (hsb : w.shape? b = some (tB,kB)) (hkB : kB ≠ 0) (hfa : w.frozen? ⟨vb,0,none⟩ = false) (hfe : w.frozen? ⟨vb,kA,none⟩ = false) :
  Calls Try.prog 122 #[.slice (some ⟨b,0,none⟩) n c,.int .i64 i,.slice (some ⟨vb,0,none⟩) m vc] w fun e w' =>
   e = .returned (.slice (some ⟨b,0,none⟩) (n + m) c) ∧ w' = (w.drew.setCells b ((i + m) * 5) (cs.drop (i * 5))).setCells b (i * 5) vs := by
 obtain ⟨i0,hi0,hz0,hzs,hzb⟩ := info_parts info63
 have hz1 : ¬ ((m : Int) = 0) := by omega
 have hz2 : ¬ ((i : Int) = (n : Int)) := by omega
 have hsz : (Try.prog.info? 63).map (·.size) = some 5 := by rw [hi0]; simp [hzs]
 have hzz : ∀ w,(Go.sizeOf 63).run Try.prog w = .ok 5 w := fun w => by simp [sizeOf,typeInfo,hi0,hzs]
 have hov : ∀ lb cb,(callFunc 137 #[.slice (some ⟨vb,0,none⟩) m vc,.slice (some ⟨b,(i + m) * 5,none⟩) lb cb]).run Try.prog w = .ok (.value (.bool false)) w := fun lb cb => by
  rw [run_callFunc_extern (f := 137) (fn := Try.f137) (by kernel_rfl) (by kernel_rfl) (by kernel_rfl) (by kernel_rfl) (e := Extern.SlicesOverlaps.overlaps #[29,29] #[4]) (by kernel_rfl),
   Lib.run_overlaps_apart w 29 4 63 Try.underlying29 5 hzz ⟨vb,0,none⟩ ⟨b,(i + m) * 5,none⟩ m vc lb cb hvb tA tB kA kB hsa hsb hkB hfa hfe]
  rfl
 have hdl : (cs.drop (i * 5)).length = (n - i) * 5 := by rw [List.length_drop,hcl]; omega
 have hw1 : IntKind.i64.wrap ((i : Int) + (m : Int)) = (i : Int) + (m : Int) := by rw [IntKind.wrap_i64]; omega
 have hb1 : (0 : Int) ≤ (i : Int) + (m : Int) := by omega
 have hin : i ≤ n := by omega
 have htn : ((i : Int) + (m : Int)).toNat = i + m := by omega
 have hb2 : ¬ (c = i + m) := by omega
 have hb3 : (i : Int) ≤ (n : Int) + (m : Int) := by omega
 have hb4 : ¬ (c = i) := by omega
 have hcp1 : ∀ ty dc sc,(Builtin.copy_ #[29,29] ty #[.slice (some ⟨b,(i + m) * 5,none⟩) (n + m - (i + m)) dc,.slice (some ⟨b,i * 5,none⟩) (n + m - i) sc]).run Try.prog w.drew = .ok (goInt (n - i : Nat)) (w.drew.setCells b ((i + m) * 5) (cs.drop (i * 5))) := fun ty dc sc =>
  Ins.run_copy_wide w.drew _ _ ty 63 b ((i + m) * 5) (n + m - (i + m)) dc ⟨b,i * 5,none⟩ (n + m - i) sc 5 (n - i) (cs.drop (i * 5)) Try.underlying29 hsz (by simp only [Nat.min_def]; split <;> omega) hdl
   (fun j v hj => by rw [Addr.add_lit]; exact hcs (i * 5 + j) v (by rwa [List.getElem?_drop] at hj))
   (fun j hj => hsp _ (by rw [hdl] at hj; omega)) (fun j hj => hfz _) (fun v hv => h1c v (List.mem_of_mem_drop hv))
 obtain ⟨W1,hW1⟩ : ∃ W1,W1 = w.drew.setCells b ((i + m) * 5) (cs.drop (i * 5)) := ⟨_,rfl⟩
 have hsp1 : ∀ k,k < (n + m) * 5 → (W1.cell? ⟨b,k,none⟩).isSome = true := fun k hk => by
  rw [hW1];exact Ins.isSome_setCells b _ _ w.drew (fun j hj => hsp ((i + m) * 5 + j) (by rw [hdl] at hj; omega)) _ (hsp k hk)
 have hcp2 : ∀ (W : World),(∀ x,W.cell? x = W1.cell? x) → (∀ x,W.frozen? x = W1.frozen? x) → ∀ ty dc,(Builtin.copy_ #[29,29] ty #[.slice (some ⟨b,i * 5,none⟩) (n + m - i) dc,.slice (some ⟨vb,0,none⟩) m vc]).run Try.prog W = .ok (goInt m) (W.setCells b (i * 5) vs) := fun W hWc hWf ty dc =>
  Ins.run_copy_wide W _ _ ty 63 b (i * 5) (n + m - i) dc ⟨vb,0,none⟩ m vc 5 m vs Try.underlying29 hsz (by simp only [Nat.min_def]; split <;> omega) hvl
   (fun j v hj => by
    rw [Addr.add_lit,hWc,hW1,World.cell?_setCells_out b _ _ _ _ (fun h _ => absurd h hvb),Nat.zero_add]
    exact hvs j v hj)
   (fun j hj => by rw [hWc]; exact hsp1 _ (by rw [hvl] at hj; omega)) (fun j hj => by rw [hWf,hW1,World.frozen?_setCells]; exact hfz _) h1v
 rw [← hW1] at hcp1
 have mixed : Try.prog.follows Departure.mixedOrders = true := by kernel_rfl
 go_enter Try.func122,Try.ntmps122
 go_wp2_with (simp only [hov])
 go_region_law_o (refine Ins.step_copy rfl _ _ 29 29 rfl _ _ (by simp [Act.eval,Act.put]) (by simp [Act.eval,Act.put]) (hcp1 _ _ _) ?_)
 go_wp2_with (at_builtin; refine Ins.wpList_copy _ rfl _ _ 29 29 rfl _ _ rfl rfl (hcp2 _ (fun _ => rfl) (fun _ => rfl) _ _) ?_)
 go_ret;exact ⟨rfl,rfl⟩
theorem impl_Acct_122.end_room (b n c vb m vc : Nat) (vs : List Value) (w : World) (hm : 0 < m) (hroom : n + m ≤ c) (hc63 : c ≤ 9223372036854775807)
  (hvl : vs.length = m * 5) (hsp : ∀ j,j < m * 5 → (w.cell? ⟨b,n * 5 + j,none⟩).isSome = true) (hfz : ∀ j,w.frozen? ⟨b,j,none⟩ = false)
  (hvs : ∀ j v,vs[j]? = some v → w.cell? ⟨vb,j,none⟩ = some v) (h1v : ∀ v ∈ vs,v.oneCell' = true) :
  Calls Try.prog 122 #[.slice (some ⟨b,0,none⟩) n c,.int .i64 n,.slice (some ⟨vb,0,none⟩) m vc] w fun e w' =>
   e = .returned (.slice (some ⟨b,0,none⟩) (n + m) c) ∧ w' = w.setCells b (n * 5) vs := by
 obtain ⟨i0,hi0,hz0,hzs,hzb⟩ := info_parts info63
 have hz1 : ¬ ((m : Int) = 0) := by omega
 have hb4 : ¬ (c = n) := by omega
 have hsrc : Src Try.prog i0.size 29 (.slice (some ⟨vb,0,none⟩) m vc) m vs w := by
  rw [hzs];exact Src.ofSlice w Try.underlying29 ⟨vb,0,none⟩ m vc vs hvl (fun j u hj => by rw [Addr.add_lit,Nat.zero_add]; exact hvs j u hj) h1v
 have hrun : ∀ ty,(Builtin.append_ #[29,29] ty #[.slice (some ⟨b,0,none⟩) n c,.slice (some ⟨vb,0,none⟩) m vc]).run Try.prog w = .ok (.slice (some ⟨b,0,none⟩) (n + m) c) (w.setCells b (n * 5) vs) := fun ty => by
  have h := run_append_room_src w 29 29 ty 63 i0 Try.underlying29 hi0 b 0 n c _ m vs hsrc hroom (by rw [hvl,hzs,Nat.zero_add]; exact hsp) (fun j _ => hfz _);rw [hzs,Nat.zero_add] at h;exact h
 go_enter Try.func122,Try.ntmps122
 go_wp2_with (at_builtin; refine Lib.wpList_append_run _ rfl _ _ _ _ rfl _ _ rfl rfl _ _ (hrun _) ?_)
 go_ret;exact ⟨rfl,rfl⟩
theorem impl_Acct_122.end_grow (base : Option Addr) (n c vb m vc : Nat) (cs vs : List Value) (w : World) (hm : 0 < m) (hnc : n ≤ c) (hroom : c < n + m) (hbig : (n + m) * 64 ≤ 140737488355328)
  (hcl : cs.length = n * 5) (hvl : vs.length = m * 5) (hnil : base = none → n = 0)
  (hcs : ∀ a,base = some a → ∀ j v,cs[j]? = some v → w.cell? (a.add j) = some v)
  (hvs : ∀ j v,vs[j]? = some v → w.cell? ⟨vb,j,none⟩ = some v) (h1v : ∀ v ∈ vs,v.oneCell' = true) :
  Calls Try.prog 122 #[.slice base n c,.int .i64 n,.slice (some ⟨vb,0,none⟩) m vc] w fun e w' =>
   e = .returned (.slice (some ⟨w.heap.size,0,none⟩) (n + m) (grownCap w (n + m) c 63)) ∧
   w' = w.drew.alloc (.cells ((cs ++ vs).toArray ++ Builtin.zeroCells (.agg #[.string ⟨#[]⟩,.int .i64 0,.int .i64 0,.int .i64 0,.slice none 0 0] : Value).cells (grownCap w (n + m) c 63 - (n + m))) 63) := by
 obtain ⟨i0,hi0,hz0,hzs,hzb⟩ := info_parts info63
 have hz1 : ¬ ((m : Int) = 0) := by omega
 have hsrc : Src Try.prog i0.size 29 (.slice (some ⟨vb,0,none⟩) m vc) m vs w := by
  rw [hzs];exact Src.ofSlice w Try.underlying29 ⟨vb,0,none⟩ m vc vs hvl (fun j u hj => by rw [Addr.add_lit,Nat.zero_add]; exact hvs j u hj) h1v
 have hold : (Builtin.firstCells i0.size n (.slice base n c)).run Try.prog w.drew = .ok cs.toArray w.drew := by
  rw [hzs]
  cases base with
  | none =>
   have h0 := hnil rfl;subst h0;rw [List.length_eq_zero_iff.1 (hcl.trans (Nat.zero_mul _))];exact run_firstCells_none w.drew 5 0 0 c
  | some a => exact run_firstCells_some w.drew 5 n a n c cs hcl (fun j v hj => hcs a rfl j v hj)
 have hrun : ∀ ty,(Builtin.append_ #[29,29] ty #[.slice base n c,.slice (some ⟨vb,0,none⟩) m vc]).run Try.prog w = _ := fun ty =>
  run_append_grow_src w 29 29 ty 63 i0 _ Try.underlying29 hi0 hz0 base n c cs hold _ m vs hsrc hroom (by omega) (by rw [hzb]; exact growslice_fits hroom hbig)
 go_enter Try.func122,Try.ntmps122
 cases base with
 | none =>
  have h0 := hnil rfl;subst h0
  go_wp2_with (at_builtin; refine Lib.wpList_append_run _ rfl _ _ _ _ rfl _ _ rfl rfl _ _ (hrun _) ?_)
  go_ret;exact ⟨rfl,rfl⟩
 | some a =>
  obtain ⟨ab,ao,asp⟩ := a
  go_wp2_with (at_builtin; refine Lib.wpList_append_run _ rfl _ _ _ _ rfl _ _ rfl rfl _ _ (hrun _) ?_)
  all_goals (go_ret; exact ⟨rfl,rfl⟩)
theorem impl_Acct_122.grow (b n c i vb m vc : Nat) (cs vs : List Value) (w : World) (hi : i < n) (hm : 0 < m) (hnc : n ≤ c) (hroom : c < n + m) (hbig : (n + m) * 64 ≤ 140737488355328)
  (hcl : cs.length = n * 5) (hvl : vs.length = m * 5) (hbw : b < w.heap.size) (hvw : vb < w.heap.size)
  (hcs : ∀ j v,cs[j]? = some v → w.cell? ⟨b,j,none⟩ = some v)
  (hvs : ∀ j v,vs[j]? = some v → w.cell? ⟨vb,j,none⟩ = some v) (h1c : ∀ v ∈ cs,v.oneCell' = true) (h1v : ∀ v ∈ vs,v.oneCell' = true) :
  Calls Try.prog 122 #[.slice (some ⟨b,0,none⟩) n c,.int .i64 i,.slice (some ⟨vb,0,none⟩) m vc] w fun e w' =>
   e = .returned (.slice (some ⟨w.heap.size,0,none⟩) (n + m) (grownCap w (n + m) c 63)) ∧
   w' = (((w.alloc (.cells ((cs.take (i * 5)).toArray ++ Builtin.zeroCells (.agg #[.string ⟨#[]⟩,.int .i64 0,.int .i64 0,.int .i64 0,.slice none 0 0] : Value).cells (n + m - i) ++ Builtin.zeroCells (.agg #[.string ⟨#[]⟩,.int .i64 0,.int .i64 0,.int .i64 0,.slice none 0 0] : Value).cells (grownCap w (n + m) c 63 - (n + m))) 63)).drew.setCells w.heap.size (i * 5) vs).drew).setCells w.heap.size ((i + m) * 5) (cs.drop (i * 5)) := by
 have mixed : Try.prog.follows Departure.mixedOrders = true := by kernel_rfl
 obtain ⟨i0,hi0,hz0,hzs,hzb⟩ := info_parts info63
 have hz1 : ¬ ((m : Int) = 0) := by omega
 have hz2 : ¬ ((i : Int) = (n : Int)) := by omega
 have hz3 : (c : Int) < (n : Int) + (m : Int) := by omega
 have hsz : (Try.prog.info? 63).map (·.size) = some 5 := by rw [hi0]; simp [hzs]
 have hkk : (n : Int) + (m : Int) - (i : Int) = ((n + m - i : Nat) : Int) := by omega
 have hik : i + (n + m - i) = n + m := by omega
 have hold : (Builtin.firstCells i0.size i (.slice (some ⟨b,0,none⟩) i c)).run Try.prog w.drew = .ok (cs.take (i * 5)).toArray w.drew := by
  rw [hzs]
  exact run_firstCells_some w.drew 5 i ⟨b,0,none⟩ i c (cs.take (i * 5)) (by rw [List.length_take]; omega) (fun j v hj => by
   rw [Addr.add_lit,Nat.zero_add];rw [List.getElem?_take] at hj
   split at hj
   ·exact hcs j v hj
   ·cases hj)
 have hrz : ∀ ty,(Builtin.append_ #[29,3] ty #[.slice (some ⟨b,0,none⟩) i c,.int .i64 ((n : Int) + (m : Int) - (i : Int))]).run Try.prog w =
   .ok (.slice (some ⟨w.heap.size,0,none⟩) (n + m) (grownCap w (n + m) c 63)) (w.drew.alloc (.cells ((cs.take (i * 5)).toArray ++ Builtin.zeroCells (.agg #[.string ⟨#[]⟩,.int .i64 0,.int .i64 0,.int .i64 0,.slice none 0 0] : Value).cells (n + m - i) ++ Builtin.zeroCells (.agg #[.string ⟨#[]⟩,.int .i64 0,.int .i64 0,.int .i64 0,.slice none 0 0] : Value).cells (grownCap w (n + m) c 63 - (n + m))) 63)) := fun ty => by
  have h := Lib.run_append_grow_zeros w 29 3 ty 63 i0 _ .i64 .i64 Try.underlying29 Try.underlying3 hi0 hz0 (some ⟨b,0,none⟩) i c (cs.take (i * 5)) hold (n + m - i) (by omega) (by omega) (by omega) (by omega) (by rw [hzb]; omega) (by rw [hzb,hik]; exact growslice_fits hroom hbig);rw [hik] at h;rw [hkk];exact h
 obtain ⟨G,hG⟩ : ∃ G,G = grownCap w (n + m) c 63 := ⟨_,rfl⟩;obtain ⟨ROW,hROW⟩ : ∃ ROW : Array Value,ROW = (cs.take (i * 5)).toArray ++ Builtin.zeroCells (.agg #[.string ⟨#[]⟩,.int .i64 0,.int .i64 0,.int .i64 0,.slice none 0 0] : Value).cells (n + m - i) ++ Builtin.zeroCells (.agg #[.string ⟨#[]⟩,.int .i64 0,.int .i64 0,.int .i64 0,.slice none 0 0] : Value).cells (G - (n + m)) := ⟨_,rfl⟩;rw [← hG] at hrz ⊢;rw [← hROW] at hrz ⊢
 have hzc : ∀ k,(Builtin.zeroCells (.agg #[.string ⟨#[]⟩,.int .i64 0,.int .i64 0,.int .i64 0,.slice none 0 0] : Value).cells k).size = k * 5 := fun k => Ins.zeroCells_size _ k 5 rfl
 have hRl : (n + m) * 5 ≤ ROW.size := by
  rw [hROW,Array.size_append,Array.size_append,hzc,hzc,List.size_toArray,List.length_take]
  omega
 obtain ⟨W1,hW1⟩ : ∃ W1,W1 = w.drew.alloc (.cells ROW 63) := ⟨_,rfl⟩;rw [← hW1] at hrz
 have hN : ∀ j,j < (n + m) * 5 → (W1.cell? ⟨w.heap.size,j,none⟩).isSome = true := fun j hj => by
  rw [hW1,World.cell?_alloc_at (w := w.drew) ROW _ w.heap.size j rfl,Array.getElem?_eq_getElem (by omega)]; rfl
 have hNf : ∀ j,W1.frozen? ⟨w.heap.size,j,none⟩ = false := fun j => by rw [hW1]; exact World.frozen?_alloc_at (w := w.drew) ROW _ w.heap.size j rfl
 have hOb : ∀ j v,w.cell? ⟨b,j,none⟩ = some v → W1.cell? ⟨b,j,none⟩ = some v := fun j v h => by rw [hW1,World.cell?_alloc_past (w := w.drew) _ b j hbw]; exact h
 have hOv : ∀ j v,w.cell? ⟨vb,j,none⟩ = some v → W1.cell? ⟨vb,j,none⟩ = some v := fun j v h => by rw [hW1,World.cell?_alloc_past (w := w.drew) _ vb j hvw]; exact h
 have hcpA : ∀ (W : World),(∀ x,W.cell? x = W1.cell? x) → (∀ x,W.frozen? x = W1.frozen? x) → ∀ ty dc,(Builtin.copy_ #[29,29] ty #[.slice (some ⟨w.heap.size,i * 5,none⟩) (n + m - i) dc,.slice (some ⟨vb,0,none⟩) m vc]).run Try.prog W = .ok (goInt m) (W.setCells w.heap.size (i * 5) vs) := fun W hWc hWf ty dc =>
  Ins.run_copy_wide W _ _ ty 63 w.heap.size (i * 5) (n + m - i) dc ⟨vb,0,none⟩ m vc 5 m vs Try.underlying29 hsz (by simp only [Nat.min_def]; split <;> omega) hvl
   (fun j v hj => by rw [Addr.add_lit,hWc,Nat.zero_add]; exact hOv _ v (hvs j v hj))
   (fun j hj => by rw [hWc]; exact hN _ (by rw [hvl] at hj; omega)) (fun j hj => by rw [hWf]; exact hNf _) h1v
 have hGn : n + m ≤ G := by rw [hG]; exact grownCap_ge w _ _ _
 have hG63 : G ≤ 9223372036854775807 := by
  have := grownCap_le_maxLen w (n + m) c 63 (by unfold maxLen; omega);rw [← hG] at this;unfold maxLen at this
  omega
 have hGi : ¬ (G = i) := by omega
 have hGim : ¬ (G = i + m) := by omega
 have hci : ¬ (c = i) := by omega
 have hbN : b ≠ w.heap.size := by omega
 have hdl : (cs.drop (i * 5)).length = (n - i) * 5 := by rw [List.length_drop,hcl]; omega
 have hcpB : ∀ (W : World),(∀ x,W.cell? x = (W1.setCells w.heap.size (i * 5) vs).cell? x) → (∀ x,W.frozen? x = (W1.setCells w.heap.size (i * 5) vs).frozen? x) → ∀ ty dc sc,(Builtin.copy_ #[29,29] ty #[.slice (some ⟨w.heap.size,(i + m) * 5,none⟩) (n + m - (i + m)) dc,.slice (some ⟨b,i * 5,none⟩) (n - i) sc]).run Try.prog W = .ok (goInt (n - i : Nat)) (W.setCells w.heap.size ((i + m) * 5) (cs.drop (i * 5))) := fun W hWc hWf ty dc sc =>
  Ins.run_copy_wide W _ _ ty 63 w.heap.size ((i + m) * 5) (n + m - (i + m)) dc ⟨b,i * 5,none⟩ (n - i) sc 5 (n - i) (cs.drop (i * 5)) Try.underlying29 hsz (by simp only [Nat.min_def]; split <;> omega) hdl
   (fun j v hj => by
    rw [Addr.add_lit,hWc,World.cell?_setCells_out _ _ _ _ _ (fun h _ => absurd h hbN)]
    exact hOb _ v (hcs (i * 5 + j) v (by rwa [List.getElem?_drop] at hj)))
   (fun j hj => by rw [hWc]; exact Ins.isSome_setCells _ _ _ W1 (fun t ht => hN (i * 5 + t) (by rw [hvl] at ht; omega)) _ (hN _ (by rw [hdl] at hj; omega)))
   (fun j hj => by rw [hWf,World.frozen?_setCells]; exact hNf _) (fun v hv => h1c v (List.mem_of_mem_drop hv))
 subst hW1
 have hE1 : ∀ x,((w.alloc (.cells ROW 63)).drew).cell? x = (w.drew.alloc (.cells ROW 63)).cell? x := fun x => rfl
 have hE2 : ∀ x,((w.alloc (.cells ROW 63)).drew).frozen? x = (w.drew.alloc (.cells ROW 63)).frozen? x := fun x => rfl
 have hF1 : ∀ x,(((w.alloc (.cells ROW 63)).drew.setCells w.heap.size (i * 5) vs).drew).cell? x = ((w.drew.alloc (.cells ROW 63)).setCells w.heap.size (i * 5) vs).cell? x := fun x => by rfl
 have hF2 : ∀ x,(((w.alloc (.cells ROW 63)).drew.setCells w.heap.size (i * 5) vs).drew).frozen? x = ((w.drew.alloc (.cells ROW 63)).setCells w.heap.size (i * 5) vs).frozen? x := fun x => by rfl
 have hw1 : IntKind.i64.wrap ((i : Int) + (m : Int)) = (i : Int) + (m : Int) := by rw [IntKind.wrap_i64]; omega
 have hb1 : (0 : Int) ≤ (i : Int) + (m : Int) := by omega
 have hin : i ≤ n := by omega
 have htn : ((i : Int) + (m : Int)).toNat = i + m := by omega
 have hb3 : (i : Int) ≤ (n : Int) := by omega
 clear hkk hik hold hROW hG hRl;go_enter Try.func122,Try.ntmps122
 go_wp2_with (first
  | (at_builtin; refine Lib.wpList_append_run _ rfl _ _ _ _ rfl _ _ rfl rfl _ _ (hrz _) ?_)
  | (at_builtin; refine Ins.wpList_copy _ rfl _ _ 29 29 rfl _ _ rfl rfl (hcpA _ hE1 hE2 _ _) ?_)
  | (at_builtin; refine Ins.wpList_copy _ rfl _ _ 29 29 rfl _ _ rfl rfl (hcpB _ (fun _ => rfl) (fun _ => rfl) _ _ _) ?_))
 go_region_law_o (refine Ins.step_copy rfl _ _ 29 29 rfl (.slice (some ⟨w.heap.size,(i + m) * 5,none⟩) (n + m - (i + m)) (G - (i + m))) (.slice (some ⟨b,i * 5,none⟩) (n - i) (c - i)) (by simp [Act.eval,Act.put]) (by simp [Act.eval,Act.put]) (hcpB _ hF1 hF2 3 (G - (i + m)) (c - i)) ?_)
 go_wp2;go_ret;exact ⟨rfl,rfl⟩
set_option maxHeartbeats 4000000 in
theorem impl_Acct_122.own (w : World) (base n c i vb : Nat) (A : Option Addr) (inner vs : List Value) (hown : w.ownsRow base 63 5 (.slice A n c) n inner) (hi : i ≤ n) (hvb : w.heap[vb]? = some (.cells vs.toArray 63 (0,0))) (hvl : vs.length = 5) (hne : (Value.slice A n c).ownBlock ≠ some vb)
  (hbig : (n + 1) * 64 ≤ 140737488355328) (h1c : ∀ v ∈ inner,v.oneCell' = true) (h1v : ∀ v ∈ vs,v.oneCell' = true) (hbase : base ≤ w.heap.size) :
  Calls Try.prog 122 #[.slice A n c,.int .i64 i,.slice (some ⟨vb,0,none⟩) 1 1] w fun e w' => ∃ v,e = .returned v ∧ Ins.InsPost w base 63 5 n i (Value.slice A n c).ownBlock inner vs v w' := by
 have hvw : vb < w.heap.size := blk_lt hvb
 have hvs : ∀ j v,vs[j]? = some v → w.cell? ⟨vb,j,none⟩ = some v := fun j v hj => (blk_cell hvb j).trans (by rw [List.getElem?_toArray]; exact hj)
 have hvl1 : vs.length = 1 * 5 := by rw [hvl]
 have hzc : ∀ k,(Builtin.zeroCells (.agg #[.string ⟨#[]⟩,.int .i64 0,.int .i64 0,.int .i64 0,.slice none 0 0] : Value).cells k).size = k * 5 := fun k => Ins.zeroCells_size _ k 5 rfl
 have hG1 : ∀ c,n + 1 ≤ grownCap w (n + 1) c 63 := fun c => grownCap_ge w _ _ _
 have hG2 : ∀ c,grownCap w (n + 1) c 63 ≤ maxLen := fun c => grownCap_le_maxLen w (n + 1) c 63 (by unfold maxLen; omega)
 obtain ⟨hil,ho⟩ := hown
 rcases ho with ⟨hv,h0⟩ | ⟨g,cap,cur,hv,hb,hh,hnc,hcm,hcs,ht⟩
 ·injection hv with hA _ hc
  subst hA;subst hc;subst h0
  obtain rfl : i = 0 := by omega
  refine (impl_Acct_122.end_grow none 0 0 vb 1 1 inner vs w (by omega) (by omega) (by omega) hbig hil hvl1 (fun _ => rfl) (fun a h => by cases h) hvs h1v).mono ?_;rintro e w' ⟨rfl,rfl⟩;exact ⟨_,rfl,Ins.post_end_grow hil hvl (hG1 0) (hG2 0) (hzc _) hbase⟩
 ·injection hv with hA _ hc
  subst hA;subst hc
  have hne' : vb ≠ g := fun h => hne (by rw [h]; rfl)
  have hcell : ∀ j v,inner[j]? = some v → w.cell? ⟨g,j,none⟩ = some v := by
   intro j v hj;have hjl : j < inner.length := (List.getElem?_eq_some_iff.1 hj).1;rw [blk_cell hh j,← Array.getElem?_toList];rw [← ht,List.getElem?_take] at hj
   split at hj
   ·exact hj
   ·cases hj
  have hfz : ∀ j,w.frozen? ⟨g,j,none⟩ = false := fun j => blk_frozen hh j
  have hsome : ∀ j,j < c * 5 → (w.cell? ⟨g,j,none⟩).isSome = true := fun j hj => by
   rw [blk_cell hh j,Array.getElem?_eq_getElem (by omega)];rfl
  have hc63 : c ≤ 9223372036854775807 := by unfold maxLen at hcm; exact hcm
  by_cases hin : i = n
  ·subst hin
   by_cases hroom : i + 1 ≤ c
   ·refine (impl_Acct_122.end_room g i c vb 1 1 vs w (by omega) hroom hc63 hvl1 (fun j hj => hsome _ (by omega)) hfz hvs h1v).mono ?_;rintro e w' ⟨rfl,rfl⟩;exact ⟨_,rfl,Ins.post_end_room hh ht hil hvl hroom hcm hcs hb⟩
   ·refine (impl_Acct_122.end_grow (some ⟨g,0,none⟩) i c vb 1 1 inner vs w (by omega) hnc (by omega) hbig hil hvl1 (fun h => by cases h) (fun a h j v hj => by injection h with h; subst h; rw [Addr.add_lit,Nat.zero_add]; exact hcell j v hj) hvs h1v).mono ?_;rintro e w' ⟨rfl,rfl⟩;exact ⟨_,rfl,Ins.post_end_grow hil hvl (hG1 _) (hG2 _) (hzc _) hbase⟩
  ·have hlt : i < n := by omega
   by_cases hroom : n + 1 ≤ c
   ·refine (impl_Acct_122.shift g n c i vb 1 1 inner vs w hlt (by omega) hroom hc63 hne' hil hvl1 hcell (fun j hj => hsome _ (by omega)) hfz hvs h1c h1v 63 63 vs.toArray.size cur.size (by simp only [World.shape?,hvb]) (by simp only [World.shape?,hh]) (by omega) (blk_frozen hvb 0) (blk_frozen hvb _)).mono ?_;rintro e w' ⟨rfl,rfl⟩;exact ⟨_,rfl,Ins.post_shift hh ht hil hi hvl hroom hcm hcs hb⟩
   ·refine (impl_Acct_122.grow g n c i vb 1 1 inner vs w hlt (by omega) hnc (by omega) hbig hil hvl1 (blk_lt hh) hvw hcell hvs h1c h1v).mono ?_;rintro e w' ⟨rfl,rfl⟩;exact ⟨_,rfl,Ins.post_grow hlt hil hvl (hG1 _) (hG2 _) (hzc _) (hzc _) hbase⟩
/-- An element is laid into a row of the call's own,at a place: what that row's block held may be elsewhere now; nothing else has changed. -/
theorem impl_Acct_122.calls (P0_ : Nat → Prop) (u0_ : Value) (l0 : List S63) (i vb : Nat) (x : S63) (vs : List Value) (w0 w : World) (hB : Below w0.heap.size w0 w) (ho0 : Kd.S k63 63 w w0.heap.size P0_ u0_ l0) (hi : i ≤ l0.length) (hvb : w.heap[vb]? = some (.cells vs.toArray 63 (0,0)))
  (hM : ∀ w' : World,k63.M w' w0.heap.size (fun _ => False) x vs) (hne : ¬ P0_ vb) (hbig : (l0.length + 1) * 64 ≤ 140737488355328) :
  Calls Try.prog 122 #[u0_,.int .i64 i,.slice (some ⟨vb,0,none⟩) 1 1] w fun e w' => ∃ v,e = .returned v ∧ Kd.S k63 63 w' w0.heap.size (fun k_ => P0_ k_ ∨ w.heap.size ≤ k_) v (l0.take i ++ [x] ++ l0.drop i) ∧ Below w0.heap.size w0 w' ∧ Kept w w' P0_ := by
 obtain ⟨A,c,rfl⟩ := Kd.S_slice ho0;obtain ⟨inner,hown,h1c,hback⟩ := Ins.S_insert ho0 i hi
 have hP : ∀ k,(Value.slice A l0.length c).ownBlock = some k → P0_ k := fun k hk => (Kd.S_R ho0).1 k hk
 have hBs : ∀ k,(Value.slice A l0.length c).ownBlock = some k → w0.heap.size ≤ k := Kd.S_base ho0;refine (impl_Acct_122.own w w0.heap.size l0.length c i vb A inner vs hown hi hvb (k63.K_len (k63.K_of_M (hM w))) (fun h => hne (hP vb h)) hbig h1c (fun v hv => k63.K_one (k63.K_of_M (hM w)) v hv) hB.size).mono ?_;rintro e w' ⟨v,rfl,g,c',rfl,ho,hg,hat⟩;refine ⟨_,rfl,hback w' _ x vs ho (hM w') hg (hat.elim (fun h => .inl h.symm) (fun h => .inr ⟨g,rfl,h⟩)),?_,Kept.of_grown hg (Kept.refl w P0_) (fun k hk => .inl (hP k hk))⟩;exact ⟨hg.os.trans hB.os,hg.tape.trans hB.tape,hg.output.trans hB.output,Nat.le_trans hB.size hg.size,fun k hk => (hg.block k (Nat.lt_of_lt_of_le hk hB.size) (fun h => by have := hBs k h.symm; omega)).trans (hB.block k hk)⟩

/-! ### impl_credited: function 88 -/
def impl_credited.pl (l : List S63) (nm : ByteArray) : Nat → Nat → Nat
 | 0,i => i
 | d + 1,i => if Op.bytesLess (l.getD i z63).f0.toList nm.toList = true then impl_credited.pl l nm d (i + 1) else i
theorem impl_credited.pl_le (l : List S63) (nm : ByteArray) : ∀ d i,impl_credited.pl l nm d i ≤ i + d
 | 0,i => Nat.le_refl _
 | d + 1,i => by
  unfold impl_credited.pl
  split
  ·have := impl_credited.pl_le l nm d (i + 1); omega
  ·omega
def impl_credited.f (l0 : List S63) (nm : ByteArray) (n : Int) : Option (List S63) :=
 if l0.length < 1000000000000 then (if 0 ≤ atFrom l0 nm l0.length 0 then some (l0.set (atFrom l0 nm l0.length 0).toNat ⟨(l0.getD (atFrom l0 nm l0.length 0).toNat z63).f0,wrap64 ((l0.getD (atFrom l0 nm l0.length 0).toNat z63).f1 + n),(l0.getD (atFrom l0 nm l0.length 0).toNat z63).f2,(l0.getD (atFrom l0 nm l0.length 0).toNat z63).f3,(l0.getD (atFrom l0 nm l0.length 0).toNat z63).f4⟩)
  else some (l0.take (impl_credited.pl l0 nm l0.length 0) ++ [(⟨nm,n,0,0,[]⟩ : S63)] ++ l0.drop (impl_credited.pl l0 nm l0.length 0))) else none
theorem impl_credited.at_lt (l : List S63) (nm : ByteArray) : ∀ d i,i + d = l.length → 0 ≤ atFrom l nm d i → (atFrom l nm d i).toNat < l.length
 | 0,i,_,h => absurd h (by simp [atFrom])
 | d + 1,i,hi,h => by
  unfold atFrom at h ⊢
  by_cases c : ((rd_T63 l (i : Int)).f0.toList == nm.toList) = true
  ·rw [if_pos c]; omega
  ·rw [if_neg c] at h ⊢;exact impl_credited.at_lt l nm d (i + 1) (by omega) h
theorem acS1 {W : World} {base g n c : Nat} {ok : Nat → Prop} {xs : List S63} (h : Kd.S k63 63 W base ok (.slice (some ⟨g,0,none⟩) n c) xs) (j : Nat) (hj : j < xs.length) (u : Int) :
  Kd.S k63 63 (W.setCell ⟨g,j * 5 + 1,none⟩ (.int .i64 u)) base ok (.slice (some ⟨g,0,none⟩) n c) (xs.set j (⟨(xs.getD j z63).f0,u,(xs.getD j z63).f2,(xs.getD j z63).f3,(xs.getD j z63).f4⟩ : S63)) ∧ W.cell? ⟨g,j * 5 + 1,none⟩ = some (.int .i64 (xs.getD j z63).f1) ∧ W.frozen? ⟨g,j * 5 + 1,none⟩ = false ∧ W.grownBy (W.setCell ⟨g,j * 5 + 1,none⟩ (.int .i64 u)) (some g) := by
 have hn := (Kd.S_reads' h).1;have hX : Kd.S k63 63 W base (fun k_ => ok k_ ∧ ¬ (fun _ => False) k_) (.slice (some ⟨g,0,none⟩) n c) xs := Kd.S_mono h (fun _ hk => ⟨hk,fun e => e⟩);obtain ⟨oki,cs,_,hM,hcc,hfr,hoki,hH⟩ := Kd.S_elem hX z63 (j : Int) (by omega) (by omega);rw [Int.toNat_natCast] at hM;obtain ⟨v4,rfl,hR4⟩ := k63_openM hM;have hP := Kd.S_seg hH (by omega) (by omega) (seg := [.int .i64 u]) (j := 1) (show 2 ≤ 5 from by decide) (x' := (⟨(xs.getD j z63).f0,u,(xs.getD j z63).f2,(xs.getD j z63).f3,(xs.getD j z63).f4⟩ : S63)) (k63_mkM _ _ _ (⟨(xs.getD j z63).f0,u,(xs.getD j z63).f2,(xs.getD j z63).f3,(xs.getD j z63).f4⟩ : S63) (Kd.R_mono hR4 (fun _ h_ => Or.inl h_))) (fun _ hk => hk) (fun k_ hk_ => hk_.elim);exact ⟨hP.1,hcc 1 _ rfl,hfr 1,hP.2⟩
theorem acS2 {W : World} {base g n c : Nat} {ok : Nat → Prop} {xs : List S63} (h : Kd.S k63 63 W base ok (.slice (some ⟨g,0,none⟩) n c) xs) (j : Nat) (hj : j < xs.length) (u : Int) :
  Kd.S k63 63 (W.setCell ⟨g,j * 5 + 2,none⟩ (.int .i64 u)) base ok (.slice (some ⟨g,0,none⟩) n c) (xs.set j (⟨(xs.getD j z63).f0,(xs.getD j z63).f1,u,(xs.getD j z63).f3,(xs.getD j z63).f4⟩ : S63)) ∧ W.cell? ⟨g,j * 5 + 2,none⟩ = some (.int .i64 (xs.getD j z63).f2) ∧ W.frozen? ⟨g,j * 5 + 2,none⟩ = false ∧ W.grownBy (W.setCell ⟨g,j * 5 + 2,none⟩ (.int .i64 u)) (some g) := by
 have hn := (Kd.S_reads' h).1;have hX : Kd.S k63 63 W base (fun k_ => ok k_ ∧ ¬ (fun _ => False) k_) (.slice (some ⟨g,0,none⟩) n c) xs := Kd.S_mono h (fun _ hk => ⟨hk,fun e => e⟩);obtain ⟨oki,cs,_,hM,hcc,hfr,hoki,hH⟩ := Kd.S_elem hX z63 (j : Int) (by omega) (by omega);rw [Int.toNat_natCast] at hM;obtain ⟨v4,rfl,hR4⟩ := k63_openM hM;have hP := Kd.S_seg hH (by omega) (by omega) (seg := [.int .i64 u]) (j := 2) (show 3 ≤ 5 from by decide) (x' := (⟨(xs.getD j z63).f0,(xs.getD j z63).f1,u,(xs.getD j z63).f3,(xs.getD j z63).f4⟩ : S63)) (k63_mkM _ _ _ (⟨(xs.getD j z63).f0,(xs.getD j z63).f1,u,(xs.getD j z63).f3,(xs.getD j z63).f4⟩ : S63) (Kd.R_mono hR4 (fun _ h_ => Or.inl h_))) (fun _ hk => hk) (fun k_ hk_ => hk_.elim);exact ⟨hP.1,hcc 2 _ rfl,hfr 2,hP.2⟩
theorem acS3 {W : World} {base g n c : Nat} {ok : Nat → Prop} {xs : List S63} (h : Kd.S k63 63 W base ok (.slice (some ⟨g,0,none⟩) n c) xs) (j : Nat) (hj : j < xs.length) (u : Int) :
  Kd.S k63 63 (W.setCell ⟨g,j * 5 + 3,none⟩ (.int .i64 u)) base ok (.slice (some ⟨g,0,none⟩) n c) (xs.set j (⟨(xs.getD j z63).f0,(xs.getD j z63).f1,(xs.getD j z63).f2,u,(xs.getD j z63).f4⟩ : S63)) ∧ W.cell? ⟨g,j * 5 + 3,none⟩ = some (.int .i64 (xs.getD j z63).f3) ∧ W.frozen? ⟨g,j * 5 + 3,none⟩ = false ∧ W.grownBy (W.setCell ⟨g,j * 5 + 3,none⟩ (.int .i64 u)) (some g) := by
 have hn := (Kd.S_reads' h).1;have hX : Kd.S k63 63 W base (fun k_ => ok k_ ∧ ¬ (fun _ => False) k_) (.slice (some ⟨g,0,none⟩) n c) xs := Kd.S_mono h (fun _ hk => ⟨hk,fun e => e⟩);obtain ⟨oki,cs,_,hM,hcc,hfr,hoki,hH⟩ := Kd.S_elem hX z63 (j : Int) (by omega) (by omega);rw [Int.toNat_natCast] at hM;obtain ⟨v4,rfl,hR4⟩ := k63_openM hM;have hP := Kd.S_seg hH (by omega) (by omega) (seg := [.int .i64 u]) (j := 3) (show 4 ≤ 5 from by decide) (x' := (⟨(xs.getD j z63).f0,(xs.getD j z63).f1,(xs.getD j z63).f2,u,(xs.getD j z63).f4⟩ : S63)) (k63_mkM _ _ _ (⟨(xs.getD j z63).f0,(xs.getD j z63).f1,(xs.getD j z63).f2,u,(xs.getD j z63).f4⟩ : S63) (Kd.R_mono hR4 (fun _ h_ => Or.inl h_))) (fun _ hk => hk) (fun k_ hk_ => hk_.elim);exact ⟨hP.1,hcc 3 _ rfl,hfr 3,hP.2⟩
theorem acN {W : World} {base g n c : Nat} {ok : Nat → Prop} {xs : List S63} (h : Kd.S k63 63 W base ok (.slice (some ⟨g,0,none⟩) n c) xs) (j : Nat) (hj : j < xs.length) : W.cell? ⟨g,j * 5,none⟩ = some (.string (xs.getD j z63).f0) := by
 have hn := (Kd.S_reads' h).1;obtain ⟨oki,cs,_,hM,hcc,hfr,hoki,hH⟩ := Kd.S_elem h z63 (j : Int) (by omega) (by omega);rw [Int.toNat_natCast] at hM;obtain ⟨v4,rfl,hR4⟩ := k63_openM hM;exact hcc 0 _ rfl
theorem nextI (j N : Nat) (h : j < N) (hN : N ≤ 9223372036854775807) : wrap64 ((j : Int) + 1) = ((j + 1 : Nat) : Int) := by
 unfold wrap64
 omega
theorem measI (N j : Nat) (h : j < N) : N - (intOf (Value.int IntKind.i64 ((j + 1 : Nat) : Int))).toNat < N - (intOf (Value.int IntKind.i64 (j : Int))).toNat := by
 simp only [intOf]
 omega
theorem impl_credited.calls (P0_ : Nat → Prop) (u0_ : Value) (l0 : List S63) (nm : ByteArray) (n : Int) (r : List S63) (w0 w : World) (hB : Below w0.heap.size w0 w) (ho0 : Kd.S k63 63 w w0.heap.size P0_ u0_ l0) (h : impl_credited.f l0 nm n = some r) :
  Calls Try.prog 88 #[u0_,.string nm,.int .i64 n] w fun e w' => ∃ v,e = .returned v ∧ Kd.S k63 63 w' w0.heap.size (fun k_ => P0_ k_ ∨ w.heap.size ≤ k_) v r ∧ Below w0.heap.size w0 w' ∧ Kept w w' P0_ := by
 obtain ⟨A,c,rfl⟩ := Kd.S_slice ho0;have HS0 := Aside0.mk (Kd.S_mono (Kd.S_bound ho0) (fun k_ hk => ⟨hk.1,hk.2.2.1⟩) : Kd.S k63 63 w w0.heap.size (fun k_ => P0_ k_ ∧ k_ < w.heap.size) (.slice A l0.length c) l0);have HB0 := Aside0.mk hB;have HY := Aside0.mk (Kd.S_reads' ho0);unfold impl_credited.f at h
 by_cases hbig : l0.length < 1000000000000
 case neg => rw [if_neg hbig] at h; exact absurd h (by simp)
 rw [if_pos hbig] at h;have HBIG := Aside0.mk hbig;clear ho0 hB hbig;obtain ⟨a,ha⟩ : ∃ a,a = atFrom l0 nm l0.length 0 := ⟨_,rfl⟩;have HF := Aside0.mk (show impl_AcctAt.f l0 nm = some a by rw [ha]; rfl)
 by_cases hat : 0 ≤ a
 ·have hlt : a.toNat < l0.length := by rw [ha]; exact impl_credited.at_lt l0 nm l0.length 0 (by omega) (by rw [← ha]; exact hat)
  rw [← ha,if_pos hat] at h;obtain rfl := Option.some.inj h;obtain ⟨g,cc,eS,hge,hgl,_⟩ := Kd.S_form HS0.out (by omega)
  injection eS with eA en ec
  subst eA;subst ec;clear en h ha;obtain ⟨j,rfl⟩ : ∃ j : Nat,a = (j : Int) := ⟨a.toNat,by omega⟩;rw [Int.toNat_natCast] at hlt ⊢;have n0 : (0 ≤ (j : Int)) = True := eq_true hat;have n1 : ((j : Int) < (l0.length : Int)) = True := eq_true (by omega);have HLT := Aside0.mk hlt;have HGE := Aside0.mk hge;have HPG := Aside0.mk (show P0_ g from ((Kd.S_R HS0.out).1 g rfl).1);clear hat hlt hge hgl;go_enter Try.func88,Try.ntmps88
  go_wp2_with (go_at_call 43; refine (impl_AcctAt.calls _ _ l0 nm (j : Int) _ ?s1 ?s2 HF.out).mono ?_; (case s1 => exact HY.out.2.2); (case s2 => exact HY.out.2.1); rintro e w1 ⟨rfl,hb⟩; have HS1 := Aside0.mk (Kd.S_below HS0.out hb); have HB1 := bst HB0 hb; have HK1 := Aside0.mk (Kept.of_below hb P0_); clear hb; obtain ⟨hs2,x1,f1,hg2⟩ := acS1 HS1.out j HLT.out (wrap64 ((l0.getD j z63).f1 + n)); have HS2 := Aside0.mk hs2; have HG2 := Aside0.mk hg2; clear hs2 hg2)
  go_ret;exact ⟨_,rfl,Kd.S_mono HS2.out (fun k_ hk_ => .inl hk_.1),below_set HB1.out HGE.out,HK1.out.setCell (.inl HPG.out) _⟩
 ·obtain ⟨p,hp⟩ : ∃ p,p = impl_credited.pl l0 nm l0.length 0 := ⟨_,rfl⟩;rw [← ha,if_neg hat,← hp] at h;obtain rfl := Option.some.inj h;have HP := Aside0.mk hp;have HPL := Aside0.mk (show p ≤ l0.length by rw [hp]; have := impl_credited.pl_le l0 nm l0.length 0; omega);have hat' : (0 ≤ a) = False := eq_false hat;obtain ⟨R,hR⟩ : ∃ R,R = l0.take p ++ [(⟨nm,n,0,0,[]⟩ : S63)] ++ l0.drop p := ⟨_,rfl⟩;rw [← hR];have HRR := Aside0.mk hR;clear h hp ha hat hR;go_enter Try.func88,Try.ntmps88
  go_wp2_with (go_at_call 43; refine (impl_AcctAt.calls _ _ l0 nm a _ ?s1 ?s2 HF.out).mono ?_; (case s1 => exact HY.out.2.2); (case s2 => exact HY.out.2.1); rintro e w1 ⟨rfl,hb⟩; have HS1 := Aside0.mk (Kd.S_below HS0.out hb); have HB1 := bst HB0 hb; have HK1 := Aside0.mk (Kept.of_below hb P0_); clear hb)
  go_loopw [8] (fun iv wr => ∃ j : Nat,iv = .int .i64 (j : Int) ∧ j ≤ l0.length ∧ p = impl_credited.pl l0 nm (l0.length - j) j ∧ Kd.S k63 63 wr w0.heap.size (fun k_ => P0_ k_ ∧ k_ < w.heap.size) (.slice A l0.length c) l0 ∧ Below w0.heap.size w0 wr ∧ Kept w wr P0_) (fun iv _ => l0.length - (intOf iv).toNat)
  case atStart => exact ⟨0,rfl,Nat.zero_le _,by rw [HP.out]; rfl,HS1.out,HB1.out,HK1.out⟩
  case round =>
   obtain ⟨j,rfl,hj,hp,hS,hB,hK⟩ := hrel;have HS := Aside0.mk hS;have HB := Aside0.mk hB;have HK := Aside0.mk hK;have HPJ := Aside0.mk hp;clear hS hB hK hp
   by_cases hlt : j < l0.length
   ·obtain ⟨g,cc,eS,hge,hgl,_⟩ := Kd.S_form HS.out (by omega)
    injection eS with eA en ec
    subst eA;subst ec;clear en hge hgl;have n0 : (0 ≤ (j : Int)) = True := eq_true (by omega);have n1 : ((j : Int) < (l0.length : Int)) = True := eq_true (by omega);have x0 := acN HS.out j hlt;have HLT := Aside0.mk hlt
    have e1 : l0.length - j = (l0.length - (j + 1)) + 1 := by omega
    have hp := HPJ.out;rw [e1,impl_credited.pl] at hp;have H01 := Aside0.mk (nextI j _ hlt HY.out.2.2.2.1);clear e1 hlt
    generalize (l0.getD j z63).f0 = s at x0 hp
    by_cases hb : Op.bytesLess s.toList nm.toList = true
    ·rw [if_pos hb] at hp;have HP2 := Aside0.mk hp;clear hp;go_wp2
     go_roundw
     case rel => exact ⟨j + 1,by rw [H01.out],HLT.out,HP2.out,HS.out,HB.out,HK.out⟩
     case measure =>
      rw [H01.out];exact measI _ j HLT.out
    ·rw [if_neg hb] at hp;rw [Bool.not_eq_true] at hb;subst hp
     go_wp2_with (go_at_call 122; refine (impl_Acct_122.calls (fun k_ => P0_ k_ ∧ k_ < w.heap.size) _ l0 p wr.heap.size (⟨nm,n,0,0,[]⟩ : S63) [.string nm,.int .i64 n,.int .i64 0,.int .i64 0,.slice none 0 0] w0 _ (below_alloc HB.out _) (Kd.S_alloc HS.out _) HPL.out (blk_new _ _) (fun w' => k63_mkM _ _ _ (⟨nm,n,0,0,[]⟩ : S63) (Kd.R_nil _ _ _ _ _)) (fun h_ => by have h1 := h_.2; have h2 := HK.out.1; omega) (by have h1 := HBIG.out; omega)).mono ?_; rintro e w5 ⟨v,rfl,hs,hb,hk⟩; rw [← HRR.out] at hs; have HS5 := Aside0.mk hs; obtain ⟨A5,c5,e5⟩ := Kd.S_slice hs; subst e5; have HB5 := Aside0.mk hb; have HK5 := Aside0.mk ((HK.out.alloc _).then_ hk (fun _ hk_ => .inl hk_.1)); clear hs hb hk)
     go_ret;exact ⟨_,rfl,Kd.S_mono HS5.out (fun k_ hk_ => hk_.elim (fun h_ => .inl h_.1) (fun h_ => .inr (by have h1 := HK.out.1; have h2 : wr.heap.size + 1 ≤ k_ := (by simpa using h_); omega))),HB5.out,HK5.out⟩
   ·obtain rfl : j = l0.length := by omega
    have n1 : ((l0.length : Int) < (l0.length : Int)) = False := eq_false (by omega);have hp := HPJ.out;rw [Nat.sub_self,impl_credited.pl] at hp;subst hp
    go_wp2_with (go_at_call 122; refine (impl_Acct_122.calls (fun k_ => P0_ k_ ∧ k_ < w.heap.size) _ l0 l0.length wr.heap.size (⟨nm,n,0,0,[]⟩ : S63) [.string nm,.int .i64 n,.int .i64 0,.int .i64 0,.slice none 0 0] w0 _ (below_alloc HB.out _) (Kd.S_alloc HS.out _) HPL.out (blk_new _ _) (fun w' => k63_mkM _ _ _ (⟨nm,n,0,0,[]⟩ : S63) (Kd.R_nil _ _ _ _ _)) (fun h_ => by have h1 := h_.2; have h2 := HK.out.1; omega) (by have h1 := HBIG.out; omega)).mono ?_; rintro e w5 ⟨v,rfl,hs,hb,hk⟩; rw [← HRR.out] at hs; have HS5 := Aside0.mk hs; obtain ⟨A5,c5,e5⟩ := Kd.S_slice hs; subst e5; have HB5 := Aside0.mk hb; have HK5 := Aside0.mk ((HK.out.alloc _).then_ hk (fun _ hk_ => .inl hk_.1)); clear hs hb hk)
    go_ret;exact ⟨_,rfl,Kd.S_mono HS5.out (fun k_ hk_ => hk_.elim (fun h_ => .inl h_.1) (fun h_ => .inr (by have h1 := HK.out.1; have h2 : wr.heap.size + 1 ≤ k_ := (by simpa using h_); omega))),HB5.out,HK5.out⟩

-- NOT PRINTED: function 142 (impl_Leave_142)

-- NOT PRINTED: function 150 (impl_Leave_150)

-- NOT PRINTED: function 148 (impl_Leave_148)

-- NOT PRINTED: function 143 (impl_Leave_143)

/-! ### impl_Leave_129: function 129 -/
theorem impl_Leave_129.shift (b n c i vb m vc : Nat) (cs vs : List Value) (w : World) (hi : i < n) (hm : 0 < m) (hroom : n + m ≤ c) (hc63 : c ≤ 9223372036854775807) (hvb : vb ≠ b)
  (hcl : cs.length = n * 2) (hvl : vs.length = m * 2)
  (hcs : ∀ j v,cs[j]? = some v → w.cell? ⟨b,j,none⟩ = some v) (hsp : ∀ j,j < (n + m) * 2 → (w.cell? ⟨b,j,none⟩).isSome = true) (hfz : ∀ j,w.frozen? ⟨b,j,none⟩ = false)
  (hvs : ∀ j v,vs[j]? = some v → w.cell? ⟨vb,j,none⟩ = some v) (h1c : ∀ v ∈ cs,v.oneCell' = true) (h1v : ∀ v ∈ vs,v.oneCell' = true)
  (tA tB : TypeId) (kA kB : Nat) (hsa : w.shape? vb = some (tA,kA)) (hsb : w.shape? b = some (tB,kB)) (hkB : kB ≠ 0) (hfa : w.frozen? ⟨vb,0,none⟩ = false) (hfe : w.frozen? ⟨vb,kA,none⟩ = false) :
  Calls Try.prog 129 #[.slice (some ⟨b,0,none⟩) n c,.int .i64 i,.slice (some ⟨vb,0,none⟩) m vc] w fun e w' =>
   e = .returned (.slice (some ⟨b,0,none⟩) (n + m) c) ∧ w' = (w.drew.setCells b ((i + m) * 2) (cs.drop (i * 2))).setCells b (i * 2) vs := by
 obtain ⟨i0,hi0,hz0,hzs,hzb⟩ := info_parts info65
 have hz1 : ¬ ((m : Int) = 0) := by omega
 have hz2 : ¬ ((i : Int) = (n : Int)) := by omega
 have hsz : (Try.prog.info? 65).map (·.size) = some 2 := by rw [hi0]; simp [hzs]
 have hzz : ∀ w,(Go.sizeOf 65).run Try.prog w = .ok 2 w := fun w => by simp [sizeOf,typeInfo,hi0,hzs]
 have hov : ∀ lb cb,(callFunc 142 #[.slice (some ⟨vb,0,none⟩) m vc,.slice (some ⟨b,(i + m) * 2,none⟩) lb cb]).run Try.prog w = .ok (.value (.bool false)) w := fun lb cb => by
  rw [run_callFunc_extern (f := 142) (fn := Try.f142) (by kernel_rfl) (by kernel_rfl) (by kernel_rfl) (by kernel_rfl) (e := Extern.SlicesOverlaps.overlaps #[61,61] #[4]) (by kernel_rfl),
   Lib.run_overlaps_apart w 61 4 65 Try.underlying61 2 hzz ⟨vb,0,none⟩ ⟨b,(i + m) * 2,none⟩ m vc lb cb hvb tA tB kA kB hsa hsb hkB hfa hfe]
  rfl
 have hdl : (cs.drop (i * 2)).length = (n - i) * 2 := by rw [List.length_drop,hcl]; omega
 have hw1 : IntKind.i64.wrap ((i : Int) + (m : Int)) = (i : Int) + (m : Int) := by rw [IntKind.wrap_i64]; omega
 have hb1 : (0 : Int) ≤ (i : Int) + (m : Int) := by omega
 have hin : i ≤ n := by omega
 have htn : ((i : Int) + (m : Int)).toNat = i + m := by omega
 have hb2 : ¬ (c = i + m) := by omega
 have hb3 : (i : Int) ≤ (n : Int) + (m : Int) := by omega
 have hb4 : ¬ (c = i) := by omega
 have hcp1 : ∀ ty dc sc,(Builtin.copy_ #[61,61] ty #[.slice (some ⟨b,(i + m) * 2,none⟩) (n + m - (i + m)) dc,.slice (some ⟨b,i * 2,none⟩) (n + m - i) sc]).run Try.prog w.drew = .ok (goInt (n - i : Nat)) (w.drew.setCells b ((i + m) * 2) (cs.drop (i * 2))) := fun ty dc sc =>
  Ins.run_copy_wide w.drew _ _ ty 65 b ((i + m) * 2) (n + m - (i + m)) dc ⟨b,i * 2,none⟩ (n + m - i) sc 2 (n - i) (cs.drop (i * 2)) Try.underlying61 hsz (by simp only [Nat.min_def]; split <;> omega) hdl
   (fun j v hj => by rw [Addr.add_lit]; exact hcs (i * 2 + j) v (by rwa [List.getElem?_drop] at hj))
   (fun j hj => hsp _ (by rw [hdl] at hj; omega)) (fun j hj => hfz _) (fun v hv => h1c v (List.mem_of_mem_drop hv))
 obtain ⟨W1,hW1⟩ : ∃ W1,W1 = w.drew.setCells b ((i + m) * 2) (cs.drop (i * 2)) := ⟨_,rfl⟩
 have hsp1 : ∀ k,k < (n + m) * 2 → (W1.cell? ⟨b,k,none⟩).isSome = true := fun k hk => by
  rw [hW1];exact Ins.isSome_setCells b _ _ w.drew (fun j hj => hsp ((i + m) * 2 + j) (by rw [hdl] at hj; omega)) _ (hsp k hk)
 have hcp2 : ∀ (W : World),(∀ x,W.cell? x = W1.cell? x) → (∀ x,W.frozen? x = W1.frozen? x) → ∀ ty dc,(Builtin.copy_ #[61,61] ty #[.slice (some ⟨b,i * 2,none⟩) (n + m - i) dc,.slice (some ⟨vb,0,none⟩) m vc]).run Try.prog W = .ok (goInt m) (W.setCells b (i * 2) vs) := fun W hWc hWf ty dc =>
  Ins.run_copy_wide W _ _ ty 65 b (i * 2) (n + m - i) dc ⟨vb,0,none⟩ m vc 2 m vs Try.underlying61 hsz (by simp only [Nat.min_def]; split <;> omega) hvl
   (fun j v hj => by
    rw [Addr.add_lit,hWc,hW1,World.cell?_setCells_out b _ _ _ _ (fun h _ => absurd h hvb),Nat.zero_add]
    exact hvs j v hj)
   (fun j hj => by rw [hWc]; exact hsp1 _ (by rw [hvl] at hj; omega)) (fun j hj => by rw [hWf,hW1,World.frozen?_setCells]; exact hfz _) h1v
 rw [← hW1] at hcp1
 have mixed : Try.prog.follows Departure.mixedOrders = true := by kernel_rfl
 go_enter Try.func129,Try.ntmps129
 go_wp2_with (simp only [hov])
 go_region_law_o (refine Ins.step_copy rfl _ _ 61 61 rfl _ _ (by simp [Act.eval,Act.put]) (by simp [Act.eval,Act.put]) (hcp1 _ _ _) ?_)
 go_wp2_with (at_builtin; refine Ins.wpList_copy _ rfl _ _ 61 61 rfl _ _ rfl rfl (hcp2 _ (fun _ => rfl) (fun _ => rfl) _ _) ?_)
 go_ret;exact ⟨rfl,rfl⟩
theorem impl_Leave_129.end_room (b n c vb m vc : Nat) (vs : List Value) (w : World) (hm : 0 < m) (hroom : n + m ≤ c) (hc63 : c ≤ 9223372036854775807)
  (hvl : vs.length = m * 2) (hsp : ∀ j,j < m * 2 → (w.cell? ⟨b,n * 2 + j,none⟩).isSome = true) (hfz : ∀ j,w.frozen? ⟨b,j,none⟩ = false)
  (hvs : ∀ j v,vs[j]? = some v → w.cell? ⟨vb,j,none⟩ = some v) (h1v : ∀ v ∈ vs,v.oneCell' = true) :
  Calls Try.prog 129 #[.slice (some ⟨b,0,none⟩) n c,.int .i64 n,.slice (some ⟨vb,0,none⟩) m vc] w fun e w' =>
   e = .returned (.slice (some ⟨b,0,none⟩) (n + m) c) ∧ w' = w.setCells b (n * 2) vs := by
 obtain ⟨i0,hi0,hz0,hzs,hzb⟩ := info_parts info65
 have hz1 : ¬ ((m : Int) = 0) := by omega
 have hb4 : ¬ (c = n) := by omega
 have hsrc : Src Try.prog i0.size 61 (.slice (some ⟨vb,0,none⟩) m vc) m vs w := by
  rw [hzs];exact Src.ofSlice w Try.underlying61 ⟨vb,0,none⟩ m vc vs hvl (fun j u hj => by rw [Addr.add_lit,Nat.zero_add]; exact hvs j u hj) h1v
 have hrun : ∀ ty,(Builtin.append_ #[61,61] ty #[.slice (some ⟨b,0,none⟩) n c,.slice (some ⟨vb,0,none⟩) m vc]).run Try.prog w = .ok (.slice (some ⟨b,0,none⟩) (n + m) c) (w.setCells b (n * 2) vs) := fun ty => by
  have h := run_append_room_src w 61 61 ty 65 i0 Try.underlying61 hi0 b 0 n c _ m vs hsrc hroom (by rw [hvl,hzs,Nat.zero_add]; exact hsp) (fun j _ => hfz _);rw [hzs,Nat.zero_add] at h;exact h
 go_enter Try.func129,Try.ntmps129
 go_wp2_with (at_builtin; refine Lib.wpList_append_run _ rfl _ _ _ _ rfl _ _ rfl rfl _ _ (hrun _) ?_)
 go_ret;exact ⟨rfl,rfl⟩
theorem impl_Leave_129.end_grow (base : Option Addr) (n c vb m vc : Nat) (cs vs : List Value) (w : World) (hm : 0 < m) (hnc : n ≤ c) (hroom : c < n + m) (hbig : (n + m) * 16 ≤ 140737488355328)
  (hcl : cs.length = n * 2) (hvl : vs.length = m * 2) (hnil : base = none → n = 0)
  (hcs : ∀ a,base = some a → ∀ j v,cs[j]? = some v → w.cell? (a.add j) = some v)
  (hvs : ∀ j v,vs[j]? = some v → w.cell? ⟨vb,j,none⟩ = some v) (h1v : ∀ v ∈ vs,v.oneCell' = true) :
  Calls Try.prog 129 #[.slice base n c,.int .i64 n,.slice (some ⟨vb,0,none⟩) m vc] w fun e w' =>
   e = .returned (.slice (some ⟨w.heap.size,0,none⟩) (n + m) (grownCap w (n + m) c 65)) ∧
   w' = w.drew.alloc (.cells ((cs ++ vs).toArray ++ Builtin.zeroCells (.agg #[.int .i64 0,.int .i64 0] : Value).cells (grownCap w (n + m) c 65 - (n + m))) 65) := by
 obtain ⟨i0,hi0,hz0,hzs,hzb⟩ := info_parts info65
 have hz1 : ¬ ((m : Int) = 0) := by omega
 have hsrc : Src Try.prog i0.size 61 (.slice (some ⟨vb,0,none⟩) m vc) m vs w := by
  rw [hzs];exact Src.ofSlice w Try.underlying61 ⟨vb,0,none⟩ m vc vs hvl (fun j u hj => by rw [Addr.add_lit,Nat.zero_add]; exact hvs j u hj) h1v
 have hold : (Builtin.firstCells i0.size n (.slice base n c)).run Try.prog w.drew = .ok cs.toArray w.drew := by
  rw [hzs]
  cases base with
  | none =>
   have h0 := hnil rfl;subst h0;rw [List.length_eq_zero_iff.1 (hcl.trans (Nat.zero_mul _))];exact run_firstCells_none w.drew 2 0 0 c
  | some a => exact run_firstCells_some w.drew 2 n a n c cs hcl (fun j v hj => hcs a rfl j v hj)
 have hrun : ∀ ty,(Builtin.append_ #[61,61] ty #[.slice base n c,.slice (some ⟨vb,0,none⟩) m vc]).run Try.prog w = _ := fun ty =>
  run_append_grow_src w 61 61 ty 65 i0 _ Try.underlying61 hi0 hz0 base n c cs hold _ m vs hsrc hroom (by omega) (by rw [hzb]; exact growslice_fits hroom hbig)
 go_enter Try.func129,Try.ntmps129
 cases base with
 | none =>
  have h0 := hnil rfl;subst h0
  go_wp2_with (at_builtin; refine Lib.wpList_append_run _ rfl _ _ _ _ rfl _ _ rfl rfl _ _ (hrun _) ?_)
  go_ret;exact ⟨rfl,rfl⟩
 | some a =>
  obtain ⟨ab,ao,asp⟩ := a
  go_wp2_with (at_builtin; refine Lib.wpList_append_run _ rfl _ _ _ _ rfl _ _ rfl rfl _ _ (hrun _) ?_)
  all_goals (go_ret; exact ⟨rfl,rfl⟩)
theorem impl_Leave_129.grow (b n c i vb m vc : Nat) (cs vs : List Value) (w : World) (hi : i < n) (hm : 0 < m) (hnc : n ≤ c) (hroom : c < n + m) (hbig : (n + m) * 16 ≤ 140737488355328)
  (hcl : cs.length = n * 2) (hvl : vs.length = m * 2) (hbw : b < w.heap.size) (hvw : vb < w.heap.size)
  (hcs : ∀ j v,cs[j]? = some v → w.cell? ⟨b,j,none⟩ = some v)
  (hvs : ∀ j v,vs[j]? = some v → w.cell? ⟨vb,j,none⟩ = some v) (h1c : ∀ v ∈ cs,v.oneCell' = true) (h1v : ∀ v ∈ vs,v.oneCell' = true) :
  Calls Try.prog 129 #[.slice (some ⟨b,0,none⟩) n c,.int .i64 i,.slice (some ⟨vb,0,none⟩) m vc] w fun e w' =>
   e = .returned (.slice (some ⟨w.heap.size,0,none⟩) (n + m) (grownCap w (n + m) c 65)) ∧
   w' = (((w.alloc (.cells ((cs.take (i * 2)).toArray ++ Builtin.zeroCells (.agg #[.int .i64 0,.int .i64 0] : Value).cells (n + m - i) ++ Builtin.zeroCells (.agg #[.int .i64 0,.int .i64 0] : Value).cells (grownCap w (n + m) c 65 - (n + m))) 65)).drew.setCells w.heap.size (i * 2) vs).drew).setCells w.heap.size ((i + m) * 2) (cs.drop (i * 2)) := by
 have mixed : Try.prog.follows Departure.mixedOrders = true := by kernel_rfl
 obtain ⟨i0,hi0,hz0,hzs,hzb⟩ := info_parts info65
 have hz1 : ¬ ((m : Int) = 0) := by omega
 have hz2 : ¬ ((i : Int) = (n : Int)) := by omega
 have hz3 : (c : Int) < (n : Int) + (m : Int) := by omega
 have hsz : (Try.prog.info? 65).map (·.size) = some 2 := by rw [hi0]; simp [hzs]
 have hkk : (n : Int) + (m : Int) - (i : Int) = ((n + m - i : Nat) : Int) := by omega
 have hik : i + (n + m - i) = n + m := by omega
 have hold : (Builtin.firstCells i0.size i (.slice (some ⟨b,0,none⟩) i c)).run Try.prog w.drew = .ok (cs.take (i * 2)).toArray w.drew := by
  rw [hzs]
  exact run_firstCells_some w.drew 2 i ⟨b,0,none⟩ i c (cs.take (i * 2)) (by rw [List.length_take]; omega) (fun j v hj => by
   rw [Addr.add_lit,Nat.zero_add];rw [List.getElem?_take] at hj
   split at hj
   ·exact hcs j v hj
   ·cases hj)
 have hrz : ∀ ty,(Builtin.append_ #[61,3] ty #[.slice (some ⟨b,0,none⟩) i c,.int .i64 ((n : Int) + (m : Int) - (i : Int))]).run Try.prog w =
   .ok (.slice (some ⟨w.heap.size,0,none⟩) (n + m) (grownCap w (n + m) c 65)) (w.drew.alloc (.cells ((cs.take (i * 2)).toArray ++ Builtin.zeroCells (.agg #[.int .i64 0,.int .i64 0] : Value).cells (n + m - i) ++ Builtin.zeroCells (.agg #[.int .i64 0,.int .i64 0] : Value).cells (grownCap w (n + m) c 65 - (n + m))) 65)) := fun ty => by
  have h := Lib.run_append_grow_zeros w 61 3 ty 65 i0 _ .i64 .i64 Try.underlying61 Try.underlying3 hi0 hz0 (some ⟨b,0,none⟩) i c (cs.take (i * 2)) hold (n + m - i) (by omega) (by omega) (by omega) (by omega) (by rw [hzb]; omega) (by rw [hzb,hik]; exact growslice_fits hroom hbig);rw [hik] at h;rw [hkk];exact h
 obtain ⟨G,hG⟩ : ∃ G,G = grownCap w (n + m) c 65 := ⟨_,rfl⟩;obtain ⟨ROW,hROW⟩ : ∃ ROW : Array Value,ROW = (cs.take (i * 2)).toArray ++ Builtin.zeroCells (.agg #[.int .i64 0,.int .i64 0] : Value).cells (n + m - i) ++ Builtin.zeroCells (.agg #[.int .i64 0,.int .i64 0] : Value).cells (G - (n + m)) := ⟨_,rfl⟩;rw [← hG] at hrz ⊢;rw [← hROW] at hrz ⊢
 have hzc : ∀ k,(Builtin.zeroCells (.agg #[.int .i64 0,.int .i64 0] : Value).cells k).size = k * 2 := fun k => Ins.zeroCells_size _ k 2 rfl
 have hRl : (n + m) * 2 ≤ ROW.size := by
  rw [hROW,Array.size_append,Array.size_append,hzc,hzc,List.size_toArray,List.length_take]
  omega
 obtain ⟨W1,hW1⟩ : ∃ W1,W1 = w.drew.alloc (.cells ROW 65) := ⟨_,rfl⟩;rw [← hW1] at hrz
 have hN : ∀ j,j < (n + m) * 2 → (W1.cell? ⟨w.heap.size,j,none⟩).isSome = true := fun j hj => by
  rw [hW1,World.cell?_alloc_at (w := w.drew) ROW _ w.heap.size j rfl,Array.getElem?_eq_getElem (by omega)]; rfl
 have hNf : ∀ j,W1.frozen? ⟨w.heap.size,j,none⟩ = false := fun j => by rw [hW1]; exact World.frozen?_alloc_at (w := w.drew) ROW _ w.heap.size j rfl
 have hOb : ∀ j v,w.cell? ⟨b,j,none⟩ = some v → W1.cell? ⟨b,j,none⟩ = some v := fun j v h => by rw [hW1,World.cell?_alloc_past (w := w.drew) _ b j hbw]; exact h
 have hOv : ∀ j v,w.cell? ⟨vb,j,none⟩ = some v → W1.cell? ⟨vb,j,none⟩ = some v := fun j v h => by rw [hW1,World.cell?_alloc_past (w := w.drew) _ vb j hvw]; exact h
 have hcpA : ∀ (W : World),(∀ x,W.cell? x = W1.cell? x) → (∀ x,W.frozen? x = W1.frozen? x) → ∀ ty dc,(Builtin.copy_ #[61,61] ty #[.slice (some ⟨w.heap.size,i * 2,none⟩) (n + m - i) dc,.slice (some ⟨vb,0,none⟩) m vc]).run Try.prog W = .ok (goInt m) (W.setCells w.heap.size (i * 2) vs) := fun W hWc hWf ty dc =>
  Ins.run_copy_wide W _ _ ty 65 w.heap.size (i * 2) (n + m - i) dc ⟨vb,0,none⟩ m vc 2 m vs Try.underlying61 hsz (by simp only [Nat.min_def]; split <;> omega) hvl
   (fun j v hj => by rw [Addr.add_lit,hWc,Nat.zero_add]; exact hOv _ v (hvs j v hj))
   (fun j hj => by rw [hWc]; exact hN _ (by rw [hvl] at hj; omega)) (fun j hj => by rw [hWf]; exact hNf _) h1v
 have hGn : n + m ≤ G := by rw [hG]; exact grownCap_ge w _ _ _
 have hG63 : G ≤ 9223372036854775807 := by
  have := grownCap_le_maxLen w (n + m) c 65 (by unfold maxLen; omega);rw [← hG] at this;unfold maxLen at this
  omega
 have hGi : ¬ (G = i) := by omega
 have hGim : ¬ (G = i + m) := by omega
 have hci : ¬ (c = i) := by omega
 have hbN : b ≠ w.heap.size := by omega
 have hdl : (cs.drop (i * 2)).length = (n - i) * 2 := by rw [List.length_drop,hcl]; omega
 have hcpB : ∀ (W : World),(∀ x,W.cell? x = (W1.setCells w.heap.size (i * 2) vs).cell? x) → (∀ x,W.frozen? x = (W1.setCells w.heap.size (i * 2) vs).frozen? x) → ∀ ty dc sc,(Builtin.copy_ #[61,61] ty #[.slice (some ⟨w.heap.size,(i + m) * 2,none⟩) (n + m - (i + m)) dc,.slice (some ⟨b,i * 2,none⟩) (n - i) sc]).run Try.prog W = .ok (goInt (n - i : Nat)) (W.setCells w.heap.size ((i + m) * 2) (cs.drop (i * 2))) := fun W hWc hWf ty dc sc =>
  Ins.run_copy_wide W _ _ ty 65 w.heap.size ((i + m) * 2) (n + m - (i + m)) dc ⟨b,i * 2,none⟩ (n - i) sc 2 (n - i) (cs.drop (i * 2)) Try.underlying61 hsz (by simp only [Nat.min_def]; split <;> omega) hdl
   (fun j v hj => by
    rw [Addr.add_lit,hWc,World.cell?_setCells_out _ _ _ _ _ (fun h _ => absurd h hbN)]
    exact hOb _ v (hcs (i * 2 + j) v (by rwa [List.getElem?_drop] at hj)))
   (fun j hj => by rw [hWc]; exact Ins.isSome_setCells _ _ _ W1 (fun t ht => hN (i * 2 + t) (by rw [hvl] at ht; omega)) _ (hN _ (by rw [hdl] at hj; omega)))
   (fun j hj => by rw [hWf,World.frozen?_setCells]; exact hNf _) (fun v hv => h1c v (List.mem_of_mem_drop hv))
 subst hW1
 have hE1 : ∀ x,((w.alloc (.cells ROW 65)).drew).cell? x = (w.drew.alloc (.cells ROW 65)).cell? x := fun x => rfl
 have hE2 : ∀ x,((w.alloc (.cells ROW 65)).drew).frozen? x = (w.drew.alloc (.cells ROW 65)).frozen? x := fun x => rfl
 have hF1 : ∀ x,(((w.alloc (.cells ROW 65)).drew.setCells w.heap.size (i * 2) vs).drew).cell? x = ((w.drew.alloc (.cells ROW 65)).setCells w.heap.size (i * 2) vs).cell? x := fun x => by rfl
 have hF2 : ∀ x,(((w.alloc (.cells ROW 65)).drew.setCells w.heap.size (i * 2) vs).drew).frozen? x = ((w.drew.alloc (.cells ROW 65)).setCells w.heap.size (i * 2) vs).frozen? x := fun x => by rfl
 have hw1 : IntKind.i64.wrap ((i : Int) + (m : Int)) = (i : Int) + (m : Int) := by rw [IntKind.wrap_i64]; omega
 have hb1 : (0 : Int) ≤ (i : Int) + (m : Int) := by omega
 have hin : i ≤ n := by omega
 have htn : ((i : Int) + (m : Int)).toNat = i + m := by omega
 have hb3 : (i : Int) ≤ (n : Int) := by omega
 clear hkk hik hold hROW hG hRl;go_enter Try.func129,Try.ntmps129
 go_wp2_with (first
  | (at_builtin; refine Lib.wpList_append_run _ rfl _ _ _ _ rfl _ _ rfl rfl _ _ (hrz _) ?_)
  | (at_builtin; refine Ins.wpList_copy _ rfl _ _ 61 61 rfl _ _ rfl rfl (hcpA _ hE1 hE2 _ _) ?_)
  | (at_builtin; refine Ins.wpList_copy _ rfl _ _ 61 61 rfl _ _ rfl rfl (hcpB _ (fun _ => rfl) (fun _ => rfl) _ _ _) ?_))
 go_region_law_o (refine Ins.step_copy rfl _ _ 61 61 rfl (.slice (some ⟨w.heap.size,(i + m) * 2,none⟩) (n + m - (i + m)) (G - (i + m))) (.slice (some ⟨b,i * 2,none⟩) (n - i) (c - i)) (by simp [Act.eval,Act.put]) (by simp [Act.eval,Act.put]) (hcpB _ hF1 hF2 3 (G - (i + m)) (c - i)) ?_)
 go_wp2;go_ret;exact ⟨rfl,rfl⟩
set_option maxHeartbeats 4000000 in
theorem impl_Leave_129.own (w : World) (base n c i vb : Nat) (A : Option Addr) (inner vs : List Value) (hown : w.ownsRow base 65 2 (.slice A n c) n inner) (hi : i ≤ n) (hvb : w.heap[vb]? = some (.cells vs.toArray 65 (0,0))) (hvl : vs.length = 2) (hne : (Value.slice A n c).ownBlock ≠ some vb)
  (hbig : (n + 1) * 16 ≤ 140737488355328) (h1c : ∀ v ∈ inner,v.oneCell' = true) (h1v : ∀ v ∈ vs,v.oneCell' = true) (hbase : base ≤ w.heap.size) :
  Calls Try.prog 129 #[.slice A n c,.int .i64 i,.slice (some ⟨vb,0,none⟩) 1 1] w fun e w' => ∃ v,e = .returned v ∧ Ins.InsPost w base 65 2 n i (Value.slice A n c).ownBlock inner vs v w' := by
 have hvw : vb < w.heap.size := blk_lt hvb
 have hvs : ∀ j v,vs[j]? = some v → w.cell? ⟨vb,j,none⟩ = some v := fun j v hj => (blk_cell hvb j).trans (by rw [List.getElem?_toArray]; exact hj)
 have hvl1 : vs.length = 1 * 2 := by rw [hvl]
 have hzc : ∀ k,(Builtin.zeroCells (.agg #[.int .i64 0,.int .i64 0] : Value).cells k).size = k * 2 := fun k => Ins.zeroCells_size _ k 2 rfl
 have hG1 : ∀ c,n + 1 ≤ grownCap w (n + 1) c 65 := fun c => grownCap_ge w _ _ _
 have hG2 : ∀ c,grownCap w (n + 1) c 65 ≤ maxLen := fun c => grownCap_le_maxLen w (n + 1) c 65 (by unfold maxLen; omega)
 obtain ⟨hil,ho⟩ := hown
 rcases ho with ⟨hv,h0⟩ | ⟨g,cap,cur,hv,hb,hh,hnc,hcm,hcs,ht⟩
 ·injection hv with hA _ hc
  subst hA;subst hc;subst h0
  obtain rfl : i = 0 := by omega
  refine (impl_Leave_129.end_grow none 0 0 vb 1 1 inner vs w (by omega) (by omega) (by omega) hbig hil hvl1 (fun _ => rfl) (fun a h => by cases h) hvs h1v).mono ?_;rintro e w' ⟨rfl,rfl⟩;exact ⟨_,rfl,Ins.post_end_grow hil hvl (hG1 0) (hG2 0) (hzc _) hbase⟩
 ·injection hv with hA _ hc
  subst hA;subst hc
  have hne' : vb ≠ g := fun h => hne (by rw [h]; rfl)
  have hcell : ∀ j v,inner[j]? = some v → w.cell? ⟨g,j,none⟩ = some v := by
   intro j v hj;have hjl : j < inner.length := (List.getElem?_eq_some_iff.1 hj).1;rw [blk_cell hh j,← Array.getElem?_toList];rw [← ht,List.getElem?_take] at hj
   split at hj
   ·exact hj
   ·cases hj
  have hfz : ∀ j,w.frozen? ⟨g,j,none⟩ = false := fun j => blk_frozen hh j
  have hsome : ∀ j,j < c * 2 → (w.cell? ⟨g,j,none⟩).isSome = true := fun j hj => by
   rw [blk_cell hh j,Array.getElem?_eq_getElem (by omega)];rfl
  have hc63 : c ≤ 9223372036854775807 := by unfold maxLen at hcm; exact hcm
  by_cases hin : i = n
  ·subst hin
   by_cases hroom : i + 1 ≤ c
   ·refine (impl_Leave_129.end_room g i c vb 1 1 vs w (by omega) hroom hc63 hvl1 (fun j hj => hsome _ (by omega)) hfz hvs h1v).mono ?_;rintro e w' ⟨rfl,rfl⟩;exact ⟨_,rfl,Ins.post_end_room hh ht hil hvl hroom hcm hcs hb⟩
   ·refine (impl_Leave_129.end_grow (some ⟨g,0,none⟩) i c vb 1 1 inner vs w (by omega) hnc (by omega) hbig hil hvl1 (fun h => by cases h) (fun a h j v hj => by injection h with h; subst h; rw [Addr.add_lit,Nat.zero_add]; exact hcell j v hj) hvs h1v).mono ?_;rintro e w' ⟨rfl,rfl⟩;exact ⟨_,rfl,Ins.post_end_grow hil hvl (hG1 _) (hG2 _) (hzc _) hbase⟩
  ·have hlt : i < n := by omega
   by_cases hroom : n + 1 ≤ c
   ·refine (impl_Leave_129.shift g n c i vb 1 1 inner vs w hlt (by omega) hroom hc63 hne' hil hvl1 hcell (fun j hj => hsome _ (by omega)) hfz hvs h1c h1v 65 65 vs.toArray.size cur.size (by simp only [World.shape?,hvb]) (by simp only [World.shape?,hh]) (by omega) (blk_frozen hvb 0) (blk_frozen hvb _)).mono ?_;rintro e w' ⟨rfl,rfl⟩;exact ⟨_,rfl,Ins.post_shift hh ht hil hi hvl hroom hcm hcs hb⟩
   ·refine (impl_Leave_129.grow g n c i vb 1 1 inner vs w hlt (by omega) hnc (by omega) hbig hil hvl1 (blk_lt hh) hvw hcell hvs h1c h1v).mono ?_;rintro e w' ⟨rfl,rfl⟩;exact ⟨_,rfl,Ins.post_grow hlt hil hvl (hG1 _) (hG2 _) (hzc _) (hzc _) hbase⟩
/-- An element is laid into a row of the call's own,at a place: what that row's block held may be elsewhere now; nothing else has changed. -/
theorem impl_Leave_129.calls (P0_ : Nat → Prop) (u0_ : Value) (l0 : List S65) (i vb : Nat) (x : S65) (vs : List Value) (w0 w : World) (hB : Below w0.heap.size w0 w) (ho0 : Kd.R k65 65 w w0.heap.size P0_ u0_ l0) (hi : i ≤ l0.length) (hvb : w.heap[vb]? = some (.cells vs.toArray 65 (0,0)))
  (hM : ∀ w' : World,k65.M w' w0.heap.size (fun _ => False) x vs) (hne : ¬ P0_ vb) (hbig : (l0.length + 1) * 16 ≤ 140737488355328) :
  Calls Try.prog 129 #[u0_,.int .i64 i,.slice (some ⟨vb,0,none⟩) 1 1] w fun e w' => ∃ v,e = .returned v ∧ Kd.R k65 65 w' w0.heap.size (fun k_ => P0_ k_ ∨ w.heap.size ≤ k_) v (l0.take i ++ [x] ++ l0.drop i) ∧ Below w0.heap.size w0 w' ∧ Kept w w' P0_ := by
 obtain ⟨A,c,rfl⟩ := Kd.R_slice ho0;obtain ⟨inner,hown,h1c,hback⟩ := Ins.R_insert ho0 i hi
 have hP : ∀ k,(Value.slice A l0.length c).ownBlock = some k → P0_ k := fun k hk => ho0.1 k hk
 have hBs : ∀ k,(Value.slice A l0.length c).ownBlock = some k → w0.heap.size ≤ k := Kd.R_base ho0;refine (impl_Leave_129.own w w0.heap.size l0.length c i vb A inner vs hown hi hvb (k65.K_len (k65.K_of_M (hM w))) (fun h => hne (hP vb h)) hbig h1c (fun v hv => k65.K_one (k65.K_of_M (hM w)) v hv) hB.size).mono ?_;rintro e w' ⟨v,rfl,g,c',rfl,ho,hg,hat⟩;refine ⟨_,rfl,hback w' _ x vs ho (hM w') hg (hat.elim (fun h => .inl h.symm) (fun h => .inr ⟨g,rfl,h⟩)),?_,Kept.of_grown hg (Kept.refl w P0_) (fun k hk => .inl (hP k hk))⟩;exact ⟨hg.os.trans hB.os,hg.tape.trans hB.tape,hg.output.trans hB.output,Nat.le_trans hB.size hg.size,fun k hk => (hg.block k (Nat.lt_of_lt_of_le hk hB.size) (fun h => by have := hBs k h.symm; omega)).trans (hB.block k hk)⟩

end Go.Proofs.Ytcbpfofkdipjhaa.PV
