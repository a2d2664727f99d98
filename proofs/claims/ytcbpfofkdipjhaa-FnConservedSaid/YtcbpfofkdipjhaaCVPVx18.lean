/- The machine's side of Go functions: each as a plain function, and that the call does what it says. Written by a program (wip/mprint). -/
import Derived.Test.YtcbpfofkdipjhaaCVPVx0
import Derived.Test.YtcbpfofkdipjhaaCVPVx1
import Derived.Test.YtcbpfofkdipjhaaCVPVx3
import Derived.Test.YtcbpfofkdipjhaaCVPVx5
import Derived.Test.YtcbpfofkdipjhaaCVPVx14
import Derived.Test.YtcbpfofkdipjhaaCVPVx15
import Derived.Test.YtcbpfofkdipjhaaCVPVx17
import Derived.Lib.Hide
import Derived.Deep.RegionHeld3
import Derived.Deep.Cut
import Derived.Deep.CutRange
namespace Go.Proofs.Ytcbpfofkdipjhaa.PV
open Go.RowKit Go.Proofs.YtcbpfofkdipjhaaW.PrintWords Go.Proofs.YtcbpfofkdipjhaaW.PrintLast Go.Proofs.YtcbpfofkdipjhaaW.PrintMore
attribute [local go_sem] max2_int min2_int max_two min_two max_three min_three max_four min_four   -- for this text's walks alone
set_option linter.unusedVariables false
set_option linter.unusedSimpArgs false

/-! ### laws_FnConserved: function 4 -/
/-- A ledger in its box; nothing of it lies in the box b8. -/
structure laws_FnConserved.Bx (w W : World) (b8 b : Nat) (ep : Int) (A : Option Addr) (c : Nat) (l : List S63) : Prop where
  h : W.heap[b]? = some (.cells #[.int .i64 ep, .slice A l.length c] 31 (0, 0))
  s : Kd.S k63 63 W w.heap.size (fun k_ => k_ ≠ b8) (.slice A l.length c) l
section
variable {w W W' : World} {b8 b b' : Nat} {ep ep' : Int} {A A' : Option Addr} {c c' N : Nat} {l l' : List S63}
theorem laws_FnConserved.Bx.below (h : laws_FnConserved.Bx w W b8 b ep A c l) (hb : Below W.heap.size W W') : laws_FnConserved.Bx w W' b8 b ep A c l := ⟨blk_below h.h hb, Kd.S_below h.s hb⟩
theorem laws_FnConserved.Bx.far (h : laws_FnConserved.Bx w W b8 b ep A c l) (hn : b ≠ b8) (j : Nat) (u : Value) : laws_FnConserved.Bx w (W.setCell ⟨b8, j, none⟩ u) b8 b ep A c l := ⟨blk_far (p := ⟨b8, j, none⟩) h.h hn u, Kd.S_far (p := ⟨b8, j, none⟩) h.s (fun k_ hk => hk) u⟩
theorem laws_FnConserved.Bx.put (h : laws_FnConserved.Bx w W b8 b8 ep A c l) (hN : b8 < N) (hw : w.heap.size ≤ b8) (hs : Kd.S k63 63 W N (fun _ => True) (.slice A' l'.length c') l') : laws_FnConserved.Bx w ((W.setCell ⟨b8, 0, none⟩ (.int .i64 ep')).setCell ⟨b8, 1, none⟩ (.slice A' l'.length c')) b8 b8 ep' A' c' l' :=
  ⟨blk_put (cs := #[.int .i64 ep', .slice A l.length c]) (blk_put (cs := #[.int .i64 ep, .slice A l.length c]) h.h 0 _ rfl) 1 _ rfl,
   Kd.S_far (p := ⟨b8, 1, none⟩) (Kd.S_far (p := ⟨b8, 0, none⟩) (Kd.S_lower (Kd.S_mono (Kd.S_bound hs) (fun k_ hk => (by have h1 := hk.2.1; omega : k_ ≠ b8))) (by omega)) (fun k_ hk => hk) _) (fun k_ hk => hk) _⟩
theorem laws_FnConserved.Bx.rd (h : laws_FnConserved.Bx w W b8 b ep A c l) : Kd.C k63 W A l.length l ∧ l.length ≤ c := ⟨(Kd.S_reads' h.s).2.2, (Kd.S_reads' h.s).2.1⟩
theorem laws_FnConserved.Bx.two (h : laws_FnConserved.Bx w W b8 b ep A c l) : W.cell? ⟨b, 0, none⟩ = some (.int .i64 ep) ∧ W.cell? ⟨b, 1, none⟩ = some (.slice A l.length c) := ⟨(blk_cell h.h 0).trans rfl, (blk_cell h.h 1).trans rfl⟩
/-- A ledger whose rows are all old when the box b8 is made. -/
theorem laws_FnConserved.Bx.late (h : W.heap[b]? = some (.cells #[.int .i64 ep, .slice A l.length c] 31 (0, 0))) (hs : Kd.S k63 63 W N (fun _ => True) (.slice A l.length c) l) (hN : w.heap.size ≤ N) (hb : Below W.heap.size W W') : laws_FnConserved.Bx w W' W.heap.size b ep A c l :=
  ⟨blk_below h hb, Kd.S_below (Kd.S_lower (Kd.S_mono (Kd.S_bound hs) (fun k_ hk => (Nat.ne_of_lt hk.2.2.1 : k_ ≠ W.heap.size))) hN) hb⟩
end
theorem laws_FnConserved.sfar {W : World} {A : Option Addr} {c N : Nat} {l : List S63} {p : Addr} (h : Kd.S k63 63 W N (fun _ => True) (.slice A l.length c) l) (hp : p.block < N) (u : Value) : Kd.S k63 63 (W.setCell p u) N (fun _ => True) (.slice A l.length c) l :=
  Kd.S_mono (Kd.S_far (p := p) (Kd.S_mono (Kd.S_bound h) (fun k_ hk => (by have h1 := hk.2.1; omega : k_ ≠ p.block))) (fun k_ hk => hk) u) (fun _ _ => trivial)
/-- All that lies in memory: the drawn ledger, the one behind all orders, the one of the next epoch, the orders, and the one that the law's own loop writes. -/
structure laws_FnConserved.D (w W : World) (b3 b5 b7 b8 : Nat) (ep : Int) (A3 : Option Addr) (c3 : Nat) (l : List S63) (x1 : Int) (A5 : Option Addr) (c5 : Nat) (x2 : List S63) (y1 : Int) (A7 : Option Addr) (c7 : Nat) (y2 : List S63) (A4 : Option Addr) (c4 : Nat) (ts : List S35) (e : Int) (A : Option Addr) (c : Nat) (o : List S63) : Prop where
  l_ : laws_FnConserved.Bx w W b8 b3 ep A3 c3 l
  x_ : laws_FnConserved.Bx w W b8 b5 x1 A5 c5 x2
  y_ : laws_FnConserved.Bx w W b8 b7 y1 A7 c7 y2
  o_ : laws_FnConserved.Bx w W b8 b8 e A c o
  t_ : Kd.R k35 35 W w.heap.size (fun k_ => k_ ≠ b8) (.slice A4 ts.length c4) ts
  b_ : Below w.heap.size w W
  g8 : w.heap.size ≤ b8
  n3 : b3 ≠ b8
  n5 : b5 ≠ b8
  n7 : b7 ≠ b8
section
variable {w W W' : World} {b3 b5 b7 b8 : Nat} {ep : Int} {A3 : Option Addr} {c3 : Nat} {l : List S63} {x1 : Int} {A5 : Option Addr} {c5 : Nat} {x2 : List S63} {y1 : Int} {A7 : Option Addr} {c7 : Nat} {y2 : List S63} {A4 : Option Addr} {c4 : Nat} {ts : List S35} {e e' : Int} {A A' : Option Addr} {c c' N : Nat} {o o' : List S63}
theorem laws_FnConserved.D.below (h : laws_FnConserved.D w W b3 b5 b7 b8 ep A3 c3 l x1 A5 c5 x2 y1 A7 c7 y2 A4 c4 ts e A c o) (hb : Below W.heap.size W W') : laws_FnConserved.D w W' b3 b5 b7 b8 ep A3 c3 l x1 A5 c5 x2 y1 A7 c7 y2 A4 c4 ts e A c o :=
  ⟨h.l_.below hb, h.x_.below hb, h.y_.below hb, h.o_.below hb, Kd.R_below h.t_ hb, below_step h.b_ hb, h.g8, h.n3, h.n5, h.n7⟩
theorem laws_FnConserved.D.put (h : laws_FnConserved.D w W b3 b5 b7 b8 ep A3 c3 l x1 A5 c5 x2 y1 A7 c7 y2 A4 c4 ts e A c o) (hN : b8 < N) (hs : Kd.S k63 63 W N (fun _ => True) (.slice A' o'.length c') o') : laws_FnConserved.D w ((W.setCell ⟨b8, 0, none⟩ (.int .i64 e')).setCell ⟨b8, 1, none⟩ (.slice A' o'.length c')) b3 b5 b7 b8 ep A3 c3 l x1 A5 c5 x2 y1 A7 c7 y2 A4 c4 ts e' A' c' o' :=
  ⟨(h.l_.far h.n3 0 _).far h.n3 1 _, (h.x_.far h.n5 0 _).far h.n5 1 _, (h.y_.far h.n7 0 _).far h.n7 1 _, h.o_.put hN h.g8 hs, Kd.R_far (p := ⟨b8, 1, none⟩) (Kd.R_far (p := ⟨b8, 0, none⟩) h.t_ (fun k_ hk => hk) _) (fun k_ hk => hk) _, below_set (below_set h.b_ h.g8) h.g8, h.g8, h.n3, h.n5, h.n7⟩
theorem laws_FnConserved.D.new {w1 : World} {N5 N7 : Nat} (h3 : W.heap[b3]? = some (.cells #[.int .i64 ep, .slice A3 l.length c3] 31 (0, 0))) (h5 : W.heap[b5]? = some (.cells #[.int .i64 x1, .slice A5 x2.length c5] 31 (0, 0))) (h7 : W.heap[b7]? = some (.cells #[.int .i64 y1, .slice A7 y2.length c7] 31 (0, 0)))
    (hS : Kd.S k63 63 W w1.heap.size (fun _ => True) (.slice A3 l.length c3) l) (hX : Kd.S k63 63 W N5 (fun _ => True) (.slice A5 x2.length c5) x2) (hY : Kd.S k63 63 W N7 (fun _ => True) (.slice A7 y2.length c7) y2) (hR : Kd.R k35 35 W w1.heap.size (fun _ => True) (.slice A4 ts.length c4) ts) (hB : Below w.heap.size w W) (h1 : w.heap.size ≤ w1.heap.size) (g5 : w.heap.size ≤ N5) (g7 : w.heap.size ≤ N7) :
    laws_FnConserved.D w (W.alloc (.cells #[.int .i64 ep, .slice A3 l.length c3] 31 (0, 0))) b3 b5 b7 W.heap.size ep A3 c3 l x1 A5 c5 x2 y1 A7 c7 y2 A4 c4 ts ep A3 c3 l :=
  have hb := below_alloc (Below.refl W.heap.size W) (.cells #[.int .i64 ep, .slice A3 l.length c3] 31 (0, 0));have hl : laws_FnConserved.Bx w (W.alloc (.cells #[.int .i64 ep, .slice A3 l.length c3] 31 (0, 0))) W.heap.size b3 ep A3 c3 l := laws_FnConserved.Bx.late h3 hS h1 hb
  ⟨hl, laws_FnConserved.Bx.late h5 hX g5 hb, laws_FnConserved.Bx.late h7 hY g7 hb, ⟨blk_new W _, hl.s⟩, Kd.R_below (Kd.R_lower (Kd.R_mono (Kd.R_bound hR) (fun k_ hk => (Nat.ne_of_lt hk.2.2.1 : k_ ≠ W.heap.size))) h1) hb, below_alloc hB _, hB.size, Nat.ne_of_lt (blk_lt h3), Nat.ne_of_lt (blk_lt h5), Nat.ne_of_lt (blk_lt h7)⟩
end
def laws_FnConserved.l0 : Nat → List S35 → Nat → Int → Int → List S63 → Option (Int × List S63 × Int)
  | 0, _, _, _, _, _ => none
  | k + 1, ts, i, n, ep, l => if i < ts.length then (impl_Apply.f k ep l (rd_T35 ts (i : Int)).f0 (rd_T35 ts (i : Int)).f1 (rd_T35 ts (i : Int)).f2 (rd_T35 ts (i : Int)).f3 (rd_T35 ts (i : Int)).f4).bind fun b => if b.2.2 = 0 then laws_FnConserved.l0 k ts (i + 1) (wrap64 (n + 1)) b.1 b.2.1 else laws_FnConserved.l0 k ts (i + 1) n ep l else some (ep, l, n)
def laws_FnConserved.h (k : Nat) (l : List S63) (x1 : Int) (x2 : List S63) (n : Int) (y1 : Int) (y2 : List S63) (o1 : Int) (o2 : List S63) (g : Int) : Option Bool :=
  (impl_Wealth.f k l).bind fun wl => (impl_Wealth.f k x2).bind fun wx => (impl_Wealth.f k y2).bind fun wy => (impl_LedgerOk.f k y1 y2).bind fun q => (impl_StateRoot.f k o1 o2).bind fun s1 => (impl_StateRoot.f k x1 x2).bind fun s2 =>
  if g = n ∧ wx = wl ∧ wy = wl ∧ q = true ∧ s1 = s2 then some true else none
def laws_FnConserved.f (k : Nat) (l0 : List Int) : Option Bool :=
  (laws_big.f l0).bind fun b => if b = true then some true else (spec_DrawLedger.f k l0).bind fun p => (impl_ApplyAll.f k p.1 p.2.1 p.2.2).bind fun x => (impl_NextEpoch.f k x.1 x.2.1).bind fun y => (laws_FnConserved.l0 k p.2.2 0 0 p.1 p.2.1).bind fun u =>
  laws_FnConserved.h k p.2.1 x.1 x.2.1 x.2.2 y.1 y.2 u.1 u.2.1 u.2.2
theorem laws_FnConserved.next {j N : Nat} (h : j < N) (hN : N ≤ 9223372036854775807) : wrap64 ((j : Int) + 1) = ((j + 1 : Nat) : Int) := by
  unfold wrap64
  omega
theorem laws_FnConserved.meas (N j : Nat) (h : j < N) : N - (intOf (Value.int IntKind.i64 ((j + 1 : Nat) : Int))).toNat < N - (intOf (Value.int IntKind.i64 (j : Int))).toNat := by
  simp only [intOf, Int.toNat_natCast]
  omega
set_option maxHeartbeats 8000000 in
set_option maxRecDepth 100000 in
theorem laws_FnConserved.calls (k : Nat) (A0 : Option Addr) (c0 : Nat) (l0 : List Int) (r : Bool) (w : World) (hr0 : Kd.C (Kd.int .u8) w A0 l0.length l0) (hc0 : l0.length ≤ c0) (h : laws_FnConserved.f k l0 = some r) :
    Calls Try.prog 4 #[.slice A0 l0.length c0] w fun e w' => e = .returned (.bool r) ∧ Below w.heap.size w w' := by
  have HR := Aside0.mk hr0;have HC := Aside0.mk hc0;unfold laws_FnConserved.f at h;obtain ⟨b, hb, h1⟩ := Option.bind_eq_some_iff.mp h;have HBG := Aside0.mk hb;clear hb hr0 hc0 h;go_enter Try.func4, Try.ntmps4
  cases b with
  | true =>
    obtain rfl := Option.some.inj ((if_pos rfl).symm.trans h1)
    go_wp2_with (go_at_call 22; (with_reducible refine (laws_big.calls _ _ l0 _ _ ?s1 ?s2 HBG.out).mono ?_); (case s1 => exact HR.out); (case s2 => exact HC.out); rintro e w1 ⟨rfl, hd⟩; have HB1 := Aside0.mk hd.below; clear hd)
    go_ret;exact ⟨rfl, HB1.out⟩
  | false =>
    replace h1 := (if_neg (by simp)).symm.trans h1;obtain ⟨⟨ep, l, ts⟩, hd, h2⟩ := Option.bind_eq_some_iff.mp h1;obtain ⟨⟨x1, x2, n⟩, hx, h3⟩ := Option.bind_eq_some_iff.mp h2;obtain ⟨⟨y1, y2⟩, hy, h4⟩ := Option.bind_eq_some_iff.mp h3;obtain ⟨⟨o1, o2, g⟩, ho, h5⟩ := Option.bind_eq_some_iff.mp h4;unfold laws_FnConserved.h at h5;obtain ⟨wl, hw1, h6⟩ := Option.bind_eq_some_iff.mp h5;obtain ⟨wx, hw2, h7⟩ := Option.bind_eq_some_iff.mp h6;obtain ⟨wy, hw3, h8⟩ := Option.bind_eq_some_iff.mp h7;obtain ⟨q, hq, h9⟩ := Option.bind_eq_some_iff.mp h8;obtain ⟨s1, hs1, h10⟩ := Option.bind_eq_some_iff.mp h9;obtain ⟨s2, hs2, h11⟩ := Option.bind_eq_some_iff.mp h10
    by_cases hc : g = n ∧ wx = wl ∧ wy = wl ∧ q = true ∧ s1 = s2
    case neg => exact absurd ((if_neg hc).symm.trans h11) (by simp)
    obtain rfl := Option.some.inj ((if_pos hc).symm.trans h11);obtain ⟨rfl, rfl, rfl, rfl, rfl⟩ := hc;have HDR := Aside0.mk hd;have HX := Aside0.mk hx;have HY := Aside0.mk hy;have HO := Aside0.mk ho;have HW1 := Aside0.mk hw1;have HW2 := Aside0.mk hw2;have HW3 := Aside0.mk hw3;have HQ := Aside0.mk hq;have HS1 := Aside0.mk hs1;have HS2 := Aside0.mk hs2;clear h1 h2 h3 h4 h5 h6 h7 h8 h9 h10 h11 hd hx hy ho hw1 hw2 hw3 hq hs1 hs2
    go_upto_region 4 with (first | (go_at_call 22; (with_reducible refine (laws_big.calls _ _ l0 _ _ ?s1 ?s2 HBG.out).mono ?_); (case s1 => exact HR.out); (case s2 => exact HC.out); rintro e w1 ⟨rfl, hd⟩; have HB1 := Aside0.mk hd.below; clear hd) | (go_at_call 23; (with_reducible refine (spec_DrawLedger.calls k _ _ l0 ep l ts _ ?s1 ?s2 HDR.out).mono ?_); (case s1 => exact Kd.C_below HR.out HB1.out); (case s2 => exact HC.out); rintro e w2 ⟨v2, v2', rfl, hS, hR, hb⟩; obtain ⟨A3, c3, rfl⟩ := Kd.S_slice hS; obtain ⟨A4, c4, rfl⟩ := Kd.R_slice hR; have HSL := Aside0.mk hS; have HRT := Aside0.mk hR; have HB2 := bst HB1 hb; have HLO := Aside0.mk HB1.out.size; clear hb hS hR))
    have h3 := blk_new w2 (.cells #[.int .i64 ep, .slice A3 l.length c3] 31 (0, 0));have hS := Kd.S_alloc HSL.out (.cells #[.int .i64 ep, .slice A3 l.length c3] 31 (0, 0));have hR := Kd.R_alloc HRT.out (.cells #[.int .i64 ep, .slice A3 l.length c3] 31 (0, 0));have hB := below_alloc HB2.out (.cells #[.int .i64 ep, .slice A3 l.length c3] 31 (0, 0))
    generalize w2.alloc (.cells #[.int .i64 ep, .slice A3 l.length c3] 31) = w3 at h3 hS hR hB ⊢
    generalize w2.heap.size = b3 at h3 ⊢
    have H3 := Aside0.mk h3;have HS3 := Aside0.mk hS;have HR3 := Aside0.mk hR;have HB3 := Aside0.mk hB;have a0 := (blk_cell h3 0).trans rfl;have a1 := (blk_cell h3 1).trans rfl;clear h3 hS hR hB HSL HRT HB2 HB1
    go_upto_region 5 with (go_at_call 24; (with_reducible refine (impl_ApplyAll.calls k ep _ _ l _ _ ts x1 x2 g w3 ?s1 ?s2 ?s3 ?s4 HX.out).mono ?_); (case s1 => exact (Kd.S_reads' HS3.out).2.2); (case s2 => exact (Kd.S_reads' HS3.out).2.1); (case s3 => exact (Kd.R_reads' HR3.out).2.2); (case s4 => exact (Kd.R_reads' HR3.out).2.1); rintro e w4 ⟨v4, rfl, hS, hb⟩; obtain ⟨A5, c5, rfl⟩ := Kd.S_slice hS; have H4 := Aside0.mk (blk_below H3.out hb); have HS4 := Aside0.mk (Kd.S_below HS3.out hb); have HR4 := Aside0.mk (Kd.R_below HR3.out hb); have HB4 := bst HB3 hb; have HX4 := Aside0.mk hS; have HLO4 := Aside0.mk HB3.out.size; clear hb hS)
    have h3 := blk_alloc H4.out (.cells #[.int .i64 x1, .slice A5 x2.length c5] 31 (0, 0));have h5 := blk_new w4 (.cells #[.int .i64 x1, .slice A5 x2.length c5] 31 (0, 0));have hS := Kd.S_alloc HS4.out (.cells #[.int .i64 x1, .slice A5 x2.length c5] 31 (0, 0));have hX := Kd.S_alloc HX4.out (.cells #[.int .i64 x1, .slice A5 x2.length c5] 31 (0, 0));have hR := Kd.R_alloc HR4.out (.cells #[.int .i64 x1, .slice A5 x2.length c5] 31 (0, 0));have hB := below_alloc HB4.out (.cells #[.int .i64 x1, .slice A5 x2.length c5] 31 (0, 0));clear a0 a1
    generalize w4.alloc (.cells #[.int .i64 x1, .slice A5 x2.length c5] 31) = w5 at h3 h5 hS hX hR hB ⊢
    generalize w4.heap.size = b5 at h5 ⊢
    generalize w3.heap.size = N5 at hX HLO4
    have H3 := Aside0.mk h3;have H5 := Aside0.mk h5;have HS5 := Aside0.mk hS;have HX5 := Aside0.mk hX;have HR5 := Aside0.mk hR;have HB5 := Aside0.mk hB;have a0 := (blk_cell h5 0).trans rfl;have a1 := (blk_cell h5 1).trans rfl;clear h3 h5 hS hX hR hB H4 HS4 HX4 HR4 HB4 HS3 HR3 HB3
    go_upto_region 6 with (go_at_call 25; (with_reducible refine (impl_NextEpoch.calls k x1 _ _ x2 y1 y2 w5 ?s1 ?s2 HY.out).mono ?_); (case s1 => exact (Kd.S_reads' HX5.out).2.2); (case s2 => exact (Kd.S_reads' HX5.out).2.1); rintro e w6 ⟨v6, rfl, hS, hb⟩; obtain ⟨A7, c7, rfl⟩ := Kd.S_slice hS; have H36 := Aside0.mk (blk_below H3.out hb); have H56 := Aside0.mk (blk_below H5.out hb); have HS6 := Aside0.mk (Kd.S_below HS5.out hb); have HX6 := Aside0.mk (Kd.S_below HX5.out hb); have HR6 := Aside0.mk (Kd.R_below HR5.out hb); have HB6 := bst HB5 hb; have HY6 := Aside0.mk hS; have HLO6 := Aside0.mk HB5.out.size; clear hb hS)
    have h3 := blk_alloc H36.out (.cells #[.int .i64 y1, .slice A7 y2.length c7] 31 (0, 0));have h5 := blk_alloc H56.out (.cells #[.int .i64 y1, .slice A7 y2.length c7] 31 (0, 0));have h7 := blk_new w6 (.cells #[.int .i64 y1, .slice A7 y2.length c7] 31 (0, 0));have hS := Kd.S_alloc HS6.out (.cells #[.int .i64 y1, .slice A7 y2.length c7] 31 (0, 0));have hX := Kd.S_alloc HX6.out (.cells #[.int .i64 y1, .slice A7 y2.length c7] 31 (0, 0));have hY := Kd.S_alloc HY6.out (.cells #[.int .i64 y1, .slice A7 y2.length c7] 31 (0, 0));have hR := Kd.R_alloc HR6.out (.cells #[.int .i64 y1, .slice A7 y2.length c7] 31 (0, 0));have hB := below_alloc HB6.out (.cells #[.int .i64 y1, .slice A7 y2.length c7] 31 (0, 0));clear a0 a1
    generalize w6.alloc (.cells #[.int .i64 y1, .slice A7 y2.length c7] 31) = w7 at h3 h5 h7 hS hX hY hR hB ⊢
    generalize w6.heap.size = b7 at h7 ⊢
    generalize w5.heap.size = N7 at hY HLO6
    have a0 := (blk_cell h3 0).trans rfl;have a1 := (blk_cell h3 1).trans rfl;have hn := laws_FnConserved.D.new (w1 := w1) h3 h5 h7 hS hX hY hR hB HLO.out HLO4.out HLO6.out;have HN := Aside0.mk hn;clear h3 h5 h7 hS hX hY hR hB hn H3 H5 HS5 HX5 HR5 HB5 H36 H56 HS6 HX6 HY6 HR6 HB6 HLO HLO4 HLO6 HX HY HDR HR HC HBG
    go_upto_region 7 with fail
    have HD := Aside0.mk HN.out;clear a0 a1 HN
    generalize w7.alloc (.cells #[.int .i64 ep, .slice A3 l.length c3] 31) = w8 at HD ⊢
    generalize w7.heap.size = b8 at HD ⊢
    have HNT : Aside0 (ts.length ≤ 9223372036854775807) := ⟨(Kd.R_reads' HD.out.t_).2.2.2.1⟩;go_wp2
    go_loopw [9, 10] (fun nv iv wr => ∃ (kq : Nat) (m : Int) (i : Nat) (e : Int) (A : Option Addr) (c : Nat) (o : List S63), nv = .int .i64 m ∧ iv = .int .i64 (i : Int) ∧ i ≤ ts.length ∧ Aside0 (laws_FnConserved.l0 kq ts i m e o = some (o1, o2, g)) ∧ Aside0 (laws_FnConserved.D w wr b3 b5 b7 b8 ep A3 c3 l x1 A5 c5 x2 y1 A7 c7 y2 A4 c4 ts e A c o)) (fun nv iv _ => ts.length - (intOf iv).toNat)
    case atStart => exact ⟨k, 0, 0, ep, A3, c3, l, rfl, rfl, Nat.zero_le _, HO, HD⟩
    case round =>
      clear HD HO;obtain ⟨kq, m, i, e, A, c, o, rfl, rfl, hi, H2, HD⟩ := hrel
      by_cases hlt : i < ts.length
      case pos =>
        cases kq with
        | zero => exact absurd H2.out (by simp [laws_FnConserved.l0])
        | succ kq =>
          have h2 := H2.out;simp only [laws_FnConserved.l0] at h2;rw [if_pos hlt] at h2;obtain ⟨⟨q1, q2, q3⟩, hx, h2⟩ := Option.bind_eq_some_iff.mp h2;obtain ⟨ad, eA, x0, xf1, xf2, xf3, xf4⟩ := at_T35 (Kd.R_reads' HD.out.t_).2.2 (i : Int) (by omega) (by omega);subst eA;obtain ⟨s, hs_⟩ : ∃ s, s = rd_T35 ts (i : Int) := ⟨_, rfl⟩;rw [← hs_] at x0 xf1 xf2 xf3 xf4 hx;rw [Int.toNat_natCast] at x0 xf1 xf2 xf3 xf4;have HX := Aside0.mk hx;have H3 := Aside0.mk h2;have p0 : (0 ≤ (i : Int)) = True := eq_true (by omega);have p1 : ((i : Int) < (ts.length : Int)) = True := eq_true (by omega);have HLT := Aside0.mk hlt;have nx := laws_FnConserved.next hlt HNT.out;clear hx h2 H2 hs_ hlt hi;have HTX : Aside0 (∀ W', Below wr.heap.size wr W' → W'.cell? ⟨b8, 0, none⟩ = some (.int .i64 e) ∧ W'.cell? ⟨b8, 1, none⟩ = some (.slice A o.length c) ∧ W'.cell? (ad.add (i * 5)) = some (.int .i64 s.f0) ∧ W'.cell? ⟨(ad.add (i * 5)).block, (ad.add (i * 5)).off + 1, none⟩ = some (.string s.f1) ∧ W'.cell? ⟨(ad.add (i * 5)).block, (ad.add (i * 5)).off + 2, none⟩ = some (.string s.f2) ∧ W'.cell? ⟨(ad.add (i * 5)).block, (ad.add (i * 5)).off + 3, none⟩ = some (.int .i64 s.f3) ∧ W'.cell? ⟨(ad.add (i * 5)).block, (ad.add (i * 5)).off + 4, none⟩ = some (.int .i64 s.f4)) := ⟨fun W' hb => ⟨(HD.out.below hb).o_.two.1, (HD.out.below hb).o_.two.2, (hb.cell (World.block_lt_of_cell? _ _ x0)).trans x0, (hb.cell (World.block_lt_of_cell? _ _ xf1)).trans xf1, (hb.cell (World.block_lt_of_cell? _ _ xf2)).trans xf2, (hb.cell (World.block_lt_of_cell? _ _ xf3)).trans xf3, (hb.cell (World.block_lt_of_cell? _ _ xf4)).trans xf4⟩⟩;clear x0 xf1 xf2 xf3 xf4
          go_upto_region 11 with fail
          go_cut [11, 12] from 34 to 49 (fun s11 s12 wx => ∃ (b11 : Nat) (A6 : Option Addr) (c6 N : Nat), s11 = .pointer (some ⟨b11, 0, none⟩) ∧ s12 = .int .i64 q3 ∧ laws_FnConserved.D w wx b3 b5 b7 b8 ep A3 c3 l x1 A5 c5 x2 y1 A7 c7 y2 (some ad) c4 ts e A c o ∧ wx.heap[b11]? = some (.cells #[.int .i64 q1, .slice A6 q2.length c6] 31 (0, 0)) ∧ b8 < N ∧ Kd.S k63 63 wx N (fun _ => True) (.slice A6 q2.length c6) q2)
          case first =>
            obtain ⟨a0, a1, t0_, t1_, t2_, t3_, t4_⟩ := HTX.out _ (Below.refl _ _);have HD0 := HD
            go_region_held3 (fun w' => w'.cell? ⟨b8, 0, none⟩ = some (.int .i64 e) ∧ w'.cell? ⟨b8, 1, none⟩ = some (.slice A o.length c) ∧ w'.cell? (ad.add (i * 5)) = some (.int .i64 s.f0) ∧ w'.cell? ⟨(ad.add (i * 5)).block, (ad.add (i * 5)).off + 1, none⟩ = some (.string s.f1) ∧ w'.cell? ⟨(ad.add (i * 5)).block, (ad.add (i * 5)).off + 2, none⟩ = some (.string s.f2) ∧ w'.cell? ⟨(ad.add (i * 5)).block, (ad.add (i * 5)).off + 3, none⟩ = some (.int .i64 s.f3) ∧ w'.cell? ⟨(ad.add (i * 5)).block, (ad.add (i * 5)).off + 4, none⟩ = some (.int .i64 s.f4)) (((with_reducible refine HTX.out _ ?_); repeat (with_reducible first | exact HBE.out | exact Below.refl _ _ | refine below_drew ?_ | refine below_alloc ?_ _ | refine below_set ?_ (Nat.le_refl _)))) ((go_at_call 18; (with_reducible refine (impl_Apply.calls kq e _ _ o s.f0 s.f1 s.f2 s.f3 s.f4 q1 q2 q3 _ ?s1 ?s2 HX.out).mono ?_); (case s1 => with_reducible first | exact (HD.out.below (below_drew (Below.refl _ _))).o_.rd.1 | exact (HD.out.below (below_drew (below_alloc (Below.refl _ _) (.cells #[.int .i64 0, .slice none 0 0] 31 (0, 0))))).o_.rd.1); (case s2 => exact HD.out.o_.rd.2); rintro e_ w5 ⟨v6, rfl, hS, hb⟩; obtain ⟨A6, c6, rfl⟩ := Kd.S_slice hS; (with_reducible first | (have hbe := below_step (below_drew (Below.refl _ _)) hb; have hD5 := HD.out.below hbe; have hN := blk_lt (HD.out.below (below_drew (Below.refl _ _))).o_.h) | (have hbe := below_step (below_drew (below_alloc (Below.refl _ _) (.cells #[.int .i64 0, .slice none 0 0] 31 (0, 0)))) hb; have hD5 := HD.out.below hbe; have hN := blk_lt (HD.out.below (below_drew (below_alloc (Below.refl _ _) (.cells #[.int .i64 0, .slice none 0 0] 31 (0, 0))))).o_.h)); (first | (have BK := Aside0.mk (blk_below (blk_drew (blk_new _ (.cells #[.int .i64 0, .slice none 0 0] 31 (0, 0)))) hb); have b0_ := (blk_cell BK.out 0).trans rfl; have fb0_ := blk_frozen BK.out 0; have b1_ := (blk_cell BK.out 1).trans rfl; have fb1_ := blk_frozen BK.out 1) | skip); have HBE := Aside0.mk hbe; have HD5 := Aside0.mk hD5; have HS5 := Aside0.mk hS; have HN5 := Aside0.mk hN; clear hb hbe hD5 hS hN))
            all_goals
              go_wp2_with fail
              go_meet
              (first | (have g_ := BK; exact ⟨_, A6, c6, _, rfl, rfl, HD0.out.below (below_set (below_set HBE.out (Nat.le_refl _)) (Nat.le_refl _)), blk_put (cs := #[.int .i64 q1, .slice none 0 0]) (blk_put (cs := #[.int .i64 0, .slice none 0 0]) BK.out 0 _ rfl) 1 _ rfl, HN5.out, laws_FnConserved.sfar (laws_FnConserved.sfar HS5.out (blk_lt (blk_drew (blk_new wr (.cells #[.int .i64 0, .slice none 0 0] 31 (0, 0))))) _) (blk_lt (blk_drew (blk_new wr (.cells #[.int .i64 0, .slice none 0 0] 31 (0, 0))))) _⟩) | exact ⟨_, A6, c6, _, rfl, rfl, HD5.out.below (below_alloc (Below.refl _ _) _), blk_new _ _, HN5.out, Kd.S_alloc HS5.out _⟩)
          case rest =>
            obtain ⟨b11, A6, c6, N, rfl, rfl, hD, hB, hN, hS⟩ := hcut;have hP := hD.put (e' := q1) hN hS;have HP := Aside0.mk hP;have HD := Aside0.mk hD;have y0 := (blk_cell hB 0).trans rfl;have y1_ := (blk_cell hB 1).trans rfl;have z0 := (blk_cell hD.o_.h 0).trans rfl;have z1 := (blk_cell hD.o_.h 1).trans rfl;have fz0 := blk_frozen hD.o_.h 0;have fz1 := blk_frozen hD.o_.h 1;clear hD hB hN hS hP HTX HX
            by_cases c0 : q3 = 0
            case pos =>
              have b0 : (q3 == 0) = true := beq_iff_eq.mpr c0;have h3 := H3.out;rw [if_pos c0] at h3;have H3 := Aside0.mk h3;clear h3 c0;go_wp2
              go_roundw
              case rel => exact ⟨kq, wrap64 (m + 1), i + 1, q1, A6, c6, q2, by go_num, by go_num, by have := HLT.out; omega, H3, HP⟩
              case measure => rw [nx]; exact laws_FnConserved.meas _ i HLT.out
            case neg =>
              have b0 : (q3 == 0) = false := beq_eq_false_iff_ne.mpr c0;have h3 := H3.out;rw [if_neg c0] at h3;have H3 := Aside0.mk h3;clear h3 c0;go_wp2
              go_roundw
              case rel => exact ⟨kq, m, i + 1, e, A, c, o, rfl, by go_num, by have := HLT.out; omega, H3, HD⟩
              case measure => rw [nx]; exact laws_FnConserved.meas _ i HLT.out
      case neg =>
        cases kq with
        | zero => exact absurd H2.out (by simp [laws_FnConserved.l0])
        | succ kq =>
          have h2 := H2.out;simp only [laws_FnConserved.l0] at h2;rw [if_neg hlt] at h2
          obtain ⟨rfl, rfl, rfl⟩ : e = o1 ∧ o = o2 ∧ m = g := by injection h2 with h2; injection h2 with e1 h2; injection h2 with e2 e3; exact ⟨e1, e2, e3⟩
          have p1 : ((i : Int) < (ts.length : Int)) = False := eq_false (by omega);have a1 := HD.out.l_.two.2;clear h2 H2 hlt hi
          go_upto_region 16 with (go_at_call 26; (with_reducible refine (impl_Wealth.calls k _ _ l _ _ ?s1 ?s2 HW1.out).mono ?_); (case s1 => exact HD.out.l_.rd.1); (case s2 => exact HD.out.l_.rd.2); rintro e_ w9 ⟨rfl, hb⟩; have HD9 := Aside0.mk (HD.out.below hb); clear hb)
          have HD := HD9;clear a1 HD9;have HTW : Aside0 (∀ W', Below w9.heap.size w9 W' → W'.cell? ⟨b5, 0, none⟩ = some (.int .i64 x1) ∧ W'.cell? ⟨b5, 1, none⟩ = some (.slice A5 x2.length c5) ∧ W'.cell? ⟨b7, 0, none⟩ = some (.int .i64 y1) ∧ W'.cell? ⟨b7, 1, none⟩ = some (.slice A7 y2.length c7) ∧ W'.cell? ⟨b8, 0, none⟩ = some (.int .i64 e) ∧ W'.cell? ⟨b8, 1, none⟩ = some (.slice A o.length c)) := ⟨fun W' hb => ⟨(HD.out.below hb).x_.two.1, (HD.out.below hb).x_.two.2, (HD.out.below hb).y_.two.1, (HD.out.below hb).y_.two.2, (HD.out.below hb).o_.two.1, (HD.out.below hb).o_.two.2⟩⟩;obtain ⟨a0, a1, a2, a3, a4, a5⟩ := HTW.out _ (Below.refl _ _);have HBE := Aside0.mk (Below.refl w9.heap.size w9)
          go_region_held3 (fun w' => w'.cell? ⟨b5, 0, none⟩ = some (.int .i64 x1) ∧ w'.cell? ⟨b5, 1, none⟩ = some (.slice A5 x2.length c5) ∧ w'.cell? ⟨b7, 0, none⟩ = some (.int .i64 y1) ∧ w'.cell? ⟨b7, 1, none⟩ = some (.slice A7 y2.length c7) ∧ w'.cell? ⟨b8, 0, none⟩ = some (.int .i64 e) ∧ w'.cell? ⟨b8, 1, none⟩ = some (.slice A o.length c)) (((with_reducible refine HTW.out _ ?_); repeat (with_reducible first | exact HBE.out | refine below_drew ?_))) (first | (go_at_call 26; (with_reducible refine (impl_Wealth.calls k A5 c5 x2 _ _ ?s1 ?s2 HW2.out).mono ?_); (case s1 => with_reducible exact (HD.out.below (below_drew (Below.refl _ _))).x_.rd.1); (case s2 => exact HD.out.x_.rd.2); rintro e_ wu ⟨rfl, hb⟩; (with_reducible (have hbe := below_step (below_drew HBE.out) hb; have hD_ := HD.out.below (below_step (below_drew (Below.refl _ _)) hb))); clear hb HD HBE; have HD := Aside0.mk hD_; have HBE := Aside0.mk hbe; clear hD_ hbe) | (go_at_call 26; (with_reducible refine (impl_Wealth.calls k A7 c7 y2 _ _ ?s1 ?s2 HW3.out).mono ?_); (case s1 => with_reducible exact HD.out.y_.rd.1); (case s2 => exact HD.out.y_.rd.2); rintro e_ wu ⟨rfl, hb⟩; (with_reducible (have hbe := below_step HBE.out hb; have hD_ := HD.out.below hb)); clear hb HD HBE; have HD := Aside0.mk hD_; have HBE := Aside0.mk hbe; clear hD_ hbe) | (go_at_call 27; (with_reducible refine (impl_LedgerOk.calls k y1 A7 c7 y2 _ _ ?s1 ?s2 HQ.out).mono ?_); (case s1 => with_reducible exact HD.out.y_.rd.1); (case s2 => exact HD.out.y_.rd.2); rintro e_ wu ⟨rfl, hb⟩; (with_reducible (have hbe := below_step HBE.out hb; have hD_ := HD.out.below hb)); clear hb HD HBE; have HD := Aside0.mk hD_; have HBE := Aside0.mk hbe; clear hD_ hbe) | (go_at_call 28; (with_reducible refine (impl_StateRoot.calls k e A c o _ _ ?s1 ?s2 HS1.out).mono ?_); (case s1 => with_reducible exact HD.out.o_.rd.1); (case s2 => exact HD.out.o_.rd.2); rintro e_ wu ⟨rfl, hb⟩; (with_reducible (have hbe := below_step HBE.out hb; have hD_ := HD.out.below hb)); clear hb HD HBE; have HD := Aside0.mk hD_; have HBE := Aside0.mk hbe; clear hD_ hbe) | (go_at_call 28; (with_reducible refine (impl_StateRoot.calls k x1 A5 c5 x2 _ _ ?s1 ?s2 HS2.out).mono ?_); (case s1 => with_reducible exact HD.out.x_.rd.1); (case s2 => exact HD.out.x_.rd.2); rintro e_ wu ⟨rfl, hb⟩; (with_reducible (have hbe := below_step HBE.out hb; have hD_ := HD.out.below hb)); clear hb HD HBE; have HD := Aside0.mk hD_; have HBE := Aside0.mk hbe; clear hD_ hbe))
          go_wp2_with fail
          go_ret;exact ⟨rfl, HD.out.b_⟩

end Go.Proofs.Ytcbpfofkdipjhaa.PV
