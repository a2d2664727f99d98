/- The machine's side of Go functions: each as a plain function,and that the call does what it says. Written by a program (wip/mprint). -/
import Derived.Deep.CutRange
import Derived.Deep.Cut
import Derived.Deep.RegionHeld3
import Derived.Lib.Hide
import Derived.Test.YtcbpfofkdipjhaaAAPJx0
import Derived.Test.YtcbpfofkdipjhaaAAPJx15
import Derived.Test.YtcbpfofkdipjhaaAAPJx18
namespace Go.Proofs.Ytcbpfofkdipjhaa.PJ
open Go.RowKit Go.Proofs.YtcbpfofkdipjhaaW.PrintWords Go.Proofs.YtcbpfofkdipjhaaW.PrintLast Go.Proofs.YtcbpfofkdipjhaaW.PrintMore
attribute [local wf_preprocess] Act.put List.setIfInBounds_toArray List.set_cons_zero List.set_cons_succ i64_w i32_w
attribute [local go_sem] max2_int min2_int max_two min_two max_three min_three max_four min_four   -- for this text's walks alone
set_option linter.unusedVariables false
set_option linter.unusedSimpArgs false

/-! ### spec_ApplyAll: function 30 -/
/-- The results' cell, the ledger as it is, and nothing else of old. -/
structure spec_ApplyAll.D (w W : World) (b4 b6 : Nat) (ep : Int) (A : Option Addr) (c : Nat) (l : List S63) : Prop where
  h4 : W.heap[b4]? = some (.cells #[.int .i64 0, .slice none 0 0] 31 (0, 0))
  h6 : W.heap[b6]? = some (.cells #[.int .i64 ep, .slice A l.length c] 31 (0, 0))
  s : Kd.N k63 63 W w.heap.size (fun k_ => k_ ≠ b4 ∧ k_ ≠ b6 ∧ w.heap.size ≤ k_) (.slice A l.length c) l
  b : Below w.heap.size w W
  g4 : w.heap.size ≤ b4
  g6 : b4 < b6
theorem spec_ApplyAll.D.below {w W W' : World} {b4 b6 : Nat} {ep : Int} {A : Option Addr} {c : Nat} {l : List S63} (h : spec_ApplyAll.D w W b4 b6 ep A c l) (hb : Below W.heap.size W W') : spec_ApplyAll.D w W' b4 b6 ep A c l :=
  ⟨blk_below h.h4 hb, blk_below h.h6 hb, Kd.N_below h.s hb, below_step h.b hb, h.g4, h.g6⟩
theorem spec_ApplyAll.D.put {w W : World} {b4 b6 : Nat} {ep ep' : Int} {A A' : Option Addr} {c c' N : Nat} {l l' : List S63} (h : spec_ApplyAll.D w W b4 b6 ep A c l) (hN : b6 < N) (hs : Kd.N k63 63 W N (fun k_ => N ≤ k_) (.slice A' l'.length c') l') : spec_ApplyAll.D w ((W.setCell ⟨b6, 0, none⟩ (.int .i64 ep')).setCell ⟨b6, 1, none⟩ (.slice A' l'.length c')) b4 b6 ep' A' c' l' :=
  ⟨blk_far (blk_far h.h4 (p := ⟨b6, 0, none⟩) (Nat.ne_of_lt h.g6) _) (p := ⟨b6, 1, none⟩) (Nat.ne_of_lt h.g6) _, blk_put (cs := #[.int .i64 ep', .slice A l.length c]) (blk_put (cs := #[.int .i64 ep, .slice A l.length c]) h.h6 0 _ rfl) 1 _ rfl,
   Kd.N_far (p := ⟨b6, 1, none⟩) (Kd.N_far (p := ⟨b6, 0, none⟩) (Kd.N_lower (Kd.N_mono hs (fun k_ (hk : N ≤ k_) => (⟨by have h2 := h.g6; omega, by omega, by have h1 := h.g4; have h2 := h.g6; omega⟩ : k_ ≠ b4 ∧ k_ ≠ b6 ∧ w.heap.size ≤ k_))) (by have h1 := h.g4; have h2 := h.g6; omega)) (fun k_ hk => hk.2.1) _) (fun k_ hk => hk.2.1) _,
   below_set (below_set h.b (by have h1 := h.g4; have h2 := h.g6; omega)) (by have h1 := h.g4; have h2 := h.g6; omega), h.g4, h.g6⟩
theorem spec_ApplyAll.D.new {w w1 w2 : World} {b4 : Nat} {ep : Int} {A : Option Addr} {c : Nat} {l : List S63} (h4 : w1.heap[b4]? = some (.cells #[.int .i64 0, .slice none 0 0] 31 (0, 0))) (hb : Below w.heap.size w w1) (hg : w.heap.size ≤ b4) (hs : Kd.S k63 63 w2 w1.heap.size (fun _ => True) (.slice A l.length c) l) (hb2 : Below w1.heap.size w1 w2) :
    spec_ApplyAll.D w (w2.alloc (.cells #[.int .i64 ep, .slice A l.length c] 31 (0, 0))) b4 w2.heap.size ep A c l :=
  have h1 : b4 < w1.heap.size := blk_lt h4
  ⟨blk_alloc (blk_below h4 hb2) _, blk_new w2 _, Kd.S_N (Kd.S_lower (Kd.S_alloc (Kd.S_mono (Kd.S_bound hs) (fun k_ hk => (⟨by have h2 := hk.2.1; omega, by have h2 : k_ < w2.heap.size := hk.2.2.1; omega, by have h2 := hk.2.1; have h3 := hb.size; omega⟩ : k_ ≠ b4 ∧ k_ ≠ w2.heap.size ∧ w.heap.size ≤ k_))) _) hb.size), below_alloc (below_step hb hb2) _, hg, Nat.lt_of_lt_of_le h1 hb2.size⟩
theorem spec_ApplyAll.two (w : World) (o1 o2 : Obj) : ((w.alloc o1).alloc o2).heap[w.heap.size]? = some o1 ∧ ((w.alloc o1).alloc o2).heap[w.heap.size + 1]? = some o2 := by
  have h1 := blk_new w o1;have e1 : (w.alloc o1).heap.size = w.heap.size + 1 := Array.size_push _;refine ⟨blk_alloc h1 _, ?_⟩;rw [← e1];exact blk_new _ _
def spec_ApplyAll.l0 : Nat → List S35 → Nat → Int → Int → List S63 → Option (Int × List S63 × Int)
  | 0, _, _, _, _, _ => none
  | k + 1, ts, i, n, ep, l => if i < ts.length then (spec_Apply.f k ep l (rd_T35 ts (i : Int)).f0 (rd_T35 ts (i : Int)).f1 (rd_T35 ts (i : Int)).f2 (rd_T35 ts (i : Int)).f3 (rd_T35 ts (i : Int)).f4).bind fun b => if b.2.2 = 0 then spec_ApplyAll.l0 k ts (i + 1) (wrap64 (n + 1)) b.1 b.2.1 else spec_ApplyAll.l0 k ts (i + 1) n ep l else some (ep, l, n)
def spec_ApplyAll.f (k : Nat) (ep : Int) (l : List S63) (ts : List S35) : Option (Int × List S63 × Int) := (spec_l6Copy.f k ep l).bind fun p => spec_ApplyAll.l0 k ts 0 0 p.1 p.2
theorem spec_ApplyAll.next {j N : Nat} (h : j < N) (hN : N ≤ 9223372036854775807) : wrap64 ((j : Int) + 1) = ((j + 1 : Nat) : Int) := by
  unfold wrap64
  omega
theorem spec_ApplyAll.meas (N j : Nat) (h : j < N) : N - (intOf (Value.int IntKind.i64 ((j + 1 : Nat) : Int))).toNat < N - (intOf (Value.int IntKind.i64 (j : Int))).toNat := by
  simp only [intOf, Int.toNat_natCast]
  omega
set_option maxHeartbeats 8000000 in
set_option maxRecDepth 100000 in
theorem spec_ApplyAll.calls (k : Nat) (ep : Int) (A0 : Option Addr) (c0 : Nat) (l0 : List S63) (A1 : Option Addr) (c1 : Nat) (l1 : List S35) (r1 : Int) (r2 : List S63) (r3 : Int) (w : World) (hr0 : Kd.C k63 w A0 l0.length l0) (hc0 : l0.length ≤ c0) (hr1 : Kd.C k35 w A1 l1.length l1) (hc1 : l1.length ≤ c1) (h : spec_ApplyAll.f k ep l0 l1 = some (r1, r2, r3)) :
    Calls Try.prog 30 #[.agg #[.int .i64 ep, .slice A0 l0.length c0], .slice A1 l1.length c1] w fun e w' => ∃ v1_ : Value, e = .returned (.tuple #[.agg #[.int .i64 r1, v1_], .int .i64 r3]) ∧ Kd.N k63 63 w' w.heap.size (fun k_ => (w.heap.size ≤ k_)) v1_ r2 ∧ Below w.heap.size w w' := by
  have HR := Aside0.mk hr0;have HC := Aside0.mk hc0;have HR1 := Aside0.mk hr1;have hN : l1.length ≤ 9223372036854775807 := hr1.2.1;have HN := Aside0.mk hN;obtain ⟨⟨e1, y⟩, hp, hl⟩ := Option.bind_eq_some_iff.mp h;have HP := Aside0.mk hp;have HL := Aside0.mk hl;clear hr0 hc0 hr1 hc1 h hp hl hN;go_enter Try.func30, Try.ntmps30
  go_upto_region 1 with fail
  have hw := spec_ApplyAll.two w (.cells #[.int .i64 ep, .slice A0 l0.length c0] 31 (0, 0)) (.cells #[.int .i64 0, .slice none 0 0] 31 (0, 0));have hb := below_alloc (below_alloc (Below.refl _ w) (.cells #[.int .i64 ep, .slice A0 l0.length c0] 31 (0, 0))) (.cells #[.int .i64 0, .slice none 0 0] 31 (0, 0))
  generalize (w.alloc (.cells #[.int .i64 ep, .slice A0 l0.length c0] 31)).alloc (.cells #[.int .i64 0, .slice none 0 0] 31) = w1 at hw hb ⊢
  have a0 := (blk_cell hw.1 0).trans rfl;have a1 := (blk_cell hw.1 1).trans rfl;have H4 := Aside0.mk hw.2;have HB := Aside0.mk hb;clear hw hb;have HG : Aside0 (w.heap.size ≤ w.heap.size + 1) := ⟨Nat.le_succ _⟩
  generalize w.heap.size + 1 = b4 at H4 HG ⊢
  go_upto_region 2 with (go_at_call 58; (with_reducible refine (spec_l6Copy.calls k ep _ _ l0 e1 y w1 ?s1 ?s2 HP.out).mono ?_); (case s1 => exact Kd.C_below HR.out HB.out); (case s2 => exact HC.out); rintro e w2 ⟨v2, rfl, hS, hb⟩; obtain ⟨A2, c2, rfl⟩ := Kd.S_slice hS; have HS := Aside0.mk hS; have HB2 := Aside0.mk hb; clear hS hb)
  have hD : spec_ApplyAll.D w (w2.alloc (.cells #[.int .i64 e1, .slice A2 y.length c2] 31 (0, 0))) b4 w2.heap.size e1 A2 c2 y := spec_ApplyAll.D.new H4.out HB.out HG.out HS.out HB2.out
  generalize w2.alloc (.cells #[.int .i64 e1, .slice A2 y.length c2] 31) = w3 at hD ⊢
  generalize w2.heap.size = b6 at hD ⊢
  have HD := Aside0.mk hD;clear hD a0 a1 HS HB2 HB H4 HG HP;go_wp2
  go_loopw [7, 8] (fun nv iv wr => ∃ (kq : Nat) (m : Int) (i : Nat) (ep : Int) (A : Option Addr) (c : Nat) (l : List S63), nv = .int .i64 m ∧ iv = .int .i64 (i : Int) ∧ i ≤ l1.length ∧ Aside0 (spec_ApplyAll.l0 kq l1 i m ep l = some (r1, r2, r3)) ∧ spec_ApplyAll.D w wr b4 b6 ep A c l) (fun nv iv _ => l1.length - (intOf iv).toNat)
  case atStart => exact ⟨k, 0, 0, e1, A2, c2, y, rfl, rfl, Nat.zero_le _, HL, HD.out⟩
  case round =>
    clear HD HL HR HC;obtain ⟨kq, m, i, ep, A, c, l, rfl, rfl, hi, H2, hD⟩ := hrel;have HD := Aside0.mk hD;clear hD
    by_cases hlt : i < l1.length
    · cases kq with
      | zero => exact absurd H2.out (by simp [spec_ApplyAll.l0])
      | succ kq =>
        have h2 := H2.out;simp only [spec_ApplyAll.l0] at h2;rw [if_pos hlt] at h2;obtain ⟨⟨x1, x2, x3⟩, hx, h2⟩ := Option.bind_eq_some_iff.mp h2;obtain ⟨ad, eA, x0, xf1, xf2, xf3, xf4⟩ := at_T35 (Kd.C_below HR1.out HD.out.b) (i : Int) (by omega) (by omega);subst eA;obtain ⟨s, hs_⟩ : ∃ s, s = rd_T35 l1 (i : Int) := ⟨_, rfl⟩;rw [← hs_] at x0 xf1 xf2 xf3 xf4 hx;rw [Int.toNat_natCast] at x0 xf1 xf2 xf3 xf4;have HX := Aside0.mk hx;have H3 := Aside0.mk h2;have p0 : (0 ≤ (i : Int)) = True := eq_true (by omega);have p1 : ((i : Int) < (l1.length : Int)) = True := eq_true (by omega);have HLT := Aside0.mk hlt;have nx := spec_ApplyAll.next hlt HN.out;clear hx h2 H2 hs_ hlt hi;have hTX : Aside0 (∀ W', Below wr.heap.size wr W' → W'.cell? ⟨b6, 0, none⟩ = some (.int .i64 ep) ∧ W'.cell? ⟨b6, 1, none⟩ = some (.slice A l.length c) ∧ W'.cell? (ad.add (i * 5)) = some (.int .i64 s.f0) ∧ W'.cell? ⟨(ad.add (i * 5)).block, (ad.add (i * 5)).off + 1, none⟩ = some (.string s.f1) ∧ W'.cell? ⟨(ad.add (i * 5)).block, (ad.add (i * 5)).off + 2, none⟩ = some (.string s.f2) ∧ W'.cell? ⟨(ad.add (i * 5)).block, (ad.add (i * 5)).off + 3, none⟩ = some (.int .i64 s.f3) ∧ W'.cell? ⟨(ad.add (i * 5)).block, (ad.add (i * 5)).off + 4, none⟩ = some (.int .i64 s.f4)) := ⟨fun W' hb => ⟨(blk_cell (blk_below HD.out.h6 hb) 0).trans rfl, (blk_cell (blk_below HD.out.h6 hb) 1).trans rfl, (hb.cell (World.block_lt_of_cell? wr _ x0)).trans x0, (hb.cell (World.block_lt_of_cell? wr _ xf1)).trans xf1, (hb.cell (World.block_lt_of_cell? wr _ xf2)).trans xf2, (hb.cell (World.block_lt_of_cell? wr _ xf3)).trans xf3, (hb.cell (World.block_lt_of_cell? wr _ xf4)).trans xf4⟩⟩
        go_upto_region 6 with fail
        go_cut [9, 10] from 13 to 32 (fun s9 s10 wx => ∃ (bn : Nat) (A6 : Option Addr) (c6 : Nat), s9 = .pointer (some ⟨bn, 0, none⟩) ∧ s10 = .int .i64 x3 ∧ spec_ApplyAll.D w wx b4 b6 ep A c l ∧ wx.heap[bn]? = some (.cells #[.int .i64 x1, .slice A6 x2.length c6] 31 (0, 0)) ∧ b6 ≠ bn ∧ Kd.N k63 63 wx (b6 + 1) (fun k_ => b6 + 1 ≤ k_) (.slice A6 x2.length c6) x2)
        case first =>
          obtain ⟨g0, g1, tf0, tf1, tf2, tf3, tf4⟩ := hTX.out _ (Below.refl _ _);clear x0 xf1 xf2 xf3 xf4
          go_region_held3 (fun w' => w'.cell? ⟨b6, 0, none⟩ = some (.int .i64 ep) ∧ w'.cell? ⟨b6, 1, none⟩ = some (.slice A l.length c) ∧ w'.cell? (ad.add (i * 5)) = some (.int .i64 s.f0) ∧ w'.cell? ⟨(ad.add (i * 5)).block, (ad.add (i * 5)).off + 1, none⟩ = some (.string s.f1) ∧ w'.cell? ⟨(ad.add (i * 5)).block, (ad.add (i * 5)).off + 2, none⟩ = some (.string s.f2) ∧ w'.cell? ⟨(ad.add (i * 5)).block, (ad.add (i * 5)).off + 3, none⟩ = some (.int .i64 s.f3) ∧ w'.cell? ⟨(ad.add (i * 5)).block, (ad.add (i * 5)).off + 4, none⟩ = some (.int .i64 s.f4)) (first | exact hTX.out _ (Below.refl _ _) | exact hTX.out _ (below_drew (Below.refl _ _)) | exact hTX.out _ (below_drew (below_alloc (Below.refl _ _) _)) | exact hTX.out _ HBE.out | exact hTX.out _ (below_alloc HBE.out _) | exact hTX.out _ (below_set HBE.out (Nat.le_refl _)) | exact hTX.out _ (below_set (below_set HBE.out (Nat.le_refl _)) (Nat.le_refl _))) (first | (go_at_call 15; (with_reducible refine (spec_Apply.calls kq ep A c l s.f0 s.f1 s.f2 s.f3 s.f4 x1 x2 x3 _ ?s1 ?s2 HX.out).mono ?_); (case s1 => (first | exact (Kd.N_reads' HD.out.s).2.2 | exact (Kd.N_reads' (HD.out.below (below_drew (Below.refl _ _))).s).2.2 | exact (Kd.N_reads' (HD.out.below (below_drew (below_alloc (Below.refl _ _) (.cells #[.int .i64 0, .slice none 0 0] 31 (0, 0))))).s).2.2)); (case s2 => exact (Kd.N_reads' HD.out.s).2.1); rintro e w6 ⟨v6, rfl, hS, hb⟩; obtain ⟨A6, c6, rfl⟩ := Kd.N_slice hS; (first | (have hbe := below_step (Below.refl _ _) hb; have hD6 := HD.out.below hbe; have hS6 := Kd.N_lower (Kd.N_mono hS (ok' := fun k_ => b6 + 1 ≤ k_) (fun k_ hk => Nat.le_trans (blk_lt HD.out.h6) hk)) (blk_lt HD.out.h6)) | (have hbe := below_step (below_drew (Below.refl _ _)) hb; have hD6 := HD.out.below hbe; have hS6 := Kd.N_lower (Kd.N_mono hS (ok' := fun k_ => b6 + 1 ≤ k_) (fun k_ hk => Nat.le_trans (blk_lt HD.out.h6) hk)) (blk_lt HD.out.h6)) | (have hbe := below_step (below_drew (below_alloc (Below.refl _ _) (.cells #[.int .i64 0, .slice none 0 0] 31 (0, 0)))) hb; have hD6 := HD.out.below hbe; have hS6 := Kd.N_lower (Kd.N_mono hS (ok' := fun k_ => wr.heap.size + 1 ≤ k_) (fun k_ hk => Nat.le_trans (Nat.le_of_eq (Array.size_push _).symm) hk)) (Nat.le_of_eq (Array.size_push _).symm))); (first | (have BK := Aside0.mk (blk_below (blk_drew (blk_new wr (.cells #[.int .i64 0, .slice none 0 0] 31 (0, 0)))) hb); obtain ⟨⟨k0_, k1_⟩, fk0_, fk1_⟩ : (w6.cell? ⟨wr.heap.size, 0, none⟩ = _ ∧ w6.cell? ⟨wr.heap.size, 1, none⟩ = _) ∧ w6.frozen? ⟨wr.heap.size, 0, none⟩ = false ∧ w6.frozen? ⟨wr.heap.size, 1, none⟩ = false := ⟨⟨(blk_cell BK.out 0).trans rfl, (blk_cell BK.out 1).trans rfl⟩, blk_frozen BK.out 0, blk_frozen BK.out 1⟩) | skip); have HBE := Aside0.mk hbe; have HD6 := Aside0.mk hD6; have HS6 := Aside0.mk hS6; clear hS hb hbe hD6 hS6))
          all_goals
            go_wp2_with fail
            go_meet
            (first | (have g_ := BK; exact ⟨wr.heap.size, A6, c6, rfl, rfl, HD.out.below (below_set (below_set HBE.out (Nat.le_refl _)) (Nat.le_refl _)), blk_put (cs := #[.int .i64 x1, .slice none 0 0]) (blk_put (cs := #[.int .i64 0, .slice none 0 0]) BK.out 0 _ rfl) 1 _ rfl, Nat.ne_of_lt (blk_lt HD.out.h6), Kd.N_mono (Kd.N_lower (Kd.N_far (p := ⟨wr.heap.size, 1, none⟩) (Kd.N_far (p := ⟨wr.heap.size, 0, none⟩) HS6.out (fun k_ hk => by show k_ ≠ wr.heap.size; omega) _) (fun k_ hk => by show k_ ≠ wr.heap.size; omega) _) (Nat.succ_le_succ (Nat.le_of_lt (blk_lt HD.out.h6)))) (fun k_ hk => Nat.le_trans (Nat.succ_le_succ (Nat.le_of_lt (blk_lt HD.out.h6))) hk)⟩) | exact ⟨w6.heap.size, A6, c6, rfl, rfl, HD6.out.below (below_alloc (Below.refl _ _) _), blk_new w6 _, Nat.ne_of_lt (blk_lt HD6.out.h6), Kd.N_alloc HS6.out _⟩)
        case rest =>
          obtain ⟨b10, A6, c6, rfl, rfl, hD, hB, hne, hS⟩ := hcut;have hP := hD.put (ep' := x1) (Nat.lt_succ_self b6) hS;have HP := Aside0.mk hP;have HD7 := Aside0.mk hD;have a0 := (blk_cell hB 0).trans rfl;have a1 := (blk_cell hB 1).trans rfl;have y0 := (blk_cell hD.h6 0).trans rfl;have y1 := (blk_cell hD.h6 1).trans rfl;have fy0 := blk_frozen hD.h6 0;have fy1 := blk_frozen hD.h6 1;have hne2 := hne.symm;clear hB hD hS hP HD hTX x0 xf1 xf2 xf3 xf4
          by_cases c0 : x3 = 0
          · have b0 : (x3 == 0) = true := beq_iff_eq.mpr c0
            have H3 : Aside0 (spec_ApplyAll.l0 kq l1 (i + 1) (wrap64 (m + 1)) x1 x2 = some (r1, r2, r3)) := ⟨(if_pos c0).symm.trans H3.out⟩;clear c0;go_wp2
            go_roundw
            case rel => exact ⟨kq, wrap64 (m + 1), i + 1, x1, A6, c6, x2, by go_num, by go_num, by have := HLT.out; omega, H3, HP.out⟩
            case measure => rw [nx]; exact spec_ApplyAll.meas _ i HLT.out
          · have b0 : (x3 == 0) = false := beq_eq_false_iff_ne.mpr c0
            have H3 : Aside0 (spec_ApplyAll.l0 kq l1 (i + 1) m ep l = some (r1, r2, r3)) := ⟨(if_neg c0).symm.trans H3.out⟩;clear c0;go_wp2
            go_roundw
            case rel => exact ⟨kq, m, i + 1, ep, A, c, l, rfl, by go_num, by have := HLT.out; omega, H3, HD7.out⟩
            case measure => rw [nx]; exact spec_ApplyAll.meas _ i HLT.out
    · cases kq with
      | zero => exact absurd H2.out (by simp [spec_ApplyAll.l0])
      | succ kq =>
        have h2 := H2.out;simp only [spec_ApplyAll.l0] at h2;rw [if_neg hlt] at h2
        obtain ⟨rfl, rfl, rfl⟩ : ep = r1 ∧ l = r2 ∧ m = r3 := by injection h2 with h2; injection h2 with e1 h2; injection h2 with e2 e3; exact ⟨e1, e2, e3⟩
        have p1 : ((i : Int) < (l1.length : Int)) = False := eq_false (by omega);have a0 := (blk_cell HD.out.h6 0).trans rfl;have a1 := (blk_cell HD.out.h6 1).trans rfl;have y0 := (blk_cell HD.out.h4 0).trans rfl;have y1 := (blk_cell HD.out.h4 1).trans rfl;have fy0 := blk_frozen HD.out.h4 0;have fy1 := blk_frozen HD.out.h4 1;clear h2 H2 hlt hi;go_wp2;refine bodyPost_ret (results_ct rfl _ _ b4 31 #[.int .i64 ep, .slice A l.length c] (0, 0) _ rfl (blk_put (cs := #[.int .i64 ep, .slice none 0 0]) (blk_put (cs := #[.int .i64 0, .slice none 0 0]) HD.out.h4 0 _ rfl) 1 _ rfl) Try.underlying31 rfl (by kernel_rfl)) rfl ?_;exact ⟨_, rfl, Kd.N_mono (Kd.N_far (p := ⟨b4, 1, none⟩) (Kd.N_far (p := ⟨b4, 0, none⟩) HD.out.s (fun k_ hk => hk.1) _) (fun k_ hk => hk.1) _) (fun _ hk => hk.2.2), below_set (below_set HD.out.b HD.out.g4) HD.out.g4⟩

end Go.Proofs.Ytcbpfofkdipjhaa.PJ
