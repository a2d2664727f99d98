/- SHA-256: the words of a block, as the machine makes them. -/
import Derived.Test.YtcbpfofkdipjhaaSRShaA
namespace Go.Proofs.Ytcbpfofkdipjhaa.Sha
open Go.RowKit Go.Proofs.YtcbpfofkdipjhaaW.PrintWords Go.Proofs.YtcbpfofkdipjhaaW.PrintLast Go.Proofs.YtcbpfofkdipjhaaW.PrintMore
set_option linter.unusedVariables false
set_option linter.unusedSimpArgs false
def by4 (b : List Int) (i : Nat) : Int := Go.bits .or .u32 (Go.bits .or .u32 (Go.bits .or .u32 (IntKind.u32.wrap (IntKind.u32.wrap (rd b ((4 * i : Nat) : Int)) * 16777216)) (IntKind.u32.wrap (IntKind.u32.wrap (rd b ((4 * i + 1 : Nat) : Int)) * 65536))) (IntKind.u32.wrap (IntKind.u32.wrap (rd b ((4 * i + 2 : Nat) : Int)) * 256))) (IntKind.u32.wrap (rd b ((4 * i + 3 : Nat) : Int)))
def wsA (b : List Int) (i : Nat) : List Int := (List.range i).map (by4 b) ++ List.replicate (64 - i) 0
theorem wsA_len (b : List Int) (k : Nat) (hk : k ≤ 16) : (wsA b k).length = 64 := by
  rw [wsA, List.length_append, List.length_map, List.length_range, List.length_replicate]
  omega
theorem by4_eq (b : List Int) (i p0 p1 p2 p3 : Nat) (h0 : p0 = 4 * i) (h1 : p1 = 4 * i + 1) (h2 : p2 = 4 * i + 2) (h3 : p3 = 4 * i + 3) : by4 b i = Go.bits .or .u32 (Go.bits .or .u32 (Go.bits .or .u32 (IntKind.u32.wrap (IntKind.u32.wrap (rd b (p0 : Int)) * 16777216)) (IntKind.u32.wrap (IntKind.u32.wrap (rd b (p1 : Int)) * 65536))) (IntKind.u32.wrap (IntKind.u32.wrap (rd b (p2 : Int)) * 256))) (IntKind.u32.wrap (rd b (p3 : Int))) := by
  subst h0 h1 h2 h3
  rfl
theorem wsA_set (b : List Int) (k : Nat) (hk : k < 16) : (wsA b k).set k (by4 b k) = wsA b (k + 1) := by
  unfold wsA
  rw [List.set_append, if_neg (by simp), List.range_succ, List.map_append, List.append_assoc]
  congr 1
  obtain ⟨m, hm⟩ : ∃ m, 64 - k = m + 1 := ⟨63 - k, by omega⟩
  rw [hm, show 64 - (k + 1) = m by omega]
  simp [List.replicate_succ]
theorem meas (N k : Nat) (h : k < N) : N - (intOf (Value.int IntKind.i64 ((k : Int) + 1))).toNat < N - (intOf (Value.int IntKind.i64 (k : Int))).toNat := by
  simp only [intOf]
  omega
theorem back (j d : Nat) (c : Int) (hc : c = (d : Int)) (hd : d ≤ j) (hj : j < 64) : ∃ p : Nat, p = j - d ∧ IntKind.i64.wrap ((j : Int) - c) = (p : Int) ∧ ((p : Int) < 64) = True ∧ (0 ≤ (p : Int)) = True ∧ p < 64 := by
  subst hc
  refine ⟨j - d, rfl, w64m _ _ (by omega) (by omega), eq_true (by omega), eq_true (by omega), by omega⟩
def wx (x : Int) : Int := Go.bits .xor .u32 (Go.bits .xor .u32 (rotr 7 x) (rotr 18 x)) (x / 8)
def wy (y : Int) : Int := Go.bits .xor .u32 (Go.bits .xor .u32 (rotr 17 y) (rotr 19 y)) (y / 1024)
def wv (l : List Int) (j : Nat) : Int := IntKind.u32.wrap (IntKind.u32.wrap (IntKind.u32.wrap (l.getD (j - 16) 0 + wx (l.getD (j - 15) 0)) + l.getD (j - 7) 0) + wy (l.getD (j - 2) 0))
def wsB (b : List Int) : Nat → List Int
  | 0 => wsA b 16
  | n + 1 => (wsB b n).set (n + 16) (wv (wsB b n) (n + 16))
theorem wsB_len (b : List Int) : ∀ n, (wsB b n).length = 64
  | 0 => wsA_len b 16 (Nat.le_refl _)
  | n + 1 => by rw [wsB, List.length_set]; exact wsB_len b n
theorem wsB_step (b : List Int) (j : Nat) (h : 16 ≤ j) : wsB b (j + 1 - 16) = (wsB b (j - 16)).set j (wv (wsB b (j - 16)) j) := by
  obtain ⟨n, rfl⟩ : ∃ n, j = n + 16 := ⟨j - 16, by omega⟩
  rw [show n + 16 + 1 - 16 = n + 1 by omega, show n + 16 - 16 = n by omega]
  rfl
set_option maxHeartbeats 8000000 in
set_option maxRecDepth 100000 in
theorem wordsOf_calls (ad : Addr) (c0 : Nat) (l0 : List Int) (w : World) (hat : ∀ (j : Nat), j < 64 → w.cell? (ad.add j) = some (.int .u8 (rd l0 (j : Int)))) :
    Calls Try.prog 145 #[.slice (some ad) 64 c0] w fun e w' => e = .returned (.pointer (some ⟨w.heap.size, 0, none⟩)) ∧ ArrAt w.heap.size 166 (wsB l0 48) w' ∧ Below w.heap.size w w' := by
  go_enter Try.func145, Try.ntmps145
  go_wp2
  go_loopw [10] (fun i wr => ∃ k : Nat, k ≤ 16 ∧ i = .int .i64 k ∧ ArrAt w.heap.size 166 (wsA l0 k) wr ∧ Below w.heap.size w wr) (fun i _ => 16 - (intOf i).toNat)
  case atStart => exact ⟨0, by omega, rfl, heap_alloc_new w _, below_alloc (Below.refl _ _) _⟩
  case round =>
    obtain ⟨k, hk, rfl, hA, hB⟩ := hrel
    have HA := Lib.hid hA
    have HB := Lib.hid hB
    clear hA hB
    by_cases hlt : k < 16
    · have hlen := wsA_len l0 k hk
      obtain ⟨p0, hp0⟩ : ∃ p : Nat, p = 4 * k := ⟨_, rfl⟩
      obtain ⟨p1, hp1⟩ : ∃ p : Nat, p = 4 * k + 1 := ⟨_, rfl⟩
      obtain ⟨p2, hp2⟩ : ∃ p : Nat, p = 4 * k + 2 := ⟨_, rfl⟩
      obtain ⟨p3, hp3⟩ : ∃ p : Nat, p = 4 * k + 3 := ⟨_, rfl⟩
      have e0 : wrap64 (4 * (k : Int)) = (p0 : Int) := w64n _ _ (by omega) (by omega)
      have e1 : wrap64 ((p0 : Int) + 1) = (p1 : Int) := w64n _ _ (by omega) (by omega)
      have e2 : wrap64 ((p0 : Int) + 2) = (p2 : Int) := w64n _ _ (by omega) (by omega)
      have e3 : wrap64 ((p0 : Int) + 3) = (p3 : Int) := w64n _ _ (by omega) (by omega)
      have E0 : IntKind.i64.wrap (4 * (k : Int)) = (p0 : Int) := w64m _ _ (by omega) (by omega)
      have E1 : IntKind.i64.wrap ((p0 : Int) + 1) = (p1 : Int) := w64m _ _ (by omega) (by omega)
      have E2 : IntKind.i64.wrap ((p0 : Int) + 2) = (p2 : Int) := w64m _ _ (by omega) (by omega)
      have E3 : IntKind.i64.wrap ((p0 : Int) + 3) = (p3 : Int) := w64m _ _ (by omega) (by omega)
      have b0 : ((p0 : Int) < 64) = True := eq_true (by omega)
      have B0 : ((p0 : Int) < ((64 : Nat) : Int)) = True := eq_true (by omega)
      have b1 : ((p1 : Int) < 64) = True := eq_true (by omega)
      have B1 : ((p1 : Int) < ((64 : Nat) : Int)) = True := eq_true (by omega)
      have b2 : ((p2 : Int) < 64) = True := eq_true (by omega)
      have B2 : ((p2 : Int) < ((64 : Nat) : Int)) = True := eq_true (by omega)
      have b3 : ((p3 : Int) < 64) = True := eq_true (by omega)
      have B3 : ((p3 : Int) < ((64 : Nat) : Int)) = True := eq_true (by omega)
      have n0 : (0 ≤ (p0 : Int)) = True := eq_true (by omega)
      have n1 : (0 ≤ (p1 : Int)) = True := eq_true (by omega)
      have n2 : (0 ≤ (p2 : Int)) = True := eq_true (by omega)
      have n3 : (0 ≤ (p3 : Int)) = True := eq_true (by omega)
      have x0 := (HB.out.cell (World.block_lt_of_cell? w _ (hat p0 (by omega)))).trans (hat p0 (by omega))
      have x1 := (HB.out.cell (World.block_lt_of_cell? w _ (hat p1 (by omega)))).trans (hat p1 (by omega))
      have x2 := (HB.out.cell (World.block_lt_of_cell? w _ (hat p2 (by omega)))).trans (hat p2 (by omega))
      have x3 := (HB.out.cell (World.block_lt_of_cell? w _ (hat p3 (by omega)))).trans (hat p3 (by omega))
      have kb : ((k : Int) < 64) = True := eq_true (by omega)
      have kn : (0 ≤ (k : Int)) = True := eq_true (by omega)
      have k16 : ((k : Int) < 16) = True := eq_true (by omega)
      have ek : wrap64 ((k : Int) + 1) = ((k + 1 : Nat) : Int) := w64n _ _ (by omega) (by omega)
      have cz := HA.out.cell k (by rw [hlen]; exact Nat.lt_of_lt_of_le hlt (by decide))
      have fz := HA.out.fz k
      have HP0 := Lib.hid hp0
      have HP1 := Lib.hid hp1
      have HP2 := Lib.hid hp2
      have HP3 := Lib.hid hp3
      clear hp0 hp1 hp2 hp3 hlen
      go_wp2
      go_still_tail 35, (by kernel_rfl)
      change wpList _ _ _ _ _ wr.drew
      generalize hX : Go.bits .or .u32 (Go.bits .or .u32 (Go.bits .or .u32 (IntKind.u32.wrap (IntKind.u32.wrap (rd l0 (p0 : Int)) * 16777216)) (IntKind.u32.wrap (IntKind.u32.wrap (rd l0 (p1 : Int)) * 65536))) (IntKind.u32.wrap (IntKind.u32.wrap (rd l0 (p2 : Int)) * 256))) (IntKind.u32.wrap (rd l0 (p3 : Int))) = X
      have HX := Lib.hid hX
      clear hX
      generalize Value.int IntKind.u32 (Go.bits .or .u32 (Go.bits .or .u32 (IntKind.u32.wrap (IntKind.u32.wrap (rd l0 (p0 : Int)) * 16777216)) (IntKind.u32.wrap (IntKind.u32.wrap (rd l0 (p1 : Int)) * 65536))) (IntKind.u32.wrap (IntKind.u32.wrap (rd l0 (p2 : Int)) * 256))) = v38
      generalize Value.int IntKind.u32 (Go.bits .or .u32 (IntKind.u32.wrap (IntKind.u32.wrap (rd l0 (p0 : Int)) * 16777216)) (IntKind.u32.wrap (IntKind.u32.wrap (rd l0 (p1 : Int)) * 65536))) = v29
      generalize Value.int IntKind.u32 (IntKind.u32.wrap (IntKind.u32.wrap (rd l0 (p0 : Int)) * 16777216)) = v20
      generalize Value.int IntKind.u32 (IntKind.u32.wrap (IntKind.u32.wrap (rd l0 (p1 : Int)) * 65536)) = v28
      generalize Value.int IntKind.u32 (IntKind.u32.wrap (IntKind.u32.wrap (rd l0 (p2 : Int)) * 256)) = v37
      generalize Value.int IntKind.u32 (IntKind.u32.wrap (rd l0 (p0 : Int))) = v19
      generalize Value.int IntKind.u32 (IntKind.u32.wrap (rd l0 (p1 : Int))) = v27
      generalize Value.int IntKind.u32 (IntKind.u32.wrap (rd l0 (p2 : Int))) = v36
      generalize Value.int IntKind.u32 (IntKind.u32.wrap (rd l0 (p3 : Int))) = v45
      clear e0 e1 e2 e3 E0 E1 E2 E3 b0 B0 b1 B1 b2 B2 b3 B3 n0 n1 n2 n3 x0 x1 x2 x3 cz fz
      have hA2 := HA.out.drew
      have hB2 := below_drew HB.out
      generalize wr.drew = w2 at hA2 hB2 ⊢
      have cz2 : w2.cell? ⟨w.heap.size, k, none⟩ = some (.int .u32 ((wsA l0 k).getD k 0)) := hA2.cell k (by rw [wsA_len l0 k hk]; exact Nat.lt_of_lt_of_le hlt (by decide))
      have fz2 := hA2.fz k
      have HA2 := Lib.hid hA2
      have HB2 := Lib.hid hB2
      clear hA2 hB2
      go_wp2
      go_roundw
      case rel =>
        refine ⟨k + 1, Nat.succ_le_of_lt hlt, by go_num, ?_, below_set HB2.out (Nat.le_refl _)⟩
        rw [← wsA_set l0 k hlt]
        rw [(by4_eq l0 k p0 p1 p2 p3 HP0.out HP1.out HP2.out HP3.out).trans HX.out]
        exact HA2.out.put k X
      case measure =>
        exact meas 16 k hlt
    · have hke : k = 16 := by omega
      have hA16 : ArrAt w.heap.size 166 (wsB l0 (16 - 16)) wr := by
        have := HA.out
        rw [hke] at this
        exact this
      have HA16 := Lib.hid hA16
      have k16 : ((k : Int) < 16) = False := eq_false (by omega)
      clear hke hA16 hlt HA hat
      go_wp2
      go_loopw [5] (fun i wr2 => ∃ j : Nat, 16 ≤ j ∧ j ≤ 64 ∧ i = .int .i64 j ∧ ArrAt w.heap.size 166 (wsB l0 (j - 16)) wr2 ∧ Below w.heap.size w wr2) (fun i _ => 64 - (intOf i).toNat)
      case atStart => exact ⟨16, by omega, by omega, rfl, HA16.out, HB.out⟩
      case round =>
        obtain ⟨j, hj16, hj, rfl, hA, hB2⟩ := hrel
        clear HA16 HB k16 hk
        have HA := Lib.hid hA
        have HB := Lib.hid hB2
        clear hA hB2
        by_cases hlt : j < 64
        · have hlen := wsB_len l0 (j - 16)
          obtain ⟨p15, hp15, E15, b15, n15, l15⟩ := back j 15 15 rfl (by omega) hlt
          obtain ⟨p2, hp2, E2, b2, n2, l2⟩ := back j 2 2 rfl (by omega) hlt
          obtain ⟨p16, hp16, E16, b16, n16, l16⟩ := back j 16 16 rfl hj16 hlt
          obtain ⟨p7, hp7, E7, b7, n7, l7⟩ := back j 7 7 rfl (by omega) hlt
          have jb : ((j : Int) < 64) = True := eq_true (Int.ofNat_lt.2 hlt)
          have jn : (0 ≤ (j : Int)) = True := eq_true (Int.natCast_nonneg j)
          rw [← hlen] at l15 l2 l16 l7
          have c15 := HA.out.cell p15 l15
          have c2 := HA.out.cell p2 l2
          have c16 := HA.out.cell p16 l16
          have c7 := HA.out.cell p7 l7
          generalize hX15 : (wsB l0 (j - 16)).getD p15 0 = X15 at c15
          generalize hX2 : (wsB l0 (j - 16)).getD p2 0 = X2 at c2
          generalize hX16 : (wsB l0 (j - 16)).getD p16 0 = X16 at c16
          generalize hX7 : (wsB l0 (j - 16)).getD p7 0 = X7 at c7
          have HX : Hid (wv (wsB l0 (j - 16)) j = IntKind.u32.wrap (IntKind.u32.wrap (IntKind.u32.wrap (X16 + wx X15) + X7) + wy X2)) := Lib.hid (by rw [wv, ← hX15, ← hX2, ← hX16, ← hX7, hp15, hp2, hp16, hp7])
          have cz := HA.out.cell j (hlen ▸ hlt)
          have fz := HA.out.fz j
          have HP15 := Lib.hid hp15
          have HP2 := Lib.hid hp2
          have HP16 := Lib.hid hp16
          have HP7 := Lib.hid hp7
          clear hp15 hp2 hp16 hp7 hX15 hX2 hX16 hX7 hlen l15 l2 l16 l7
          go_wp2
          go_quiet (fail)
          have hA3 : ArrAt w.heap.size 166 (wsB l0 (j - 16)) (wr.drewN nq) := HA.out
          have hB3 : Below w.heap.size w (wr.drewN nq) := pw_below_drewN HB.out nq
          replace c16 : (wr.drewN nq).cell? ⟨w.heap.size, p16, none⟩ = some (.int .u32 X16) := c16
          replace c7 : (wr.drewN nq).cell? ⟨w.heap.size, p7, none⟩ = some (.int .u32 X7) := c7
          clear HA HB c15 c2 cz fz E15 E2 b15 b2 n15 n2
          generalize wr.drewN nq = w3 at hA3 hB3 c16 c7 ⊢
          have HA := Lib.hid hA3
          have HB := Lib.hid hB3
          clear hA3 hB3
          go_wp2_with (first | (go_at_call 146; ((with_reducible refine (rot7 _ _).mono ?_); rintro e w' ⟨rfl, rfl⟩)) | (go_at_call 146; ((with_reducible refine (rot18 _ _).mono ?_); rintro e w' ⟨rfl, rfl⟩)) | (go_at_call 146; ((with_reducible refine (rot17 _ _).mono ?_); rintro e w' ⟨rfl, rfl⟩)) | (go_at_call 146; ((with_reducible refine (rot19 _ _).mono ?_); rintro e w' ⟨rfl, rfl⟩)))
          generalize hWX : Go.bits .xor .u32 (Go.bits .xor .u32 (rotr 7 X15) (rotr 18 X15)) (X15 / 8) = WX
          generalize hWY : Go.bits .xor .u32 (Go.bits .xor .u32 (rotr 17 X2) (rotr 19 X2)) (X2 / 1024) = WY
          have HXX : Hid (wv (wsB l0 (j - 16)) j = IntKind.u32.wrap (IntKind.u32.wrap (IntKind.u32.wrap (X16 + WX) + X7) + WY)) := Lib.hid (by rw [HX.out, wx, wy, hWX, hWY])
          clear hWX hWY HX
          generalize Value.int IntKind.u32 (Go.bits .xor .u32 (rotr 7 X15) (rotr 18 X15)) = v65
          generalize Value.int IntKind.u32 (Go.bits .xor .u32 (rotr 17 X2) (rotr 19 X2)) = v73
          generalize Value.int IntKind.u32 (X15 / 8) = v67
          generalize Value.int IntKind.u32 (X2 / 1024) = v75
          have cz := HA.out.cell j (by rw [wsB_len]; exact hlt)
          have fz := HA.out.fz j
          go_still_tail 15, (by kernel_rfl)
          generalize hX : IntKind.u32.wrap (IntKind.u32.wrap (IntKind.u32.wrap (X16 + WX) + X7) + WY) = X
          replace HXX := Lib.hid (HXX.out.trans hX)
          clear hX
          generalize Value.int IntKind.u32 (IntKind.u32.wrap (IntKind.u32.wrap (X16 + WX) + X7)) = v88
          generalize Value.int IntKind.u32 (IntKind.u32.wrap (X16 + WX)) = v83
          change wpList _ _ _ _ _ w3.drew
          have hA2 := HA.out.drew
          have hB2 := below_drew HB.out
          clear cz fz HA HB c16 c7
          generalize w3.drew = w2 at hA2 hB2 ⊢
          have cz2 := hA2.cell j (by rw [wsB_len]; exact hlt)
          have fz2 := hA2.fz j
          have HA2 := Lib.hid hA2
          have HB2 := Lib.hid hB2
          clear hA2 hB2 E16 E7 b16 b7 n16 n7
          go_wp2
          go_roundw
          case rel =>
            refine ⟨j + 1, Nat.le_succ_of_le hj16, Nat.succ_le_of_lt hlt, by go_num, ?_, below_set HB2.out (Nat.le_refl _)⟩
            rw [wsB_step l0 j hj16, HXX.out]
            exact HA2.out.put j X
          case measure => exact meas 64 j hlt
        · have hje : j = 64 := by omega
          subst hje
          have j64 : (((64 : Nat) : Int) < 64) = False := eq_false (by omega)
          go_wp2
          go_ret
          exact ⟨rfl, HA.out, HB.out⟩
end Go.Proofs.Ytcbpfofkdipjhaa.Sha
