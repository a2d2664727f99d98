/- SHA-256: a block turns the eight words, as the machine does it. -/
import Derived.Test.YtcbpfofkdipjhaaSRShaB
namespace Go.Proofs.Ytcbpfofkdipjhaa.Sha
open Go.RowKit Go.Proofs.YtcbpfofkdipjhaaW.PrintWords Go.Proofs.YtcbpfofkdipjhaaW.PrintLast Go.Proofs.YtcbpfofkdipjhaaW.PrintMore
set_option linter.unusedVariables false
set_option linter.unusedSimpArgs false
def s1 (e : Int) : Int := Go.bits .xor .u32 (Go.bits .xor .u32 (rotr 6 e) (rotr 11 e)) (rotr 25 e)
def s0 (a : Int) : Int := Go.bits .xor .u32 (Go.bits .xor .u32 (rotr 2 a) (rotr 13 a)) (rotr 22 a)
def maj (a b c : Int) : Int := Go.bits .xor .u32 (Go.bits .xor .u32 (Go.bits .and .u32 a b) (Go.bits .and .u32 a c)) (Go.bits .and .u32 b c)
def ch (e f g : Int) : Int := Go.bits .xor .u32 (Go.bits .and .u32 e f) (Go.bits .and .u32 (Go.bits .xor .u32 IntKind.u32.max e) g)
def tt (e f g h k w : Int) : Int := ((h + s1 e + ch e f g + k) % 4294967296 + w) % 4294967296
def step8 (l : List Int) (k w : Int) : List Int :=
  match l with
  | [a, b, c, d, e, f, g, h] => [(tt e f g h k w + s0 a + maj a b c) % 4294967296, a, b, c, (d + tt e f g h k w) % 4294967296, e, f, g]
  | _ => l
def vs (hl ws : List Int) : Nat → List Int
  | 0 => hl
  | n + 1 => step8 (vs hl ws n) (kWords.getD n 0) (ws.getD n 0)
theorem vs_form (h0 h1 h2 h3 h4 h5 h6 h7 : Int) (ws : List Int) : ∀ n, ∃ v0 v1 v2 v3 v4 v5 v6 v7, vs [h0, h1, h2, h3, h4, h5, h6, h7] ws n = [v0, v1, v2, v3, v4, v5, v6, v7]
  | 0 => ⟨_, _, _, _, _, _, _, _, rfl⟩
  | n + 1 => by
    obtain ⟨v0, v1, v2, v3, v4, v5, v6, v7, h⟩ := vs_form h0 h1 h2 h3 h4 h5 h6 h7 ws n
    rw [vs, h]
    exact ⟨_, _, _, _, _, _, _, _, rfl⟩
theorem kWords_len : kWords.length = 64 := rfl
/-- The first n words of hl with v's added. -/
def mixL (hl v : List Int) : Nat → List Int
  | 0 => hl
  | n + 1 => (mixL hl v n).set n (((mixL hl v n).getD n 0 + v.getD n 0) % 4294967296)
theorem mixL_len (hl v : List Int) : ∀ n, (mixL hl v n).length = hl.length
  | 0 => rfl
  | n + 1 => by rw [mixL, List.length_set]; exact mixL_len hl v n
theorem mixL_step (hl v : List Int) (n : Nat) : mixL hl v (n + 1) = (mixL hl v n).set n (((mixL hl v n).getD n 0 + v.getD n 0) % 4294967296) := rfl
/-- Only block g has turned of those that lay. -/
def Only (g : Nat) (w w' : World) : Prop := ∀ b, b < w.heap.size → b ≠ g → w'.heap[b]? = w.heap[b]?
theorem Only.of_below {g : Nat} {w w' : World} (h : Below w.heap.size w w') : Only g w w' := fun b hb _ => h.block b hb
theorem heap_set_other {g j b : Nat} {w : World} {x : Value} (h : b ≠ g) : (w.setCell ⟨g, j, none⟩ x).heap[b]? = w.heap[b]? := by
  simp only [World.setCell, Array.getElem?_modify]
  rw [if_neg (Ne.symm h)]
theorem Only.set {g j : Nat} {w w' : World} {x : Value} (h : Only g w w') : Only g w (w'.setCell ⟨g, j, none⟩ x) := fun b hb hne => (heap_set_other hne).trans (h b hb hne)
theorem ArrAt.other {g b j : Nat} {t : TypeId} {l : List Int} {w : World} {x : Value} (h : ArrAt g t l w) (hne : g ≠ b) : ArrAt g t l (w.setCell ⟨b, j, none⟩ x) := (heap_set_other hne).trans h
/-- The eight words behind a block of bytes. -/
def turn8 (hl b : List Int) : List Int := mixL hl (vs hl (wsB b 48) 64) 8
set_option maxHeartbeats 8000000 in
set_option maxRecDepth 100000 in
theorem turnBlock_calls (ad : Addr) (c0 : Nat) (l0 : List Int) (gh gk : Nat) (h0 h1 h2 h3 h4 h5 h6 h7 : Int) (w : World) (hat : ∀ (j : Nat), j < 64 → w.cell? (ad.add j) = some (.int .u8 (rd l0 (j : Int))))
    (hH : ArrAt gh 150 [h0, h1, h2, h3, h4, h5, h6, h7] w) (hK : ArrAt gk 166 kWords w) :
    Calls Try.prog 134 #[.pointer (some ⟨gh, 0, none⟩), .slice (some ad) 64 c0, .pointer (some ⟨gk, 0, none⟩)] w fun e w' => e = .returned (.tuple #[]) ∧ ArrAt gh 150 (turn8 [h0, h1, h2, h3, h4, h5, h6, h7] l0) w' ∧ Only gh w w' ∧ Below gh w w' := by
  have hwf := wordsOf_calls ad c0 l0 w hat
  have HH := Lib.hid hH
  have HK := Lib.hid hK
  clear hat hH hK
  go_enter Try.func134, Try.ntmps134
  go_wp2_with fail
  refine hwf.mono ?_
  rintro e w1 ⟨rfl, hW1, hB1⟩
  have HW1 := Lib.hid hW1
  have HB1 := Lib.hid hB1
  have hH1 : ArrAt gh 150 [h0, h1, h2, h3, h4, h5, h6, h7] w1 := (hB1.block gh (Array.getElem?_eq_some_iff.1 HH.out).1).trans HH.out
  have a0 := hH1.cell 0 (by simp)
  have a1 := hH1.cell 1 (by simp)
  have a2 := hH1.cell 2 (by simp)
  have a3 := hH1.cell 3 (by simp)
  have a4 := hH1.cell 4 (by simp)
  have a5 := hH1.cell 5 (by simp)
  have a6 := hH1.cell 6 (by simp)
  have a7 := hH1.cell 7 (by simp)
  clear hwf hW1 hB1 hH1
  go_wp2
  go_loopw [22] (fun i wr => ∃ k : Nat, k ≤ 64 ∧ i = .int .i64 k ∧ ArrAt w1.heap.size 150 (vs [h0, h1, h2, h3, h4, h5, h6, h7] (wsB l0 48) k) wr ∧ Below w1.heap.size w1 wr) (fun i _ => 64 - (intOf i).toNat)
  case atStart => exact ⟨0, by omega, rfl, heap_alloc_new w1 _, below_alloc (Below.refl _ _) _⟩
  case round =>
    obtain ⟨k, hk, rfl, hA, hB⟩ := hrel
    clear a0 a1 a2 a3 a4 a5 a6 a7
    by_cases hlt : k < 64
    · obtain ⟨v0, v1, v2, v3, v4, v5, v6, v7, hv⟩ := vs_form h0 h1 h2 h3 h4 h5 h6 h7 (wsB l0 48) k
      rw [hv] at hA
      have hKw : ArrAt gk 166 kWords wr := (hB.block gk (Nat.lt_of_lt_of_le (Array.getElem?_eq_some_iff.1 HK.out).1 HB1.out.size)).trans ((HB1.out.block gk (Array.getElem?_eq_some_iff.1 HK.out).1).trans HK.out)
      have hWw : ArrAt w.heap.size 166 (wsB l0 48) wr := (hB.block w.heap.size (Array.getElem?_eq_some_iff.1 HW1.out).1).trans HW1.out
      have ck := hKw.cell k (by rw [kWords_len]; exact hlt)
      have cw := hWw.cell k (by rw [wsB_len]; exact hlt)
      generalize hXK : kWords.getD k 0 = XK at ck
      generalize hXW : (wsB l0 48).getD k 0 = XW at cw
      have hvs : vs [h0, h1, h2, h3, h4, h5, h6, h7] (wsB l0 48) (k + 1) = step8 [v0, v1, v2, v3, v4, v5, v6, v7] XK XW := by rw [vs, hv, hXK, hXW]
      have HVS := Lib.hid hvs
      have kb : ((k : Int) < 64) = True := eq_true (by omega)
      have kn : (0 ≤ (k : Int)) = True := eq_true (by omega)
      have a0 := hA.cell 0 (by simp)
      have a1 := hA.cell 1 (by simp)
      have a2 := hA.cell 2 (by simp)
      have a3 := hA.cell 3 (by simp)
      have a4 := hA.cell 4 (by simp)
      have a5 := hA.cell 5 (by simp)
      have a6 := hA.cell 6 (by simp)
      have a7 := hA.cell 7 (by simp)
      have HA := Lib.hid hA
      have HB := Lib.hid hB
      clear hv hvs hXK hXW hKw hWw hA hB
      go_wp2
      go_quiet (fail)
      have hA2 : ArrAt w1.heap.size 150 [v0, v1, v2, v3, v4, v5, v6, v7] (wr.drewN nq) := HA.out
      have hB2 : Below w1.heap.size w1 (wr.drewN nq) := pw_below_drewN HB.out nq
      replace ck : (wr.drewN nq).cell? _ = _ := ck
      replace cw : (wr.drewN nq).cell? _ = _ := cw
      clear a0 a1 a2 a3 a4 a5 a6 a7 HA HB
      generalize wr.drewN nq = w2 at hA2 hB2 ck cw ⊢
      have a1 := hA2.cell 1 (by simp)
      have a2 := hA2.cell 2 (by simp)
      have a3 := hA2.cell 3 (by simp)
      have a5 := hA2.cell 5 (by simp)
      have a6 := hA2.cell 6 (by simp)
      have a7 := hA2.cell 7 (by simp)
      have HA := Lib.hid hA2
      have HB := Lib.hid hB2
      clear hA2 hB2
      go_wp2_with (first | (go_at_call 146; ((with_reducible refine (rot6 _ _).mono ?_); rintro e w' ⟨rfl, rfl⟩)) | (go_at_call 146; ((with_reducible refine (rot11 _ _).mono ?_); rintro e w' ⟨rfl, rfl⟩)) | (go_at_call 146; ((with_reducible refine (rot25 _ _).mono ?_); rintro e w' ⟨rfl, rfl⟩)))
      generalize hS1 : Go.bits .xor .u32 (Go.bits .xor .u32 (rotr 6 v4) (rotr 11 v4)) (rotr 25 v4) = S1
      generalize hCH : Go.bits .xor .u32 (Go.bits .and .u32 v4 v5) (Go.bits .and .u32 (Go.bits .xor .u32 IntKind.u32.max v4) v6) = CH
      generalize Value.int IntKind.u32 (Go.bits .and .u32 (Go.bits .xor .u32 IntKind.u32.max v4) v6) = u45
      generalize Value.int IntKind.u32 (Go.bits .xor .u32 IntKind.u32.max v4) = u42
      generalize Value.int IntKind.u32 (Go.bits .and .u32 v4 v5) = u40
      generalize Value.int IntKind.u32 (Go.bits .xor .u32 (rotr 6 v4) (rotr 11 v4)) = u33
      have HT : Hid (tt v4 v5 v6 v7 XK XW = ((v7 + S1 + CH + XK) % 4294967296 + XW) % 4294967296) := Lib.hid (by rw [tt, s1, ch, hS1, hCH])
      clear hS1 hCH
      go_quiet (fail)
      generalize hT1 : ((v7 + S1 + CH + XK) % 4294967296 + XW) % 4294967296 = T1
      replace HT := Lib.hid (HT.out.trans hT1)
      clear hT1
      generalize Value.int IntKind.u32 ((v7 + S1 + CH + XK) % 4294967296) = u58
      generalize Value.int IntKind.u32 ((v7 + S1 + CH) % 4294967296) = u52
      generalize Value.int IntKind.u32 ((v7 + S1) % 4294967296) = u50
      have hA3 : ArrAt w1.heap.size 150 [v0, v1, v2, v3, v4, v5, v6, v7] (w2.drewN nq) := HA.out
      have hB3 : Below w1.heap.size w1 (w2.drewN nq) := pw_below_drewN HB.out nq
      clear a1 a2 a3 a5 a6 a7 HA HB ck cw
      generalize w2.drewN nq = w3 at hA3 hB3 ⊢
      have a0 := hA3.cell 0 (by simp)
      have a1 := hA3.cell 1 (by simp)
      have a2 := hA3.cell 2 (by simp)
      have a3 := hA3.cell 3 (by simp)
      have a4 := hA3.cell 4 (by simp)
      have a5 := hA3.cell 5 (by simp)
      have a6 := hA3.cell 6 (by simp)
      have a7 := hA3.cell 7 (by simp)
      have f0 := hA3.fz 0
      have f1 := hA3.fz 1
      have f2 := hA3.fz 2
      have f3 := hA3.fz 3
      have f4 := hA3.fz 4
      have f5 := hA3.fz 5
      have f6 := hA3.fz 6
      have f7 := hA3.fz 7
      have HA := Lib.hid hA3
      have HB := Lib.hid hB3
      clear hA3 hB3
      go_wp2_with (first | (go_at_call 146; ((with_reducible refine (rot2 _ _).mono ?_); rintro e w' ⟨rfl, rfl⟩)) | (go_at_call 146; ((with_reducible refine (rot13 _ _).mono ?_); rintro e w' ⟨rfl, rfl⟩)) | (go_at_call 146; ((with_reducible refine (rot22 _ _).mono ?_); rintro e w' ⟨rfl, rfl⟩)))
      go_roundw
      case rel =>
        refine ⟨k + 1, Nat.succ_le_of_lt hlt, by go_num, ?_, ?_⟩
        · rw [HVS.out, step8, HT.out]
          exact (((((((HA.out.put 0 _).put 1 _).put 2 _).put 3 _).put 4 _).put 5 _).put 6 _).put 7 _
        · exact below_set (below_set (below_set (below_set (below_set (below_set (below_set (below_set HB.out (Nat.le_refl _)) (Nat.le_refl _)) (Nat.le_refl _)) (Nat.le_refl _)) (Nat.le_refl _)) (Nat.le_refl _)) (Nat.le_refl _)) (Nat.le_refl _)
      case measure => exact meas 64 k hlt
    · have hke : k = 64 := by omega
      have hgl : gh < w.heap.size := (Array.getElem?_eq_some_iff.1 HH.out).1
      have hBw : Below w.heap.size w wr := HB1.out.trans (hB.mono HB1.out.size)
      have hA0 : ArrAt gh 150 (mixL [h0, h1, h2, h3, h4, h5, h6, h7] (vs [h0, h1, h2, h3, h4, h5, h6, h7] (wsB l0 48) 64) 0) wr := (hBw.block gh hgl).trans HH.out
      have hV : ArrAt w1.heap.size 150 (vs [h0, h1, h2, h3, h4, h5, h6, h7] (wsB l0 48) 64) wr := by
        rw [hke] at hA
        exact hA
      have hne : gh ≠ w1.heap.size := Nat.ne_of_lt (Nat.lt_of_lt_of_le hgl HB1.out.size)
      have HV := Lib.hid hV
      have HA0 := Lib.hid hA0
      have HBW := Lib.hid hBw
      have HNE := Lib.hid hne
      have HGL := Lib.hid hgl
      have k64 : ((k : Int) < 64) = False := eq_false (by omega)
      clear hke hV hA0 hBw hne hgl hA hB hlt hk
      go_wp2
      go_loopw [109] (fun i wq => ∃ n : Nat, n ≤ 8 ∧ i = .int .i64 n ∧ ArrAt gh 150 (mixL [h0, h1, h2, h3, h4, h5, h6, h7] (vs [h0, h1, h2, h3, h4, h5, h6, h7] (wsB l0 48) 64) n) wq ∧ ArrAt w1.heap.size 150 (vs [h0, h1, h2, h3, h4, h5, h6, h7] (wsB l0 48) 64) wq ∧ Only gh w wq ∧ Below gh w wq) (fun i _ => 8 - (intOf i).toNat)
      case atStart => exact ⟨0, by omega, rfl, HA0.out, HV.out, Only.of_below HBW.out, HBW.out.mono (Nat.le_of_lt HGL.out)⟩
      case round =>
        obtain ⟨n, hn, rfl, hA, hV, hO, hB⟩ := hrel
        clear HA0 HV HBW k64
        have HA := Lib.hid hA
        have HV := Lib.hid hV
        have HO := Lib.hid hO
        have HB := Lib.hid hB
        clear hA hV hO hB
        by_cases hlt : n < 8
        · have hl1 : n < (mixL [h0, h1, h2, h3, h4, h5, h6, h7] (vs [h0, h1, h2, h3, h4, h5, h6, h7] (wsB l0 48) 64) n).length := by rw [mixL_len]; exact hlt
          have hl2 : n < (vs [h0, h1, h2, h3, h4, h5, h6, h7] (wsB l0 48) 64).length := by
            obtain ⟨v0, v1, v2, v3, v4, v5, v6, v7, hv⟩ := vs_form h0 h1 h2 h3 h4 h5 h6 h7 (wsB l0 48) 64
            rw [hv]
            exact hlt
          have ch := HA.out.cell n hl1
          have cv := HV.out.cell n hl2
          have fh := HA.out.fz n
          have hstep := mixL_step [h0, h1, h2, h3, h4, h5, h6, h7] (vs [h0, h1, h2, h3, h4, h5, h6, h7] (wsB l0 48) 64) n
          generalize (mixL [h0, h1, h2, h3, h4, h5, h6, h7] (vs [h0, h1, h2, h3, h4, h5, h6, h7] (wsB l0 48) 64) n).getD n 0 = XH at ch hstep
          generalize (vs [h0, h1, h2, h3, h4, h5, h6, h7] (wsB l0 48) 64).getD n 0 = XV at cv hstep
          have HS := Lib.hid hstep
          have nb : ((n : Int) < 8) = True := eq_true (by omega)
          have nn : (0 ≤ (n : Int)) = True := eq_true (by omega)
          clear hl1 hl2 hstep
          go_wp2
          go_still_tail 11, (by kernel_rfl)
          change wpList _ _ _ _ _ wr.drew
          have hA2 := HA.out.drew
          have hV2 := HV.out.drew
          have hO2 : Only gh w wr.drew := HO.out
          have hB2 := below_drew HB.out
          clear ch cv fh HA HV HO HB
          generalize wr.drew = w2 at hA2 hV2 hO2 hB2 ⊢
          have ch2 := hA2.cell n (by rw [mixL_len]; exact hlt)
          have fh2 := hA2.fz n
          have HA := Lib.hid hA2
          have HV := Lib.hid hV2
          have HO := Lib.hid hO2
          have HB := Lib.hid hB2
          clear hA2 hV2 hO2 hB2
          go_wp2
          go_roundw
          case rel =>
            refine ⟨n + 1, Nat.succ_le_of_lt hlt, by go_num, ?_, HV.out.other (Ne.symm HNE.out), HO.out.set, HB.out.setCell (p := ⟨gh, n, none⟩) (Nat.le_refl _) _⟩
            rw [HS.out]
            exact HA.out.put n _
          case measure => exact meas 8 n hlt
        · have hne8 : n = 8 := by omega
          subst hne8
          have n8 : (((8 : Nat) : Int) < 8) = False := eq_false (by omega)
          go_wp2
          go_end0
          exact ⟨rfl, HA.out, HO.out, HB.out⟩
end Go.Proofs.Ytcbpfofkdipjhaa.Sha
