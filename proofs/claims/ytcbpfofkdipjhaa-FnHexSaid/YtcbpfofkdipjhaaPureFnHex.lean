/- The plain law of FnHex: what it computes is always true. -/
import Derived.Test.YtcbpfofkdipjhaaPKx0
import Derived.Test.YtcbpfofkdipjhaaPKx3
import Derived.Test.YtcbpfofkdipjhaaLibDFnHex
import Derived.Test.YtcbpfofkdipjhaaTelK
namespace Go.Proofs.Ytcbpfofkdipjhaa.Pure
open Go.RowKit Go.Proofs.YtcbpfofkdipjhaaW.PrintWords Go.Proofs.YtcbpfofkdipjhaaW.PrintLast Go.Proofs.YtcbpfofkdipjhaaW.PrintMore Go.Proofs.Ytcbpfofkdipjhaa.Base Go.Proofs.Ytcbpfofkdipjhaa.PK
set_option linter.unusedVariables false
set_option linter.unusedSimpArgs false
theorem big_eq (l : List Int) : laws_big.f l = some (decide ((l.length : Int) > 1048576)) := rfl
def digs : ByteArray := ⟨#[48, 49, 50, 51, 52, 53, 54, 55, 56, 57, 97, 98, 99, 100, 101, 102]⟩
def dg (c : Int) : Int := Lib.indexByte digs.data.toList c.toNat.toUInt8
def hI (x : Int) : List Int := [((hexDigits.data.getD (x.toNat / 16) 0).toNat : Int), ((hexDigits.data.getD (x.toNat % 16) 0).toNat : Int)]
def hexI (l : List Int) : List Int := l.flatMap hI
theorem dg_all : ∀ n : Fin 256, (-1 ≤ dg (n.val : Int) ∧ dg (n.val : Int) ≤ 15) ∧ (dg (n.val : Int) < 0 ∨ ((hexDigits.data.getD (dg (n.val : Int)).toNat 0).toNat : Int) = (n.val : Int)) ∧
    (0 ≤ dg ((hexDigits.data.getD (n.val / 16) 0).toNat : Int) ∧ 0 ≤ dg ((hexDigits.data.getD (n.val % 16) 0).toNat : Int) ∧ dg ((hexDigits.data.getD (n.val / 16) 0).toNat : Int) * 16 + dg ((hexDigits.data.getD (n.val % 16) 0).toNat : Int) = (n.val : Int)) ∧
    ((hexDigits.data.getD (n.val / 16) 0).toNat ≤ 255 ∧ (hexDigits.data.getD (n.val % 16) 0).toNat ≤ 255) := by
  decide +kernel
theorem dg_eq (c : Int) (h0 : 0 ≤ c) (h1 : c ≤ 255) : (-1 ≤ dg c ∧ dg c ≤ 15) ∧ (dg c < 0 ∨ ((hexDigits.data.getD (dg c).toNat 0).toNat : Int) = c) := by
  obtain ⟨n, rfl⟩ := Int.eq_ofNat_of_zero_le h0
  have h := dg_all ⟨n, by omega⟩
  exact ⟨h.1, h.2.1⟩
theorem hI_eq (c : Int) (h0 : 0 ≤ c) (h1 : c ≤ 255) : ∃ a b, hI c = [a, b] ∧ 0 ≤ dg a ∧ 0 ≤ dg b ∧ dg a * 16 + dg b = c ∧ (0 ≤ a ∧ a ≤ 255) ∧ (0 ≤ b ∧ b ≤ 255) := by
  obtain ⟨n, rfl⟩ := Int.eq_ofNat_of_zero_le h0
  have h := dg_all ⟨n, by omega⟩
  refine ⟨_, _, rfl, h.2.2.1.1, h.2.2.1.2.1, h.2.2.1.2.2, ?_, ?_⟩
  · have := h.2.2.2.1
    exact ⟨Int.natCast_nonneg _, by show ((hexDigits.data.getD (n / 16) 0).toNat : Int) ≤ 255; simp only at this; omega⟩
  · have := h.2.2.2.2
    exact ⟨Int.natCast_nonneg _, by show ((hexDigits.data.getD (n % 16) 0).toNat : Int) ≤ 255; simp only at this; omega⟩
theorem hexI_len (l : List Int) : (hexI l).length = 2 * l.length := by
  induction l with
  | nil => rfl
  | cons x l ih =>
    have e : hexI (x :: l) = hI x ++ hexI l := by simp [hexI]
    rw [e, List.length_append, ih, List.length_cons]
    simp only [hI, List.length_cons, List.length_nil]
    omega
theorem hexI_all (l : List Int) (h : AllB l) : AllB (hexI l) := by
  intro y hy
  obtain ⟨x, hx, hy⟩ := List.mem_flatMap.1 hy
  obtain ⟨a, b, e, _, _, _, ha, hb⟩ := hI_eq x (h x hx).1 (h x hx).2
  rw [e] at hy
  simp only [List.mem_cons, List.not_mem_nil, or_false] at hy
  rcases hy with rfl | rfl
  · exact ha
  · exact hb
theorem bytes_strOf (l : List Int) (h : AllB l) : bytesOf (strOfNums l) = l := by
  apply List.ext_getElem
  · rw [bytesOf_length, strOfNums_size]
  · intro i h1 h2
    have hx := h _ (List.getElem_mem h2)
    simp [bytesOf, strOfNums]
    omega
def uh : List Int → List Int → ByteArray × Bool
  | a :: b :: t, acc => if dg a < 0 then (⟨#[]⟩, false) else if dg b < 0 then (⟨#[]⟩, false) else uh t (acc ++ [dg a * 16 + dg b])
  | [_], _ => (⟨#[]⟩, false)
  | [], acc => (strOfNums acc, true)
theorem uh_hexI : ∀ (b acc : List Int), AllB b → uh (hexI b) acc = (strOfNums (acc ++ b), true)
  | [], acc, _ => by simp [hexI, uh]
  | x :: b, acc, h => by
    obtain ⟨p, q, e, h1, h2, h3, _, _⟩ := hI_eq x (h x (List.mem_cons_self)).1 (h x (List.mem_cons_self)).2
    have e2 : hexI (x :: b) = p :: q :: hexI b := by
      have : hexI (x :: b) = hI x ++ hexI b := by simp [hexI]
      rw [this, e]
      rfl
    rw [e2, uh, if_neg (by omega), if_neg (by omega), h3, uh_hexI b _ (fun y hy => h y (List.mem_cons_of_mem _ hy)), List.append_assoc]
    rfl
theorem hex_uh : ∀ (n : Nat) (x acc : List Int), x.length ≤ n → AllB x → AllB acc → uh x acc = (⟨#[]⟩, false) ∨ ∃ y, AllB y ∧ uh x acc = (strOfNums y, true) ∧ hexI y = hexI acc ++ x := by
  intro n
  induction n with
  | zero =>
    intro x acc hx _ ha
    obtain rfl : x = [] := List.eq_nil_of_length_eq_zero (by omega)
    exact .inr ⟨acc, ha, rfl, by simp⟩
  | succ n ih =>
    intro x acc hx hb ha
    match x, hx, hb with
    | [], _, _ => exact .inr ⟨acc, ha, rfl, by simp⟩
    | [a], _, _ => exact .inl rfl
    | a :: b :: t, hx, hb =>
      have ba := hb a (by simp)
      have bb := hb b (by simp)
      obtain ⟨r1, s1⟩ := dg_eq a ba.1 ba.2
      obtain ⟨r2, s2⟩ := dg_eq b bb.1 bb.2
      rw [uh]
      by_cases c1 : dg a < 0
      · rw [if_pos c1]; exact .inl rfl
      · rw [if_neg c1]
        by_cases c2 : dg b < 0
        · rw [if_pos c2]; exact .inl rfl
        · rw [if_neg c2]
          have s1 := s1.resolve_left c1
          have s2 := s2.resolve_left c2
          have hv : 0 ≤ dg a * 16 + dg b ∧ dg a * 16 + dg b ≤ 255 := by omega
          rcases ih t (acc ++ [dg a * 16 + dg b]) (by simp at hx; omega) (fun y hy => hb y (by simp [hy])) (ha.append (fun y hy => by rw [List.mem_singleton] at hy; subst hy; exact hv)) with h | ⟨y, hy, e, he⟩
          · exact .inl h
          · refine .inr ⟨y, hy, e, he.trans ?_⟩
            have e1 : hexI (acc ++ [dg a * 16 + dg b]) = hexI acc ++ hI (dg a * 16 + dg b) := by simp [hexI]
            have n1 : (dg a * 16 + dg b).toNat / 16 = (dg a).toNat := by omega
            have n2 : (dg a * 16 + dg b).toNat % 16 = (dg b).toNat := by omega
            have e2 : hI (dg a * 16 + dg b) = [a, b] := by
              unfold hI
              rw [n1, n2, s1, s2]
            rw [e1, e2, List.append_assoc]
            rfl
theorem uh_two (a : ByteArray) (i : Nat) (h : i + 1 < a.size) (acc : List Int) : uh ((bytesOf a).drop i) acc = if dg (bt a (i : Int)) < 0 then (⟨#[]⟩, false) else if dg (bt a ((i + 1 : Nat) : Int)) < 0 then (⟨#[]⟩, false) else uh ((bytesOf a).drop (i + 2)) (acc ++ [dg (bt a (i : Int)) * 16 + dg (bt a ((i + 1 : Nat) : Int))]) := by
  have hl := bytes_length a
  rw [drop_rd (by omega : i < (bytesOf a).length), drop_rd (by omega : i + 1 < (bytesOf a).length), bt_rd, bt_rd]
  rfl
theorem bt_range (a : ByteArray) (i : Nat) (h : i < a.size) : 0 ≤ bt a (i : Int) ∧ bt a (i : Int) ≤ 255 := by
  rw [bt_rd]
  exact (bytes_all a).get i (by rw [bytes_length]; exact h)
theorem iUnHex_l (a : ByteArray) (h : a.size ≤ 1048576) : ∀ (d i : Nat) (x : List Int), i + 2 * d = a.size → x.length ≤ i → Ev (fun k => impl_UnHex.l0 k a x (i : Int)) (uh ((bytesOf a).drop i) x) := by
  have hl := bytes_length a
  intro d
  induction d with
  | zero =>
    intro i x hi hx
    refine evOne fun k => ?_
    simp only [impl_UnHex.l0]
    rw [if_neg (by omega), List.drop_of_length_le (by omega)]
    rfl
  | succ d ih =>
    intro i x hi hx
    have g1 := bt_range a i (by omega)
    have g2 := bt_range a (i + 1) (by omega)
    obtain ⟨⟨r1, r1'⟩, _⟩ := dg_eq _ g1.1 g1.2
    obtain ⟨⟨r2, r2'⟩, _⟩ := dg_eq _ g2.1 g2.2
    rw [uh_two a i (by omega)]
    have e1 : strings_IndexByte.f (⟨#[48, 49, 50, 51, 52, 53, 54, 55, 56, 57, 97, 98, 99, 100, 101, 102]⟩ : ByteArray) (bt a (i : Int)) = some (dg (bt a (i : Int))) := rfl
    have e2 : strings_IndexByte.f (⟨#[48, 49, 50, 51, 52, 53, 54, 55, 56, 57, 97, 98, 99, 100, 101, 102]⟩ : ByteArray) (bt a ((i + 1 : Nat) : Int)) = some (dg (bt a ((i + 1 : Nat) : Int))) := rfl
    have hw : wrap64 ((i : Int) + 1) = ((i + 1 : Nat) : Int) := by rw [w64 (by omega) (by omega)]; omega
    have hw2 : wrap64 ((i : Int) + 2) = ((i + 2 : Nat) : Int) := by rw [w64 (by omega) (by omega)]; omega
    generalize dg (bt a (i : Int)) = u at e1 r1 r1' ⊢
    generalize dg (bt a ((i + 1 : Nat) : Int)) = v at e2 r2 r2' ⊢
    have open0 : ∀ k, impl_UnHex.l0 (k + 1) a x (i : Int) = (if u < 0 then (some ((⟨#[]⟩ : ByteArray), false)) else (if v < 0 then (some ((⟨#[]⟩ : ByteArray), false)) else (if x.length < 140737488355328 then (impl_UnHex.l0 k a (x ++ [(Go.bits .or .i64 (wrap64 (u * 16)) v) % 256]) ((i + 2 : Nat) : Int)) else (none)))) := by
      intro k
      simp only [impl_UnHex.l0]
      rw [if_pos (by omega), if_pos (by omega), e1, Option.bind_some, hw, if_pos (by omega), if_pos (by omega), e2, Option.bind_some, hw2]
    by_cases hu : u < 0
    · refine evOne fun k => ?_
      rw [open0, if_pos hu, if_pos hu]
    · by_cases hv : v < 0
      · refine evOne fun k => ?_
        rw [open0, if_neg hu, if_pos hv, if_neg hu, if_pos hv]
      · rw [if_neg hu, if_neg hv]
        refine Ev.step (fun k => ?_) (ih (i + 2) (x ++ [u * 16 + v]) (by omega) (by simp; omega))
        rw [open0, if_neg hu, if_neg hv, if_pos (by omega), w64 (x := u * 16) (by omega) (by omega), or_high 4 (u * 16) v (by omega) (by omega) (by omega) (by omega) (by omega) (by omega), show (u * 16 + v) % 256 = u * 16 + v by omega]
theorem uh_odd : ∀ (n : Nat) (l acc : List Int), l.length = 2 * n + 1 → uh l acc = (⟨#[]⟩, false) := by
  intro n
  induction n with
  | zero =>
    intro l acc h
    match l, h with
    | [a], _ => rfl
  | succ n ih =>
    intro l acc h
    match l, h with
    | a :: b :: t, h =>
      simp only [uh]
      split
      · rfl
      · split
        · rfl
        · exact ih t _ (by simp at h; omega)
theorem iUnHex_ev (a : ByteArray) (h : a.size ≤ 1048576) : Ev (fun k => impl_UnHex.f k a) (uh (bytesOf a) []) := by
  have hl := bytes_length a
  simp only [impl_UnHex.f]
  by_cases ho : (a.size : Int) % 2 = 1
  · refine evPos ho (evEq (Ev.now _) ?_)
    rw [uh_odd (a.size / 2) (bytesOf a) [] (by omega)]
  · have h1 := iUnHex_l a h (a.size / 2) 0 [] (by omega) (by simp)
    rw [List.drop_zero] at h1
    exact evNeg ho h1
def nI (l : List UInt8) : List Int := l.map fun u => (u.toNat : Int)
theorem str_nI (l : List UInt8) : strOfNums (nI l) = ⟨l.toArray⟩ := by
  have h : nI l = bytesOf (⟨l.toArray⟩ : ByteArray) := by simp [nI, bytesOf]
  rw [h, str_bytes]
theorem hex_step : ∀ n : Fin 256, 0 ≤ (n.val : Int) / 16 ∧ (n.val : Int) / 16 < 16 ∧ 0 ≤ Go.bits .and .u8 (n.val : Int) 15 ∧ Go.bits .and .u8 (n.val : Int) 15 < 16 ∧
    [bt (⟨#[48, 49, 50, 51, 52, 53, 54, 55, 56, 57, 97, 98, 99, 100, 101, 102]⟩ : ByteArray) ((n.val : Int) / 16), bt (⟨#[48, 49, 50, 51, 52, 53, 54, 55, 56, 57, 97, 98, 99, 100, 101, 102]⟩ : ByteArray) (Go.bits .and .u8 (n.val : Int) 15)] = nI [hexDigits.data.getD (n.val / 16) 0, hexDigits.data.getD (n.val % 16) 0] := by
  decide +kernel
theorem sHexOf_l (a : ByteArray) (h : a.size ≤ 1048576) : ∀ (d i : Nat) (x : List Int), i + d = a.size → x.length = 2 * i → Ev (fun k => spec_HexOf.l0 k a x (i : Int)) (strOfNums (x ++ nI (hexOfL (a.data.toList.drop i)))) := by
  have hsz : a.data.toList.length = a.size := Array.length_toList
  intro d
  induction d with
  | zero =>
    intro i x hi hl
    refine evOne fun k => ?_
    simp only [spec_HexOf.l0]
    rw [if_neg (by omega), List.drop_of_length_le (by omega)]
    simp [hexOfL, nI]
  | succ d ih =>
    intro i x hi hl
    have hlt : i < a.data.toList.length := by omega
    have hb : bt a (i : Int) = ((a.data.toList[i].toNat : Nat) : Int) := by
      rw [bt_rd, rd_get (by rw [bytes_length]; omega)]
      simp [bytesOf]
    obtain ⟨s1, s2, s3, s4, s5⟩ := hex_step ⟨a.data.toList[i].toNat, a.data.toList[i].toNat_lt⟩
    dsimp only at s1 s2 s3 s4 s5
    rw [← hb] at s1 s2 s3 s4 s5
    have h1 := ih (i + 1) (x ++ nI [hexDigits.data.getD (a.data.toList[i].toNat / 16) 0, hexDigits.data.getD (a.data.toList[i].toNat % 16) 0]) (by omega) (by simp [nI]; omega)
    refine Ev.step (f := fun k => spec_HexOf.l0 k a (x ++ nI [hexDigits.data.getD (a.data.toList[i].toNat / 16) 0, hexDigits.data.getD (a.data.toList[i].toNat % 16) 0]) ((i + 1 : Nat) : Int)) (fun k => ?_) (evEq h1 ?_)
    · simp only [spec_HexOf.l0]
      rw [if_pos (by omega), if_pos (by omega), if_pos s1, if_pos s2, if_pos s3, if_pos s4, s5, Option.bind_some, if_pos (by simp [nI]; omega), w64 (by omega) (by omega)]
      rfl
    · congr 1
      rw [List.append_assoc]
      congr 1
      rw [drop_cons hlt]
      simp [hexOfL, nI]
theorem nI_hex (b : List UInt8) : nI (hexOfL b) = hexI (nI b) := by
  induction b with
  | nil => rfl
  | cons x b ih =>
    have e1 : hexOfL (x :: b) = [hexDigits.data.getD (x.toNat / 16) 0, hexDigits.data.getD (x.toNat % 16) 0] ++ hexOfL b := rfl
    have e2 : hexI (nI (x :: b)) = hI (x.toNat : Int) ++ hexI (nI b) := by simp [hexI, nI]
    rw [e1, e2, ← ih]
    simp [nI, hI]
theorem hexOf_str (a : ByteArray) : (⟨(hexOfL a.data.toList).toArray⟩ : ByteArray) = strOfNums (hexI (bytesOf a)) := by
  rw [← str_nI, nI_hex]
  rfl
theorem sHexOf_ev (a : ByteArray) (h : a.size ≤ 1048576) : Ev (fun k => spec_HexOf.f k a) (strOfNums (hexI (bytesOf a))) := by
  have h1 := sHexOf_l a h a.size 0 [] (by omega) rfl
  rw [List.nil_append, List.drop_zero, str_nI, hexOf_str] at h1
  exact h1
theorem iHexOf_eq (a : ByteArray) (h : a.size ≤ 1048576) : impl_HexOf.f a = some (strOfNums (hexI (bytesOf a))) := by
  unfold impl_HexOf.f
  rw [if_pos (by omega), hexOf_str]
theorem DrawUnHex_ev (l : List Int) (hb : AllB l) (hl : l.length ≤ 281474976710656) : ∃ x, Ev (fun k => spec_DrawUnHex.f k l) (strOfNums x) ∧ AllB x ∧ x.length ≤ 1000 := by
  obtain ⟨h0, hn, hs⟩ := l1New_ev l hb hl
  obtain ⟨b, i1, h1, hsome, hs1, hbl, hba⟩ := l1Some_ev l 0 h0 hs
  have hx := sHexOf_ev (strOfNums b) (by rw [strOfNums_size]; omega)
  rw [bytes_strOf b hba] at hx
  have hxa := hexI_all b hba
  have hxl := hexI_len b
  generalize hexI b = y at hx hxa hxl
  have hsz : (strOfNums y).size = y.length := strOfNums_size y
  obtain ⟨c, i2, h2, hc, hs2, _, _, _⟩ := l1Below_eq l i1 h1 4 hs1
  have hstart : ∀ x, Ev (fun k => if c = 0 then some (strOfNums (bytesOf (strOfNums y) ++ [97])) else if c = 1 then (if 0 < (strOfNums y).size then (spec_l1Below.f l i2 h2 ((strOfNums y).size : Int)).bind fun j => (spec_l1Int.f l j.2.1 j.2.2 [103, 65, 48, 32]).bind fun v => if 0 ≤ j.1 ∧ j.1 < ((strOfNums y).size : Int) then some (strOfNums ((bytesOf (strOfNums y)).set j.1.toNat (v.1 % 256))) else none else some (strOfNums (bytesOf (strOfNums y)))) else some (strOfNums (bytesOf (strOfNums y)))) (strOfNums x) → Ev (fun k => spec_DrawUnHex.f k l) (strOfNums x) := by
    intro x hx'
    simp only [spec_DrawUnHex.f]
    exact Ev.bind hn (Ev.bind hsome (Ev.bind hx (evPos (by rw [hsz]; omega) (evBindC hc hx'))))
  rw [bytes_strOf y hxa] at hstart
  by_cases c0 : c = 0
  · exact ⟨y ++ [97], hstart _ (evPos c0 (Ev.now _)), hxa.append (fun z hz => by rw [List.mem_singleton] at hz; subst hz; omega), by simp; omega⟩
  · by_cases c1 : c = 1
    · by_cases c2 : 0 < (strOfNums y).size
      · obtain ⟨j, i3, h3, hj, hs3, j0, j1, _⟩ := l1Below_eq l i2 h2 ((strOfNums y).size : Int) hs2
        have j1 := j1 (by omega)
        obtain ⟨v, i4, h4, hv, _, _⟩ := l1Int_eq l i3 h3 [103, 65, 48, 32] (by simp) hs3
        refine ⟨y.set j.toNat (v % 256), hstart _ (evNeg c0 (evPos c1 (evPos c2 (evBindC hj (evBindC hv (evPos ⟨j0, j1⟩ (Ev.now _))))))), fun z hz => ?_, by rw [List.length_set]; omega⟩
        rcases List.mem_or_eq_of_mem_set hz with h | rfl
        · exact hxa z h
        · omega
      · exact ⟨y, hstart _ (evNeg c0 (evPos c1 (evNeg c2 (Ev.now _)))), hxa, by omega⟩
    · exact ⟨y, hstart _ (evNeg c0 (evNeg c1 (Ev.now _))), hxa, by omega⟩
theorem FnHex : ∀ (l0 : List Int), (l0.length ≤ maxLen ∧ ∀ x ∈ l0, (Lit.int .u8 x).wf = true) → ∃ k, laws_FnHex.f k l0 = some true := by
  intro l0 hw
  refine Ev.rounds (g := fun k => laws_FnHex.f k l0) ?_
  simp only [laws_FnHex.f]
  refine evBindC (big_eq l0) ?_
  by_cases hbig : (l0.length : Int) > 1048576
  · exact evPos (by simpa using hbig) (Ev.now _)
  · have hb := AllB.of_wf hw.2
    obtain ⟨h0, hn, hs⟩ := l1New_ev l0 hb (by omega)
    obtain ⟨b, i1, h1, hsome, hs1, hbl, hba⟩ := l1Some_ev l0 0 h0 hs
    have hd : Ev (fun k => spec_DrawHexOf.f k l0) (strOfNums b) := by
      simp only [spec_DrawHexOf.f]
      exact Ev.bind hn (Ev.bind hsome (Ev.now _))
    have hbs : (strOfNums b).size = b.length := strOfNums_size b
    have hh := iHexOf_eq (strOfNums b) (by omega)
    rw [bytes_strOf b hba] at hh
    have hxa := hexI_all b hba
    have hxl := hexI_len b
    have hus : (strOfNums (hexI b)).size = (hexI b).length := strOfNums_size _
    have hu := iUnHex_ev (strOfNums (hexI b)) (by omega)
    rw [bytes_strOf _ hxa, uh_hexI b [] hba, List.nil_append] at hu
    obtain ⟨x, hx, hxb, hx1⟩ := DrawUnHex_ev l0 hb (by omega)
    have hxs : (strOfNums x).size = x.length := strOfNums_size x
    have hu2 := iUnHex_ev (strOfNums x) (by omega)
    rw [bytes_strOf x hxb] at hu2
    refine evNeg (by simpa using hbig) (Ev.bind hd (evBindC hh (Ev.bind hu (Ev.bind hx (Ev.bind hu2 (evPos rfl (evPos rfl (evPos ?_ ?_))))))))
    · rw [hus, hbs, hxl, w64 (by omega) (by omega)]
      omega
    · rcases hex_uh x.length x [] (Nat.le_refl _) hxb (fun _ h => by simp at h) with e | ⟨y, hy, e, he⟩
      · rw [e]
        exact evNeg (by decide) (evPos (show (⟨#[]⟩ : ByteArray).toList = [] by decide +kernel) (Ev.now _))
      · rw [e]
        have hyl := hexI_len y
        have he' : hexI y = x := by rw [he]; rfl
        have hys : (strOfNums y).size = y.length := strOfNums_size y
        have hi := iHexOf_eq (strOfNums y) (by rw [he'] at hyl; omega)
        rw [bytes_strOf y hy, he'] at hi
        refine evPos rfl (evBindC hi (evEq (Ev.now _) ?_))
        simp
end Go.Proofs.Ytcbpfofkdipjhaa.Pure
