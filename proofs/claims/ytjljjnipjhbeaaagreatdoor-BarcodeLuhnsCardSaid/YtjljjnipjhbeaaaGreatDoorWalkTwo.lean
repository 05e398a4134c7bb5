/-
  What the functions compute that the statement reaches: contracts, and the plain laws between them. Conditions stand at each theorem.
-/
import Derived.Test.YtjljjnipjhbeaaaGreatDoorWalkOne
import Derived.Lib.ItoaLen
set_option linter.unusedVariables false
set_option linter.unusedSimpArgs false
/- Patterns of serials: what Right asks. -/
namespace Pl
open Go Ab
set_option linter.unusedVariables false
set_option linter.unusedSimpArgs false
def badMo : Unit → List Int → Bool
  | _, [] => false
  | _, m :: l => if m < 1 ∨ 12 < m then true else badMo () l
def twMo : List Int → Bool
  | a :: b :: r => if b ≤ a then true else twMo (b :: r)
  | _ => false
def monR (l : List Int) : Int := if badMo () l = true then 2 else if twMo l = true then 7 else 0
theorem mon_bad {l : List Int} (h : badMo () l = true) : monR l = 2 := if_pos h
theorem mon_tw {l : List Int} (h : badMo () l = false) (h2 : twMo l = true) : monR l = 7 := by unfold monR; rw [if_neg (by rw [h]; decide), if_pos h2]
theorem mon_ok {l : List Int} (h : badMo () l = false) (h2 : twMo l = false) : monR l = 0 := by unfold monR; rw [if_neg (by rw [h]; decide), if_neg (by rw [h2]; decide)]
theorem tw_step {l : List Int} {j : Nat} {y x : Int} (hy : l[j]? = some y) (hx : l[j + 1]? = some x) : twMo (l.drop j) = if x ≤ y then true else twMo (l.drop (j + 1)) := by
  obtain ⟨h1, e1⟩ := List.getElem?_eq_some_iff.1 hy
  obtain ⟨h2, e2⟩ := List.getElem?_eq_some_iff.1 hx
  rw [List.drop_eq_getElem_cons h1, List.drop_eq_getElem_cons h2, e1, e2]
  rfl
theorem tw_end {l : List Int} {i : Nat} (h : l.length ≤ i) : twMo (l.drop (i - 1)) = false := by
  have hl : (l.drop (i - 1)).length ≤ 1 := by rw [List.length_drop]; omega
  match hd : l.drop (i - 1), hl with
  | [], _ => rfl
  | [a], _ => rfl
  | a :: b :: r, hl => simp at hl
theorem monR_rng (l : List Int) : 0 ≤ monR l ∧ monR l ≤ 7 := by unfold monR; split; omega; split <;> omega
/-- the error of a pattern -/
def patR (p : Pat) : Int :=
  if ((p.start < 0 ∨ 109572 < p.start) ∨ (p.per < 1 ∨ 366 < p.per)) ∨ (p.first < 1 ∨ 9999 < p.first) then 2
  else if p.every < 1 ∨ 4 < p.every then 1
  else if ¬ monR p.skip = 0 then monR p.skip
  else if ¬ monR p.dbl = 0 then monR p.dbl
  else if (p.skip.length = 12 ∨ (0 < p.skip.length ∧ 3 ≤ p.every)) ∨ (0 < p.dbl.length ∧ ¬ p.every = 2) then 1
  else if (p.dbl.any fun m => p.skip.contains m) = true then 1 else 0
def anyMo (s : List Int) : Unit → List Int → Bool
  | _, [] => false
  | _, m :: l => if s.contains m = true then true else anyMo s () l
theorem anyMo_eq (s : List Int) : ∀ l : List Int, anyMo s () l = l.any fun m => s.contains m
  | [] => rfl
  | m :: l => by
    rw [anyMo, List.any_cons, anyMo_eq s l]
    cases s.contains m <;> simp
def shortP (p : Pat) : Bool := decide (p.skip.length ≤ 20) && decide (p.dbl.length ≤ 20)
theorem patR_rng (p : Pat) : 0 ≤ patR p ∧ patR p ≤ 7 := by
  have h1 := monR_rng p.skip
  have h2 := monR_rng p.dbl
  unfold patR
  repeat' split
  all_goals omega
theorem patR_1 (p : Pat) : (-9223372036854775808 ≤ patR p) = True := eq_true (by have := patR_rng p; omega)
theorem patR_2 (p : Pat) : (patR p ≤ 9223372036854775807) = True := eq_true (by have := patR_rng p; omega)
theorem patR_ok {p : Pat} (h : patR p = 0) : PatOk p := by
  unfold patR at h
  split at h
  · omega
  · split at h
    · omega
    · unfold PatOk; omega
end Pl

/- Patterns of serials: labels. -/
namespace Pl
open Go Ab
set_option linter.unusedVariables false
set_option linter.unusedSimpArgs false
theorem itoa_sign {n : Int} (h : n < 0) : Go.Lib.itoa n = 45 :: Go.Lib.itoa (-n) := by
  unfold Go.Lib.itoa
  rw [if_pos h, if_neg (by omega), show n.natAbs = (-n).toNat by omega]
theorem digC_mod (n : Int) : digC (n % 10) = digC n := by unfold digC; rw [show n % 10 % 10 = n % 10 by omega]
/-- what is left of a number, and its digits so far -/
def DigI (n x : Int) (o : List UInt8) : Prop := (0 ≤ x ∧ x ≤ n) ∧ ((o = [] ∧ x = n) ∨ (¬ o = [] ∧ (if x = 0 then [] else Go.Lib.itoa x) ++ o = Go.Lib.itoa n))
theorem DigI.start {n : Int} (h : 0 ≤ n) : DigI n n [] := ⟨⟨h, Int.le_refl _⟩, .inl ⟨rfl, rfl⟩⟩
theorem DigI.step {n x : Int} {o : List UInt8} (h : DigI n x o) (hc : 0 < x ∨ o = []) : DigI n (x / 10) (digC x :: o) := by
  obtain ⟨⟨h0, h1⟩, h⟩ := h
  refine ⟨⟨by omega, by omega⟩, .inr ⟨by simp, ?_⟩⟩
  have key : (if x / 10 = 0 then [] else Go.Lib.itoa (x / 10)) ++ [digC x] = Go.Lib.itoa x := by
    by_cases hx : x < 10
    · rw [if_pos (by omega), itoa_small h0 hx]; rfl
    · rw [if_neg (by omega), itoa_big (n := x) (by omega)]
  have e : (if x / 10 = 0 then [] else Go.Lib.itoa (x / 10)) ++ digC x :: o = Go.Lib.itoa x ++ o := by rw [← key]; simp
  rw [e]
  rcases h with ⟨ho, hx⟩ | ⟨ho, hx⟩
  · rw [ho, hx]; simp
  · have : ¬ x = 0 := by rcases hc with hc | hc <;> first | omega | exact absurd hc ho
    rw [if_neg this] at hx
    exact hx
theorem DigI.done {n x : Int} {o : List UInt8} (h : DigI n x o) (hx : x ≤ 0) (ho : ¬ o = []) : o = Go.Lib.itoa n := by
  obtain ⟨⟨h0, h1⟩, h⟩ := h
  rcases h with ⟨h, _⟩ | ⟨_, h⟩
  · exact absurd h ho
  · rw [if_pos (by omega)] at h; exact h
theorem DigI.len {n x : Int} {o : List UInt8} (h : DigI n x o) (hn : n ≤ 9223372036854775807) : o.length ≤ 21 := by
  obtain ⟨⟨h0, h1⟩, h⟩ := h
  have := Go.Lib.itoa_length_le n (by omega) hn
  rcases h with ⟨h, _⟩ | ⟨_, h⟩
  · rw [h]; simp
  · rw [← h, List.length_append] at this; omega
theorem dig_cut {x : Int} (h : 0 ≤ x) : List.drop (x % 10).toNat (List.take ((x % 10).toNat + 1) [48, 49, 50, 51, 52, 53, 54, 55, 56, 57]) = [digC x] := by
  rw [← digC_mod x]
  have : x % 10 = 0 ∨ x % 10 = 1 ∨ x % 10 = 2 ∨ x % 10 = 3 ∨ x % 10 = 4 ∨ x % 10 = 5 ∨ x % 10 = 6 ∨ x % 10 = 7 ∨ x % 10 = 8 ∨ x % 10 = 9 := by omega
  rcases this with h | h | h | h | h | h | h | h | h | h <;> rw [h] <;> rfl
theorem dig_cut2 {x : Int} (h : 0 ≤ x) : List.drop (x % 10).toNat (48 :: List.take (x % 10).toNat [49, 50, 51, 52, 53, 54, 55, 56, 57]) = [digC x] := dig_cut h
theorem tdiv_neg10 (n : Int) (h : n < 0) : n.tdiv 10 = -((-n) / 10) := by
  rw [← Int.tdiv_eq_ediv_of_nonneg (show 0 ≤ -n by omega), Int.neg_tdiv, Int.neg_neg]
theorem tmod_neg10 (n : Int) (h : n < 0) : n.tmod 10 = -((-n) % 10) := by
  rw [← Int.tmod_eq_emod_of_nonneg (show 0 ≤ -n by omega), Int.neg_tmod, Int.neg_neg]
theorem sign_one {n : Int} (h : n < 0) (hq : -(n.tdiv 10) = 0) : 45 :: Go.Lib.itoa (-(n.tmod 10)) = Go.Lib.itoa n := by
  rw [itoa_sign h]
  have e1 := tdiv_neg10 n h
  have e2 := tmod_neg10 n h
  have e : n.tmod 10 = n := by omega
  rw [e]
theorem sign_two {n : Int} (h : n < 0) (hq : ¬ -(n.tdiv 10) = 0) : 45 :: (Go.Lib.itoa (-(n.tdiv 10)) ++ Go.Lib.itoa (-(n.tmod 10))) = Go.Lib.itoa n := by
  have e1 := tdiv_neg10 n h
  have e2 := tmod_neg10 n h
  rw [itoa_sign h, itoa_big (n := -n) (by omega)]
  rw [show -(n.tdiv 10) = -n / 10 by omega, show -(n.tmod 10) = -n % 10 by omega, itoa_small (n := -n % 10) (by omega) (by omega), digC_mod]
def labelR (x : Iss) : List UInt8 := [118, 46] ++ Go.Lib.itoa x.vol ++ [32, 110, 111, 46] ++ Go.Lib.itoa x.num ++ (if x.last = 0 then [] else 45 :: Go.Lib.itoa x.last)
theorem lab_len {x : Iss} (h1 : -9223372036854775808 ≤ x.vol ∧ x.vol ≤ 9223372036854775807) (h2 : -9223372036854775808 ≤ x.num ∧ x.num ≤ 9223372036854775807) (h3 : -9223372036854775808 ≤ x.last ∧ x.last ≤ 9223372036854775807) : (labelR x).length ≤ maxLen := by
  have a := Go.Lib.itoa_length_le x.vol h1.1 h1.2
  have b := Go.Lib.itoa_length_le x.num h2.1 h2.2
  have c := Go.Lib.itoa_length_le x.last h3.1 h3.2
  unfold labelR
  simp only [List.length_append, maxLen]
  split
  · simp; omega
  · simp; omega
end Pl

/- Numbers with check digits: what the functions compute. -/
namespace Pl
open Go Ab
set_option linter.unusedVariables false
set_option linter.unusedSimpArgs false
theorem nat_u8 {x y : UInt8} (h : (x.toNat : Int) = (y.toNat : Int)) : x = y := UInt8.toNat_inj.1 (by omega)
/-- the value of a digit -/
def dB (b : UInt8) : Int := (b.toNat : Int) - 48
theorem dB_rng {b : UInt8} (h : isDig b = true) : 0 ≤ dB b ∧ dB b ≤ 9 := by
  unfold isDig at h; unfold dB; simp at h; omega
theorem dB_wrap {b : UInt8} (h : isDig b = true) : IntKind.u8.wrap ((b.toNat : Int) - 48) = dB b := by
  have := dB_rng h; unfold dB at this ⊢; rw [IntKind.wrap_u8]; omega
theorem dB_digC (n : Int) : dB (digC n) = n % 10 := by
  unfold dB; rw [digC_val]; omega
theorem digC_dB {b : UInt8} (h : isDig b = true) : digC (dB b) = b := by
  have hr := dB_rng h
  unfold dB at hr
  apply UInt8.toNat_inj.1
  rw [digC_val]; unfold dB; omega
/-- the digit sum of the double -/
def twD (d : Int) : Int := 2 * d / 10 + 2 * d % 10
def luhF : Bool × Int → List UInt8 → Int
  | (_, c), [] => c
  | (t, c), b :: l => luhF (!t, c + if t = true then twD (dB b) else dB b) l
theorem twD_rng {d : Int} (h : 0 ≤ d ∧ d ≤ 9) : 0 ≤ twD d ∧ twD d ≤ 9 := by
  obtain ⟨h0, h1⟩ := h
  unfold twD
  have : d = 0 ∨ d = 1 ∨ d = 2 ∨ d = 3 ∨ d = 4 ∨ d = 5 ∨ d = 6 ∨ d = 7 ∨ d = 8 ∨ d = 9 := by omega
  rcases this with rfl | rfl | rfl | rfl | rfl | rfl | rfl | rfl | rfl | rfl <;> decide
theorem luhF_add : ∀ (l : List UInt8) (t : Bool) (c : Int), luhF (t, c) l = c + luhF (t, 0) l
  | [], t, c => by simp [luhF]
  | b :: l, t, c => by
    unfold luhF
    rw [luhF_add l _ (c + _), luhF_add l _ (0 + _)]; omega
theorem luhF_rng : ∀ (l : List UInt8) (t : Bool), l.all isDig = true → 0 ≤ luhF (t, 0) l ∧ luhF (t, 0) l ≤ 9 * (l.length : Int)
  | [], t, _ => by simp [luhF]
  | b :: l, t, h => by
    simp only [List.all_cons, Bool.and_eq_true] at h
    have hb := dB_rng h.1
    have ht := twD_rng hb
    have ih := luhF_rng l (!t) h.2
    unfold luhF
    rw [luhF_add]
    simp only [List.length_cons]
    split <;> omega
/-- the check digit of digits -/
def luhN (s : List UInt8) : Int := (10 - luhF (true, 0) s.reverse % 10) % 10
theorem luhN_rng (s : List UInt8) : 0 ≤ luhN s ∧ luhN s ≤ 9 := by unfold luhN; omega
def luhR (s : List UInt8) : Int × Int := if s.length < 1 ∨ 20 < s.length ∨ s.all isDig = false then (0, 3) else (luhN s, 0)
def makR (k n : Int) : List UInt8 × Int :=
  if ¬ k = 2 ∧ ¬ k = 3 then ([], 1) else if n < 0 ∨ 9999 < n then ([], 2) else (digC k :: digD n 12 ++ [digC (luhN (digC k :: digD n 12))], 0)
def parB (s : List UInt8) : Int × Int × Int :=
  if ¬ s.length = 14 ∨ s.all isDig = false ∨ ¬ (s.getD 0 0 = 50 ∨ s.getD 0 0 = 51) then (0, 0, 3)
  else if ¬ luhN (s.take 13) = dB (s.getD 13 0) then (0, 0, 5)
  else if 9999 < valF 0 ((s.take 13).drop 1) then (0, 0, 2) else (dB (s.getD 0 0), valF 0 ((s.take 13).drop 1), 0)
/-- without hyphens and blanks -/
def rmvF : List UInt8 → List UInt8 → List UInt8
  | o, [] => o
  | o, b :: l => if b = 45 ∨ b = 32 then rmvF o l else rmvF (o ++ [b]) l
def rmvR (s : List UInt8) : List UInt8 := s.filter fun b => !(b == 45 || b == 32)
theorem rmvF_eq : ∀ (l o : List UInt8), rmvF o l = o ++ rmvR l
  | [], o => by simp [rmvF, rmvR]
  | b :: l, o => by
    unfold rmvF rmvR
    by_cases h : b = 45 ∨ b = 32
    · rw [if_pos h, rmvF_eq l, List.filter_cons, if_neg (by rcases h with rfl | rfl <;> decide)]; rfl
    · rw [if_neg h, rmvF_eq l, List.filter_cons, if_pos (by simp only [not_or] at h; simp [h.1, h.2])]; simp [rmvR]
theorem rmvR_len (s : List UInt8) : (rmvR s).length ≤ s.length := List.length_filter_le _ _
/-- digits, of which the last one can be X (88) -/
def endB : List UInt8 → Bool
  | [] => false
  | [b] => isDig b || b == 88
  | b :: c :: l => isDig b && endB (c :: l)
/-- the weighted sum of what is left; 'n': the weight of the next one -/
def dX (b : UInt8) : Int := if b = 88 then 10 else dB b
def wgtF : Int → List UInt8 → Int
  | c, [] => c
  | c, b :: l => wgtF (c + dX b * ((l.length : Int) + 1)) l
/-- the same, as long as it goes well -/
def wtF : Int → List UInt8 → Option Int
  | c, [] => some c
  | c, b :: l => if l = [] ∧ b = 88 then wtF (c + 10 * ((l.length : Int) + 1)) l else if isDig b = true then wtF (c + dB b * ((l.length : Int) + 1)) l else none
theorem dig88 : isDig 88 = false := by decide
theorem wt_end : ∀ (l : List UInt8) (c : Int), l ≠ [] → wtF c l = if endB l = true then some (wgtF c l) else none
  | [], c, h => absurd rfl h
  | [b], c, _ => by
    simp only [wtF, endB, wgtF]
    by_cases h : b = 88
    · subst h; simp [dX]
    · by_cases hd : isDig b = true
      · simp [h, hd, dX]
      · simp [h, hd]
  | b :: d :: l, c, _ => by
    rw [wtF, if_neg (by rintro ⟨h, _⟩; cases h)]
    by_cases hd : isDig b = true
    · have h88 : ¬ b = 88 := fun e => by subst e; rw [dig88] at hd; cases hd
      rw [if_pos hd, wt_end (d :: l) _ (by simp)]
      rw [show endB (b :: d :: l) = endB (d :: l) by simp [endB, hd]]
      congr 2
      show _ = wgtF (c + dX b * _) (d :: l)
      rw [dX, if_neg h88]
    · rw [if_neg hd, if_neg (by simp [endB, hd])]
theorem endB_mem : ∀ {s : List UInt8}, endB s = true → ∀ {x : UInt8}, x ∈ s → isDig x = true ∨ x = 88
  | [b], h, x, hx => by
    simp only [endB, Bool.or_eq_true, beq_iff_eq] at h
    simp at hx; subst hx; exact h
  | b :: c :: l, h, x, hx => by
    simp only [endB, Bool.and_eq_true] at h
    rcases List.mem_cons.1 hx with rfl | hx
    · exact .inl h.1
    · exact endB_mem h.2 hx
def wgtR (s : List UInt8) : Int := wgtF 0 s
theorem wgtF_add : ∀ (l : List UInt8) (c : Int), wgtF c l = c + wgtF 0 l
  | [], c => by simp [wgtF]
  | b :: l, c => by unfold wgtF; rw [wgtF_add l (c + _), wgtF_add l (0 + _)]; omega
/-- a byte less 48, as a byte -/
def dW (b : UInt8) : Int := ((b.toNat : Int) - 48) % 256
theorem dW_rng (b : UInt8) : 0 ≤ dW b ∧ dW b ≤ 255 := by unfold dW; omega
theorem dW_dB {b : UInt8} (h : isDig b = true) : dW b = dB b := by have := dB_rng h; unfold dB at this; unfold dW dB; omega
theorem dW_wrap (b : UInt8) : IntKind.u8.wrap ((b.toNat : Int) - 48) = dW b := by rw [IntKind.wrap_u8]; rfl
def altF : Bool × Int → List UInt8 → Int
  | (_, c), [] => c
  | (t, c), b :: l => altF (!t, c + if t = true then 3 * dW b else dW b) l
def altR (s : List UInt8) : Int := altF (false, 0) s
theorem altF_add : ∀ (l : List UInt8) (t : Bool) (c : Int), altF (t, c) l = c + altF (t, 0) l
  | [], t, c => by simp [altF]
  | b :: l, t, c => by
    unfold altF
    rw [altF_add l _ (c + _), altF_add l _ (0 + _)]; omega
theorem altF_rng : ∀ (l : List UInt8) (t : Bool), 0 ≤ altF (t, 0) l ∧ altF (t, 0) l ≤ 765 * (l.length : Int)
  | [], t => by simp [altF]
  | b :: l, t => by
    have hb := dW_rng b
    have ih := altF_rng l (!t)
    unfold altF
    rw [altF_add]
    simp only [List.length_cons]
    split <;> omega
def p978 : List UInt8 := [57, 55, 56]
def p979 : List UInt8 := [57, 55, 57]
/-- a book number out of a text without hyphens and blanks -/
def isbT (t : List UInt8) : List UInt8 × Int :=
  if t.length = 10 then
    if endB t = false then ([], 3) else if ¬ wgtR t % 11 = 0 then ([], 5)
    else (p978 ++ t.take 9 ++ [digC ((10 - altR (p978 ++ t.take 9) % 10) % 10)], 0)
  else if t.length = 13 then
    if t.all isDig = false ∨ ¬ (t.take 3 = p978 ∨ t.take 3 = p979) then ([], 3) else if ¬ altR t % 10 = 0 then ([], 5) else (t, 0)
  else ([], 3)
def isbR (s : List UInt8) : List UInt8 × Int := isbT (rmvR s)
def issT (s : List UInt8) : List UInt8 := if s.length = 9 ∧ s.getD 4 0 = 45 then s.take 4 ++ s.drop 5 else s
def issnR (s : List UInt8) : List UInt8 × Int :=
  if ¬ (issT s).length = 8 ∨ endB (issT s) = false then ([], 3) else if ¬ wgtR (issT s) % 11 = 0 then ([], 5)
  else ((issT s).take 4 ++ [45] ++ (issT s).drop 4, 0)
end Pl

/- Numbers with check digits: what comes back, and what is found out. -/
namespace Pl
open Go Ab
set_option linter.unusedVariables false
set_option linter.unusedSimpArgs false
theorem digD_valF : ∀ (w : Nat) (l : List UInt8), l.length = w → l.all isDig = true → digD (valF 0 l) w = l ∧ 0 ≤ valF 0 l
  | 0, l, hl, _ => by rw [List.length_eq_zero_iff.1 hl]; exact ⟨rfl, by simp [valF]⟩
  | w + 1, l, hl, hd => by
    rcases List.eq_nil_or_concat l with rfl | ⟨l0, b, rfl⟩
    · simp at hl
    · simp only [List.concat_eq_append] at hl hd ⊢
      simp only [List.all_append, Bool.and_eq_true, List.all_cons, List.all_nil, Bool.and_true] at hd
      have hw : l0.length = w := by simpa using hl
      obtain ⟨h1, h2⟩ := digD_valF w l0 hw hd.1
      have hb := dB_rng hd.2
      have e : ((b.toNat : Int) - 48) = dB b := rfl
      rw [valF_app, e]
      refine ⟨?_, by omega⟩
      rw [digD, show (10 * valF 0 l0 + dB b) / 10 = valF 0 l0 by omega, h1]
      have : digC (10 * valF 0 l0 + dB b) = digC (dB b) := by unfold digC; rw [show (10 * valF 0 l0 + dB b) % 10 = dB b % 10 by omega]
      rw [this, digC_dB hd.2]
theorem wgtF_nn : ∀ (l : List UInt8), endB l = true → 0 ≤ wgtF 0 l ∧ wgtF 0 l ≤ 10 * ((l.length : Int) * l.length)
  | [b], h => by
    simp only [endB, Bool.or_eq_true, beq_iff_eq] at h
    have : 0 ≤ dX b ∧ dX b ≤ 10 := by
      unfold dX
      rcases h with h | h
      · have := dB_rng h; split <;> omega
      · rw [if_pos h]; decide
    simp [wgtF]; omega
  | b :: c :: l, h => by
    simp only [endB, Bool.and_eq_true] at h
    obtain ⟨h1, h2⟩ := wgtF_nn (c :: l) h.2
    have hd := dB_rng h.1
    have hx : dX b = dB b := if_neg fun e => by subst e; rw [dig88] at h; cases h.1
    rw [wgtF, wgtF_add, hx]
    simp only [List.length_cons] at h1 h2 ⊢
    generalize hn : ((l.length + 1 : Nat) : Int) = n at *
    have hn0 : 0 ≤ n := by omega
    have e : ((l.length + 1 + 1 : Nat) : Int) = n + 1 := by omega
    rw [e]
    have h3 : 0 ≤ dB b * (n + 1) := Int.mul_nonneg hd.1 (by omega)
    have h4 : dB b * (n + 1) ≤ 9 * (n + 1) := Int.mul_le_mul_of_nonneg_right hd.2 (by omega)
    have h5 : (n + 1) * (n + 1) = n * n + 2 * n + 1 := by rw [Int.add_mul, Int.mul_add]; omega
    rw [h5]
    refine ⟨by omega, by omega⟩
theorem wgt_nn {l : List UInt8} (h : endB l = true) : 0 ≤ wgtR l := (wgtF_nn l h).1
theorem wgt_big {l : List UInt8} (h : endB l = true) : wgtR l ≤ 10 * ((l.length : Int) * l.length) := (wgtF_nn l h).2
theorem isbT_13 {u : List UInt8} (h : u.length = 13 ∧ u.all isDig = true ∧ (u.take 3 = p978 ∨ u.take 3 = p979)) : isbT u = if ¬ altR u % 10 = 0 then ([], 5) else (u, 0) := by
  unfold isbT
  rw [if_neg (by omega), if_pos h.1, if_neg (by rw [h.2.1]; rintro (e | e); cases e; exact e h.2.2)]
theorem isbT_10 {u : List UInt8} (h : u.length = 10) (he : endB u = true) : isbT u = if ¬ wgtR u % 11 = 0 then ([], 5) else (p978 ++ u.take 9 ++ [digC ((10 - altR (p978 ++ u.take 9) % 10) % 10)], 0) := by
  unfold isbT
  rw [if_pos h, if_neg (by rw [he]; decide)]
theorem isbT_no {u : List UInt8} (h : (u.length : Int) = 13 → (∀ x, x ∈ u → isDig x = true) → ¬ u.take 3 = p978 ∧ ¬ u.take 3 = p979) (h2 : ¬ u.length = 10 ∨ endB u = false) : isbT u = ([], 3) := by
  unfold isbT
  split
  · rename_i h10
    rw [if_pos (h2.resolve_left (fun e => e h10))]
  · split
    · rename_i h13
      rw [if_pos]
      cases hd : u.all isDig with
      | false => exact .inl rfl
      | true =>
        have := h (by omega) (List.all_eq_true.1 hd)
        exact .inr (by rintro (e | e); exact this.1 e; exact this.2 e)
    · rfl
/-- the sum that must end in 0 -/
def sumV (s : List UInt8) : Int := luhF (false, 0) s.reverse
theorem luh_valid {s : List UInt8} (hl : s.length = 14) (hd : s.all isDig = true) : luhN (s.take 13) = dB (s.getD 13 0) ↔ sumV s % 10 = 0 := by
  have h13 : 13 < s.length := by omega
  have hs : s = s.take 13 ++ [s[13]] := by
    have := List.take_append_drop 13 s
    rw [List.drop_eq_getElem_cons h13, show 13 + 1 = 14 from rfl, List.drop_of_length_le (by omega)] at this
    exact this.symm
  have hg : s.getD 13 0 = s[13] := by rw [List.getD_eq_getElem?_getD, List.getElem?_eq_getElem h13]; rfl
  have hb : isDig s[13] = true := List.all_eq_true.1 hd _ (List.getElem_mem h13)
  have hr := dB_rng hb
  have ht : (s.take 13).all isDig = true := by
    rw [List.all_eq_true] at hd ⊢
    exact fun x hx => hd x (List.mem_of_mem_take hx)
  have hlr := luhF_rng (s.take 13).reverse true (by rw [List.all_reverse]; exact ht)
  have e : sumV s = dB s[13] + luhF (true, 0) (s.take 13).reverse := by
    unfold sumV
    conv => lhs; rw [hs]
    rw [List.reverse_append, List.reverse_singleton, List.singleton_append, luhF, luhF_add]
    simp
  rw [hg, e]
  unfold luhN
  omega
theorem u8_88 (b : UInt8) : ((b.toNat : Int) == 88) = (b == 88) := by
  rw [Bool.eq_iff_iff]; simp only [beq_iff_eq]
  exact ⟨fun h => nat_u8 (y := 88) h, fun h => by subst h; rfl⟩
theorem endB_concat : ∀ (l : List UInt8) (b : UInt8), endB (l ++ [b]) = (l.all isDig && (isDig b || b == 88))
  | [], b => by simp [endB]
  | [x], b => by simp [endB]
  | x :: y :: l, b => by
    rw [List.cons_append, List.cons_append, endB, ← List.cons_append, endB_concat (y :: l) b]; simp only [List.all_cons, Bool.and_assoc]
theorem pow_le : ∀ k : Nat, k ≤ 11 → (1 : Int) ≤ 10 ^ k ∧ (10 : Int) ^ k ≤ 100000000000 := by
  intro k hk
  have : ∀ i : Fin 12, (1 : Int) ≤ 10 ^ i.val ∧ (10 : Int) ^ i.val ≤ 100000000000 := by decide
  exact this ⟨k, by omega⟩
theorem parB_pre {s : List UInt8} (hL : s.length = 14) (hall : s.all isDig = true) (h0 : s.getD 0 0 = 50 ∨ s.getD 0 0 = 51) :
    ((s.take 13).drop 1) ≠ [] ∧ ((s.take 13).drop 1).all isDig = true ∧ luhR (s.take 13) = (luhN (s.take 13), 0) ∧
      parB s = if ¬ luhN (s.take 13) = dB (s.getD 13 0) then (0, 0, 5) else if 9999 < valF 0 ((s.take 13).drop 1) then (0, 0, 2) else (dB (s.getD 0 0), valF 0 ((s.take 13).drop 1), 0) := by
  have ht : (s.take 13).all isDig = true := List.all_eq_true.2 fun x hx => List.all_eq_true.1 hall x (List.mem_of_mem_take hx)
  refine ⟨fun e => by have := congrArg List.length e; simp at this; omega, List.all_eq_true.2 fun x hx => List.all_eq_true.1 ht x (List.mem_of_mem_drop hx), if_neg (by rw [ht, show (s.take 13).length = 13 by rw [List.length_take]; omega]; decide), ?_⟩
  unfold parB
  rw [if_neg (by rw [hall, hL]; rintro (h | h | h); exact h rfl; cases h; exact h h0)]
theorem par_no {s : List UInt8} {b : UInt8} (hg : s.getD 0 0 = b) (h : (∃ x, x ∈ s ∧ isDig x = false) ∨ ¬ (b.toNat : Int) = 50 ∧ ¬ (b.toNat : Int) = 51) : parB s = (0, 0, 3) := by
  refine if_pos (.inr ?_)
  rw [hg]
  rcases h with ⟨x, hx, hd⟩ | h
  · left
    cases ha : s.all isDig with
    | false => rfl
    | true => have := List.all_eq_true.1 ha x hx; rw [hd] at this; cases this
  · exact .inr fun e => e.elim (fun e => h.1 (by rw [e]; rfl)) (fun e => h.2 (by rw [e]; rfl))
theorem parB_ok {s : List UInt8} (h : (parB s).2.2 = 0) : s.length = 14 ∧ s.all isDig = true ∧ (s.getD 0 0 = 50 ∨ s.getD 0 0 = 51) ∧ luhN (s.take 13) = dB (s.getD 13 0) ∧ valF 0 ((s.take 13).drop 1) ≤ 9999 ∧ parB s = (dB (s.getD 0 0), valF 0 ((s.take 13).drop 1), 0) := by
  unfold parB at h ⊢
  split at h; · cases h
  rename_i h1; rw [if_neg h1]
  split at h; · cases h
  rename_i h2; rw [if_neg h2]
  split at h; · cases h
  rename_i h3; rw [if_neg h3]
  rw [not_or, not_or] at h1
  exact ⟨Decidable.not_not.1 h1.1, by simpa using h1.2.1, Decidable.not_not.1 h1.2.2, Decidable.not_not.1 h2, by omega, rfl⟩
theorem mak_ok {k n : Int} (h : (makR k n).2 = 0) : (k = 2 ∨ k = 3) ∧ (0 ≤ n ∧ n ≤ 9999) ∧ makR k n = (digC k :: digD n 12 ++ [digC (luhN (digC k :: digD n 12))], 0) := by
  unfold makR at h ⊢
  split at h; · cases h
  rename_i h1; rw [if_neg h1]
  split at h; · cases h
  rename_i h2; rw [if_neg h2]
  exact ⟨by omega, by omega, rfl⟩
theorem mak_len {k n : Int} : (digC k :: digD n 12 ++ [digC (luhN (digC k :: digD n 12))]).length = 14 := by simp [digD_len]
theorem mak_dig {k n : Int} : (digC k :: digD n 12 ++ [digC (luhN (digC k :: digD n 12))]).all isDig = true := by
  rw [List.all_append, List.all_cons, digC_dig, digD_dig]; simp [digC_dig, -List.all_eq_true]
theorem mak_take {k n : Int} : (digC k :: digD n 12 ++ [digC (luhN (digC k :: digD n 12))]).take 13 = digC k :: digD n 12 := by
  rw [List.take_append_of_le_length (by simp [digD_len]), List.take_of_length_le (by simp [digD_len])]
theorem mak_last {k n : Int} : (digC k :: digD n 12 ++ [digC (luhN (digC k :: digD n 12))]).getD 13 0 = digC (luhN (digC k :: digD n 12)) := by
  rw [List.getD_eq_getElem?_getD, List.getElem?_append_right (by simp [digD_len])]; simp [digD_len]
theorem par_mak {k n : Int} (h : (makR k n).2 = 0) : parB (makR k n).1 = (k, n, 0) := by
  obtain ⟨hk, hn, e⟩ := mak_ok h
  rw [e]
  show parB (digC k :: digD n 12 ++ [digC (luhN (digC k :: digD n 12))]) = _
  have h0 : (digC k :: digD n 12 ++ [digC (luhN (digC k :: digD n 12))]).getD 0 0 = digC k := rfl
  have hv : valF 0 (digD n 12) = n := digD_val 12 n (by omega) (by omega)
  have hr := luhN_rng (digC k :: digD n 12)
  unfold parB
  rw [if_neg, if_neg, if_neg]
  · rw [h0, mak_take, List.drop_one, List.tail_cons, hv, dB_digC, show k % 10 = k by omega]
  · rw [mak_take, List.drop_one, List.tail_cons, hv]; omega
  · rw [mak_take, mak_last, dB_digC]; omega
  · rw [mak_len, mak_dig, h0]
    rcases hk with rfl | rfl
    · simp only [not_true_eq_false, false_or]; decide
    · simp only [not_true_eq_false, false_or]; decide
theorem mak_par {s : List UInt8} (h : (parB s).2.2 = 0) : makR (parB s).1 (parB s).2.1 = (s, 0) := by
  obtain ⟨hl, hd, h0, hc, hn, e⟩ := parB_ok h
  rw [e]
  show makR (dB (s.getD 0 0)) (valF 0 ((s.take 13).drop 1)) = _
  match s, hl with
  | b :: l, hl =>
    have hl' : l.length = 13 := by simpa using hl
    have e0 : (b :: l).getD 0 0 = b := rfl
    rw [e0] at h0 ⊢
    have et : ((b :: l).take 13).drop 1 = l.take 12 := rfl
    rw [et] at hn ⊢
    simp only [List.all_cons, Bool.and_eq_true] at hd
    have hm : (l.take 12).all isDig = true := List.all_eq_true.2 fun x hx => List.all_eq_true.1 hd.2 x (List.mem_of_mem_take hx)
    obtain ⟨v1, v2⟩ := digD_valF 12 (l.take 12) (by rw [List.length_take]; omega) hm
    unfold makR
    have hk : dB b = 2 ∨ dB b = 3 := by rcases h0 with rfl | rfl <;> decide
    rw [if_neg (by omega), if_neg (by omega), v1, digC_dB hd.1]
    have e13 : (b :: l).take 13 = b :: l.take 12 := rfl
    have hg : (b :: l).getD 13 0 = l[12]'(by omega) := by rw [List.getD_eq_getElem?_getD, List.getElem?_cons_succ, List.getElem?_eq_getElem (by omega)]; rfl
    rw [e13, hg] at hc
    rw [hc, digC_dB (List.all_eq_true.1 hd.2 _ (List.getElem_mem _))]
    have hs : l = l.take 12 ++ [l[12]'(by omega)] := by
      have := List.take_append_drop 12 l
      rw [List.drop_eq_getElem_cons (by omega), show 12 + 1 = 13 from rfl, List.drop_of_length_le (by omega)] at this
      exact this.symm
    conv => rhs; rw [hs]
    rfl
/-! One wrong digit, two digits exchanged -/
def wV (t : Bool) (b : UInt8) : Int := if t = true then twD (dB b) else dB b
theorem luhF_cut : ∀ (l r : List UInt8) (t : Bool), ∃ p : Bool, ∀ b c : List UInt8, luhF (t, 0) (l ++ b ++ r) - luhF (t, 0) (l ++ c ++ r) = luhF (p, 0) (b ++ r) - luhF (p, 0) (c ++ r)
  | [], r, t => ⟨t, fun b c => rfl⟩
  | x :: l, r, t => by
    obtain ⟨p, h⟩ := luhF_cut l r (!t)
    refine ⟨p, fun b c => ?_⟩
    simp only [List.cons_append]
    rw [luhF, luhF, luhF_add, luhF_add (l ++ c ++ r)]
    have := h b c; omega
theorem wV_inj {t : Bool} {a b : UInt8} (ha : isDig a = true) (hb : isDig b = true) (h : (wV t a - wV t b) % 10 = 0) : dB a = dB b := by
  have h1 := dB_rng ha; have h2 := dB_rng hb
  unfold wV at h
  generalize dB a = x at *
  generalize dB b = y at *
  cases t with
  | false => simp only [Bool.false_eq_true, if_false] at h; omega
  | true =>
    simp only [if_true] at h
    unfold twD at h
    omega
theorem one_bad {l r : List UInt8} {a b : UInt8} (ha : isDig a = true) (hb : isDig b = true) (hab : dB a ≠ dB b) (h : luhF (false, 0) (l ++ [a] ++ r) % 10 = 0) : ¬ luhF (false, 0) (l ++ [b] ++ r) % 10 = 0 := by
  intro h2
  obtain ⟨p, hp⟩ := luhF_cut l r false
  have := hp [a] [b]
  simp only [List.append_assoc, List.cons_append, List.nil_append] at this h h2
  simp only [luhF] at this
  rw [luhF_add r (!p) (0 + if p = true then twD (dB a) else dB a), luhF_add r (!p) (0 + if p = true then twD (dB b) else dB b)] at this
  refine hab (wV_inj (t := p) ha hb ?_)
  cases p <;> simp only [wV, if_true, Bool.false_eq_true, if_false] at this ⊢ <;> omega
theorem swp_fin : ∀ a b : Fin 10, ((a.val : Int) + twD (b.val : Int) - ((b.val : Int) + twD (a.val : Int))) % 10 = 0 → a = b ∨ (a = 0 ∧ b = 9) ∨ (a = 9 ∧ b = 0) := by decide
theorem swp_int {x y : Int} (hx : 0 ≤ x ∧ x ≤ 9) (hy : 0 ≤ y ∧ y ≤ 9) (h : (x + twD y - (y + twD x)) % 10 = 0) : x = y ∨ (x = 0 ∧ y = 9) ∨ (x = 9 ∧ y = 0) := by
  have := swp_fin ⟨x.toNat, by omega⟩ ⟨y.toNat, by omega⟩ (by simp only; rw [Int.toNat_of_nonneg hx.1, Int.toNat_of_nonneg hy.1]; exact h)
  simp only [Fin.ext_iff] at this
  simp at this
  omega
theorem two_bad {l r : List UInt8} {a b : UInt8} (ha : isDig a = true) (hb : isDig b = true) (hab : dB a ≠ dB b) (h0 : ¬ (dB a = 0 ∧ dB b = 9)) (h9 : ¬ (dB a = 9 ∧ dB b = 0)) (h : luhF (false, 0) (l ++ [a, b] ++ r) % 10 = 0) : ¬ luhF (false, 0) (l ++ [b, a] ++ r) % 10 = 0 := by
  intro h2
  obtain ⟨p, hp⟩ := luhF_cut l r false
  have := hp [a, b] [b, a]
  simp only [List.append_assoc, List.cons_append, List.nil_append] at this h h2
  simp only [luhF] at this
  rw [luhF_add r (!!p) (0 + (if p = true then twD (dB a) else dB a) + _), luhF_add r (!!p) (0 + (if p = true then twD (dB b) else dB b) + _)] at this
  have h1 := dB_rng ha; have h2' := dB_rng hb
  have key : ¬ (dB a + twD (dB b) - (dB b + twD (dB a))) % 10 = 0 := fun hh => by
    rcases swp_int h1 h2' hh with h | h | h
    · exact hab h
    · exact h0 h
    · exact h9 h
  cases p <;> simp at this <;> omega
theorem sum_set {s : List UInt8} {i : Nat} {b : UInt8} (hi : i < s.length) (hs : sumV s % 10 = 0) (hd : s.all isDig = true) (hb : isDig b = true) (hne : dB s[i] ≠ dB b) : ¬ sumV (s.set i b) % 10 = 0 := by
  have e1 : s = s.take i ++ [s[i]] ++ s.drop (i + 1) := by rw [List.append_assoc, List.singleton_append, ← List.drop_eq_getElem_cons hi, List.take_append_drop]
  have e2 : s.set i b = s.take i ++ [b] ++ s.drop (i + 1) := by rw [List.set_eq_take_append_cons_drop, if_pos hi]; simp
  have ha : isDig s[i] = true := List.all_eq_true.1 hd _ (List.getElem_mem hi)
  unfold sumV at hs ⊢
  rw [e1, List.reverse_append, List.reverse_append, List.reverse_singleton, ← List.append_assoc] at hs
  rw [e2, List.reverse_append, List.reverse_append, List.reverse_singleton, ← List.append_assoc]
  exact one_bad ha hb hne hs
theorem swap_at {p q : List UInt8} {x y : UInt8} {k : Nat} (h : p.length = k) : ((p ++ [x, y] ++ q).set k y).set (k + 1) x = p ++ [y, x] ++ q := by
  subst h
  rw [List.append_assoc, List.set_append, if_neg (by omega), Nat.sub_self, List.cons_append, List.set_cons_zero, List.set_append, if_neg (by omega), show p.length + 1 - p.length = 1 by omega]
  simp
theorem sum_swap {s : List UInt8} {k : Nat} (hk : k + 1 < s.length) (hs : sumV s % 10 = 0) (hd : s.all isDig = true) (hab : dB s[k] ≠ dB s[k + 1]) (h0 : ¬ (dB s[k] = 0 ∧ dB s[k + 1] = 9)) (h9 : ¬ (dB s[k] = 9 ∧ dB s[k + 1] = 0)) :
    ¬ sumV ((s.set k s[k + 1]).set (k + 1) s[k]) % 10 = 0 := by
  have e1 : s = s.take k ++ [s[k], s[k + 1]] ++ s.drop (k + 2) := by
    have := List.take_append_drop k s
    rw [List.drop_eq_getElem_cons (by omega), List.drop_eq_getElem_cons hk] at this
    rw [List.append_assoc]; exact this.symm
  have ha : isDig s[k] = true := List.all_eq_true.1 hd _ (List.getElem_mem (by omega))
  have hb : isDig s[k + 1] = true := List.all_eq_true.1 hd _ (List.getElem_mem hk)
  have e2 : (s.set k s[k + 1]).set (k + 1) s[k] = s.take k ++ [s[k + 1], s[k]] ++ s.drop (k + 2) := by
    have hlen : (s.take k).length = k := by rw [List.length_take]; omega
    have := swap_at (p := s.take k) (q := s.drop (k + 2)) (x := s[k]) (y := s[k + 1]) hlen
    rw [← e1] at this
    exact this
  unfold sumV at hs ⊢
  rw [e1, List.reverse_append, List.reverse_append, ← List.append_assoc] at hs
  rw [e2, List.reverse_append, List.reverse_append, ← List.append_assoc]
  exact two_bad hb ha (Ne.symm hab) (fun h => h9 ⟨h.2, h.1⟩) (fun h => h0 ⟨h.2, h.1⟩) hs
/-! Books and serials are their own -/
theorem rmvR_app (a b : List UInt8) : rmvR (a ++ b) = rmvR a ++ rmvR b := List.filter_append ..
theorem rmvR_dig {s : List UInt8} (h : s.all isDig = true) : rmvR s = s := by
  unfold rmvR
  refine List.filter_eq_self.2 fun b hb => ?_
  have := List.all_eq_true.1 h b hb
  unfold isDig at this
  simp only [decide_eq_true_eq] at this
  have h1 : ¬ b = 45 := fun e => by subst e; exact absurd this.1 (by decide)
  have h2 : ¬ b = 32 := fun e => by subst e; exact absurd this.1 (by decide)
  simp [h1, h2]
theorem endB_take : ∀ {s : List UInt8}, endB s = true → (s.take (s.length - 1)).all isDig = true
  | [], h => by simp [endB] at h
  | [b], h => rfl
  | b :: c :: l, h => by
    simp only [endB, Bool.and_eq_true] at h
    have ih := endB_take h.2
    simp only [List.length_cons, Nat.add_sub_cancel] at ih ⊢
    rw [List.take_succ_cons, List.all_cons, h.1, ih]; rfl
theorem altF_end : ∀ (l : List UInt8) (t : Bool) (b : UInt8), altF (t, 0) (l ++ [b]) = altF (t, 0) l + (if (t ^^ decide (l.length % 2 = 1)) = true then 3 * dW b else dW b)
  | [], t, b => by cases t <;> simp [altF]
  | x :: l, t, b => by
    rw [List.cons_append, altF, altF, altF_add, altF_add l, altF_end l (!t) b]
    have : (t ^^ decide ((x :: l).length % 2 = 1)) = (!t ^^ decide (l.length % 2 = 1)) := by
      have e : decide ((x :: l).length % 2 = 1) = !decide (l.length % 2 = 1) := by rw [Bool.eq_iff_iff]; simp; omega
      rw [e]; cases t <;> simp
    rw [this]; omega
theorem isb_own {t u : List UInt8} (h : isbT t = (u, 0)) : u.length = 13 ∧ u.all isDig = true ∧ isbT u = (u, 0) := by
  unfold isbT at h
  split at h
  · rename_i h10
    split at h; · cases h
    rename_i he
    split at h; · cases h
    simp only [Prod.mk.injEq, and_true] at h
    have h9 := endB_take (s := t) (by simpa using he)
    rw [h10] at h9
    have hA : (p978 ++ t.take 9).length = 12 := by simp [p978, h10]
    have hAd : (p978 ++ t.take 9).all isDig = true := by rw [List.all_append, h9]; rfl
    subst h
    have hlen : (p978 ++ t.take 9 ++ [digC ((10 - altR (p978 ++ t.take 9) % 10) % 10)]).length = 13 := by rw [List.length_append, hA]; rfl
    have hall : (p978 ++ t.take 9 ++ [digC ((10 - altR (p978 ++ t.take 9) % 10) % 10)]).all isDig = true := by rw [List.all_append, hAd]; simp [digC_dig, -List.all_eq_true]
    refine ⟨hlen, hall, ?_⟩
    unfold isbT
    rw [if_neg (by rw [hlen]; decide), if_pos hlen, if_neg (by rw [hall]; rintro (h | h); cases h; exact h (.inl rfl)), if_neg]
    unfold altR
    rw [altF_end, hA, dW_dB (digC_dig _), dB_digC]
    simp
    have := (altF_rng (p978 ++ t.take 9) false).1
    omega
  · split at h
    · rename_i h13
      split at h; · cases h
      rename_i hc
      split at h; · cases h
      rename_i ha
      simp only [Prod.mk.injEq, and_true] at h
      subst h
      simp only [not_or, Bool.not_eq_false] at hc
      refine ⟨h13, hc.1, ?_⟩
      unfold isbT
      rw [if_neg (by omega), if_pos h13, if_neg (by rw [hc.1]; rintro (e | e); cases e; exact hc.2 (not_or.1 e)), if_neg ha]
    · cases h
theorem isb_self {s u : List UInt8} (h : isbR s = (u, 0)) : isbR u = (u, 0) := by
  obtain ⟨_, h2, h3⟩ := isb_own h
  unfold isbR; rw [rmvR_dig h2]; exact h3
theorem isb_cut {s u : List UInt8} (h : isbR s = (u, 0)) (k : Nat) : isbR ([45] ++ u.take k ++ [32, 45, 32] ++ u.drop k ++ [32]) = (u, 0) := by
  obtain ⟨_, h2, h3⟩ := isb_own h
  unfold isbR
  rw [rmvR_app, rmvR_app, rmvR_app, rmvR_app]
  have e1 : rmvR [45] = [] := by decide
  have e2 : rmvR [32, 45, 32] = [] := by decide
  have e3 : rmvR [32] = [] := by decide
  rw [e1, e2, e3, List.nil_append, List.append_nil, List.append_nil, ← rmvR_app, List.take_append_drop, rmvR_dig h2]; exact h3
theorem isb_more {s u : List UInt8} (h : isbR s = (u, 0)) : isbR (s ++ [45]) = (u, 0) := by
  unfold isbR at h ⊢
  rw [rmvR_app, show rmvR [45] = [] from by decide, List.append_nil]; exact h
theorem isb_bad {s : List UInt8} (h : ¬ (isbR s).2 = 0) : (isbR s).1 = [] := by
  unfold isbR isbT at h ⊢
  split
  · rename_i h1; rw [if_pos h1] at h
    split
    · rfl
    · rename_i h2; rw [if_neg h2] at h
      split
      · rfl
      · rename_i h3; rw [if_neg h3] at h; exact absurd rfl h
  · rename_i h1; rw [if_neg h1] at h
    split
    · rename_i h2; rw [if_pos h2] at h
      split
      · rfl
      · rename_i h3; rw [if_neg h3] at h
        split
        · rfl
        · rename_i h4; rw [if_neg h4] at h; exact absurd rfl h
    · rfl
theorem issn_bad {s : List UInt8} (h : ¬ (issnR s).2 = 0) : (issnR s).1 = [] := by
  unfold issnR at h ⊢
  split
  · rfl
  · rename_i h1; rw [if_neg h1] at h
    split
    · rfl
    · rename_i h2; rw [if_neg h2] at h; exact absurd rfl h
theorem issn_own {s u : List UInt8} (h : issnR s = (u, 0)) : u.length = 9 ∧ issnR u = (u, 0) ∧ issnR (u.take 4 ++ u.drop 5) = (u, 0) := by
  unfold issnR at h
  split at h; · cases h
  rename_i h1
  split at h; · cases h
  rename_i h2
  simp only [Prod.mk.injEq, and_true] at h
  generalize issT s = t at h h1 h2
  simp only [not_or, Decidable.not_not] at h1
  subst h
  have h4 : (t.take 4).length = 4 := by rw [List.length_take]; omega
  have hl : (t.take 4 ++ [45] ++ t.drop 4).length = 9 := by simp; omega
  have e1 : (t.take 4 ++ [45] ++ t.drop 4).take 4 = t.take 4 := by rw [List.append_assoc, List.take_append_of_le_length (by omega), List.take_of_length_le (by omega)]
  have e2 : (t.take 4 ++ [45] ++ t.drop 4).drop 5 = t.drop 4 := by
    rw [List.drop_append_of_le_length (by simp; omega), List.drop_of_length_le (by simp; omega), List.nil_append]
  have e3 : (t.take 4 ++ [45] ++ t.drop 4).getD 4 0 = 45 := by
    rw [List.getD_eq_getElem?_getD, List.append_assoc, List.getElem?_append_right (by omega), h4]; rfl
  have ht : issT t = t := by unfold issT; rw [if_neg (by omega)]
  have hi : issT (t.take 4 ++ [45] ++ t.drop 4) = t := by
    unfold issT
    rw [if_pos ⟨hl, e3⟩, e1, e2, List.take_append_drop]
  have own : ∀ v, issT v = t → issnR v = (t.take 4 ++ [45] ++ t.drop 4, 0) := fun v hv => by
    unfold issnR
    rw [hv, if_neg (by simp only [not_or, Decidable.not_not]; exact h1), if_neg h2]
  refine ⟨hl, own _ hi, ?_⟩
  rw [e1, e2, List.take_append_drop]
  exact own _ ht
end Pl

namespace Pl
theorem rmv_count : ∀ l : List UInt8, l.count 32 + l.count 45 + (rmvR l).length = l.length
  | [] => rfl
  | b :: l => by
    have ih := rmv_count l
    have e : rmvR (b :: l) = if b = 45 ∨ b = 32 then rmvR l else b :: rmvR l := by
      unfold rmvR; rw [List.filter_cons]
      by_cases h : b = 45 ∨ b = 32
      · rw [if_pos h]; rcases h with rfl | rfl <;> simp
      · rw [if_neg h]; simp only [not_or] at h; simp [h.1, h.2]
    rw [e]
    by_cases h1 : b = 45
    · subst h1; simp [List.count_cons]; omega
    · by_cases h2 : b = 32
      · subst h2; simp [List.count_cons]; omega
      · simp [List.count_cons, h1, h2]; omega
theorem rmv_snoc (l : List UInt8) (b : UInt8) : rmvR (l ++ [b]) = if b = 45 ∨ b = 32 then rmvR l else rmvR l ++ [b] := by
  unfold rmvR
  rw [List.filter_append]
  by_cases h : b = 45 ∨ b = 32
  · rw [if_pos h]; rcases h with rfl | rfl <;> simp
  · rw [if_neg h]; simp only [not_or] at h; simp [h.1, h.2]
theorem rmv_take (l : List UInt8) (k : Nat) : (rmvR (l.take k)).length ≤ (rmvR l).length :=
  (List.Sublist.filter _ (List.take_sublist k l)).length_le
theorem rmv_all (l : List UInt8) (h : (rmvR l).length = l.length) : rmvR l = l := by
  unfold rmvR at *
  exact List.filter_eq_self.2 (List.length_filter_eq_length_iff.1 h)
theorem rmv_pre (l : List UInt8) (k : Nat) : ∃ r, rmvR l = rmvR (l.take k) ++ r := by
  refine ⟨rmvR (l.drop k), ?_⟩
  unfold rmvR; rw [← List.filter_append, List.take_append_drop]
end Pl

namespace Pl
set_option maxRecDepth 20000
theorem w_luh : luhR [55, 57, 57, 50, 55, 51, 57, 56, 55, 49] = (3, 0) := by decide
theorem w_mak : makR 2 17 = ([50, 48, 48, 48, 48, 48, 48, 48, 48, 48, 48, 49, 55, 48], 0) := by decide
theorem w_par : parB [50, 48, 48, 48, 48, 48, 48, 48, 48, 48, 48, 49, 55, 48] = (2, 17, 0) := by decide
theorem w_isa : isbR [48, 45, 51, 48, 54, 45, 52, 48, 54, 49, 53, 45, 50] = ([57, 55, 56, 48, 51, 48, 54, 52, 48, 54, 49, 53, 55], 0) := by decide
theorem w_isb : isbR [48, 56, 48, 52, 52, 50, 57, 53, 55, 88] = ([57, 55, 56, 48, 56, 48, 52, 52, 50, 57, 53, 55, 51], 0) := by decide
theorem w_isn : issnR [48, 51, 55, 56, 53, 57, 53, 53] = ([48, 51, 55, 56, 45, 53, 57, 53, 53], 0) := by decide
theorem w_par2 : parB [50, 48, 48, 48, 48, 48, 48, 48, 48, 48, 48, 49, 55, 51] = (0, 0, 5) := by decide
theorem w_isc : isbR [48, 56, 48, 52, 52, 50, 57, 53, 88] = ([], 3) := by decide
end Pl

set_option maxRecDepth 100000
set_option linter.unusedSimpArgs false
set_option linter.unusedVariables false
namespace Go.Proofs.YtjljjnipjhbeaaaGreatDoor
open Go Ab Pl
theorem barcode_digits (s : List UInt8) : ACalls E.P 23 [.str s] (.d (.bool (s.all isDig))) := by
  refine ACalls.intro E_ok Tryz.func23 rfl rfl Tryz.ntmps23 Tryz.results23 (Nat.le_of_ble_eq_true rfl) fun hok base S0 w0 => ?_
  have hl := Ok_str (hok (.str s) (by simp))
  -- region 0
  refine AWp.rseq E_ok [0, 2, 3, 7, 19] fun K hK => ?_
  simp
  repeat refine ⟨by first | omega | assumption | (simp only [maxLen]; omega) | (intros; omega) | decide, ?_⟩
  refine hK _ ?_
  clear hK K
  refine AWp.seq ?_
  -- region 1
  refine AWp.rseq E_ok [0, 2, 3, 7, 19] fun K hK => ?_
  simp
  repeat refine ⟨by first | omega | assumption | (simp only [maxLen]; omega) | (intros; omega) | decide, ?_⟩
  refine hK _ ?_
  clear hK K
  refine AWp.block ?_
  refine AWp.range (l := s) (F := digitsF) (tot := digitsF () s) (fun k y => match y with | () => True) (fun k y => match y with | () => [(0, T.val (D.str s)), (3, T.val (.int .i64 k))]) () ?_ rfl ?_ ?_
  · simp [Weak, TW]
  · first | exact trivial | (simp; omega) | simp
  rintro k ⟨⟩ hk hs hi
  try simp only at hi
  refine AWp.seq ?_
  -- region 2
  refine AWp.rseq E_ok [0, 2, 3, 7, 19] fun K hK => ?_
  simp
  repeat refine ⟨by first | omega | assumption | (simp only [maxLen]; omega) | (intros; omega) | decide, ?_⟩
  refine hK _ ?_
  clear hK K
  refine AWp.cond rfl (fun h7 => ?_) (fun h7 => ?_)
  · try simp at h7
    obtain ⟨x, hx, hxx, hd⟩ := at_indexG (l := s) h7
    rw [hd] at hs
    refine AWp.skip ?_
    repeat first | refine thenN ?_ | refine thenX ?_ | refine thenR ?_ | refine blockN ?_ | refine blockR ?_ | refine blockX ?_ | refine blockM rfl ?_
    refine AWp.seq ?_
    refine AWp.block ?_
    -- region 4
    refine AWp.rseq E_ok [0, 2, 3, 7, 19] fun K hK => ?_
    simp [h7, hx, hxx]
    repeat refine ⟨by first | omega | assumption | (simp only [maxLen]; omega) | (intros; omega) | decide, ?_⟩
    refine hK _ ?_
    clear hK K
    refine AWp.cond rfl (fun h19 => ?_) (fun h19 => ?_)
    · try simp at h19
      rw [digitsF, if_neg (by simp [isDig]; omega)] at hs
      -- region 5
      refine AWp.rseq E_ok [0, 2, 3, 7, 19] fun K hK => ?_
      simp [h7, hx, hxx]
      repeat refine ⟨by first | omega | assumption | (simp only [maxLen]; omega) | (intros; omega) | decide, ?_⟩
      refine hK _ ?_
      clear hK K
      refine AWp.ret ?_
      repeat first | refine thenN ?_ | refine thenX ?_ | refine thenR ?_ | refine blockN ?_ | refine blockR ?_ | refine blockX ?_ | refine blockM rfl ?_
      rw [digits_eq] at hs; simp [RetOk, RV, ← hs]
    · try simp at h19
      rw [digitsF, if_pos (by simp [isDig]; omega)] at hs
      refine AWp.skip ?_
      repeat first | refine thenN ?_ | refine thenX ?_ | refine thenR ?_ | refine blockN ?_ | refine blockR ?_ | refine blockX ?_ | refine blockM rfl ?_
      -- region 3
      refine AWp.rend E_ok [0, 2, 3, 7, 19] fun K hK => ?_
      simp [h7, hx, hxx]
      repeat refine ⟨by first | omega | assumption | (simp only [maxLen]; omega) | (intros; omega) | decide, ?_⟩
      refine hK _ ?_
      clear hK K
      repeat first | refine thenN ?_ | refine thenX ?_ | refine thenR ?_ | refine blockN ?_ | refine blockR ?_ | refine blockX ?_ | refine blockM rfl ?_
      have hw : IntKind.i64.wrap ((k : Int) + 1) = (k : Int) + 1 := by rw [wrap_i64] <;> omega
      skip
      refine ⟨_, h7, hs, ?_, ?_⟩
      · first | exact trivial | (simp; omega) | simp
      · simp [Weak, TW, hw]
  · try simp at h7
    obtain rfl : k = s.length := by omega
    simp [digitsF] at hs
    refine AWp.exit ?_
    repeat first | refine thenN ?_ | refine thenX ?_ | refine thenR ?_ | refine blockN ?_ | refine blockR ?_ | refine blockX ?_ | refine blockM rfl ?_
    -- region 6
    refine AWp.rseq E_ok [0, 2, 3, 7, 19] fun K hK => ?_
    simp [h7]
    repeat refine ⟨by first | omega | assumption | (simp only [maxLen]; omega) | (intros; omega) | decide, ?_⟩
    refine hK _ ?_
    clear hK K
    refine AWp.ret ?_
    repeat first | refine thenN ?_ | refine thenX ?_ | refine thenR ?_ | refine blockN ?_ | refine blockR ?_ | refine blockX ?_ | refine blockM rfl ?_
    rw [digits_eq] at hs; simp [RetOk, RV, ← hs]
end Go.Proofs.YtjljjnipjhbeaaaGreatDoor

set_option maxRecDepth 100000
set_option linter.unusedSimpArgs false
set_option linter.unusedVariables false
namespace Go.Proofs.YtjljjnipjhbeaaaGreatDoor
open Go Ab Pl
theorem barcode_Luhn (s : List UInt8) : ACalls E.P 13 [.str s] (.tup [.int .i64 (luhR s).1, .int .i64 (luhR s).2]) := by
  refine ACalls.intro E_ok Tryz.func13 rfl rfl Tryz.ntmps13 Tryz.results13 (Nat.le_of_ble_eq_true rfl) fun hok base S0 w0 => ?_
  have hl := Ok_str (hok (.str s) (by simp))
  -- region 0
  refine AWp.rseq E_ok [0, 2, 3, 4, 5, 6, 7, 20, 25, 33] fun K hK => ?_
  simp
  try simp (disch := omega) only [wrap_i64]
  repeat refine ⟨by first | omega | assumption | (simp only [maxLen]; omega) | (intros; omega) | decide, ?_⟩
  refine hK _ ?_
  clear hK K
  refine AWp.seq ?_
  -- region 1
  refine AWp.rseq E_ok [0, 2, 3, 4, 5, 6, 7, 20, 25, 33] fun K hK => ?_
  simp
  try simp (disch := omega) only [wrap_i64]
  repeat refine ⟨by first | omega | assumption | (simp only [maxLen]; omega) | (intros; omega) | decide, ?_⟩
  refine meet.of (barcode_digits s) ?_
  simp
  try simp (disch := omega) only [wrap_i64]
  repeat refine ⟨by first | omega | assumption | (simp only [maxLen]; omega) | (intros; omega) | decide, ?_⟩
  refine hK _ ?_
  clear hK K
  refine AWp.cond rfl (fun h20 => ?_) (fun h20 => ?_)
  · try simp at h20
    have hb : luhR s = (0, 3) := if_pos (by rcases h20 with (h | h) | h <;> first | exact .inl (by omega) | exact .inr (.inl (by omega)) | exact .inr (.inr (by simpa using h)))
    -- region 2
    refine AWp.rseq E_ok [0, 2, 3, 4, 5, 6, 7, 20, 25, 33] fun K hK => ?_
    simp
    try simp (disch := omega) only [wrap_i64]
    repeat refine ⟨by first | omega | assumption | (simp only [maxLen]; omega) | (intros; omega) | decide, ?_⟩
    refine hK _ ?_
    clear hK K
    refine AWp.ret ?_
    repeat first | refine thenN ?_ | refine thenX ?_ | refine thenR ?_ | refine blockN ?_ | refine blockR ?_ | refine blockX ?_ | refine blockM rfl ?_
    first | (simp [RetOk, RV, RVs, hb]; done) | (simp [RetOk, RV, RVs, hb, luhN, ← hs]; rw [t2]; omega)
  · try simp at h20
    have hall : s.all isDig = true := by simpa using h20.2
    have hlr : 1 ≤ s.length ∧ s.length ≤ 20 := by omega
    have hb : luhR s = (luhN s, 0) := if_neg (by rw [hall]; rintro (h | h | h) <;> first | omega | cases h)
    refine AWp.skip ?_
    repeat first | refine thenN ?_ | refine thenX ?_ | refine thenR ?_ | refine blockN ?_ | refine blockR ?_ | refine blockX ?_ | refine blockM rfl ?_
    -- region 3
    refine AWp.rseq E_ok [0, 2, 3, 4, 5, 6, 7, 20, 25, 33] fun K hK => ?_
    simp
    try simp (disch := omega) only [wrap_i64]
    repeat refine ⟨by first | omega | assumption | (simp only [maxLen]; omega) | (intros; omega) | decide, ?_⟩
    refine hK _ ?_
    clear hK K
    refine AWp.seq ?_
    -- region 4
    refine AWp.rseq E_ok [0, 2, 3, 4, 5, 6, 7, 20, 25, 33] fun K hK => ?_
    simp
    try simp (disch := omega) only [wrap_i64]
    repeat refine ⟨by first | omega | assumption | (simp only [maxLen]; omega) | (intros; omega) | decide, ?_⟩
    refine hK _ ?_
    clear hK K
    refine AWp.block ?_
    refine AWp.range (l := s.reverse) (F := luhF) (tot := luhF (true, 0) s.reverse) (fun k y => match y with | (t, c) => 0 ≤ c ∧ c ≤ 9 * (k : Int)) (fun k y => match y with | (t, c) => [(0, T.val (D.str s)), (4, T.val (.int .i64 c)), (5, T.val (.bool t)), (6, T.val (.int .i64 ((s.length : Int) - 1 - (k : Int))))]) (true, 0) ?_ rfl ?_ ?_
    · simp [Weak, TW]
    · simp
    rintro k ⟨t, c⟩ hk hs hi
    try simp only at hi
    refine AWp.seq ?_
    -- region 5
    refine AWp.rseq E_ok [0, 2, 3, 4, 5, 6, 7, 20, 25, 33] fun K hK => ?_
    simp
    try simp (disch := omega) only [wrap_i64]
    repeat refine ⟨by first | omega | assumption | (simp only [maxLen]; omega) | (intros; omega) | decide, ?_⟩
    refine hK _ ?_
    clear hK K
    refine AWp.cond rfl (fun h25 => ?_) (fun h25 => ?_)
    · try simp at h25
      have hlt : k < s.reverse.length := by rw [List.length_reverse]; omega
      obtain ⟨x, hx, hxx, hd⟩ := at_indexG (l := s.reverse) hlt
      rw [hd] at hs
      have hjk : s.length - 1 - k < s.length := by omega
      have hje : ((s.length : Int) - 1 - (k : Int)).toNat = s.length - 1 - k := by omega
      have hj1 : s[s.length - 1 - k]? = some x := by have := hx; rw [List.getElem?_reverse (by omega)] at this; exact this
      have hj2 : s[s.length - 1 - k]'hjk = x := (List.getElem?_eq_some_iff.1 hj1).2
      have hdx : isDig x = true := List.all_eq_true.1 hall x (List.mem_of_getElem? hj1)
      have hdr := dB_rng hdx
      have hdw := dB_wrap hdx
      have htr := twD_rng hdr
      have e0 : (2 * dB x).tdiv 10 = 2 * dB x / 10 := Int.tdiv_eq_ediv_of_nonneg (by omega)
      have e1 : (2 * dB x).tmod 10 = 2 * dB x % 10 := Int.tmod_eq_emod_of_nonneg (by omega)
      have e2 : (0 : Int) ≤ (s.length : Int) - 1 - (k : Int) := by omega
      have e3 : (s.length : Int) - 1 - (k : Int) < (s.length : Int) := by omega
      refine AWp.skip ?_
      repeat first | refine thenN ?_ | refine thenX ?_ | refine thenR ?_ | refine blockN ?_ | refine blockR ?_ | refine blockX ?_ | refine blockM rfl ?_
      refine AWp.seq ?_
      refine AWp.block ?_
      -- region 7
      refine AWp.rseq E_ok [0, 2, 3, 4, 5, 6, 7, 20, 25, 33] fun K hK => ?_
      simp [h25, hje, hj1, hj2, hdw, e0, e1, e2, e3, hx, hxx]
      try simp (disch := omega) only [wrap_i64]
      repeat refine ⟨by first | omega | assumption | (simp only [maxLen]; omega) | (intros; omega) | decide, ?_⟩
      refine hK _ ?_
      clear hK K
      refine AWp.seq ?_
      -- region 8
      refine AWp.rseq E_ok [0, 2, 3, 4, 5, 6, 7, 20, 25, 33] fun K hK => ?_
      simp [h25, hje, hj1, hj2, hdw, e0, e1, e2, e3, hx, hxx]
      try simp (disch := omega) only [wrap_i64]
      repeat refine ⟨by first | omega | assumption | (simp only [maxLen]; omega) | (intros; omega) | decide, ?_⟩
      refine hK _ ?_
      clear hK K
      refine AWp.cond rfl (fun h33 => ?_) (fun h33 => ?_)
      · try simp at h33
        obtain rfl : t = true := by simpa using h33
        rw [luhF, if_pos rfl] at hs
        -- region 9
        refine AWp.rend E_ok [0, 2, 3, 4, 5, 6, 7, 20, 25, 33] fun K hK => ?_
        simp [h25, hje, hj1, hj2, hdw, e0, e1, e2, e3, hx, hxx]
        try simp (disch := omega) only [wrap_i64]
        repeat refine ⟨by first | omega | assumption | (simp only [maxLen]; omega) | (intros; omega) | decide, ?_⟩
        refine hK _ ?_
        clear hK K
        repeat first | refine thenN ?_ | refine thenX ?_ | refine thenR ?_ | refine blockN ?_ | refine blockR ?_ | refine blockX ?_ | refine blockM rfl ?_
        -- region 10
        refine AWp.rseq E_ok [0, 2, 3, 4, 5, 6, 7, 20, 25, 33] fun K hK => ?_
        simp [h25, hje, hj1, hj2, hdw, e0, e1, e2, e3, hx, hxx]
        try simp (disch := omega) only [wrap_i64]
        repeat refine ⟨by first | omega | assumption | (simp only [maxLen]; omega) | (intros; omega) | decide, ?_⟩
        refine hK _ ?_
        clear hK K
        -- region 11
        refine AWp.rend E_ok [0, 2, 3, 4, 5, 6, 7, 20, 25, 33] fun K hK => ?_
        simp [h25, hje, hj1, hj2, hdw, e0, e1, e2, e3, hx, hxx]
        try simp (disch := omega) only [wrap_i64]
        repeat refine ⟨by first | omega | assumption | (simp only [maxLen]; omega) | (intros; omega) | decide, ?_⟩
        refine hK _ ?_
        clear hK K
        repeat first | refine thenN ?_ | refine thenX ?_ | refine thenR ?_ | refine blockN ?_ | refine blockR ?_ | refine blockX ?_ | refine blockM rfl ?_
        -- region 6
        refine AWp.rend E_ok [0, 2, 3, 4, 5, 6, 7, 20, 25, 33] fun K hK => ?_
        simp [h25, hje, hj1, hj2, hdw, e0, e1, e2, e3, hx, hxx]
        try simp (disch := omega) only [wrap_i64]
        repeat refine ⟨by first | omega | assumption | (simp only [maxLen]; omega) | (intros; omega) | decide, ?_⟩
        refine hK _ ?_
        clear hK K
        repeat first | refine thenN ?_ | refine thenX ?_ | refine thenR ?_ | refine blockN ?_ | refine blockR ?_ | refine blockX ?_ | refine blockM rfl ?_
        have hw : IntKind.i64.wrap ((k : Int) + 1) = (k : Int) + 1 := by rw [wrap_i64] <;> omega
        skip
        refine ⟨_, hlt, hs, ?_, ?_⟩
        · omega
        · simp [Weak, TW, hw, twD] <;> omega
      · try simp at h33
        obtain rfl : t = false := by simpa using h33
        rw [luhF, if_neg (by decide)] at hs
        refine AWp.skip ?_
        repeat first | refine thenN ?_ | refine thenX ?_ | refine thenR ?_ | refine blockN ?_ | refine blockR ?_ | refine blockX ?_ | refine blockM rfl ?_
        -- region 10
        refine AWp.rseq E_ok [0, 2, 3, 4, 5, 6, 7, 20, 25, 33] fun K hK => ?_
        simp [h25, hje, hj1, hj2, hdw, e0, e1, e2, e3, hx, hxx]
        try simp (disch := omega) only [wrap_i64]
        repeat refine ⟨by first | omega | assumption | (simp only [maxLen]; omega) | (intros; omega) | decide, ?_⟩
        refine hK _ ?_
        clear hK K
        -- region 11
        refine AWp.rend E_ok [0, 2, 3, 4, 5, 6, 7, 20, 25, 33] fun K hK => ?_
        simp [h25, hje, hj1, hj2, hdw, e0, e1, e2, e3, hx, hxx]
        try simp (disch := omega) only [wrap_i64]
        repeat refine ⟨by first | omega | assumption | (simp only [maxLen]; omega) | (intros; omega) | decide, ?_⟩
        refine hK _ ?_
        clear hK K
        repeat first | refine thenN ?_ | refine thenX ?_ | refine thenR ?_ | refine blockN ?_ | refine blockR ?_ | refine blockX ?_ | refine blockM rfl ?_
        -- region 6
        refine AWp.rend E_ok [0, 2, 3, 4, 5, 6, 7, 20, 25, 33] fun K hK => ?_
        simp [h25, hje, hj1, hj2, hdw, e0, e1, e2, e3, hx, hxx]
        try simp (disch := omega) only [wrap_i64]
        repeat refine ⟨by first | omega | assumption | (simp only [maxLen]; omega) | (intros; omega) | decide, ?_⟩
        refine hK _ ?_
        clear hK K
        repeat first | refine thenN ?_ | refine thenX ?_ | refine thenR ?_ | refine blockN ?_ | refine blockR ?_ | refine blockX ?_ | refine blockM rfl ?_
        have hw : IntKind.i64.wrap ((k : Int) + 1) = (k : Int) + 1 := by rw [wrap_i64] <;> omega
        skip
        refine ⟨_, hlt, hs, ?_, ?_⟩
        · omega
        · simp [Weak, TW, hw, twD] <;> omega
    · try simp at h25
      have t1 : c.tmod 10 = c % 10 := Int.tmod_eq_emod_of_nonneg (by omega)
      have t2 : (10 - c % 10).tmod 10 = (10 - c % 10) % 10 := Int.tmod_eq_emod_of_nonneg (by omega)
      obtain rfl : k = s.reverse.length := by rw [List.length_reverse] at hk ⊢; omega
      simp only [List.drop_length, luhF] at hs
      rw [List.length_reverse] at hi
      refine AWp.exit ?_
      repeat first | refine thenN ?_ | refine thenX ?_ | refine thenR ?_ | refine blockN ?_ | refine blockR ?_ | refine blockX ?_ | refine blockM rfl ?_
      -- region 12
      refine AWp.rseq E_ok [0, 2, 3, 4, 5, 6, 7, 20, 25, 33] fun K hK => ?_
      simp [h25, t1, t2]
      try simp (disch := omega) only [wrap_i64]
      repeat refine ⟨by first | omega | assumption | (simp only [maxLen]; omega) | (intros; omega) | decide, ?_⟩
      refine hK _ ?_
      clear hK K
      refine AWp.ret ?_
      repeat first | refine thenN ?_ | refine thenX ?_ | refine thenR ?_ | refine blockN ?_ | refine blockR ?_ | refine blockX ?_ | refine blockM rfl ?_
      first | (simp [RetOk, RV, RVs, hb]; done) | (simp [RetOk, RV, RVs, hb, luhN, ← hs]; rw [t2]; omega)
end Go.Proofs.YtjljjnipjhbeaaaGreatDoor
