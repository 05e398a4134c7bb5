/-
  What the functions compute that the statement reaches: contracts, and the plain laws between them. Conditions stand at each theorem.
-/
import Derived.Test.YtjljjnipjhbeaaaGreatDoorWalkOne
import Derived.Lib.ItoaLen
import Derived.Shelf.Strings.Builder1
import Derived.Shelf.Strings.Builder2
import Derived.Shelf.Strings.BuilderF
import Derived.Shelf.Strconv.Atoi
import Derived.Shelf.Strconv.Itoa0
import Derived.Shelf.Strconv.Itoa1
import Derived.Shelf.LaysM
import Derived.Shelf.Strconv.Itoa2
import Derived.Shelf.Strconv.Itoa3
import Derived.Shelf.Strings.Search1
import Derived.Shelf.Strings.Search2
import Derived.Shelf.Strings.Search3
import Derived.Shelf.Strings.Count
import Derived.Shelf.Strings.Shaped
import Derived.Shelf.Strings.Prefix
import Derived.Shelf.Bits.Mul64
import Derived.Shelf.Strings.Repeat
import Derived.Test.YtjljjnipjhbeaaaGreatDoorProg
set_option linter.unusedVariables false
set_option linter.unusedSimpArgs false
/- Patterns of serials: what Right asks. -/
namespace Pl
open Go Ab
set_option linter.unusedVariables false
set_option linter.unusedSimpArgs false
def badMo : Unit → List Int → Bool
  | _, [] => false
  | _, m :: l => if m < 1 ∨ 12 < m then true else badMo () l
def twMo : List Int → Bool
  | a :: b :: r => if b ≤ a then true else twMo (b :: r)
  | _ => false
def monR (l : List Int) : Int := if badMo () l = true then 2 else if twMo l = true then 7 else 0
theorem mon_bad {l : List Int} (h : badMo () l = true) : monR l = 2 := if_pos h
theorem mon_tw {l : List Int} (h : badMo () l = false) (h2 : twMo l = true) : monR l = 7 := by unfold monR; rw [if_neg (by rw [h]; decide), if_pos h2]
theorem mon_ok {l : List Int} (h : badMo () l = false) (h2 : twMo l = false) : monR l = 0 := by unfold monR; rw [if_neg (by rw [h]; decide), if_neg (by rw [h2]; decide)]
theorem tw_step {l : List Int} {j : Nat} {y x : Int} (hy : l[j]? = some y) (hx : l[j + 1]? = some x) : twMo (l.drop j) = if x ≤ y then true else twMo (l.drop (j + 1)) := by
  obtain ⟨h1, e1⟩ := List.getElem?_eq_some_iff.1 hy
  obtain ⟨h2, e2⟩ := List.getElem?_eq_some_iff.1 hx
  rw [List.drop_eq_getElem_cons h1, List.drop_eq_getElem_cons h2, e1, e2]
  rfl
theorem tw_end {l : List Int} {i : Nat} (h : l.length ≤ i) : twMo (l.drop (i - 1)) = false := by
  have hl : (l.drop (i - 1)).length ≤ 1 := by rw [List.length_drop]; omega
  match hd : l.drop (i - 1), hl with
  | [], _ => rfl
  | [a], _ => rfl
  | a :: b :: r, hl => simp at hl
theorem monR_rng (l : List Int) : 0 ≤ monR l ∧ monR l ≤ 7 := by unfold monR; split; omega; split <;> omega
/-- the error of a pattern -/
def patR (p : Pat) : Int :=
  if ((p.start < 0 ∨ 109572 < p.start) ∨ (p.per < 1 ∨ 366 < p.per)) ∨ (p.first < 1 ∨ 9999 < p.first) then 2
  else if p.every < 1 ∨ 4 < p.every then 1
  else if ¬ monR p.skip = 0 then monR p.skip
  else if ¬ monR p.dbl = 0 then monR p.dbl
  else if (p.skip.length = 12 ∨ (0 < p.skip.length ∧ 3 ≤ p.every)) ∨ (0 < p.dbl.length ∧ ¬ p.every = 2) then 1
  else if (p.dbl.any fun m => p.skip.contains m) = true then 1 else 0
def anyMo (s : List Int) : Unit → List Int → Bool
  | _, [] => false
  | _, m :: l => if s.contains m = true then true else anyMo s () l
theorem anyMo_eq (s : List Int) : ∀ l : List Int, anyMo s () l = l.any fun m => s.contains m
  | [] => rfl
  | m :: l => by
    rw [anyMo, List.any_cons, anyMo_eq s l]
    cases s.contains m <;> simp
def shortP (p : Pat) : Bool := decide (p.skip.length ≤ 20) && decide (p.dbl.length ≤ 20)
theorem patR_rng (p : Pat) : 0 ≤ patR p ∧ patR p ≤ 7 := by
  have h1 := monR_rng p.skip
  have h2 := monR_rng p.dbl
  unfold patR
  repeat' split
  all_goals omega
theorem patR_1 (p : Pat) : (-9223372036854775808 ≤ patR p) = True := eq_true (by have := patR_rng p; omega)
theorem patR_2 (p : Pat) : (patR p ≤ 9223372036854775807) = True := eq_true (by have := patR_rng p; omega)
theorem patR_ok {p : Pat} (h : patR p = 0) : PatOk p := by
  unfold patR at h
  split at h
  · omega
  · split at h
    · omega
    · unfold PatOk; omega
end Pl

/- Patterns of serials: labels. -/
namespace Pl
open Go Ab
set_option linter.unusedVariables false
set_option linter.unusedSimpArgs false
theorem itoa_sign {n : Int} (h : n < 0) : Go.Lib.itoa n = 45 :: Go.Lib.itoa (-n) := by
  unfold Go.Lib.itoa
  rw [if_pos h, if_neg (by omega), show n.natAbs = (-n).toNat by omega]
theorem digC_mod (n : Int) : digC (n % 10) = digC n := by unfold digC; rw [show n % 10 % 10 = n % 10 by omega]
/-- what is left of a number, and its digits so far -/
def DigI (n x : Int) (o : List UInt8) : Prop := (0 ≤ x ∧ x ≤ n) ∧ ((o = [] ∧ x = n) ∨ (¬ o = [] ∧ (if x = 0 then [] else Go.Lib.itoa x) ++ o = Go.Lib.itoa n))
theorem DigI.start {n : Int} (h : 0 ≤ n) : DigI n n [] := ⟨⟨h, Int.le_refl _⟩, .inl ⟨rfl, rfl⟩⟩
theorem DigI.step {n x : Int} {o : List UInt8} (h : DigI n x o) (hc : 0 < x ∨ o = []) : DigI n (x / 10) (digC x :: o) := by
  obtain ⟨⟨h0, h1⟩, h⟩ := h
  refine ⟨⟨by omega, by omega⟩, .inr ⟨by simp, ?_⟩⟩
  have key : (if x / 10 = 0 then [] else Go.Lib.itoa (x / 10)) ++ [digC x] = Go.Lib.itoa x := by
    by_cases hx : x < 10
    · rw [if_pos (by omega), itoa_small h0 hx]; rfl
    · rw [if_neg (by omega), itoa_big (n := x) (by omega)]
  have e : (if x / 10 = 0 then [] else Go.Lib.itoa (x / 10)) ++ digC x :: o = Go.Lib.itoa x ++ o := by rw [← key]; simp
  rw [e]
  rcases h with ⟨ho, hx⟩ | ⟨ho, hx⟩
  · rw [ho, hx]; simp
  · have : ¬ x = 0 := by rcases hc with hc | hc <;> first | omega | exact absurd hc ho
    rw [if_neg this] at hx
    exact hx
theorem DigI.done {n x : Int} {o : List UInt8} (h : DigI n x o) (hx : x ≤ 0) (ho : ¬ o = []) : o = Go.Lib.itoa n := by
  obtain ⟨⟨h0, h1⟩, h⟩ := h
  rcases h with ⟨h, _⟩ | ⟨_, h⟩
  · exact absurd h ho
  · rw [if_pos (by omega)] at h; exact h
theorem DigI.len {n x : Int} {o : List UInt8} (h : DigI n x o) (hn : n ≤ 9223372036854775807) : o.length ≤ 21 := by
  obtain ⟨⟨h0, h1⟩, h⟩ := h
  have := Go.Lib.itoa_length_le n (by omega) hn
  rcases h with ⟨h, _⟩ | ⟨_, h⟩
  · rw [h]; simp
  · rw [← h, List.length_append] at this; omega
theorem dig_cut {x : Int} (h : 0 ≤ x) : List.drop (x % 10).toNat (List.take ((x % 10).toNat + 1) [48, 49, 50, 51, 52, 53, 54, 55, 56, 57]) = [digC x] := by
  rw [← digC_mod x]
  have : x % 10 = 0 ∨ x % 10 = 1 ∨ x % 10 = 2 ∨ x % 10 = 3 ∨ x % 10 = 4 ∨ x % 10 = 5 ∨ x % 10 = 6 ∨ x % 10 = 7 ∨ x % 10 = 8 ∨ x % 10 = 9 := by omega
  rcases this with h | h | h | h | h | h | h | h | h | h <;> rw [h] <;> rfl
theorem dig_cut2 {x : Int} (h : 0 ≤ x) : List.drop (x % 10).toNat (48 :: List.take (x % 10).toNat [49, 50, 51, 52, 53, 54, 55, 56, 57]) = [digC x] := dig_cut h
theorem tdiv_neg10 (n : Int) (h : n < 0) : n.tdiv 10 = -((-n) / 10) := by
  rw [← Int.tdiv_eq_ediv_of_nonneg (show 0 ≤ -n by omega), Int.neg_tdiv, Int.neg_neg]
theorem tmod_neg10 (n : Int) (h : n < 0) : n.tmod 10 = -((-n) % 10) := by
  rw [← Int.tmod_eq_emod_of_nonneg (show 0 ≤ -n by omega), Int.neg_tmod, Int.neg_neg]
theorem sign_one {n : Int} (h : n < 0) (hq : -(n.tdiv 10) = 0) : 45 :: Go.Lib.itoa (-(n.tmod 10)) = Go.Lib.itoa n := by
  rw [itoa_sign h]
  have e1 := tdiv_neg10 n h
  have e2 := tmod_neg10 n h
  have e : n.tmod 10 = n := by omega
  rw [e]
theorem sign_two {n : Int} (h : n < 0) (hq : ¬ -(n.tdiv 10) = 0) : 45 :: (Go.Lib.itoa (-(n.tdiv 10)) ++ Go.Lib.itoa (-(n.tmod 10))) = Go.Lib.itoa n := by
  have e1 := tdiv_neg10 n h
  have e2 := tmod_neg10 n h
  rw [itoa_sign h, itoa_big (n := -n) (by omega)]
  rw [show -(n.tdiv 10) = -n / 10 by omega, show -(n.tmod 10) = -n % 10 by omega, itoa_small (n := -n % 10) (by omega) (by omega), digC_mod]
def labelR (x : Iss) : List UInt8 := [118, 46] ++ Go.Lib.itoa x.vol ++ [32, 110, 111, 46] ++ Go.Lib.itoa x.num ++ (if x.last = 0 then [] else 45 :: Go.Lib.itoa x.last)
theorem lab_len {x : Iss} (h1 : -9223372036854775808 ≤ x.vol ∧ x.vol ≤ 9223372036854775807) (h2 : -9223372036854775808 ≤ x.num ∧ x.num ≤ 9223372036854775807) (h3 : -9223372036854775808 ≤ x.last ∧ x.last ≤ 9223372036854775807) : (labelR x).length ≤ maxLen := by
  have a := Go.Lib.itoa_length_le x.vol h1.1 h1.2
  have b := Go.Lib.itoa_length_le x.num h2.1 h2.2
  have c := Go.Lib.itoa_length_le x.last h3.1 h3.2
  unfold labelR
  simp only [List.length_append, maxLen]
  split
  · simp; omega
  · simp; omega
end Pl

/- Numbers with check digits: what the functions compute. -/
namespace Pl
open Go Ab
set_option linter.unusedVariables false
set_option linter.unusedSimpArgs false
theorem nat_u8 {x y : UInt8} (h : (x.toNat : Int) = (y.toNat : Int)) : x = y := UInt8.toNat_inj.1 (by omega)
/-- the value of a digit -/
def dB (b : UInt8) : Int := (b.toNat : Int) - 48
theorem dB_rng {b : UInt8} (h : isDig b = true) : 0 ≤ dB b ∧ dB b ≤ 9 := by
  unfold isDig at h; unfold dB; simp at h; omega
theorem dB_wrap {b : UInt8} (h : isDig b = true) : IntKind.u8.wrap ((b.toNat : Int) - 48) = dB b := by
  have := dB_rng h; unfold dB at this ⊢; rw [IntKind.wrap_u8]; omega
theorem dB_digC (n : Int) : dB (digC n) = n % 10 := by
  unfold dB; rw [digC_val]; omega
theorem digC_dB {b : UInt8} (h : isDig b = true) : digC (dB b) = b := by
  have hr := dB_rng h
  unfold dB at hr
  apply UInt8.toNat_inj.1
  rw [digC_val]; unfold dB; omega
/-- the digit sum of the double -/
def twD (d : Int) : Int := 2 * d / 10 + 2 * d % 10
def luhF : Bool × Int → List UInt8 → Int
  | (_, c), [] => c
  | (t, c), b :: l => luhF (!t, c + if t = true then twD (dB b) else dB b) l
theorem twD_rng {d : Int} (h : 0 ≤ d ∧ d ≤ 9) : 0 ≤ twD d ∧ twD d ≤ 9 := by
  obtain ⟨h0, h1⟩ := h
  unfold twD
  have : d = 0 ∨ d = 1 ∨ d = 2 ∨ d = 3 ∨ d = 4 ∨ d = 5 ∨ d = 6 ∨ d = 7 ∨ d = 8 ∨ d = 9 := by omega
  rcases this with rfl | rfl | rfl | rfl | rfl | rfl | rfl | rfl | rfl | rfl <;> decide
theorem luhF_add : ∀ (l : List UInt8) (t : Bool) (c : Int), luhF (t, c) l = c + luhF (t, 0) l
  | [], t, c => by simp [luhF]
  | b :: l, t, c => by
    unfold luhF
    rw [luhF_add l _ (c + _), luhF_add l _ (0 + _)]; omega
theorem luhF_rng : ∀ (l : List UInt8) (t : Bool), l.all isDig = true → 0 ≤ luhF (t, 0) l ∧ luhF (t, 0) l ≤ 9 * (l.length : Int)
  | [], t, _ => by simp [luhF]
  | b :: l, t, h => by
    simp only [List.all_cons, Bool.and_eq_true] at h
    have hb := dB_rng h.1
    have ht := twD_rng hb
    have ih := luhF_rng l (!t) h.2
    unfold luhF
    rw [luhF_add]
    simp only [List.length_cons]
    split <;> omega
/-- the check digit of digits -/
def luhN (s : List UInt8) : Int := (10 - luhF (true, 0) s.reverse % 10) % 10
theorem luhN_rng (s : List UInt8) : 0 ≤ luhN s ∧ luhN s ≤ 9 := by unfold luhN; omega
def luhR (s : List UInt8) : Int × Int := if s.length < 1 ∨ 20 < s.length ∨ s.all isDig = false then (0, 3) else (luhN s, 0)
def makR (k n : Int) : List UInt8 × Int :=
  if ¬ k = 2 ∧ ¬ k = 3 then ([], 1) else if n < 0 ∨ 9999 < n then ([], 2) else (digC k :: digD n 12 ++ [digC (luhN (digC k :: digD n 12))], 0)
def parB (s : List UInt8) : Int × Int × Int :=
  if ¬ s.length = 14 ∨ s.all isDig = false ∨ ¬ (s.getD 0 0 = 50 ∨ s.getD 0 0 = 51) then (0, 0, 3)
  else if ¬ luhN (s.take 13) = dB (s.getD 13 0) then (0, 0, 5)
  else if 9999 < valF 0 ((s.take 13).drop 1) then (0, 0, 2) else (dB (s.getD 0 0), valF 0 ((s.take 13).drop 1), 0)
/-- without hyphens and blanks -/
def rmvF : List UInt8 → List UInt8 → List UInt8
  | o, [] => o
  | o, b :: l => if b = 45 ∨ b = 32 then rmvF o l else rmvF (o ++ [b]) l
def rmvR (s : List UInt8) : List UInt8 := s.filter fun b => !(b == 45 || b == 32)
theorem rmvF_eq : ∀ (l o : List UInt8), rmvF o l = o ++ rmvR l
  | [], o => by simp [rmvF, rmvR]
  | b :: l, o => by
    unfold rmvF rmvR
    by_cases h : b = 45 ∨ b = 32
    · rw [if_pos h, rmvF_eq l, List.filter_cons, if_neg (by rcases h with rfl | rfl <;> decide)]; rfl
    · rw [if_neg h, rmvF_eq l, List.filter_cons, if_pos (by simp only [not_or] at h; simp [h.1, h.2])]; simp [rmvR]
theorem rmvR_len (s : List UInt8) : (rmvR s).length ≤ s.length := List.length_filter_le _ _
/-- digits, of which the last one can be X (88) -/
def endB : List UInt8 → Bool
  | [] => false
  | [b] => isDig b || b == 88
  | b :: c :: l => isDig b && endB (c :: l)
/-- the weighted sum of what is left; 'n': the weight of the next one -/
def dX (b : UInt8) : Int := if b = 88 then 10 else dB b
def wgtF : Int → List UInt8 → Int
  | c, [] => c
  | c, b :: l => wgtF (c + dX b * ((l.length : Int) + 1)) l
/-- the same, as long as it goes well -/
def wtF : Int → List UInt8 → Option Int
  | c, [] => some c
  | c, b :: l => if l = [] ∧ b = 88 then wtF (c + 10 * ((l.length : Int) + 1)) l else if isDig b = true then wtF (c + dB b * ((l.length : Int) + 1)) l else none
theorem dig88 : isDig 88 = false := by decide
theorem wt_end : ∀ (l : List UInt8) (c : Int), l ≠ [] → wtF c l = if endB l = true then some (wgtF c l) else none
  | [], c, h => absurd rfl h
  | [b], c, _ => by
    simp only [wtF, endB, wgtF]
    by_cases h : b = 88
    · subst h; simp [dX]
    · by_cases hd : isDig b = true
      · simp [h, hd, dX]
      · simp [h, hd]
  | b :: d :: l, c, _ => by
    rw [wtF, if_neg (by rintro ⟨h, _⟩; cases h)]
    by_cases hd : isDig b = true
    · have h88 : ¬ b = 88 := fun e => by subst e; rw [dig88] at hd; cases hd
      rw [if_pos hd, wt_end (d :: l) _ (by simp)]
      rw [show endB (b :: d :: l) = endB (d :: l) by simp [endB, hd]]
      congr 2
      show _ = wgtF (c + dX b * _) (d :: l)
      rw [dX, if_neg h88]
    · rw [if_neg hd, if_neg (by simp [endB, hd])]
theorem endB_mem : ∀ {s : List UInt8}, endB s = true → ∀ {x : UInt8}, x ∈ s → isDig x = true ∨ x = 88
  | [b], h, x, hx => by
    simp only [endB, Bool.or_eq_true, beq_iff_eq] at h
    simp at hx; subst hx; exact h
  | b :: c :: l, h, x, hx => by
    simp only [endB, Bool.and_eq_true] at h
    rcases List.mem_cons.1 hx with rfl | hx
    · exact .inl h.1
    · exact endB_mem h.2 hx
def wgtR (s : List UInt8) : Int := wgtF 0 s
theorem wgtF_add : ∀ (l : List UInt8) (c : Int), wgtF c l = c + wgtF 0 l
  | [], c => by simp [wgtF]
  | b :: l, c => by unfold wgtF; rw [wgtF_add l (c + _), wgtF_add l (0 + _)]; omega
/-- a byte less 48, as a byte -/
def dW (b : UInt8) : Int := ((b.toNat : Int) - 48) % 256
theorem dW_rng (b : UInt8) : 0 ≤ dW b ∧ dW b ≤ 255 := by unfold dW; omega
theorem dW_dB {b : UInt8} (h : isDig b = true) : dW b = dB b := by have := dB_rng h; unfold dB at this; unfold dW dB; omega
theorem dW_wrap (b : UInt8) : IntKind.u8.wrap ((b.toNat : Int) - 48) = dW b := by rw [IntKind.wrap_u8]; rfl
def altF : Bool × Int → List UInt8 → Int
  | (_, c), [] => c
  | (t, c), b :: l => altF (!t, c + if t = true then 3 * dW b else dW b) l
def altR (s : List UInt8) : Int := altF (false, 0) s
theorem altF_add : ∀ (l : List UInt8) (t : Bool) (c : Int), altF (t, c) l = c + altF (t, 0) l
  | [], t, c => by simp [altF]
  | b :: l, t, c => by
    unfold altF
    rw [altF_add l _ (c + _), altF_add l _ (0 + _)]; omega
theorem altF_rng : ∀ (l : List UInt8) (t : Bool), 0 ≤ altF (t, 0) l ∧ altF (t, 0) l ≤ 765 * (l.length : Int)
  | [], t => by simp [altF]
  | b :: l, t => by
    have hb := dW_rng b
    have ih := altF_rng l (!t)
    unfold altF
    rw [altF_add]
    simp only [List.length_cons]
    split <;> omega
def p978 : List UInt8 := [57, 55, 56]
def p979 : List UInt8 := [57, 55, 57]
/-- a book number out of a text without hyphens and blanks -/
def isbT (t : List UInt8) : List UInt8 × Int :=
  if t.length = 10 then
    if endB t = false then ([], 3) else if ¬ wgtR t % 11 = 0 then ([], 5)
    else (p978 ++ t.take 9 ++ [digC ((10 - altR (p978 ++ t.take 9) % 10) % 10)], 0)
  else if t.length = 13 then
    if t.all isDig = false ∨ ¬ (t.take 3 = p978 ∨ t.take 3 = p979) then ([], 3) else if ¬ altR t % 10 = 0 then ([], 5) else (t, 0)
  else ([], 3)
def isbR (s : List UInt8) : List UInt8 × Int := isbT (rmvR s)
def issT (s : List UInt8) : List UInt8 := if s.length = 9 ∧ s.getD 4 0 = 45 then s.take 4 ++ s.drop 5 else s
def issnR (s : List UInt8) : List UInt8 × Int :=
  if ¬ (issT s).length = 8 ∨ endB (issT s) = false then ([], 3) else if ¬ wgtR (issT s) % 11 = 0 then ([], 5)
  else ((issT s).take 4 ++ [45] ++ (issT s).drop 4, 0)
end Pl

/- Numbers with check digits: what comes back, and what is found out. -/
namespace Pl
open Go Ab
set_option linter.unusedVariables false
set_option linter.unusedSimpArgs false
theorem digD_valF : ∀ (w : Nat) (l : List UInt8), l.length = w → l.all isDig = true → digD (valF 0 l) w = l ∧ 0 ≤ valF 0 l
  | 0, l, hl, _ => by rw [List.length_eq_zero_iff.1 hl]; exact ⟨rfl, by simp [valF]⟩
  | w + 1, l, hl, hd => by
    rcases List.eq_nil_or_concat l with rfl | ⟨l0, b, rfl⟩
    · simp at hl
    · simp only [List.concat_eq_append] at hl hd ⊢
      simp only [List.all_append, Bool.and_eq_true, List.all_cons, List.all_nil, Bool.and_true] at hd
      have hw : l0.length = w := by simpa using hl
      obtain ⟨h1, h2⟩ := digD_valF w l0 hw hd.1
      have hb := dB_rng hd.2
      have e : ((b.toNat : Int) - 48) = dB b := rfl
      rw [valF_app, e]
      refine ⟨?_, by omega⟩
      rw [digD, show (10 * valF 0 l0 + dB b) / 10 = valF 0 l0 by omega, h1]
      have : digC (10 * valF 0 l0 + dB b) = digC (dB b) := by unfold digC; rw [show (10 * valF 0 l0 + dB b) % 10 = dB b % 10 by omega]
      rw [this, digC_dB hd.2]
theorem wgtF_nn : ∀ (l : List UInt8), endB l = true → 0 ≤ wgtF 0 l ∧ wgtF 0 l ≤ 10 * ((l.length : Int) * l.length)
  | [b], h => by
    simp only [endB, Bool.or_eq_true, beq_iff_eq] at h
    have : 0 ≤ dX b ∧ dX b ≤ 10 := by
      unfold dX
      rcases h with h | h
      · have := dB_rng h; split <;> omega
      · rw [if_pos h]; decide
    simp [wgtF]; omega
  | b :: c :: l, h => by
    simp only [endB, Bool.and_eq_true] at h
    obtain ⟨h1, h2⟩ := wgtF_nn (c :: l) h.2
    have hd := dB_rng h.1
    have hx : dX b = dB b := if_neg fun e => by subst e; rw [dig88] at h; cases h.1
    rw [wgtF, wgtF_add, hx]
    simp only [List.length_cons] at h1 h2 ⊢
    generalize hn : ((l.length + 1 : Nat) : Int) = n at *
    have hn0 : 0 ≤ n := by omega
    have e : ((l.length + 1 + 1 : Nat) : Int) = n + 1 := by omega
    rw [e]
    have h3 : 0 ≤ dB b * (n + 1) := Int.mul_nonneg hd.1 (by omega)
    have h4 : dB b * (n + 1) ≤ 9 * (n + 1) := Int.mul_le_mul_of_nonneg_right hd.2 (by omega)
    have h5 : (n + 1) * (n + 1) = n * n + 2 * n + 1 := by rw [Int.add_mul, Int.mul_add]; omega
    rw [h5]
    refine ⟨by omega, by omega⟩
theorem wgt_nn {l : List UInt8} (h : endB l = true) : 0 ≤ wgtR l := (wgtF_nn l h).1
theorem wgt_big {l : List UInt8} (h : endB l = true) : wgtR l ≤ 10 * ((l.length : Int) * l.length) := (wgtF_nn l h).2
theorem isbT_13 {u : List UInt8} (h : u.length = 13 ∧ u.all isDig = true ∧ (u.take 3 = p978 ∨ u.take 3 = p979)) : isbT u = if ¬ altR u % 10 = 0 then ([], 5) else (u, 0) := by
  unfold isbT
  rw [if_neg (by omega), if_pos h.1, if_neg (by rw [h.2.1]; rintro (e | e); cases e; exact e h.2.2)]
theorem isbT_10 {u : List UInt8} (h : u.length = 10) (he : endB u = true) : isbT u = if ¬ wgtR u % 11 = 0 then ([], 5) else (p978 ++ u.take 9 ++ [digC ((10 - altR (p978 ++ u.take 9) % 10) % 10)], 0) := by
  unfold isbT
  rw [if_pos h, if_neg (by rw [he]; decide)]
theorem isbT_no {u : List UInt8} (h : (u.length : Int) = 13 → (∀ x, x ∈ u → isDig x = true) → ¬ u.take 3 = p978 ∧ ¬ u.take 3 = p979) (h2 : ¬ u.length = 10 ∨ endB u = false) : isbT u = ([], 3) := by
  unfold isbT
  split
  · rename_i h10
    rw [if_pos (h2.resolve_left (fun e => e h10))]
  · split
    · rename_i h13
      rw [if_pos]
      cases hd : u.all isDig with
      | false => exact .inl rfl
      | true =>
        have := h (by omega) (List.all_eq_true.1 hd)
        exact .inr (by rintro (e | e); exact this.1 e; exact this.2 e)
    · rfl
/-- the sum that must end in 0 -/
def sumV (s : List UInt8) : Int := luhF (false, 0) s.reverse
theorem luh_valid {s : List UInt8} (hl : s.length = 14) (hd : s.all isDig = true) : luhN (s.take 13) = dB (s.getD 13 0) ↔ sumV s % 10 = 0 := by
  have h13 : 13 < s.length := by omega
  have hs : s = s.take 13 ++ [s[13]] := by
    have := List.take_append_drop 13 s
    rw [List.drop_eq_getElem_cons h13, show 13 + 1 = 14 from rfl, List.drop_of_length_le (by omega)] at this
    exact this.symm
  have hg : s.getD 13 0 = s[13] := by rw [List.getD_eq_getElem?_getD, List.getElem?_eq_getElem h13]; rfl
  have hb : isDig s[13] = true := List.all_eq_true.1 hd _ (List.getElem_mem h13)
  have hr := dB_rng hb
  have ht : (s.take 13).all isDig = true := by
    rw [List.all_eq_true] at hd ⊢
    exact fun x hx => hd x (List.mem_of_mem_take hx)
  have hlr := luhF_rng (s.take 13).reverse true (by rw [List.all_reverse]; exact ht)
  have e : sumV s = dB s[13] + luhF (true, 0) (s.take 13).reverse := by
    unfold sumV
    conv => lhs; rw [hs]
    rw [List.reverse_append, List.reverse_singleton, List.singleton_append, luhF, luhF_add]
    simp
  rw [hg, e]
  unfold luhN
  omega
theorem u8_88 (b : UInt8) : ((b.toNat : Int) == 88) = (b == 88) := by
  rw [Bool.eq_iff_iff]; simp only [beq_iff_eq]
  exact ⟨fun h => nat_u8 (y := 88) h, fun h => by subst h; rfl⟩
theorem endB_concat : ∀ (l : List UInt8) (b : UInt8), endB (l ++ [b]) = (l.all isDig && (isDig b || b == 88))
  | [], b => by simp [endB]
  | [x], b => by simp [endB]
  | x :: y :: l, b => by
    rw [List.cons_append, List.cons_append, endB, ← List.cons_append, endB_concat (y :: l) b]; simp only [List.all_cons, Bool.and_assoc]
theorem pow_le : ∀ k : Nat, k ≤ 11 → (1 : Int) ≤ 10 ^ k ∧ (10 : Int) ^ k ≤ 100000000000 := by
  intro k hk
  have : ∀ i : Fin 12, (1 : Int) ≤ 10 ^ i.val ∧ (10 : Int) ^ i.val ≤ 100000000000 := by decide
  exact this ⟨k, by omega⟩
theorem parB_pre {s : List UInt8} (hL : s.length = 14) (hall : s.all isDig = true) (h0 : s.getD 0 0 = 50 ∨ s.getD 0 0 = 51) :
    ((s.take 13).drop 1) ≠ [] ∧ ((s.take 13).drop 1).all isDig = true ∧ luhR (s.take 13) = (luhN (s.take 13), 0) ∧
      parB s = if ¬ luhN (s.take 13) = dB (s.getD 13 0) then (0, 0, 5) else if 9999 < valF 0 ((s.take 13).drop 1) then (0, 0, 2) else (dB (s.getD 0 0), valF 0 ((s.take 13).drop 1), 0) := by
  have ht : (s.take 13).all isDig = true := List.all_eq_true.2 fun x hx => List.all_eq_true.1 hall x (List.mem_of_mem_take hx)
  refine ⟨fun e => by have := congrArg List.length e; simp at this; omega, List.all_eq_true.2 fun x hx => List.all_eq_true.1 ht x (List.mem_of_mem_drop hx), if_neg (by rw [ht, show (s.take 13).length = 13 by rw [List.length_take]; omega]; decide), ?_⟩
  unfold parB
  rw [if_neg (by rw [hall, hL]; rintro (h | h | h); exact h rfl; cases h; exact h h0)]
theorem par_no {s : List UInt8} {b : UInt8} (hg : s.getD 0 0 = b) (h : (∃ x, x ∈ s ∧ isDig x = false) ∨ ¬ (b.toNat : Int) = 50 ∧ ¬ (b.toNat : Int) = 51) : parB s = (0, 0, 3) := by
  refine if_pos (.inr ?_)
  rw [hg]
  rcases h with ⟨x, hx, hd⟩ | h
  · left
    cases ha : s.all isDig with
    | false => rfl
    | true => have := List.all_eq_true.1 ha x hx; rw [hd] at this; cases this
  · exact .inr fun e => e.elim (fun e => h.1 (by rw [e]; rfl)) (fun e => h.2 (by rw [e]; rfl))
theorem parB_ok {s : List UInt8} (h : (parB s).2.2 = 0) : s.length = 14 ∧ s.all isDig = true ∧ (s.getD 0 0 = 50 ∨ s.getD 0 0 = 51) ∧ luhN (s.take 13) = dB (s.getD 13 0) ∧ valF 0 ((s.take 13).drop 1) ≤ 9999 ∧ parB s = (dB (s.getD 0 0), valF 0 ((s.take 13).drop 1), 0) := by
  unfold parB at h ⊢
  split at h; · cases h
  rename_i h1; rw [if_neg h1]
  split at h; · cases h
  rename_i h2; rw [if_neg h2]
  split at h; · cases h
  rename_i h3; rw [if_neg h3]
  rw [not_or, not_or] at h1
  exact ⟨Decidable.not_not.1 h1.1, by simpa using h1.2.1, Decidable.not_not.1 h1.2.2, Decidable.not_not.1 h2, by omega, rfl⟩
theorem mak_ok {k n : Int} (h : (makR k n).2 = 0) : (k = 2 ∨ k = 3) ∧ (0 ≤ n ∧ n ≤ 9999) ∧ makR k n = (digC k :: digD n 12 ++ [digC (luhN (digC k :: digD n 12))], 0) := by
  unfold makR at h ⊢
  split at h; · cases h
  rename_i h1; rw [if_neg h1]
  split at h; · cases h
  rename_i h2; rw [if_neg h2]
  exact ⟨by omega, by omega, rfl⟩
theorem mak_len {k n : Int} : (digC k :: digD n 12 ++ [digC (luhN (digC k :: digD n 12))]).length = 14 := by simp [digD_len]
theorem mak_dig {k n : Int} : (digC k :: digD n 12 ++ [digC (luhN (digC k :: digD n 12))]).all isDig = true := by
  rw [List.all_append, List.all_cons, digC_dig, digD_dig]; simp [digC_dig, -List.all_eq_true]
theorem mak_take {k n : Int} : (digC k :: digD n 12 ++ [digC (luhN (digC k :: digD n 12))]).take 13 = digC k :: digD n 12 := by
  rw [List.take_append_of_le_length (by simp [digD_len]), List.take_of_length_le (by simp [digD_len])]
theorem mak_last {k n : Int} : (digC k :: digD n 12 ++ [digC (luhN (digC k :: digD n 12))]).getD 13 0 = digC (luhN (digC k :: digD n 12)) := by
  rw [List.getD_eq_getElem?_getD, List.getElem?_append_right (by simp [digD_len])]; simp [digD_len]
theorem par_mak {k n : Int} (h : (makR k n).2 = 0) : parB (makR k n).1 = (k, n, 0) := by
  obtain ⟨hk, hn, e⟩ := mak_ok h
  rw [e]
  show parB (digC k :: digD n 12 ++ [digC (luhN (digC k :: digD n 12))]) = _
  have h0 : (digC k :: digD n 12 ++ [digC (luhN (digC k :: digD n 12))]).getD 0 0 = digC k := rfl
  have hv : valF 0 (digD n 12) = n := digD_val 12 n (by omega) (by omega)
  have hr := luhN_rng (digC k :: digD n 12)
  unfold parB
  rw [if_neg, if_neg, if_neg]
  · rw [h0, mak_take, List.drop_one, List.tail_cons, hv, dB_digC, show k % 10 = k by omega]
  · rw [mak_take, List.drop_one, List.tail_cons, hv]; omega
  · rw [mak_take, mak_last, dB_digC]; omega
  · rw [mak_len, mak_dig, h0]
    rcases hk with rfl | rfl
    · simp only [not_true_eq_false, false_or]; decide
    · simp only [not_true_eq_false, false_or]; decide
theorem mak_par {s : List UInt8} (h : (parB s).2.2 = 0) : makR (parB s).1 (parB s).2.1 = (s, 0) := by
  obtain ⟨hl, hd, h0, hc, hn, e⟩ := parB_ok h
  rw [e]
  show makR (dB (s.getD 0 0)) (valF 0 ((s.take 13).drop 1)) = _
  match s, hl with
  | b :: l, hl =>
    have hl' : l.length = 13 := by simpa using hl
    have e0 : (b :: l).getD 0 0 = b := rfl
    rw [e0] at h0 ⊢
    have et : ((b :: l).take 13).drop 1 = l.take 12 := rfl
    rw [et] at hn ⊢
    simp only [List.all_cons, Bool.and_eq_true] at hd
    have hm : (l.take 12).all isDig = true := List.all_eq_true.2 fun x hx => List.all_eq_true.1 hd.2 x (List.mem_of_mem_take hx)
    obtain ⟨v1, v2⟩ := digD_valF 12 (l.take 12) (by rw [List.length_take]; omega) hm
    unfold makR
    have hk : dB b = 2 ∨ dB b = 3 := by rcases h0 with rfl | rfl <;> decide
    rw [if_neg (by omega), if_neg (by omega), v1, digC_dB hd.1]
    have e13 : (b :: l).take 13 = b :: l.take 12 := rfl
    have hg : (b :: l).getD 13 0 = l[12]'(by omega) := by rw [List.getD_eq_getElem?_getD, List.getElem?_cons_succ, List.getElem?_eq_getElem (by omega)]; rfl
    rw [e13, hg] at hc
    rw [hc, digC_dB (List.all_eq_true.1 hd.2 _ (List.getElem_mem _))]
    have hs : l = l.take 12 ++ [l[12]'(by omega)] := by
      have := List.take_append_drop 12 l
      rw [List.drop_eq_getElem_cons (by omega), show 12 + 1 = 13 from rfl, List.drop_of_length_le (by omega)] at this
      exact this.symm
    conv => rhs; rw [hs]
    rfl
/-! One wrong digit, two digits exchanged -/
def wV (t : Bool) (b : UInt8) : Int := if t = true then twD (dB b) else dB b
theorem luhF_cut : ∀ (l r : List UInt8) (t : Bool), ∃ p : Bool, ∀ b c : List UInt8, luhF (t, 0) (l ++ b ++ r) - luhF (t, 0) (l ++ c ++ r) = luhF (p, 0) (b ++ r) - luhF (p, 0) (c ++ r)
  | [], r, t => ⟨t, fun b c => rfl⟩
  | x :: l, r, t => by
    obtain ⟨p, h⟩ := luhF_cut l r (!t)
    refine ⟨p, fun b c => ?_⟩
    simp only [List.cons_append]
    rw [luhF, luhF, luhF_add, luhF_add (l ++ c ++ r)]
    have := h b c; omega
theorem wV_inj {t : Bool} {a b : UInt8} (ha : isDig a = true) (hb : isDig b = true) (h : (wV t a - wV t b) % 10 = 0) : dB a = dB b := by
  have h1 := dB_rng ha; have h2 := dB_rng hb
  unfold wV at h
  generalize dB a = x at *
  generalize dB b = y at *
  cases t with
  | false => simp only [Bool.false_eq_true, if_false] at h; omega
  | true =>
    simp only [if_true] at h
    unfold twD at h
    omega
theorem one_bad {l r : List UInt8} {a b : UInt8} (ha : isDig a = true) (hb : isDig b = true) (hab : dB a ≠ dB b) (h : luhF (false, 0) (l ++ [a] ++ r) % 10 = 0) : ¬ luhF (false, 0) (l ++ [b] ++ r) % 10 = 0 := by
  intro h2
  obtain ⟨p, hp⟩ := luhF_cut l r false
  have := hp [a] [b]
  simp only [List.append_assoc, List.cons_append, List.nil_append] at this h h2
  simp only [luhF] at this
  rw [luhF_add r (!p) (0 + if p = true then twD (dB a) else dB a), luhF_add r (!p) (0 + if p = true then twD (dB b) else dB b)] at this
  refine hab (wV_inj (t := p) ha hb ?_)
  cases p <;> simp only [wV, if_true, Bool.false_eq_true, if_false] at this ⊢ <;> omega
theorem swp_fin : ∀ a b : Fin 10, ((a.val : Int) + twD (b.val : Int) - ((b.val : Int) + twD (a.val : Int))) % 10 = 0 → a = b ∨ (a = 0 ∧ b = 9) ∨ (a = 9 ∧ b = 0) := by decide
theorem swp_int {x y : Int} (hx : 0 ≤ x ∧ x ≤ 9) (hy : 0 ≤ y ∧ y ≤ 9) (h : (x + twD y - (y + twD x)) % 10 = 0) : x = y ∨ (x = 0 ∧ y = 9) ∨ (x = 9 ∧ y = 0) := by
  have := swp_fin ⟨x.toNat, by omega⟩ ⟨y.toNat, by omega⟩ (by simp only; rw [Int.toNat_of_nonneg hx.1, Int.toNat_of_nonneg hy.1]; exact h)
  simp only [Fin.ext_iff] at this
  simp at this
  omega
theorem two_bad {l r : List UInt8} {a b : UInt8} (ha : isDig a = true) (hb : isDig b = true) (hab : dB a ≠ dB b) (h0 : ¬ (dB a = 0 ∧ dB b = 9)) (h9 : ¬ (dB a = 9 ∧ dB b = 0)) (h : luhF (false, 0) (l ++ [a, b] ++ r) % 10 = 0) : ¬ luhF (false, 0) (l ++ [b, a] ++ r) % 10 = 0 := by
  intro h2
  obtain ⟨p, hp⟩ := luhF_cut l r false
  have := hp [a, b] [b, a]
  simp only [List.append_assoc, List.cons_append, List.nil_append] at this h h2
  simp only [luhF] at this
  rw [luhF_add r (!!p) (0 + (if p = true then twD (dB a) else dB a) + _), luhF_add r (!!p) (0 + (if p = true then twD (dB b) else dB b) + _)] at this
  have h1 := dB_rng ha; have h2' := dB_rng hb
  have key : ¬ (dB a + twD (dB b) - (dB b + twD (dB a))) % 10 = 0 := fun hh => by
    rcases swp_int h1 h2' hh with h | h | h
    · exact hab h
    · exact h0 h
    · exact h9 h
  cases p <;> simp at this <;> omega
theorem sum_set {s : List UInt8} {i : Nat} {b : UInt8} (hi : i < s.length) (hs : sumV s % 10 = 0) (hd : s.all isDig = true) (hb : isDig b = true) (hne : dB s[i] ≠ dB b) : ¬ sumV (s.set i b) % 10 = 0 := by
  have e1 : s = s.take i ++ [s[i]] ++ s.drop (i + 1) := by rw [List.append_assoc, List.singleton_append, ← List.drop_eq_getElem_cons hi, List.take_append_drop]
  have e2 : s.set i b = s.take i ++ [b] ++ s.drop (i + 1) := by rw [List.set_eq_take_append_cons_drop, if_pos hi]; simp
  have ha : isDig s[i] = true := List.all_eq_true.1 hd _ (List.getElem_mem hi)
  unfold sumV at hs ⊢
  rw [e1, List.reverse_append, List.reverse_append, List.reverse_singleton, ← List.append_assoc] at hs
  rw [e2, List.reverse_append, List.reverse_append, List.reverse_singleton, ← List.append_assoc]
  exact one_bad ha hb hne hs
theorem swap_at {p q : List UInt8} {x y : UInt8} {k : Nat} (h : p.length = k) : ((p ++ [x, y] ++ q).set k y).set (k + 1) x = p ++ [y, x] ++ q := by
  subst h
  rw [List.append_assoc, List.set_append, if_neg (by omega), Nat.sub_self, List.cons_append, List.set_cons_zero, List.set_append, if_neg (by omega), show p.length + 1 - p.length = 1 by omega]
  simp
theorem sum_swap {s : List UInt8} {k : Nat} (hk : k + 1 < s.length) (hs : sumV s % 10 = 0) (hd : s.all isDig = true) (hab : dB s[k] ≠ dB s[k + 1]) (h0 : ¬ (dB s[k] = 0 ∧ dB s[k + 1] = 9)) (h9 : ¬ (dB s[k] = 9 ∧ dB s[k + 1] = 0)) :
    ¬ sumV ((s.set k s[k + 1]).set (k + 1) s[k]) % 10 = 0 := by
  have e1 : s = s.take k ++ [s[k], s[k + 1]] ++ s.drop (k + 2) := by
    have := List.take_append_drop k s
    rw [List.drop_eq_getElem_cons (by omega), List.drop_eq_getElem_cons hk] at this
    rw [List.append_assoc]; exact this.symm
  have ha : isDig s[k] = true := List.all_eq_true.1 hd _ (List.getElem_mem (by omega))
  have hb : isDig s[k + 1] = true := List.all_eq_true.1 hd _ (List.getElem_mem hk)
  have e2 : (s.set k s[k + 1]).set (k + 1) s[k] = s.take k ++ [s[k + 1], s[k]] ++ s.drop (k + 2) := by
    have hlen : (s.take k).length = k := by rw [List.length_take]; omega
    have := swap_at (p := s.take k) (q := s.drop (k + 2)) (x := s[k]) (y := s[k + 1]) hlen
    rw [← e1] at this
    exact this
  unfold sumV at hs ⊢
  rw [e1, List.reverse_append, List.reverse_append, ← List.append_assoc] at hs
  rw [e2, List.reverse_append, List.reverse_append, ← List.append_assoc]
  exact two_bad hb ha (Ne.symm hab) (fun h => h9 ⟨h.2, h.1⟩) (fun h => h0 ⟨h.2, h.1⟩) hs
/-! Books and serials are their own -/
theorem rmvR_app (a b : List UInt8) : rmvR (a ++ b) = rmvR a ++ rmvR b := List.filter_append ..
theorem rmvR_dig {s : List UInt8} (h : s.all isDig = true) : rmvR s = s := by
  unfold rmvR
  refine List.filter_eq_self.2 fun b hb => ?_
  have := List.all_eq_true.1 h b hb
  unfold isDig at this
  simp only [decide_eq_true_eq] at this
  have h1 : ¬ b = 45 := fun e => by subst e; exact absurd this.1 (by decide)
  have h2 : ¬ b = 32 := fun e => by subst e; exact absurd this.1 (by decide)
  simp [h1, h2]
theorem endB_take : ∀ {s : List UInt8}, endB s = true → (s.take (s.length - 1)).all isDig = true
  | [], h => by simp [endB] at h
  | [b], h => rfl
  | b :: c :: l, h => by
    simp only [endB, Bool.and_eq_true] at h
    have ih := endB_take h.2
    simp only [List.length_cons, Nat.add_sub_cancel] at ih ⊢
    rw [List.take_succ_cons, List.all_cons, h.1, ih]; rfl
theorem altF_end : ∀ (l : List UInt8) (t : Bool) (b : UInt8), altF (t, 0) (l ++ [b]) = altF (t, 0) l + (if (t ^^ decide (l.length % 2 = 1)) = true then 3 * dW b else dW b)
  | [], t, b => by cases t <;> simp [altF]
  | x :: l, t, b => by
    rw [List.cons_append, altF, altF, altF_add, altF_add l, altF_end l (!t) b]
    have : (t ^^ decide ((x :: l).length % 2 = 1)) = (!t ^^ decide (l.length % 2 = 1)) := by
      have e : decide ((x :: l).length % 2 = 1) = !decide (l.length % 2 = 1) := by rw [Bool.eq_iff_iff]; simp; omega
      rw [e]; cases t <;> simp
    rw [this]; omega
theorem isb_own {t u : List UInt8} (h : isbT t = (u, 0)) : u.length = 13 ∧ u.all isDig = true ∧ isbT u = (u, 0) := by
  unfold isbT at h
  split at h
  · rename_i h10
    split at h; · cases h
    rename_i he
    split at h; · cases h
    simp only [Prod.mk.injEq, and_true] at h
    have h9 := endB_take (s := t) (by simpa using he)
    rw [h10] at h9
    have hA : (p978 ++ t.take 9).length = 12 := by simp [p978, h10]
    have hAd : (p978 ++ t.take 9).all isDig = true := by rw [List.all_append, h9]; rfl
    subst h
    have hlen : (p978 ++ t.take 9 ++ [digC ((10 - altR (p978 ++ t.take 9) % 10) % 10)]).length = 13 := by rw [List.length_append, hA]; rfl
    have hall : (p978 ++ t.take 9 ++ [digC ((10 - altR (p978 ++ t.take 9) % 10) % 10)]).all isDig = true := by rw [List.all_append, hAd]; simp [digC_dig, -List.all_eq_true]
    refine ⟨hlen, hall, ?_⟩
    unfold isbT
    rw [if_neg (by rw [hlen]; decide), if_pos hlen, if_neg (by rw [hall]; rintro (h | h); cases h; exact h (.inl rfl)), if_neg]
    unfold altR
    rw [altF_end, hA, dW_dB (digC_dig _), dB_digC]
    simp
    have := (altF_rng (p978 ++ t.take 9) false).1
    omega
  · split at h
    · rename_i h13
      split at h; · cases h
      rename_i hc
      split at h; · cases h
      rename_i ha
      simp only [Prod.mk.injEq, and_true] at h
      subst h
      simp only [not_or, Bool.not_eq_false] at hc
      refine ⟨h13, hc.1, ?_⟩
      unfold isbT
      rw [if_neg (by omega), if_pos h13, if_neg (by rw [hc.1]; rintro (e | e); cases e; exact hc.2 (not_or.1 e)), if_neg ha]
    · cases h
theorem isb_self {s u : List UInt8} (h : isbR s = (u, 0)) : isbR u = (u, 0) := by
  obtain ⟨_, h2, h3⟩ := isb_own h
  unfold isbR; rw [rmvR_dig h2]; exact h3
theorem isb_cut {s u : List UInt8} (h : isbR s = (u, 0)) (k : Nat) : isbR ([45] ++ u.take k ++ [32, 45, 32] ++ u.drop k ++ [32]) = (u, 0) := by
  obtain ⟨_, h2, h3⟩ := isb_own h
  unfold isbR
  rw [rmvR_app, rmvR_app, rmvR_app, rmvR_app]
  have e1 : rmvR [45] = [] := by decide
  have e2 : rmvR [32, 45, 32] = [] := by decide
  have e3 : rmvR [32] = [] := by decide
  rw [e1, e2, e3, List.nil_append, List.append_nil, List.append_nil, ← rmvR_app, List.take_append_drop, rmvR_dig h2]; exact h3
theorem isb_more {s u : List UInt8} (h : isbR s = (u, 0)) : isbR (s ++ [45]) = (u, 0) := by
  unfold isbR at h ⊢
  rw [rmvR_app, show rmvR [45] = [] from by decide, List.append_nil]; exact h
theorem isb_bad {s : List UInt8} (h : ¬ (isbR s).2 = 0) : (isbR s).1 = [] := by
  unfold isbR isbT at h ⊢
  split
  · rename_i h1; rw [if_pos h1] at h
    split
    · rfl
    · rename_i h2; rw [if_neg h2] at h
      split
      · rfl
      · rename_i h3; rw [if_neg h3] at h; exact absurd rfl h
  · rename_i h1; rw [if_neg h1] at h
    split
    · rename_i h2; rw [if_pos h2] at h
      split
      · rfl
      · rename_i h3; rw [if_neg h3] at h
        split
        · rfl
        · rename_i h4; rw [if_neg h4] at h; exact absurd rfl h
    · rfl
theorem issn_bad {s : List UInt8} (h : ¬ (issnR s).2 = 0) : (issnR s).1 = [] := by
  unfold issnR at h ⊢
  split
  · rfl
  · rename_i h1; rw [if_neg h1] at h
    split
    · rfl
    · rename_i h2; rw [if_neg h2] at h; exact absurd rfl h
theorem issn_own {s u : List UInt8} (h : issnR s = (u, 0)) : u.length = 9 ∧ issnR u = (u, 0) ∧ issnR (u.take 4 ++ u.drop 5) = (u, 0) := by
  unfold issnR at h
  split at h; · cases h
  rename_i h1
  split at h; · cases h
  rename_i h2
  simp only [Prod.mk.injEq, and_true] at h
  generalize issT s = t at h h1 h2
  simp only [not_or, Decidable.not_not] at h1
  subst h
  have h4 : (t.take 4).length = 4 := by rw [List.length_take]; omega
  have hl : (t.take 4 ++ [45] ++ t.drop 4).length = 9 := by simp; omega
  have e1 : (t.take 4 ++ [45] ++ t.drop 4).take 4 = t.take 4 := by rw [List.append_assoc, List.take_append_of_le_length (by omega), List.take_of_length_le (by omega)]
  have e2 : (t.take 4 ++ [45] ++ t.drop 4).drop 5 = t.drop 4 := by
    rw [List.drop_append_of_le_length (by simp; omega), List.drop_of_length_le (by simp; omega), List.nil_append]
  have e3 : (t.take 4 ++ [45] ++ t.drop 4).getD 4 0 = 45 := by
    rw [List.getD_eq_getElem?_getD, List.append_assoc, List.getElem?_append_right (by omega), h4]; rfl
  have ht : issT t = t := by unfold issT; rw [if_neg (by omega)]
  have hi : issT (t.take 4 ++ [45] ++ t.drop 4) = t := by
    unfold issT
    rw [if_pos ⟨hl, e3⟩, e1, e2, List.take_append_drop]
  have own : ∀ v, issT v = t → issnR v = (t.take 4 ++ [45] ++ t.drop 4, 0) := fun v hv => by
    unfold issnR
    rw [hv, if_neg (by simp only [not_or, Decidable.not_not]; exact h1), if_neg h2]
  refine ⟨hl, own _ hi, ?_⟩
  rw [e1, e2, List.take_append_drop]
  exact own _ ht
end Pl

namespace Pl
theorem rmv_count : ∀ l : List UInt8, l.count 32 + l.count 45 + (rmvR l).length = l.length
  | [] => rfl
  | b :: l => by
    have ih := rmv_count l
    have e : rmvR (b :: l) = if b = 45 ∨ b = 32 then rmvR l else b :: rmvR l := by
      unfold rmvR; rw [List.filter_cons]
      by_cases h : b = 45 ∨ b = 32
      · rw [if_pos h]; rcases h with rfl | rfl <;> simp
      · rw [if_neg h]; simp only [not_or] at h; simp [h.1, h.2]
    rw [e]
    by_cases h1 : b = 45
    · subst h1; simp [List.count_cons]; omega
    · by_cases h2 : b = 32
      · subst h2; simp [List.count_cons]; omega
      · simp [List.count_cons, h1, h2]; omega
theorem rmv_snoc (l : List UInt8) (b : UInt8) : rmvR (l ++ [b]) = if b = 45 ∨ b = 32 then rmvR l else rmvR l ++ [b] := by
  unfold rmvR
  rw [List.filter_append]
  by_cases h : b = 45 ∨ b = 32
  · rw [if_pos h]; rcases h with rfl | rfl <;> simp
  · rw [if_neg h]; simp only [not_or] at h; simp [h.1, h.2]
theorem rmv_take (l : List UInt8) (k : Nat) : (rmvR (l.take k)).length ≤ (rmvR l).length :=
  (List.Sublist.filter _ (List.take_sublist k l)).length_le
theorem rmv_all (l : List UInt8) (h : (rmvR l).length = l.length) : rmvR l = l := by
  unfold rmvR at *
  exact List.filter_eq_self.2 (List.length_filter_eq_length_iff.1 h)
theorem rmv_pre (l : List UInt8) (k : Nat) : ∃ r, rmvR l = rmvR (l.take k) ++ r := by
  refine ⟨rmvR (l.drop k), ?_⟩
  unfold rmvR; rw [← List.filter_append, List.take_append_drop]
end Pl

namespace Pl
set_option maxRecDepth 20000
theorem w_luh : luhR [55, 57, 57, 50, 55, 51, 57, 56, 55, 49] = (3, 0) := by decide
theorem w_mak : makR 2 17 = ([50, 48, 48, 48, 48, 48, 48, 48, 48, 48, 48, 49, 55, 48], 0) := by decide
theorem w_par : parB [50, 48, 48, 48, 48, 48, 48, 48, 48, 48, 48, 49, 55, 48] = (2, 17, 0) := by decide
theorem w_isa : isbR [48, 45, 51, 48, 54, 45, 52, 48, 54, 49, 53, 45, 50] = ([57, 55, 56, 48, 51, 48, 54, 52, 48, 54, 49, 53, 55], 0) := by decide
theorem w_isb : isbR [48, 56, 48, 52, 52, 50, 57, 53, 55, 88] = ([57, 55, 56, 48, 56, 48, 52, 52, 50, 57, 53, 55, 51], 0) := by decide
theorem w_isn : issnR [48, 51, 55, 56, 53, 57, 53, 53] = ([48, 51, 55, 56, 45, 53, 57, 53, 53], 0) := by decide
theorem w_par2 : parB [50, 48, 48, 48, 48, 48, 48, 48, 48, 48, 48, 49, 55, 51] = (0, 0, 5) := by decide
theorem w_isc : isbR [48, 56, 48, 52, 52, 50, 57, 53, 88] = ([], 3) := by decide
end Pl

set_option maxRecDepth 100000
set_option linter.unusedSimpArgs false
set_option linter.unusedVariables false
namespace Go.Proofs.YtjljjnipjhbeaaaGreatDoor
open Go Ab Pl
theorem barcode_digits (s : List UInt8) : ACalls E.P 23 [.str s] (.d (.bool (s.all isDig))) := by
  refine ACalls.intro E_ok Tryz.func23 rfl rfl Tryz.ntmps23 Tryz.results23 (Nat.le_of_ble_eq_true rfl) fun hok base S0 w0 => ?_
  have hl := Ok_str (hok (.str s) (by simp))
  -- region 0
  refine AWp.rseq E_ok [0, 2, 3, 7, 19] fun K hK => ?_
  simp
  repeat refine ⟨by first | omega | assumption | (simp only [maxLen]; omega) | (intros; omega) | decide, ?_⟩
  refine hK _ ?_
  clear hK K
  refine AWp.seq ?_
  -- region 1
  refine AWp.rseq E_ok [0, 2, 3, 7, 19] fun K hK => ?_
  simp
  repeat refine ⟨by first | omega | assumption | (simp only [maxLen]; omega) | (intros; omega) | decide, ?_⟩
  refine hK _ ?_
  clear hK K
  refine AWp.block ?_
  refine AWp.range (l := s) (F := digitsF) (tot := digitsF () s) (fun k y => match y with | () => True) (fun k y => match y with | () => [(0, T.val (D.str s)), (3, T.val (.int .i64 k))]) () ?_ rfl ?_ ?_
  · simp [Weak, TW]
  · first | exact trivial | (simp; omega) | simp
  rintro k ⟨⟩ hk hs hi
  try simp only at hi
  refine AWp.seq ?_
  -- region 2
  refine AWp.rseq E_ok [0, 2, 3, 7, 19] fun K hK => ?_
  simp
  repeat refine ⟨by first | omega | assumption | (simp only [maxLen]; omega) | (intros; omega) | decide, ?_⟩
  refine hK _ ?_
  clear hK K
  refine AWp.cond rfl (fun h7 => ?_) (fun h7 => ?_)
  · try simp at h7
    obtain ⟨x, hx, hxx, hd⟩ := at_indexG (l := s) h7
    rw [hd] at hs
    refine AWp.skip ?_
    repeat first | refine thenN ?_ | refine thenX ?_ | refine thenR ?_ | refine blockN ?_ | refine blockR ?_ | refine blockX ?_ | refine blockM rfl ?_
    refine AWp.seq ?_
    refine AWp.block ?_
    -- region 4
    refine AWp.rseq E_ok [0, 2, 3, 7, 19] fun K hK => ?_
    simp [h7, hx, hxx]
    repeat refine ⟨by first | omega | assumption | (simp only [maxLen]; omega) | (intros; omega) | decide, ?_⟩
    refine hK _ ?_
    clear hK K
    refine AWp.cond rfl (fun h19 => ?_) (fun h19 => ?_)
    · try simp at h19
      rw [digitsF, if_neg (by simp [isDig]; omega)] at hs
      -- region 5
      refine AWp.rseq E_ok [0, 2, 3, 7, 19] fun K hK => ?_
      simp [h7, hx, hxx]
      repeat refine ⟨by first | omega | assumption | (simp only [maxLen]; omega) | (intros; omega) | decide, ?_⟩
      refine hK _ ?_
      clear hK K
      refine AWp.ret ?_
      repeat first | refine thenN ?_ | refine thenX ?_ | refine thenR ?_ | refine blockN ?_ | refine blockR ?_ | refine blockX ?_ | refine blockM rfl ?_
      rw [digits_eq] at hs; simp [RetOk, RV, ← hs]
    · try simp at h19
      rw [digitsF, if_pos (by simp [isDig]; omega)] at hs
      refine AWp.skip ?_
      repeat first | refine thenN ?_ | refine thenX ?_ | refine thenR ?_ | refine blockN ?_ | refine blockR ?_ | refine blockX ?_ | refine blockM rfl ?_
      -- region 3
      refine AWp.rend E_ok [0, 2, 3, 7, 19] fun K hK => ?_
      simp [h7, hx, hxx]
      repeat refine ⟨by first | omega | assumption | (simp only [maxLen]; omega) | (intros; omega) | decide, ?_⟩
      refine hK _ ?_
      clear hK K
      repeat first | refine thenN ?_ | refine thenX ?_ | refine thenR ?_ | refine blockN ?_ | refine blockR ?_ | refine blockX ?_ | refine blockM rfl ?_
      have hw : IntKind.i64.wrap ((k : Int) + 1) = (k : Int) + 1 := by rw [wrap_i64] <;> omega
      skip
      refine ⟨_, h7, hs, ?_, ?_⟩
      · first | exact trivial | (simp; omega) | simp
      · simp [Weak, TW, hw]
  · try simp at h7
    obtain rfl : k = s.length := by omega
    simp [digitsF] at hs
    refine AWp.exit ?_
    repeat first | refine thenN ?_ | refine thenX ?_ | refine thenR ?_ | refine blockN ?_ | refine blockR ?_ | refine blockX ?_ | refine blockM rfl ?_
    -- region 6
    refine AWp.rseq E_ok [0, 2, 3, 7, 19] fun K hK => ?_
    simp [h7]
    repeat refine ⟨by first | omega | assumption | (simp only [maxLen]; omega) | (intros; omega) | decide, ?_⟩
    refine hK _ ?_
    clear hK K
    refine AWp.ret ?_
    repeat first | refine thenN ?_ | refine thenX ?_ | refine thenR ?_ | refine blockN ?_ | refine blockR ?_ | refine blockX ?_ | refine blockM rfl ?_
    rw [digits_eq] at hs; simp [RetOk, RV, ← hs]
end Go.Proofs.YtjljjnipjhbeaaaGreatDoor

set_option maxRecDepth 100000
set_option linter.unusedSimpArgs false
set_option linter.unusedVariables false
namespace Go.Proofs.YtjljjnipjhbeaaaGreatDoor
open Go Ab Pl
theorem barcode_Luhn (s : List UInt8) : ACalls E.P 13 [.str s] (.tup [.int .i64 (luhR s).1, .int .i64 (luhR s).2]) := by
  refine ACalls.intro E_ok Tryz.func13 rfl rfl Tryz.ntmps13 Tryz.results13 (Nat.le_of_ble_eq_true rfl) fun hok base S0 w0 => ?_
  have hl := Ok_str (hok (.str s) (by simp))
  -- region 0
  refine AWp.rseq E_ok [0, 2, 3, 4, 5, 6, 7, 20, 25, 33] fun K hK => ?_
  simp
  try simp (disch := omega) only [wrap_i64]
  repeat refine ⟨by first | omega | assumption | (simp only [maxLen]; omega) | (intros; omega) | decide, ?_⟩
  refine hK _ ?_
  clear hK K
  refine AWp.seq ?_
  -- region 1
  refine AWp.rseq E_ok [0, 2, 3, 4, 5, 6, 7, 20, 25, 33] fun K hK => ?_
  simp
  try simp (disch := omega) only [wrap_i64]
  repeat refine ⟨by first | omega | assumption | (simp only [maxLen]; omega) | (intros; omega) | decide, ?_⟩
  refine meet.of (barcode_digits s) ?_
  simp
  try simp (disch := omega) only [wrap_i64]
  repeat refine ⟨by first | omega | assumption | (simp only [maxLen]; omega) | (intros; omega) | decide, ?_⟩
  refine hK _ ?_
  clear hK K
  refine AWp.cond rfl (fun h20 => ?_) (fun h20 => ?_)
  · try simp at h20
    have hb : luhR s = (0, 3) := if_pos (by rcases h20 with (h | h) | h <;> first | exact .inl (by omega) | exact .inr (.inl (by omega)) | exact .inr (.inr (by simpa using h)))
    -- region 2
    refine AWp.rseq E_ok [0, 2, 3, 4, 5, 6, 7, 20, 25, 33] fun K hK => ?_
    simp
    try simp (disch := omega) only [wrap_i64]
    repeat refine ⟨by first | omega | assumption | (simp only [maxLen]; omega) | (intros; omega) | decide, ?_⟩
    refine hK _ ?_
    clear hK K
    refine AWp.ret ?_
    repeat first | refine thenN ?_ | refine thenX ?_ | refine thenR ?_ | refine blockN ?_ | refine blockR ?_ | refine blockX ?_ | refine blockM rfl ?_
    first | (simp [RetOk, RV, RVs, hb]; done) | (simp [RetOk, RV, RVs, hb, luhN, ← hs]; rw [t2]; omega)
  · try simp at h20
    have hall : s.all isDig = true := by simpa using h20.2
    have hlr : 1 ≤ s.length ∧ s.length ≤ 20 := by omega
    have hb : luhR s = (luhN s, 0) := if_neg (by rw [hall]; rintro (h | h | h) <;> first | omega | cases h)
    refine AWp.skip ?_
    repeat first | refine thenN ?_ | refine thenX ?_ | refine thenR ?_ | refine blockN ?_ | refine blockR ?_ | refine blockX ?_ | refine blockM rfl ?_
    -- region 3
    refine AWp.rseq E_ok [0, 2, 3, 4, 5, 6, 7, 20, 25, 33] fun K hK => ?_
    simp
    try simp (disch := omega) only [wrap_i64]
    repeat refine ⟨by first | omega | assumption | (simp only [maxLen]; omega) | (intros; omega) | decide, ?_⟩
    refine hK _ ?_
    clear hK K
    refine AWp.seq ?_
    -- region 4
    refine AWp.rseq E_ok [0, 2, 3, 4, 5, 6, 7, 20, 25, 33] fun K hK => ?_
    simp
    try simp (disch := omega) only [wrap_i64]
    repeat refine ⟨by first | omega | assumption | (simp only [maxLen]; omega) | (intros; omega) | decide, ?_⟩
    refine hK _ ?_
    clear hK K
    refine AWp.block ?_
    refine AWp.range (l := s.reverse) (F := luhF) (tot := luhF (true, 0) s.reverse) (fun k y => match y with | (t, c) => 0 ≤ c ∧ c ≤ 9 * (k : Int)) (fun k y => match y with | (t, c) => [(0, T.val (D.str s)), (4, T.val (.int .i64 c)), (5, T.val (.bool t)), (6, T.val (.int .i64 ((s.length : Int) - 1 - (k : Int))))]) (true, 0) ?_ rfl ?_ ?_
    · simp [Weak, TW]
    · simp
    rintro k ⟨t, c⟩ hk hs hi
    try simp only at hi
    refine AWp.seq ?_
    -- region 5
    refine AWp.rseq E_ok [0, 2, 3, 4, 5, 6, 7, 20, 25, 33] fun K hK => ?_
    simp
    try simp (disch := omega) only [wrap_i64]
    repeat refine ⟨by first | omega | assumption | (simp only [maxLen]; omega) | (intros; omega) | decide, ?_⟩
    refine hK _ ?_
    clear hK K
    refine AWp.cond rfl (fun h25 => ?_) (fun h25 => ?_)
    · try simp at h25
      have hlt : k < s.reverse.length := by rw [List.length_reverse]; omega
      obtain ⟨x, hx, hxx, hd⟩ := at_indexG (l := s.reverse) hlt
      rw [hd] at hs
      have hjk : s.length - 1 - k < s.length := by omega
      have hje : ((s.length : Int) - 1 - (k : Int)).toNat = s.length - 1 - k := by omega
      have hj1 : s[s.length - 1 - k]? = some x := by have := hx; rw [List.getElem?_reverse (by omega)] at this; exact this
      have hj2 : s[s.length - 1 - k]'hjk = x := (List.getElem?_eq_some_iff.1 hj1).2
      have hdx : isDig x = true := List.all_eq_true.1 hall x (List.mem_of_getElem? hj1)
      have hdr := dB_rng hdx
      have hdw := dB_wrap hdx
      have htr := twD_rng hdr
      have e0 : (2 * dB x).tdiv 10 = 2 * dB x / 10 := Int.tdiv_eq_ediv_of_nonneg (by omega)
      have e1 : (2 * dB x).tmod 10 = 2 * dB x % 10 := Int.tmod_eq_emod_of_nonneg (by omega)
      have e2 : (0 : Int) ≤ (s.length : Int) - 1 - (k : Int) := by omega
      have e3 : (s.length : Int) - 1 - (k : Int) < (s.length : Int) := by omega
      refine AWp.skip ?_
      repeat first | refine thenN ?_ | refine thenX ?_ | refine thenR ?_ | refine blockN ?_ | refine blockR ?_ | refine blockX ?_ | refine blockM rfl ?_
      refine AWp.seq ?_
      refine AWp.block ?_
      -- region 7
      refine AWp.rseq E_ok [0, 2, 3, 4, 5, 6, 7, 20, 25, 33] fun K hK => ?_
      simp [h25, hje, hj1, hj2, hdw, e0, e1, e2, e3, hx, hxx]
      try simp (disch := omega) only [wrap_i64]
      repeat refine ⟨by first | omega | assumption | (simp only [maxLen]; omega) | (intros; omega) | decide, ?_⟩
      refine hK _ ?_
      clear hK K
      refine AWp.seq ?_
      -- region 8
      refine AWp.rseq E_ok [0, 2, 3, 4, 5, 6, 7, 20, 25, 33] fun K hK => ?_
      simp [h25, hje, hj1, hj2, hdw, e0, e1, e2, e3, hx, hxx]
      try simp (disch := omega) only [wrap_i64]
      repeat refine ⟨by first | omega | assumption | (simp only [maxLen]; omega) | (intros; omega) | decide, ?_⟩
      refine hK _ ?_
      clear hK K
      refine AWp.cond rfl (fun h33 => ?_) (fun h33 => ?_)
      · try simp at h33
        obtain rfl : t = true := by simpa using h33
        rw [luhF, if_pos rfl] at hs
        -- region 9
        refine AWp.rend E_ok [0, 2, 3, 4, 5, 6, 7, 20, 25, 33] fun K hK => ?_
        simp [h25, hje, hj1, hj2, hdw, e0, e1, e2, e3, hx, hxx]
        try simp (disch := omega) only [wrap_i64]
        repeat refine ⟨by first | omega | assumption | (simp only [maxLen]; omega) | (intros; omega) | decide, ?_⟩
        refine hK _ ?_
        clear hK K
        repeat first | refine thenN ?_ | refine thenX ?_ | refine thenR ?_ | refine blockN ?_ | refine blockR ?_ | refine blockX ?_ | refine blockM rfl ?_
        -- region 10
        refine AWp.rseq E_ok [0, 2, 3, 4, 5, 6, 7, 20, 25, 33] fun K hK => ?_
        simp [h25, hje, hj1, hj2, hdw, e0, e1, e2, e3, hx, hxx]
        try simp (disch := omega) only [wrap_i64]
        repeat refine ⟨by first | omega | assumption | (simp only [maxLen]; omega) | (intros; omega) | decide, ?_⟩
        refine hK _ ?_
        clear hK K
        -- region 11
        refine AWp.rend E_ok [0, 2, 3, 4, 5, 6, 7, 20, 25, 33] fun K hK => ?_
        simp [h25, hje, hj1, hj2, hdw, e0, e1, e2, e3, hx, hxx]
        try simp (disch := omega) only [wrap_i64]
        repeat refine ⟨by first | omega | assumption | (simp only [maxLen]; omega) | (intros; omega) | decide, ?_⟩
        refine hK _ ?_
        clear hK K
        repeat first | refine thenN ?_ | refine thenX ?_ | refine thenR ?_ | refine blockN ?_ | refine blockR ?_ | refine blockX ?_ | refine blockM rfl ?_
        -- region 6
        refine AWp.rend E_ok [0, 2, 3, 4, 5, 6, 7, 20, 25, 33] fun K hK => ?_
        simp [h25, hje, hj1, hj2, hdw, e0, e1, e2, e3, hx, hxx]
        try simp (disch := omega) only [wrap_i64]
        repeat refine ⟨by first | omega | assumption | (simp only [maxLen]; omega) | (intros; omega) | decide, ?_⟩
        refine hK _ ?_
        clear hK K
        repeat first | refine thenN ?_ | refine thenX ?_ | refine thenR ?_ | refine blockN ?_ | refine blockR ?_ | refine blockX ?_ | refine blockM rfl ?_
        have hw : IntKind.i64.wrap ((k : Int) + 1) = (k : Int) + 1 := by rw [wrap_i64] <;> omega
        skip
        refine ⟨_, hlt, hs, ?_, ?_⟩
        · omega
        · simp [Weak, TW, hw, twD] <;> omega
      · try simp at h33
        obtain rfl : t = false := by simpa using h33
        rw [luhF, if_neg (by decide)] at hs
        refine AWp.skip ?_
        repeat first | refine thenN ?_ | refine thenX ?_ | refine thenR ?_ | refine blockN ?_ | refine blockR ?_ | refine blockX ?_ | refine blockM rfl ?_
        -- region 10
        refine AWp.rseq E_ok [0, 2, 3, 4, 5, 6, 7, 20, 25, 33] fun K hK => ?_
        simp [h25, hje, hj1, hj2, hdw, e0, e1, e2, e3, hx, hxx]
        try simp (disch := omega) only [wrap_i64]
        repeat refine ⟨by first | omega | assumption | (simp only [maxLen]; omega) | (intros; omega) | decide, ?_⟩
        refine hK _ ?_
        clear hK K
        -- region 11
        refine AWp.rend E_ok [0, 2, 3, 4, 5, 6, 7, 20, 25, 33] fun K hK => ?_
        simp [h25, hje, hj1, hj2, hdw, e0, e1, e2, e3, hx, hxx]
        try simp (disch := omega) only [wrap_i64]
        repeat refine ⟨by first | omega | assumption | (simp only [maxLen]; omega) | (intros; omega) | decide, ?_⟩
        refine hK _ ?_
        clear hK K
        repeat first | refine thenN ?_ | refine thenX ?_ | refine thenR ?_ | refine blockN ?_ | refine blockR ?_ | refine blockX ?_ | refine blockM rfl ?_
        -- region 6
        refine AWp.rend E_ok [0, 2, 3, 4, 5, 6, 7, 20, 25, 33] fun K hK => ?_
        simp [h25, hje, hj1, hj2, hdw, e0, e1, e2, e3, hx, hxx]
        try simp (disch := omega) only [wrap_i64]
        repeat refine ⟨by first | omega | assumption | (simp only [maxLen]; omega) | (intros; omega) | decide, ?_⟩
        refine hK _ ?_
        clear hK K
        repeat first | refine thenN ?_ | refine thenX ?_ | refine thenR ?_ | refine blockN ?_ | refine blockR ?_ | refine blockX ?_ | refine blockM rfl ?_
        have hw : IntKind.i64.wrap ((k : Int) + 1) = (k : Int) + 1 := by rw [wrap_i64] <;> omega
        skip
        refine ⟨_, hlt, hs, ?_, ?_⟩
        · omega
        · simp [Weak, TW, hw, twD] <;> omega
    · try simp at h25
      have t1 : c.tmod 10 = c % 10 := Int.tmod_eq_emod_of_nonneg (by omega)
      have t2 : (10 - c % 10).tmod 10 = (10 - c % 10) % 10 := Int.tmod_eq_emod_of_nonneg (by omega)
      obtain rfl : k = s.reverse.length := by rw [List.length_reverse] at hk ⊢; omega
      simp only [List.drop_length, luhF] at hs
      rw [List.length_reverse] at hi
      refine AWp.exit ?_
      repeat first | refine thenN ?_ | refine thenX ?_ | refine thenR ?_ | refine blockN ?_ | refine blockR ?_ | refine blockX ?_ | refine blockM rfl ?_
      -- region 12
      refine AWp.rseq E_ok [0, 2, 3, 4, 5, 6, 7, 20, 25, 33] fun K hK => ?_
      simp [h25, t1, t2]
      try simp (disch := omega) only [wrap_i64]
      repeat refine ⟨by first | omega | assumption | (simp only [maxLen]; omega) | (intros; omega) | decide, ?_⟩
      refine hK _ ?_
      clear hK K
      refine AWp.ret ?_
      repeat first | refine thenN ?_ | refine thenX ?_ | refine thenR ?_ | refine blockN ?_ | refine blockR ?_ | refine blockX ?_ | refine blockM rfl ?_
      first | (simp [RetOk, RV, RVs, hb]; done) | (simp [RetOk, RV, RVs, hb, luhN, ← hs]; rw [t2]; omega)
end Go.Proofs.YtjljjnipjhbeaaaGreatDoor

/-
  DERIVED: THE SHELF's CONTRACTS AT THIS DUMP, IN PLAIN WORDS (tools/lay-plain.mjs out of 'TryzShelf.lean', which tools/lay-shelf.mjs wrote): THE SAME DECLARATIONS UNDER THE SAME NAMES: 'import', 'namespace', 'open', 'def', 'theorem' AND NOTHING ELSE: no command of the shelf's: FOR A HAND-IN. Each laying: the table of numbers ('.._ren') and one theorem, a field a fact of the dump's own or the kernel's comparison; each contract: ONE APPLICATION.
-/
namespace Go.Proofs
open Go.Shelf
def Tryz.lays170_ren : Go.Shelf.Ren := ⟨fun | 170 => 43 | n => n, fun | 70 => 55 | 3 => 3 | 0 => 0 | 72 => 57 | 37 => 36 | 5 => 5 | n => n, fun | n => n⟩
theorem Tryz.lays170 : Go.Proofs.Lays.n170 Tryz.prog Tryz.lays170_ren := {
  mixed := by kernel_rfl
  f170 := Tryz.func43.trans (congrArg some (by kernel_rfl))
  t0 := Tryz.underlying0
  a0 := Tryz.isAgg0
  z0 := Tryz.sizeOf0
  v0 := Tryz.zeroValue0
  t3 := Tryz.underlying3
  a3 := Tryz.isAgg3
  z3 := Tryz.sizeOf3
  v3 := Tryz.zeroValue3
  t37 := Tryz.underlying36
  a37 := Tryz.isAgg36
  z37 := Tryz.sizeOf36
  v37 := Tryz.zeroValue36
  t70 := Tryz.underlying55
  a70 := Tryz.isAgg55
  z70 := Tryz.sizeOf55
  v70 := Tryz.zeroValue55
  t72 := Tryz.underlying57
  a72 := Tryz.isAgg57
  z72 := Tryz.sizeOf57
  v72 := Tryz.zeroValue57 }
open Go.RowKit in
/-- (*strings.Builder).Len: "Len returns the number of accumulated bytes; b.Len() == len(b.String()).": the world is as it was. (LAID: no walk: one application.) -/
theorem Tryz.Builder_Len (B b : Nat) (bs : List Value) (w : World) (h : Lib.IsBuilder 57 5 B b bs w) :
    Calls Tryz.prog 43 #[.pointer (some ⟨b, 0, none⟩)] w fun e w' => e = .returned (.int .i64 bs.length) ∧ w' = w := Any.Builder_Len Tryz.lays170 B b bs w h
def Tryz.lays169_ren : Go.Shelf.Ren := ⟨fun | 169 => 44 | n => n, fun | 70 => 55 | 9 => 9 | 0 => 0 | 72 => 57 | 37 => 36 | 127 => 86 | 3 => 3 | 5 => 5 | n => n, fun | n => n⟩
theorem Tryz.lays169 : Go.Proofs.Lays.n169 Tryz.prog Tryz.lays169_ren := {
  mixed := by kernel_rfl
  f169 := Tryz.func44.trans (congrArg some (by kernel_rfl))
  t0 := Tryz.underlying0
  a0 := Tryz.isAgg0
  z0 := Tryz.sizeOf0
  v0 := Tryz.zeroValue0
  t3 := Tryz.underlying3
  a3 := Tryz.isAgg3
  z3 := Tryz.sizeOf3
  v3 := Tryz.zeroValue3
  t9 := Tryz.underlying9
  a9 := Tryz.isAgg9
  z9 := Tryz.sizeOf9
  v9 := Tryz.zeroValue9
  t37 := Tryz.underlying36
  a37 := Tryz.isAgg36
  z37 := Tryz.sizeOf36
  v37 := Tryz.zeroValue36
  t70 := Tryz.underlying55
  a70 := Tryz.isAgg55
  z70 := Tryz.sizeOf55
  v70 := Tryz.zeroValue55
  t72 := Tryz.underlying57
  a72 := Tryz.isAgg57
  z72 := Tryz.sizeOf57
  v72 := Tryz.zeroValue57
  t127 := Tryz.underlying86
  a127 := Tryz.isAgg86
  z127 := Tryz.sizeOf86
  v127 := Tryz.zeroValue86 }
theorem Tryz.Builder_Extra_169 : Builder.Extra Tryz.prog Tryz.lays169_ren := {
  sizeBuilder := by kernel_rfl
  liesBuilder := by kernel_rfl
  t5 := Tryz.underlying5
  a5 := Tryz.isAgg5
  z5 := Tryz.sizeOf5
  v5 := Tryz.zeroValue5
  infoByte := by kernel_rfl
  cellsByte := by kernel_rfl
  sizeByte := by kernel_rfl
  neB5 := by decide }
open Go.RowKit in
/-- (*strings.Builder).String: "String returns the accumulated string.": OF A BUILDER THAT HOLDS AT LEAST ONE BYTE. ✋ THE MODEL FREEZES THOSE BYTES IN THE BUFFER (unsafe.String): a later write INTO them ends the model's run without an answer; a later append BEHIND them goes on. The statement's order of evaluation is drawn: one draw. (LAID: no walk: one application.) -/
theorem Tryz.Builder_String (B b : Nat) (l : List UInt8) (w : World) (h : Lib.IsBuilder 57 5 B b (Lib.byteCells l) w) (h0 : l ≠ []) :
    Calls Tryz.prog 44 #[.pointer (some ⟨b, 0, none⟩)] w fun e w' => e = .returned (.string ⟨l.toArray⟩) ∧ Below B w w' := Any.Builder_String Tryz.lays169 Tryz.Builder_Extra_169 B b l w h h0
open Go.RowKit in
/-- (*strings.Builder).String OF A BUILDER THAT HOLDS NO BYTE: the empty string. (Its buffer is nil, or a row of which it has taken nothing yet; where that row has NO capacity the model lays one new block for unsafe.SliceData's 'some address'.) One draw. (LAID: no walk: one application.) -/
theorem Tryz.Builder_String_empty (B b : Nat) (w : World) (h : Lib.IsBuilder 57 5 B b [] w) (hBw : B ≤ w.heap.size) :
    Calls Tryz.prog 44 #[.pointer (some ⟨b, 0, none⟩)] w fun e w' => e = .returned (.string ⟨#[]⟩) ∧ Below B w w' := Any.Builder_String_empty Tryz.lays169 Tryz.Builder_Extra_169 B b w h hBw
open Go.RowKit in
/-- (*strings.Builder).String: "String returns the accumulated string.": WHATEVER THE BUILDER HOLDS. (LAID: no walk: one application.) -/
theorem Tryz.Builder_String_any (B b : Nat) (l : List UInt8) (w : World) (h : Lib.IsBuilder 57 5 B b (Lib.byteCells l) w) (hBw : B ≤ w.heap.size) :
    Calls Tryz.prog 44 #[.pointer (some ⟨b, 0, none⟩)] w fun e w' => e = .returned (.string ⟨l.toArray⟩) ∧ Below B w w' := Any.Builder_String_any Tryz.lays169 Tryz.Builder_Extra_169 B b l w h hBw
def Tryz.lays241_ren : Go.Shelf.Ren := ⟨fun | 241 => 54 | 277 => 68 | n => n, fun | 70 => 55 | 3 => 3 | 0 => 0 | 72 => 57 | 37 => 36 | 5 => 5 | n => n, fun | n => n⟩
theorem Tryz.lays241 : Go.Proofs.Lays.n241 Tryz.prog Tryz.lays241_ren := {
  mixed := by kernel_rfl
  f241 := Tryz.func54.trans (congrArg some (by kernel_rfl))
  f277 := Tryz.func68.trans (congrArg some (by kernel_rfl))
  t0 := Tryz.underlying0
  a0 := Tryz.isAgg0
  z0 := Tryz.sizeOf0
  v0 := Tryz.zeroValue0
  t3 := Tryz.underlying3
  a3 := Tryz.isAgg3
  z3 := Tryz.sizeOf3
  v3 := Tryz.zeroValue3
  t37 := Tryz.underlying36
  a37 := Tryz.isAgg36
  z37 := Tryz.sizeOf36
  v37 := Tryz.zeroValue36
  t70 := Tryz.underlying55
  a70 := Tryz.isAgg55
  z70 := Tryz.sizeOf55
  v70 := Tryz.zeroValue55
  t72 := Tryz.underlying57
  a72 := Tryz.isAgg57
  z72 := Tryz.sizeOf57
  v72 := Tryz.zeroValue57 }
theorem Tryz.Builder_Extra_241 : Builder.Extra Tryz.prog Tryz.lays241_ren := {
  sizeBuilder := by kernel_rfl
  liesBuilder := by kernel_rfl
  t5 := Tryz.underlying5
  a5 := Tryz.isAgg5
  z5 := Tryz.sizeOf5
  v5 := Tryz.zeroValue5
  infoByte := by kernel_rfl
  cellsByte := by kernel_rfl
  sizeByte := by kernel_rfl
  neB5 := by decide }
open Go.RowKit in
/-- (*strings.Builder).grow (no doc but "grow copies the buffer to a new, larger buffer so that there are at least n bytes of capacity beyond len(b.buf)."): AT A BUILDER WITHOUT A BUFFER: a new row of whatever bytes for its buffer, none of them its own yet. Three draws. (LAID: no walk: one application.) -/
theorem Tryz.Builder_grow_fresh (B b n : Nat) (w : World) (hB : B ≤ b) (hbk : w.heap[b]? = some (.cells #[.pointer (some ⟨b, 0, none⟩), .slice none 0 0] 57 (0, 0))) (hBw : B ≤ w.heap.size) (hn : n ≤ 281474976710656) :
    Calls Tryz.prog 54 #[.pointer (some ⟨b, 0, none⟩), .int .i64 n] w fun e w' => e = .returned (.tuple #[]) ∧ (Lib.BuilderAt 57 5 B b (.pointer (some ⟨b, 0, none⟩)) [] w' ∧ Below B w w') := Any.Builder_grow_fresh Tryz.lays241 Tryz.Builder_Extra_241 B b n w hB hbk hBw hn
def Tryz.lays165_ren : Go.Shelf.Ren := ⟨fun | 165 => 41 | 240 => 53 | 241 => 54 | 276 => 67 | 277 => 68 | n => n, fun | 70 => 55 | 3 => 3 | 0 => 0 | 4 => 4 | 9 => 9 | 20 => 20 | 72 => 57 | 37 => 36 | 164 => 100 | 5 => 5 | n => n, fun | n => n⟩
theorem Tryz.lays165 : Go.Proofs.Lays.n165 Tryz.prog Tryz.lays165_ren := {
  mixed := by kernel_rfl
  f165 := Tryz.func41.trans (congrArg some (by kernel_rfl))
  f240 := Tryz.func53.trans (congrArg some (by kernel_rfl))
  f241 := Tryz.func54.trans (congrArg some (by kernel_rfl))
  f276 := Tryz.func67.trans (congrArg some (by kernel_rfl))
  f277 := Tryz.func68.trans (congrArg some (by kernel_rfl))
  t0 := Tryz.underlying0
  a0 := Tryz.isAgg0
  z0 := Tryz.sizeOf0
  v0 := Tryz.zeroValue0
  t3 := Tryz.underlying3
  a3 := Tryz.isAgg3
  z3 := Tryz.sizeOf3
  v3 := Tryz.zeroValue3
  t4 := Tryz.underlying4
  a4 := Tryz.isAgg4
  z4 := Tryz.sizeOf4
  v4 := Tryz.zeroValue4
  t9 := Tryz.underlying9
  a9 := Tryz.isAgg9
  z9 := Tryz.sizeOf9
  v9 := Tryz.zeroValue9
  t20 := Tryz.underlying20
  a20 := Tryz.isAgg20
  z20 := Tryz.sizeOf20
  v20 := Tryz.zeroValue20
  t37 := Tryz.underlying36
  a37 := Tryz.isAgg36
  z37 := Tryz.sizeOf36
  v37 := Tryz.zeroValue36
  t70 := Tryz.underlying55
  a70 := Tryz.isAgg55
  z70 := Tryz.sizeOf55
  v70 := Tryz.zeroValue55
  t72 := Tryz.underlying57
  a72 := Tryz.isAgg57
  z72 := Tryz.sizeOf57
  v72 := Tryz.zeroValue57
  t164 := Tryz.underlying100
  a164 := Tryz.isAgg100
  z164 := Tryz.sizeOf100
  v164 := Tryz.zeroValue100 }
theorem Tryz.Builder_Extra_165 : Builder.Extra Tryz.prog Tryz.lays165_ren := {
  sizeBuilder := by kernel_rfl
  liesBuilder := by kernel_rfl
  t5 := Tryz.underlying5
  a5 := Tryz.isAgg5
  z5 := Tryz.sizeOf5
  v5 := Tryz.zeroValue5
  infoByte := by kernel_rfl
  cellsByte := by kernel_rfl
  sizeByte := by kernel_rfl
  neB5 := by decide }
open Go.RowKit in
/-- (*strings.Builder).Grow AT A BUILDER THAT HAS NOT BEEN WRITTEN ('var b strings.Builder; b.Grow(n)'): "Grow grows b's capacity, if necessary, to guarantee space for another n bytes.": it holds no byte behind it as before it. (LAID: no walk: one application.) -/
theorem Tryz.Builder_Grow_fresh (B b n : Nat) (w : World) (hB : B ≤ b) (hbk : w.heap[b]? = some (.cells #[.pointer none, .slice none 0 0] 57 (0, 0))) (hBw : B ≤ w.heap.size) (hn : n ≤ 281474976710656) :
    Calls Tryz.prog 41 #[.pointer (some ⟨b, 0, none⟩), .int .i64 n] w fun e w' => e = .returned (.tuple #[]) ∧ (Lib.BuilderAt 57 5 B b (.pointer (some ⟨b, 0, none⟩)) [] w' ∧ Below B w w') := Any.Builder_Grow_fresh Tryz.lays165 Tryz.Builder_Extra_165 B b n w hB hbk hBw hn
open Go.RowKit in
/-- (*strings.Builder).Len: "Len returns the number of accumulated bytes; b.Len() == len(b.String()).": the world is as it was. (THE FORM '_f': 'Lib.IsBuilderF'.) (LAID: no walk: one application.) -/
theorem Tryz.Builder_Len_f (B b : Nat) (bs : List Value) (w : World) (h : Lib.IsBuilderF 57 5 B b bs w) :
    Calls Tryz.prog 43 #[.pointer (some ⟨b, 0, none⟩)] w fun e w' => e = .returned (.int .i64 bs.length) ∧ w' = w := Any.Builder_Len_f Tryz.lays170 B b bs w h
open Go.RowKit in
/-- (*strings.Builder).String: "String returns the accumulated string.": OF A BUILDER THAT HOLDS AT LEAST ONE BYTE. ✋ THE MODEL FREEZES THOSE BYTES IN THE BUFFER (unsafe.String): a later write INTO them ends the model's run without an answer; a later append BEHIND them goes on. The statement's order of evaluation is drawn: one draw. THE FORM '_f': IT SAYS BESIDES THAT THE BUILDER IS A BUILDER STILL ('Lib.IsBuilderF', the same bytes): SO IT CAN BE WRITTEN ON: 'b.WriteString(b.String()[:k])'. (LAID: no walk: one application.) -/
theorem Tryz.Builder_String_f (B b : Nat) (l : List UInt8) (w : World) (h : Lib.IsBuilderF 57 5 B b (Lib.byteCells l) w) (h0 : l ≠ []) :
    Calls Tryz.prog 44 #[.pointer (some ⟨b, 0, none⟩)] w fun e w' => e = .returned (.string ⟨l.toArray⟩) ∧ (Lib.IsBuilderF 57 5 B b (Lib.byteCells l) w' ∧ Below B w w') := Any.Builder_String_f Tryz.lays169 Tryz.Builder_Extra_169 B b l w h h0
open Go.RowKit in
/-- (*strings.Builder).String OF A BUILDER THAT HOLDS NO BYTE: the empty string; THE FORM '_f': a builder still. (LAID: no walk: one application.) -/
theorem Tryz.Builder_String_empty_f (B b : Nat) (w : World) (h : Lib.IsBuilderF 57 5 B b [] w) (hBw : B ≤ w.heap.size) :
    Calls Tryz.prog 44 #[.pointer (some ⟨b, 0, none⟩)] w fun e w' => e = .returned (.string ⟨#[]⟩) ∧ (Lib.IsBuilderF 57 5 B b [] w' ∧ Below B w w') := Any.Builder_String_empty_f Tryz.lays169 Tryz.Builder_Extra_169 B b w h hBw
open Go.RowKit in
/-- (*strings.Builder).String: "String returns the accumulated string.": WHATEVER THE BUILDER HOLDS; THE FORM '_f': OF A BUILDER THAT MAY HAVE BEEN READ BEFORE; AND IT IS A BUILDER STILL, holding the same bytes: it can be written on. (LAID: no walk: one application.) -/
theorem Tryz.Builder_String_any_f (B b : Nat) (l : List UInt8) (w : World) (h : Lib.IsBuilderF 57 5 B b (Lib.byteCells l) w) (hBw : B ≤ w.heap.size) :
    Calls Tryz.prog 44 #[.pointer (some ⟨b, 0, none⟩)] w fun e w' => e = .returned (.string ⟨l.toArray⟩) ∧ (Lib.IsBuilderF 57 5 B b (Lib.byteCells l) w' ∧ Below B w w') := Any.Builder_String_any_f Tryz.lays169 Tryz.Builder_Extra_169 B b l w h hBw
def Tryz.lays244_ren : Go.Shelf.Ren := ⟨fun | 244 => 45 | 247 => 55 | 287 => 69 | 321 => 83 | 322 => 84 | n => n, fun | 9 => 9 | 3 => 3 | 75 => 43 | 4 => 4 | 5 => 5 | 167 => 87 | 37 => 36 | 0 => 0 | 85 => 88 | 2 => 2 | 53 => 83 | 175 => 103 | 46 => 51 | 21 => 21 | 80 => 60 | n => n, fun | n => n⟩
theorem Tryz.lays244 : Go.Proofs.Lays.n244 Tryz.prog Tryz.lays244_ren := {
  mixed := by kernel_rfl
  f244 := Tryz.func45.trans (congrArg some (by kernel_rfl))
  f247 := Tryz.func55.trans (congrArg some (by kernel_rfl))
  f287 := Tryz.func69.trans (congrArg some (by kernel_rfl))
  f321 := Tryz.func83.trans (congrArg some (by kernel_rfl))
  f322 := Tryz.func84.trans (congrArg some (by kernel_rfl))
  t0 := Tryz.underlying0
  a0 := Tryz.isAgg0
  z0 := Tryz.sizeOf0
  v0 := Tryz.zeroValue0
  t2 := Tryz.underlying2
  a2 := Tryz.isAgg2
  z2 := Tryz.sizeOf2
  v2 := Tryz.zeroValue2
  t3 := Tryz.underlying3
  a3 := Tryz.isAgg3
  z3 := Tryz.sizeOf3
  v3 := Tryz.zeroValue3
  t4 := Tryz.underlying4
  a4 := Tryz.isAgg4
  z4 := Tryz.sizeOf4
  v4 := Tryz.zeroValue4
  t5 := Tryz.underlying5
  a5 := Tryz.isAgg5
  z5 := Tryz.sizeOf5
  v5 := Tryz.zeroValue5
  t9 := Tryz.underlying9
  a9 := Tryz.isAgg9
  z9 := Tryz.sizeOf9
  v9 := Tryz.zeroValue9
  t21 := Tryz.underlying21
  a21 := Tryz.isAgg21
  z21 := Tryz.sizeOf21
  v21 := Tryz.zeroValue21
  t37 := Tryz.underlying36
  a37 := Tryz.isAgg36
  z37 := Tryz.sizeOf36
  v37 := Tryz.zeroValue36
  t46 := Tryz.underlying51
  a46 := Tryz.isAgg51
  z46 := Tryz.sizeOf51
  v46 := Tryz.zeroValue51
  t53 := Tryz.underlying83
  a53 := Tryz.isAgg83
  z53 := Tryz.sizeOf83
  v53 := Tryz.zeroValue83
  t75 := Tryz.underlying43
  a75 := Tryz.isAgg43
  z75 := Tryz.sizeOf43
  v75 := Tryz.zeroValue43
  t85 := Tryz.underlying88
  a85 := Tryz.isAgg88
  z85 := Tryz.sizeOf88
  v85 := Tryz.zeroValue88
  t167 := Tryz.underlying87
  a167 := Tryz.isAgg87
  z167 := Tryz.sizeOf87
  v167 := Tryz.zeroValue87
  t175 := Tryz.underlying103
  a175 := Tryz.isAgg103
  z175 := Tryz.sizeOf103
  v175 := Tryz.zeroValue103 }
open Go.RowKit in
/-- internal/strconv.Atoi, at a decimal numeral of at most 18 bytes: ITS VALUE, AND NO ERROR. The world behind the call: the one new row that '[]byte(s)' lays. (LAID: no walk: one application.) -/
theorem Tryz.internal_strconv_Atoi (s : ByteArray) (n : Int) (hl : s.size ≤ 18) (h : Lib.atoi s.data.toList = some n) (w : World) :
    Calls Tryz.prog 45 #[.string s] w fun e w' => e = .returned (.tuple #[.int .i64 n, .nilIface]) ∧ ∃ t, w' = Lib.bytesWorld w 5 t := Any.internal_strconv_Atoi Tryz.lays244 s n hl h w
def Tryz.lays172_ren : Go.Shelf.Ren := ⟨fun | 172 => 29 | 244 => 45 | 245 => 46 | 247 => 55 | 279 => 56 | 280 => 57 | 281 => 58 | 282 => 59 | 287 => 69 | 316 => 70 | 171 => 26 | 205 => 71 | 321 => 83 | 322 => 84 | 243 => 38 | 246 => 49 | 283 => 63 | 284 => 64 | 285 => 65 | 286 => 66 | 129 => 79 | 317 => 78 | 318 => 80 | 319 => 81 | 320 => 82 | 337 => 91 | 338 => 92 | n => n, fun | 9 => 9 | 3 => 3 | 75 => 43 | 76 => 44 | 4 => 4 | 5 => 5 | 167 => 87 | 37 => 36 | 0 => 0 | 85 => 88 | 2 => 2 | 168 => 90 | 53 => 83 | 175 => 103 | 46 => 51 | 210 => 106 | 127 => 86 | 145 => 132 | 143 => 130 | 21 => 21 | 171 => 95 | 173 => 98 | 212 => 125 | 51 => 66 | 20 => 20 | 213 => 126 | 232 => 159 | 233 => 160 | 80 => 60 | n => n, fun | 15 => 0 | 16 => 1 | 17 => 2 | 18 => 4 | 19 => 5 | n => n⟩
theorem Tryz.lays172 : Go.Proofs.Lays.n172 Tryz.prog Tryz.lays172_ren := {
  mixed := by kernel_rfl
  f129 := Tryz.func79.trans (congrArg some (by kernel_rfl))
  f171 := Tryz.func26.trans (congrArg some (by kernel_rfl))
  f172 := Tryz.func29.trans (congrArg some (by kernel_rfl))
  f205 := Tryz.func71.trans (congrArg some (by kernel_rfl))
  f243 := Tryz.func38.trans (congrArg some (by kernel_rfl))
  f244 := Tryz.func45.trans (congrArg some (by kernel_rfl))
  f245 := Tryz.func46.trans (congrArg some (by kernel_rfl))
  f246 := Tryz.func49.trans (congrArg some (by kernel_rfl))
  f247 := Tryz.func55.trans (congrArg some (by kernel_rfl))
  f279 := Tryz.func56.trans (congrArg some (by kernel_rfl))
  f280 := Tryz.func57.trans (congrArg some (by kernel_rfl))
  f281 := Tryz.func58.trans (congrArg some (by kernel_rfl))
  f282 := Tryz.func59.trans (congrArg some (by kernel_rfl))
  f283 := Tryz.func63.trans (congrArg some (by kernel_rfl))
  f284 := Tryz.func64.trans (congrArg some (by kernel_rfl))
  f285 := Tryz.func65.trans (congrArg some (by kernel_rfl))
  f286 := Tryz.func66.trans (congrArg some (by kernel_rfl))
  f287 := Tryz.func69.trans (congrArg some (by kernel_rfl))
  f316 := Tryz.func70.trans (congrArg some (by kernel_rfl))
  f317 := Tryz.func78.trans (congrArg some (by kernel_rfl))
  f318 := Tryz.func80.trans (congrArg some (by kernel_rfl))
  f319 := Tryz.func81.trans (congrArg some (by kernel_rfl))
  f320 := Tryz.func82.trans (congrArg some (by kernel_rfl))
  f321 := Tryz.func83.trans (congrArg some (by kernel_rfl))
  f322 := Tryz.func84.trans (congrArg some (by kernel_rfl))
  f337 := Tryz.func91.trans (congrArg some (by kernel_rfl))
  f338 := Tryz.func92.trans (congrArg some (by kernel_rfl))
  t0 := Tryz.underlying0
  a0 := Tryz.isAgg0
  z0 := Tryz.sizeOf0
  v0 := Tryz.zeroValue0
  t2 := Tryz.underlying2
  a2 := Tryz.isAgg2
  z2 := Tryz.sizeOf2
  v2 := Tryz.zeroValue2
  t3 := Tryz.underlying3
  a3 := Tryz.isAgg3
  z3 := Tryz.sizeOf3
  v3 := Tryz.zeroValue3
  t4 := Tryz.underlying4
  a4 := Tryz.isAgg4
  z4 := Tryz.sizeOf4
  v4 := Tryz.zeroValue4
  t5 := Tryz.underlying5
  a5 := Tryz.isAgg5
  z5 := Tryz.sizeOf5
  v5 := Tryz.zeroValue5
  t9 := Tryz.underlying9
  a9 := Tryz.isAgg9
  z9 := Tryz.sizeOf9
  v9 := Tryz.zeroValue9
  t20 := Tryz.underlying20
  a20 := Tryz.isAgg20
  z20 := Tryz.sizeOf20
  v20 := Tryz.zeroValue20
  t21 := Tryz.underlying21
  a21 := Tryz.isAgg21
  z21 := Tryz.sizeOf21
  v21 := Tryz.zeroValue21
  t37 := Tryz.underlying36
  a37 := Tryz.isAgg36
  z37 := Tryz.sizeOf36
  v37 := Tryz.zeroValue36
  t46 := Tryz.underlying51
  a46 := Tryz.isAgg51
  z46 := Tryz.sizeOf51
  v46 := Tryz.zeroValue51
  t51 := Tryz.underlying66
  a51 := Tryz.isAgg66
  z51 := Tryz.sizeOf66
  v51 := Tryz.zeroValue66
  t53 := Tryz.underlying83
  a53 := Tryz.isAgg83
  z53 := Tryz.sizeOf83
  v53 := Tryz.zeroValue83
  t75 := Tryz.underlying43
  a75 := Tryz.isAgg43
  z75 := Tryz.sizeOf43
  v75 := Tryz.zeroValue43
  t76 := Tryz.underlying44
  a76 := Tryz.isAgg44
  z76 := Tryz.sizeOf44
  v76 := Tryz.zeroValue44
  t85 := Tryz.underlying88
  a85 := Tryz.isAgg88
  z85 := Tryz.sizeOf88
  v85 := Tryz.zeroValue88
  t127 := Tryz.underlying86
  a127 := Tryz.isAgg86
  z127 := Tryz.sizeOf86
  v127 := Tryz.zeroValue86
  t143 := Tryz.underlying130
  a143 := Tryz.isAgg130
  z143 := Tryz.sizeOf130
  v143 := Tryz.zeroValue130
  t145 := Tryz.underlying132
  a145 := Tryz.isAgg132
  z145 := Tryz.sizeOf132
  v145 := Tryz.zeroValue132
  t167 := Tryz.underlying87
  a167 := Tryz.isAgg87
  z167 := Tryz.sizeOf87
  v167 := Tryz.zeroValue87
  t168 := Tryz.underlying90
  a168 := Tryz.isAgg90
  z168 := Tryz.sizeOf90
  v168 := Tryz.zeroValue90
  t171 := Tryz.underlying95
  a171 := Tryz.isAgg95
  z171 := Tryz.sizeOf95
  v171 := Tryz.zeroValue95
  t173 := Tryz.underlying98
  a173 := Tryz.isAgg98
  z173 := Tryz.sizeOf98
  v173 := Tryz.zeroValue98
  t175 := Tryz.underlying103
  a175 := Tryz.isAgg103
  z175 := Tryz.sizeOf103
  v175 := Tryz.zeroValue103
  t210 := Tryz.underlying106
  a210 := Tryz.isAgg106
  z210 := Tryz.sizeOf106
  v210 := Tryz.zeroValue106
  t212 := Tryz.underlying125
  a212 := Tryz.isAgg125
  z212 := Tryz.sizeOf125
  v212 := Tryz.zeroValue125
  t213 := Tryz.underlying126
  a213 := Tryz.isAgg126
  z213 := Tryz.sizeOf126
  t232 := Tryz.underlying159
  a232 := Tryz.isAgg159
  z232 := Tryz.sizeOf159
  v232 := Tryz.zeroValue159
  t233 := Tryz.underlying160
  a233 := Tryz.isAgg160
  z233 := Tryz.sizeOf160
  v233 := Tryz.zeroValue160
  g15 := by kernel_rfl
  g16 := by kernel_rfl
  g17 := by kernel_rfl
  g18 := by kernel_rfl
  g19 := by kernel_rfl }
open Go.RowKit in
/-- strconv.Atoi: "Atoi is equivalent to ParseInt(s, 10, 0), converted to type int.": AT A DECIMAL NUMERAL OF AT MOST 18 BYTES: its value, and a nil error. The world behind the call: the one new row that the library's '[]byte(s)' lays. (LAID: no walk: one application.) -/
theorem Tryz.strconv_Atoi (s : ByteArray) (n : Int) (hl : s.size ≤ 18) (h : Lib.atoi s.data.toList = some n) (w : World) :
    Calls Tryz.prog 29 #[.string s] w fun e w' => e = .returned (.tuple #[.int .i64 n, .nilIface]) ∧ ∃ t, w' = Lib.bytesWorld w 5 t := Any.strconv_Atoi Tryz.lays172 s n hl h w
def Tryz.lays129_ren : Go.Shelf.Ren := ⟨fun | 129 => 79 | n => n, fun | 53 => 83 | 3 => 3 | 4 => 4 | 46 => 51 | 5 => 5 | 9 => 9 | n => n, fun | n => n⟩
theorem Tryz.lays129 : Go.Proofs.Lays.n129 Tryz.prog Tryz.lays129_ren := {
  mixed := by kernel_rfl
  f129 := Tryz.func79.trans (congrArg some (by kernel_rfl))
  t3 := Tryz.underlying3
  a3 := Tryz.isAgg3
  z3 := Tryz.sizeOf3
  v3 := Tryz.zeroValue3
  t4 := Tryz.underlying4
  a4 := Tryz.isAgg4
  z4 := Tryz.sizeOf4
  v4 := Tryz.zeroValue4
  t5 := Tryz.underlying5
  a5 := Tryz.isAgg5
  z5 := Tryz.sizeOf5
  v5 := Tryz.zeroValue5
  t9 := Tryz.underlying9
  a9 := Tryz.isAgg9
  z9 := Tryz.sizeOf9
  v9 := Tryz.zeroValue9
  t46 := Tryz.underlying51
  a46 := Tryz.isAgg51
  z46 := Tryz.sizeOf51
  v46 := Tryz.zeroValue51
  t53 := Tryz.underlying83
  a53 := Tryz.isAgg83
  z53 := Tryz.sizeOf83
  v53 := Tryz.zeroValue83 }
/-- bits.Len64: "Len64 returns the minimum number of bits required to represent x; the result is 0 for x == 0.": IT RETURNS 'Lib.bitLen x'; the world is as it was. ('h0', 'h1': x is a uint64.) (LAID: no walk: one application.) -/
theorem Tryz.bits_Len64 (x : Int) (w : World) (h0 : 0 ≤ x) (h1 : x ≤ 18446744073709551615) :
    Calls Tryz.prog 79 #[.int .u64 x] w fun e w' => e = .returned (.int .i64 (Lib.bitLen x.toNat)) ∧ w' = w := Any.bits_Len64 Tryz.lays129 x w h0 h1
def Tryz.lays317_ren : Go.Shelf.Ren := ⟨fun | 317 => 78 | n => n, fun | 3 => 3 | 46 => 51 | n => n, fun | n => n⟩
theorem Tryz.lays317 : Go.Proofs.Lays.n317 Tryz.prog Tryz.lays317_ren := {
  mixed := by kernel_rfl
  f317 := Tryz.func78.trans (congrArg some (by kernel_rfl))
  t3 := Tryz.underlying3
  a3 := Tryz.isAgg3
  z3 := Tryz.sizeOf3
  v3 := Tryz.zeroValue3
  t46 := Tryz.underlying51
  a46 := Tryz.isAgg51
  z46 := Tryz.sizeOf51
  v46 := Tryz.zeroValue51 }
open Go.Lib in
/-- internal/strconv.log10Pow2: "log10Pow2(x) returns ⌊log₁₀ 2**x⌋ = ⌊x * log₁₀ 2⌋.": '(x * 78913) >> 18', at an x up to 64 (a length in bits). The world is as it was. (LAID: no walk: one application.) -/
theorem Tryz.internal_strconv_log10Pow2 (x : Nat) (h : x ≤ 64) (w : World) :
    Calls Tryz.prog 78 #[.int .i64 x] w fun e w' => e = .returned (.int .i64 (Lib.l10 x)) ∧ w' = w := Any.internal_strconv_log10Pow2 Tryz.lays317 x h w
def Tryz.lays318_ren : Go.Shelf.Ren := ⟨fun | 318 => 80 | n => n, fun | 3 => 3 | 4 => 4 | n => n, fun | n => n⟩
theorem Tryz.lays318 : Go.Proofs.Lays.n318 Tryz.prog Tryz.lays318_ren := {
  mixed := by kernel_rfl
  f318 := Tryz.func80.trans (congrArg some (by kernel_rfl))
  t3 := Tryz.underlying3
  a3 := Tryz.isAgg3
  z3 := Tryz.sizeOf3
  v3 := Tryz.zeroValue3
  t4 := Tryz.underlying4
  a4 := Tryz.isAgg4
  z4 := Tryz.sizeOf4
  v4 := Tryz.zeroValue4 }
open Go.Lib in
/-- internal/strconv.bool2: "bool2 converts b to an integer: 1 for true, 0 for false." The world is as it was. (LAID: no walk: one application.) -/
theorem Tryz.internal_strconv_bool2_int (b : Bool) (w : World) :
    Calls Tryz.prog 80 #[.bool b] w fun e w' => e = .returned (.int .i64 (if b then 1 else 0)) ∧ w' = w := Any.internal_strconv_bool2_int Tryz.lays318 b w
def Tryz.lays283_ren : Go.Shelf.Ren := ⟨fun | 283 => 63 | n => n, fun | 3 => 3 | 9 => 9 | 4 => 4 | n => n, fun | n => n⟩
theorem Tryz.lays283 : Go.Proofs.Lays.n283 Tryz.prog Tryz.lays283_ren := {
  mixed := by kernel_rfl
  f283 := Tryz.func63.trans (congrArg some (by kernel_rfl))
  t3 := Tryz.underlying3
  a3 := Tryz.isAgg3
  z3 := Tryz.sizeOf3
  v3 := Tryz.zeroValue3
  t4 := Tryz.underlying4
  a4 := Tryz.isAgg4
  z4 := Tryz.sizeOf4
  v4 := Tryz.zeroValue4
  t9 := Tryz.underlying9
  a9 := Tryz.isAgg9
  z9 := Tryz.sizeOf9
  v9 := Tryz.zeroValue9 }
open Go.Lib in
/-- internal/strconv.small: "small returns the string for an i with 0 <= i < nSmalls.": i's decimal numeral. The world is as it was. (LAID: no walk: one application.) -/
theorem Tryz.internal_strconv_small (i : Nat) (h : i < 100) (w : World) :
    Calls Tryz.prog 63 #[.int .i64 i] w fun e w' => e = .returned (.string ⟨(Lib.decDigits i).toArray⟩) ∧ w' = w := Any.internal_strconv_small Tryz.lays283 i h w
def Tryz.laysM284_ren : Go.Shelf.Ren := ⟨fun | 284 => 64 | 129 => 79 | 317 => 78 | 318 => 80 | n => n, fun | 53 => 83 | 3 => 3 | 212 => 125 | 0 => 0 | 4 => 4 | 46 => 51 | 5 => 5 | 9 => 9 | n => n, fun | 17 => 2 | n => n⟩
theorem Tryz.laysM284 : Go.Proofs.LaysM.n284 Tryz.prog Tryz.laysM284_ren := {
  mixed := by kernel_rfl
  f129 := Tryz.func79.trans (congrArg some (by kernel_rfl))
  f284 := Tryz.func64.trans (congrArg some (by kernel_rfl))
  f317 := Tryz.func78.trans (congrArg some (by kernel_rfl))
  f318 := Tryz.func80.trans (congrArg some (by kernel_rfl))
  t0 := Tryz.underlying0
  a0 := Tryz.isAgg0
  z0 := Tryz.sizeOf0
  v0 := Tryz.zeroValue0
  t3 := Tryz.underlying3
  a3 := Tryz.isAgg3
  z3 := Tryz.sizeOf3
  v3 := Tryz.zeroValue3
  t4 := Tryz.underlying4
  a4 := Tryz.isAgg4
  z4 := Tryz.sizeOf4
  v4 := Tryz.zeroValue4
  t5 := Tryz.underlying5
  a5 := Tryz.isAgg5
  z5 := Tryz.sizeOf5
  v5 := Tryz.zeroValue5
  t9 := Tryz.underlying9
  a9 := Tryz.isAgg9
  z9 := Tryz.sizeOf9
  v9 := Tryz.zeroValue9
  t46 := Tryz.underlying51
  a46 := Tryz.isAgg51
  z46 := Tryz.sizeOf51
  v46 := Tryz.zeroValue51
  t53 := Tryz.underlying83
  a53 := Tryz.isAgg83
  z53 := Tryz.sizeOf83
  v53 := Tryz.zeroValue83
  t212 := Tryz.underlying125
  a212 := Tryz.isAgg125
  z212 := Tryz.sizeOf125
  v212 := Tryz.zeroValue125
  g17 := by kernel_rfl
  i0 := by kernel_rfl
  i3 := by kernel_rfl
  i4 := by kernel_rfl
  i5 := by kernel_rfl
  i9 := by kernel_rfl
  i46 := by kernel_rfl
  i53 := by kernel_rfl
  i212 := by kernel_rfl
  m17 := by kernel_rfl }
open Go.Lib in
/-- internal/strconv.numDigits, at a d that is not 0: THE NUMBER OF d's DECIMAL DIGITS. The world is as it was. (LAID: no walk: one application.) -/
theorem Tryz.internal_strconv_numDigits (u : Nat) (h1 : 1 ≤ u) (h2 : u < 18446744073709551616) (w : World) (htab : Lib.TabIs Tryz.prog w "internal/strconv.uint64pow10" .u64 Lib.pow10Tab) :
    Calls Tryz.prog 64 #[.int .u64 u] w fun e w' => e = .returned (.int .i64 (Lib.nDigits u)) ∧ w' = w := Any.internal_strconv_numDigits Tryz.laysM284 u h1 h2 w htab
def Tryz.lays285_ren : Go.Shelf.Ren := ⟨fun | 285 => 65 | n => n, fun | 37 => 36 | 53 => 83 | 3 => 3 | 4 => 4 | 51 => 66 | 9 => 9 | 5 => 5 | 0 => 0 | n => n, fun | n => n⟩
theorem Tryz.lays285 : Go.Proofs.Lays.n285 Tryz.prog Tryz.lays285_ren := {
  mixed := by kernel_rfl
  f285 := Tryz.func65.trans (congrArg some (by kernel_rfl))
  t0 := Tryz.underlying0
  a0 := Tryz.isAgg0
  z0 := Tryz.sizeOf0
  v0 := Tryz.zeroValue0
  t3 := Tryz.underlying3
  a3 := Tryz.isAgg3
  z3 := Tryz.sizeOf3
  v3 := Tryz.zeroValue3
  t4 := Tryz.underlying4
  a4 := Tryz.isAgg4
  z4 := Tryz.sizeOf4
  v4 := Tryz.zeroValue4
  t5 := Tryz.underlying5
  a5 := Tryz.isAgg5
  z5 := Tryz.sizeOf5
  v5 := Tryz.zeroValue5
  t9 := Tryz.underlying9
  a9 := Tryz.isAgg9
  z9 := Tryz.sizeOf9
  v9 := Tryz.zeroValue9
  t37 := Tryz.underlying36
  a37 := Tryz.isAgg36
  z37 := Tryz.sizeOf36
  v37 := Tryz.zeroValue36
  t51 := Tryz.underlying66
  a51 := Tryz.isAgg66
  z51 := Tryz.sizeOf66
  v51 := Tryz.zeroValue66
  t53 := Tryz.underlying83
  a53 := Tryz.isAgg83
  z53 := Tryz.sizeOf83
  v53 := Tryz.zeroValue83 }
open Go.RowKit Go.Sort Go.Lib in
/-- internal/strconv.formatBase10: "formatBase10 formats the decimal representation of u into a. The caller is responsible for ensuring that a is big enough to hold u. If a is too big, leading zeros will be filled in as needed.": THE ROW HOLDS u's DIGITS ('FmtInv .. 0 ..': every place t holds 'dg u (len - 1 - t)'); all else is as it was but for the count of draws. (LAID: no walk: one application.) -/
theorem Tryz.internal_strconv_formatBase10 (blk off cap : Nat) (u : Nat) (d : Array UInt8) (w : World) (hH : Holds (fun (b : UInt8) => Value.int .u8 (b.toNat : Int)) w blk off d) (hu : u < 10 ^ d.size) (hu64 : u < 18446744073709551616) (hsz : d.size < 4611686018427387904) :
    Calls Tryz.prog 65 #[.slice (some ⟨blk, off, none⟩) d.size cap, .int .u64 u] w fun e w' =>
      e = .returned (.tuple #[]) ∧ ∃ (n v' : Nat) (dk : Array UInt8), w' = (putRow (fun (b : UInt8) => Value.int .u8 (b.toNat : Int)) w blk off dk).drewN n ∧ FmtInv d.size u 0 v' dk := Any.internal_strconv_formatBase10 Tryz.lays285 blk off cap u d w hH hu hu64 hsz
def Tryz.laysM246_ren : Go.Shelf.Ren := ⟨fun | 246 => 49 | 283 => 63 | 284 => 64 | 285 => 65 | 286 => 66 | 129 => 79 | 317 => 78 | 318 => 80 | 319 => 81 | 320 => 82 | 337 => 91 | 338 => 92 | n => n, fun | 2 => 2 | 3 => 3 | 9 => 9 | 4 => 4 | 171 => 95 | 0 => 0 | 53 => 83 | 37 => 36 | 5 => 5 | 173 => 98 | 212 => 125 | 51 => 66 | 20 => 20 | 213 => 126 | 46 => 51 | 232 => 159 | 233 => 160 | n => n, fun | 17 => 2 | 18 => 4 | 19 => 5 | n => n⟩
theorem Tryz.laysM246 : Go.Proofs.LaysM.n246 Tryz.prog Tryz.laysM246_ren := {
  mixed := by kernel_rfl
  f129 := Tryz.func79.trans (congrArg some (by kernel_rfl))
  f246 := Tryz.func49.trans (congrArg some (by kernel_rfl))
  f283 := Tryz.func63.trans (congrArg some (by kernel_rfl))
  f284 := Tryz.func64.trans (congrArg some (by kernel_rfl))
  f285 := Tryz.func65.trans (congrArg some (by kernel_rfl))
  f286 := Tryz.func66.trans (congrArg some (by kernel_rfl))
  f317 := Tryz.func78.trans (congrArg some (by kernel_rfl))
  f318 := Tryz.func80.trans (congrArg some (by kernel_rfl))
  f319 := Tryz.func81.trans (congrArg some (by kernel_rfl))
  f320 := Tryz.func82.trans (congrArg some (by kernel_rfl))
  f337 := Tryz.func91.trans (congrArg some (by kernel_rfl))
  f338 := Tryz.func92.trans (congrArg some (by kernel_rfl))
  t0 := Tryz.underlying0
  a0 := Tryz.isAgg0
  z0 := Tryz.sizeOf0
  v0 := Tryz.zeroValue0
  t2 := Tryz.underlying2
  a2 := Tryz.isAgg2
  z2 := Tryz.sizeOf2
  v2 := Tryz.zeroValue2
  t3 := Tryz.underlying3
  a3 := Tryz.isAgg3
  z3 := Tryz.sizeOf3
  v3 := Tryz.zeroValue3
  t4 := Tryz.underlying4
  a4 := Tryz.isAgg4
  z4 := Tryz.sizeOf4
  v4 := Tryz.zeroValue4
  t5 := Tryz.underlying5
  a5 := Tryz.isAgg5
  z5 := Tryz.sizeOf5
  v5 := Tryz.zeroValue5
  t9 := Tryz.underlying9
  a9 := Tryz.isAgg9
  z9 := Tryz.sizeOf9
  v9 := Tryz.zeroValue9
  t20 := Tryz.underlying20
  a20 := Tryz.isAgg20
  z20 := Tryz.sizeOf20
  v20 := Tryz.zeroValue20
  t37 := Tryz.underlying36
  a37 := Tryz.isAgg36
  z37 := Tryz.sizeOf36
  v37 := Tryz.zeroValue36
  t46 := Tryz.underlying51
  a46 := Tryz.isAgg51
  z46 := Tryz.sizeOf51
  v46 := Tryz.zeroValue51
  t51 := Tryz.underlying66
  a51 := Tryz.isAgg66
  z51 := Tryz.sizeOf66
  v51 := Tryz.zeroValue66
  t53 := Tryz.underlying83
  a53 := Tryz.isAgg83
  z53 := Tryz.sizeOf83
  v53 := Tryz.zeroValue83
  t171 := Tryz.underlying95
  a171 := Tryz.isAgg95
  z171 := Tryz.sizeOf95
  v171 := Tryz.zeroValue95
  t173 := Tryz.underlying98
  a173 := Tryz.isAgg98
  z173 := Tryz.sizeOf98
  v173 := Tryz.zeroValue98
  t212 := Tryz.underlying125
  a212 := Tryz.isAgg125
  z212 := Tryz.sizeOf125
  v212 := Tryz.zeroValue125
  t213 := Tryz.underlying126
  a213 := Tryz.isAgg126
  z213 := Tryz.sizeOf126
  t232 := Tryz.underlying159
  a232 := Tryz.isAgg159
  z232 := Tryz.sizeOf159
  v232 := Tryz.zeroValue159
  t233 := Tryz.underlying160
  a233 := Tryz.isAgg160
  z233 := Tryz.sizeOf160
  v233 := Tryz.zeroValue160
  g17 := by kernel_rfl
  g18 := by kernel_rfl
  g19 := by kernel_rfl
  i0 := by kernel_rfl
  i2 := by kernel_rfl
  i3 := by kernel_rfl
  i4 := by kernel_rfl
  i5 := by kernel_rfl
  i9 := by kernel_rfl
  i20 := by kernel_rfl
  i37 := by kernel_rfl
  i46 := by kernel_rfl
  i51 := by kernel_rfl
  i53 := by kernel_rfl
  i171 := by kernel_rfl
  i173 := by kernel_rfl
  i212 := by kernel_rfl
  i232 := by kernel_rfl
  i233 := by kernel_rfl
  m17 := by kernel_rfl
  m18 := by kernel_rfl
  m19 := by kernel_rfl }
open Go.RowKit Go.Sort Go.Lib in
/-- internal/strconv.FormatInt: "FormatInt returns the string representation of i in the given base": AT BASE 10: i's decimal numeral, for every int64. The world behind the call: the world before it, new blocks behind the heap, draws. (LAID: no walk: one application.) -/
theorem Tryz.internal_strconv_FormatInt_10 (n : Int) (h0 : -9223372036854775808 ≤ n) (h1 : n ≤ 9223372036854775807) (w : World) (htab : Lib.TabIs Tryz.prog w "internal/strconv.uint64pow10" .u64 Lib.pow10Tab) :
    Calls Tryz.prog 49 #[.int .i64 n, .int .i64 10] w fun e w' => e = .returned (.string ⟨(Lib.itoa n).toArray⟩) ∧ ∃ k os, w' = grow (w.drewN k) os := Any.internal_strconv_FormatInt_10 Tryz.laysM246 n h0 h1 w htab
def Tryz.lays246_ren : Go.Shelf.Ren := ⟨fun | 246 => 49 | 283 => 63 | 284 => 64 | 285 => 65 | 286 => 66 | 129 => 79 | 317 => 78 | 318 => 80 | 319 => 81 | 320 => 82 | 337 => 91 | 338 => 92 | n => n, fun | 2 => 2 | 3 => 3 | 9 => 9 | 4 => 4 | 171 => 95 | 0 => 0 | 53 => 83 | 37 => 36 | 5 => 5 | 173 => 98 | 212 => 125 | 51 => 66 | 20 => 20 | 213 => 126 | 46 => 51 | 232 => 159 | 233 => 160 | n => n, fun | 17 => 2 | 18 => 4 | 19 => 5 | n => n⟩
theorem Tryz.lays246 : Go.Proofs.Lays.n246 Tryz.prog Tryz.lays246_ren := {
  mixed := by kernel_rfl
  f129 := Tryz.func79.trans (congrArg some (by kernel_rfl))
  f246 := Tryz.func49.trans (congrArg some (by kernel_rfl))
  f283 := Tryz.func63.trans (congrArg some (by kernel_rfl))
  f284 := Tryz.func64.trans (congrArg some (by kernel_rfl))
  f285 := Tryz.func65.trans (congrArg some (by kernel_rfl))
  f286 := Tryz.func66.trans (congrArg some (by kernel_rfl))
  f317 := Tryz.func78.trans (congrArg some (by kernel_rfl))
  f318 := Tryz.func80.trans (congrArg some (by kernel_rfl))
  f319 := Tryz.func81.trans (congrArg some (by kernel_rfl))
  f320 := Tryz.func82.trans (congrArg some (by kernel_rfl))
  f337 := Tryz.func91.trans (congrArg some (by kernel_rfl))
  f338 := Tryz.func92.trans (congrArg some (by kernel_rfl))
  t0 := Tryz.underlying0
  a0 := Tryz.isAgg0
  z0 := Tryz.sizeOf0
  v0 := Tryz.zeroValue0
  t2 := Tryz.underlying2
  a2 := Tryz.isAgg2
  z2 := Tryz.sizeOf2
  v2 := Tryz.zeroValue2
  t3 := Tryz.underlying3
  a3 := Tryz.isAgg3
  z3 := Tryz.sizeOf3
  v3 := Tryz.zeroValue3
  t4 := Tryz.underlying4
  a4 := Tryz.isAgg4
  z4 := Tryz.sizeOf4
  v4 := Tryz.zeroValue4
  t5 := Tryz.underlying5
  a5 := Tryz.isAgg5
  z5 := Tryz.sizeOf5
  v5 := Tryz.zeroValue5
  t9 := Tryz.underlying9
  a9 := Tryz.isAgg9
  z9 := Tryz.sizeOf9
  v9 := Tryz.zeroValue9
  t20 := Tryz.underlying20
  a20 := Tryz.isAgg20
  z20 := Tryz.sizeOf20
  v20 := Tryz.zeroValue20
  t37 := Tryz.underlying36
  a37 := Tryz.isAgg36
  z37 := Tryz.sizeOf36
  v37 := Tryz.zeroValue36
  t46 := Tryz.underlying51
  a46 := Tryz.isAgg51
  z46 := Tryz.sizeOf51
  v46 := Tryz.zeroValue51
  t51 := Tryz.underlying66
  a51 := Tryz.isAgg66
  z51 := Tryz.sizeOf66
  v51 := Tryz.zeroValue66
  t53 := Tryz.underlying83
  a53 := Tryz.isAgg83
  z53 := Tryz.sizeOf83
  v53 := Tryz.zeroValue83
  t171 := Tryz.underlying95
  a171 := Tryz.isAgg95
  z171 := Tryz.sizeOf95
  v171 := Tryz.zeroValue95
  t173 := Tryz.underlying98
  a173 := Tryz.isAgg98
  z173 := Tryz.sizeOf98
  v173 := Tryz.zeroValue98
  t212 := Tryz.underlying125
  a212 := Tryz.isAgg125
  z212 := Tryz.sizeOf125
  v212 := Tryz.zeroValue125
  t213 := Tryz.underlying126
  a213 := Tryz.isAgg126
  z213 := Tryz.sizeOf126
  t232 := Tryz.underlying159
  a232 := Tryz.isAgg159
  z232 := Tryz.sizeOf159
  v232 := Tryz.zeroValue159
  t233 := Tryz.underlying160
  a233 := Tryz.isAgg160
  z233 := Tryz.sizeOf160
  v233 := Tryz.zeroValue160
  g17 := by kernel_rfl
  g18 := by kernel_rfl
  g19 := by kernel_rfl }
open Go.RowKit Go.Sort Go.Lib in
/-- THE ROAD WITHOUT THE TABLE: 0 <= i < 100: two constants are read, nothing is laid: no premise on the world, and the world is as it was. (LAID: no walk: one application.) -/
theorem Tryz.internal_strconv_FormatInt_10_small (i : Nat) (hi : i < 100) (w : World) :
    Calls Tryz.prog 49 #[.int .i64 i, .int .i64 10] w fun e w' => e = .returned (.string ⟨(Lib.decDigits i).toArray⟩) ∧ w' = w := Any.internal_strconv_FormatInt_10_small Tryz.lays246 i hi w
def Tryz.laysM243_ren : Go.Shelf.Ren := ⟨fun | 243 => 38 | 246 => 49 | 283 => 63 | 284 => 64 | 285 => 65 | 286 => 66 | 129 => 79 | 317 => 78 | 318 => 80 | 319 => 81 | 320 => 82 | 337 => 91 | 338 => 92 | n => n, fun | 3 => 3 | 9 => 9 | 2 => 2 | 4 => 4 | 171 => 95 | 0 => 0 | 53 => 83 | 37 => 36 | 5 => 5 | 173 => 98 | 212 => 125 | 51 => 66 | 20 => 20 | 213 => 126 | 46 => 51 | 232 => 159 | 233 => 160 | n => n, fun | 17 => 2 | 18 => 4 | 19 => 5 | n => n⟩
theorem Tryz.laysM243 : Go.Proofs.LaysM.n243 Tryz.prog Tryz.laysM243_ren := {
  mixed := by kernel_rfl
  f129 := Tryz.func79.trans (congrArg some (by kernel_rfl))
  f243 := Tryz.func38.trans (congrArg some (by kernel_rfl))
  f246 := Tryz.func49.trans (congrArg some (by kernel_rfl))
  f283 := Tryz.func63.trans (congrArg some (by kernel_rfl))
  f284 := Tryz.func64.trans (congrArg some (by kernel_rfl))
  f285 := Tryz.func65.trans (congrArg some (by kernel_rfl))
  f286 := Tryz.func66.trans (congrArg some (by kernel_rfl))
  f317 := Tryz.func78.trans (congrArg some (by kernel_rfl))
  f318 := Tryz.func80.trans (congrArg some (by kernel_rfl))
  f319 := Tryz.func81.trans (congrArg some (by kernel_rfl))
  f320 := Tryz.func82.trans (congrArg some (by kernel_rfl))
  f337 := Tryz.func91.trans (congrArg some (by kernel_rfl))
  f338 := Tryz.func92.trans (congrArg some (by kernel_rfl))
  t0 := Tryz.underlying0
  a0 := Tryz.isAgg0
  z0 := Tryz.sizeOf0
  v0 := Tryz.zeroValue0
  t2 := Tryz.underlying2
  a2 := Tryz.isAgg2
  z2 := Tryz.sizeOf2
  v2 := Tryz.zeroValue2
  t3 := Tryz.underlying3
  a3 := Tryz.isAgg3
  z3 := Tryz.sizeOf3
  v3 := Tryz.zeroValue3
  t4 := Tryz.underlying4
  a4 := Tryz.isAgg4
  z4 := Tryz.sizeOf4
  v4 := Tryz.zeroValue4
  t5 := Tryz.underlying5
  a5 := Tryz.isAgg5
  z5 := Tryz.sizeOf5
  v5 := Tryz.zeroValue5
  t9 := Tryz.underlying9
  a9 := Tryz.isAgg9
  z9 := Tryz.sizeOf9
  v9 := Tryz.zeroValue9
  t20 := Tryz.underlying20
  a20 := Tryz.isAgg20
  z20 := Tryz.sizeOf20
  v20 := Tryz.zeroValue20
  t37 := Tryz.underlying36
  a37 := Tryz.isAgg36
  z37 := Tryz.sizeOf36
  v37 := Tryz.zeroValue36
  t46 := Tryz.underlying51
  a46 := Tryz.isAgg51
  z46 := Tryz.sizeOf51
  v46 := Tryz.zeroValue51
  t51 := Tryz.underlying66
  a51 := Tryz.isAgg66
  z51 := Tryz.sizeOf66
  v51 := Tryz.zeroValue66
  t53 := Tryz.underlying83
  a53 := Tryz.isAgg83
  z53 := Tryz.sizeOf83
  v53 := Tryz.zeroValue83
  t171 := Tryz.underlying95
  a171 := Tryz.isAgg95
  z171 := Tryz.sizeOf95
  v171 := Tryz.zeroValue95
  t173 := Tryz.underlying98
  a173 := Tryz.isAgg98
  z173 := Tryz.sizeOf98
  v173 := Tryz.zeroValue98
  t212 := Tryz.underlying125
  a212 := Tryz.isAgg125
  z212 := Tryz.sizeOf125
  v212 := Tryz.zeroValue125
  t213 := Tryz.underlying126
  a213 := Tryz.isAgg126
  z213 := Tryz.sizeOf126
  t232 := Tryz.underlying159
  a232 := Tryz.isAgg159
  z232 := Tryz.sizeOf159
  v232 := Tryz.zeroValue159
  t233 := Tryz.underlying160
  a233 := Tryz.isAgg160
  z233 := Tryz.sizeOf160
  v233 := Tryz.zeroValue160
  g17 := by kernel_rfl
  g18 := by kernel_rfl
  g19 := by kernel_rfl
  i0 := by kernel_rfl
  i2 := by kernel_rfl
  i3 := by kernel_rfl
  i4 := by kernel_rfl
  i5 := by kernel_rfl
  i9 := by kernel_rfl
  i20 := by kernel_rfl
  i37 := by kernel_rfl
  i46 := by kernel_rfl
  i51 := by kernel_rfl
  i53 := by kernel_rfl
  i171 := by kernel_rfl
  i173 := by kernel_rfl
  i212 := by kernel_rfl
  i232 := by kernel_rfl
  i233 := by kernel_rfl
  m17 := by kernel_rfl
  m18 := by kernel_rfl
  m19 := by kernel_rfl }
open Go.RowKit Go.Sort Go.Lib in
/-- internal/strconv.Itoa: "Itoa is equivalent to FormatInt(int64(i), 10).": i's decimal numeral, for every int. (LAID: no walk: one application.) -/
theorem Tryz.internal_strconv_Itoa (n : Int) (h0 : -9223372036854775808 ≤ n) (h1 : n ≤ 9223372036854775807) (w : World) (htab : Lib.TabIs Tryz.prog w "internal/strconv.uint64pow10" .u64 Lib.pow10Tab) :
    Calls Tryz.prog 38 #[.int .i64 n] w fun e w' => e = .returned (.string ⟨(Lib.itoa n).toArray⟩) ∧ ∃ k os, w' = grow (w.drewN k) os := Any.internal_strconv_Itoa Tryz.laysM243 n h0 h1 w htab
def Tryz.lays243_ren : Go.Shelf.Ren := ⟨fun | 243 => 38 | 246 => 49 | 283 => 63 | 284 => 64 | 285 => 65 | 286 => 66 | 129 => 79 | 317 => 78 | 318 => 80 | 319 => 81 | 320 => 82 | 337 => 91 | 338 => 92 | n => n, fun | 3 => 3 | 9 => 9 | 2 => 2 | 4 => 4 | 171 => 95 | 0 => 0 | 53 => 83 | 37 => 36 | 5 => 5 | 173 => 98 | 212 => 125 | 51 => 66 | 20 => 20 | 213 => 126 | 46 => 51 | 232 => 159 | 233 => 160 | n => n, fun | 17 => 2 | 18 => 4 | 19 => 5 | n => n⟩
theorem Tryz.lays243 : Go.Proofs.Lays.n243 Tryz.prog Tryz.lays243_ren := {
  mixed := by kernel_rfl
  f129 := Tryz.func79.trans (congrArg some (by kernel_rfl))
  f243 := Tryz.func38.trans (congrArg some (by kernel_rfl))
  f246 := Tryz.func49.trans (congrArg some (by kernel_rfl))
  f283 := Tryz.func63.trans (congrArg some (by kernel_rfl))
  f284 := Tryz.func64.trans (congrArg some (by kernel_rfl))
  f285 := Tryz.func65.trans (congrArg some (by kernel_rfl))
  f286 := Tryz.func66.trans (congrArg some (by kernel_rfl))
  f317 := Tryz.func78.trans (congrArg some (by kernel_rfl))
  f318 := Tryz.func80.trans (congrArg some (by kernel_rfl))
  f319 := Tryz.func81.trans (congrArg some (by kernel_rfl))
  f320 := Tryz.func82.trans (congrArg some (by kernel_rfl))
  f337 := Tryz.func91.trans (congrArg some (by kernel_rfl))
  f338 := Tryz.func92.trans (congrArg some (by kernel_rfl))
  t0 := Tryz.underlying0
  a0 := Tryz.isAgg0
  z0 := Tryz.sizeOf0
  v0 := Tryz.zeroValue0
  t2 := Tryz.underlying2
  a2 := Tryz.isAgg2
  z2 := Tryz.sizeOf2
  v2 := Tryz.zeroValue2
  t3 := Tryz.underlying3
  a3 := Tryz.isAgg3
  z3 := Tryz.sizeOf3
  v3 := Tryz.zeroValue3
  t4 := Tryz.underlying4
  a4 := Tryz.isAgg4
  z4 := Tryz.sizeOf4
  v4 := Tryz.zeroValue4
  t5 := Tryz.underlying5
  a5 := Tryz.isAgg5
  z5 := Tryz.sizeOf5
  v5 := Tryz.zeroValue5
  t9 := Tryz.underlying9
  a9 := Tryz.isAgg9
  z9 := Tryz.sizeOf9
  v9 := Tryz.zeroValue9
  t20 := Tryz.underlying20
  a20 := Tryz.isAgg20
  z20 := Tryz.sizeOf20
  v20 := Tryz.zeroValue20
  t37 := Tryz.underlying36
  a37 := Tryz.isAgg36
  z37 := Tryz.sizeOf36
  v37 := Tryz.zeroValue36
  t46 := Tryz.underlying51
  a46 := Tryz.isAgg51
  z46 := Tryz.sizeOf51
  v46 := Tryz.zeroValue51
  t51 := Tryz.underlying66
  a51 := Tryz.isAgg66
  z51 := Tryz.sizeOf66
  v51 := Tryz.zeroValue66
  t53 := Tryz.underlying83
  a53 := Tryz.isAgg83
  z53 := Tryz.sizeOf83
  v53 := Tryz.zeroValue83
  t171 := Tryz.underlying95
  a171 := Tryz.isAgg95
  z171 := Tryz.sizeOf95
  v171 := Tryz.zeroValue95
  t173 := Tryz.underlying98
  a173 := Tryz.isAgg98
  z173 := Tryz.sizeOf98
  v173 := Tryz.zeroValue98
  t212 := Tryz.underlying125
  a212 := Tryz.isAgg125
  z212 := Tryz.sizeOf125
  v212 := Tryz.zeroValue125
  t213 := Tryz.underlying126
  a213 := Tryz.isAgg126
  z213 := Tryz.sizeOf126
  t232 := Tryz.underlying159
  a232 := Tryz.isAgg159
  z232 := Tryz.sizeOf159
  v232 := Tryz.zeroValue159
  t233 := Tryz.underlying160
  a233 := Tryz.isAgg160
  z233 := Tryz.sizeOf160
  v233 := Tryz.zeroValue160
  g17 := by kernel_rfl
  g18 := by kernel_rfl
  g19 := by kernel_rfl }
open Go.RowKit Go.Sort Go.Lib in
/-- THE ROAD WITHOUT THE TABLE: 0 <= i < 100. (LAID: no walk: one application.) -/
theorem Tryz.internal_strconv_Itoa_small (i : Nat) (hi : i < 100) (w : World) :
    Calls Tryz.prog 38 #[.int .i64 i] w fun e w' => e = .returned (.string ⟨(Lib.decDigits i).toArray⟩) ∧ w' = w := Any.internal_strconv_Itoa_small Tryz.lays243 i hi w
def Tryz.laysM171_ren : Go.Shelf.Ren := ⟨fun | 171 => 26 | 243 => 38 | 246 => 49 | 283 => 63 | 284 => 64 | 285 => 65 | 286 => 66 | 129 => 79 | 317 => 78 | 318 => 80 | 319 => 81 | 320 => 82 | 337 => 91 | 338 => 92 | n => n, fun | 3 => 3 | 9 => 9 | 2 => 2 | 4 => 4 | 171 => 95 | 0 => 0 | 53 => 83 | 37 => 36 | 5 => 5 | 173 => 98 | 212 => 125 | 51 => 66 | 20 => 20 | 213 => 126 | 46 => 51 | 232 => 159 | 233 => 160 | n => n, fun | 17 => 2 | 18 => 4 | 19 => 5 | n => n⟩
theorem Tryz.laysM171 : Go.Proofs.LaysM.n171 Tryz.prog Tryz.laysM171_ren := {
  mixed := by kernel_rfl
  f129 := Tryz.func79.trans (congrArg some (by kernel_rfl))
  f171 := Tryz.func26.trans (congrArg some (by kernel_rfl))
  f243 := Tryz.func38.trans (congrArg some (by kernel_rfl))
  f246 := Tryz.func49.trans (congrArg some (by kernel_rfl))
  f283 := Tryz.func63.trans (congrArg some (by kernel_rfl))
  f284 := Tryz.func64.trans (congrArg some (by kernel_rfl))
  f285 := Tryz.func65.trans (congrArg some (by kernel_rfl))
  f286 := Tryz.func66.trans (congrArg some (by kernel_rfl))
  f317 := Tryz.func78.trans (congrArg some (by kernel_rfl))
  f318 := Tryz.func80.trans (congrArg some (by kernel_rfl))
  f319 := Tryz.func81.trans (congrArg some (by kernel_rfl))
  f320 := Tryz.func82.trans (congrArg some (by kernel_rfl))
  f337 := Tryz.func91.trans (congrArg some (by kernel_rfl))
  f338 := Tryz.func92.trans (congrArg some (by kernel_rfl))
  t0 := Tryz.underlying0
  a0 := Tryz.isAgg0
  z0 := Tryz.sizeOf0
  v0 := Tryz.zeroValue0
  t2 := Tryz.underlying2
  a2 := Tryz.isAgg2
  z2 := Tryz.sizeOf2
  v2 := Tryz.zeroValue2
  t3 := Tryz.underlying3
  a3 := Tryz.isAgg3
  z3 := Tryz.sizeOf3
  v3 := Tryz.zeroValue3
  t4 := Tryz.underlying4
  a4 := Tryz.isAgg4
  z4 := Tryz.sizeOf4
  v4 := Tryz.zeroValue4
  t5 := Tryz.underlying5
  a5 := Tryz.isAgg5
  z5 := Tryz.sizeOf5
  v5 := Tryz.zeroValue5
  t9 := Tryz.underlying9
  a9 := Tryz.isAgg9
  z9 := Tryz.sizeOf9
  v9 := Tryz.zeroValue9
  t20 := Tryz.underlying20
  a20 := Tryz.isAgg20
  z20 := Tryz.sizeOf20
  v20 := Tryz.zeroValue20
  t37 := Tryz.underlying36
  a37 := Tryz.isAgg36
  z37 := Tryz.sizeOf36
  v37 := Tryz.zeroValue36
  t46 := Tryz.underlying51
  a46 := Tryz.isAgg51
  z46 := Tryz.sizeOf51
  v46 := Tryz.zeroValue51
  t51 := Tryz.underlying66
  a51 := Tryz.isAgg66
  z51 := Tryz.sizeOf66
  v51 := Tryz.zeroValue66
  t53 := Tryz.underlying83
  a53 := Tryz.isAgg83
  z53 := Tryz.sizeOf83
  v53 := Tryz.zeroValue83
  t171 := Tryz.underlying95
  a171 := Tryz.isAgg95
  z171 := Tryz.sizeOf95
  v171 := Tryz.zeroValue95
  t173 := Tryz.underlying98
  a173 := Tryz.isAgg98
  z173 := Tryz.sizeOf98
  v173 := Tryz.zeroValue98
  t212 := Tryz.underlying125
  a212 := Tryz.isAgg125
  z212 := Tryz.sizeOf125
  v212 := Tryz.zeroValue125
  t213 := Tryz.underlying126
  a213 := Tryz.isAgg126
  z213 := Tryz.sizeOf126
  t232 := Tryz.underlying159
  a232 := Tryz.isAgg159
  z232 := Tryz.sizeOf159
  v232 := Tryz.zeroValue159
  t233 := Tryz.underlying160
  a233 := Tryz.isAgg160
  z233 := Tryz.sizeOf160
  v233 := Tryz.zeroValue160
  g17 := by kernel_rfl
  g18 := by kernel_rfl
  g19 := by kernel_rfl
  i0 := by kernel_rfl
  i2 := by kernel_rfl
  i3 := by kernel_rfl
  i4 := by kernel_rfl
  i5 := by kernel_rfl
  i9 := by kernel_rfl
  i20 := by kernel_rfl
  i37 := by kernel_rfl
  i46 := by kernel_rfl
  i51 := by kernel_rfl
  i53 := by kernel_rfl
  i171 := by kernel_rfl
  i173 := by kernel_rfl
  i212 := by kernel_rfl
  i232 := by kernel_rfl
  i233 := by kernel_rfl
  m17 := by kernel_rfl
  m18 := by kernel_rfl
  m19 := by kernel_rfl }
open Go.RowKit Go.Sort Go.Lib in
/-- strconv.Itoa: "Itoa is equivalent to FormatInt(int64(i), 10).": i's DECIMAL NUMERAL ('Lib.itoa': a '-' where i is negative, then the digits), FOR EVERY int. The world behind the call: the world before it, new blocks behind the heap (the library's 'var a [24]byte'), draws. (LAID: no walk: one application.) -/
theorem Tryz.strconv_Itoa (n : Int) (h0 : -9223372036854775808 ≤ n) (h1 : n ≤ 9223372036854775807) (w : World) (htab : Lib.TabIs Tryz.prog w "internal/strconv.uint64pow10" .u64 Lib.pow10Tab) :
    Calls Tryz.prog 26 #[.int .i64 n] w fun e w' => e = .returned (.string ⟨(Lib.itoa n).toArray⟩) ∧ ∃ k os, w' = grow (w.drewN k) os := Any.strconv_Itoa Tryz.laysM171 n h0 h1 w htab
def Tryz.lays171_ren : Go.Shelf.Ren := ⟨fun | 171 => 26 | 243 => 38 | 246 => 49 | 283 => 63 | 284 => 64 | 285 => 65 | 286 => 66 | 129 => 79 | 317 => 78 | 318 => 80 | 319 => 81 | 320 => 82 | 337 => 91 | 338 => 92 | n => n, fun | 3 => 3 | 9 => 9 | 2 => 2 | 4 => 4 | 171 => 95 | 0 => 0 | 53 => 83 | 37 => 36 | 5 => 5 | 173 => 98 | 212 => 125 | 51 => 66 | 20 => 20 | 213 => 126 | 46 => 51 | 232 => 159 | 233 => 160 | n => n, fun | 17 => 2 | 18 => 4 | 19 => 5 | n => n⟩
theorem Tryz.lays171 : Go.Proofs.Lays.n171 Tryz.prog Tryz.lays171_ren := {
  mixed := by kernel_rfl
  f129 := Tryz.func79.trans (congrArg some (by kernel_rfl))
  f171 := Tryz.func26.trans (congrArg some (by kernel_rfl))
  f243 := Tryz.func38.trans (congrArg some (by kernel_rfl))
  f246 := Tryz.func49.trans (congrArg some (by kernel_rfl))
  f283 := Tryz.func63.trans (congrArg some (by kernel_rfl))
  f284 := Tryz.func64.trans (congrArg some (by kernel_rfl))
  f285 := Tryz.func65.trans (congrArg some (by kernel_rfl))
  f286 := Tryz.func66.trans (congrArg some (by kernel_rfl))
  f317 := Tryz.func78.trans (congrArg some (by kernel_rfl))
  f318 := Tryz.func80.trans (congrArg some (by kernel_rfl))
  f319 := Tryz.func81.trans (congrArg some (by kernel_rfl))
  f320 := Tryz.func82.trans (congrArg some (by kernel_rfl))
  f337 := Tryz.func91.trans (congrArg some (by kernel_rfl))
  f338 := Tryz.func92.trans (congrArg some (by kernel_rfl))
  t0 := Tryz.underlying0
  a0 := Tryz.isAgg0
  z0 := Tryz.sizeOf0
  v0 := Tryz.zeroValue0
  t2 := Tryz.underlying2
  a2 := Tryz.isAgg2
  z2 := Tryz.sizeOf2
  v2 := Tryz.zeroValue2
  t3 := Tryz.underlying3
  a3 := Tryz.isAgg3
  z3 := Tryz.sizeOf3
  v3 := Tryz.zeroValue3
  t4 := Tryz.underlying4
  a4 := Tryz.isAgg4
  z4 := Tryz.sizeOf4
  v4 := Tryz.zeroValue4
  t5 := Tryz.underlying5
  a5 := Tryz.isAgg5
  z5 := Tryz.sizeOf5
  v5 := Tryz.zeroValue5
  t9 := Tryz.underlying9
  a9 := Tryz.isAgg9
  z9 := Tryz.sizeOf9
  v9 := Tryz.zeroValue9
  t20 := Tryz.underlying20
  a20 := Tryz.isAgg20
  z20 := Tryz.sizeOf20
  v20 := Tryz.zeroValue20
  t37 := Tryz.underlying36
  a37 := Tryz.isAgg36
  z37 := Tryz.sizeOf36
  v37 := Tryz.zeroValue36
  t46 := Tryz.underlying51
  a46 := Tryz.isAgg51
  z46 := Tryz.sizeOf51
  v46 := Tryz.zeroValue51
  t51 := Tryz.underlying66
  a51 := Tryz.isAgg66
  z51 := Tryz.sizeOf66
  v51 := Tryz.zeroValue66
  t53 := Tryz.underlying83
  a53 := Tryz.isAgg83
  z53 := Tryz.sizeOf83
  v53 := Tryz.zeroValue83
  t171 := Tryz.underlying95
  a171 := Tryz.isAgg95
  z171 := Tryz.sizeOf95
  v171 := Tryz.zeroValue95
  t173 := Tryz.underlying98
  a173 := Tryz.isAgg98
  z173 := Tryz.sizeOf98
  v173 := Tryz.zeroValue98
  t212 := Tryz.underlying125
  a212 := Tryz.isAgg125
  z212 := Tryz.sizeOf125
  v212 := Tryz.zeroValue125
  t213 := Tryz.underlying126
  a213 := Tryz.isAgg126
  z213 := Tryz.sizeOf126
  t232 := Tryz.underlying159
  a232 := Tryz.isAgg159
  z232 := Tryz.sizeOf159
  v232 := Tryz.zeroValue159
  t233 := Tryz.underlying160
  a233 := Tryz.isAgg160
  z233 := Tryz.sizeOf160
  v233 := Tryz.zeroValue160
  g17 := by kernel_rfl
  g18 := by kernel_rfl
  g19 := by kernel_rfl }
open Go.RowKit Go.Sort Go.Lib in
/-- THE ROAD WITHOUT THE TABLE: 0 <= i < 100: NO PREMISE ON THE WORLD, AND THE WORLD IS AS IT WAS: a row that keeps its argument in that range need list no table ('laid = []'). (LAID: no walk: one application.) -/
theorem Tryz.strconv_Itoa_small (i : Nat) (hi : i < 100) (w : World) :
    Calls Tryz.prog 26 #[.int .i64 i] w fun e w' => e = .returned (.string ⟨(Lib.decDigits i).toArray⟩) ∧ w' = w := Any.strconv_Itoa_small Tryz.lays171 i hi w
def Tryz.lays217_ren : Go.Shelf.Ren := ⟨fun | 217 => 144 | 266 => 148 | n => n, fun | 9 => 9 | 5 => 5 | 3 => 3 | n => n, fun | n => n⟩
theorem Tryz.lays217 : Go.Proofs.Lays.n217 Tryz.prog Tryz.lays217_ren := {
  mixed := by kernel_rfl
  f217 := Tryz.func144.trans (congrArg some (by kernel_rfl))
  f266 := Tryz.func148.trans (congrArg some (by kernel_rfl))
  t3 := Tryz.underlying3
  a3 := Tryz.isAgg3
  z3 := Tryz.sizeOf3
  v3 := Tryz.zeroValue3
  t5 := Tryz.underlying5
  a5 := Tryz.isAgg5
  z5 := Tryz.sizeOf5
  v5 := Tryz.zeroValue5
  t9 := Tryz.underlying9
  a9 := Tryz.isAgg9
  z9 := Tryz.sizeOf9
  v9 := Tryz.zeroValue9 }
open Go.RowKit Go.Lib in
/-- internal/stringslite.IndexByte (what strings.IndexByte calls): IT RETURNS 'Lib.indexByte s c'; the world is as it was. (LAID: no walk: one application.) -/
theorem Tryz.stringslite_IndexByte (s : ByteArray) (c : Int) (w : World) :
    Calls Tryz.prog 144 #[.string s, .int .u8 c] w fun e w' => e = .returned (.int .i64 (Lib.indexByte s.data.toList c.toNat.toUInt8)) ∧ w' = w := Any.stringslite_IndexByte Tryz.lays217 s c w
def Tryz.lays224_ren : Go.Shelf.Ren := ⟨fun | 224 => 146 | n => n, fun | 3 => 3 | n => n, fun | n => n⟩
theorem Tryz.lays224 : Go.Proofs.Lays.n224 Tryz.prog Tryz.lays224_ren := {
  mixed := by kernel_rfl
  f224 := Tryz.func146.trans (congrArg some (by kernel_rfl))
  t3 := Tryz.underlying3
  a3 := Tryz.isAgg3
  z3 := Tryz.sizeOf3
  v3 := Tryz.zeroValue3 }
open Go.RowKit Go.Lib in
/-- internal/bytealg.Cutover: "Cutover reports the number of failures of IndexByte we should tolerate before switching over to Index. n is the number of bytes processed so far.": on amd64: (n + 16) / 8. (LAID: no walk: one application.) -/
theorem Tryz.bytealg_Cutover (n : Int) (h0 : 0 ≤ n) (h1 : n < 4611686018427387904) (w : World) :
    Calls Tryz.prog 146 #[.int .i64 n] w fun e w' => e = .returned (.int .i64 ((n + 16) / 8)) ∧ w' = w := Any.bytealg_Cutover Tryz.lays224 n h0 h1 w
def Tryz.lays314_ren : Go.Shelf.Ren := ⟨fun | 314 => 149 | n => n, fun | 9 => 9 | 51 => 66 | 3 => 3 | 4 => 4 | 5 => 5 | 46 => 51 | n => n, fun | n => n⟩
theorem Tryz.lays314 : Go.Proofs.Lays.n314 Tryz.prog Tryz.lays314_ren := {
  mixed := by kernel_rfl
  f314 := Tryz.func149.trans (congrArg some (by kernel_rfl))
  t3 := Tryz.underlying3
  a3 := Tryz.isAgg3
  z3 := Tryz.sizeOf3
  v3 := Tryz.zeroValue3
  t4 := Tryz.underlying4
  a4 := Tryz.isAgg4
  z4 := Tryz.sizeOf4
  v4 := Tryz.zeroValue4
  t5 := Tryz.underlying5
  a5 := Tryz.isAgg5
  z5 := Tryz.sizeOf5
  v5 := Tryz.zeroValue5
  t9 := Tryz.underlying9
  a9 := Tryz.isAgg9
  z9 := Tryz.sizeOf9
  v9 := Tryz.zeroValue9
  t46 := Tryz.underlying51
  a46 := Tryz.isAgg51
  z46 := Tryz.sizeOf51
  v46 := Tryz.zeroValue51
  t51 := Tryz.underlying66
  a51 := Tryz.isAgg66
  z51 := Tryz.sizeOf66
  v51 := Tryz.zeroValue66 }
open Go.RowKit Go.Lib in
/-- hashStr: "returns the hash and the appropriate multiplicative factor for use in Rabin-Karp algorithm": THE HASH OF ALL OF sep, AND 16777619 ^ len(sep), both in uint32. (LAID: no walk: one application.) -/
theorem Tryz.bytealg_hashStr (sep : ByteArray) (hs : sep.size < 4294967281) (w : World) :
    Calls Tryz.prog 149 #[.string sep] w fun e w' => e = .returned (.tuple #[.int .u32 (RK.H sep.data.toList % 4294967296), .int .u32 (16777619 ^ sep.size % 4294967296)]) ∧ w' = w := Any.bytealg_hashStr Tryz.lays314 sep hs w
def Tryz.lays267_ren : Go.Shelf.Ren := ⟨fun | 267 => 147 | 314 => 149 | n => n, fun | 9 => 9 | 3 => 3 | 146 => 81 | 51 => 66 | 4 => 4 | 5 => 5 | 46 => 51 | n => n, fun | n => n⟩
theorem Tryz.lays267 : Go.Proofs.Lays.n267 Tryz.prog Tryz.lays267_ren := {
  mixed := by kernel_rfl
  f267 := Tryz.func147.trans (congrArg some (by kernel_rfl))
  f314 := Tryz.func149.trans (congrArg some (by kernel_rfl))
  t3 := Tryz.underlying3
  a3 := Tryz.isAgg3
  z3 := Tryz.sizeOf3
  v3 := Tryz.zeroValue3
  t4 := Tryz.underlying4
  a4 := Tryz.isAgg4
  z4 := Tryz.sizeOf4
  v4 := Tryz.zeroValue4
  t5 := Tryz.underlying5
  a5 := Tryz.isAgg5
  z5 := Tryz.sizeOf5
  v5 := Tryz.zeroValue5
  t9 := Tryz.underlying9
  a9 := Tryz.isAgg9
  z9 := Tryz.sizeOf9
  v9 := Tryz.zeroValue9
  t46 := Tryz.underlying51
  a46 := Tryz.isAgg51
  z46 := Tryz.sizeOf51
  v46 := Tryz.zeroValue51
  t51 := Tryz.underlying66
  a51 := Tryz.isAgg66
  z51 := Tryz.sizeOf66
  v51 := Tryz.zeroValue66
  t146 := Tryz.underlying81
  a146 := Tryz.isAgg81
  z146 := Tryz.sizeOf81
  v146 := Tryz.zeroValue81 }
open Go.RowKit Go.Lib in
theorem Tryz.bytealg_IndexRabinKarp (s sep : ByteArray) (h1 : 1 ≤ sep.size) (h2 : sep.size ≤ s.size) (hs : s.size < 4294967281) (w : World) :
    Calls Tryz.prog 147 #[.string s, .string sep] w fun e w' => e = .returned (.int .i64 (Lib.index s.data.toList sep.data.toList)) ∧ w' = w := Any.bytealg_IndexRabinKarp Tryz.lays267 s sep h1 h2 hs w
def Tryz.lays219_ren : Go.Shelf.Ren := ⟨fun | 219 => 143 | 217 => 144 | 225 => 145 | 224 => 146 | 267 => 147 | 266 => 148 | 314 => 149 | n => n, fun | 9 => 9 | 3 => 3 | 4 => 4 | 5 => 5 | 46 => 51 | 146 => 81 | 51 => 66 | n => n, fun | 1 => 3 | n => n⟩
theorem Tryz.lays219 : Go.Proofs.Lays.n219 Tryz.prog Tryz.lays219_ren := {
  mixed := by kernel_rfl
  f217 := Tryz.func144.trans (congrArg some (by kernel_rfl))
  f219 := Tryz.func143.trans (congrArg some (by kernel_rfl))
  f224 := Tryz.func146.trans (congrArg some (by kernel_rfl))
  f225 := Tryz.func145.trans (congrArg some (by kernel_rfl))
  f266 := Tryz.func148.trans (congrArg some (by kernel_rfl))
  f267 := Tryz.func147.trans (congrArg some (by kernel_rfl))
  f314 := Tryz.func149.trans (congrArg some (by kernel_rfl))
  t3 := Tryz.underlying3
  a3 := Tryz.isAgg3
  z3 := Tryz.sizeOf3
  v3 := Tryz.zeroValue3
  t4 := Tryz.underlying4
  a4 := Tryz.isAgg4
  z4 := Tryz.sizeOf4
  v4 := Tryz.zeroValue4
  t5 := Tryz.underlying5
  a5 := Tryz.isAgg5
  z5 := Tryz.sizeOf5
  v5 := Tryz.zeroValue5
  t9 := Tryz.underlying9
  a9 := Tryz.isAgg9
  z9 := Tryz.sizeOf9
  v9 := Tryz.zeroValue9
  t46 := Tryz.underlying51
  a46 := Tryz.isAgg51
  z46 := Tryz.sizeOf51
  v46 := Tryz.zeroValue51
  t51 := Tryz.underlying66
  a51 := Tryz.isAgg66
  z51 := Tryz.sizeOf66
  v51 := Tryz.zeroValue66
  t146 := Tryz.underlying81
  a146 := Tryz.isAgg81
  z146 := Tryz.sizeOf81
  v146 := Tryz.zeroValue81
  g1 := by kernel_rfl }
open Go.RowKit Go.Lib in
/-- internal/stringslite.Index (what strings.Index calls) AT A substr OF ONE BYTE c: IT RETURNS 'Lib.indexByte s c'; the world is as it was. (LAID: no walk: one application.) -/
theorem Tryz.stringslite_Index_one (s : ByteArray) (c : UInt8) (w : World) :
    Calls Tryz.prog 143 #[.string s, .string ⟨#[c]⟩] w fun e w' => e = .returned (.int .i64 (Lib.indexByte s.data.toList c)) ∧ w' = w := Any.stringslite_Index_one Tryz.lays219 s c w
open Go.RowKit Go.Lib in
/-- internal/stringslite.Index (what strings.Index calls) AT A substr OF WHATEVER LENGTH: IT RETURNS 'Lib.index s substr'; the world is as it was. 'm': what internal/bytealg.MaxLen holds: whatever. (LAID: no walk: one application.) -/
theorem Tryz.stringslite_Index (s sub : ByteArray) (m : Int) (w : World) (hs : s.size < 4294967281) (hm : w.cell? ⟨3, 0, none⟩ = some (.int .i64 m)) :
    Calls Tryz.prog 143 #[.string s, .string sub] w fun e w' => e = .returned (.int .i64 (Lib.index s.data.toList sub.data.toList)) ∧ w' = w := Any.stringslite_Index Tryz.lays219 s sub m w hs hm
def Tryz.lays143_ren : Go.Shelf.Ren := ⟨fun | 143 => 142 | 219 => 143 | 217 => 144 | 225 => 145 | 224 => 146 | 267 => 147 | 266 => 148 | 314 => 149 | n => n, fun | 9 => 9 | 3 => 3 | 4 => 4 | 5 => 5 | 46 => 51 | 146 => 81 | 51 => 66 | n => n, fun | 1 => 3 | n => n⟩
theorem Tryz.lays143 : Go.Proofs.Lays.n143 Tryz.prog Tryz.lays143_ren := {
  mixed := by kernel_rfl
  f143 := Tryz.func142.trans (congrArg some (by kernel_rfl))
  f217 := Tryz.func144.trans (congrArg some (by kernel_rfl))
  f219 := Tryz.func143.trans (congrArg some (by kernel_rfl))
  f224 := Tryz.func146.trans (congrArg some (by kernel_rfl))
  f225 := Tryz.func145.trans (congrArg some (by kernel_rfl))
  f266 := Tryz.func148.trans (congrArg some (by kernel_rfl))
  f267 := Tryz.func147.trans (congrArg some (by kernel_rfl))
  f314 := Tryz.func149.trans (congrArg some (by kernel_rfl))
  t3 := Tryz.underlying3
  a3 := Tryz.isAgg3
  z3 := Tryz.sizeOf3
  v3 := Tryz.zeroValue3
  t4 := Tryz.underlying4
  a4 := Tryz.isAgg4
  z4 := Tryz.sizeOf4
  v4 := Tryz.zeroValue4
  t5 := Tryz.underlying5
  a5 := Tryz.isAgg5
  z5 := Tryz.sizeOf5
  v5 := Tryz.zeroValue5
  t9 := Tryz.underlying9
  a9 := Tryz.isAgg9
  z9 := Tryz.sizeOf9
  v9 := Tryz.zeroValue9
  t46 := Tryz.underlying51
  a46 := Tryz.isAgg51
  z46 := Tryz.sizeOf51
  v46 := Tryz.zeroValue51
  t51 := Tryz.underlying66
  a51 := Tryz.isAgg66
  z51 := Tryz.sizeOf66
  v51 := Tryz.zeroValue66
  t146 := Tryz.underlying81
  a146 := Tryz.isAgg81
  z146 := Tryz.sizeOf81
  v146 := Tryz.zeroValue81
  g1 := by kernel_rfl }
open Go.RowKit Go.Lib in
/-- strings.Index: "Index returns the index of the first instance of substr in s, or -1 if substr is not present in s.": AT A substr OF ONE BYTE c: IT RETURNS 'Lib.indexByte s c'; the world is as it was. (LAID: no walk: one application.) -/
theorem Tryz.strings_Index_one (s : ByteArray) (c : UInt8) (w : World) :
    Calls Tryz.prog 142 #[.string s, .string ⟨#[c]⟩] w fun e w' => e = .returned (.int .i64 (Lib.indexByte s.data.toList c)) ∧ w' = w := Any.strings_Index_one Tryz.lays143 s c w
open Go.RowKit Go.Lib in
/-- strings.Index: "Index returns the index of the first instance of substr in s, or -1 if substr is not present in s.": IT RETURNS 'Lib.index s substr'; the world is as it was. (LAID: no walk: one application.) -/
theorem Tryz.strings_Index (s sub : ByteArray) (m : Int) (w : World) (hs : s.size < 4294967281) (hm : w.cell? ⟨3, 0, none⟩ = some (.int .i64 m)) :
    Calls Tryz.prog 142 #[.string s, .string sub] w fun e w' => e = .returned (.int .i64 (Lib.index s.data.toList sub.data.toList)) ∧ w' = w := Any.strings_Index Tryz.lays143 s sub m w hs hm
def Tryz.lays138_ren : Go.Shelf.Ren := ⟨fun | 138 => 139 | 195 => 140 | 218 => 141 | 143 => 142 | 219 => 143 | 217 => 144 | 225 => 145 | 224 => 146 | 267 => 147 | 266 => 148 | 314 => 149 | n => n, fun | 9 => 9 | 3 => 3 | 4 => 4 | 5 => 5 | 0 => 0 | 46 => 51 | 146 => 81 | 51 => 66 | n => n, fun | 1 => 3 | n => n⟩
theorem Tryz.lays138 : Go.Proofs.Lays.n138 Tryz.prog Tryz.lays138_ren := {
  mixed := by kernel_rfl
  f138 := Tryz.func139.trans (congrArg some (by kernel_rfl))
  f143 := Tryz.func142.trans (congrArg some (by kernel_rfl))
  f195 := Tryz.func140.trans (congrArg some (by kernel_rfl))
  f217 := Tryz.func144.trans (congrArg some (by kernel_rfl))
  f218 := Tryz.func141.trans (congrArg some (by kernel_rfl))
  f219 := Tryz.func143.trans (congrArg some (by kernel_rfl))
  f224 := Tryz.func146.trans (congrArg some (by kernel_rfl))
  f225 := Tryz.func145.trans (congrArg some (by kernel_rfl))
  f266 := Tryz.func148.trans (congrArg some (by kernel_rfl))
  f267 := Tryz.func147.trans (congrArg some (by kernel_rfl))
  f314 := Tryz.func149.trans (congrArg some (by kernel_rfl))
  t0 := Tryz.underlying0
  a0 := Tryz.isAgg0
  z0 := Tryz.sizeOf0
  v0 := Tryz.zeroValue0
  t3 := Tryz.underlying3
  a3 := Tryz.isAgg3
  z3 := Tryz.sizeOf3
  v3 := Tryz.zeroValue3
  t4 := Tryz.underlying4
  a4 := Tryz.isAgg4
  z4 := Tryz.sizeOf4
  v4 := Tryz.zeroValue4
  t5 := Tryz.underlying5
  a5 := Tryz.isAgg5
  z5 := Tryz.sizeOf5
  v5 := Tryz.zeroValue5
  t9 := Tryz.underlying9
  a9 := Tryz.isAgg9
  z9 := Tryz.sizeOf9
  v9 := Tryz.zeroValue9
  t46 := Tryz.underlying51
  a46 := Tryz.isAgg51
  z46 := Tryz.sizeOf51
  v46 := Tryz.zeroValue51
  t51 := Tryz.underlying66
  a51 := Tryz.isAgg66
  z51 := Tryz.sizeOf66
  v51 := Tryz.zeroValue66
  t146 := Tryz.underlying81
  a146 := Tryz.isAgg81
  z146 := Tryz.sizeOf81
  v146 := Tryz.zeroValue81
  g1 := by kernel_rfl }
open Go.RowKit Go.Lib in
/-- strings.Count AT A substr OF ONE BYTE ('hp'): "Count counts the number of non-overlapping instances of substr in s.": IT RETURNS 'Lib.countByte s (that byte)'; the world is as it was. ✋ NO CONTRACT HERE YET at an empty substr (utf8.RuneCountInString) or at a longer one (a loop over strings.Index). (LAID: no walk: one application.) -/
theorem Tryz.strings_Count_one (s : ByteArray) (c : UInt8) (w : World) :
    Calls Tryz.prog 139 #[.string s, .string ⟨#[c]⟩] w fun e w' => e = .returned (.int .i64 (Lib.countByte s.data.toList c)) ∧ w' = w := Any.strings_Count_one Tryz.lays138 s c w
open Go.RowKit Go.Lib in
/-- strings.Count AT A substr OF TWO BYTES OR MORE: "Count counts the number of non-overlapping instances of substr in s.": IT RETURNS 'Lib.count s substr'; the world is as it was. (LAID: no walk: one application.) -/
theorem Tryz.strings_Count (s sub : ByteArray) (m : Int) (w : World) (hs : s.size < 4294967281) (hm : w.cell? ⟨3, 0, none⟩ = some (.int .i64 m)) (h2 : 2 ≤ sub.size) :
    Calls Tryz.prog 139 #[.string s, .string sub] w fun e w' => e = .returned (.int .i64 (Lib.countB s sub)) ∧ w' = w := Any.strings_Count Tryz.lays138 s sub m w hs hm h2
def Tryz.laysM219_ren : Go.Shelf.Ren := ⟨fun | 219 => 143 | 217 => 144 | 225 => 145 | 224 => 146 | 267 => 147 | 266 => 148 | 314 => 149 | n => n, fun | 9 => 9 | 3 => 3 | 4 => 4 | 5 => 5 | 46 => 51 | 146 => 81 | 51 => 66 | n => n, fun | 1 => 3 | n => n⟩
theorem Tryz.laysM219 : Go.Proofs.LaysM.n219 Tryz.prog Tryz.laysM219_ren := {
  mixed := by kernel_rfl
  f217 := Tryz.func144.trans (congrArg some (by kernel_rfl))
  f219 := Tryz.func143.trans (congrArg some (by kernel_rfl))
  f224 := Tryz.func146.trans (congrArg some (by kernel_rfl))
  f225 := Tryz.func145.trans (congrArg some (by kernel_rfl))
  f266 := Tryz.func148.trans (congrArg some (by kernel_rfl))
  f267 := Tryz.func147.trans (congrArg some (by kernel_rfl))
  f314 := Tryz.func149.trans (congrArg some (by kernel_rfl))
  t3 := Tryz.underlying3
  a3 := Tryz.isAgg3
  z3 := Tryz.sizeOf3
  v3 := Tryz.zeroValue3
  t4 := Tryz.underlying4
  a4 := Tryz.isAgg4
  z4 := Tryz.sizeOf4
  v4 := Tryz.zeroValue4
  t5 := Tryz.underlying5
  a5 := Tryz.isAgg5
  z5 := Tryz.sizeOf5
  v5 := Tryz.zeroValue5
  t9 := Tryz.underlying9
  a9 := Tryz.isAgg9
  z9 := Tryz.sizeOf9
  v9 := Tryz.zeroValue9
  t46 := Tryz.underlying51
  a46 := Tryz.isAgg51
  z46 := Tryz.sizeOf51
  v46 := Tryz.zeroValue51
  t51 := Tryz.underlying66
  a51 := Tryz.isAgg66
  z51 := Tryz.sizeOf66
  v51 := Tryz.zeroValue66
  t146 := Tryz.underlying81
  a146 := Tryz.isAgg81
  z146 := Tryz.sizeOf81
  v146 := Tryz.zeroValue81
  g1 := by kernel_rfl
  i3 := by kernel_rfl
  i4 := by kernel_rfl
  i5 := by kernel_rfl
  i9 := by kernel_rfl
  i46 := by kernel_rfl
  i51 := by kernel_rfl
  i146 := by kernel_rfl
  m1 := by kernel_rfl
  s1_3 := fun w h => Go.Proofs.cell_of_shapedOpen_int (zero := #[.int .i64 0]) (t := 3) h (of_decide_eq_true (by kernel_rfl)) (by kernel_rfl) rfl (by kernel_rfl) (by kernel_rfl) Tryz.underlying3 }
open Go.RowKit Go.Lib in
theorem Tryz.stringslite_Index_shaped (s sub : ByteArray) (w : World) (h : w.ShapedOpen Tryz.prog) (hs : s.size < 4294967281) :
    Calls Tryz.prog 143 #[.string s, .string sub] w fun e w' => e = .returned (.int .i64 (Lib.index s.data.toList sub.data.toList)) ∧ w' = w := Any.stringslite_Index_shaped Tryz.laysM219 s sub w h hs
def Tryz.laysM143_ren : Go.Shelf.Ren := ⟨fun | 143 => 142 | 219 => 143 | 217 => 144 | 225 => 145 | 224 => 146 | 267 => 147 | 266 => 148 | 314 => 149 | n => n, fun | 9 => 9 | 3 => 3 | 4 => 4 | 5 => 5 | 46 => 51 | 146 => 81 | 51 => 66 | n => n, fun | 1 => 3 | n => n⟩
theorem Tryz.laysM143 : Go.Proofs.LaysM.n143 Tryz.prog Tryz.laysM143_ren := {
  mixed := by kernel_rfl
  f143 := Tryz.func142.trans (congrArg some (by kernel_rfl))
  f217 := Tryz.func144.trans (congrArg some (by kernel_rfl))
  f219 := Tryz.func143.trans (congrArg some (by kernel_rfl))
  f224 := Tryz.func146.trans (congrArg some (by kernel_rfl))
  f225 := Tryz.func145.trans (congrArg some (by kernel_rfl))
  f266 := Tryz.func148.trans (congrArg some (by kernel_rfl))
  f267 := Tryz.func147.trans (congrArg some (by kernel_rfl))
  f314 := Tryz.func149.trans (congrArg some (by kernel_rfl))
  t3 := Tryz.underlying3
  a3 := Tryz.isAgg3
  z3 := Tryz.sizeOf3
  v3 := Tryz.zeroValue3
  t4 := Tryz.underlying4
  a4 := Tryz.isAgg4
  z4 := Tryz.sizeOf4
  v4 := Tryz.zeroValue4
  t5 := Tryz.underlying5
  a5 := Tryz.isAgg5
  z5 := Tryz.sizeOf5
  v5 := Tryz.zeroValue5
  t9 := Tryz.underlying9
  a9 := Tryz.isAgg9
  z9 := Tryz.sizeOf9
  v9 := Tryz.zeroValue9
  t46 := Tryz.underlying51
  a46 := Tryz.isAgg51
  z46 := Tryz.sizeOf51
  v46 := Tryz.zeroValue51
  t51 := Tryz.underlying66
  a51 := Tryz.isAgg66
  z51 := Tryz.sizeOf66
  v51 := Tryz.zeroValue66
  t146 := Tryz.underlying81
  a146 := Tryz.isAgg81
  z146 := Tryz.sizeOf81
  v146 := Tryz.zeroValue81
  g1 := by kernel_rfl
  i3 := by kernel_rfl
  i4 := by kernel_rfl
  i5 := by kernel_rfl
  i9 := by kernel_rfl
  i46 := by kernel_rfl
  i51 := by kernel_rfl
  i146 := by kernel_rfl
  m1 := by kernel_rfl
  s1_3 := fun w h => Go.Proofs.cell_of_shapedOpen_int (zero := #[.int .i64 0]) (t := 3) h (of_decide_eq_true (by kernel_rfl)) (by kernel_rfl) rfl (by kernel_rfl) (by kernel_rfl) Tryz.underlying3 }
open Go.RowKit Go.Lib in
theorem Tryz.strings_Index_shaped (s sub : ByteArray) (w : World) (h : w.ShapedOpen Tryz.prog) (hs : s.size < 4294967281) :
    Calls Tryz.prog 142 #[.string s, .string sub] w fun e w' => e = .returned (.int .i64 (Lib.index s.data.toList sub.data.toList)) ∧ w' = w := Any.strings_Index_shaped Tryz.laysM143 s sub w h hs
def Tryz.laysM138_ren : Go.Shelf.Ren := ⟨fun | 138 => 139 | 195 => 140 | 218 => 141 | 143 => 142 | 219 => 143 | 217 => 144 | 225 => 145 | 224 => 146 | 267 => 147 | 266 => 148 | 314 => 149 | n => n, fun | 9 => 9 | 3 => 3 | 4 => 4 | 5 => 5 | 0 => 0 | 46 => 51 | 146 => 81 | 51 => 66 | n => n, fun | 1 => 3 | n => n⟩
theorem Tryz.laysM138 : Go.Proofs.LaysM.n138 Tryz.prog Tryz.laysM138_ren := {
  mixed := by kernel_rfl
  f138 := Tryz.func139.trans (congrArg some (by kernel_rfl))
  f143 := Tryz.func142.trans (congrArg some (by kernel_rfl))
  f195 := Tryz.func140.trans (congrArg some (by kernel_rfl))
  f217 := Tryz.func144.trans (congrArg some (by kernel_rfl))
  f218 := Tryz.func141.trans (congrArg some (by kernel_rfl))
  f219 := Tryz.func143.trans (congrArg some (by kernel_rfl))
  f224 := Tryz.func146.trans (congrArg some (by kernel_rfl))
  f225 := Tryz.func145.trans (congrArg some (by kernel_rfl))
  f266 := Tryz.func148.trans (congrArg some (by kernel_rfl))
  f267 := Tryz.func147.trans (congrArg some (by kernel_rfl))
  f314 := Tryz.func149.trans (congrArg some (by kernel_rfl))
  t0 := Tryz.underlying0
  a0 := Tryz.isAgg0
  z0 := Tryz.sizeOf0
  v0 := Tryz.zeroValue0
  t3 := Tryz.underlying3
  a3 := Tryz.isAgg3
  z3 := Tryz.sizeOf3
  v3 := Tryz.zeroValue3
  t4 := Tryz.underlying4
  a4 := Tryz.isAgg4
  z4 := Tryz.sizeOf4
  v4 := Tryz.zeroValue4
  t5 := Tryz.underlying5
  a5 := Tryz.isAgg5
  z5 := Tryz.sizeOf5
  v5 := Tryz.zeroValue5
  t9 := Tryz.underlying9
  a9 := Tryz.isAgg9
  z9 := Tryz.sizeOf9
  v9 := Tryz.zeroValue9
  t46 := Tryz.underlying51
  a46 := Tryz.isAgg51
  z46 := Tryz.sizeOf51
  v46 := Tryz.zeroValue51
  t51 := Tryz.underlying66
  a51 := Tryz.isAgg66
  z51 := Tryz.sizeOf66
  v51 := Tryz.zeroValue66
  t146 := Tryz.underlying81
  a146 := Tryz.isAgg81
  z146 := Tryz.sizeOf81
  v146 := Tryz.zeroValue81
  g1 := by kernel_rfl
  i0 := by kernel_rfl
  i3 := by kernel_rfl
  i4 := by kernel_rfl
  i5 := by kernel_rfl
  i9 := by kernel_rfl
  i46 := by kernel_rfl
  i51 := by kernel_rfl
  i146 := by kernel_rfl
  m1 := by kernel_rfl
  s1_3 := fun w h => Go.Proofs.cell_of_shapedOpen_int (zero := #[.int .i64 0]) (t := 3) h (of_decide_eq_true (by kernel_rfl)) (by kernel_rfl) rfl (by kernel_rfl) (by kernel_rfl) Tryz.underlying3 }
open Go.RowKit Go.Lib in
theorem Tryz.strings_Count_shaped (s sub : ByteArray) (w : World) (h : w.ShapedOpen Tryz.prog) (hs : s.size < 4294967281) (h2 : 2 ≤ sub.size) :
    Calls Tryz.prog 139 #[.string s, .string sub] w fun e w' => e = .returned (.int .i64 (Lib.countB s sub)) ∧ w' = w := Any.strings_Count_shaped Tryz.laysM138 s sub w h hs h2
def Tryz.lays206_ren : Go.Shelf.Ren := ⟨fun | 206 => 52 | n => n, fun | 9 => 9 | 4 => 4 | 3 => 3 | n => n, fun | n => n⟩
theorem Tryz.lays206 : Go.Proofs.Lays.n206 Tryz.prog Tryz.lays206_ren := {
  mixed := by kernel_rfl
  f206 := Tryz.func52.trans (congrArg some (by kernel_rfl))
  t3 := Tryz.underlying3
  a3 := Tryz.isAgg3
  z3 := Tryz.sizeOf3
  v3 := Tryz.zeroValue3
  t4 := Tryz.underlying4
  a4 := Tryz.isAgg4
  z4 := Tryz.sizeOf4
  v4 := Tryz.zeroValue4
  t9 := Tryz.underlying9
  a9 := Tryz.isAgg9
  z9 := Tryz.sizeOf9
  v9 := Tryz.zeroValue9 }
open Go.RowKit Go.Lib in
/-- internal/stringslite.HasPrefix (what strings.HasPrefix calls). (LAID: no walk: one application.) -/
theorem Tryz.stringslite_HasPrefix (s p : ByteArray) (w : World) :
    Calls Tryz.prog 52 #[.string s, .string p] w fun e w' => e = .returned (.bool (Lib.hasPrefix s.data.toList p.data.toList)) ∧ w' = w := Any.stringslite_HasPrefix Tryz.lays206 s p w
def Tryz.lays99_ren : Go.Shelf.Ren := ⟨fun | 99 => 40 | 206 => 52 | n => n, fun | 9 => 9 | 4 => 4 | 3 => 3 | n => n, fun | n => n⟩
theorem Tryz.lays99 : Go.Proofs.Lays.n99 Tryz.prog Tryz.lays99_ren := {
  mixed := by kernel_rfl
  f99 := Tryz.func40.trans (congrArg some (by kernel_rfl))
  f206 := Tryz.func52.trans (congrArg some (by kernel_rfl))
  t3 := Tryz.underlying3
  a3 := Tryz.isAgg3
  z3 := Tryz.sizeOf3
  v3 := Tryz.zeroValue3
  t4 := Tryz.underlying4
  a4 := Tryz.isAgg4
  z4 := Tryz.sizeOf4
  v4 := Tryz.zeroValue4
  t9 := Tryz.underlying9
  a9 := Tryz.isAgg9
  z9 := Tryz.sizeOf9
  v9 := Tryz.zeroValue9 }
open Go.RowKit Go.Lib in
/-- strings.HasPrefix: "HasPrefix reports whether the string s begins with prefix.": IT RETURNS 'Lib.hasPrefix s prefix'; the world is as it was. (LAID: no walk: one application.) -/
theorem Tryz.strings_HasPrefix (s p : ByteArray) (w : World) :
    Calls Tryz.prog 40 #[.string s, .string p] w fun e w' => e = .returned (.bool (Lib.hasPrefix s.data.toList p.data.toList)) ∧ w' = w := Any.strings_HasPrefix Tryz.lays99 s p w
def Tryz.lays264_ren : Go.Shelf.Ren := ⟨fun | 264 => 51 | n => n, fun | 53 => 83 | 46 => 51 | n => n, fun | n => n⟩
theorem Tryz.lays264 : Go.Proofs.Lays.n264 Tryz.prog Tryz.lays264_ren := {
  mixed := by kernel_rfl
  f264 := Tryz.func51.trans (congrArg some (by kernel_rfl))
  t46 := Tryz.underlying51
  a46 := Tryz.isAgg51
  z46 := Tryz.sizeOf51
  v46 := Tryz.zeroValue51
  t53 := Tryz.underlying83
  a53 := Tryz.isAgg83
  z53 := Tryz.sizeOf83
  v53 := Tryz.zeroValue83 }
open Go.RowKit Go.Lib in
theorem Tryz.bits_Mul64 (x y : Nat) (hx : x < 18446744073709551616) (hy : y < 18446744073709551616) (w : World) :
    Calls Tryz.prog 51 #[.int .u64 x, .int .u64 y] w fun e w' => e = .returned (.tuple #[.int .u64 ((x * y / 18446744073709551616 : Nat) : Int), .int .u64 ((x * y % 18446744073709551616 : Nat) : Int)]) ∧ w' = w := Any.bits_Mul64 Tryz.lays264 x y hx hy w
def Tryz.lays212_ren : Go.Shelf.Ren := ⟨fun | 212 => 39 | 263 => 50 | 264 => 51 | n => n, fun | 46 => 51 | 51 => 66 | 146 => 81 | 53 => 83 | 148 => 84 | n => n, fun | n => n⟩
theorem Tryz.lays212 : Go.Proofs.Lays.n212 Tryz.prog Tryz.lays212_ren := {
  mixed := by kernel_rfl
  f212 := Tryz.func39.trans (congrArg some (by kernel_rfl))
  f263 := Tryz.func50.trans (congrArg some (by kernel_rfl))
  f264 := Tryz.func51.trans (congrArg some (by kernel_rfl))
  t46 := Tryz.underlying51
  a46 := Tryz.isAgg51
  z46 := Tryz.sizeOf51
  v46 := Tryz.zeroValue51
  t51 := Tryz.underlying66
  a51 := Tryz.isAgg66
  z51 := Tryz.sizeOf66
  v51 := Tryz.zeroValue66
  t53 := Tryz.underlying83
  a53 := Tryz.isAgg83
  z53 := Tryz.sizeOf83
  v53 := Tryz.zeroValue83
  t146 := Tryz.underlying81
  a146 := Tryz.isAgg81
  z146 := Tryz.sizeOf81
  v146 := Tryz.zeroValue81
  t148 := Tryz.underlying84
  a148 := Tryz.isAgg84
  z148 := Tryz.sizeOf84
  v148 := Tryz.zeroValue84 }
open Go.RowKit Go.Lib in
/-- math/bits.Mul: "Mul returns the full-width product of x and y": on a machine of 64 bits: Mul64's. (LAID: no walk: one application.) -/
theorem Tryz.bits_Mul (x y : Nat) (hx : x < 18446744073709551616) (hy : y < 18446744073709551616) (w : World) :
    Calls Tryz.prog 39 #[.int .u64 x, .int .u64 y] w fun e w' => e = .returned (.tuple #[.int .u64 ((x * y / 18446744073709551616 : Nat) : Int), .int .u64 ((x * y % 18446744073709551616 : Nat) : Int)]) ∧ w' = w := Any.bits_Mul Tryz.lays212 x y hx hy w
def Tryz.lays105_ren : Go.Shelf.Ren := ⟨fun | 105 => 27 | 212 => 39 | 99 => 40 | 165 => 41 | 166 => 42 | 170 => 43 | 169 => 44 | 263 => 50 | 264 => 51 | 206 => 52 | 240 => 53 | 241 => 54 | 276 => 67 | 277 => 68 | n => n, fun | 9 => 9 | 3 => 3 | 4 => 4 | 20 => 20 | 0 => 0 | 46 => 51 | 109 => 52 | 5 => 5 | 72 => 57 | 76 => 44 | 51 => 66 | 146 => 81 | 53 => 83 | 148 => 84 | 70 => 55 | 37 => 36 | 75 => 43 | 127 => 86 | 164 => 100 | 80 => 60 | n => n, fun | n => n⟩
theorem Tryz.lays105 : Go.Proofs.Lays.n105 Tryz.prog Tryz.lays105_ren := {
  mixed := by kernel_rfl
  f99 := Tryz.func40.trans (congrArg some (by kernel_rfl))
  f105 := Tryz.func27.trans (congrArg some (by kernel_rfl))
  f165 := Tryz.func41.trans (congrArg some (by kernel_rfl))
  f166 := Tryz.func42.trans (congrArg some (by kernel_rfl))
  f169 := Tryz.func44.trans (congrArg some (by kernel_rfl))
  f170 := Tryz.func43.trans (congrArg some (by kernel_rfl))
  f206 := Tryz.func52.trans (congrArg some (by kernel_rfl))
  f212 := Tryz.func39.trans (congrArg some (by kernel_rfl))
  f240 := Tryz.func53.trans (congrArg some (by kernel_rfl))
  f241 := Tryz.func54.trans (congrArg some (by kernel_rfl))
  f263 := Tryz.func50.trans (congrArg some (by kernel_rfl))
  f264 := Tryz.func51.trans (congrArg some (by kernel_rfl))
  f276 := Tryz.func67.trans (congrArg some (by kernel_rfl))
  f277 := Tryz.func68.trans (congrArg some (by kernel_rfl))
  t0 := Tryz.underlying0
  a0 := Tryz.isAgg0
  z0 := Tryz.sizeOf0
  v0 := Tryz.zeroValue0
  t3 := Tryz.underlying3
  a3 := Tryz.isAgg3
  z3 := Tryz.sizeOf3
  v3 := Tryz.zeroValue3
  t4 := Tryz.underlying4
  a4 := Tryz.isAgg4
  z4 := Tryz.sizeOf4
  v4 := Tryz.zeroValue4
  t5 := Tryz.underlying5
  a5 := Tryz.isAgg5
  z5 := Tryz.sizeOf5
  v5 := Tryz.zeroValue5
  t9 := Tryz.underlying9
  a9 := Tryz.isAgg9
  z9 := Tryz.sizeOf9
  v9 := Tryz.zeroValue9
  t20 := Tryz.underlying20
  a20 := Tryz.isAgg20
  z20 := Tryz.sizeOf20
  v20 := Tryz.zeroValue20
  t37 := Tryz.underlying36
  a37 := Tryz.isAgg36
  z37 := Tryz.sizeOf36
  v37 := Tryz.zeroValue36
  t46 := Tryz.underlying51
  a46 := Tryz.isAgg51
  z46 := Tryz.sizeOf51
  v46 := Tryz.zeroValue51
  t51 := Tryz.underlying66
  a51 := Tryz.isAgg66
  z51 := Tryz.sizeOf66
  v51 := Tryz.zeroValue66
  t53 := Tryz.underlying83
  a53 := Tryz.isAgg83
  z53 := Tryz.sizeOf83
  v53 := Tryz.zeroValue83
  t70 := Tryz.underlying55
  a70 := Tryz.isAgg55
  z70 := Tryz.sizeOf55
  v70 := Tryz.zeroValue55
  t72 := Tryz.underlying57
  a72 := Tryz.isAgg57
  z72 := Tryz.sizeOf57
  v72 := Tryz.zeroValue57
  t75 := Tryz.underlying43
  a75 := Tryz.isAgg43
  z75 := Tryz.sizeOf43
  v75 := Tryz.zeroValue43
  t76 := Tryz.underlying44
  a76 := Tryz.isAgg44
  z76 := Tryz.sizeOf44
  v76 := Tryz.zeroValue44
  t109 := Tryz.underlying52
  a109 := Tryz.isAgg52
  z109 := Tryz.sizeOf52
  v109 := Tryz.zeroValue52
  t127 := Tryz.underlying86
  a127 := Tryz.isAgg86
  z127 := Tryz.sizeOf86
  v127 := Tryz.zeroValue86
  t146 := Tryz.underlying81
  a146 := Tryz.isAgg81
  z146 := Tryz.sizeOf81
  v146 := Tryz.zeroValue81
  t148 := Tryz.underlying84
  a148 := Tryz.isAgg84
  z148 := Tryz.sizeOf84
  v148 := Tryz.zeroValue84
  t164 := Tryz.underlying100
  a164 := Tryz.isAgg100
  z164 := Tryz.sizeOf100
  v164 := Tryz.zeroValue100 }
theorem Tryz.Builder_Extra_105 : Builder.Extra Tryz.prog Tryz.lays105_ren := {
  sizeBuilder := by kernel_rfl
  liesBuilder := by kernel_rfl
  t5 := Tryz.underlying5
  a5 := Tryz.isAgg5
  z5 := Tryz.sizeOf5
  v5 := Tryz.zeroValue5
  infoByte := by kernel_rfl
  cellsByte := by kernel_rfl
  sizeByte := by kernel_rfl
  neB5 := by decide }
open Go.RowKit Go.Lib in
/-- THE MAIN CASE: at least two copies of a string that is not empty. (LAID: no walk: one application.) -/
theorem Tryz.strings_Repeat_main (s : ByteArray) (c : Nat) (w : World) (hc2 : 2 ≤ c) (hc : c ≤ 9223372036854775807) (hlen : s.size * c ≤ 140737488355328) (h0 : 0 < s.size) :
    Calls Tryz.prog 27 #[.string s, .int .i64 c] w fun e w' => e = .returned (.string ⟨(Lib.repeatL s.data.toList c).toArray⟩) ∧ Below w.heap.size w w' := Any.strings_Repeat_main Tryz.lays105 Tryz.Builder_Extra_105 s c w hc2 hc hlen h0
open Go.RowKit Go.Lib in
theorem Tryz.strings_Repeat_zero (s : ByteArray) (w : World) :
    Calls Tryz.prog 27 #[.string s, .int .i64 0] w fun e w' => e = .returned (.string ⟨#[]⟩) ∧ w' = w := Any.strings_Repeat_zero Tryz.lays105 s w
open Go.RowKit Go.Lib in
theorem Tryz.strings_Repeat_one (s : ByteArray) (w : World) :
    Calls Tryz.prog 27 #[.string s, .int .i64 1] w fun e w' => e = .returned (.string s) ∧ w' = w := Any.strings_Repeat_one Tryz.lays105 s w
open Go.RowKit Go.Lib in
/-- Copies of the empty string. (LAID: no walk: one application.) -/
theorem Tryz.strings_Repeat_empty (s : ByteArray) (c : Nat) (w : World) (hc2 : 2 ≤ c) (hc : c ≤ 9223372036854775807) (h0 : s.size = 0) :
    Calls Tryz.prog 27 #[.string s, .int .i64 c] w fun e w' => e = .returned (.string ⟨#[]⟩) ∧ w' = w := Any.strings_Repeat_empty Tryz.lays105 s c w hc2 hc h0
open Go.RowKit Go.Lib in
/-- count < 0: "It panics if count is negative". (LAID: no walk: one application.) -/
theorem Tryz.strings_Repeat_negative (s : ByteArray) (c : Int) (w : World) (hc : c < 0) :
    Calls Tryz.prog 27 #[.string s, .int .i64 c] w fun e w' => e = .panicked [{ v := repeatPanic Tryz.lays105_ren "strings: negative Repeat count", recovered := false }] ∧ w' = w := Any.strings_Repeat_negative Tryz.lays105 s c w hc
open Go.RowKit Go.Lib in
/-- len(s) * count is no int: ".. or if the result of (len(s) * count) overflows". (LAID: no walk: one application.) -/
theorem Tryz.strings_Repeat_overflow (s : ByteArray) (c : Nat) (w : World) (hc : c ≤ 9223372036854775807) (hs : s.size ≤ 9223372036854775807) (hbig : 9223372036854775807 < s.size * c) :
    Calls Tryz.prog 27 #[.string s, .int .i64 c] w fun e w' => e = .panicked [{ v := repeatPanic Tryz.lays105_ren "strings: Repeat output length overflow", recovered := false }] ∧ w' = w := Any.strings_Repeat_overflow Tryz.lays105 s c w hc hs hbig
open Go.RowKit Go.Lib in
/-- **strings.Repeat: count ≥ 0, the result within one allocation: count copies of s.** (LAID: no walk: one application.) -/
theorem Tryz.strings_Repeat (s : ByteArray) (c : Nat) (w : World) (hc : c ≤ 9223372036854775807) (hlen : s.size * c ≤ 140737488355328) :
    Calls Tryz.prog 27 #[.string s, .int .i64 c] w fun e w' => e = .returned (.string ⟨(Lib.repeatL s.data.toList c).toArray⟩) ∧ Below w.heap.size w w' := Any.strings_Repeat Tryz.lays105 Tryz.Builder_Extra_105 s c w hc hlen
end Go.Proofs

set_option maxRecDepth 100000
set_option linter.unusedSimpArgs false
set_option linter.unusedVariables false
namespace Go.Proofs.YtjljjnipjhbeaaaGreatDoor
open Go Ab Pl
theorem strconv_Itoa (n : Int) (h0 : -9223372036854775808 ≤ n) (h1 : n ≤ 9223372036854775807) : ACalls E.P 26 [.int .i64 n] (.d (.str (Go.Lib.itoa n))) :=
  ACalls.itoa n ⟨_, Tryz.func26, by kernel_rfl, by kernel_rfl⟩ (by have := Go.Lib.itoa_length_le n h0 h1; simp only [maxLen]; omega) (fun w S h => amb_is2 h) (fun h0 h1 w ht => Tryz.strconv_Itoa n h0 h1 w ht)

end Go.Proofs.YtjljjnipjhbeaaaGreatDoor

set_option maxRecDepth 100000
set_option linter.unusedSimpArgs false
set_option linter.unusedVariables false
namespace Go.Proofs.YtjljjnipjhbeaaaGreatDoor
open Go Ab Pl
theorem strconv_Atoi (s : List UInt8) (n : Int) (hl : s.length ≤ 18) (ha : Go.Lib.atoi s = some n) : ACalls E.P 29 [.str s] (.tup [.int .i64 n, .lit .nilIface]) :=
  ACalls.atoi ⟨_, Tryz.func29, by kernel_rfl, by kernel_rfl⟩ hl ha (fun w => Tryz.strconv_Atoi ⟨s.toArray⟩ n hl (by simpa using ha) w)
theorem strings_Repeat (s : List UInt8) (c : Nat) (hc : c ≤ 1000) (hs : s.length ≤ 1000) : ACalls E.P 27 [.str s, .int .i64 c] (.d (.str (Go.Lib.repeatL s c))) :=
  ACalls.repeat ⟨_, Tryz.func27, by kernel_rfl, by kernel_rfl⟩ (by rw [Go.Lib.repeatL_length]; simp only [maxLen]; have := Nat.mul_le_mul hc hs; omega)
    (fun w => Tryz.strings_Repeat ⟨s.toArray⟩ c w (by omega) (by have := Nat.mul_le_mul hs hc; simp only [ba_size]; omega))

end Go.Proofs.YtjljjnipjhbeaaaGreatDoor

set_option maxRecDepth 100000
set_option linter.unusedSimpArgs false
set_option linter.unusedVariables false
namespace Go.Proofs.YtjljjnipjhbeaaaGreatDoor
open Go Ab Pl
theorem barcode_Make (k n : Int) : ACalls E.P 15 [.int .i64 k, .int .i64 n] (.tup [.str (makR k n).1, .int .i64 (makR k n).2]) := by
  refine ACalls.intro E_ok Tryz.func15 rfl rfl Tryz.ntmps15 Tryz.results15 (Nat.le_of_ble_eq_true rfl) fun hok base S0 w0 => ?_
  -- region 0
  refine AWp.rseq E_ok [0, 1, 4, 5, 6, 7, 8, 15, 21] fun K hK => ?_
  simp
  try simp (disch := omega) only [wrap_i64]
  repeat refine ⟨by first | omega | assumption | (simp only [maxLen]; omega) | (intros; omega) | decide, ?_⟩
  refine hK _ ?_
  clear hK K
  refine AWp.seq ?_
  -- region 1
  refine AWp.rseq E_ok [0, 1, 4, 5, 6, 7, 8, 15, 21] fun K hK => ?_
  simp
  try simp (disch := omega) only [wrap_i64]
  repeat refine ⟨by first | omega | assumption | (simp only [maxLen]; omega) | (intros; omega) | decide, ?_⟩
  refine hK _ ?_
  clear hK K
  refine AWp.cond rfl (fun h15 => ?_) (fun h15 => ?_)
  · try simp at h15
    have hb : makR k n = ([], 1) := if_pos h15
    -- region 2
    refine AWp.rseq E_ok [0, 1, 4, 5, 6, 7, 8, 15, 21] fun K hK => ?_
    simp
    try simp (disch := omega) only [wrap_i64]
    repeat refine ⟨by first | omega | assumption | (simp only [maxLen]; omega) | (intros; omega) | decide, ?_⟩
    refine hK _ ?_
    clear hK K
    refine AWp.ret ?_
    repeat first | refine thenN ?_ | refine thenX ?_ | refine thenR ?_ | refine blockN ?_ | refine blockR ?_ | refine blockX ?_ | refine blockM rfl ?_
    simp [RetOk, RV, RVs, hb]
  · try simp at h15
    refine AWp.skip ?_
    repeat first | refine thenN ?_ | refine thenX ?_ | refine thenR ?_ | refine blockN ?_ | refine blockR ?_ | refine blockX ?_ | refine blockM rfl ?_
    refine AWp.seq ?_
    -- region 3
    refine AWp.rseq E_ok [0, 1, 4, 5, 6, 7, 8, 15, 21] fun K hK => ?_
    simp
    try simp (disch := omega) only [wrap_i64]
    repeat refine ⟨by first | omega | assumption | (simp only [maxLen]; omega) | (intros; omega) | decide, ?_⟩
    refine hK _ ?_
    clear hK K
    refine AWp.cond rfl (fun h21 => ?_) (fun h21 => ?_)
    · try simp at h21
      have hb : makR k n = ([], 2) := by unfold makR; rw [if_neg (by omega), if_pos h21]
      -- region 4
      refine AWp.rseq E_ok [0, 1, 4, 5, 6, 7, 8, 15, 21] fun K hK => ?_
      simp
      try simp (disch := omega) only [wrap_i64]
      repeat refine ⟨by first | omega | assumption | (simp only [maxLen]; omega) | (intros; omega) | decide, ?_⟩
      refine hK _ ?_
      clear hK K
      refine AWp.ret ?_
      repeat first | refine thenN ?_ | refine thenX ?_ | refine thenR ?_ | refine blockN ?_ | refine blockR ?_ | refine blockX ?_ | refine blockM rfl ?_
      simp [RetOk, RV, RVs, hb]
    · try simp at h21
      have hb : makR k n = (digC k :: digD n 12 ++ [digC (luhN (digC k :: digD n 12))], 0) := by unfold makR; rw [if_neg (by omega), if_neg (by omega)]
      obtain ⟨hp1, hp2⟩ := pad_rep 11 n (by omega) (by simp; omega)
      have hcast : (12 : Int) - ((Go.Lib.itoa n).length : Int) = ((12 - (Go.Lib.itoa n).length : Nat) : Int) := by omega
      have hik : Go.Lib.itoa k = [digC k] := itoa_small (by omega) (by omega)
      have hlr := luhN_rng (digC k :: digD n 12)
      have hil : Go.Lib.itoa (luhN (digC k :: digD n 12)) = [digC (luhN (digC k :: digD n 12))] := itoa_small (by omega) (by omega)
      have hlu : luhR (digC k :: digD n 12) = (luhN (digC k :: digD n 12), 0) := if_neg (by rw [List.all_cons, digC_dig, digD_dig]; simp [digD_len])
      have hp3 : Go.Lib.repeatL [48] (12 - (Go.Lib.itoa n).length) ++ Go.Lib.itoa n = digD n 12 := hp2
      have hdl : (digD n 12).length = 12 := digD_len 12 n
      have hrl : (Go.Lib.repeatL [48] (12 - (Go.Lib.itoa n).length)).length = 12 - (Go.Lib.itoa n).length := by rw [Go.Lib.repeatL_length]; simp
      refine AWp.skip ?_
      repeat first | refine thenN ?_ | refine thenX ?_ | refine thenR ?_ | refine blockN ?_ | refine blockR ?_ | refine blockX ?_ | refine blockM rfl ?_
      -- region 5
      refine AWp.rseq E_ok [0, 1, 4, 5, 6, 7, 8, 15, 21] fun K hK => ?_
      simp [hcast, hik, hil, hlu, hp3, hdl]
      try simp (disch := omega) only [wrap_i64]
      repeat refine ⟨by first | omega | assumption | (simp only [maxLen]; omega) | (intros; omega) | decide, ?_⟩
      refine meet.of (strconv_Itoa n (by omega) (by omega)) ?_
      simp [hcast, hik, hil, hlu, hp3, hdl]
      try simp (disch := omega) only [wrap_i64]
      repeat refine ⟨by first | omega | assumption | (simp only [maxLen]; omega) | (intros; omega) | decide, ?_⟩
      refine hK _ ?_
      clear hK K
      -- region 6
      refine AWp.rseq E_ok [0, 1, 4, 5, 6, 7, 8, 15, 21] fun K hK => ?_
      simp [hcast, hik, hil, hlu, hp3, hdl]
      try simp (disch := omega) only [wrap_i64]
      repeat refine ⟨by first | omega | assumption | (simp only [maxLen]; omega) | (intros; omega) | decide, ?_⟩
      refine meet.of (strconv_Itoa k (by omega) (by omega)) ?_
      simp [hcast, hik, hil, hlu, hp3, hdl]
      try simp (disch := omega) only [wrap_i64]
      repeat refine ⟨by first | omega | assumption | (simp only [maxLen]; omega) | (intros; omega) | decide, ?_⟩
      refine meet.of (strings_Repeat [48] (12 - (Go.Lib.itoa n).length) (by omega) (by simp)) ?_
      simp [hcast, hik, hil, hlu, hp3, hdl]
      try simp (disch := omega) only [wrap_i64]
      repeat refine ⟨by first | omega | assumption | (simp only [maxLen]; omega) | (intros; omega) | decide, ?_⟩
      refine hK _ ?_
      clear hK K
      -- region 7
      refine AWp.rseq E_ok [0, 1, 4, 5, 6, 7, 8, 15, 21] fun K hK => ?_
      simp [hcast, hik, hil, hlu, hp3, hdl]
      try simp (disch := omega) only [wrap_i64]
      repeat refine ⟨by first | omega | assumption | (simp only [maxLen]; omega) | (intros; omega) | decide, ?_⟩
      refine meet.of (barcode_Luhn (digC k :: digD n 12)) ?_
      simp [hcast, hik, hil, hlu, hp3, hdl]
      try simp (disch := omega) only [wrap_i64]
      repeat refine ⟨by first | omega | assumption | (simp only [maxLen]; omega) | (intros; omega) | decide, ?_⟩
      refine hK _ ?_
      clear hK K
      -- region 8
      refine AWp.rseq E_ok [0, 1, 4, 5, 6, 7, 8, 15, 21] fun K hK => ?_
      simp [hcast, hik, hil, hlu, hp3, hdl]
      try simp (disch := omega) only [wrap_i64]
      repeat refine ⟨by first | omega | assumption | (simp only [maxLen]; omega) | (intros; omega) | decide, ?_⟩
      refine meet.of (strconv_Itoa (luhN (digC k :: digD n 12)) (by omega) (by omega)) ?_
      simp [hcast, hik, hil, hlu, hp3, hdl]
      try simp (disch := omega) only [wrap_i64]
      repeat refine ⟨by first | omega | assumption | (simp only [maxLen]; omega) | (intros; omega) | decide, ?_⟩
      refine hK _ ?_
      clear hK K
      refine AWp.ret ?_
      repeat first | refine thenN ?_ | refine thenX ?_ | refine thenR ?_ | refine blockN ?_ | refine blockR ?_ | refine blockX ?_ | refine blockM rfl ?_
      simp [RetOk, RV, RVs, hb]
end Go.Proofs.YtjljjnipjhbeaaaGreatDoor
