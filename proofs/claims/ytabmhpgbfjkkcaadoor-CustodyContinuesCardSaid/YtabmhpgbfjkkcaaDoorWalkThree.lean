/-
  What the functions compute that the statement reaches: contracts, and the plain laws between them. Conditions stand at each theorem.
-/
import Derived.Test.YtabmhpgbfjkkcaaDoorWalkTwo
set_option linter.unusedVariables false
set_option linter.unusedSimpArgs false
/- Calendars: the count by weeks is the count by days. No conditions beyond those at each theorem. -/
namespace Pl
open Go Ab
set_option linter.unusedVariables false
set_option linter.unusedSimpArgs false

def b2i (b : Bool) : Int := if b = true then 1 else 0
theorem b2i_rng (b : Bool) : 0 ≤ b2i b ∧ b2i b ≤ 1 := by cases b <;> simp [b2i]
/-- how many days of [d, d+k) satisfy p -/
def cdays (p : Int → Bool) (d : Int) : Nat → Int
  | 0 => 0
  | k + 1 => cdays p d k + b2i (p (d + k))
theorem cdays_rng (p : Int → Bool) (d : Int) : ∀ k : Nat, 0 ≤ cdays p d k ∧ cdays p d k ≤ k
  | 0 => by simp [cdays]
  | k + 1 => by have := cdays_rng p d k; have := b2i_rng (p (d + k)); simp only [cdays]; omega
theorem cdays_cons (p : Int → Bool) (d : Int) : ∀ k : Nat, cdays p d (k + 1) = b2i (p d) + cdays p (d + 1) k
  | 0 => by simp [cdays]
  | k + 1 => by
    have h := cdays_cons p d k
    rw [cdays, h]
    simp only [cdays]
    have e : d + ((k + 1 : Nat) : Int) = d + 1 + (k : Int) := by omega
    rw [e]; omega
theorem cdays_add (p : Int → Bool) (d : Int) (m : Nat) : ∀ k : Nat, cdays p d (m + k) = cdays p d m + cdays p (d + m) k
  | 0 => by simp [cdays]
  | k + 1 => by
    rw [← Nat.add_assoc]; simp only [cdays]; rw [cdays_add p d m k]
    have e : d + ((m + k : Nat) : Int) = d + m + (k : Int) := by omega
    rw [e]; omega
theorem cdays_congr {p q : Int → Bool} {d : Int} : ∀ k : Nat, (∀ i : Nat, i < k → p (d + i) = q (d + i)) → cdays p d k = cdays q d k
  | 0, _ => rfl
  | k + 1, h => by simp only [cdays]; rw [cdays_congr k (fun i hi => h i (by omega)), h k (by omega)]

theorem cntN_eq (c : Cal) : ∀ (k : Nat) (d n : Int), 0 ≤ n → n + k ≤ 1000000 → cntN c k d n = n + cdays (openR c) d k
  | 0, d, n, _, _ => by simp [cntN, cdays]
  | k + 1, d, n, h0, h1 => by
    rw [cntN, cdays_cons]
    have e : IntKind.i64.wrap (n + 1) = n + 1 := wrap_i64 (by omega) (by omega)
    by_cases ho : openR c d = true
    · rw [if_pos ho, e, cntN_eq c k _ _ (by omega) (by omega)]; simp [b2i, ho]; omega
    · rw [if_neg ho, cntN_eq c k _ _ (by omega) (by omega)]; simp [b2i, ho]

def lo0 (f : Int) : Int := if f < 0 then 0 else f
def hi0 (t : Int) : Int := if 109572 < t then 109572 else t
theorem lo0_rng (f : Int) : 0 ≤ lo0 f ∧ f ≤ lo0 f := by unfold lo0; split <;> omega
theorem hi0_rng (t : Int) : hi0 t ≤ 109572 ∧ hi0 t ≤ t := by unfold hi0; split <;> omega
/-- the open days from f to t -/
def cnt (c : Cal) (f t : Int) : Int := cdays (openR c) (lo0 f) (hi0 t + 1 - lo0 f).toNat
theorem countD_cnt (c : Cal) (f t : Int) : countD c f t = cnt c f t := by
  have h1 := lo0_rng f; have h2 := hi0_rng t
  have e : countD c f t = cntN c (hi0 t + 1 - lo0 f).toNat (lo0 f) 0 := rfl
  rw [e, cntN_eq c _ _ _ (by omega) (by omega), Int.zero_add]; rfl

theorem wk_hv : ∀ (n : Fin 127) (k : Fin 7), wkB (n.val : Int) k.val = !(decide ((hv k.val (n.val : Int)).tmod 2 = 1)) := by decide +kernel
theorem wkB_eq {w : Int} (h0 : 0 ≤ w) (h1 : w < 127) {k : Nat} (hk : k < 7) : wkB w k = !(decide ((hv k w).tmod 2 = 1)) := by
  have := wk_hv ⟨w.toNat, by omega⟩ ⟨k, hk⟩
  have e : ((w.toNat : Nat) : Int) = w := Int.toNat_of_nonneg h0
  simpa only [e] using this
theorem wday_eq {d : Int} (h0 : 0 ≤ d) (h1 : d ≤ 109572) : wday d = d % 7 := by
  unfold wday isDay
  rw [if_pos (by simp [h0, h1]), Int.tmod_eq_emod_of_nonneg h0]
theorem anyF_eq (d : Int) : ∀ l : List Int, anyF d () l = !(decide (d ∈ l))
  | [] => by simp [anyF]
  | x :: l => by
    by_cases h : x = d
    · subst h; simp [anyF]
    · have h' : ¬ d = x := fun e => h e.symm
      simp [anyF, h, h', anyF_eq d l]
/-- the day of the week is open -/
def wkO (c : Cal) (d : Int) : Bool := wkB c.week (d % 7).toNat
theorem calR_facts {c : Cal} (h : calR c = 0) : 0 ≤ c.week ∧ c.week < 127 ∧ c.closed.length ≤ 64 ∧ (∀ x ∈ c.closed, 0 ≤ x ∧ x ≤ 109572) ∧ ascF none c.closed = 0 := by
  unfold calR at h
  split at h
  · exact absurd h (by decide)
  · split at h
    · exact absurd h (by decide)
    · split at h
      · exact absurd h (by decide)
      · rename_i h1 h2 h3
        refine ⟨by omega, by omega, by omega, fun x hx => ?_, h⟩
        simp only [List.any_eq_true, not_exists, not_and] at h3
        have := h3 x hx
        simp [isDay] at this
        exact this
theorem openR_eq {c : Cal} (h : calR c = 0) {d : Int} (h0 : 0 ≤ d) (h1 : d ≤ 109572) : openR c d = (wkO c d && !(decide (d ∈ c.closed))) := by
  obtain ⟨a1, a2, _⟩ := calR_facts h
  unfold openR
  rw [if_neg (by omega), wday_eq h0 h1, anyF_eq]
  unfold wkO
  rw [wkB_eq a1 a2 (by omega)]
  by_cases hh : (hv (d % 7).toNat c.week).tmod 2 = 1
  · simp [hh]
  · simp [hh]
theorem openR_day {c : Cal} {d : Int} (h : openR c d = true) : 0 ≤ d ∧ d ≤ 109572 := by
  unfold openR at h
  split at h
  · cases h
  · omega
/-- ascending lists have no member twice -/
theorem ascF_gt : ∀ (l : List Int) (m : Int), ascF (some m) l = 0 → ∀ x ∈ l, m < x
  | [], _, _, x, hx => by simp at hx
  | y :: l, m, h, x, hx => by
    simp only [ascF] at h
    split at h
    · exact absurd h (by decide)
    · rename_i h1
      have hy : m < y := by simpa [lowId] using h1
      rcases List.mem_cons.1 hx with rfl | hx
      · exact hy
      · have := ascF_gt l y h x hx; omega
theorem ascF_nodup : ∀ (l : List Int) (p : Option Int), ascF p l = 0 → l.Nodup
  | [], _, _ => List.nodup_nil
  | y :: l, p, h => by
    simp only [ascF] at h
    split at h
    · exact absurd h (by decide)
    · refine List.nodup_cons.2 ⟨fun hy => ?_, ascF_nodup l _ h⟩
      have := ascF_gt l y h y hy; omega

/-- days from 0 to a day with a weekday, without wrapping -/
def upz (d k : Int) : Int := if d < k then 0 else (d - k) / 7 + 1
theorem fst7_eq {k : Int} (h0 : 0 ≤ k) (h1 : k < 7) : fst7 k = k := by
  have e0 : wday 0 = 0 := by decide
  unfold fst7
  rw [e0]
  rw [wrap_i64 (n := k - 0) (by omega) (by omega), wrap_i64 (by omega) (by omega), Int.tmod_eq_emod_of_nonneg (by omega)]
  omega
theorem upToW_eq {d k : Int} (h0 : 0 ≤ k) (h1 : k < 7) (hd : -1 ≤ d) (hd2 : d ≤ 109572) : upToW d k = upz d k := by
  unfold upToW upz
  rw [fst7_eq h0 h1]
  by_cases h : d < k
  · rw [if_pos h, if_pos h]
  · rw [if_neg h, if_neg h]
    rw [wrap_i64 (n := d - k) (by omega) (by omega), Int.tdiv_eq_ediv_of_nonneg (by omega), wrap_i64 (n := (d - k) / 7) (by omega) (by omega), wrap_i64 (by omega) (by omega)]
theorem upz_step {d k : Int} (h0 : 0 ≤ k) (h1 : k < 7) (hd : -1 ≤ d) : upz (d + 1) k = upz d k + (if (d + 1) % 7 = k then 1 else 0) := by
  unfold upz
  split <;> split <;> split <;> omega
/-- the count of weekdays below k, without wrapping -/
def c7 (w lo hi : Int) : Nat → Int
  | 0 => 0
  | k + 1 => c7 w lo hi k + b2i (wkB w k) * (upz hi k - upz (lo - 1) k)
theorem upz_rng {lo hi k : Int} (h0 : 0 ≤ k) (h1 : k < 7) (hl : -1 ≤ lo) (hh : lo ≤ hi) : upz lo k ≤ upz hi k ∧ upz hi k - upz lo k ≤ hi - lo := by
  unfold upz; split <;> split <;> omega
theorem c7_rng {w lo hi : Int} (hl : 0 ≤ lo) (hh : lo - 1 ≤ hi) : ∀ k : Nat, k ≤ 7 → 0 ≤ c7 w lo hi k ∧ c7 w lo hi k ≤ k * (hi + 1 - lo)
  | 0, _ => by simp [c7]
  | k + 1, hk => by
    have := c7_rng (w := w) hl hh k (by omega)
    have := upz_rng (lo := lo - 1) (hi := hi) (k := k) (by omega) (by omega) (by omega) hh
    have e : ((k + 1 : Nat) : Int) * (hi + 1 - lo) = k * (hi + 1 - lo) + (hi + 1 - lo) := by
      rw [Int.natCast_add, Int.add_mul]; simp
    simp only [c7]
    rw [e]
    unfold b2i
    split <;> omega
theorem cnt7_eq {w lo hi : Int} (hl : 0 ≤ lo) (hh : lo - 1 ≤ hi) (hh2 : hi ≤ 109572) : ∀ k : Nat, k ≤ 7 → cnt7 w lo hi k = c7 w lo hi k
  | 0, _ => rfl
  | k + 1, hk => by
    have hr := c7_rng (w := w) hl hh k (by omega)
    have hu := upz_rng (lo := lo - 1) (hi := hi) (k := k) (by omega) (by omega) (by omega) hh
    have hm : (k : Int) * (hi + 1 - lo) ≤ 7 * (hi + 1 - lo) := Int.mul_le_mul_of_nonneg_right (by omega) (by omega)
    simp only [cnt7, c7]
    rw [cnt7_eq hl hh hh2 k (by omega), wrap_i64 (n := lo - 1) (by omega) (by omega), upToW_eq (by omega) (by omega) (by omega) hh2, upToW_eq (by omega) (by omega) (by omega) (by omega)]
    unfold b2i
    split
    · rw [wrap_i64 (n := upz hi k - upz (lo - 1) k) (by omega) (by omega), wrap_i64 (by omega) (by omega)]; omega
    · omega
theorem c7_step {w lo hi : Int} (hh : -1 ≤ hi) : ∀ k : Nat, k ≤ 7 → c7 w lo (hi + 1) k = c7 w lo hi k + (if (hi + 1) % 7 < k then b2i (wkB w ((hi + 1) % 7).toNat) else 0)
  | 0, _ => by
    simp only [c7]
    rw [if_neg (by omega)]; rfl
  | k + 1, hk => by
    simp only [c7]
    rw [c7_step hh k (by omega), upz_step (by omega) (by omega) hh]
    by_cases he : (hi + 1) % 7 = (k : Int)
    · rw [he, if_pos rfl, if_neg (by omega), if_pos (by omega)]
      have : ((k : Int)).toNat = k := by omega
      rw [this]
      unfold b2i; split <;> omega
    · rw [if_neg he]
      by_cases h2 : (hi + 1) % 7 < (k : Int)
      · rw [if_pos h2, if_pos (by omega)]; simp; omega
      · rw [if_neg h2, if_neg (by omega)]; simp
/-- closed days between lo and hi that would be open -/
def ccl (w lo hi : Int) : List Int → Int
  | [] => 0
  | d :: l => b2i (decide (lo ≤ d) && decide (d ≤ hi) && wkB w (d % 7).toNat) + ccl w lo hi l
theorem ccl_rng (w lo hi : Int) : ∀ l : List Int, 0 ≤ ccl w lo hi l ∧ ccl w lo hi l ≤ l.length
  | [] => by simp [ccl]
  | d :: l => by
    have := ccl_rng w lo hi l; have := b2i_rng (decide (lo ≤ d) && decide (d ≤ hi) && wkB w (d % 7).toNat)
    simp only [ccl, List.length_cons]; omega
theorem cntG_eq {w lo hi : Int} : ∀ (l : List Int) (n : Int), (∀ x ∈ l, 0 ≤ x ∧ x ≤ 109572) → -1000000 + l.length ≤ n → n ≤ 1000000 → cntG w lo hi n l = n - ccl w lo hi l
  | [], n, _, _, _ => by simp [cntG, ccl]
  | d :: l, n, hd, h1, h2 => by
    have hx := hd d (by simp)
    have hl : ∀ x ∈ l, 0 ≤ x ∧ x ≤ 109572 := fun x h => hd x (by simp [h])
    have e : cntIn w lo hi d = (decide (lo ≤ d) && decide (d ≤ hi) && wkB w (d % 7).toNat) := by
      unfold cntIn
      rw [wday_eq hx.1 hx.2]
      have : d % 7 < 7 := by omega
      simp [this]
    simp only [List.length_cons] at h1
    simp only [cntG, ccl]
    rw [e]
    split
    · rename_i h
      rw [wrap_i64 (by omega) (by omega), cntG_eq l _ hl (by omega) (by omega), h]
      simp [b2i]; omega
    · rename_i h
      rw [cntG_eq l _ hl (by omega) (by omega)]
      simp only [Bool.not_eq_true] at h
      rw [h]; simp [b2i]
theorem ccl_step {w lo hi : Int} (hl : lo ≤ hi + 1) : ∀ l : List Int, l.Nodup → ccl w lo (hi + 1) l = ccl w lo hi l + (if hi + 1 ∈ l then b2i (wkB w ((hi + 1) % 7).toNat) else 0)
  | [], _ => by simp [ccl]
  | d :: l, hn => by
    obtain ⟨h1, h2⟩ := List.nodup_cons.1 hn
    simp only [ccl]
    rw [ccl_step hl l h2]
    by_cases hd : hi + 1 = d
    · subst hd
      rw [if_neg h1, if_pos (by simp)]
      have a1 : decide (lo ≤ hi + 1) = true := by simp [hl]
      have a2 : decide (hi + 1 ≤ hi) = false := by simp; omega
      simp [a1, a2, b2i]; omega
    · have a : decide (d ≤ hi + 1) = decide (d ≤ hi) := by
        by_cases hh : d ≤ hi
        · simp [hh]; omega
        · simp [hh]; omega
      rw [a]
      have : (hi + 1 ∈ d :: l) ↔ (hi + 1 ∈ l) := by simp [hd]
      simp only [this]; omega
theorem ccl_zero {w lo hi : Int} (h : hi < lo) : ∀ l : List Int, ccl w lo hi l = 0
  | [] => rfl
  | d :: l => by
    simp only [ccl]
    rw [ccl_zero h l]
    have : (decide (lo ≤ d) && decide (d ≤ hi)) = false := by
      by_cases hh : lo ≤ d
      · have : ¬ d ≤ hi := by omega
        simp [this]
      · simp [hh]
    simp [this, b2i]
theorem c7_zero {w lo : Int} : ∀ k : Nat, c7 w lo (lo - 1) k = 0
  | 0 => rfl
  | k + 1 => by simp only [c7]; rw [c7_zero k]; simp
/-- THE COUNT by weeks is the count by days. -/
theorem weeks {c : Cal} (h : calR c = 0) {lo : Int} (hl : 0 ≤ lo) : ∀ k : Nat, lo + k ≤ 109573 → c7 c.week lo (lo + k - 1) 7 - ccl c.week lo (lo + k - 1) c.closed = cdays (openR c) lo k
  | 0, _ => by
    have e : lo + ((0 : Nat) : Int) - 1 = lo - 1 := by omega
    rw [e, c7_zero, ccl_zero (by omega)]; rfl
  | k + 1, hk => by
    have ih := weeks h hl k (by omega)
    have e : lo + ((k + 1 : Nat) : Int) - 1 = (lo + k - 1) + 1 := by omega
    obtain ⟨a1, a2, a3, a4, a5⟩ := calR_facts h
    rw [e, c7_step (by omega) 7 (Nat.le_refl _), ccl_step (by omega) _ (ascF_nodup _ _ a5), if_pos (by omega)]
    simp only [cdays]
    rw [← ih]
    have e2 : lo + (k : Int) - 1 + 1 = lo + k := by omega
    rw [e2, openR_eq h (by omega) (by omega)]
    unfold wkO
    by_cases hm : lo + (k : Int) ∈ c.closed
    · simp [hm, b2i]; omega
    · simp [hm]; omega
theorem countR_cnt {c : Cal} (h : calR c = 0) (f t : Int) : countR c f t = cnt c f t := by
  have h1 := lo0_rng f; have h2 := hi0_rng t
  obtain ⟨a1, a2, a3, a4, a5⟩ := calR_facts h
  have e : countR c f t = if hi0 t < lo0 f then 0 else cntG c.week (lo0 f) (hi0 t) (cnt7 c.week (lo0 f) (hi0 t) 7) c.closed := rfl
  rw [e]
  unfold cnt
  split
  · have : (hi0 t + 1 - lo0 f).toNat = 0 := by omega
    rw [this]; rfl
  · have hr := c7_rng (w := c.week) (lo := lo0 f) (hi := hi0 t) (by omega) (by omega) 7 (Nat.le_refl _)
    rw [cnt7_eq (by omega) (by omega) (by omega) 7 (Nat.le_refl _), cntG_eq _ _ a4 (by omega) (by omega)]
    have := weeks h (lo := lo0 f) h1.1 (hi0 t + 1 - lo0 f).toNat (by omega)
    rw [← this]
    have e2 : lo0 f + ((hi0 t + 1 - lo0 f).toNat : Int) - 1 = hi0 t := by omega
    rw [e2]
theorem countR_countD {c : Cal} (h : calR c = 0) (f t : Int) : countR c f t = countD c f t := by rw [countR_cnt h, countD_cnt]
def lateD (r : Rule) (c : Cal) (d b : Int) : Int :=
  if (¬ calR c = 0 ∨ isDay d = false) ∨ isDay b = false then 0
  else if countD c (IntKind.i64.wrap (d + 1)) b ≤ r.grace then 0
  else if r.maxFine < IntKind.i64.wrap (countD c (IntKind.i64.wrap (d + 1)) b * r.fine) then r.maxFine else IntKind.i64.wrap (countD c (IntKind.i64.wrap (d + 1)) b * r.fine)
section
variable {r : Rule} {c : Cal} {d b : Int}
theorem lateD_bad (h : (¬ calR c = 0 ∨ isDay d = false) ∨ isDay b = false) : lateD r c d b = 0 := if_pos h
theorem lateD_gr (h : (calR c = 0 ∧ isDay d = true) ∧ isDay b = true) (h2 : countD c (IntKind.i64.wrap (d + 1)) b ≤ r.grace) : lateD r c d b = 0 := by
  unfold lateD; rw [if_neg (lateN h), if_pos h2]
theorem lateD_ok (h : (calR c = 0 ∧ isDay d = true) ∧ isDay b = true) (h2 : r.grace < countD c (IntKind.i64.wrap (d + 1)) b) :
    lateD r c d b = if r.maxFine < IntKind.i64.wrap (countD c (IntKind.i64.wrap (d + 1)) b * r.fine) then r.maxFine else IntKind.i64.wrap (countD c (IntKind.i64.wrap (d + 1)) b * r.fine) := by
  unfold lateD; rw [if_neg (lateN h), if_neg (by omega)]
end
theorem lateD_eq (r : Rule) (c : Cal) (d b : Int) : lateD r c d b = lateR r c d b := by
  unfold lateD lateR
  by_cases h : calR c = 0
  · rw [countR_countD h]
  · simp [h]
theorem wrap_rng64 (n : Int) : -9223372036854775808 ≤ IntKind.i64.wrap n ∧ IntKind.i64.wrap n ≤ 9223372036854775807 := by rw [IntKind.wrap_i64]; omega
theorem lateR_rng {r : Rule} {c : Cal} {d b : Int} (h : -9223372036854775808 ≤ r.maxFine ∧ r.maxFine ≤ 9223372036854775807) : -9223372036854775808 ≤ lateR r c d b ∧ lateR r c d b ≤ 9223372036854775807 := by
  have := wrap_rng64 (countR c (IntKind.i64.wrap (d + 1)) b * r.fine)
  unfold lateR
  split
  · omega
  · split
    · omega
    · split <;> omega
end Pl

/- Calendars: searching for open days. -/
namespace Pl
open Go Ab
set_option linter.unusedVariables false
set_option linter.unusedSimpArgs false

theorem asc_lt : ∀ (l : List Int) (p : Option Int), ascF p l = 0 → ∀ (i j : Nat) (x y : Int), i < j → l[i]? = some x → l[j]? = some y → x < y
  | [], _, _, i, j, x, y, _, hx, _ => by simp at hx
  | z :: l, p, h, i, j, x, y, hij, hx, hy => by
    simp only [ascF] at h
    split at h
    · exact absurd h (by decide)
    · match i, j, hij, hx, hy with
      | 0, j + 1, _, hx, hy =>
        simp at hx hy; subst hx
        exact ascF_gt l _ h y (List.mem_of_getElem? hy)
      | i + 1, j + 1, hij, hx, hy => exact asc_lt l _ h i j x y (by omega) (by simpa using hx) (by simpa using hy)
/-- where a binary search ends -/
def bsI (l : List Int) (d : Int) : Nat := (l.takeWhile (fun x => decide (x < d))).length
theorem bsI_eq (d : Int) : ∀ (l : List Int) (i : Nat), i ≤ l.length → (∀ k x, k < i → l[k]? = some x → x < d) → (∀ k x, i ≤ k → l[k]? = some x → d ≤ x) → bsI l d = i
  | [], i, hi, _, _ => by simp at hi; subst hi; rfl
  | z :: l, 0, _, _, h2 => by
    have := h2 0 z (Nat.le_refl _) rfl
    unfold bsI
    rw [List.takeWhile_cons_of_neg (by simp; omega)]; rfl
  | z :: l, i + 1, hi, h1, h2 => by
    have := h1 0 z (by omega) rfl
    have ih := bsI_eq d l i (by simpa using hi) (fun k x hk hx => h1 (k + 1) x (by omega) (by simpa using hx)) (fun k x hk hx => h2 (k + 1) x (by omega) (by simpa using hx))
    unfold bsI at ih ⊢
    rw [List.takeWhile_cons_of_pos (by simpa using this), List.length_cons, ih]
theorem bs_mem {d : Int} {l : List Int} {i : Nat} (h1 : ∀ k x, k < i → l[k]? = some x → x < d) (h2 : ∀ k x, i ≤ k → l[k]? = some x → d ≤ x) (hs : ascF none l = 0) : d ∈ l ↔ l[i]? = some d := by
  constructor
  · intro hm
    obtain ⟨k, hk⟩ := List.getElem?_of_mem hm
    by_cases a : k < i
    · have := h1 k d a hk; omega
    · by_cases b : k = i
      · rw [← b]; exact hk
      · have hik : i < k := by omega
        have hlt : i < l.length := by have := (List.getElem?_eq_some_iff.1 hk).1; omega
        have hx := List.getElem?_eq_getElem hlt
        have := asc_lt l none hs i k _ d hik hx hk
        have := h2 i _ (Nat.le_refl _) hx
        omega
  · intro h; exact List.mem_of_getElem? h

def nextN (c : Cal) : Nat → Int → Int × Int
  | 0, _ => (0, 2)
  | k + 1, d => if openR c d = true then (d, 0) else nextN c k (d + 1)
def nextR (c : Cal) (d : Int) : Int × Int := nextN c (109573 - lo0 d).toNat (lo0 d)
def beforeN (c : Cal) : Nat → Int → Int × Int
  | 0, _ => (0, 2)
  | k + 1, d => if openR c d = true then (d, 0) else beforeN c k (d - 1)
def beforeR (c : Cal) (d : Int) : Int × Int := beforeN c (hi0 d + 1).toNat (hi0 d)
def laterN (c : Cal) : Nat → Int → Int × Int
  | 0, d => (d, 0)
  | k + 1, d => if ¬ (nextR c (d + 1)).2 = 0 then (0, (nextR c (d + 1)).2) else laterN c k (nextR c (d + 1)).1
def laterR (c : Cal) (d n : Int) : Int × Int :=
  if n < 0 ∨ 1000 < n then (0, 1) else if d < 0 ∨ 109572 < d then (0, 2) else if n = 0 then nextR c d else laterN c n.toNat d
theorem nextN_spec (c : Cal) : ∀ (k : Nat) (d : Int), 0 ≤ d → d + k = 109573 →
    ((nextN c k d).2 = 0 ∧ d ≤ (nextN c k d).1 ∧ (nextN c k d).1 ≤ 109572 ∧ openR c (nextN c k d).1 = true ∧ ∀ x, d ≤ x → x < (nextN c k d).1 → openR c x = false) ∨
    (nextN c k d = (0, 2) ∧ ∀ x, d ≤ x → openR c x = false)
  | 0, d, h0, h1 => .inr ⟨rfl, fun x hx => by
      cases ho : openR c x with
      | false => rfl
      | true => have := openR_day ho; omega⟩
  | k + 1, d, h0, h1 => by
    simp only [nextN]
    by_cases ho : openR c d = true
    · left
      rw [if_pos ho]
      exact ⟨rfl, Int.le_refl _, by simp only; omega, ho, fun x h1 h2 => by simp only at h2; omega⟩
    · have ho' : openR c d = false := by simpa using ho
      rw [if_neg ho]
      rcases nextN_spec c k (d + 1) (by omega) (by omega) with ⟨a1, a2, a3, a4, a5⟩ | ⟨a1, a2⟩
      · left
        refine ⟨a1, by omega, a3, a4, fun x h1 h2 => ?_⟩
        by_cases hx : x = d
        · subst hx; exact ho'
        · exact a5 x (by omega) h2
      · right
        refine ⟨a1, fun x hx => ?_⟩
        by_cases hx : x = d
        · subst hx; exact ho'
        · exact a2 x (by omega)
theorem nextR_spec (c : Cal) (d : Int) (hd : d ≤ 109573) :
    ((nextR c d).2 = 0 ∧ lo0 d ≤ (nextR c d).1 ∧ (nextR c d).1 ≤ 109572 ∧ openR c (nextR c d).1 = true ∧ ∀ x, lo0 d ≤ x → x < (nextR c d).1 → openR c x = false) ∨
    (nextR c d = (0, 2) ∧ ∀ x, lo0 d ≤ x → openR c x = false) := by
  have := lo0_rng d
  have h : lo0 d ≤ 109573 := by unfold lo0; split <;> omega
  exact nextN_spec c _ _ this.1 (by omega)
theorem nextR_rng (c : Cal) (d : Int) : 0 ≤ (nextR c d).1 ∧ (nextR c d).1 ≤ 109572 ∧ 0 ≤ (nextR c d).2 ∧ (nextR c d).2 ≤ 2 := by
  by_cases hd : d ≤ 109573
  · have := lo0_rng d
    rcases nextR_spec c d hd with ⟨a1, a2, a3, _⟩ | ⟨a1, _⟩
    · omega
    · rw [a1]; simp
  · have : nextR c d = (0, 2) := by
      unfold nextR lo0
      rw [if_neg (by omega)]
      have : (109573 - d).toNat = 0 := by omega
      rw [this]; rfl
    rw [this]; simp
theorem beforeN_spec (c : Cal) : ∀ (k : Nat) (d : Int), d + 1 = k → d ≤ 109572 →
    ((beforeN c k d).2 = 0 ∧ (beforeN c k d).1 ≤ d ∧ 0 ≤ (beforeN c k d).1 ∧ openR c (beforeN c k d).1 = true ∧ ∀ x, x ≤ d → (beforeN c k d).1 < x → openR c x = false) ∨
    (beforeN c k d = (0, 2) ∧ ∀ x, x ≤ d → openR c x = false)
  | 0, d, h0, h1 => .inr ⟨rfl, fun x hx => by
      cases ho : openR c x with
      | false => rfl
      | true => have := openR_day ho; omega⟩
  | k + 1, d, h0, h1 => by
    simp only [beforeN]
    by_cases ho : openR c d = true
    · left
      rw [if_pos ho]
      exact ⟨rfl, Int.le_refl _, by simp only; omega, ho, fun x h1 h2 => by simp only at h2; omega⟩
    · have ho' : openR c d = false := by simpa using ho
      rw [if_neg ho]
      rcases beforeN_spec c k (d - 1) (by omega) (by omega) with ⟨a1, a2, a3, a4, a5⟩ | ⟨a1, a2⟩
      · left
        refine ⟨a1, by omega, a3, a4, fun x h1 h2 => ?_⟩
        by_cases hx : x = d
        · subst hx; exact ho'
        · exact a5 x (by omega) h2
      · right
        refine ⟨a1, fun x hx => ?_⟩
        by_cases hx : x = d
        · subst hx; exact ho'
        · exact a2 x (by omega)
theorem beforeR_spec (c : Cal) (d : Int) (hd : -1 ≤ d) :
    ((beforeR c d).2 = 0 ∧ (beforeR c d).1 ≤ hi0 d ∧ 0 ≤ (beforeR c d).1 ∧ openR c (beforeR c d).1 = true ∧ ∀ x, x ≤ hi0 d → (beforeR c d).1 < x → openR c x = false) ∨
    (beforeR c d = (0, 2) ∧ ∀ x, x ≤ hi0 d → openR c x = false) := by
  have := hi0_rng d
  have h : -1 ≤ hi0 d := by unfold hi0; split <;> omega
  exact beforeN_spec c _ _ (by omega) this.1
theorem beforeR_rng (c : Cal) (d : Int) : 0 ≤ (beforeR c d).1 ∧ (beforeR c d).1 ≤ 109572 ∧ 0 ≤ (beforeR c d).2 ∧ (beforeR c d).2 ≤ 2 := by
  by_cases hd : -1 ≤ d
  · have := hi0_rng d
    rcases beforeR_spec c d hd with ⟨a1, a2, a3, _⟩ | ⟨a1, _⟩
    · omega
    · rw [a1]; simp
  · have : beforeR c d = (0, 2) := by
      unfold beforeR hi0
      rw [if_neg (by omega)]
      have : (d + 1).toNat = 0 := by omega
      rw [this]; rfl
    rw [this]; simp
section
variable {c : Cal} {d n : Int}
theorem laterR_arg (h : n < 0 ∨ 1000 < n) : laterR c d n = (0, 1) := if_pos h
theorem laterR_day (h : 0 ≤ n ∧ n ≤ 1000) (h2 : d < 0 ∨ 109572 < d) : laterR c d n = (0, 2) := by unfold laterR; rw [if_neg (by omega), if_pos h2]
theorem laterR_zero (h2 : 0 ≤ d ∧ d ≤ 109572) : laterR c d 0 = nextR c d := by unfold laterR; rw [if_neg (by omega), if_neg (by omega), if_pos rfl]
theorem laterR_go (h : 0 ≤ n ∧ n ≤ 1000) (h2 : 0 ≤ d ∧ d ≤ 109572) (h3 : ¬ n = 0) : laterR c d n = laterN c n.toNat d := by unfold laterR; rw [if_neg (by omega), if_neg (by omega), if_neg h3]
end
theorem openR_eq2 {c : Cal} (h : calR c = 0) {d : Int} (h0 : 0 ≤ d) (h1 : d ≤ 109572) : openR c d = (!(decide (d ∈ c.closed)) && wkB c.week (wday d).toNat) := by
  rw [openR_eq h h0 h1, wday_eq h0 h1, Bool.and_comm]; rfl
theorem cal_asc {c : Cal} (h : calR c = 0) : ascF none c.closed = 0 := (calR_facts h).2.2.2.2
theorem cal_len64 {c : Cal} (h : calR c = 0) : c.closed.length ≤ 64 := (calR_facts h).2.2.1
theorem half_eq {i j : Nat} (h : i + j ≤ 4000000000000) : IntKind.i64.wrap ((IntKind.u64.wrap (IntKind.i64.wrap ((i : Int) + (j : Int)))).fdiv (2 ^ min 1 IntKind.u64.bits)) = (((i + j) / 2 : Nat) : Int) := by
  have e1 : IntKind.i64.wrap ((i : Int) + (j : Int)) = (i : Int) + (j : Int) := wrap_i64 (by omega) (by omega)
  have e2 : IntKind.u64.wrap ((i : Int) + (j : Int)) = (i : Int) + (j : Int) := by rw [IntKind.wrap_u64]; omega
  have e3 : (2 : Int) ^ min 1 IntKind.u64.bits = 2 := by decide
  rw [e1, e2, e3, Int.fdiv_eq_ediv_of_nonneg _ (by omega), wrap_i64 (by omega) (by omega)]
  omega
theorem bs_end {l : List Int} {d : Int} {i : Nat} (ha : ascF none l = 0) (hi : i ≤ l.length) (h1 : ∀ k y, k < i → l[k]? = some y → y < d) (h2 : ∀ k y, i ≤ k → l[k]? = some y → d ≤ y) :
    (i : Int) = (bsI l d : Int) ∧ (decide (i < l.length) && l[i]?.getD 0 == d) = decide (d ∈ l) := by
  refine ⟨by rw [bsI_eq d l i hi h1 h2], ?_⟩
  have hm := bs_mem h1 h2 ha
  by_cases hlt : i < l.length
  · have hx := List.getElem?_eq_getElem hlt
    rw [hx] at hm ⊢
    by_cases he : l[i] = d
    · simp [hlt, he, hm]
    · simp [hlt, he, hm]
  · have hx : l[i]? = none := List.getElem?_eq_none (by omega)
    rw [hx] at hm
    simp [hlt, hm]
end Pl

/- Calendars: what is counted between what is found. -/
namespace Pl
open Go Ab
set_option linter.unusedVariables false
set_option linter.unusedSimpArgs false

theorem cdays_none {p : Int → Bool} {d : Int} : ∀ k : Nat, (∀ i : Nat, i < k → p (d + i) = false) → cdays p d k = 0
  | 0, _ => rfl
  | k + 1, h => by
    simp only [cdays]
    rw [cdays_none k (fun i hi => h i (by omega)), h k (by omega)]; rfl
theorem cnt_eq (c : Cal) {f t : Int} (h0 : 0 ≤ f) (h1 : t ≤ 109572) : cnt c f t = cdays (openR c) f (t + 1 - f).toNat := by
  unfold cnt lo0 hi0
  rw [if_neg (by omega), if_neg (by omega)]
theorem cnt_none {c : Cal} {f t : Int} (h : ∀ x, f ≤ x → x ≤ t → openR c x = false) : cnt c f t = 0 := by
  have a := lo0_rng f; have b := hi0_rng t
  unfold cnt
  refine cdays_none _ (fun i hi => h _ (by omega) (by omega))
theorem cnt_rng (c : Cal) (f t : Int) : 0 ≤ cnt c f t ∧ cnt c f t ≤ 109573 := by
  have a := lo0_rng f; have b := hi0_rng t
  have := cdays_rng (openR c) (lo0 f) (hi0 t + 1 - lo0 f).toNat
  unfold cnt; omega
theorem cnt_add (c : Cal) {f m t : Int} (h0 : 0 ≤ f) (h1 : f ≤ m + 1) (h2 : m ≤ t) : cnt c f m + cnt c (m + 1) t = cnt c f t := by
  by_cases hm : m ≤ 109571
  · have b := hi0_rng t
    have hb : m ≤ hi0 t := by unfold hi0; split <;> omega
    have e1 : cnt c (m + 1) t = cdays (openR c) (m + 1) (hi0 t + 1 - (m + 1)).toNat := by unfold cnt lo0; rw [if_neg (by omega)]
    have e2 : cnt c f t = cdays (openR c) f (hi0 t + 1 - f).toNat := by unfold cnt lo0; rw [if_neg (by omega)]
    rw [e1, e2, cnt_eq c h0 (by omega)]
    have e3 : (hi0 t + 1 - f).toNat = (m + 1 - f).toNat + (hi0 t + 1 - (m + 1)).toNat := by omega
    have e4 : f + ((m + 1 - f).toNat : Int) = m + 1 := by omega
    rw [e3, cdays_add, e4]
  · have e : ∀ x : Int, 109572 ≤ x → hi0 x = 109572 := fun x hx => by unfold hi0; split <;> omega
    have e1 : cnt c (m + 1) t = 0 := cnt_none (fun x hx _ => by
      cases ho : openR c x with
      | false => rfl
      | true => have := openR_day ho; omega)
    rw [e1]
    unfold cnt
    rw [e m (by omega), e t (by omega)]; omega
theorem cnt_one {c : Cal} {d : Int} (h : openR c d = true) : cnt c d d = 1 := by
  have := openR_day h
  rw [cnt_eq c this.1 this.2]
  have e : (d + 1 - d).toNat = 1 := by omega
  rw [e]; simp [cdays, h, b2i]
theorem cnt_last {c : Cal} {f t : Int} (h0 : 0 ≤ f) (h1 : f ≤ t) (ho : openR c t = true) (hn : ∀ x, f ≤ x → x < t → openR c x = false) : cnt c f t = 1 := by
  have := cnt_add c (f := f) (m := t - 1) (t := t) h0 (by omega) (by omega)
  rw [← this, cnt_none (fun x a b => hn x a (by omega))]
  have e : t - 1 + 1 = t := by omega
  rw [e, cnt_one ho]; rfl
theorem cnt_first {c : Cal} {f t : Int} (h1 : f ≤ t) (ho : openR c f = true) (hn : ∀ x, f < x → x ≤ t → openR c x = false) : cnt c f t = 1 := by
  have hd := openR_day ho
  have := cnt_add c (f := f) (m := f) (t := t) hd.1 (by omega) (by omega)
  rw [← this, cnt_one ho, cnt_none (fun x a b => hn x (by omega) b)]; rfl

theorem lo0_pos {d : Int} (h : 0 ≤ d) : lo0 d = d := by unfold lo0; rw [if_neg (by omega)]
theorem hi0_pos {d : Int} (h : d ≤ 109572) : hi0 d = d := by unfold hi0; rw [if_neg (by omega)]
theorem near_open {c : Cal} {d : Int} (ho : openR c d = true) : nextR c d = (d, 0) ∧ beforeR c d = (d, 0) := by
  have hd := openR_day ho
  constructor
  · have e : (109573 - lo0 d).toNat = (109572 - d).toNat + 1 := by rw [lo0_pos hd.1]; omega
    unfold nextR; rw [e, lo0_pos hd.1, nextN, if_pos ho]
  · have e : (hi0 d + 1).toNat = d.toNat + 1 := by rw [hi0_pos hd.2]; omega
    unfold beforeR; rw [e, hi0_pos hd.2, beforeN, if_pos ho]
theorem near_next {c : Cal} {d : Int} (h0 : 0 ≤ d) (h1 : d ≤ 109572) (ho : openR c d = false) :
    ((nextR c d).2 = 0 ∧ d < (nextR c d).1 ∧ openR c (nextR c d).1 = true ∧ cnt c d (nextR c d).1 = 1) ∨ ((nextR c d).2 = 2 ∧ cnt c d 109572 = 0) := by
  rcases nextR_spec c d (by omega) with ⟨a1, a2, a3, a4, a5⟩ | ⟨a1, a2⟩
  · left
    rw [lo0_pos h0] at a2 a5
    have hne : (nextR c d).1 ≠ d := fun e => by rw [e, ho] at a4; cases a4
    exact ⟨a1, by omega, a4, cnt_last h0 a2 a4 a5⟩
  · right
    rw [a1]
    rw [lo0_pos h0] at a2
    exact ⟨rfl, cnt_none (fun x hx _ => a2 x hx)⟩
theorem near_before {c : Cal} {d : Int} (h0 : 0 ≤ d) (h1 : d ≤ 109572) (ho : openR c d = false) :
    ((beforeR c d).2 = 0 ∧ (beforeR c d).1 < d ∧ openR c (beforeR c d).1 = true ∧ cnt c (beforeR c d).1 d = 1) ∨ ((beforeR c d).2 = 2 ∧ cnt c 0 d = 0) := by
  rcases beforeR_spec c d (by omega) with ⟨a1, a2, a3, a4, a5⟩ | ⟨a1, a2⟩
  · left
    rw [hi0_pos h1] at a2 a5
    have hne : (beforeR c d).1 ≠ d := fun e => by rw [e, ho] at a4; cases a4
    exact ⟨a1, by omega, a4, cnt_first a2 a4 (fun x a b => a5 x b a)⟩
  · right
    rw [a1]
    rw [hi0_pos h1] at a2
    exact ⟨rfl, cnt_none (fun x _ hx => a2 x hx)⟩
theorem laterN_spec {c : Cal} : ∀ (k : Nat) (x : Int), 0 ≤ x → x ≤ 109572 → (laterN c k x).2 = 0 →
    x + k ≤ (laterN c k x).1 ∧ (laterN c k x).1 ≤ 109572 ∧ (0 < k → openR c (laterN c k x).1 = true) ∧ cnt c (x + 1) (laterN c k x).1 = k
  | 0, x, h0, h1, _ => by
    refine ⟨by simp [laterN], h1, fun h => by omega, ?_⟩
    rw [cnt_none (fun y a b => by simp only [laterN] at b; omega)]; rfl
  | k + 1, x, h0, h1, h => by
    simp only [laterN] at h ⊢
    by_cases hz : (nextR c (x + 1)).2 = 0
    · rw [if_neg (by simpa using hz)] at h ⊢
      rcases nextR_spec c (x + 1) (by omega) with ⟨a1, a2, a3, a4, a5⟩ | ⟨a1, _⟩
      · rw [lo0_pos (by omega)] at a2 a5
        obtain ⟨i1, i2, i3, i4⟩ := laterN_spec k _ (by omega) a3 h
        refine ⟨by omega, i2, fun _ => ?_, ?_⟩
        · by_cases hk : 0 < k
          · exact i3 hk
          · have : k = 0 := by omega
            subst this; exact a4
        · rw [← cnt_add c (f := x + 1) (m := (nextR c (x + 1)).1) (by omega) (by omega) (by omega), i4, cnt_last (by omega) a2 a4 a5]; omega
      · rw [a1] at hz; exact absurd hz (by decide)
    · rw [if_pos hz] at h
      exact absurd h hz
theorem later_spec {c : Cal} {d n : Int} (h0 : 0 ≤ d) (h1 : d ≤ 109572) (hn : 0 < n) (hn2 : n ≤ 1000) (h : (laterR c d n).2 = 0) :
    d < (laterR c d n).1 ∧ openR c (laterR c d n).1 = true ∧ cnt c (d + 1) (laterR c d n).1 = n := by
  rw [laterR_go (by omega) (by omega) (by omega)] at h ⊢
  obtain ⟨a1, a2, a3, a4⟩ := laterN_spec n.toNat d h0 h1 h
  exact ⟨by omega, a3 (by omega), by rw [a4]; omega⟩
theorem laterN_rng (c : Cal) : ∀ (k : Nat) (x : Int), 0 ≤ x → x ≤ 109572 → 0 ≤ (laterN c k x).1 ∧ (laterN c k x).1 ≤ 109572 ∧ 0 ≤ (laterN c k x).2 ∧ (laterN c k x).2 ≤ 2
  | 0, x, h0, h1 => by simp [laterN]; omega
  | k + 1, x, h0, h1 => by
    have := nextR_rng c (x + 1)
    simp only [laterN]
    split
    · simp only; omega
    · exact laterN_rng c k _ this.1 this.2.1
theorem laterR_rng (c : Cal) (d n : Int) : 0 ≤ (laterR c d n).1 ∧ (laterR c d n).1 ≤ 109572 ∧ 0 ≤ (laterR c d n).2 ∧ (laterR c d n).2 ≤ 2 := by
  unfold laterR
  split
  · simp
  · split
    · simp
    · split
      · exact nextR_rng c d
      · exact laterN_rng c _ d (by omega) (by omega)
theorem ascF_rng : ∀ (l : List Int) (p : Option Int), 0 ≤ ascF p l ∧ ascF p l ≤ 7
  | [], _ => by simp [ascF]
  | x :: l, p => by
    simp only [ascF]
    split
    · omega
    · exact ascF_rng l _
theorem calR_rng (c : Cal) : 0 ≤ calR c ∧ calR c ≤ 13 := by
  have := ascF_rng c.closed none
  unfold calR
  split
  · omega
  · split
    · omega
    · split
      · omega
      · omega
def c1 : Cal := ⟨96, [46342]⟩
end Pl

/- The policy matrix: what its functions compute. -/
namespace Pl
open Go Ab
set_option linter.unusedVariables false
set_option linter.unusedSimpArgs false

deriving instance DecidableEq for Rule
def zr : Rule := ⟨0, 0, 0, 0, 0, 0, 0, 0, 0, 0, 0, 0, 0⟩
@[simp] theorem encRule_cells (r : Rule) : (encRule r).cells = [.int .i64 r.r0, .int .i64 r.r1, .int .i64 r.r2, .int .i64 r.r3, .int .i64 r.r4, .int .i64 r.fine, .int .i64 r.grace, .int .i64 r.maxFine, .int .i64 r.r8, .int .i64 r.r9, .int .i64 r.r10, .int .i64 r.r11, .int .i64 r.r12] := rfl
def encRules (l : List Rule) : D := .slice (encRule zr) (l.map encRule)
theorem encRules_eq (l : List Rule) : encRules l = .slice (encRule zr) (l.map encRule) := rfl
theorem rules_len {l : List Rule} (h : D.Ok (encRules l)) : l.length ≤ 9223372036854775807 := by
  have := (Ok_slice h).1; simpa using this

def withinB (n a b : Int) : Bool := decide (a ≤ n) && decide (n ≤ b)
def limR (r : Rule) : Bool :=
  ((((((((((((withinB r.r0 0 9 && withinB r.r1 0 9) && withinB r.r2 0 4) && withinB r.r3 0 365) && withinB r.r4 0 10) && withinB r.fine 0 1000) && withinB r.grace 0 30) && withinB r.maxFine 0 100000000) && withinB r.r8 0 99) && withinB r.r9 1 60) && withinB r.r10 1 60) && withinB r.r11 0 109572) && withinB r.r12 0 9)
def limR2 (r : Rule) : Bool :=
  (((((((withinB r.r0 0 9 && withinB r.r1 0 9) && withinB r.r2 0 4) && ((withinB r.r3 0 365 && withinB r.r4 0 10) && withinB r.r8 0 99)) && ((withinB r.fine 0 1000 && withinB r.grace 0 30) && withinB r.maxFine 0 100000000)) && withinB r.r9 1 60) && withinB r.r10 1 60) && withinB r.r11 0 109572) && withinB r.r12 0 9
theorem limR2_eq (r : Rule) : limR2 r = limR r := by
  unfold limR2 limR
  simp only [Bool.and_assoc]
  cases withinB r.r0 0 9 <;> cases withinB r.r1 0 9 <;> cases withinB r.r2 0 4 <;> cases withinB r.r3 0 365 <;> cases withinB r.r4 0 10 <;> simp
  cases withinB r.r8 0 99 <;> simp
def keyB (r o : Rule) : Bool := (o.r0 == r.r0 && o.r1 == r.r1) && o.r2 == r.r2
def rulesF : List Rule → List Rule → Int
  | _, [] => 0
  | p, r :: l => if limR r = false then 2 else if p.any (keyB r) = true then 7 else rulesF (p ++ [r]) l
def rulesR (l : List Rule) : Int := if 32 < l.length then 13 else rulesF [] l
theorem rulesR_full {l : List Rule} (h : 32 < (l.length : Int)) : rulesR l = 13 := if_pos (by omega)
theorem rulesR_ok {l : List Rule} (h : (l.length : Int) ≤ 32) : rulesR l = rulesF [] l := if_neg (by omega)
theorem rulesF_rng : ∀ (l p : List Rule), 0 ≤ rulesF p l ∧ rulesF p l ≤ 7
  | [], _ => by simp [rulesF]
  | r :: l, p => by
    simp only [rulesF]
    split
    · omega
    · split
      · omega
      · exact rulesF_rng l _
theorem rulesR_rng (l : List Rule) : 0 ≤ rulesR l ∧ rulesR l ≤ 13 := by
  have := rulesF_rng l []
  unfold rulesR; split <;> omega

def anyT (p : Rule → Bool) : Unit → List Rule → Bool
  | _, [] => false
  | _, x :: l => if p x = true then true else anyT p () l
theorem anyT_any (p : Rule → Bool) : ∀ l : List Rule, anyT p () l = l.any p
  | [] => rfl
  | x :: l => by simp only [anyT, List.any_cons, anyT_any p l]; cases p x <;> simp
def idxR (p : Rule → Bool) : Int → List Rule → Int
  | _, [] => -1
  | i, x :: l => if p x then i else idxR p (i + 1) l
theorem idxR_any (p : Rule → Bool) : ∀ (l : List Rule) (i : Int), 0 ≤ i → decide (0 ≤ idxR p i l) = l.any p
  | [], i, _ => by simp [idxR]
  | x :: l, i, hi => by
    by_cases hp : p x = true
    · simp [idxR, hp, hi]
    · have hp' : p x = false := by simpa using hp
      simp only [idxR, List.any_cons, hp', Bool.false_eq_true, if_false, Bool.false_or]
      exact idxR_any p l (i + 1) (by omega)

structure Qry where
  p : Int
  i : Int
  b : Int
def fits1 (k n : Int) : Bool := k == 0 || k == n
def fitsB (r : Rule) (q : Qry) : Bool := (fits1 r.r0 q.p && fits1 r.r1 q.i) && fits1 r.r2 q.b
def rkeys (r : Rule) : List Int := [r.r0, r.r1, r.r2]
theorem rkeys_len (r : Rule) : (rkeys r).length = 3 := rfl
def wF : Int → List Int → Int
  | n, [] => n
  | n, k :: l => if k = 0 then wF (IntKind.i64.wrap (n * 2)) l else wF (IntKind.i64.wrap (IntKind.i64.wrap (n * 2) + 1)) l
def wtR (r : Rule) : Int := (if r.r0 = 0 then 0 else 4) + (if r.r1 = 0 then 0 else 2) + (if r.r2 = 0 then 0 else 1)
theorem wF_eq (r : Rule) : wF 0 (rkeys r) = wtR r := by
  unfold rkeys wtR
  simp only [wF]
  have e0 : IntKind.i64.wrap (0 * 2) = 0 := by decide
  have e1 : IntKind.i64.wrap (0 + 1) = 1 := by decide
  have e2 : IntKind.i64.wrap (1 * 2) = 2 := by decide
  have e3 : IntKind.i64.wrap (2 + 1) = 3 := by decide
  have e4 : IntKind.i64.wrap (2 * 2) = 4 := by decide
  have e5 : IntKind.i64.wrap (3 * 2) = 6 := by decide
  have e6 : IntKind.i64.wrap (4 + 1) = 5 := by decide
  have e7 : IntKind.i64.wrap (6 + 1) = 7 := by decide
  simp only [e0, e1, e2, e3, e4, e5, e6, e7]
  split <;> split <;> split <;> rfl
theorem wtR_rng (r : Rule) : 0 ≤ wtR r ∧ wtR r ≤ 7 := by unfold wtR; split <;> split <;> split <;> omega

/-- the row that decides: its index (or -1), its weight -/
def bestF (q : Qry) : Int × Int × Nat → List Rule → Int
  | (at', _, _), [] => at'
  | (at', w, k), x :: l => if fitsB x q = true ∧ (at' < 0 ∨ w < wtR x) then bestF q ((k : Int), wtR x, k + 1) l else bestF q (at', w, k + 1) l
def bestR (l : List Rule) (q : Qry) : Int := bestF q (-1, 0, 0) l
/-- what is known of the best of the first k rows -/
def BestI (l : List Rule) (q : Qry) (k : Nat) (a w : Int) : Prop :=
  (a = -1 ∧ ∀ (j : Nat) x, j < k → l[j]? = some x → fitsB x q = false) ∨
  ∃ (j : Nat) (y : Rule), a = (j : Int) ∧ j < k ∧ l[j]? = some y ∧ w = wtR y ∧ fitsB y q = true ∧
    (∀ (i : Nat) x, i < j → l[i]? = some x → fitsB x q = true → wtR x < wtR y) ∧ ∀ (i : Nat) x, i < k → l[i]? = some x → fitsB x q = true → wtR x ≤ wtR y
theorem BestI.zero (l : List Rule) (q : Qry) : BestI l q 0 (-1) 0 := .inl ⟨rfl, fun j x h => by omega⟩
theorem BestI.step {l : List Rule} {q : Qry} {k : Nat} {a w : Int} {x : Rule} (hx : l[k]? = some x) (h : BestI l q k a w) :
    if fitsB x q = true ∧ (a < 0 ∨ w < wtR x) then BestI l q (k + 1) k (wtR x) else BestI l q (k + 1) a w := by
  rcases h with ⟨rfl, h⟩ | ⟨j, y, rfl, hj, hy, rfl, hf, h1, h2⟩
  · split
    · rename_i hc
      refine .inr ⟨k, x, rfl, by omega, hx, rfl, hc.1, fun i z hi hz hfz => ?_, fun i z hi hz hfz => ?_⟩
      · rw [h i z hi hz] at hfz; cases hfz
      · by_cases e : i = k
        · subst e; rw [hx] at hz; cases hz; exact Int.le_refl _
        · rw [h i z (by omega) hz] at hfz; cases hfz
    · rename_i hc
      refine .inl ⟨rfl, fun i z hi hz => ?_⟩
      by_cases e : i = k
      · subst e; rw [hx] at hz; cases hz
        simp at hc; exact hc
      · exact h i z (by omega) hz
  · split
    · rename_i hc
      have hw : wtR y < wtR x := by have := hc.2; omega
      refine .inr ⟨k, x, rfl, by omega, hx, rfl, hc.1, fun i z hi hz hfz => ?_, fun i z hi hz hfz => ?_⟩
      · have := h2 i z hi hz hfz; omega
      · by_cases e : i = k
        · subst e; rw [hx] at hz; cases hz; exact Int.le_refl _
        · have := h2 i z (by omega) hz hfz; omega
    · rename_i hc
      refine .inr ⟨j, y, rfl, by omega, hy, rfl, hf, h1, fun i z hi hz hfz => ?_⟩
      by_cases e : i = k
      · subst e; rw [hx] at hz; cases hz
        simp only [hfz, true_and, not_or, Int.not_lt] at hc; exact hc.2
      · exact h2 i z (by omega) hz hfz
theorem BestI.rng {l : List Rule} {q : Qry} {k : Nat} {a w : Int} (h : BestI l q k a w) : -1 ≤ a ∧ a < (l.length : Int) := by
  rcases h with ⟨rfl, _⟩ | ⟨j, y, rfl, hj, hy, _⟩
  · omega
  · have := (List.getElem?_eq_some_iff.1 hy).1; omega
theorem BestI.at' {l : List Rule} {q : Qry} {k : Nat} {a w : Int} (h : BestI l q k a w) : 0 ≤ a → w = wtR (l[a.toNat]?.getD zr) := by
  intro h0
  rcases h with ⟨rfl, _⟩ | ⟨j, y, rfl, hj, hy, hw, _⟩
  · omega
  · rw [show ((j : Int)).toNat = j by omega, hy]; exact hw
theorem best_t {a w v x : Int} {b : Bool} (haw : 0 ≤ a → w = v) (h : b = true ∧ (a < 0 ∨ v < x)) : b = true ∧ (a < 0 ∨ w < x) := by
  refine ⟨h.1, ?_⟩
  by_cases h0 : a < 0
  · exact .inl h0
  · rw [haw (by omega)]; exact h.2
theorem best_n {a w v x : Int} {b : Bool} (haw : 0 ≤ a → w = v) (h : b = true → 0 ≤ a ∧ x ≤ v) : ¬ (b = true ∧ (a < 0 ∨ w < x)) := by
  rintro ⟨h1, h2⟩
  have := h h1
  have := haw this.1
  omega
theorem bestF_spec (l : List Rule) (q : Qry) : ∀ (n k : Nat) (a w : Int), n + k = l.length → BestI l q k a w → ∃ w', BestI l q l.length (bestF q (a, w, k) (l.drop k)) w'
  | 0, k, a, w, hn, h => by
    have e : l.drop k = [] := List.drop_eq_nil_of_le (by omega)
    have e2 : k = l.length := by omega
    rw [e]; simp only [bestF]
    exact ⟨w, e2 ▸ h⟩
  | n + 1, k, a, w, hn, h => by
    obtain ⟨x, hx, _, hd⟩ := at_indexG (l := l) (k := k) (by omega)
    rw [hd]; simp only [bestF]
    have hs := h.step hx
    split at hs
    · rename_i hc; rw [if_pos hc]; exact bestF_spec l q n (k + 1) _ _ (by omega) hs
    · rename_i hc; rw [if_neg hc]; exact bestF_spec l q n (k + 1) _ _ (by omega) hs
theorem bestR_spec (l : List Rule) (q : Qry) : ∃ w, BestI l q l.length (bestR l q) w := by
  have := bestF_spec l q l.length 0 (-1) 0 (by omega) (BestI.zero l q)
  unfold bestR; simpa using this
theorem bestR_rng (l : List Rule) (q : Qry) : -1 ≤ bestR l q ∧ bestR l q < l.length := by
  obtain ⟨w, h⟩ := bestR_spec l q
  rcases h with ⟨h, _⟩ | ⟨j, y, h, hj, _⟩ <;> omega
def findR (l : List Rule) (q : Qry) : Rule := if bestR l q < 0 then zr else l[(bestR l q).toNat]?.getD zr
def foundR (l : List Rule) (q : Qry) : Bool := decide (0 ≤ bestR l q)

theorem find_some {l : List Rule} {q : Qry} (h : 0 ≤ bestR l q) : findR l q = l[(bestR l q).toNat]?.getD zr := by unfold findR; rw [if_neg (by omega)]
theorem found_some {l : List Rule} {q : Qry} (h : 0 ≤ bestR l q) : foundR l q = true := by simp [foundR, h]
def lastR (r : Rule) (u : Int) : Int := if 0 < r.r11 then (if r.r11 < u then r.r11 else u) else u
def minI (a b : Int) : Int := if b < a then b else a
def dueA (r : Rule) (c : Cal) (d u : Int) : Int × Int := nextR c (minI (IntKind.i64.wrap (d + r.r3)) (lastR r u))
def dueR (r : Rule) (c : Cal) (d u : Int) : Int × Int :=
  if withinB d 0 109572 = false ∨ withinB u 0 109572 = false then (0, 2)
  else if r.r3 = 0 ∨ lastR r u ≤ d then (0, 15)
  else if (dueA r c d u).2 = 0 ∧ (dueA r c d u).1 ≤ lastR r u then ((dueA r c d u).1, 0)
  else if ¬ (beforeR c (lastR r u)).2 = 0 ∨ (beforeR c (lastR r u)).1 ≤ d then (0, 15)
  else ((beforeR c (lastR r u)).1, 0)
section
variable {r : Rule} {c : Cal} {d u : Int}
theorem due_a (h : withinB d 0 109572 = false ∨ withinB u 0 109572 = false) : dueR r c d u = (0, 2) := if_pos h
theorem due_n (h : withinB d 0 109572 = true ∧ withinB u 0 109572 = true) : ¬ (withinB d 0 109572 = false ∨ withinB u 0 109572 = false) := by simp [h.1, h.2]
theorem due_b (h : withinB d 0 109572 = true ∧ withinB u 0 109572 = true) (h2 : r.r3 = 0 ∨ lastR r u ≤ d) : dueR r c d u = (0, 15) := by
  unfold dueR; rw [if_neg (due_n h), if_pos h2]
theorem due_c (h : withinB d 0 109572 = true ∧ withinB u 0 109572 = true) (h2 : ¬ r.r3 = 0 ∧ d < lastR r u) (h3 : (dueA r c d u).2 = 0 ∧ (dueA r c d u).1 ≤ lastR r u) : dueR r c d u = ((dueA r c d u).1, 0) := by
  unfold dueR; rw [if_neg (due_n h), if_neg (by omega), if_pos h3]
theorem due_d (h : withinB d 0 109572 = true ∧ withinB u 0 109572 = true) (h2 : ¬ r.r3 = 0 ∧ d < lastR r u) (h3 : ¬ ((dueA r c d u).2 = 0 ∧ (dueA r c d u).1 ≤ lastR r u)) (h4 : ¬ (beforeR c (lastR r u)).2 = 0 ∨ (beforeR c (lastR r u)).1 ≤ d) : dueR r c d u = (0, 15) := by
  unfold dueR; rw [if_neg (due_n h), if_neg (by omega), if_neg h3, if_pos h4]
theorem due_e (h : withinB d 0 109572 = true ∧ withinB u 0 109572 = true) (h2 : ¬ r.r3 = 0 ∧ d < lastR r u) (h3 : ¬ ((dueA r c d u).2 = 0 ∧ (dueA r c d u).1 ≤ lastR r u)) (h4 : (beforeR c (lastR r u)).2 = 0 ∧ d < (beforeR c (lastR r u)).1) : dueR r c d u = ((beforeR c (lastR r u)).1, 0) := by
  unfold dueR; rw [if_neg (due_n h), if_neg (by omega), if_neg h3, if_neg (by omega)]
end
theorem limR_facts {r : Rule} (h : limR r = true) : (0 ≤ r.r0 ∧ r.r0 ≤ 9) ∧ (0 ≤ r.r1 ∧ r.r1 ≤ 9) ∧ (0 ≤ r.r2 ∧ r.r2 ≤ 4) ∧ (0 ≤ r.r3 ∧ r.r3 ≤ 365) ∧ 0 ≤ r.r11 ∧ r.r11 ≤ 109572 := by
  simp only [limR, withinB, Bool.and_eq_true, decide_eq_true_eq] at h
  omega
theorem due_gt {r : Rule} {c : Cal} {d u : Int} (hr : limR r = true) (h : withinB d 0 109572 = true ∧ withinB u 0 109572 = true) (h2 : ¬ r.r3 = 0 ∧ d < lastR r u) (h3 : (dueA r c d u).2 = 0) : d < (dueA r c d u).1 := by
  have hf := limR_facts hr
  simp only [withinB, Bool.and_eq_true, decide_eq_true_eq] at h
  have hl : lastR r u ≤ 109572 := by unfold lastR; split <;> (try split) <;> omega
  unfold dueA at h3 ⊢
  rw [wrap_i64 (n := d + r.r3) (by omega) (by omega)] at h3 ⊢
  have hm : d < minI (d + r.r3) (lastR r u) ∧ minI (d + r.r3) (lastR r u) ≤ 109572 := by unfold minI; split <;> omega
  rcases nextR_spec c (minI (d + r.r3) (lastR r u)) (by omega) with ⟨a1, a2, _⟩ | ⟨a1, _⟩
  · rw [lo0_pos (by omega)] at a2; omega
  · rw [a1] at h3; exact absurd h3 (by decide)
structure Loan where
  item : Int
  patron : Int
  out : Int
  due : Int
  ren : Int
  rcl : Bool
  deriving DecidableEq
def encLoan (n : Loan) : D := .agg [.int .i64 n.item, .int .i64 n.patron, .int .i64 n.out, .int .i64 n.due, .int .i64 n.ren, .bool n.rcl]
theorem encLoan_eq (n : Loan) : encLoan n = .agg [.int .i64 n.item, .int .i64 n.patron, .int .i64 n.out, .int .i64 n.due, .int .i64 n.ren, .bool n.rcl] := rfl
def renR (r : Rule) (c : Cal) (n : Loan) (d u : Int) : Int × Int :=
  if r.r4 ≤ n.ren ∨ n.rcl = true then (0, 15)
  else if ¬ (dueR r c d u).2 = 0 then (0, (dueR r c d u).2)
  else if (dueR r c d u).1 ≤ n.due then (0, 15) else ((dueR r c d u).1, 0)
section
variable {r : Rule} {c : Cal} {n : Loan} {d u : Int}
theorem ren_a (h : r.r4 ≤ n.ren ∨ n.rcl = true) : renR r c n d u = (0, 15) := if_pos h
theorem ren_n (h : n.ren < r.r4 ∧ n.rcl = false) : ¬ (r.r4 ≤ n.ren ∨ n.rcl = true) := by simp [h.2]; omega
theorem ren_b (h : n.ren < r.r4 ∧ n.rcl = false) (h2 : ¬ (dueR r c d u).2 = 0) : renR r c n d u = (0, (dueR r c d u).2) := by unfold renR; rw [if_neg (ren_n h), if_pos h2]
theorem ren_c (h : n.ren < r.r4 ∧ n.rcl = false) (h2 : (dueR r c d u).2 = 0) (h3 : (dueR r c d u).1 ≤ n.due) : renR r c n d u = (0, 15) := by unfold renR; rw [if_neg (ren_n h), if_neg (by omega), if_pos h3]
theorem ren_d (h : n.ren < r.r4 ∧ n.rcl = false) (h2 : (dueR r c d u).2 = 0) (h3 : n.due < (dueR r c d u).1) : renR r c n d u = ((dueR r c d u).1, 0) := by unfold renR; rw [if_neg (ren_n h), if_neg (by omega), if_neg (by omega)]
end
end Pl

/- Which rows of the policy matrix never decide. -/
namespace Pl
open Go Ab
set_option linter.unusedVariables false
set_option linter.unusedSimpArgs false
/-- 1, 2, .., n -/
def ns (n : Nat) : List Int := (List.range n).map (fun k : Nat => (k : Int) + 1)
theorem ns_len (n : Nat) : (ns n).length = n := by simp [ns]
theorem ns_get {n k : Nat} {x : Int} (h : (ns n)[k]? = some x) : x = (k : Int) + 1 := by
  simp only [ns, List.getElem?_map] at h
  obtain ⟨a, ha, rfl⟩ := Option.map_eq_some_iff.1 h
  have := List.getElem?_eq_some_iff.1 ha
  obtain ⟨_, e⟩ := this
  simp at e; omega
theorem ns_mem {n : Nat} {x : Int} : x ∈ ns n ↔ 1 ≤ x ∧ x ≤ n := by
  simp only [ns, List.mem_map, List.mem_range]
  constructor
  · rintro ⟨a, h, rfl⟩; omega
  · rintro ⟨h1, h2⟩; exact ⟨(x - 1).toNat, by omega, by omega⟩
def markQ (u : List Bool) (a : Int) : List Bool := if 0 ≤ a then u.set a.toNat true else u
def markB (l : List Rule) (p i : Int) : List Bool → List Int → List Bool
  | u, [] => u
  | u, b :: r => markB l p i (markQ u (bestR l ⟨p, i, b⟩)) r
def markI (l : List Rule) (p : Int) : List Bool → List Int → List Bool
  | u, [] => u
  | u, i :: r => markI l p (markB l p i u (ns 4)) r
def markP (l : List Rule) : List Bool → List Int → List Bool
  | u, [] => u
  | u, p :: r => markP l (markI l p u (ns 9)) r
def outF : List Int × Nat → List Bool → List Int
  | (o, _), [] => o
  | (o, m), u :: r => if u = true then outF (o, m + 1) r else outF (o ++ [(m : Int)], m + 1) r
def hidR (l : List Rule) : List Int := outF ([], 0) (markP l (List.replicate l.length false) (ns 9))
@[simp] theorem mark_len (u : List Bool) (a : Int) : (markQ u a).length = u.length := by unfold markQ; split <;> simp
@[simp] theorem markB_len (l : List Rule) (p i : Int) : ∀ (r : List Int) (u : List Bool), (markB l p i u r).length = u.length
  | [], u => rfl
  | b :: r, u => by simp only [markB]; rw [markB_len l p i r]; simp
@[simp] theorem markI_len (l : List Rule) (p : Int) : ∀ (r : List Int) (u : List Bool), (markI l p u r).length = u.length
  | [], u => rfl
  | b :: r, u => by simp only [markI]; rw [markI_len l p r]; simp
theorem markP_len (l : List Rule) : ∀ (r : List Int) (u : List Bool), (markP l u r).length = u.length
  | [], u => rfl
  | b :: r, u => by simp only [markP]; rw [markP_len l r]; simp
/-- row j decides for q -/
def decC (l : List Rule) (j : Nat) (q : Qry) : Bool := (match l[j]? with | some y => fitsB y q | none => false) && bestR l q == (j : Int)
theorem decC_eq {l : List Rule} {j : Nat} {y : Rule} {q : Qry} (h : l[j]? = some y) : decC l j q = (fitsB y q && bestR l q == (j : Int)) := by unfold decC; rw [h]
def decB (l : List Rule) (j : Nat) (p i : Int) : Unit → List Int → Bool
  | _, [] => false
  | _, b :: r => if decC l j ⟨p, i, b⟩ = true then true else decB l j p i () r
def decI (l : List Rule) (j : Nat) (p : Int) : Unit → List Int → Bool
  | _, [] => false
  | _, i :: r => if decB l j p i () (ns 4) = true then true else decI l j p () r
def decP (l : List Rule) (j : Nat) : Unit → List Int → Bool
  | _, [] => false
  | _, p :: r => if decI l j p () (ns 9) = true then true else decP l j () r
def decR (l : List Rule) (j : Nat) : Bool := decP l j () (ns 9)
def outG (l : List Rule) : List Int × Nat → List Rule → List Int
  | (o, _), [] => o
  | (o, m), _ :: r => if decR l m = true then outG l (o, m + 1) r else outG l (o ++ [(m : Int)], m + 1) r
def hidG (l : List Rule) : List Int := outG l ([], 0) l
def sameI : List Int → List Int → Bool := fun r l => decide (l = r)

/-- the best row fits -/
theorem best_fits {l : List Rule} {q : Qry} {j : Nat} (h : bestR l q = (j : Int)) : ∃ y, l[j]? = some y ∧ fitsB y q = true := by
  obtain ⟨w, hw⟩ := bestR_spec l q
  rcases hw with ⟨e, _⟩ | ⟨j', y, e, _, hy, _, hf, _⟩
  · omega
  · have : j = j' := by omega
    subst this; exact ⟨y, hy, hf⟩
theorem decC_best (l : List Rule) (j : Nat) (q : Qry) : decC l j q = (bestR l q == (j : Int)) := by
  by_cases h : bestR l q = (j : Int)
  · obtain ⟨y, hy, hf⟩ := best_fits h
    rw [decC_eq hy, hf]; simp
  · have : (bestR l q == (j : Int)) = false := by simpa using h
    unfold decC; rw [this]; simp
theorem decB_any (l : List Rule) (j : Nat) (p i : Int) : ∀ r, decB l j p i () r = r.any (fun b => bestR l ⟨p, i, b⟩ == (j : Int))
  | [] => rfl
  | b :: r => by
    simp only [decB, List.any_cons, decB_any l j p i r, decC_best]
    cases (bestR l ⟨p, i, b⟩ == (j : Int)) <;> simp
theorem decI_any (l : List Rule) (j : Nat) (p : Int) : ∀ r, decI l j p () r = r.any (fun i => decB l j p i () (ns 4))
  | [] => rfl
  | b :: r => by simp only [decI, List.any_cons, decI_any l j p r]; cases decB l j p b () (ns 4) <;> simp
theorem decP_any (l : List Rule) (j : Nat) : ∀ r, decP l j () r = r.any (fun p => decI l j p () (ns 9))
  | [] => rfl
  | b :: r => by simp only [decP, List.any_cons, decP_any l j r]; cases decI l j b () (ns 9) <;> simp
theorem mark_get {u : List Bool} {a : Int} {j : Nat} (h : j < u.length) : (markQ u a)[j]?.getD false = (u[j]?.getD false || a == (j : Int)) := by
  unfold markQ
  split
  · rename_i h0
    rw [List.getElem?_set]
    by_cases e : a.toNat = j
    · have : a = (j : Int) := by omega
      simp [e, this, h]
    · have : ¬ a = (j : Int) := by omega
      simp [e, this]
  · rename_i h0
    have : ¬ a = (j : Int) := by omega
    simp [this]
theorem markB_get (l : List Rule) (p i : Int) (j : Nat) : ∀ (r : List Int) (u : List Bool), j < u.length → (markB l p i u r)[j]?.getD false = (u[j]?.getD false || decB l j p i () r)
  | [], u, _ => by simp [markB, decB]
  | b :: r, u, h => by
    simp only [markB]
    rw [markB_get l p i j r _ (by simpa using h), mark_get h, decB_any, decB_any, List.any_cons, Bool.or_assoc]
theorem markI_get (l : List Rule) (p : Int) (j : Nat) : ∀ (r : List Int) (u : List Bool), j < u.length → (markI l p u r)[j]?.getD false = (u[j]?.getD false || decI l j p () r)
  | [], u, _ => by simp [markI, decI]
  | b :: r, u, h => by
    simp only [markI]
    rw [markI_get l p j r _ (by simpa using h), markB_get l p b j _ _ h, decI_any, decI_any, List.any_cons, Bool.or_assoc]
theorem markP_get (l : List Rule) (j : Nat) : ∀ (r : List Int) (u : List Bool), j < u.length → (markP l u r)[j]?.getD false = (u[j]?.getD false || decP l j () r)
  | [], u, _ => by simp [markP, decP]
  | b :: r, u, h => by
    simp only [markP]
    rw [markP_get l j r _ (by simpa using h), markI_get l b j _ _ h, decP_any, decP_any, List.any_cons, Bool.or_assoc]
theorem used_get {l : List Rule} {j : Nat} (h : j < l.length) : (markP l (List.replicate l.length false) (ns 9))[j]?.getD false = decR l j := by
  rw [markP_get l j _ _ (by simpa using h)]
  simp [h, decR]
theorem out_eq (l : List Rule) : ∀ (n m : Nat) (o : List Int) (us : List Bool), us.length = l.length → (∀ j, j < l.length → us[j]?.getD false = decR l j) → n + m = l.length →
    outF (o, m) (us.drop m) = outG l (o, m) (l.drop m)
  | 0, m, o, us, h1, h2, h3 => by
    rw [List.drop_eq_nil_of_le (by omega), List.drop_eq_nil_of_le (by omega)]; rfl
  | n + 1, m, o, us, h1, h2, h3 => by
    obtain ⟨u, hu, _, hud⟩ := at_indexG (l := us) (k := m) (by omega)
    obtain ⟨x, hx, _, hxd⟩ := at_indexG (l := l) (k := m) (by omega)
    have e := h2 m (by omega)
    rw [hu] at e
    have e' : u = decR l m := e
    rw [hud, hxd]
    simp only [outF, outG]
    rw [e', out_eq l n (m + 1) _ us h1 h2 (by omega), out_eq l n (m + 1) _ us h1 h2 (by omega)]
theorem hid_eq (l : List Rule) : hidR l = hidG l := by
  have := out_eq l l.length 0 [] (markP l (List.replicate l.length false) (ns 9)) (by rw [markP_len]; simp) (fun j hj => used_get hj) (by omega)
  simpa [hidR, hidG] using this
end Pl

/- The policy matrix: what decides, what is hidden, and when loans are due. -/
namespace Pl
open Go Ab
set_option linter.unusedVariables false
set_option linter.unusedSimpArgs false

theorem keyB_iff {r o : Rule} : keyB r o = true ↔ o.r0 = r.r0 ∧ o.r1 = r.r1 ∧ o.r2 = r.r2 := by simp [keyB, and_assoc]
/-- in a valid matrix no two rows have the same keys -/
theorem rules_pair : ∀ (l p : List Rule), rulesF p l = 0 → (∀ r ∈ l, ∀ o ∈ p, keyB r o = false) ∧ l.Pairwise (fun a b => keyB b a = false) ∧ ∀ r ∈ l, limR r = true
  | [], p, _ => ⟨by simp, List.Pairwise.nil, by simp⟩
  | r :: l, p, h => by
    simp only [rulesF] at h
    split at h
    · exact absurd h (by decide)
    · rename_i h1
      split at h
      · exact absurd h (by decide)
      · rename_i h2
        obtain ⟨i1, i2, i3⟩ := rules_pair l _ h
        have h2' : ∀ o ∈ p, keyB r o = false := by simpa using h2
        refine ⟨fun x hx o ho => ?_, List.Pairwise.cons (fun x hx => i1 x hx r (by simp)) i2, fun x hx => ?_⟩
        · rcases List.mem_cons.1 hx with rfl | hx
          · exact h2' o ho
          · exact i1 x hx o (by simp [ho])
        · rcases List.mem_cons.1 hx with rfl | hx
          · simpa using h1
          · exact i3 x hx
theorem pair_mem {l : List Rule} (h : l.Pairwise (fun a b => keyB b a = false)) : ∀ x ∈ l, ∀ y ∈ l, keyB x y = true → x = y := by
  induction h with
  | nil => intro x hx; simp at hx
  | cons h1 _ ih =>
    intro x hx y hy hk
    rcases List.mem_cons.1 hx with rfl | hx' <;> rcases List.mem_cons.1 hy with rfl | hy'
    · rfl
    · have := h1 y hy'
      have e : keyB y x = true := by rw [keyB_iff] at hk ⊢; omega
      rw [e] at this; cases this
    · have := h1 x hx'
      rw [hk] at this; cases this
    · exact ih x hx' y hy' hk
theorem rules_facts {l : List Rule} (h : rulesR l = 0) : l.length ≤ 32 ∧ (∀ x ∈ l, ∀ y ∈ l, keyB x y = true → x = y) ∧ ∀ r ∈ l, limR r = true := by
  unfold rulesR at h
  split at h
  · exact absurd h (by decide)
  · obtain ⟨_, i2, i3⟩ := rules_pair l [] h
    exact ⟨by omega, pair_mem i2, i3⟩
theorem fits_key {x y : Rule} {q : Qry} (hx : fitsB x q = true) (hy : fitsB y q = true) (hw : wtR x = wtR y) : keyB x y = true := by
  rw [keyB_iff]
  simp only [fitsB, fits1, Bool.and_eq_true, Bool.or_eq_true, beq_iff_eq] at hx hy
  unfold wtR at hw
  split at hw <;> split at hw <;> split at hw <;> split at hw <;> split at hw <;> split at hw <;> omega
/-- the row that decides, if there is one -/
theorem best_row (l : List Rule) (q : Qry) :
    (foundR l q = false ∧ findR l q = zr ∧ ∀ x ∈ l, fitsB x q = false) ∨
    (foundR l q = true ∧ ∃ j : Nat, bestR l q = (j : Int) ∧ l[j]? = some (findR l q) ∧ findR l q ∈ l ∧ fitsB (findR l q) q = true ∧ ∀ x ∈ l, fitsB x q = true → wtR x ≤ wtR (findR l q)) := by
  obtain ⟨w, hw⟩ := bestR_spec l q
  rcases hw with ⟨e, h⟩ | ⟨j, y, e, hj, hy, _, hf, _, h2⟩
  · left
    refine ⟨by simp [foundR, e], by unfold findR; rw [if_pos (by omega)], fun x hx => ?_⟩
    obtain ⟨i, hi⟩ := List.getElem?_of_mem hx
    exact h i x (List.getElem?_eq_some_iff.1 hi).1 hi
  · right
    have ey : findR l q = y := by
      unfold findR
      rw [if_neg (by omega), e]
      have : ((j : Int)).toNat = j := by omega
      rw [this, hy]; rfl
    rw [ey]
    refine ⟨by simp [foundR, e], j, e, hy, List.mem_of_getElem? hy, hf, fun x hx hfx => ?_⟩
    obtain ⟨i, hi⟩ := List.getElem?_of_mem hx
    exact h2 i x (List.getElem?_eq_some_iff.1 hi).1 hi hfx
theorem best_uniq {l : List Rule} (h : rulesR l = 0) {q : Qry} {x : Rule} (hx : x ∈ l) (hf : fitsB x q = true) (hne : ¬ x = findR l q) : foundR l q = true ∧ wtR x < wtR (findR l q) := by
  rcases best_row l q with ⟨_, _, h3⟩ | ⟨h1, j, _, _, h4, h5, h6⟩
  · rw [h3 x hx] at hf; cases hf
  · refine ⟨h1, ?_⟩
    have := h6 x hx hf
    by_cases e : wtR x = wtR (findR l q)
    · exact absurd ((rules_facts h).2.1 x hx _ h4 (fits_key hf h5 e)) hne
    · omega
/-- what PolicyDecides gathers -/
def thereB (q : Qry) (r : Rule) (l : List Rule) : Bool := l.any (fun y => fitsB y q && y == r)
theorem there_found (l : List Rule) (q : Qry) : thereB q (findR l q) l = foundR l q := by
  rcases best_row l q with ⟨h1, _, h3⟩ | ⟨h1, j, _, _, h4, h5, _⟩
  · rw [h1]
    unfold thereB
    rw [List.any_eq_false]
    intro x hx
    rw [h3 x hx]; simp
  · rw [h1]
    unfold thereB
    rw [List.any_eq_true]
    exact ⟨_, h4, by rw [h5]; simp⟩
theorem thereB_snoc (q : Qry) (r x : Rule) (l : List Rule) : thereB q r (l ++ [x]) = (thereB q r l || (fitsB x q && x == r)) := by simp [thereB]

theorem due_open {r : Rule} {c : Cal} {d u : Int} (hr : limR r = true) : 
    (¬ (dueR r c d u).2 = 0 → (dueR r c d u).1 = 0) ∧
    ((dueR r c d u).2 = 0 → d < (dueR r c d u).1 ∧ (dueR r c d u).1 ≤ u ∧ (0 < r.r11 → (dueR r c d u).1 ≤ r.r11) ∧ openR c (dueR r c d u).1 = true) := by
  have hf := limR_facts hr
  by_cases h : withinB d 0 109572 = true ∧ withinB u 0 109572 = true
  · have hb : (0 ≤ d ∧ d ≤ 109572) ∧ 0 ≤ u ∧ u ≤ 109572 := by simpa [withinB] using h
    have hlast : lastR r u ≤ u ∧ (0 < r.r11 → lastR r u ≤ r.r11) ∧ 0 ≤ lastR r u := by unfold lastR; split <;> (try split) <;> omega
    by_cases h2 : r.r3 = 0 ∨ lastR r u ≤ d
    · rw [due_b h h2]; simp
    · have h2' : ¬ r.r3 = 0 ∧ d < lastR r u := by omega
      by_cases h3 : (dueA r c d u).2 = 0 ∧ (dueA r c d u).1 ≤ lastR r u
      · rw [due_c h h2' h3]
        refine ⟨fun e => absurd rfl e, fun _ => ?_⟩
        have hg := due_gt (c := c) hr h h2' h3.1
        refine ⟨hg, by simp only; omega, fun e => by have := hlast.2.1 e; simp only; omega, ?_⟩
        unfold dueA at h3 ⊢
        have hm : minI (IntKind.i64.wrap (d + r.r3)) (lastR r u) ≤ 109573 := by unfold minI; split <;> omega
        rcases nextR_spec c _ hm with ⟨_, _, _, a4, _⟩ | ⟨a1, _⟩
        · exact a4
        · rw [a1] at h3; exact absurd h3.1 (by decide)
      · by_cases h4 : ¬ (beforeR c (lastR r u)).2 = 0 ∨ (beforeR c (lastR r u)).1 ≤ d
        · rw [due_d h h2' h3 h4]; simp
        · have h4' : (beforeR c (lastR r u)).2 = 0 ∧ d < (beforeR c (lastR r u)).1 := by omega
          rw [due_e h h2' h3 h4']
          refine ⟨fun e => absurd rfl e, fun _ => ?_⟩
          rcases beforeR_spec c (lastR r u) (by omega) with ⟨_, a2, _, a4, _⟩ | ⟨a1, _⟩
          · have e : hi0 (lastR r u) ≤ lastR r u := (hi0_rng _).2
            exact ⟨h4'.2, by simp only; omega, fun e => by have := hlast.2.1 e; simp only; omega, a4⟩
          · rw [a1] at h4'; exact absurd h4'.1 (by decide)
  · have h' : withinB d 0 109572 = false ∨ withinB u 0 109572 = false := by
      cases ha : withinB d 0 109572 <;> cases hb : withinB u 0 109572 <;> simp_all
    rw [due_a h']; simp
theorem all_open {d : Int} (h0 : 0 ≤ d) (h1 : d ≤ 109572) {c : Cal} (hw : c.week = 0) (hc : c.closed = []) : openR c d = true := by
  have hcal : calR c = 0 := by
    unfold calR; rw [hw, hc]; rfl
  rw [openR_eq2 hcal h0 h1, hw, hc]
  have : ∀ k : Fin 7, wkB 0 k.val = true := by decide +kernel
  have hr := wday_rng h0 h1
  have := this ⟨(wday d).toNat, by omega⟩
  simpa using this
theorem due_all {r : Rule} {c : Cal} {d u : Int} (hr : limR r = true) (hw : c.week = 0) (hc : c.closed = []) (h : (dueR r c d u).2 = 0) :
    (dueR r c d u).1 = minI (IntKind.i64.wrap (d + r.r3)) (lastR r u) := by
  have hf := limR_facts hr
  by_cases h1 : withinB d 0 109572 = true ∧ withinB u 0 109572 = true
  · have hb : (0 ≤ d ∧ d ≤ 109572) ∧ 0 ≤ u ∧ u ≤ 109572 := by simpa [withinB] using h1
    have hlast : lastR r u ≤ u ∧ 0 ≤ lastR r u := by unfold lastR; split <;> (try split) <;> omega
    by_cases h2 : r.r3 = 0 ∨ lastR r u ≤ d
    · rw [due_b h1 h2] at h; exact absurd h (by decide)
    · have h2' : ¬ r.r3 = 0 ∧ d < lastR r u := by omega
      have hwr : IntKind.i64.wrap (d + r.r3) = d + r.r3 := wrap_i64 (by omega) (by omega)
      have hm : 0 ≤ minI (IntKind.i64.wrap (d + r.r3)) (lastR r u) ∧ minI (IntKind.i64.wrap (d + r.r3)) (lastR r u) ≤ lastR r u := by rw [hwr]; unfold minI; split <;> omega
      have ho := all_open hm.1 (by omega) hw hc
      have ha : dueA r c d u = (minI (IntKind.i64.wrap (d + r.r3)) (lastR r u), 0) := (near_open ho).1
      have h3 : (dueA r c d u).2 = 0 ∧ (dueA r c d u).1 ≤ lastR r u := by rw [ha]; exact ⟨rfl, hm.2⟩
      rw [due_c h1 h2' h3, ha]
  · have h' : withinB d 0 109572 = false ∨ withinB u 0 109572 = false := by
      cases ha : withinB d 0 109572 <;> cases hb : withinB u 0 109572 <;> simp_all
    rw [due_a h'] at h; exact absurd h (by decide)

/-- the rows that are not hidden -/
def omF (hid : List Int) : List Rule × Nat → List Rule → List Rule
  | (o, _), [] => o
  | (o, m), x :: r => if hid.contains (m : Int) = true then omF hid (o, m + 1) r else omF hid (o ++ [x], m + 1) r
def omR (l : List Rule) : List Rule := omF (hidR l) ([], 0) l
theorem outG_mem (l : List Rule) : ∀ (r : List Rule) (m : Nat) (o : List Int), (∀ i ∈ o, i < (m : Int)) → ∀ j : Nat, (j : Int) ∈ outG l (o, m) r ↔ ((j : Int) ∈ o ∨ (m ≤ j ∧ j < m + r.length ∧ decR l j = false))
  | [], m, o, ho, j => by
    simp only [outG, List.length_nil, Nat.add_zero]
    constructor
    · exact .inl
    · rintro (h | h)
      · exact h
      · omega
  | x :: r, m, o, ho, j => by
    simp only [outG, List.length_cons]
    split
    · rename_i hd
      rw [outG_mem l r (m + 1) o (fun i hi => by have := ho i hi; omega) j]
      constructor
      · rintro (h | h)
        · exact .inl h
        · exact .inr ⟨by omega, by omega, h.2.2⟩
      · rintro (h | ⟨h1, h2, h3⟩)
        · exact .inl h
        · right
          have : j ≠ m := fun e => by rw [e, hd] at h3; cases h3
          exact ⟨by omega, by omega, h3⟩
    · rename_i hd
      have hd' : decR l m = false := by simpa using hd
      rw [outG_mem l r (m + 1) _ (fun i hi => by
        rcases List.mem_append.1 hi with hi | hi
        · have := ho i hi; omega
        · simp at hi; omega) j]
      constructor
      · rintro (h | h)
        · rcases List.mem_append.1 h with h | h
          · exact .inl h
          · right
            have e : j = m := by simp at h; omega
            exact ⟨by omega, by omega, e ▸ hd'⟩
        · exact .inr ⟨by omega, by omega, h.2.2⟩
      · rintro (h | ⟨h1, h2, h3⟩)
        · exact .inl (by simp [h])
        · by_cases e : j = m
          · left; simp [e]
          · right; exact ⟨by omega, by omega, h3⟩
theorem hid_mem {l : List Rule} {j : Nat} (h : j < l.length) : (hidR l).contains (j : Int) = !(decR l j) := by
  have := outG_mem l l 0 [] (by simp) j
  rw [hid_eq, List.contains_eq_mem]
  unfold hidG
  cases hd : decR l j
  · simp [this, h, hd]
  · simp [this, hd]
theorem outG_len (l : List Rule) : ∀ (r : List Rule) (m : Nat) (o : List Int), (outG l (o, m) r).length = o.length + ((List.range r.length).filter (fun i => !(decR l (m + i)))).length
  | [], m, o => by simp [outG]
  | x :: r, m, o => by
    simp only [outG, List.length_cons, List.range_succ_eq_map, List.filter_cons, List.filter_map, Nat.add_zero]
    have e : ((fun i => !(decR l (m + i))) ∘ Nat.succ) = (fun i => !(decR l (m + 1 + i))) := by
      funext i; simp only [Function.comp]; congr 2; omega
    split
    · rename_i hd
      rw [outG_len l r (m + 1) o, hd, e]; simp
    · rename_i hd
      have hd' : decR l m = false := by simpa using hd
      rw [outG_len l r (m + 1) _, hd', e]; simp; omega
theorem omF_spec {l : List Rule} : ∀ (n m : Nat) (o : List Rule), n + m = l.length →
    (omF (hidR l) (o, m) (l.drop m)).length + ((List.range n).filter (fun i => !(decR l (m + i)))).length = o.length + n ∧
    ∀ x, x ∈ omF (hidR l) (o, m) (l.drop m) ↔ (x ∈ o ∨ ∃ j, m ≤ j ∧ l[j]? = some x ∧ decR l j = true)
  | 0, m, o, h => by
    rw [List.drop_eq_nil_of_le (by omega)]
    simp only [omF]
    refine ⟨by simp, fun x => ⟨.inl, ?_⟩⟩
    rintro (h' | ⟨j, h1, h2, _⟩)
    · exact h'
    · have := (List.getElem?_eq_some_iff.1 h2).1; omega
  | n + 1, m, o, h => by
    obtain ⟨y, hy, _, hd⟩ := at_indexG (l := l) (k := m) (by omega)
    rw [hd]
    simp only [omF]
    rw [hid_mem (l := l) (j := m) (by omega)]
    have e : ((fun i => !(decR l (m + i))) ∘ Nat.succ) = (fun i => !(decR l (m + 1 + i))) := by
      funext i; simp only [Function.comp]; congr 2; omega
    simp only [List.range_succ_eq_map, List.filter_cons, List.filter_map, Nat.add_zero, e]
    cases hdc : decR l m
    · simp only [Bool.not_false, if_true]
      obtain ⟨i1, i2⟩ := omF_spec (l := l) n (m + 1) o (by omega)
      refine ⟨by simp; omega, fun x => ?_⟩
      rw [i2 x]
      constructor
      · rintro (h' | ⟨j, h1, h2, h3⟩)
        · exact .inl h'
        · exact .inr ⟨j, by omega, h2, h3⟩
      · rintro (h' | ⟨j, h1, h2, h3⟩)
        · exact .inl h'
        · right
          have : j ≠ m := fun e => by rw [e, hdc] at h3; cases h3
          exact ⟨j, by omega, h2, h3⟩
    · simp only [Bool.not_true, Bool.false_eq_true, if_false]
      obtain ⟨i1, i2⟩ := omF_spec (l := l) n (m + 1) (o ++ [y]) (by omega)
      refine ⟨by simp at i1 ⊢; omega, fun x => ?_⟩
      rw [i2 x]
      constructor
      · rintro (h' | ⟨j, h1, h2, h3⟩)
        · rcases List.mem_append.1 h' with h' | h'
          · exact .inl h'
          · simp at h'; subst h'; exact .inr ⟨m, Nat.le_refl _, hy, hdc⟩
        · exact .inr ⟨j, by omega, h2, h3⟩
      · rintro (h' | ⟨j, h1, h2, h3⟩)
        · exact .inl (by simp [h'])
        · by_cases ej : j = m
          · subst ej; rw [hy] at h2; cases h2; exact .inl (by simp)
          · exact .inr ⟨j, by omega, h2, h3⟩
theorem om_len (l : List Rule) : (omR l).length + (hidR l).length = l.length := by
  have h1 := (omF_spec (l := l) l.length 0 [] (by omega)).1
  have h2 := outG_len l l 0 []
  rw [hid_eq, hidG, h2]
  simp only [List.drop_zero, List.length_nil, Nat.zero_add] at h1 ⊢
  unfold omR
  rw [hid_eq] at h1 ⊢
  omega
theorem om_mem (l : List Rule) (x : Rule) : x ∈ omR l ↔ ∃ j, l[j]? = some x ∧ decR l j = true := by
  have := (omF_spec (l := l) l.length 0 [] (by omega)).2 x
  simpa [omR] using this
theorem dec_of {l : List Rule} {q : Qry} {j : Nat} (h : bestR l q = (j : Int)) (hp : 1 ≤ q.p ∧ q.p ≤ 9) (hi : 1 ≤ q.i ∧ q.i ≤ 9) (hb : 1 ≤ q.b ∧ q.b ≤ 4) : decR l j = true := by
  unfold decR
  rw [decP_any, List.any_eq_true]
  refine ⟨q.p, ns_mem.2 (by omega), ?_⟩
  rw [decI_any, List.any_eq_true]
  refine ⟨q.i, ns_mem.2 (by omega), ?_⟩
  rw [decB_any, List.any_eq_true]
  exact ⟨q.b, ns_mem.2 (by omega), by simp [h]⟩
theorem om_find {l : List Rule} (h : rulesR l = 0) {q : Qry} (hp : 1 ≤ q.p ∧ q.p ≤ 9) (hi : 1 ≤ q.i ∧ q.i ≤ 9) (hb : 1 ≤ q.b ∧ q.b ≤ 4) : findR (omR l) q = findR l q ∧ foundR (omR l) q = foundR l q := by
  have sub : ∀ x ∈ omR l, x ∈ l := fun x hx => by
    obtain ⟨j, hj, _⟩ := (om_mem l x).1 hx; exact List.mem_of_getElem? hj
  rcases best_row l q with ⟨h1, h2, h3⟩ | ⟨h1, j, h2, h3, h4, h5, h6⟩
  · rcases best_row (omR l) q with ⟨k1, k2, _⟩ | ⟨_, _, _, _, k4, k5, _⟩
    · rw [h1, h2, k1, k2]; exact ⟨rfl, rfl⟩
    · rw [h3 _ (sub _ k4)] at k5; cases k5
  · have hm : findR l q ∈ omR l := (om_mem l _).2 ⟨j, h3, dec_of h2 hp hi hb⟩
    rcases best_row (omR l) q with ⟨_, _, k3⟩ | ⟨k1, _, _, _, k4, k5, k6⟩
    · rw [k3 _ hm] at h5; cases h5
    · rw [h1, k1]
      refine ⟨?_, rfl⟩
      have := k6 _ hm h5
      have := h6 _ (sub _ k4) k5
      exact (rules_facts h).2.1 _ (sub _ k4) _ h4 (fits_key k5 h5 (by omega))
end Pl

/- The examples of the policy chapter, and the laws' own arguments. -/
namespace Pl
open Go Ab
def nilF {α β : Type} (_ : α) (_ : List β) : Unit := ()
def ra : Rule := ⟨0, 0, 0, 14, 0, 0, 0, 0, 0, 7, 7, 0, 0⟩
def rb : Rule := ⟨1, 0, 0, 21, 0, 0, 0, 0, 0, 7, 7, 0, 0⟩
def rc : Rule := ⟨0, 2, 1, 28, 0, 0, 0, 0, 0, 7, 7, 0, 0⟩
def rs : Rule := ⟨0, 0, 0, 6, 0, 0, 0, 0, 0, 7, 7, 0, 0⟩
def rf : Rule := ⟨0, 0, 0, 14, 0, 0, 0, 0, 0, 7, 7, 100, 0⟩
def encQry (q : Qry) : D := .agg [.int .i64 q.p, .int .i64 q.i, .int .i64 q.b]
theorem encQry_eq (q : Qry) : encQry q = .agg [.int .i64 q.p, .int .i64 q.i, .int .i64 q.b] := rfl
def encQ8 (q : Qry) : D := .agg [.int .u8 q.p, .int .u8 q.i, .int .u8 q.b]
theorem encQ8_eq (q : Qry) : encQ8 q = .agg [.int .u8 q.p, .int .u8 q.i, .int .u8 q.b] := rfl
structure Days where
  day : Int
  til : Int
def encDays (x : Days) : D := .agg [.int .i64 x.day, .int .i64 x.til]
theorem encDays_eq (x : Days) : encDays x = .agg [.int .i64 x.day, .int .i64 x.til] := rfl
structure Renewal where
  loan : Loan
  days : Days
def encRenewal (x : Renewal) : D := .agg [.int .i64 x.loan.item, .int .i64 x.loan.patron, .int .i64 x.loan.out, .int .i64 x.loan.due, .int .i64 x.loan.ren, .bool x.loan.rcl, .int .i64 x.days.day, .int .i64 x.days.til]
theorem encRenewal_eq (x : Renewal) : encRenewal x = .agg [.int .i64 x.loan.item, .int .i64 x.loan.patron, .int .i64 x.loan.out, .int .i64 x.loan.due, .int .i64 x.loan.ren, .bool x.loan.rcl, .int .i64 x.days.day, .int .i64 x.days.til] := rfl
theorem rule_beq (x y : Rule) : (x == y) = (x.r0 == y.r0 && (x.r1 == y.r1 && (x.r2 == y.r2 && (x.r3 == y.r3 && (x.r4 == y.r4 && (x.fine == y.fine && (x.grace == y.grace && (x.maxFine == y.maxFine && (x.r8 == y.r8 && (x.r9 == y.r9 && (x.r10 == y.r10 && (x.r11 == y.r11 && x.r12 == y.r12)))))))))))) := by
  rw [Bool.eq_iff_iff]; cases x; cases y; simp
theorem fits_found {l : List Rule} {q : Qry} {x : Rule} (hx : x ∈ l) (hf : fitsB x q = true) : foundR l q = true := by
  rcases best_row l q with ⟨_, _, h3⟩ | ⟨h1, _⟩
  · rw [h3 x hx] at hf; cases hf
  · exact h1
def dropF (m : Int) : Bool → List Int → Bool
  | t, [] => t
  | t, h :: r => dropF m (t || h == m) r
theorem dropF_or (m : Int) : ∀ (l : List Int) (t : Bool), dropF m t l = (t || l.contains m)
  | [], t => by simp [dropF]
  | h :: r, t => by
    simp only [dropF]; rw [dropF_or m r]
    have e : (h == m) = (m == h) := by rw [Bool.eq_iff_iff]; simp; exact eq_comm
    rw [List.contains_cons, e, Bool.or_assoc]
theorem dropF_eq (m : Int) (l : List Int) : dropF m false l = l.contains m := by rw [dropF_or]; simp
end Pl

set_option maxRecDepth 100000
set_option linter.unusedSimpArgs false
set_option linter.unusedVariables false
namespace Go.Proofs.YtabmhpgbfjkkcaaDoor
open Go Ab Pl
theorem open_int : Opens Tryd.prog 3 (fun n => [D.int .i64 n]) (fun n => IntKind.min .i64 ≤ n ∧ n ≤ IntKind.max .i64) := Opens.int Tryd.underlying3
theorem openV_int : OpensV Tryd.prog 3 (fun n => D.int .i64 n) (fun n => IntKind.min .i64 ≤ n ∧ n ≤ IntKind.max .i64) := Opens.one open_int (cells_int' Tryd.underlying3)
theorem open_api_Errno : Opens Tryd.prog 31 (fun n => [D.int .i64 n]) (fun n => IntKind.min .i64 ≤ n ∧ n ≤ IntKind.max .i64) := Opens.int Tryd.underlying31
theorem openV_api_Errno : OpensV Tryd.prog 31 (fun n => D.int .i64 n) (fun n => IntKind.min .i64 ≤ n ∧ n ≤ IntKind.max .i64) := Opens.one open_api_Errno (cells_int' Tryd.underlying31)
theorem open_uint8 : Opens Tryd.prog 5 (fun n => [D.int .u8 n]) (fun n => IntKind.min .u8 ≤ n ∧ n ≤ IntKind.max .u8) := Opens.int Tryd.underlying5
theorem openV_uint8 : OpensV Tryd.prog 5 (fun n => D.int .u8 n) (fun n => IntKind.min .u8 ≤ n ∧ n ≤ IntKind.max .u8) := Opens.one open_uint8 (cells_int' Tryd.underlying5)
theorem open_uint16 : Opens Tryd.prog 43 (fun n => [D.int .u16 n]) (fun n => IntKind.min .u16 ≤ n ∧ n ≤ IntKind.max .u16) := Opens.int Tryd.underlying43
theorem openV_uint16 : OpensV Tryd.prog 43 (fun n => D.int .u16 n) (fun n => IntKind.min .u16 ≤ n ∧ n ≤ IntKind.max .u16) := Opens.one open_uint16 (cells_int' Tryd.underlying43)
theorem open_bool : Opens Tryd.prog 4 (fun b => [D.bool b]) (fun _ => True) := Opens.bool Tryd.underlying4
theorem openV_bool : OpensV Tryd.prog 4 (fun b => D.bool b) (fun _ => True) := Opens.one open_bool (cells_bool' Tryd.underlying4)
theorem open_string : Opens Tryd.prog 9 (fun s => [D.str s]) (fun s => s.length ≤ Go.maxLen) := Opens.str Tryd.underlying9
theorem openV_string : OpensV Tryd.prog 9 (fun s => D.str s) (fun s => s.length ≤ Go.maxLen) := Opens.one open_string (cells_str' Tryd.underlying9)
theorem open_s_int : Opens Tryd.prog 45 (fun l : List Int => [encInts l]) (fun l => l.length ≤ Go.maxLen) :=
  (Opens.slice Tryd.underlying45 (by kernel_rfl) (by decide) open_int (D.int .i64) (fun _ => rfl) (.int .i64 0) rfl).map id (fun _ => rfl) (fun _ h => h.2)
theorem openV_s_int : OpensV Tryd.prog 45 encInts (fun l => l.length ≤ Go.maxLen) := Opens.one open_s_int (cells_slice' Tryd.underlying45)
theorem open_api_Custody : Opens Tryd.prog 23 (fun c : Custody => (encCus c).cells) (fun _ => True) :=
  (Opens.struct Tryd.underlying23 (OpensF.cons (n := 1) rfl (by kernel_rfl) open_int (fun _ => rfl) (OpensF.cons (n := 1) rfl (by kernel_rfl) open_int (fun _ => rfl) (OpensF.cons (n := 1) rfl (by kernel_rfl) open_int (fun _ => rfl) (OpensF.cons (n := 1) rfl (by kernel_rfl) open_int (fun _ => rfl) OpensF.nil)))) (fun _ => by kernel_rfl)).map (fun p => (⟨p.1, p.2.1, p.2.2.1, p.2.2.2.1⟩ : Custody)) (fun _ => rfl) (fun _ _ => trivial)
theorem openV_api_Custody : OpensV Tryd.prog 23 encCus (fun _ => True) := Opens.agg Tryd.underlying23 open_api_Custody
theorem open_api_Move : Opens Tryd.prog 30 (fun c : Mv => (encMove c).cells) (fun _ => True) :=
  (Opens.struct Tryd.underlying30 (OpensF.cons (n := 1) rfl (by kernel_rfl) open_int (fun _ => rfl) (OpensF.cons (n := 1) rfl (by kernel_rfl) open_int (fun _ => rfl) (OpensF.cons (n := 1) rfl (by kernel_rfl) open_int (fun _ => rfl) (OpensF.cons (n := 1) rfl (by kernel_rfl) open_int (fun _ => rfl) (OpensF.cons (n := 1) rfl (by kernel_rfl) open_int (fun _ => rfl) OpensF.nil))))) (fun _ => by kernel_rfl)).map (fun p => (⟨p.1, p.2.1, p.2.2.1, p.2.2.2.1, p.2.2.2.2.1⟩ : Mv)) (fun _ => rfl) (fun _ _ => trivial)
theorem openV_api_Move : OpensV Tryd.prog 30 encMove (fun _ => True) := Opens.agg Tryd.underlying30 open_api_Move
theorem open_s_api_Move : Opens Tryd.prog 35 (fun l : List Mv => [encMoves l]) (fun l => l.length ≤ Go.maxLen) :=
  (Opens.slice Tryd.underlying35 (by kernel_rfl) (by decide) open_api_Move encMove (fun _ => rfl) (encMove zm) rfl).map id (fun _ => rfl) (fun _ h => h.2)
theorem openV_s_api_Move : OpensV Tryd.prog 35 encMoves (fun l => l.length ≤ Go.maxLen) := Opens.one open_s_api_Move (cells_slice' Tryd.underlying35)

end Go.Proofs.YtabmhpgbfjkkcaaDoor
