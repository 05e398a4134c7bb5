/-
  What the functions compute that the statement reaches: contracts, and the plain laws between them. Conditions stand at each theorem.
-/
import Derived.Test.YtfaaceakmfokoaaDoorWalkOne
set_option linter.unusedVariables false
set_option linter.unusedSimpArgs false
/- Calendars: the count by weeks is the count by days. No conditions beyond those at each theorem. -/
namespace Pl
open Go Ab
set_option linter.unusedVariables false
set_option linter.unusedSimpArgs false

def b2i (b : Bool) : Int := if b = true then 1 else 0
theorem b2i_rng (b : Bool) : 0 ≤ b2i b ∧ b2i b ≤ 1 := by cases b <;> simp [b2i]
/-- how many days of [d, d+k) satisfy p -/
def cdays (p : Int → Bool) (d : Int) : Nat → Int
  | 0 => 0
  | k + 1 => cdays p d k + b2i (p (d + k))
theorem cdays_rng (p : Int → Bool) (d : Int) : ∀ k : Nat, 0 ≤ cdays p d k ∧ cdays p d k ≤ k
  | 0 => by simp [cdays]
  | k + 1 => by have := cdays_rng p d k; have := b2i_rng (p (d + k)); simp only [cdays]; omega
theorem cdays_cons (p : Int → Bool) (d : Int) : ∀ k : Nat, cdays p d (k + 1) = b2i (p d) + cdays p (d + 1) k
  | 0 => by simp [cdays]
  | k + 1 => by
    have h := cdays_cons p d k
    rw [cdays, h]
    simp only [cdays]
    have e : d + ((k + 1 : Nat) : Int) = d + 1 + (k : Int) := by omega
    rw [e]; omega
theorem cdays_add (p : Int → Bool) (d : Int) (m : Nat) : ∀ k : Nat, cdays p d (m + k) = cdays p d m + cdays p (d + m) k
  | 0 => by simp [cdays]
  | k + 1 => by
    rw [← Nat.add_assoc]; simp only [cdays]; rw [cdays_add p d m k]
    have e : d + ((m + k : Nat) : Int) = d + m + (k : Int) := by omega
    rw [e]; omega
theorem cdays_congr {p q : Int → Bool} {d : Int} : ∀ k : Nat, (∀ i : Nat, i < k → p (d + i) = q (d + i)) → cdays p d k = cdays q d k
  | 0, _ => rfl
  | k + 1, h => by simp only [cdays]; rw [cdays_congr k (fun i hi => h i (by omega)), h k (by omega)]

theorem cntN_eq (c : Cal) : ∀ (k : Nat) (d n : Int), 0 ≤ n → n + k ≤ 1000000 → cntN c k d n = n + cdays (openR c) d k
  | 0, d, n, _, _ => by simp [cntN, cdays]
  | k + 1, d, n, h0, h1 => by
    rw [cntN, cdays_cons]
    have e : IntKind.i64.wrap (n + 1) = n + 1 := wrap_i64 (by omega) (by omega)
    by_cases ho : openR c d = true
    · rw [if_pos ho, e, cntN_eq c k _ _ (by omega) (by omega)]; simp [b2i, ho]; omega
    · rw [if_neg ho, cntN_eq c k _ _ (by omega) (by omega)]; simp [b2i, ho]

def lo0 (f : Int) : Int := if f < 0 then 0 else f
def hi0 (t : Int) : Int := if 109572 < t then 109572 else t
theorem lo0_rng (f : Int) : 0 ≤ lo0 f ∧ f ≤ lo0 f := by unfold lo0; split <;> omega
theorem hi0_rng (t : Int) : hi0 t ≤ 109572 ∧ hi0 t ≤ t := by unfold hi0; split <;> omega
/-- the open days from f to t -/
def cnt (c : Cal) (f t : Int) : Int := cdays (openR c) (lo0 f) (hi0 t + 1 - lo0 f).toNat
theorem countD_cnt (c : Cal) (f t : Int) : countD c f t = cnt c f t := by
  have h1 := lo0_rng f; have h2 := hi0_rng t
  have e : countD c f t = cntN c (hi0 t + 1 - lo0 f).toNat (lo0 f) 0 := rfl
  rw [e, cntN_eq c _ _ _ (by omega) (by omega), Int.zero_add]; rfl

theorem wk_hv : ∀ (n : Fin 127) (k : Fin 7), wkB (n.val : Int) k.val = !(decide ((hv k.val (n.val : Int)).tmod 2 = 1)) := by decide +kernel
theorem wkB_eq {w : Int} (h0 : 0 ≤ w) (h1 : w < 127) {k : Nat} (hk : k < 7) : wkB w k = !(decide ((hv k w).tmod 2 = 1)) := by
  have := wk_hv ⟨w.toNat, by omega⟩ ⟨k, hk⟩
  have e : ((w.toNat : Nat) : Int) = w := Int.toNat_of_nonneg h0
  simpa only [e] using this
theorem wday_eq {d : Int} (h0 : 0 ≤ d) (h1 : d ≤ 109572) : wday d = d % 7 := by
  unfold wday isDay
  rw [if_pos (by simp [h0, h1]), Int.tmod_eq_emod_of_nonneg h0]
theorem anyF_eq (d : Int) : ∀ l : List Int, anyF d () l = !(decide (d ∈ l))
  | [] => by simp [anyF]
  | x :: l => by
    by_cases h : x = d
    · subst h; simp [anyF]
    · have h' : ¬ d = x := fun e => h e.symm
      simp [anyF, h, h', anyF_eq d l]
/-- the day of the week is open -/
def wkO (c : Cal) (d : Int) : Bool := wkB c.week (d % 7).toNat
theorem calR_facts {c : Cal} (h : calR c = 0) : 0 ≤ c.week ∧ c.week < 127 ∧ c.closed.length ≤ 64 ∧ (∀ x ∈ c.closed, 0 ≤ x ∧ x ≤ 109572) ∧ ascF none c.closed = 0 := by
  unfold calR at h
  split at h
  · exact absurd h (by decide)
  · split at h
    · exact absurd h (by decide)
    · split at h
      · exact absurd h (by decide)
      · rename_i h1 h2 h3
        refine ⟨by omega, by omega, by omega, fun x hx => ?_, h⟩
        simp only [List.any_eq_true, not_exists, not_and] at h3
        have := h3 x hx
        simp [isDay] at this
        exact this
theorem openR_eq {c : Cal} (h : calR c = 0) {d : Int} (h0 : 0 ≤ d) (h1 : d ≤ 109572) : openR c d = (wkO c d && !(decide (d ∈ c.closed))) := by
  obtain ⟨a1, a2, _⟩ := calR_facts h
  unfold openR
  rw [if_neg (by omega), wday_eq h0 h1, anyF_eq]
  unfold wkO
  rw [wkB_eq a1 a2 (by omega)]
  by_cases hh : (hv (d % 7).toNat c.week).tmod 2 = 1
  · simp [hh]
  · simp [hh]
theorem openR_day {c : Cal} {d : Int} (h : openR c d = true) : 0 ≤ d ∧ d ≤ 109572 := by
  unfold openR at h
  split at h
  · cases h
  · omega
/-- ascending lists have no member twice -/
theorem ascF_gt : ∀ (l : List Int) (m : Int), ascF (some m) l = 0 → ∀ x ∈ l, m < x
  | [], _, _, x, hx => by simp at hx
  | y :: l, m, h, x, hx => by
    simp only [ascF] at h
    split at h
    · exact absurd h (by decide)
    · rename_i h1
      have hy : m < y := by simpa [lowId] using h1
      rcases List.mem_cons.1 hx with rfl | hx
      · exact hy
      · have := ascF_gt l y h x hx; omega
theorem ascF_nodup : ∀ (l : List Int) (p : Option Int), ascF p l = 0 → l.Nodup
  | [], _, _ => List.nodup_nil
  | y :: l, p, h => by
    simp only [ascF] at h
    split at h
    · exact absurd h (by decide)
    · refine List.nodup_cons.2 ⟨fun hy => ?_, ascF_nodup l _ h⟩
      have := ascF_gt l y h y hy; omega

/-- days from 0 to a day with a weekday, without wrapping -/
def upz (d k : Int) : Int := if d < k then 0 else (d - k) / 7 + 1
theorem fst7_eq {k : Int} (h0 : 0 ≤ k) (h1 : k < 7) : fst7 k = k := by
  have e0 : wday 0 = 0 := by decide
  unfold fst7
  rw [e0]
  rw [wrap_i64 (n := k - 0) (by omega) (by omega), wrap_i64 (by omega) (by omega), Int.tmod_eq_emod_of_nonneg (by omega)]
  omega
theorem upToW_eq {d k : Int} (h0 : 0 ≤ k) (h1 : k < 7) (hd : -1 ≤ d) (hd2 : d ≤ 109572) : upToW d k = upz d k := by
  unfold upToW upz
  rw [fst7_eq h0 h1]
  by_cases h : d < k
  · rw [if_pos h, if_pos h]
  · rw [if_neg h, if_neg h]
    rw [wrap_i64 (n := d - k) (by omega) (by omega), Int.tdiv_eq_ediv_of_nonneg (by omega), wrap_i64 (n := (d - k) / 7) (by omega) (by omega), wrap_i64 (by omega) (by omega)]
theorem upz_step {d k : Int} (h0 : 0 ≤ k) (h1 : k < 7) (hd : -1 ≤ d) : upz (d + 1) k = upz d k + (if (d + 1) % 7 = k then 1 else 0) := by
  unfold upz
  split <;> split <;> split <;> omega
/-- the count of weekdays below k, without wrapping -/
def c7 (w lo hi : Int) : Nat → Int
  | 0 => 0
  | k + 1 => c7 w lo hi k + b2i (wkB w k) * (upz hi k - upz (lo - 1) k)
theorem upz_rng {lo hi k : Int} (h0 : 0 ≤ k) (h1 : k < 7) (hl : -1 ≤ lo) (hh : lo ≤ hi) : upz lo k ≤ upz hi k ∧ upz hi k - upz lo k ≤ hi - lo := by
  unfold upz; split <;> split <;> omega
theorem c7_rng {w lo hi : Int} (hl : 0 ≤ lo) (hh : lo - 1 ≤ hi) : ∀ k : Nat, k ≤ 7 → 0 ≤ c7 w lo hi k ∧ c7 w lo hi k ≤ k * (hi + 1 - lo)
  | 0, _ => by simp [c7]
  | k + 1, hk => by
    have := c7_rng (w := w) hl hh k (by omega)
    have := upz_rng (lo := lo - 1) (hi := hi) (k := k) (by omega) (by omega) (by omega) hh
    have e : ((k + 1 : Nat) : Int) * (hi + 1 - lo) = k * (hi + 1 - lo) + (hi + 1 - lo) := by
      rw [Int.natCast_add, Int.add_mul]; simp
    simp only [c7]
    rw [e]
    unfold b2i
    split <;> omega
theorem cnt7_eq {w lo hi : Int} (hl : 0 ≤ lo) (hh : lo - 1 ≤ hi) (hh2 : hi ≤ 109572) : ∀ k : Nat, k ≤ 7 → cnt7 w lo hi k = c7 w lo hi k
  | 0, _ => rfl
  | k + 1, hk => by
    have hr := c7_rng (w := w) hl hh k (by omega)
    have hu := upz_rng (lo := lo - 1) (hi := hi) (k := k) (by omega) (by omega) (by omega) hh
    have hm : (k : Int) * (hi + 1 - lo) ≤ 7 * (hi + 1 - lo) := Int.mul_le_mul_of_nonneg_right (by omega) (by omega)
    simp only [cnt7, c7]
    rw [cnt7_eq hl hh hh2 k (by omega), wrap_i64 (n := lo - 1) (by omega) (by omega), upToW_eq (by omega) (by omega) (by omega) hh2, upToW_eq (by omega) (by omega) (by omega) (by omega)]
    unfold b2i
    split
    · rw [wrap_i64 (n := upz hi k - upz (lo - 1) k) (by omega) (by omega), wrap_i64 (by omega) (by omega)]; omega
    · omega
theorem c7_step {w lo hi : Int} (hh : -1 ≤ hi) : ∀ k : Nat, k ≤ 7 → c7 w lo (hi + 1) k = c7 w lo hi k + (if (hi + 1) % 7 < k then b2i (wkB w ((hi + 1) % 7).toNat) else 0)
  | 0, _ => by
    simp only [c7]
    rw [if_neg (by omega)]; rfl
  | k + 1, hk => by
    simp only [c7]
    rw [c7_step hh k (by omega), upz_step (by omega) (by omega) hh]
    by_cases he : (hi + 1) % 7 = (k : Int)
    · rw [he, if_pos rfl, if_neg (by omega), if_pos (by omega)]
      have : ((k : Int)).toNat = k := by omega
      rw [this]
      unfold b2i; split <;> omega
    · rw [if_neg he]
      by_cases h2 : (hi + 1) % 7 < (k : Int)
      · rw [if_pos h2, if_pos (by omega)]; simp; omega
      · rw [if_neg h2, if_neg (by omega)]; simp
/-- closed days between lo and hi that would be open -/
def ccl (w lo hi : Int) : List Int → Int
  | [] => 0
  | d :: l => b2i (decide (lo ≤ d) && decide (d ≤ hi) && wkB w (d % 7).toNat) + ccl w lo hi l
theorem ccl_rng (w lo hi : Int) : ∀ l : List Int, 0 ≤ ccl w lo hi l ∧ ccl w lo hi l ≤ l.length
  | [] => by simp [ccl]
  | d :: l => by
    have := ccl_rng w lo hi l; have := b2i_rng (decide (lo ≤ d) && decide (d ≤ hi) && wkB w (d % 7).toNat)
    simp only [ccl, List.length_cons]; omega
theorem cntG_eq {w lo hi : Int} : ∀ (l : List Int) (n : Int), (∀ x ∈ l, 0 ≤ x ∧ x ≤ 109572) → -1000000 + l.length ≤ n → n ≤ 1000000 → cntG w lo hi n l = n - ccl w lo hi l
  | [], n, _, _, _ => by simp [cntG, ccl]
  | d :: l, n, hd, h1, h2 => by
    have hx := hd d (by simp)
    have hl : ∀ x ∈ l, 0 ≤ x ∧ x ≤ 109572 := fun x h => hd x (by simp [h])
    have e : cntIn w lo hi d = (decide (lo ≤ d) && decide (d ≤ hi) && wkB w (d % 7).toNat) := by
      unfold cntIn
      rw [wday_eq hx.1 hx.2]
      have : d % 7 < 7 := by omega
      simp [this]
    simp only [List.length_cons] at h1
    simp only [cntG, ccl]
    rw [e]
    split
    · rename_i h
      rw [wrap_i64 (by omega) (by omega), cntG_eq l _ hl (by omega) (by omega), h]
      simp [b2i]; omega
    · rename_i h
      rw [cntG_eq l _ hl (by omega) (by omega)]
      simp only [Bool.not_eq_true] at h
      rw [h]; simp [b2i]
theorem ccl_step {w lo hi : Int} (hl : lo ≤ hi + 1) : ∀ l : List Int, l.Nodup → ccl w lo (hi + 1) l = ccl w lo hi l + (if hi + 1 ∈ l then b2i (wkB w ((hi + 1) % 7).toNat) else 0)
  | [], _ => by simp [ccl]
  | d :: l, hn => by
    obtain ⟨h1, h2⟩ := List.nodup_cons.1 hn
    simp only [ccl]
    rw [ccl_step hl l h2]
    by_cases hd : hi + 1 = d
    · subst hd
      rw [if_neg h1, if_pos (by simp)]
      have a1 : decide (lo ≤ hi + 1) = true := by simp [hl]
      have a2 : decide (hi + 1 ≤ hi) = false := by simp; omega
      simp [a1, a2, b2i]; omega
    · have a : decide (d ≤ hi + 1) = decide (d ≤ hi) := by
        by_cases hh : d ≤ hi
        · simp [hh]; omega
        · simp [hh]; omega
      rw [a]
      have : (hi + 1 ∈ d :: l) ↔ (hi + 1 ∈ l) := by simp [hd]
      simp only [this]; omega
theorem ccl_zero {w lo hi : Int} (h : hi < lo) : ∀ l : List Int, ccl w lo hi l = 0
  | [] => rfl
  | d :: l => by
    simp only [ccl]
    rw [ccl_zero h l]
    have : (decide (lo ≤ d) && decide (d ≤ hi)) = false := by
      by_cases hh : lo ≤ d
      · have : ¬ d ≤ hi := by omega
        simp [this]
      · simp [hh]
    simp [this, b2i]
theorem c7_zero {w lo : Int} : ∀ k : Nat, c7 w lo (lo - 1) k = 0
  | 0 => rfl
  | k + 1 => by simp only [c7]; rw [c7_zero k]; simp
/-- THE COUNT by weeks is the count by days. -/
theorem weeks {c : Cal} (h : calR c = 0) {lo : Int} (hl : 0 ≤ lo) : ∀ k : Nat, lo + k ≤ 109573 → c7 c.week lo (lo + k - 1) 7 - ccl c.week lo (lo + k - 1) c.closed = cdays (openR c) lo k
  | 0, _ => by
    have e : lo + ((0 : Nat) : Int) - 1 = lo - 1 := by omega
    rw [e, c7_zero, ccl_zero (by omega)]; rfl
  | k + 1, hk => by
    have ih := weeks h hl k (by omega)
    have e : lo + ((k + 1 : Nat) : Int) - 1 = (lo + k - 1) + 1 := by omega
    obtain ⟨a1, a2, a3, a4, a5⟩ := calR_facts h
    rw [e, c7_step (by omega) 7 (Nat.le_refl _), ccl_step (by omega) _ (ascF_nodup _ _ a5), if_pos (by omega)]
    simp only [cdays]
    rw [← ih]
    have e2 : lo + (k : Int) - 1 + 1 = lo + k := by omega
    rw [e2, openR_eq h (by omega) (by omega)]
    unfold wkO
    by_cases hm : lo + (k : Int) ∈ c.closed
    · simp [hm, b2i]; omega
    · simp [hm]; omega
theorem countR_cnt {c : Cal} (h : calR c = 0) (f t : Int) : countR c f t = cnt c f t := by
  have h1 := lo0_rng f; have h2 := hi0_rng t
  obtain ⟨a1, a2, a3, a4, a5⟩ := calR_facts h
  have e : countR c f t = if hi0 t < lo0 f then 0 else cntG c.week (lo0 f) (hi0 t) (cnt7 c.week (lo0 f) (hi0 t) 7) c.closed := rfl
  rw [e]
  unfold cnt
  split
  · have : (hi0 t + 1 - lo0 f).toNat = 0 := by omega
    rw [this]; rfl
  · have hr := c7_rng (w := c.week) (lo := lo0 f) (hi := hi0 t) (by omega) (by omega) 7 (Nat.le_refl _)
    rw [cnt7_eq (by omega) (by omega) (by omega) 7 (Nat.le_refl _), cntG_eq _ _ a4 (by omega) (by omega)]
    have := weeks h (lo := lo0 f) h1.1 (hi0 t + 1 - lo0 f).toNat (by omega)
    rw [← this]
    have e2 : lo0 f + ((hi0 t + 1 - lo0 f).toNat : Int) - 1 = hi0 t := by omega
    rw [e2]
theorem countR_countD {c : Cal} (h : calR c = 0) (f t : Int) : countR c f t = countD c f t := by rw [countR_cnt h, countD_cnt]
def lateD (r : Rule) (c : Cal) (d b : Int) : Int :=
  if (¬ calR c = 0 ∨ isDay d = false) ∨ isDay b = false then 0
  else if countD c (IntKind.i64.wrap (d + 1)) b ≤ r.grace then 0
  else if r.maxFine < IntKind.i64.wrap (countD c (IntKind.i64.wrap (d + 1)) b * r.fine) then r.maxFine else IntKind.i64.wrap (countD c (IntKind.i64.wrap (d + 1)) b * r.fine)
section
variable {r : Rule} {c : Cal} {d b : Int}
theorem lateD_bad (h : (¬ calR c = 0 ∨ isDay d = false) ∨ isDay b = false) : lateD r c d b = 0 := if_pos h
theorem lateD_gr (h : (calR c = 0 ∧ isDay d = true) ∧ isDay b = true) (h2 : countD c (IntKind.i64.wrap (d + 1)) b ≤ r.grace) : lateD r c d b = 0 := by
  unfold lateD; rw [if_neg (lateN h), if_pos h2]
theorem lateD_ok (h : (calR c = 0 ∧ isDay d = true) ∧ isDay b = true) (h2 : r.grace < countD c (IntKind.i64.wrap (d + 1)) b) :
    lateD r c d b = if r.maxFine < IntKind.i64.wrap (countD c (IntKind.i64.wrap (d + 1)) b * r.fine) then r.maxFine else IntKind.i64.wrap (countD c (IntKind.i64.wrap (d + 1)) b * r.fine) := by
  unfold lateD; rw [if_neg (lateN h), if_neg (by omega)]
end
theorem lateD_eq (r : Rule) (c : Cal) (d b : Int) : lateD r c d b = lateR r c d b := by
  unfold lateD lateR
  by_cases h : calR c = 0
  · rw [countR_countD h]
  · simp [h]
theorem wrap_rng64 (n : Int) : -9223372036854775808 ≤ IntKind.i64.wrap n ∧ IntKind.i64.wrap n ≤ 9223372036854775807 := by rw [IntKind.wrap_i64]; omega
theorem lateR_rng {r : Rule} {c : Cal} {d b : Int} (h : -9223372036854775808 ≤ r.maxFine ∧ r.maxFine ≤ 9223372036854775807) : -9223372036854775808 ≤ lateR r c d b ∧ lateR r c d b ≤ 9223372036854775807 := by
  have := wrap_rng64 (countR c (IntKind.i64.wrap (d + 1)) b * r.fine)
  unfold lateR
  split
  · omega
  · split
    · omega
    · split <;> omega
end Pl

set_option maxRecDepth 100000
set_option linter.unusedSimpArgs false
set_option linter.unusedVariables false
namespace Go.Proofs.YtfaaceakmfokoaaDoor
open Go Ab Pl
theorem date_known (n : Int) : ACalls E.P 48 [.int .i64 n] (.d (.bool (isDay n))) := by
  refine ACalls.intro E_ok Tryd.func48 rfl rfl Tryd.ntmps48 Tryd.results48 (Nat.le_of_ble_eq_true rfl) fun hok base S0 w0 => ?_
  -- region 0
  refine AWp.rseq E_ok [0, 2] fun K hK => ?_
  simp
  repeat refine ⟨by first | omega | assumption | (simp only [maxLen]; omega) | (intros; omega) | decide, ?_⟩
  refine hK _ ?_
  clear hK K
  -- region 1
  refine AWp.rseq E_ok [0, 2] fun K hK => ?_
  simp
  repeat refine ⟨by first | omega | assumption | (simp only [maxLen]; omega) | (intros; omega) | decide, ?_⟩
  refine hK _ ?_
  clear hK K
  refine AWp.ret ?_
  repeat first | refine thenN ?_ | refine thenX ?_ | refine thenR ?_ | refine blockN ?_ | refine blockR ?_ | refine blockX ?_ | refine blockM rfl ?_
  simp [RetOk, RV, isDay]
end Go.Proofs.YtfaaceakmfokoaaDoor

set_option maxRecDepth 100000
set_option linter.unusedSimpArgs false
set_option linter.unusedVariables false
namespace Go.Proofs.YtfaaceakmfokoaaDoor
open Go Ab Pl
theorem date_leap (y : Int) (hy : 0 ≤ y) : ACalls E.P 61 [.int .i64 y] (.d (.bool (leapB y))) := by
  refine ACalls.intro E_ok Tryd.func61 rfl rfl Tryd.ntmps61 Tryd.results61 (Nat.le_of_ble_eq_true rfl) fun hok base S0 w0 => ?_
  -- region 0
  refine AWp.rseq E_ok [0, 2] fun K hK => ?_
  simp
  repeat refine ⟨by first | omega | assumption | (simp only [maxLen]; omega) | (intros; omega) | decide, ?_⟩
  refine hK _ ?_
  clear hK K
  -- region 1
  refine AWp.rseq E_ok [0, 2] fun K hK => ?_
  simp
  repeat refine ⟨by first | omega | assumption | (simp only [maxLen]; omega) | (intros; omega) | decide, ?_⟩
  refine hK _ ?_
  clear hK K
  refine AWp.ret ?_
  repeat first | refine thenN ?_ | refine thenX ?_ | refine thenR ?_ | refine blockN ?_ | refine blockR ?_ | refine blockX ?_ | refine blockM rfl ?_
  simp [RetOk, RV, RVs, Int.tmod_eq_emod_of_nonneg hy]; rw [Bool.eq_iff_iff]; simp [leapB]
end Go.Proofs.YtfaaceakmfokoaaDoor

set_option maxRecDepth 100000
set_option linter.unusedSimpArgs false
set_option linter.unusedVariables false
namespace Go.Proofs.YtfaaceakmfokoaaDoor
open Go Ab Pl
theorem date_newYear (y : Int) (hy : 1900 ≤ y ∧ y ≤ 2200) : ACalls E.P 49 [.int .i64 y] (.d (.int .i64 (nyD y))) := by
  refine ACalls.intro E_ok Tryd.func49 rfl rfl Tryd.ntmps49 Tryd.results49 (Nat.le_of_ble_eq_true rfl) fun hok base S0 w0 => ?_
  have e1 : IntKind.i64.wrap (y - 1900) = y - 1900 := by rw [wrap_i64] <;> omega
  have e2 : IntKind.i64.wrap ((y - 1900) * 365) = (y - 1900) * 365 := by rw [wrap_i64] <;> omega
  have hr := ny_rng hy.1 hy.2
  -- region 0
  refine AWp.rseq E_ok [0, 2, 3, 4, 5, 12, 16] fun K hK => ?_
  simp [ny_first, e1, e2]
  repeat refine ⟨by first | omega | assumption | (simp only [maxLen]; omega) | (intros; omega) | decide, ?_⟩
  refine hK _ ?_
  clear hK K
  -- region 1
  refine AWp.rseq E_ok [0, 2, 3, 4, 5, 12, 16] fun K hK => ?_
  simp [ny_first, e1, e2]
  repeat refine ⟨by first | omega | assumption | (simp only [maxLen]; omega) | (intros; omega) | decide, ?_⟩
  refine hK _ ?_
  clear hK K
  -- region 2
  refine AWp.rseq E_ok [0, 2, 3, 4, 5, 12, 16] fun K hK => ?_
  simp [ny_first, e1, e2]
  repeat refine ⟨by first | omega | assumption | (simp only [maxLen]; omega) | (intros; omega) | decide, ?_⟩
  refine hK _ ?_
  clear hK K
  refine AWp.seq ?_
  -- region 3
  refine AWp.rseq E_ok [0, 2, 3, 4, 5, 12, 16] fun K hK => ?_
  simp [ny_first, e1, e2]
  repeat refine ⟨by first | omega | assumption | (simp only [maxLen]; omega) | (intros; omega) | decide, ?_⟩
  refine hK _ ?_
  clear hK K
  refine AWp.block ?_
  refine AWp.loop (ι := { k : Int // 1900 ≤ k ∧ k ≤ y }) (fun x => match x with | ⟨k, hk, hk2⟩ => [(0, T.val (D.int IntKind.i64 y)), (4, T.val (.int .i64 ((y - 1900) * 365 + (nyD k - 365 * (k - 1900))))), (5, T.val (.int .i64 k))]) (fun x => match x with | ⟨k, hk, hk2⟩ => (y - k).toNat) ⟨1900, Int.le_refl _, hy.1⟩ ?_ ?_
  · simp [Weak, TW, ny_first]
  rintro ⟨k, hk, hk2⟩
  simp only
  try simp only at hk
  try simp only at hk2
  refine AWp.seq ?_
  -- region 4
  refine AWp.rseq E_ok [0, 2, 3, 4, 5, 12, 16] fun K hK => ?_
  simp [ny_first, e1, e2]
  repeat refine ⟨by first | omega | assumption | (simp only [maxLen]; omega) | (intros; omega) | decide, ?_⟩
  refine hK _ ?_
  clear hK K
  refine AWp.cond rfl (fun h12 => ?_) (fun h12 => ?_)
  · try simp at h12
    refine AWp.skip ?_
    repeat first | refine thenN ?_ | refine thenX ?_ | refine thenR ?_ | refine blockN ?_ | refine blockR ?_ | refine blockX ?_ | refine blockM rfl ?_
    refine AWp.seq ?_
    refine AWp.block ?_
    -- region 6
    refine AWp.rseq E_ok [0, 2, 3, 4, 5, 12, 16] fun K hK => ?_
    simp [ny_first, e1, e2]
    repeat refine ⟨by first | omega | assumption | (simp only [maxLen]; omega) | (intros; omega) | decide, ?_⟩
    refine meet.of (date_leap k (by omega)) ?_
    simp [ny_first, e1, e2]
    repeat refine ⟨by first | omega | assumption | (simp only [maxLen]; omega) | (intros; omega) | decide, ?_⟩
    refine hK _ ?_
    clear hK K
    refine AWp.cond rfl (fun h16 => ?_) (fun h16 => ?_)
    · try simp at h16
      -- region 7
      refine AWp.rend E_ok [0, 2, 3, 4, 5, 12, 16] fun K hK => ?_
      simp [ny_first, e1, e2]
      repeat refine ⟨by first | omega | assumption | (simp only [maxLen]; omega) | (intros; omega) | decide, ?_⟩
      refine hK _ ?_
      clear hK K
      repeat first | refine thenN ?_ | refine thenX ?_ | refine thenR ?_ | refine blockN ?_ | refine blockR ?_ | refine blockX ?_ | refine blockM rfl ?_
      -- region 5
      refine AWp.rend E_ok [0, 2, 3, 4, 5, 12, 16] fun K hK => ?_
      simp [ny_first, e1, e2]
      repeat refine ⟨by first | omega | assumption | (simp only [maxLen]; omega) | (intros; omega) | decide, ?_⟩
      refine hK _ ?_
      clear hK K
      repeat first | refine thenN ?_ | refine thenX ?_ | refine thenR ?_ | refine blockN ?_ | refine blockR ?_ | refine blockX ?_ | refine blockM rfl ?_
      have hw : IntKind.i64.wrap (k + 1) = k + 1 := by rw [wrap_i64] <;> omega
      have st := ny_step hk (by omega)
      have hr2 := ny_rng hk (by omega)
      refine ⟨⟨k + 1, by omega, by omega⟩, ?_, by simp only; omega⟩
      first | (have hw2 : IntKind.i64.wrap ((y - 1900) * 365 + (nyD k - 365 * (k - 1900)) + 1) = (y - 1900) * 365 + (nyD k - 365 * (k - 1900)) + 1 := by rw [wrap_i64] <;> omega) | skip
      simp [Weak, TW, hw, hw2]
      simp [yearD, h16] at st
      omega
    · try simp at h16
      refine AWp.skip ?_
      repeat first | refine thenN ?_ | refine thenX ?_ | refine thenR ?_ | refine blockN ?_ | refine blockR ?_ | refine blockX ?_ | refine blockM rfl ?_
      -- region 5
      refine AWp.rend E_ok [0, 2, 3, 4, 5, 12, 16] fun K hK => ?_
      simp [ny_first, e1, e2]
      repeat refine ⟨by first | omega | assumption | (simp only [maxLen]; omega) | (intros; omega) | decide, ?_⟩
      refine hK _ ?_
      clear hK K
      repeat first | refine thenN ?_ | refine thenX ?_ | refine thenR ?_ | refine blockN ?_ | refine blockR ?_ | refine blockX ?_ | refine blockM rfl ?_
      have hw : IntKind.i64.wrap (k + 1) = k + 1 := by rw [wrap_i64] <;> omega
      have st := ny_step hk (by omega)
      have hr2 := ny_rng hk (by omega)
      refine ⟨⟨k + 1, by omega, by omega⟩, ?_, by simp only; omega⟩
      first | (have hw2 : IntKind.i64.wrap ((y - 1900) * 365 + (nyD k - 365 * (k - 1900)) + 1) = (y - 1900) * 365 + (nyD k - 365 * (k - 1900)) + 1 := by rw [wrap_i64] <;> omega) | skip
      simp [Weak, TW, hw, hw2]
      simp [yearD, h16] at st
      omega
  · try simp at h12
    refine AWp.exit ?_
    repeat first | refine thenN ?_ | refine thenX ?_ | refine thenR ?_ | refine blockN ?_ | refine blockR ?_ | refine blockX ?_ | refine blockM rfl ?_
    -- region 8
    refine AWp.rseq E_ok [0, 2, 3, 4, 5, 12, 16] fun K hK => ?_
    simp [ny_first, e1, e2]
    repeat refine ⟨by first | omega | assumption | (simp only [maxLen]; omega) | (intros; omega) | decide, ?_⟩
    refine hK _ ?_
    clear hK K
    refine AWp.ret ?_
    repeat first | refine thenN ?_ | refine thenX ?_ | refine thenR ?_ | refine blockN ?_ | refine blockR ?_ | refine blockX ?_ | refine blockM rfl ?_
    obtain rfl : k = y := (by omega); simp [RetOk, RV, RVs]; omega
end Go.Proofs.YtfaaceakmfokoaaDoor

set_option maxRecDepth 100000
set_option linter.unusedSimpArgs false
set_option linter.unusedVariables false
namespace Go.Proofs.YtfaaceakmfokoaaDoor
open Go Ab Pl
theorem date_before (y m : Int) (hy : 1900 ≤ y ∧ y ≤ 2199) (hm : 1 ≤ m ∧ m ≤ 12) : ACalls E.P 50 [.int .i64 y, .int .i64 m] (.d (.int .i64 (befD y m))) := by
  refine ACalls.intro E_ok Tryd.func50 rfl rfl Tryd.ntmps50 Tryd.results50 (Nat.le_of_ble_eq_true rfl) fun hok base S0 w0 => ?_
  have e1 : IntKind.i64.wrap (m - 1) = m - 1 := by rw [wrap_i64] <;> omega
  have tg := bef_arr (m := m) (by omega)
  have br := befT_rng m
  have e2 : IntKind.i64.wrap (befT m + 1) = befT m + 1 := by rw [wrap_i64] <;> omega
  -- region 0
  refine AWp.rseq E_ok [0, 1, 4, 5, 15] fun K hK => ?_
  simp [e1, tg, e2]
  repeat refine ⟨by first | omega | assumption | (simp only [maxLen]; omega) | (intros; omega) | decide, ?_⟩
  refine hK _ ?_
  clear hK K
  -- region 1
  refine AWp.rseq E_ok [0, 1, 4, 5, 15] fun K hK => ?_
  simp [e1, tg, e2]
  repeat refine ⟨by first | omega | assumption | (simp only [maxLen]; omega) | (intros; omega) | decide, ?_⟩
  refine hK _ ?_
  clear hK K
  refine AWp.seq ?_
  -- region 2
  refine AWp.rseq E_ok [0, 1, 4, 5, 15] fun K hK => ?_
  simp [e1, tg, e2]
  repeat refine ⟨by first | omega | assumption | (simp only [maxLen]; omega) | (intros; omega) | decide, ?_⟩
  refine meet.of (date_leap y (by omega)) ?_
  simp [e1, tg, e2]
  repeat refine ⟨by first | omega | assumption | (simp only [maxLen]; omega) | (intros; omega) | decide, ?_⟩
  refine hK _ ?_
  clear hK K
  refine AWp.cond rfl (fun h15 => ?_) (fun h15 => ?_)
  · try simp at h15
    have hb : befD y m = befT m + 1 := by unfold befD; rw [if_pos h15]
    -- region 3
    refine AWp.rend E_ok [0, 1, 4, 5, 15] fun K hK => ?_
    simp [e1, tg, e2]
    repeat refine ⟨by first | omega | assumption | (simp only [maxLen]; omega) | (intros; omega) | decide, ?_⟩
    refine hK _ ?_
    clear hK K
    repeat first | refine thenN ?_ | refine thenX ?_ | refine thenR ?_ | refine blockN ?_ | refine blockR ?_ | refine blockX ?_ | refine blockM rfl ?_
    -- region 4
    refine AWp.rseq E_ok [0, 1, 4, 5, 15] fun K hK => ?_
    simp [e1, tg, e2]
    repeat refine ⟨by first | omega | assumption | (simp only [maxLen]; omega) | (intros; omega) | decide, ?_⟩
    refine hK _ ?_
    clear hK K
    refine AWp.ret ?_
    repeat first | refine thenN ?_ | refine thenX ?_ | refine thenR ?_ | refine blockN ?_ | refine blockR ?_ | refine blockX ?_ | refine blockM rfl ?_
    simp [RetOk, RV, RVs, hb]
  · try simp at h15
    have hb : befD y m = befT m := by unfold befD; rw [if_neg (by simpa using h15)]; omega
    refine AWp.skip ?_
    repeat first | refine thenN ?_ | refine thenX ?_ | refine thenR ?_ | refine blockN ?_ | refine blockR ?_ | refine blockX ?_ | refine blockM rfl ?_
    -- region 4
    refine AWp.rseq E_ok [0, 1, 4, 5, 15] fun K hK => ?_
    simp [e1, tg, e2]
    repeat refine ⟨by first | omega | assumption | (simp only [maxLen]; omega) | (intros; omega) | decide, ?_⟩
    refine hK _ ?_
    clear hK K
    refine AWp.ret ?_
    repeat first | refine thenN ?_ | refine thenX ?_ | refine thenR ?_ | refine blockN ?_ | refine blockR ?_ | refine blockX ?_ | refine blockM rfl ?_
    simp [RetOk, RV, RVs, hb]
end Go.Proofs.YtfaaceakmfokoaaDoor

set_option maxRecDepth 100000
set_option linter.unusedSimpArgs false
set_option linter.unusedVariables false
namespace Go.Proofs.YtfaaceakmfokoaaDoor
open Go Ab Pl
theorem date_Parts (day : Int) : ACalls E.P 43 [.int .i64 day] (.tup [.int .i64 (partsR day).1, .int .i64 (partsR day).2.1, .int .i64 (partsR day).2.2.1, .int .i64 (partsR day).2.2.2]) := by
  refine ACalls.intro E_ok Tryd.func43 rfl rfl Tryd.ntmps43 Tryd.results43 (Nat.le_of_ble_eq_true rfl) fun hok base S0 w0 => ?_
  -- region 0
  refine AWp.rseq E_ok [0, 2, 3, 4, 5, 6, 7, 8, 11, 23, 34] fun K hK => ?_
  simp [isDay]
  try simp (disch := omega) only [wrap_i64]
  repeat refine ⟨by first | omega | assumption | (simp only [maxLen]; omega) | (intros; omega) | decide, ?_⟩
  refine hK _ ?_
  clear hK K
  refine AWp.seq ?_
  -- region 1
  refine AWp.rseq E_ok [0, 2, 3, 4, 5, 6, 7, 8, 11, 23, 34] fun K hK => ?_
  simp [isDay]
  try simp (disch := omega) only [wrap_i64]
  repeat refine ⟨by first | omega | assumption | (simp only [maxLen]; omega) | (intros; omega) | decide, ?_⟩
  refine meet.of (date_known day) ?_
  simp [isDay]
  try simp (disch := omega) only [wrap_i64]
  repeat refine ⟨by first | omega | assumption | (simp only [maxLen]; omega) | (intros; omega) | decide, ?_⟩
  refine hK _ ?_
  clear hK K
  refine AWp.cond rfl (fun h11 => ?_) (fun h11 => ?_)
  · try simp at h11
    -- region 2
    refine AWp.rseq E_ok [0, 2, 3, 4, 5, 6, 7, 8, 11, 23, 34] fun K hK => ?_
    simp [isDay]
    try simp (disch := omega) only [wrap_i64]
    repeat refine ⟨by first | omega | assumption | (simp only [maxLen]; omega) | (intros; omega) | decide, ?_⟩
    refine hK _ ?_
    clear hK K
    refine AWp.ret ?_
    repeat first | refine thenN ?_ | refine thenX ?_ | refine thenR ?_ | refine blockN ?_ | refine blockR ?_ | refine blockX ?_ | refine blockM rfl ?_
    first | (rw [partsR_bad (by omega)]; simp [RetOk, RV, RVs]; done) | (rw [partsR_ok (by omega)]; simp [RetOk, RV, RVs, hp])
  · try simp at h11
    have e0 : day.tdiv 366 = day / 366 := Int.tdiv_eq_ediv_of_nonneg (by omega)
    have e1 : IntKind.i64.wrap (day / 366) = day / 366 := by rw [wrap_i64] <;> omega
    have e2 : IntKind.i64.wrap (1900 + day / 366) = 1900 + day / 366 := by rw [wrap_i64] <;> omega
    refine AWp.skip ?_
    repeat first | refine thenN ?_ | refine thenX ?_ | refine thenR ?_ | refine blockN ?_ | refine blockR ?_ | refine blockX ?_ | refine blockM rfl ?_
    -- region 3
    refine AWp.rseq E_ok [0, 2, 3, 4, 5, 6, 7, 8, 11, 23, 34] fun K hK => ?_
    simp [isDay, e0, e1, e2]
    try simp (disch := omega) only [wrap_i64]
    repeat refine ⟨by first | omega | assumption | (simp only [maxLen]; omega) | (intros; omega) | decide, ?_⟩
    refine hK _ ?_
    clear hK K
    refine AWp.seq ?_
    refine AWp.block ?_
    refine AWp.loop (ι := { y : Int // 1900 ≤ y ∧ y ≤ 2199 ∧ nyD y ≤ day }) (fun x => match x with | ⟨y, hy⟩ => [(0, T.val (D.int IntKind.i64 day)), (6, T.val (.int .i64 y))]) (fun x => match x with | ⟨y, hy⟩ => (2200 - y).toNat) ⟨1900 + day / 366, by omega, by omega, by have := ny_rng (y := 1900 + day / 366) (by omega) (by omega); omega⟩ ?_ ?_
    · simp [Weak, TW, isDay]
    rintro ⟨y, hy⟩
    simp only
    try simp only at hy
    refine AWp.seq ?_
    -- region 4
    refine AWp.rseq E_ok [0, 2, 3, 4, 5, 6, 7, 8, 11, 23, 34] fun K hK => ?_
    simp [isDay, e0, e1, e2]
    try simp (disch := omega) only [wrap_i64]
    repeat refine ⟨by first | omega | assumption | (simp only [maxLen]; omega) | (intros; omega) | decide, ?_⟩
    refine meet.of (date_newYear (y + 1) (by omega)) ?_
    simp [isDay, e0, e1, e2]
    try simp (disch := omega) only [wrap_i64]
    repeat refine ⟨by first | omega | assumption | (simp only [maxLen]; omega) | (intros; omega) | decide, ?_⟩
    refine hK _ ?_
    clear hK K
    refine AWp.cond rfl (fun h23 => ?_) (fun h23 => ?_)
    · try simp at h23
      refine AWp.skip ?_
      repeat first | refine thenN ?_ | refine thenX ?_ | refine thenR ?_ | refine blockN ?_ | refine blockR ?_ | refine blockX ?_ | refine blockM rfl ?_
      refine AWp.block ?_
      -- region 5
      refine AWp.rend E_ok [0, 2, 3, 4, 5, 6, 7, 8, 11, 23, 34] fun K hK => ?_
      simp [isDay, e0, e1, e2]
      try simp (disch := omega) only [wrap_i64]
      repeat refine ⟨by first | omega | assumption | (simp only [maxLen]; omega) | (intros; omega) | decide, ?_⟩
      refine hK _ ?_
      clear hK K
      repeat first | refine thenN ?_ | refine thenX ?_ | refine thenR ?_ | refine blockN ?_ | refine blockR ?_ | refine blockX ?_ | refine blockM rfl ?_
      refine ⟨⟨y + 1, by omega, by omega, by omega⟩, ?_, by simp only; omega⟩
      have hw : IntKind.i64.wrap (y + 1) = y + 1 := by rw [wrap_i64] <;> omega
      simp [Weak, TW, hw]
    · try simp at h23
      have hy3 : day < nyD (y + 1) := by rcases (show y < 2199 ∨ y = 2199 by omega) with hh | hh <;> first | (have := h23 hh; omega) | (rw [show y + 1 = 2200 by omega, ny_end]; omega)
      have nr := ny_rng hy.1 (by omega)
      have e3 : IntKind.i64.wrap (day - nyD y) = day - nyD y := by rw [wrap_i64] <;> omega
      have st := ny_step hy.1 hy.2.1
      have be := bef_end hy.1 hy.2.1
      refine AWp.exit ?_
      repeat first | refine thenN ?_ | refine thenX ?_ | refine thenR ?_ | refine blockN ?_ | refine blockR ?_ | refine blockX ?_ | refine blockM rfl ?_
      -- region 6
      refine AWp.rseq E_ok [0, 2, 3, 4, 5, 6, 7, 8, 11, 23, 34] fun K hK => ?_
      simp [isDay, e0, e1, e2, e3]
      try simp (disch := omega) only [wrap_i64]
      repeat refine ⟨by first | omega | assumption | (simp only [maxLen]; omega) | (intros; omega) | decide, ?_⟩
      refine meet.of (date_newYear y (by omega)) ?_
      simp [isDay, e0, e1, e2, e3]
      try simp (disch := omega) only [wrap_i64]
      repeat refine ⟨by first | omega | assumption | (simp only [maxLen]; omega) | (intros; omega) | decide, ?_⟩
      refine hK _ ?_
      clear hK K
      -- region 7
      refine AWp.rseq E_ok [0, 2, 3, 4, 5, 6, 7, 8, 11, 23, 34] fun K hK => ?_
      simp [isDay, e0, e1, e2, e3]
      try simp (disch := omega) only [wrap_i64]
      repeat refine ⟨by first | omega | assumption | (simp only [maxLen]; omega) | (intros; omega) | decide, ?_⟩
      refine hK _ ?_
      clear hK K
      refine AWp.seq ?_
      refine AWp.block ?_
      refine AWp.loop (ι := { m : Int // 1 ≤ m ∧ m ≤ 12 ∧ day - nyD y < befD y (m + 1) }) (fun x => match x with | ⟨m, hm⟩ => [(0, T.val (D.int IntKind.i64 day)), (6, T.val (D.int IntKind.i64 y)), (7, T.val (D.int IntKind.i64 (day - nyD y))), (8, T.val (.int .i64 m))]) (fun x => match x with | ⟨m, hm⟩ => m.toNat) ⟨12, by omega, by omega, by rw [show (12 : Int) + 1 = 13 from rfl, be]; omega⟩ ?_ ?_
      · simp [Weak, TW, isDay]
      rintro ⟨m, hm⟩
      simp only
      try simp only at hm
      refine AWp.seq ?_
      -- region 8
      refine AWp.rseq E_ok [0, 2, 3, 4, 5, 6, 7, 8, 11, 23, 34] fun K hK => ?_
      simp [isDay, e0, e1, e2, e3]
      try simp (disch := omega) only [wrap_i64]
      repeat refine ⟨by first | omega | assumption | (simp only [maxLen]; omega) | (intros; omega) | decide, ?_⟩
      refine meet.of (date_before y m (by omega) (by omega)) ?_
      simp [isDay, e0, e1, e2, e3]
      try simp (disch := omega) only [wrap_i64]
      repeat refine ⟨by first | omega | assumption | (simp only [maxLen]; omega) | (intros; omega) | decide, ?_⟩
      refine hK _ ?_
      clear hK K
      refine AWp.cond rfl (fun h34 => ?_) (fun h34 => ?_)
      · try simp at h34
        refine AWp.skip ?_
        repeat first | refine thenN ?_ | refine thenX ?_ | refine thenR ?_ | refine blockN ?_ | refine blockR ?_ | refine blockX ?_ | refine blockM rfl ?_
        refine AWp.block ?_
        -- region 9
        refine AWp.rend E_ok [0, 2, 3, 4, 5, 6, 7, 8, 11, 23, 34] fun K hK => ?_
        simp [isDay, e0, e1, e2, e3]
        try simp (disch := omega) only [wrap_i64]
        repeat refine ⟨by first | omega | assumption | (simp only [maxLen]; omega) | (intros; omega) | decide, ?_⟩
        refine hK _ ?_
        clear hK K
        repeat first | refine thenN ?_ | refine thenX ?_ | refine thenR ?_ | refine blockN ?_ | refine blockR ?_ | refine blockX ?_ | refine blockM rfl ?_
        have hm2 : 2 ≤ m := by rcases (show 2 ≤ m ∨ m = 1 by omega) with hh | hh <;> first | exact hh | (exfalso; subst hh; rw [bef_first] at h34; omega)
        refine ⟨⟨m - 1, by omega, by omega, by rw [show m - 1 + 1 = m by omega]; omega⟩, ?_, by simp only; omega⟩
        have hw : IntKind.i64.wrap (m - 1) = m - 1 := by rw [wrap_i64] <;> omega
        simp [Weak, TW, hw]
      · try simp at h34
        have b1 := bef_mono (y := y) (m := 1) (n := m) (by omega) (by omega) hm.1
        rw [bef_first] at b1
        have hp := parts_eq (parts_mk hy.1 hy.2.1 hm.1 hm.2.1 (day := day) (by omega) (by omega))
        have e4 : IntKind.i64.wrap (day - nyD y - befD y m) = day - nyD y - befD y m := by rw [wrap_i64] <;> omega
        have e5 : IntKind.i64.wrap (day - nyD y - befD y m + 1) = day - nyD y - befD y m + 1 := by rw [wrap_i64] <;> omega
        refine AWp.exit ?_
        repeat first | refine thenN ?_ | refine thenX ?_ | refine thenR ?_ | refine blockN ?_ | refine blockR ?_ | refine blockX ?_ | refine blockM rfl ?_
        -- region 10
        refine AWp.rseq E_ok [0, 2, 3, 4, 5, 6, 7, 8, 11, 23, 34] fun K hK => ?_
        simp [isDay, e0, e1, e2, e3, e4, e5]
        try simp (disch := omega) only [wrap_i64]
        repeat refine ⟨by first | omega | assumption | (simp only [maxLen]; omega) | (intros; omega) | decide, ?_⟩
        refine meet.of (date_before y m (by omega) (by omega)) ?_
        simp [isDay, e0, e1, e2, e3, e4, e5]
        try simp (disch := omega) only [wrap_i64]
        repeat refine ⟨by first | omega | assumption | (simp only [maxLen]; omega) | (intros; omega) | decide, ?_⟩
        refine hK _ ?_
        clear hK K
        refine AWp.ret ?_
        repeat first | refine thenN ?_ | refine thenX ?_ | refine thenR ?_ | refine blockN ?_ | refine blockR ?_ | refine blockX ?_ | refine blockM rfl ?_
        first | (rw [partsR_bad (by omega)]; simp [RetOk, RV, RVs]; done) | (rw [partsR_ok (by omega)]; simp [RetOk, RV, RVs, hp])
end Go.Proofs.YtfaaceakmfokoaaDoor

set_option maxRecDepth 100000
set_option linter.unusedSimpArgs false
set_option linter.unusedVariables false
namespace Go.Proofs.YtfaaceakmfokoaaDoor
open Go Ab Pl
theorem date_Length (y m : Int) : ACalls E.P 60 [.int .i64 y, .int .i64 m] (.d (.int .i64 (mlenD y m))) := by
  refine ACalls.intro E_ok Tryd.func60 rfl rfl Tryd.ntmps60 Tryd.results60 (Nat.le_of_ble_eq_true rfl) fun hok base S0 w0 => ?_
  -- region 0
  refine AWp.rseq E_ok [0, 1, 4, 5, 20] fun K hK => ?_
  simp
  repeat refine ⟨by first | omega | assumption | (simp only [maxLen]; omega) | (intros; omega) | decide, ?_⟩
  refine hK _ ?_
  clear hK K
  refine AWp.seq ?_
  refine AWp.block ?_
  -- region 1
  refine AWp.rseq E_ok [0, 1, 4, 5, 20] fun K hK => ?_
  simp
  repeat refine ⟨by first | omega | assumption | (simp only [maxLen]; omega) | (intros; omega) | decide, ?_⟩
  refine hK _ ?_
  clear hK K
  refine AWp.cond rfl (fun h5 => ?_) (fun h5 => ?_)
  · try simp at h5
    -- region 2
    refine AWp.rseq E_ok [0, 1, 4, 5, 20] fun K hK => ?_
    simp
    repeat refine ⟨by first | omega | assumption | (simp only [maxLen]; omega) | (intros; omega) | decide, ?_⟩
    refine hK _ ?_
    clear hK K
    refine AWp.ret ?_
    repeat first | refine thenN ?_ | refine thenX ?_ | refine thenR ?_ | refine blockN ?_ | refine blockR ?_ | refine blockX ?_ | refine blockM rfl ?_
    first | (rw [mlen_out (by omega)]; simp [RetOk, RV, RVs]; done) | (rw [hq]; simp [RetOk, RV, RVs]; done)
  · try simp at h5
    -- region 3
    refine AWp.rseq E_ok [0, 1, 4, 5, 20] fun K hK => ?_
    simp
    repeat refine ⟨by first | omega | assumption | (simp only [maxLen]; omega) | (intros; omega) | decide, ?_⟩
    refine meet.of (date_leap y (by omega)) ?_
    simp
    repeat refine ⟨by first | omega | assumption | (simp only [maxLen]; omega) | (intros; omega) | decide, ?_⟩
    refine hK _ ?_
    clear hK K
    refine AWp.cond rfl (fun h20 => ?_) (fun h20 => ?_)
    · try simp at h20
      have hq := mlen_29 (y := y) (m := m) (by omega) (by omega) h20.1 h20.2
      -- region 4
      refine AWp.rseq E_ok [0, 1, 4, 5, 20] fun K hK => ?_
      simp
      repeat refine ⟨by first | omega | assumption | (simp only [maxLen]; omega) | (intros; omega) | decide, ?_⟩
      refine hK _ ?_
      clear hK K
      refine AWp.ret ?_
      repeat first | refine thenN ?_ | refine thenX ?_ | refine thenR ?_ | refine blockN ?_ | refine blockR ?_ | refine blockX ?_ | refine blockM rfl ?_
      first | (rw [mlen_out (by omega)]; simp [RetOk, RV, RVs]; done) | (rw [hq]; simp [RetOk, RV, RVs]; done)
    · try simp at h20
      have hq := mlen_tbl (y := y) (m := m) (by omega) (by omega) (by omega) (by omega) (by simpa using h20)
      have e1 : IntKind.i64.wrap (m - 1) = m - 1 := by rw [wrap_i64] <;> omega
      have tg := tbl_arr (m := m) (by omega)
      refine AWp.skip ?_
      repeat first | refine thenN ?_ | refine thenX ?_ | refine thenR ?_ | refine blockN ?_ | refine blockR ?_ | refine blockX ?_ | refine blockM rfl ?_
      -- region 5
      refine AWp.rseq E_ok [0, 1, 4, 5, 20] fun K hK => ?_
      simp [e1, tg]
      repeat refine ⟨by first | omega | assumption | (simp only [maxLen]; omega) | (intros; omega) | decide, ?_⟩
      refine hK _ ?_
      clear hK K
      refine AWp.ret ?_
      repeat first | refine thenN ?_ | refine thenX ?_ | refine thenR ?_ | refine blockN ?_ | refine blockR ?_ | refine blockX ?_ | refine blockM rfl ?_
      first | (rw [mlen_out (by omega)]; simp [RetOk, RV, RVs]; done) | (rw [hq]; simp [RetOk, RV, RVs]; done)
end Go.Proofs.YtfaaceakmfokoaaDoor

set_option maxRecDepth 100000
set_option linter.unusedSimpArgs false
set_option linter.unusedVariables false
namespace Go.Proofs.YtfaaceakmfokoaaDoor
open Go Ab Pl
theorem date_Of (y m d : Int) : ACalls E.P 59 [.int .i64 y, .int .i64 m, .int .i64 d] (.tup [.int .i64 (ofR y m d).1, .int .i64 (ofR y m d).2]) := by
  refine ACalls.intro E_ok Tryd.func59 rfl rfl Tryd.ntmps59 Tryd.results59 (Nat.le_of_ble_eq_true rfl) fun hok base S0 w0 => ?_
  -- region 0
  refine AWp.rseq E_ok [0, 1, 2, 6, 7, 16] fun K hK => ?_
  simp
  repeat refine ⟨by first | omega | assumption | (simp only [maxLen]; omega) | (intros; omega) | decide, ?_⟩
  refine hK _ ?_
  clear hK K
  refine AWp.seq ?_
  -- region 1
  refine AWp.rseq E_ok [0, 1, 2, 6, 7, 16] fun K hK => ?_
  simp
  repeat refine ⟨by first | omega | assumption | (simp only [maxLen]; omega) | (intros; omega) | decide, ?_⟩
  refine meet.of (date_Length y m) ?_
  simp
  repeat refine ⟨by first | omega | assumption | (simp only [maxLen]; omega) | (intros; omega) | decide, ?_⟩
  refine hK _ ?_
  clear hK K
  refine AWp.cond rfl (fun h16 => ?_) (fun h16 => ?_)
  · try simp at h16
    have hb := of_bad h16
    -- region 2
    refine AWp.rseq E_ok [0, 1, 2, 6, 7, 16] fun K hK => ?_
    simp
    repeat refine ⟨by first | omega | assumption | (simp only [maxLen]; omega) | (intros; omega) | decide, ?_⟩
    refine hK _ ?_
    clear hK K
    refine AWp.ret ?_
    repeat first | refine thenN ?_ | refine thenX ?_ | refine thenR ?_ | refine blockN ?_ | refine blockR ?_ | refine blockX ?_ | refine blockM rfl ?_
    first | (simp [RetOk, RV, RVs, hb]; done) | (rw [of_ok (by omega) (by omega)]; simp [RetOk, RV, RVs, dayD])
  · try simp at h16
    have hin := mlen_in (y := y) (m := m) (d := d) (by omega) (by omega)
    have ml := mlen_rng hin.1.1 hin.1.2 hin.2.1 hin.2.2
    have nr := ny_rng hin.1.1 (by omega)
    have b1 := bef_mono (y := y) (m := 1) (n := m) (by omega) (by omega) hin.2.1
    have b2 := bef_mono (y := y) (m := m) (n := 13) (by omega) hin.2.1 (by omega)
    rw [bef_first] at b1
    rw [bef_end hin.1.1 hin.1.2] at b2
    have yp := year_pos y
    have e1 : IntKind.i64.wrap (nyD y + befD y m) = nyD y + befD y m := by rw [wrap_i64] <;> omega
    have e2 : IntKind.i64.wrap (nyD y + befD y m + d) = nyD y + befD y m + d := by rw [wrap_i64] <;> omega
    have e3 : IntKind.i64.wrap (nyD y + befD y m + d - 1) = nyD y + befD y m + d - 1 := by rw [wrap_i64] <;> omega
    refine AWp.skip ?_
    repeat first | refine thenN ?_ | refine thenX ?_ | refine thenR ?_ | refine blockN ?_ | refine blockR ?_ | refine blockX ?_ | refine blockM rfl ?_
    -- region 3
    refine AWp.rseq E_ok [0, 1, 2, 6, 7, 16] fun K hK => ?_
    simp [e1, e2, e3]
    repeat refine ⟨by first | omega | assumption | (simp only [maxLen]; omega) | (intros; omega) | decide, ?_⟩
    refine meet.of (date_newYear y (by omega)) ?_
    simp [e1, e2, e3]
    repeat refine ⟨by first | omega | assumption | (simp only [maxLen]; omega) | (intros; omega) | decide, ?_⟩
    refine meet.of (date_before y m (by omega) (by omega)) ?_
    simp [e1, e2, e3]
    repeat refine ⟨by first | omega | assumption | (simp only [maxLen]; omega) | (intros; omega) | decide, ?_⟩
    refine hK _ ?_
    clear hK K
    refine AWp.ret ?_
    repeat first | refine thenN ?_ | refine thenX ?_ | refine thenR ?_ | refine blockN ?_ | refine blockR ?_ | refine blockX ?_ | refine blockM rfl ?_
    first | (simp [RetOk, RV, RVs, hb]; done) | (rw [of_ok (by omega) (by omega)]; simp [RetOk, RV, RVs, dayD])
end Go.Proofs.YtfaaceakmfokoaaDoor

set_option maxRecDepth 100000
set_option linter.unusedSimpArgs false
set_option linter.unusedVariables false
namespace Go.Proofs.YtfaaceakmfokoaaDoor
open Go Ab Pl
theorem date_Months (day n : Int) : ACalls E.P 47 [.int .i64 day, .int .i64 n] (.tup [.int .i64 (monthsR day n).1, .int .i64 (monthsR day n).2]) := by
  refine ACalls.intro E_ok Tryd.func47 rfl rfl Tryd.ntmps47 Tryd.results47 (Nat.le_of_ble_eq_true rfl) fun hok base S0 w0 => ?_
  -- region 0
  refine AWp.rseq E_ok [0, 1, 4, 5, 6, 7, 8, 9, 10, 19, 26, 40] fun K hK => ?_
  simp
  try simp (disch := omega) only [wrap_i64]
  repeat refine ⟨by first | omega | assumption | (simp only [maxLen]; omega) | (intros; omega) | decide, ?_⟩
  refine hK _ ?_
  clear hK K
  -- region 1
  refine AWp.rseq E_ok [0, 1, 4, 5, 6, 7, 8, 9, 10, 19, 26, 40] fun K hK => ?_
  simp
  try simp (disch := omega) only [wrap_i64]
  repeat refine ⟨by first | omega | assumption | (simp only [maxLen]; omega) | (intros; omega) | decide, ?_⟩
  refine meet.of (date_Parts day) ?_
  simp
  try simp (disch := omega) only [wrap_i64]
  repeat refine ⟨by first | omega | assumption | (simp only [maxLen]; omega) | (intros; omega) | decide, ?_⟩
  refine hK _ ?_
  clear hK K
  refine AWp.seq ?_
  -- region 2
  refine AWp.rseq E_ok [0, 1, 4, 5, 6, 7, 8, 9, 10, 19, 26, 40] fun K hK => ?_
  simp
  try simp (disch := omega) only [wrap_i64]
  repeat refine ⟨by first | omega | assumption | (simp only [maxLen]; omega) | (intros; omega) | decide, ?_⟩
  refine hK _ ?_
  clear hK K
  refine AWp.cond rfl (fun h19 => ?_) (fun h19 => ?_)
  · try simp at h19
    have hb := months_a (day := day) (n := n) (.inl (partsR_unknown h19))
    have hpr := partsR_bad (partsR_unknown h19)
    -- region 3
    refine AWp.rseq E_ok [0, 1, 4, 5, 6, 7, 8, 9, 10, 19, 26, 40] fun K hK => ?_
    simp [hpr]
    try simp (disch := omega) only [wrap_i64]
    repeat refine ⟨by first | omega | assumption | (simp only [maxLen]; omega) | (intros; omega) | decide, ?_⟩
    refine hK _ ?_
    clear hK K
    refine AWp.ret ?_
    repeat first | refine thenN ?_ | refine thenX ?_ | refine thenR ?_ | refine blockN ?_ | refine blockR ?_ | refine blockX ?_ | refine blockM rfl ?_
    first | (simp [RetOk, RV, RVs, hb, hpr]; done) | (simp [RetOk, RV, RVs, hb])
  · try simp at h19
    have hk := partsR_known h19
    have hpr := partsR_ok hk
    have hi := parts_in (parts_is hk.1 hk.2)
    refine AWp.skip ?_
    repeat first | refine thenN ?_ | refine thenX ?_ | refine thenR ?_ | refine blockN ?_ | refine blockR ?_ | refine blockX ?_ | refine blockM rfl ?_
    refine AWp.seq ?_
    -- region 4
    refine AWp.rseq E_ok [0, 1, 4, 5, 6, 7, 8, 9, 10, 19, 26, 40] fun K hK => ?_
    simp [hpr]
    try simp (disch := omega) only [wrap_i64]
    repeat refine ⟨by first | omega | assumption | (simp only [maxLen]; omega) | (intros; omega) | decide, ?_⟩
    refine hK _ ?_
    clear hK K
    refine AWp.cond rfl (fun h26 => ?_) (fun h26 => ?_)
    · try simp at h26
      have hb := months_a (day := day) (n := n) (.inr (by omega))
      -- region 5
      refine AWp.rseq E_ok [0, 1, 4, 5, 6, 7, 8, 9, 10, 19, 26, 40] fun K hK => ?_
      simp [hpr]
      try simp (disch := omega) only [wrap_i64]
      repeat refine ⟨by first | omega | assumption | (simp only [maxLen]; omega) | (intros; omega) | decide, ?_⟩
      refine hK _ ?_
      clear hK K
      refine AWp.ret ?_
      repeat first | refine thenN ?_ | refine thenX ?_ | refine thenR ?_ | refine blockN ?_ | refine blockR ?_ | refine blockX ?_ | refine blockM rfl ?_
      first | (simp [RetOk, RV, RVs, hb, hpr]; done) | (simp [RetOk, RV, RVs, hb])
    · try simp at h26
      have hkk : ((partsP day).y - 1900) * 12 + (partsP day).m - 1 + n = monK day n - 22800 := by unfold monK; omega
      refine AWp.skip ?_
      repeat first | refine thenN ?_ | refine thenX ?_ | refine thenR ?_ | refine blockN ?_ | refine blockR ?_ | refine blockX ?_ | refine blockM rfl ?_
      -- region 6
      refine AWp.rseq E_ok [0, 1, 4, 5, 6, 7, 8, 9, 10, 19, 26, 40] fun K hK => ?_
      simp [hpr, hkk]
      try simp (disch := omega) only [wrap_i64]
      repeat refine ⟨by first | omega | assumption | (simp only [maxLen]; omega) | (intros; omega) | decide, ?_⟩
      refine hK _ ?_
      clear hK K
      refine AWp.seq ?_
      -- region 7
      refine AWp.rseq E_ok [0, 1, 4, 5, 6, 7, 8, 9, 10, 19, 26, 40] fun K hK => ?_
      simp [hpr, hkk]
      try simp (disch := omega) only [wrap_i64]
      repeat refine ⟨by first | omega | assumption | (simp only [maxLen]; omega) | (intros; omega) | decide, ?_⟩
      refine hK _ ?_
      clear hK K
      refine AWp.cond rfl (fun h40 => ?_) (fun h40 => ?_)
      · try simp at h40
        have hb := months_b (day := day) (n := n) ⟨hk, by omega, by omega⟩ (by omega)
        -- region 8
        refine AWp.rseq E_ok [0, 1, 4, 5, 6, 7, 8, 9, 10, 19, 26, 40] fun K hK => ?_
        simp [hpr, hkk]
        try simp (disch := omega) only [wrap_i64]
        repeat refine ⟨by first | omega | assumption | (simp only [maxLen]; omega) | (intros; omega) | decide, ?_⟩
        refine hK _ ?_
        clear hK K
        refine AWp.ret ?_
        repeat first | refine thenN ?_ | refine thenX ?_ | refine thenR ?_ | refine blockN ?_ | refine blockR ?_ | refine blockX ?_ | refine blockM rfl ?_
        first | (simp [RetOk, RV, RVs, hb, hpr]; done) | (simp [RetOk, RV, RVs, hb])
      · try simp at h40
        have hb := months_c (day := day) (n := n) ⟨hk, by omega, by omega⟩ (by omega)
        have q1 : (monK day n - 22800).tdiv 12 = monK day n / 12 - 1900 := by rw [Int.tdiv_eq_ediv_of_nonneg (by omega)]; omega
        have q2 : (monK day n - 22800).tmod 12 = monK day n % 12 := by rw [Int.tmod_eq_emod_of_nonneg (by omega)]; omega
        have q3 : 1900 + (monK day n / 12 - 1900) = monK day n / 12 := by omega
        have q4 : (if mlenD (monK day n / 12) (monK day n % 12 + 1) < (partsP day).d then mlenD (monK day n / 12) (monK day n % 12 + 1) else (partsP day).d) = min (partsP day).d (mlenD (monK day n / 12) (monK day n % 12 + 1)) := by split <;> omega
        refine AWp.skip ?_
        repeat first | refine thenN ?_ | refine thenX ?_ | refine thenR ?_ | refine blockN ?_ | refine blockR ?_ | refine blockX ?_ | refine blockM rfl ?_
        -- region 9
        refine AWp.rseq E_ok [0, 1, 4, 5, 6, 7, 8, 9, 10, 19, 26, 40] fun K hK => ?_
        simp [hpr, hkk, q1, q2, q3, q4]
        try simp (disch := omega) only [wrap_i64]
        repeat refine ⟨by first | omega | assumption | (simp only [maxLen]; omega) | (intros; omega) | decide, ?_⟩
        refine hK _ ?_
        clear hK K
        -- region 10
        refine AWp.rseq E_ok [0, 1, 4, 5, 6, 7, 8, 9, 10, 19, 26, 40] fun K hK => ?_
        simp [hpr, hkk, q1, q2, q3, q4]
        try simp (disch := omega) only [wrap_i64]
        repeat refine ⟨by first | omega | assumption | (simp only [maxLen]; omega) | (intros; omega) | decide, ?_⟩
        refine meet.of (date_Length (monK day n / 12) (monK day n % 12 + 1)) ?_
        simp [hpr, hkk, q1, q2, q3, q4]
        try simp (disch := omega) only [wrap_i64]
        repeat refine ⟨by first | omega | assumption | (simp only [maxLen]; omega) | (intros; omega) | decide, ?_⟩
        refine meet.of (date_Of (monK day n / 12) (monK day n % 12 + 1) (min (partsP day).d (mlenD (monK day n / 12) (monK day n % 12 + 1)))) ?_
        simp [hpr, hkk, q1, q2, q3, q4]
        try simp (disch := omega) only [wrap_i64]
        repeat refine ⟨by first | omega | assumption | (simp only [maxLen]; omega) | (intros; omega) | decide, ?_⟩
        refine hK _ ?_
        clear hK K
        refine AWp.ret ?_
        repeat first | refine thenN ?_ | refine thenX ?_ | refine thenR ?_ | refine blockN ?_ | refine blockR ?_ | refine blockX ?_ | refine blockM rfl ?_
        first | (simp [RetOk, RV, RVs, hb, hpr]; done) | (simp [RetOk, RV, RVs, hb])
end Go.Proofs.YtfaaceakmfokoaaDoor

set_option maxRecDepth 100000
set_option linter.unusedSimpArgs false
set_option linter.unusedVariables false
namespace Go.Proofs.YtfaaceakmfokoaaDoor
open Go Ab Pl
theorem pattern_nominal (p : Pat) (k : Int) (hp : PatOk p) (hk : 0 ≤ k ∧ k ≤ 16000) : ACalls E.P 42 [encPat p, .int .i64 k] (.tup [.int .i64 (nomR p k).1, .bool (nomR p k).2]) := by
  refine ACalls.intro E_ok Tryd.func42 rfl rfl Tryd.ntmps42 Tryd.results42 (Nat.le_of_ble_eq_true rfl) fun hok base S0 w0 => ?_
  have hs := hp.1; have he := hp.2.1
  -- region 0
  refine AWp.rseq E_ok [0, 1, 2, 4, 5, 6, 7, 8, 9, 11, 12, 26, 28] fun K hK => ?_
  simp [encPat_eq]
  try simp (disch := omega) only [wrap_i64]
  repeat refine ⟨by first | omega | assumption | (simp only [maxLen]; omega) | (intros; omega) | decide, ?_⟩
  refine hK _ ?_
  clear hK K
  -- region 1
  refine AWp.rseq E_ok [0, 1, 2, 4, 5, 6, 7, 8, 9, 11, 12, 26, 28] fun K hK => ?_
  simp [encPat_eq]
  try simp (disch := omega) only [wrap_i64]
  repeat refine ⟨by first | omega | assumption | (simp only [maxLen]; omega) | (intros; omega) | decide, ?_⟩
  refine hK _ ?_
  clear hK K
  refine AWp.seq ?_
  -- region 2
  refine AWp.rseq E_ok [0, 1, 2, 4, 5, 6, 7, 8, 9, 11, 12, 26, 28] fun K hK => ?_
  simp [encPat_eq]
  try simp (disch := omega) only [wrap_i64]
  repeat refine ⟨by first | omega | assumption | (simp only [maxLen]; omega) | (intros; omega) | decide, ?_⟩
  refine hK _ ?_
  clear hK K
  refine AWp.block ?_
  -- region 3
  refine AWp.rseq E_ok [0, 1, 2, 4, 5, 6, 7, 8, 9, 11, 12, 26, 28] fun K hK => ?_
  simp [encPat_eq]
  try simp (disch := omega) only [wrap_i64]
  repeat refine ⟨by first | omega | assumption | (simp only [maxLen]; omega) | (intros; omega) | decide, ?_⟩
  refine hK _ ?_
  clear hK K
  refine AWp.cond rfl (fun h12 => ?_) (fun h12 => ?_)
  · try simp at h12
    -- region 4
    refine AWp.rseq E_ok [0, 1, 2, 4, 5, 6, 7, 8, 9, 11, 12, 26, 28] fun K hK => ?_
    simp [encPat_eq, h12]
    try simp (disch := omega) only [wrap_i64]
    repeat refine ⟨by first | omega | assumption | (simp only [maxLen]; omega) | (intros; omega) | decide, ?_⟩
    refine hK _ ?_
    clear hK K
    -- region 5
    refine AWp.rseq E_ok [0, 1, 2, 4, 5, 6, 7, 8, 9, 11, 12, 26, 28] fun K hK => ?_
    simp [encPat_eq, h12]
    try simp (disch := omega) only [wrap_i64]
    repeat refine ⟨by first | omega | assumption | (simp only [maxLen]; omega) | (intros; omega) | decide, ?_⟩
    refine hK _ ?_
    clear hK K
    refine AWp.ret ?_
    repeat first | refine thenN ?_ | refine thenX ?_ | refine thenR ?_ | refine blockN ?_ | refine blockR ?_ | refine blockX ?_ | refine blockM rfl ?_
    first | (simp [RetOk, RV, RVs, nomR, h12, Bool.decide_and]; done) | (simp [RetOk, RV, RVs, nomR, h12, sp]; done) | (simp [RetOk, RV, RVs, nomR, h12, sp]; exact Bool.beq_eq_decide_eq _ _)
  · try simp at h12
    -- region 6
    refine AWp.rseq E_ok [0, 1, 2, 4, 5, 6, 7, 8, 9, 11, 12, 26, 28] fun K hK => ?_
    simp [encPat_eq, h12]
    try simp (disch := omega) only [wrap_i64]
    repeat refine ⟨by first | omega | assumption | (simp only [maxLen]; omega) | (intros; omega) | decide, ?_⟩
    refine hK _ ?_
    clear hK K
    refine AWp.cond rfl (fun h26 => ?_) (fun h26 => ?_)
    · try simp at h26
      have sp : stepP p = 3 := by unfold stepP; rw [if_pos h26]
      -- region 7
      refine AWp.rend E_ok [0, 1, 2, 4, 5, 6, 7, 8, 9, 11, 12, 26, 28] fun K hK => ?_
      simp [encPat_eq, h12, h26]
      try simp (disch := omega) only [wrap_i64]
      repeat refine ⟨by first | omega | assumption | (simp only [maxLen]; omega) | (intros; omega) | decide, ?_⟩
      refine hK _ ?_
      clear hK K
      repeat first | refine thenN ?_ | refine thenX ?_ | refine thenR ?_ | refine blockN ?_ | refine blockR ?_ | refine blockX ?_ | refine blockM rfl ?_
      -- region 10
      refine AWp.rseq E_ok [0, 1, 2, 4, 5, 6, 7, 8, 9, 11, 12, 26, 28] fun K hK => ?_
      simp [encPat_eq, h12, h26]
      try simp (disch := omega) only [wrap_i64]
      repeat refine ⟨by first | omega | assumption | (simp only [maxLen]; omega) | (intros; omega) | decide, ?_⟩
      refine meet.of (date_Months p.start _) ?_
      simp [encPat_eq, h12, h26]
      try simp (disch := omega) only [wrap_i64]
      repeat refine ⟨by first | omega | assumption | (simp only [maxLen]; omega) | (intros; omega) | decide, ?_⟩
      refine hK _ ?_
      clear hK K
      -- region 11
      refine AWp.rseq E_ok [0, 1, 2, 4, 5, 6, 7, 8, 9, 11, 12, 26, 28] fun K hK => ?_
      simp [encPat_eq, h12, h26]
      try simp (disch := omega) only [wrap_i64]
      repeat refine ⟨by first | omega | assumption | (simp only [maxLen]; omega) | (intros; omega) | decide, ?_⟩
      refine hK _ ?_
      clear hK K
      refine AWp.ret ?_
      repeat first | refine thenN ?_ | refine thenX ?_ | refine thenR ?_ | refine blockN ?_ | refine blockR ?_ | refine blockX ?_ | refine blockM rfl ?_
      first | (simp [RetOk, RV, RVs, nomR, h12, Bool.decide_and]; done) | (simp [RetOk, RV, RVs, nomR, h12, sp]; done) | (simp [RetOk, RV, RVs, nomR, h12, sp]; exact Bool.beq_eq_decide_eq _ _)
    · try simp at h26
      -- region 8
      refine AWp.rseq E_ok [0, 1, 2, 4, 5, 6, 7, 8, 9, 11, 12, 26, 28] fun K hK => ?_
      simp [encPat_eq, h12, h26]
      try simp (disch := omega) only [wrap_i64]
      repeat refine ⟨by first | omega | assumption | (simp only [maxLen]; omega) | (intros; omega) | decide, ?_⟩
      refine hK _ ?_
      clear hK K
      refine AWp.cond rfl (fun h28 => ?_) (fun h28 => ?_)
      · try simp at h28
        have sp : stepP p = 12 := by unfold stepP; rw [if_neg h26, if_pos h28]
        -- region 9
        refine AWp.rend E_ok [0, 1, 2, 4, 5, 6, 7, 8, 9, 11, 12, 26, 28] fun K hK => ?_
        simp [encPat_eq, h12, h26, h28]
        try simp (disch := omega) only [wrap_i64]
        repeat refine ⟨by first | omega | assumption | (simp only [maxLen]; omega) | (intros; omega) | decide, ?_⟩
        refine hK _ ?_
        clear hK K
        repeat first | refine thenN ?_ | refine thenX ?_ | refine thenR ?_ | refine blockN ?_ | refine blockR ?_ | refine blockX ?_ | refine blockM rfl ?_
        -- region 10
        refine AWp.rseq E_ok [0, 1, 2, 4, 5, 6, 7, 8, 9, 11, 12, 26, 28] fun K hK => ?_
        simp [encPat_eq, h12, h26, h28]
        try simp (disch := omega) only [wrap_i64]
        repeat refine ⟨by first | omega | assumption | (simp only [maxLen]; omega) | (intros; omega) | decide, ?_⟩
        refine meet.of (date_Months p.start _) ?_
        simp [encPat_eq, h12, h26, h28]
        try simp (disch := omega) only [wrap_i64]
        repeat refine ⟨by first | omega | assumption | (simp only [maxLen]; omega) | (intros; omega) | decide, ?_⟩
        refine hK _ ?_
        clear hK K
        -- region 11
        refine AWp.rseq E_ok [0, 1, 2, 4, 5, 6, 7, 8, 9, 11, 12, 26, 28] fun K hK => ?_
        simp [encPat_eq, h12, h26, h28]
        try simp (disch := omega) only [wrap_i64]
        repeat refine ⟨by first | omega | assumption | (simp only [maxLen]; omega) | (intros; omega) | decide, ?_⟩
        refine hK _ ?_
        clear hK K
        refine AWp.ret ?_
        repeat first | refine thenN ?_ | refine thenX ?_ | refine thenR ?_ | refine blockN ?_ | refine blockR ?_ | refine blockX ?_ | refine blockM rfl ?_
        first | (simp [RetOk, RV, RVs, nomR, h12, Bool.decide_and]; done) | (simp [RetOk, RV, RVs, nomR, h12, sp]; done) | (simp [RetOk, RV, RVs, nomR, h12, sp]; exact Bool.beq_eq_decide_eq _ _)
      · try simp at h28
        have sp : stepP p = 1 := by unfold stepP; rw [if_neg h26, if_neg h28]
        refine AWp.skip ?_
        repeat first | refine thenN ?_ | refine thenX ?_ | refine thenR ?_ | refine blockN ?_ | refine blockR ?_ | refine blockX ?_ | refine blockM rfl ?_
        -- region 10
        refine AWp.rseq E_ok [0, 1, 2, 4, 5, 6, 7, 8, 9, 11, 12, 26, 28] fun K hK => ?_
        simp [encPat_eq, h12, h26, h28]
        try simp (disch := omega) only [wrap_i64]
        repeat refine ⟨by first | omega | assumption | (simp only [maxLen]; omega) | (intros; omega) | decide, ?_⟩
        refine meet.of (date_Months p.start _) ?_
        simp [encPat_eq, h12, h26, h28]
        try simp (disch := omega) only [wrap_i64]
        repeat refine ⟨by first | omega | assumption | (simp only [maxLen]; omega) | (intros; omega) | decide, ?_⟩
        refine hK _ ?_
        clear hK K
        -- region 11
        refine AWp.rseq E_ok [0, 1, 2, 4, 5, 6, 7, 8, 9, 11, 12, 26, 28] fun K hK => ?_
        simp [encPat_eq, h12, h26, h28]
        try simp (disch := omega) only [wrap_i64]
        repeat refine ⟨by first | omega | assumption | (simp only [maxLen]; omega) | (intros; omega) | decide, ?_⟩
        refine hK _ ?_
        clear hK K
        refine AWp.ret ?_
        repeat first | refine thenN ?_ | refine thenX ?_ | refine thenR ?_ | refine blockN ?_ | refine blockR ?_ | refine blockX ?_ | refine blockM rfl ?_
        first | (simp [RetOk, RV, RVs, nomR, h12, Bool.decide_and]; done) | (simp [RetOk, RV, RVs, nomR, h12, sp]; done) | (simp [RetOk, RV, RVs, nomR, h12, sp]; exact Bool.beq_eq_decide_eq _ _)
end Go.Proofs.YtfaaceakmfokoaaDoor

set_option maxRecDepth 100000
set_option linter.unusedSimpArgs false
set_option linter.unusedVariables false
namespace Go.Proofs.YtfaaceakmfokoaaDoor
open Go Ab Pl
theorem pattern_month (d : Int) : ACalls E.P 35 [.int .i64 d] (.d (.int .i64 (monthD d))) := by
  refine ACalls.intro E_ok Tryd.func35 rfl rfl Tryd.ntmps35 Tryd.results35 (Nat.le_of_ble_eq_true rfl) fun hok base S0 w0 => ?_
  -- region 0
  refine AWp.rseq E_ok [0, 2, 4] fun K hK => ?_
  simp
  repeat refine ⟨by first | omega | assumption | (simp only [maxLen]; omega) | (intros; omega) | decide, ?_⟩
  refine hK _ ?_
  clear hK K
  -- region 1
  refine AWp.rseq E_ok [0, 2, 4] fun K hK => ?_
  simp
  repeat refine ⟨by first | omega | assumption | (simp only [maxLen]; omega) | (intros; omega) | decide, ?_⟩
  refine meet.of (date_Parts d) ?_
  simp
  repeat refine ⟨by first | omega | assumption | (simp only [maxLen]; omega) | (intros; omega) | decide, ?_⟩
  refine hK _ ?_
  clear hK K
  -- region 2
  refine AWp.rseq E_ok [0, 2, 4] fun K hK => ?_
  simp
  repeat refine ⟨by first | omega | assumption | (simp only [maxLen]; omega) | (intros; omega) | decide, ?_⟩
  refine hK _ ?_
  clear hK K
  refine AWp.ret ?_
  repeat first | refine thenN ?_ | refine thenX ?_ | refine thenR ?_ | refine blockN ?_ | refine blockR ?_ | refine blockX ?_ | refine blockM rfl ?_
  simp [RetOk, RV, RVs, monthD]
end Go.Proofs.YtfaaceakmfokoaaDoor

set_option maxRecDepth 100000
set_option linter.unusedSimpArgs false
set_option linter.unusedVariables false
namespace Go.Proofs.YtfaaceakmfokoaaDoor
open Go Ab Pl
theorem slices_Index_int_int (l : List Int) (v : Int) : ACalls E.P 41 [encInts l, .int .i64 v] (.d (.int .i64 (idxE v 0 l))) := by
  refine ACalls.intro E_ok Tryd.func41 rfl rfl Tryd.ntmps41 Tryd.results41 (Nat.le_of_ble_eq_true rfl) fun hok base S0 w0 => ?_
  have hl : l.length ≤ 9223372036854775807 := by have := (Ok_slice (hok (encInts l) (by simp))).1; simpa using this
  -- region 0
  refine AWp.rseq E_ok [0, 1, 4, 5, 7, 8, 9, 16] fun K hK => ?_
  simp [encInts_eq]
  repeat refine ⟨by first | omega | assumption | (simp only [maxLen]; omega) | (intros; omega) | decide, ?_⟩
  refine hK _ ?_
  clear hK K
  refine AWp.seq ?_
  -- region 1
  refine AWp.rseq E_ok [0, 1, 4, 5, 7, 8, 9, 16] fun K hK => ?_
  simp [encInts_eq]
  repeat refine ⟨by first | omega | assumption | (simp only [maxLen]; omega) | (intros; omega) | decide, ?_⟩
  refine hK _ ?_
  clear hK K
  refine AWp.block ?_
  refine AWp.range (l := l) (F := idxE v) (tot := idxE v 0 l) (fun k y => match y with | i => i = (k : Int)) (fun k y => match y with | i => [(0, T.val ((D.int IntKind.i64 0).slice (List.map (D.int IntKind.i64) l))), (1, T.val (D.int IntKind.i64 v)), (7, T.val (D.int IntKind.i64 ↑l.length)), (8, T.val (.int .i64 k))]) (0) ?_ rfl ?_ ?_
  · simp [Weak, TW, encInts_eq]
  · first | exact trivial | (simp; omega) | simp
  rintro k i hk hs hi
  try simp only at hi
  -- region 2
  refine AWp.rseq E_ok [0, 1, 4, 5, 7, 8, 9, 16] fun K hK => ?_
  simp [encInts_eq]
  repeat refine ⟨by first | omega | assumption | (simp only [maxLen]; omega) | (intros; omega) | decide, ?_⟩
  refine hK _ ?_
  clear hK K
  refine AWp.seq ?_
  refine AWp.cond rfl (fun h9 => ?_) (fun h9 => ?_)
  · try simp at h9
    obtain ⟨x, hx, hxx, hd⟩ := at_indexG (l := l) h9
    rw [hd] at hs
    refine AWp.skip ?_
    repeat first | refine thenN ?_ | refine thenX ?_ | refine thenR ?_ | refine blockN ?_ | refine blockR ?_ | refine blockX ?_ | refine blockM rfl ?_
    refine AWp.seq ?_
    refine AWp.block ?_
    -- region 3
    refine AWp.rseq E_ok [0, 1, 4, 5, 7, 8, 9, 16] fun K hK => ?_
    simp [encInts_eq, h9, hx, hxx]
    repeat refine ⟨by first | omega | assumption | (simp only [maxLen]; omega) | (intros; omega) | decide, ?_⟩
    refine hK _ ?_
    clear hK K
    -- region 4
    refine AWp.rseq E_ok [0, 1, 4, 5, 7, 8, 9, 16] fun K hK => ?_
    simp [encInts_eq, h9, hx, hxx]
    repeat refine ⟨by first | omega | assumption | (simp only [maxLen]; omega) | (intros; omega) | decide, ?_⟩
    refine hK _ ?_
    clear hK K
    refine AWp.cond rfl (fun h16 => ?_) (fun h16 => ?_)
    · try simp at h16
      -- region 5
      refine AWp.rseq E_ok [0, 1, 4, 5, 7, 8, 9, 16] fun K hK => ?_
      simp [encInts_eq, h9, hx, hxx, h16]
      repeat refine ⟨by first | omega | assumption | (simp only [maxLen]; omega) | (intros; omega) | decide, ?_⟩
      refine hK _ ?_
      clear hK K
      refine AWp.ret ?_
      repeat first | refine thenN ?_ | refine thenX ?_ | refine thenR ?_ | refine blockN ?_ | refine blockR ?_ | refine blockX ?_ | refine blockM rfl ?_
      simp [idxE, h16] at hs
      first | (simp [RetOk, RV, ← hs]; done) | (simp [RetOk, RV, ← hs, hi]; done) | (subst h16; simp [RetOk, RV, ← hs, hi])
    · try simp at h16
      refine AWp.skip ?_
      repeat first | refine thenN ?_ | refine thenX ?_ | refine thenR ?_ | refine blockN ?_ | refine blockR ?_ | refine blockX ?_ | refine blockM rfl ?_
      -- region 6
      refine AWp.rend E_ok [0, 1, 4, 5, 7, 8, 9, 16] fun K hK => ?_
      simp [encInts_eq, h9, hx, hxx, h16]
      repeat refine ⟨by first | omega | assumption | (simp only [maxLen]; omega) | (intros; omega) | decide, ?_⟩
      refine hK _ ?_
      clear hK K
      repeat first | refine thenN ?_ | refine thenX ?_ | refine thenR ?_ | refine blockN ?_ | refine blockR ?_ | refine blockX ?_ | refine blockM rfl ?_
      have hw : IntKind.i64.wrap ((k : Int) + 1) = (k : Int) + 1 := by rw [wrap_i64] <;> omega
      simp [idxE, h16] at hs
      refine ⟨_, h9, hs, ?_, ?_⟩
      · first | exact trivial | (simp; omega) | simp
      · simp [Weak, TW, hw, encInts_eq]
  · try simp at h9
    obtain rfl : k = l.length := by omega
    simp [idxE] at hs
    refine AWp.exit ?_
    repeat first | refine thenN ?_ | refine thenX ?_ | refine thenR ?_ | refine blockN ?_ | refine blockR ?_ | refine blockX ?_ | refine blockM rfl ?_
    -- region 7
    refine AWp.rseq E_ok [0, 1, 4, 5, 7, 8, 9, 16] fun K hK => ?_
    simp [encInts_eq, h9]
    repeat refine ⟨by first | omega | assumption | (simp only [maxLen]; omega) | (intros; omega) | decide, ?_⟩
    refine hK _ ?_
    clear hK K
    refine AWp.ret ?_
    repeat first | refine thenN ?_ | refine thenX ?_ | refine thenR ?_ | refine blockN ?_ | refine blockR ?_ | refine blockX ?_ | refine blockM rfl ?_
    first | (simp [RetOk, RV, ← hs]; done) | (simp [RetOk, RV, ← hs, hi]; done) | (subst h16; simp [RetOk, RV, ← hs, hi])
end Go.Proofs.YtfaaceakmfokoaaDoor

set_option maxRecDepth 100000
set_option linter.unusedSimpArgs false
set_option linter.unusedVariables false
namespace Go.Proofs.YtfaaceakmfokoaaDoor
open Go Ab Pl
theorem slices_Contains_int_int (l : List Int) (v : Int) : ACalls E.P 32 [encInts l, .int .i64 v] (.d (.bool (l.contains v))) := by
  refine ACalls.intro E_ok Tryd.func32 rfl rfl Tryd.ntmps32 Tryd.results32 (Nat.le_of_ble_eq_true rfl) fun hok base S0 w0 => ?_
  -- region 0
  refine AWp.rseq E_ok [0, 1, 4] fun K hK => ?_
  simp [encInts_eq]
  repeat refine ⟨by first | omega | assumption | (simp only [maxLen]; omega) | (intros; omega) | decide, ?_⟩
  refine hK _ ?_
  clear hK K
  -- region 1
  refine AWp.rseq E_ok [0, 1, 4] fun K hK => ?_
  simp [encInts_eq]
  repeat refine ⟨by first | omega | assumption | (simp only [maxLen]; omega) | (intros; omega) | decide, ?_⟩
  refine meet.of (slices_Index_int_int _ _) ?_
  simp [encInts_eq]
  repeat refine ⟨by first | omega | assumption | (simp only [maxLen]; omega) | (intros; omega) | decide, ?_⟩
  refine hK _ ?_
  clear hK K
  refine AWp.ret ?_
  repeat first | refine thenN ?_ | refine thenX ?_ | refine thenR ?_ | refine blockN ?_ | refine blockR ?_ | refine blockX ?_ | refine blockM rfl ?_
  simp [RetOk, RV, idxE_has]
end Go.Proofs.YtfaaceakmfokoaaDoor

set_option maxRecDepth 100000
set_option linter.unusedSimpArgs false
set_option linter.unusedVariables false
namespace Go.Proofs.YtfaaceakmfokoaaDoor
open Go Ab Pl
theorem pattern_next (p : Pat) (k0 : Int) (hp : PatOk p) (hk0 : 0 ≤ k0 ∧ k0 ≤ 16000) : ACalls E.P 34 [encPat p, .int .i64 k0] (.tup [.int .i64 ((scan p k0).1.getD 0), .int .i64 ((scan p k0).2 + (if (scan p k0).1.isSome then 1 else 0)), .bool (scan p k0).1.isSome]) := by
  refine ACalls.intro E_ok Tryd.func34 rfl rfl Tryd.ntmps34 Tryd.results34 (Nat.le_of_ble_eq_true rfl) fun hok base S0 w0 => ?_
  -- region 0
  refine AWp.rseq E_ok [0, 1, 2, 4, 5, 6, 7, 8, 9, 20, 33] fun K hK => ?_
  simp [encPat_eq, encInts_eq, monthD_1, monthD_2]
  try simp (disch := omega) only [wrap_i64]
  repeat refine ⟨by first | omega | assumption | (simp only [maxLen]; omega) | (intros; omega) | decide, ?_⟩
  refine hK _ ?_
  clear hK K
  -- region 1
  refine AWp.rseq E_ok [0, 1, 2, 4, 5, 6, 7, 8, 9, 20, 33] fun K hK => ?_
  simp [encPat_eq, encInts_eq, monthD_1, monthD_2]
  try simp (disch := omega) only [wrap_i64]
  repeat refine ⟨by first | omega | assumption | (simp only [maxLen]; omega) | (intros; omega) | decide, ?_⟩
  refine hK _ ?_
  clear hK K
  refine AWp.block ?_
  refine AWp.loop (ι := { k : Int // k0 ≤ k ∧ k ≤ 16000 ∧ scan p k = scan p k0 }) (fun x => match x with | ⟨k, hk, hk2, hsc⟩ => [(0, T.val (D.agg [D.int IntKind.i64 p.start, D.int IntKind.i64 p.every, D.int IntKind.i64 p.per, D.int IntKind.i64 p.first, (D.int IntKind.i64 0).slice (List.map (D.int IntKind.i64) p.skip), (D.int IntKind.i64 0).slice (List.map (D.int IntKind.i64) p.dbl)])), (1, T.val (D.int IntKind.i64 k0)), (2, T.box [C.d (D.int IntKind.i64 p.start), C.d (D.int IntKind.i64 p.every), C.d (D.int IntKind.i64 p.per), C.d (D.int IntKind.i64 p.first), C.d ((D.int IntKind.i64 0).slice (List.map (D.int IntKind.i64) p.skip)), C.d ((D.int IntKind.i64 0).slice (List.map (D.int IntKind.i64) p.dbl))]), (7, T.val (.int .i64 k))]) (fun x => match x with | ⟨k, hk, hk2, hsc⟩ => (16001 - k).toNat) ⟨k0, by omega, by omega, rfl⟩ ?_ ?_
  · simp [Weak, TW, encPat_eq, encInts_eq, monthD_1, monthD_2]
  rintro ⟨k, hk, hk2, hsc⟩
  simp only
  try simp only at hk
  try simp only at hk2
  try simp only at hsc
  refine AWp.seq ?_
  refine AWp.block ?_
  -- region 3
  refine AWp.rseq E_ok [0, 1, 2, 4, 5, 6, 7, 8, 9, 20, 33] fun K hK => ?_
  simp [encPat_eq, encInts_eq, monthD_1, monthD_2]
  try simp (disch := omega) only [wrap_i64]
  repeat refine ⟨by first | omega | assumption | (simp only [maxLen]; omega) | (intros; omega) | decide, ?_⟩
  refine meet.of (pattern_nominal p k hp (by omega)) ?_
  simp [encPat_eq, encInts_eq, monthD_1, monthD_2]
  try simp (disch := omega) only [wrap_i64]
  repeat refine ⟨by first | omega | assumption | (simp only [maxLen]; omega) | (intros; omega) | decide, ?_⟩
  refine hK _ ?_
  clear hK K
  refine AWp.seq ?_
  -- region 4
  refine AWp.rseq E_ok [0, 1, 2, 4, 5, 6, 7, 8, 9, 20, 33] fun K hK => ?_
  simp [encPat_eq, encInts_eq, monthD_1, monthD_2]
  try simp (disch := omega) only [wrap_i64]
  repeat refine ⟨by first | omega | assumption | (simp only [maxLen]; omega) | (intros; omega) | decide, ?_⟩
  refine hK _ ?_
  clear hK K
  refine AWp.cond rfl (fun h20 => ?_) (fun h20 => ?_)
  · try simp at h20
    have hb := scan_none hk2 (nom_no (by simpa using h20))
    -- region 5
    refine AWp.rseq E_ok [0, 1, 2, 4, 5, 6, 7, 8, 9, 20, 33] fun K hK => ?_
    simp [encPat_eq, encInts_eq, monthD_1, monthD_2]
    try simp (disch := omega) only [wrap_i64]
    repeat refine ⟨by first | omega | assumption | (simp only [maxLen]; omega) | (intros; omega) | decide, ?_⟩
    refine hK _ ?_
    clear hK K
    refine AWp.ret ?_
    repeat first | refine thenN ?_ | refine thenX ?_ | refine thenR ?_ | refine blockN ?_ | refine blockR ?_ | refine blockX ?_ | refine blockM rfl ?_
    rw [← hsc, hb]; simp [RetOk, RV, RVs]
  · try simp at h20
    have hn := nom_yes (p := p) (k := k) (by simpa using h20)
    have hlt := nom_lt hp hn
    refine AWp.skip ?_
    repeat first | refine thenN ?_ | refine thenX ?_ | refine thenR ?_ | refine blockN ?_ | refine blockR ?_ | refine blockX ?_ | refine blockM rfl ?_
    -- region 6
    refine AWp.rseqQ E_ok mixed [0, 1, 2, 4, 5, 6, 7, 8, 9, 20, 33] (by kernel_rfl) fun K hK => ?_
    simp [encPat_eq, encInts_eq, monthD_1, monthD_2]
    try simp (disch := omega) only [wrap_i64]
    repeat refine ⟨by first | omega | assumption | (simp only [maxLen]; omega) | (intros; omega) | decide, ?_⟩
    refine meet.of (pattern_month _) ?_
    simp [encPat_eq, encInts_eq, monthD_1, monthD_2]
    try simp (disch := omega) only [wrap_i64]
    repeat refine ⟨by first | omega | assumption | (simp only [maxLen]; omega) | (intros; omega) | decide, ?_⟩
    refine meet.of (slices_Contains_int_int p.skip _) ?_
    simp [encPat_eq, encInts_eq, monthD_1, monthD_2]
    try simp (disch := omega) only [wrap_i64]
    repeat refine ⟨by first | omega | assumption | (simp only [maxLen]; omega) | (intros; omega) | decide, ?_⟩
    refine hK _ ?_
    clear hK K
    refine AWp.cond rfl (fun h33 => ?_) (fun h33 => ?_)
    · try simp at h33
      have hb := scan_some hk2 hn (by rcases h33 with h | h <;> simp [h])
      -- region 7
      refine AWp.rseq E_ok [0, 1, 2, 4, 5, 6, 7, 8, 9, 20, 33] fun K hK => ?_
      simp [encPat_eq, encInts_eq, monthD_1, monthD_2]
      try simp (disch := omega) only [wrap_i64]
      repeat refine ⟨by first | omega | assumption | (simp only [maxLen]; omega) | (intros; omega) | decide, ?_⟩
      refine hK _ ?_
      clear hK K
      refine AWp.ret ?_
      repeat first | refine thenN ?_ | refine thenX ?_ | refine thenR ?_ | refine blockN ?_ | refine blockR ?_ | refine blockX ?_ | refine blockM rfl ?_
      rw [← hsc, hb]; simp [RetOk, RV, RVs]
    · try simp at h33
      have hb := scan_skip hk2 hn (by simpa using h33.2)
      refine AWp.skip ?_
      repeat first | refine thenN ?_ | refine thenX ?_ | refine thenR ?_ | refine blockN ?_ | refine blockR ?_ | refine blockX ?_ | refine blockM rfl ?_
      -- region 2
      refine AWp.rend E_ok [0, 1, 2, 4, 5, 6, 7, 8, 9, 20, 33] fun K hK => ?_
      simp [encPat_eq, encInts_eq, monthD_1, monthD_2]
      try simp (disch := omega) only [wrap_i64]
      repeat refine ⟨by first | omega | assumption | (simp only [maxLen]; omega) | (intros; omega) | decide, ?_⟩
      refine hK _ ?_
      clear hK K
      repeat first | refine thenN ?_ | refine thenX ?_ | refine thenR ?_ | refine blockN ?_ | refine blockR ?_ | refine blockX ?_ | refine blockM rfl ?_
      refine ⟨⟨k + 1, by omega, by omega, hb ▸ hsc⟩, ?_, by simp only; omega⟩
      simp [Weak, TW]
end Go.Proofs.YtfaaceakmfokoaaDoor

set_option maxRecDepth 100000
set_option linter.unusedSimpArgs false
set_option linter.unusedVariables false
namespace Go.Proofs.YtfaaceakmfokoaaDoor
open Go Ab Pl
open Go.RowKit Go.Shelf
attribute [local go_sem] Oper.semAt_some

/-- a pattern's value -/
abbrev pvP (p : Pat) (s1 s2 : Value) : Array Value := #[.int .i64 p.start, .int .i64 p.every, .int .i64 p.per, .int .i64 p.first, s1, s2]
/-- what the walks know of the world in which they began -/
structure PW (p : Pat) (s1 s2 : Value) (S : Nat → Nat → Prop) (w : World) : Prop where
  ok : PatOk p
  amb : Amb.G w S
  lt : ∀ b o, S b o → b < w.heap.size
  rep : Rep w S (encPat p) (.agg (pvP p s1 s2))
theorem PW.mono {p : Pat} {s1 s2 : Value} {S : Nat → Nat → Prop} {w w' : World} (h : PW p s1 s2 S w) (hW : Below w.heap.size w w') : PW p s1 s2 S w' :=
  ⟨h.ok, Amb.mono h.amb hW (fun _ _ _ hs => hs), fun b o hs => Nat.lt_of_lt_of_le (h.lt b o hs) hW.size, h.rep.mono (fun b o hs => hW.cell (h.lt b o hs)) (fun _ _ hs => hs)⟩
def kN (s : Option Int × Int) : Int := s.2 + (if s.1.isSome = true then 1 else 0)
theorem next_c {p : Pat} {s1 s2 : Value} {S : Nat → Nat → Prop} {W : World} (h : PW p s1 s2 S W) {k : Int} (hk : 0 ≤ k ∧ k ≤ 16000) :
    Calls Tryd.prog 34 #[.agg (pvP p s1 s2), .int .i64 k] W fun e W' => e = .returned (.tuple #[.int .i64 ((scan p k).1.getD 0), .int .i64 (kN (scan p k)), .bool (scan p k).1.isSome]) ∧ Below W.heap.size W W' := by
  obtain ⟨_, hc⟩ := pattern_next p k h.ok hk
  refine (hc W S #[.agg (pvP p s1 s2), .int .i64 k] h.amb h.lt rfl (fun i d hd => ?_)).mono ?_
  · match i, hd with
    | 0, hd => simp at hd; subst hd; exact h.rep
    | 1, hd => simp at hd; subst hd; exact .int _ _ (by simp; omega)
    | i + 2, hd => simp at hd
  · rintro e w' ⟨v, rfl, hb, arr, rfl, hsz, hre⟩
    have h0 := hre 0 _ rfl
    have h1 := hre 1 _ rfl
    have h2 := hre 2 _ rfl
    obtain ⟨l⟩ := arr
    match l, hsz with
    | [a, b, c], _ =>
      simp at h0 h1 h2
      cases h0; cases h1; cases h2
      exact ⟨rfl, hb⟩
theorem rep_len {w : World} {S : Nat → Nat → Prop} {l : List Int} {v : Value} (h : Rep w S (encInts l) v) : ∃ a c, v = .slice a l.length c := by
  unfold encInts at h
  generalize hm : l.map (D.int IntKind.i64) = es at h
  have hl : l.length = es.length := by rw [← hm]; simp
  cases h with
  | nil z a cap h => exact ⟨a, cap, by rw [hl]; rfl⟩
  | slice z sz hz es b off cap u h1 h2 h3 h4 h5 => exact ⟨_, cap, by rw [hl]⟩
theorem PW.skip {p : Pat} {s1 s2 : Value} {S : Nat → Nat → Prop} {w : World} (h : PW p s1 s2 S w) : Rep w S (encInts p.skip) s1 := by
  have := h.rep
  rw [encPat_eq] at this
  cases this with
  | agg cs vs hl hf h => exact h 4 _ rfl
theorem PW.dbl {p : Pat} {s1 s2 : Value} {S : Nat → Nat → Prop} {w : World} (h : PW p s1 s2 S w) : Rep w S (encInts p.dbl) s2 := by
  have := h.rep
  rw [encPat_eq] at this
  cases this with
  | agg cs vs hl hf h => exact h 5 _ rfl
theorem month_c {W : World} {S : Nat → Nat → Prop} (ha : Amb.G W S) (hS : ∀ b o, S b o → b < W.heap.size) {d : Int} (hd : 0 ≤ d ∧ d ≤ 109572) :
    Calls Tryd.prog 35 #[.int .i64 d] W fun e W' => e = .returned (.int .i64 (monthD d)) ∧ Below W.heap.size W W' := by
  obtain ⟨_, hc⟩ := pattern_month d
  refine (hc W S #[.int .i64 d] ha hS rfl (fun i c hi => ?_)).mono ?_
  · match i, hi with
    | 0, hi => simp at hi; subst hi; exact .int _ _ (by simp; omega)
    | i + 1, hi => simp at hi
  · rintro e w' ⟨v, rfl, hb, hre⟩
    cases hre
    exact ⟨rfl, hb⟩
theorem contains_c {W : World} {S : Nat → Nat → Prop} (ha : Amb.G W S) (hS : ∀ b o, S b o → b < W.heap.size) {l : List Int} {v : Value} (hr : Rep W S (encInts l) v) {d : Int} (hd : 0 ≤ d ∧ d ≤ 109572) :
    Calls Tryd.prog 32 #[v, .int .i64 d] W fun e W' => e = .returned (.bool (l.contains d)) ∧ Below W.heap.size W W' := by
  obtain ⟨_, hc⟩ := slices_Contains_int_int l d
  refine (hc W S #[v, .int .i64 d] ha hS rfl (fun i c hi => ?_)).mono ?_
  · match i, hi with
    | 0, hi => simp at hi; subst hi; exact hr
    | 1, hi => simp at hi; subst hi; exact .int _ _ (by simp; omega)
    | i + 2, hi => simp at hi
  · rintro e w' ⟨v, rfl, hb, hre⟩
    cases hre
    exact ⟨rfl, hb⟩
def Hid (P : Prop) : Prop := P
/-- the iterator's box -/
def xB (B : Nat) (W : World) (vol num last day : Int) : Prop := W.heap[B]? = some (.cells #[.int .i64 vol, .int .i64 num, .int .i64 last, .int .i64 day, .int .i64 1, .int .i64 0] 30)
theorem set_other {W : World} {p : Addr} {v : Value} {k : Nat} (h : k ≠ p.block) : (W.setCell p v).heap[k]? = W.heap[k]? := by
  simp [World.setCell, Array.getElem?_modify, Ne.symm h]
theorem set_turn {B : Nat} {W : World} (i : Nat) (v : Value) : Turn B W (W.setCell ⟨B, i, none⟩ v) :=
  ⟨rfl, rfl, rfl, by simp [World.setCell], fun k _ hk => set_other hk⟩
theorem xB.set0 {B : Nat} {W : World} {vol num last day : Int} (h : xB B W vol num last day) (v : Int) : xB B (W.setCell ⟨B, 0, none⟩ (.int .i64 v)) v num last day := by
  unfold xB at *; simp [World.setCell, Array.getElem?_modify, h]
theorem xB.set1 {B : Nat} {W : World} {vol num last day : Int} (h : xB B W vol num last day) (v : Int) : xB B (W.setCell ⟨B, 1, none⟩ (.int .i64 v)) vol v last day := by
  unfold xB at *; simp [World.setCell, Array.getElem?_modify, h]
theorem xB.set2 {B : Nat} {W : World} {vol num last day : Int} (h : xB B W vol num last day) (v : Int) : xB B (W.setCell ⟨B, 2, none⟩ (.int .i64 v)) vol num v day := by
  unfold xB at *; simp [World.setCell, Array.getElem?_modify, h]
theorem xB.set3 {B : Nat} {W : World} {vol num last day : Int} (h : xB B W vol num last day) (v : Int) : xB B (W.setCell ⟨B, 3, none⟩ (.int .i64 v)) vol num last v := by
  unfold xB at *; simp [World.setCell, Array.getElem?_modify, h]
theorem xB.cells {B : Nat} {A : World} {vol num last day : Int} (h : xB B A vol num last day) : A.cell? ⟨B, 0, none⟩ = some (.int .i64 vol) ∧ A.cell? ⟨B, 1, none⟩ = some (.int .i64 num) ∧ A.cell? ⟨B, 2, none⟩ = some (.int .i64 last) ∧ A.cell? ⟨B, 3, none⟩ = some (.int .i64 day) ∧ A.cell? ⟨B, 4, none⟩ = some (.int .i64 1) ∧ A.cell? ⟨B, 5, none⟩ = some (.int .i64 0) := by
  unfold xB at h; simp [World.cell?, h]
theorem xB.froz {B : Nat} {A : World} {vol num last day : Int} (h : xB B A vol num last day) : A.frozen? ⟨B, 0, none⟩ = false ∧ A.frozen? ⟨B, 1, none⟩ = false ∧ A.frozen? ⟨B, 2, none⟩ = false ∧ A.frozen? ⟨B, 3, none⟩ = false := by
  unfold xB at h; simp [World.frozen?, h]
theorem xB.turn {B : Nat} {A A' : World} {vol num last day : Int} (h : xB B A vol num last day) (hb : A'.heap[B]? = A.heap[B]?) : xB B A' vol num last day := by
  unfold xB at *; rw [hb]; exact h
set_option maxHeartbeats 40000000 in
theorem iss1 (F : Fence) (hF : F = Fence.wide) (p : Pat) (s1 : Value) (a2 : Option Addr) (c2 : Nat) (S : Nat → Nat → Prop) (w0 : World) (hw : PW p s1 (.slice a2 p.dbl.length c2) S w0) (l B Bp : Nat) (J Jx : List Iss → World → Prop)
    (hJ : ∀ s A A', J s A → Turn B A A' → J s A') (hJx : ∀ s A A', Jx s A → Turn B A A' → Jx s A')
    (hY : ∀ pre x W1, J pre W1 → B < W1.heap.size → pre ++ [x] <+: allI p → YieldAt F 1 Tryd.prog l #[.agg #[.int .i64 x.vol, .int .i64 x.num, .int .i64 x.last, .int .i64 x.day, .int .i64 x.st, .int .i64 x.item]] W1 fun e W' =>
      (e = .returned (.bool true) ∧ J (pre ++ [x]) W' ∧ Keep w0.heap.size (fun k => k = Bp ∨ k = B) W1 W') ∨ (e = .returned (.bool false) ∧ Jx (pre ++ [x]) W'))
    (W : World) (hB : W.heap.size = B) (h0 : Below w0.heap.size w0 W) (hBp : W.heap[Bp]? = some (.cells (pvP p s1 (.slice a2 p.dbl.length c2)) 24)) (hJ0 : J [] W) :
    CallsIn F 2 Tryd.prog 33 #[.func (.yield l) #[] #[], .pointer (some ⟨Bp, 0, none⟩)] W fun e W' => (∃ v, e = .returned v) ∧ (J (allI p) W' ∨ ∃ pre, pre <+: allI p ∧ Jx pre W') := by
  have hro : F.round = none := by rw [hF]; rfl
  refine callsIn_of_wp Tryd.func33 rfl (by rw [hF]; trivial) ?_ hro
  simp only [Tryd.ntmps33, List.size_toArray, List.length_cons, List.length_nil, Nat.reduceAdd, Nat.reduceSub, Array.replicate_succ, Array.replicate_zero, List.push_toArray, List.append_toArray, List.nil_append, List.cons_append]
  subst hF
  have hlt : Bp < W.heap.size := (Array.getElem?_eq_some_iff.1 hBp).1
  have cp : ∀ {A : World}, A.heap[Bp]? = W.heap[Bp]? → A.cell? ⟨Bp, 0, none⟩ = some (.int .i64 p.start) ∧ A.cell? ⟨Bp, 1, none⟩ = some (.int .i64 p.every) ∧ A.cell? ⟨Bp, 2, none⟩ = some (.int .i64 p.per) ∧ A.cell? ⟨Bp, 3, none⟩ = some (.int .i64 p.first) ∧ A.cell? ⟨Bp, 4, none⟩ = some s1 ∧ A.cell? ⟨Bp, 5, none⟩ = some (.slice a2 p.dbl.length c2) := fun {_} h => by
    rw [hBp] at h; simp [World.cell?, h, pvP]
  obtain ⟨p0, p1, p2, p3, p4, p5⟩ := cp (A := W) rfl
  have q : ∀ X, (W.alloc X).heap[Bp]? = W.heap[Bp]? := fun X => Below.heap_alloc W X Bp hlt
  have q0 := fun X => (cp (q X)).1
  have q1 := fun X => (cp (q X)).2.1
  have q2 := fun X => (cp (q X)).2.2.1
  have q3 := fun X => (cp (q X)).2.2.2.1
  have q4 := fun X => (cp (q X)).2.2.2.2.1
  have q5 := fun X => (cp (q X)).2.2.2.2.2
  have hwa : ∀ X, PW p s1 (.slice a2 p.dbl.length c2) S (W.alloc X) := fun X => (hw.mono h0).mono ((Below.refl _ W).alloc (Nat.le_refl _) X)
  gi_wp2_with (refine ⟨trivial, ?_⟩; gi_at_call 34; refine (callsIn_wide.2 (next_c (hwa _) (k := 0) ⟨by omega, by omega⟩)).mono ?_; rintro e w1 ⟨rfl, hb1⟩)
  have hB1 : Turn B W w1 := (Turn.alloc _).trans (Turn.of_below hb1)
  have hp1 : w1.heap[Bp]? = W.heap[Bp]? := hB1.block Bp hlt (by omega)
  have hx1 : xB B w1 p.first 1 0 0 := by
    unfold xB
    rw [hb1.block B (by simp [← hB])]
    rw [← hB]; exact World.alloc_heap_new W _
  have hd1 : Below w0.heap.size w0 w1 := h0.trans (hB1.below h0.size (by rw [← hB]; exact h0.size))
  gi_loopw [4, 5, 6, 7] (fun v4 v5 v6 v7 wr => ∃ (pre : List Iss) (f : Nat) (vol num last day k' : Int) (s : Option Int × Int), v4 = .int .i64 (s.1.getD 0) ∧ v5 = .int .i64 k' ∧ v6 = .bool s.1.isSome ∧ v7 = .int .i64 (5000 - (f : Int)) ∧
      allI p = pre ++ issF p f vol num s ∧ J pre wr ∧ xB B wr vol num last day ∧ wr.heap[Bp]? = W.heap[Bp]? ∧ Below w0.heap.size w0 wr ∧ f ≤ 5000 ∧ (1 ≤ vol ∧ vol ≤ 10000) ∧ (1 ≤ num ∧ num ≤ p.per) ∧ (∀ d, s.1 = some d → (0 ≤ d ∧ d ≤ 109572) ∧ 0 ≤ s.2 ∧ s.2 < 16000) ∧ k' = kN s)
    (fun v4 v5 v6 v7 wr => (5000 - intOf v7).toNat)
  case atStart =>
    have hk := hw.ok
    exact ⟨[], 5000, p.first, 1, 0, 0, _, scan p 0, rfl, rfl, rfl, rfl, rfl, hJ _ _ _ hJ0 hB1, hx1, hp1, hd1, by omega, by have := hk.2.2.2; omega, by have := hk.2.2.1; omega, fun d hd => by have := scan_at hk (by omega) (by omega) hd; omega, rfl⟩
  case round =>
    obtain ⟨pre, f, vol, num, last, day, k', s, rfl, rfl, rfl, rfl, hx, hJs, hxb, hpb, hbw, hf, hvol, hnum, hs, hk'⟩ := hrel
    have fin : issF p f vol num s = [] → Hid (J (allI p) wr) := fun h => by show J (allI p) wr; rw [hx, h, List.append_nil]; exact hJs
    replace hx : Hid (allI p = pre ++ issF p f vol num s) := hx
    have hne : ¬ Bp = B := by omega
    have hne' : ¬ B = Bp := by omega
    obtain ⟨x0, x1, x2, x3, x4, x5⟩ := hxb.cells
    obtain ⟨f0, f1, f2, f3⟩ := hxb.froz
    clear p0 p1 p2 p3 p4 p5 q0 q1 q2 q3 q4 q5 q hwa
    obtain ⟨p0, p1, p2, p3, p4, p5⟩ := cp (A := wr) hpb
    match f, s with
    | 0, s =>
      clear hx
      gi_wp2
      go_end0
      exact ⟨⟨_, rfl⟩, .inl (fin rfl)⟩
    | f + 1, (none, k) =>
      clear hx
      have h5 : (5000 : Int) - ((f + 1 : Nat) : Int) < 5000 := by omega
      gi_wp2
      go_end0
      exact ⟨⟨_, rfl⟩, .inl (fin (issF_none _ _ _ _ _))⟩
    | f + 1, (some dy, k) =>
      have h5 : (5000 : Int) - ((f + 1 : Nat) : Int) < 5000 := by omega
      obtain ⟨hdy, hk0, hk1⟩ := hs dy rfl
      obtain rfl : k' = k + 1 := hk'
      clear hs
      simp only at hk0 hk1
      by_cases hv : vol ≤ 9999
      · have hx2 := (hxb.set3 dy).set2 0
        have ht2 : Turn B wr ((wr.setCell ⟨B, 3, none⟩ (.int .i64 dy)).setCell ⟨B, 2, none⟩ (.int .i64 0)) := (set_turn 3 _).trans (set_turn 2 _)
        have hlr : Bp < wr.heap.size := (Array.getElem?_eq_some_iff.1 (hpb.trans hBp)).1
        gi_wp2
        generalize (wr.setCell ⟨B, 3, none⟩ (.int .i64 dy)).setCell ⟨B, 2, none⟩ (.int .i64 0) = W2 at hx2 ht2 ⊢
        have hn2 : w0.heap.size ≤ B := by rw [← hB]; exact h0.size
        have hp2 : W2.heap[Bp]? = W.heap[Bp]? := (ht2.block Bp hlr (by omega)).trans hpb
        have hw2 : Below w0.heap.size w0 W2 := hbw.trans (ht2.below hbw.size hn2)
        have hg2 := hw.mono hw2
        clear x0 x1 x2 x3 x4 x5 f0 f1 f2 f3 p0 p1 p2 p3 p4 p5
        obtain ⟨x0, x1, x2, x3, x4, x5⟩ := hx2.cells
        obtain ⟨f0, f1, f2, f3⟩ := hx2.froz
        obtain ⟨p0, p1, p2, p3, p4, p5⟩ := cp hp2
        have k1 := cell_regrown x1
        have k2 := cell_regrown p2
        have k5 := cell_regrown p5
        have cM : ∀ d os, Calls Tryd.prog 35 #[.int .i64 dy] (Go.Sort.grow (redrawn W2 d) os) fun e w'' => e = .returned (.int .i64 (monthD dy)) ∧ ∃ p : Regrown, w'' = Go.Sort.grow (redrawn W2 p.d) p.os := fun d os =>
          Calls.regrown_of (month_c (hg2.mono (below_regrown W2 d os)).amb (hg2.mono (below_regrown W2 d os)).lt hdy)
        have cC : ∀ d os, Calls Tryd.prog 32 #[.slice a2 p.dbl.length c2, .int .i64 (monthD dy)] (Go.Sort.grow (redrawn W2 d) os) fun e w'' => e = .returned (.bool (p.dbl.contains (monthD dy))) ∧ ∃ p : Regrown, w'' = Go.Sort.grow (redrawn W2 p.d) p.os := fun d os =>
          Calls.regrown_of (contains_c (hg2.mono (below_regrown W2 d os)).amb (hg2.mono (below_regrown W2 d os)).lt (hg2.mono (below_regrown W2 d os)).dbl (by have := monthD_any dy; omega))
        by_cases hd0 : 0 < p.dbl.length
        · have hd1 : (0 : Int) < (p.dbl.length : Int) := by omega
          cases hcc : p.dbl.contains (monthD dy) with
          | true =>
            rw [hcc] at cC
            by_cases hnp : num < p.per
            · cases hso : (scan p (k + 1)).1.isSome with
              | false =>
                have hdb : dblB p num dy (scan p (k + 1)) = false := by unfold dblB; rw [hso]; simp
                have hi : Hid (allI p = (pre ++ [Iss.mk vol num 0 dy 1 0]) ++ issF p f (volN p vol (num + 1)) (numN p (num + 1)) (scan p (k + 1))) := by show allI p = _; rw [show allI p = _ from hx, issF_one p f vol num dy k hv hdb]; simp
                have hpre : pre ++ [Iss.mk vol num 0 dy 1 0] <+: allI p := ⟨_, Eq.symm hi⟩
                refine wpIn_wide.2 (wp_region_quiet_below (show Tryd.prog.follows .mixedOrders = true from mixed) (by kernel_rfl) ?_)
                repeat (quiet_step (first | exact cM _ _ | exact cC _ _))
                refine wpQuiet_nil ?_
                intro _ hw'
                obtain ⟨⟨dq, osq⟩, hw''⟩ := hw'
                subst hw''
                have hb3 := below_regrown W2 dq osq
                generalize Go.Sort.grow (redrawn W2 dq) osq = W3 at hb3 ⊢
                have hg3 := hg2.mono hb3
                have hlB : B < W2.heap.size := (Array.getElem?_eq_some_iff.1 hx2).1
                have hlP : Bp < W2.heap.size := (Array.getElem?_eq_some_iff.1 (hp2.trans hBp)).1
                have hx3 := hx2.turn (hb3.block B hlB)
                have hp3 := (hb3.block Bp hlP).trans hp2
                have ht3 := ht2.trans (Turn.of_below hb3)
                have hper : p.per ≤ 366 := hw.ok.2.2.1.2
                clear k1 k2 k5 cM cC x0 x1 x2 x3 x4 x5 f0 f1 f2 f3 p0 p1 p2 p3 p4 p5
                obtain ⟨x0, x1, x2, x3, x4, x5⟩ := hx3.cells
                obtain ⟨p0, p1, p2, p3, p4, p5⟩ := cp hp3
                have a4 : ∀ w4, Below W3.heap.size W3 w4 → xB B w4 vol num 0 dy ∧ w4.heap[Bp]? = W.heap[Bp]? ∧ Turn B wr w4 ∧ B < w4.heap.size ∧ Bp < w4.heap.size := fun w4 hb4 =>
                  ⟨hx3.turn (hb4.block B (Nat.lt_of_lt_of_le hlB hb3.size)), (hb4.block Bp (Nat.lt_of_lt_of_le hlP hb3.size)).trans hp3, ht3.trans (Turn.of_below hb4), Nat.lt_of_lt_of_le hlB (Nat.le_trans hb3.size hb4.size), Nat.lt_of_lt_of_le hlP (Nat.le_trans hb3.size hb4.size)⟩
                have hn1 := callsIn_wide (n := 1).2 (next_c hg3 (k := k + 1) ⟨by omega, by omega⟩)
                gi_wp2_with (refine ⟨trivial, ?_⟩; gi_at_call 34; refine hn1.mono ?_; clear hn1; rintro e w4 ⟨rfl, hb4⟩; obtain ⟨hx4, hp4, ht4, hl4, hm4⟩ := a4 w4 hb4; obtain ⟨y0, y1, y2, y3, y4, y5⟩ := hx4.cells; obtain ⟨fn, tmps, assign, body, hy, hR⟩ := hY pre (Iss.mk vol num 0 dy 1 0) w4 (hJ _ _ _ hJs ht4) hl4 hpre)
                refine hR.mono ?_
                rintro e W5 (⟨rfl, hJ5, hk5⟩ | ⟨rfl, hJx5⟩)
                · have hx5 := hx4.turn (hk5.same B (.inr rfl) hl4)
                  have hp5 := (hk5.same Bp (.inl rfl) hm4).trans hp4
                  have hw5 : Below w0.heap.size w0 W5 := (hbw.trans (ht4.below hbw.size hn2)).trans hk5.below
                  clear x0 x1 x2 x3 x4 x5 p0 p1 p2 p3 p4 p5 y0 y1 y2 y3 y4 y5
                  obtain ⟨x0, x1, x2, x3, x4, x5⟩ := hx5.cells
                  obtain ⟨g0, g1, g2, g3⟩ := hx5.froz
                  obtain ⟨p0, p1, p2, p3, p4, p5⟩ := cp hp5
                  have m0 : max num 0 = num := by omega
                  have m1 : wrap64 (num + 1) = num + 1 := by unfold wrap64; omega
                  have m2 : wrap64 (vol + 1) = vol + 1 := by unfold wrap64; omega
                  gi_wp2
                  · have hc : ¬ p.per < num + 1 := by omega
                    have e1 : volN p vol (num + 1) = vol := if_neg hc
                    have e2 : numN p (num + 1) = num + 1 := if_neg hc
                    rw [e1, e2] at hi
                    replace hi : allI p = _ := hi
                    refine ⟨⟨pre ++ [Iss.mk vol num 0 dy 1 0], f, vol, num + 1, 0, dy, _, scan p (k + 1), by first | rfl | rw [hso], by first | rfl | rw [hso], by first | rfl | rw [hso], by congr 1; omega, hi, hJ _ _ _ hJ5 (set_turn 1 _), hx5.set1 _, ?_, ?_, by omega, by omega, by omega, fun d hd => ?_, rfl⟩, by simp [intOf]; omega⟩
                    · exact (set_other (by simpa using hne)).trans hp5
                    · exact hw5.trans ((set_turn 1 _).below hw5.size hn2)
                    · have := scan_at hw.ok (by omega) (by omega) hd; omega
                · gi_wp2
                  refine bodyPost_ret (results_none rfl _ _ _) rfl ?_
                  exact ⟨⟨_, rfl⟩, .inr ⟨_, hpre, hJx5⟩⟩
              | true =>
                obtain ⟨d2, k2, hsc⟩ : ∃ d2 k2, scan p (k + 1) = (some d2, k2) := by
                  cases hh : scan p (k + 1) with
                  | mk a b => cases a with
                    | none => rw [hh] at hso; cases hso
                    | some d2 => exact ⟨d2, b, rfl⟩
                have hdb : dblB p num dy (scan p (k + 1)) = true := by unfold dblB; rw [hcc, hsc]; simp [hnp]
                have hat := scan_at hw.ok (k := k + 1) (d := d2) (by omega) (by omega) (by rw [hsc])
                rw [hsc] at hat
                simp only at hat
                have hi : Hid (allI p = (pre ++ [Iss.mk vol num (num + 1) dy 1 0]) ++ issF p f (volN p vol (num + 1 + 1)) (numN p (num + 1 + 1)) (scan p (k2 + 1))) := by show allI p = _; rw [show allI p = _ from hx, issF_dbl p f vol num dy k hv hdb, hsc, show num + 2 = num + 1 + 1 by omega]; simp
                have hpre : pre ++ [Iss.mk vol num (num + 1) dy 1 0] <+: allI p := ⟨_, Eq.symm hi⟩
                refine wpIn_wide.2 (wp_region_quiet_below (show Tryd.prog.follows .mixedOrders = true from mixed) (by kernel_rfl) ?_)
                repeat (quiet_step (first | exact cM _ _ | exact cC _ _))
                refine wpQuiet_nil ?_
                intro _ hw'
                obtain ⟨⟨dq, osq⟩, hw''⟩ := hw'
                subst hw''
                have hb3 := below_regrown W2 dq osq
                generalize Go.Sort.grow (redrawn W2 dq) osq = W3 at hb3 ⊢
                have hg3 := hg2.mono hb3
                have hlB : B < W2.heap.size := (Array.getElem?_eq_some_iff.1 hx2).1
                have hlP : Bp < W2.heap.size := (Array.getElem?_eq_some_iff.1 (hp2.trans hBp)).1
                have hx3 := hx2.turn (hb3.block B hlB)
                have hp3 := (hb3.block Bp hlP).trans hp2
                have ht3 := ht2.trans (Turn.of_below hb3)
                have hper : p.per ≤ 366 := hw.ok.2.2.1.2
                clear k1 k5 cM cC x0 x1 x2 x3 x4 x5 f0 f1 f2 f3 p0 p1 p2 p3 p4 p5
                obtain ⟨x0, x1, x2, x3, x4, x5⟩ := hx3.cells
                obtain ⟨p0, p1, p2, p3, p4, p5⟩ := cp hp3
                have a4 : ∀ w4, Below W3.heap.size W3 w4 → xB B w4 vol num 0 dy ∧ w4.heap[Bp]? = W.heap[Bp]? ∧ Turn B wr w4 ∧ B < w4.heap.size ∧ Bp < w4.heap.size := fun w4 hb4 =>
                  ⟨hx3.turn (hb4.block B (Nat.lt_of_lt_of_le hlB hb3.size)), (hb4.block Bp (Nat.lt_of_lt_of_le hlP hb3.size)).trans hp3, ht3.trans (Turn.of_below hb4), Nat.lt_of_lt_of_le hlB (Nat.le_trans hb3.size hb4.size), Nat.lt_of_lt_of_le hlP (Nat.le_trans hb3.size hb4.size)⟩
                have m3 : wrap64 (num + 1) = num + 1 := by unfold wrap64; omega
                have hn1 : CallsIn Fence.wide 1 Tryd.prog 34 #[.agg (pvP p s1 (.slice a2 p.dbl.length c2)), .int .i64 (k + 1)] W3 fun e W' => e = .returned (.tuple #[.int .i64 d2, .int .i64 (k2 + 1), .bool true]) ∧ Below W3.heap.size W3 W' := by
                  have := callsIn_wide (n := 1).2 (next_c hg3 (k := k + 1) ⟨by omega, by omega⟩)
                  rw [hsc] at this
                  exact this
                have a5 : ∀ w3, xB B w3 vol num 0 dy → w3.heap[Bp]? = W.heap[Bp]? → Turn B wr w3 → CallsIn Fence.wide 1 Tryd.prog 34 #[.agg (pvP p s1 (.slice a2 p.dbl.length c2)), .int .i64 (k2 + 1)] (w3.setCell ⟨B, 2, none⟩ (.int .i64 (num + 1))) fun e W' =>
                    e = .returned (.tuple #[.int .i64 ((scan p (k2 + 1)).1.getD 0), .int .i64 (kN (scan p (k2 + 1))), .bool (scan p (k2 + 1)).1.isSome]) ∧ Below (w3.setCell ⟨B, 2, none⟩ (.int .i64 (num + 1))).heap.size (w3.setCell ⟨B, 2, none⟩ (.int .i64 (num + 1))) W' := fun w3 _ _ hta =>
                  callsIn_wide.2 (next_c (hw.mono (hbw.trans ((hta.trans (set_turn 2 _)).below hbw.size hn2))) ⟨by omega, by omega⟩)
                have a6 : ∀ w3 w4, xB B w3 vol num 0 dy → w3.heap[Bp]? = W.heap[Bp]? → Turn B wr w3 → Below (w3.setCell ⟨B, 2, none⟩ (.int .i64 (num + 1))).heap.size (w3.setCell ⟨B, 2, none⟩ (.int .i64 (num + 1))) w4 →
                    xB B w4 vol num (num + 1) dy ∧ w4.heap[Bp]? = W.heap[Bp]? ∧ Turn B wr w4 ∧ B < w4.heap.size ∧ Bp < w4.heap.size := fun w3 w4 hxa hpa hta hb => by
                  have hs : (w3.setCell ⟨B, 2, none⟩ (.int .i64 (num + 1))).heap.size = w3.heap.size := by simp [World.setCell]
                  have lB := (Array.getElem?_eq_some_iff.1 hxa).1
                  have lP := (Array.getElem?_eq_some_iff.1 (hpa.trans hBp)).1
                  have hz := hb.size
                  exact ⟨(hxa.set2 _).turn (hb.block B (by omega)), (hb.block Bp (by omega)).trans ((set_other (by simpa using hne)).trans hpa), (hta.trans (set_turn 2 _)).trans (Turn.of_below hb), by omega, by omega⟩
                gi_wp2_with (first | (refine ⟨trivial, ?_⟩; gi_at_call 34; refine hn1.mono ?_; clear hn1; rintro e w3 ⟨rfl, hb4⟩; obtain ⟨hxa, hpa, hta, hla, hma⟩ := a4 w3 hb4; obtain ⟨z0, z1, z2, z3, z4, z5⟩ := hxa.cells; obtain ⟨g0, g1, g2, g3⟩ := hxa.froz; obtain ⟨r0, r1, r2, r3, r4, r5⟩ := cp hpa; have hn2 := a5 w3 hxa hpa hta) | (refine ⟨trivial, ?_⟩; gi_at_call 34; refine hn2.mono ?_; clear hn2; rintro e w4 ⟨rfl, hb6⟩; obtain ⟨hx4, hp4, ht4, hl4, hm4⟩ := a6 _ w4 hxa hpa hta hb6; obtain ⟨y0, y1, y2, y3, y4, y5⟩ := hx4.cells; obtain ⟨fn, tmps, assign, body, hy, hR⟩ := hY pre (Iss.mk vol num (num + 1) dy 1 0) w4 (hJ _ _ _ hJs ht4) hl4 hpre))
                refine hR.mono ?_
                rintro e W5 (⟨rfl, hJ5, hk5⟩ | ⟨rfl, hJx5⟩)
                · have hx5 := hx4.turn (hk5.same B (.inr rfl) hl4)
                  have hp5 := (hk5.same Bp (.inl rfl) hm4).trans hp4
                  have hw5 : Below w0.heap.size w0 W5 := (hbw.trans (ht4.below hbw.size hn2)).trans hk5.below
                  clear x0 x1 x2 x3 x4 x5 p0 p1 p2 p3 p4 p5 y0 y1 y2 y3 y4 y5
                  obtain ⟨x0, x1, x2, x3, x4, x5⟩ := hx5.cells
                  obtain ⟨g0, g1, g2, g3⟩ := hx5.froz
                  obtain ⟨p0, p1, p2, p3, p4, p5⟩ := cp hp5
                  have m0 : max num (num + 1) = num + 1 := by omega
                  have m1 : wrap64 (num + 1 + 1) = num + 1 + 1 := by unfold wrap64; omega
                  have m2 : wrap64 (vol + 1) = vol + 1 := by unfold wrap64; omega
                  gi_wp2
                  · have hc : p.per < num + 1 + 1 := by assumption
                    have e1 : volN p vol (num + 1 + 1) = vol + 1 := if_pos hc
                    have e2 : numN p (num + 1 + 1) = 1 := if_pos hc
                    rw [e1, e2] at hi
                    replace hi : allI p = _ := hi
                    refine ⟨⟨pre ++ [Iss.mk vol num (num + 1) dy 1 0], f, vol + 1, 1, num + 1, dy, _, scan p (k2 + 1), by first | rfl | rw [hso], by first | rfl | rw [hso], by first | rfl | rw [hso], by congr 1; omega, hi, hJ _ _ _ hJ5 (((set_turn 1 _).trans (set_turn 0 _)).trans (set_turn 1 _)), ((hx5.set1 _).set0 _).set1 _, ?_, ?_, by omega, by omega, by omega, fun d hd => ?_, rfl⟩, by simp [intOf]; omega⟩
                    · exact ((set_other (by simpa using hne)).trans ((set_other (by simpa using hne)).trans (set_other (by simpa using hne)))).trans hp5
                    · exact hw5.trans ((((set_turn 1 _).trans (set_turn 0 _)).trans (set_turn 1 _)).below hw5.size hn2)
                    · have := scan_at hw.ok (by omega) (by omega) hd; omega
                  · have hc : ¬ p.per < num + 1 + 1 := by have : num + 1 + 1 ≤ p.per := (by assumption); omega
                    have e1 : volN p vol (num + 1 + 1) = vol := if_neg hc
                    have e2 : numN p (num + 1 + 1) = num + 1 + 1 := if_neg hc
                    rw [e1, e2] at hi
                    replace hi : allI p = _ := hi
                    refine ⟨⟨pre ++ [Iss.mk vol num (num + 1) dy 1 0], f, vol, num + 1 + 1, num + 1, dy, _, scan p (k2 + 1), by first | rfl | rw [hso], by first | rfl | rw [hso], by first | rfl | rw [hso], by congr 1; omega, hi, hJ _ _ _ hJ5 (set_turn 1 _), hx5.set1 _, ?_, ?_, by omega, by omega, by omega, fun d hd => ?_, rfl⟩, by simp [intOf]; omega⟩
                    · exact (set_other (by simpa using hne)).trans hp5
                    · exact hw5.trans ((set_turn 1 _).below hw5.size hn2)
                    · have := scan_at hw.ok (by omega) (by omega) hd; omega
                · gi_wp2
                  refine bodyPost_ret (results_none rfl _ _ _) rfl ?_
                  exact ⟨⟨_, rfl⟩, .inr ⟨_, hpre, hJx5⟩⟩
            · have hnp' : decide (num < p.per) = false := decide_eq_false hnp
              have hdb : dblB p num dy (scan p (k + 1)) = false := by unfold dblB; rw [hnp']; simp
              have hi : Hid (allI p = (pre ++ [Iss.mk vol num 0 dy 1 0]) ++ issF p f (volN p vol (num + 1)) (numN p (num + 1)) (scan p (k + 1))) := by show allI p = _; rw [show allI p = _ from hx, issF_one p f vol num dy k hv hdb]; simp
              have hpre : pre ++ [Iss.mk vol num 0 dy 1 0] <+: allI p := ⟨_, Eq.symm hi⟩
              refine wpIn_wide.2 (wp_region_quiet_below (show Tryd.prog.follows .mixedOrders = true from mixed) (by kernel_rfl) ?_)
              repeat (quiet_step (first | exact cM _ _ | exact cC _ _))
              refine wpQuiet_nil ?_
              intro _ hw'
              obtain ⟨⟨dq, osq⟩, hw''⟩ := hw'
              subst hw''
              have hb3 := below_regrown W2 dq osq
              generalize Go.Sort.grow (redrawn W2 dq) osq = W3 at hb3 ⊢
              have hg3 := hg2.mono hb3
              have hlB : B < W2.heap.size := (Array.getElem?_eq_some_iff.1 hx2).1
              have hlP : Bp < W2.heap.size := (Array.getElem?_eq_some_iff.1 (hp2.trans hBp)).1
              have hx3 := hx2.turn (hb3.block B hlB)
              have hp3 := (hb3.block Bp hlP).trans hp2
              have ht3 := ht2.trans (Turn.of_below hb3)
              have hper : p.per ≤ 366 := hw.ok.2.2.1.2
              clear k1 k2 k5 cM cC x0 x1 x2 x3 x4 x5 f0 f1 f2 f3 p0 p1 p2 p3 p4 p5
              obtain ⟨x0, x1, x2, x3, x4, x5⟩ := hx3.cells
              obtain ⟨p0, p1, p2, p3, p4, p5⟩ := cp hp3
              have a4 : ∀ w4, Below W3.heap.size W3 w4 → xB B w4 vol num 0 dy ∧ w4.heap[Bp]? = W.heap[Bp]? ∧ Turn B wr w4 ∧ B < w4.heap.size ∧ Bp < w4.heap.size := fun w4 hb4 =>
                ⟨hx3.turn (hb4.block B (Nat.lt_of_lt_of_le hlB hb3.size)), (hb4.block Bp (Nat.lt_of_lt_of_le hlP hb3.size)).trans hp3, ht3.trans (Turn.of_below hb4), Nat.lt_of_lt_of_le hlB (Nat.le_trans hb3.size hb4.size), Nat.lt_of_lt_of_le hlP (Nat.le_trans hb3.size hb4.size)⟩
              have hn1 := callsIn_wide (n := 1).2 (next_c hg3 (k := k + 1) ⟨by omega, by omega⟩)
              gi_wp2_with (refine ⟨trivial, ?_⟩; gi_at_call 34; refine hn1.mono ?_; clear hn1; rintro e w4 ⟨rfl, hb4⟩; obtain ⟨hx4, hp4, ht4, hl4, hm4⟩ := a4 w4 hb4; obtain ⟨y0, y1, y2, y3, y4, y5⟩ := hx4.cells; obtain ⟨fn, tmps, assign, body, hy, hR⟩ := hY pre (Iss.mk vol num 0 dy 1 0) w4 (hJ _ _ _ hJs ht4) hl4 hpre)
              refine hR.mono ?_
              rintro e W5 (⟨rfl, hJ5, hk5⟩ | ⟨rfl, hJx5⟩)
              · have hx5 := hx4.turn (hk5.same B (.inr rfl) hl4)
                have hp5 := (hk5.same Bp (.inl rfl) hm4).trans hp4
                have hw5 : Below w0.heap.size w0 W5 := (hbw.trans (ht4.below hbw.size hn2)).trans hk5.below
                clear x0 x1 x2 x3 x4 x5 p0 p1 p2 p3 p4 p5 y0 y1 y2 y3 y4 y5
                obtain ⟨x0, x1, x2, x3, x4, x5⟩ := hx5.cells
                obtain ⟨g0, g1, g2, g3⟩ := hx5.froz
                obtain ⟨p0, p1, p2, p3, p4, p5⟩ := cp hp5
                have m0 : max num 0 = num := by omega
                have m1 : wrap64 (num + 1) = num + 1 := by unfold wrap64; omega
                have m2 : wrap64 (vol + 1) = vol + 1 := by unfold wrap64; omega
                gi_wp2
                · have hc : p.per < num + 1 := by omega
                  have e1 : volN p vol (num + 1) = vol + 1 := if_pos hc
                  have e2 : numN p (num + 1) = 1 := if_pos hc
                  rw [e1, e2] at hi
                  replace hi : allI p = _ := hi
                  refine ⟨⟨pre ++ [Iss.mk vol num 0 dy 1 0], f, vol + 1, 1, 0, dy, _, scan p (k + 1), by first | rfl | rw [hso], by first | rfl | rw [hso], by first | rfl | rw [hso], by congr 1; omega, hi, hJ _ _ _ hJ5 (((set_turn 1 _).trans (set_turn 0 _)).trans (set_turn 1 _)), ((hx5.set1 _).set0 _).set1 _, ?_, ?_, by omega, by omega, by omega, fun d hd => ?_, rfl⟩, by simp [intOf]; omega⟩
                  · exact ((set_other (by simpa using hne)).trans ((set_other (by simpa using hne)).trans (set_other (by simpa using hne)))).trans hp5
                  · exact hw5.trans ((((set_turn 1 _).trans (set_turn 0 _)).trans (set_turn 1 _)).below hw5.size hn2)
                  · have := scan_at hw.ok (by omega) (by omega) hd; omega
              · gi_wp2
                refine bodyPost_ret (results_none rfl _ _ _) rfl ?_
                exact ⟨⟨_, rfl⟩, .inr ⟨_, hpre, hJx5⟩⟩
          | false =>
            rw [hcc] at cC
            have hdb : dblB p num dy (scan p (k + 1)) = false := by unfold dblB; rw [hcc]; rfl
            have hi : Hid (allI p = (pre ++ [Iss.mk vol num 0 dy 1 0]) ++ issF p f (volN p vol (num + 1)) (numN p (num + 1)) (scan p (k + 1))) := by show allI p = _; rw [show allI p = _ from hx, issF_one p f vol num dy k hv hdb]; simp
            have hpre : pre ++ [Iss.mk vol num 0 dy 1 0] <+: allI p := ⟨_, Eq.symm hi⟩
            refine wpIn_wide.2 (wp_region_quiet_below (show Tryd.prog.follows .mixedOrders = true from mixed) (by kernel_rfl) ?_)
            repeat (quiet_step (first | exact cM _ _ | exact cC _ _))
            refine wpQuiet_nil ?_
            intro _ hw'
            obtain ⟨⟨dq, osq⟩, hw''⟩ := hw'
            subst hw''
            have hb3 := below_regrown W2 dq osq
            generalize Go.Sort.grow (redrawn W2 dq) osq = W3 at hb3 ⊢
            have hg3 := hg2.mono hb3
            have hlB : B < W2.heap.size := (Array.getElem?_eq_some_iff.1 hx2).1
            have hlP : Bp < W2.heap.size := (Array.getElem?_eq_some_iff.1 (hp2.trans hBp)).1
            have hx3 := hx2.turn (hb3.block B hlB)
            have hp3 := (hb3.block Bp hlP).trans hp2
            have ht3 := ht2.trans (Turn.of_below hb3)
            have hper : p.per ≤ 366 := hw.ok.2.2.1.2
            clear k1 k2 k5 cM cC x0 x1 x2 x3 x4 x5 f0 f1 f2 f3 p0 p1 p2 p3 p4 p5
            obtain ⟨x0, x1, x2, x3, x4, x5⟩ := hx3.cells
            obtain ⟨p0, p1, p2, p3, p4, p5⟩ := cp hp3
            have a4 : ∀ w4, Below W3.heap.size W3 w4 → xB B w4 vol num 0 dy ∧ w4.heap[Bp]? = W.heap[Bp]? ∧ Turn B wr w4 ∧ B < w4.heap.size ∧ Bp < w4.heap.size := fun w4 hb4 =>
              ⟨hx3.turn (hb4.block B (Nat.lt_of_lt_of_le hlB hb3.size)), (hb4.block Bp (Nat.lt_of_lt_of_le hlP hb3.size)).trans hp3, ht3.trans (Turn.of_below hb4), Nat.lt_of_lt_of_le hlB (Nat.le_trans hb3.size hb4.size), Nat.lt_of_lt_of_le hlP (Nat.le_trans hb3.size hb4.size)⟩
            have hn1 := callsIn_wide (n := 1).2 (next_c hg3 (k := k + 1) ⟨by omega, by omega⟩)
            gi_wp2_with (refine ⟨trivial, ?_⟩; gi_at_call 34; refine hn1.mono ?_; clear hn1; rintro e w4 ⟨rfl, hb4⟩; obtain ⟨hx4, hp4, ht4, hl4, hm4⟩ := a4 w4 hb4; obtain ⟨y0, y1, y2, y3, y4, y5⟩ := hx4.cells; obtain ⟨fn, tmps, assign, body, hy, hR⟩ := hY pre (Iss.mk vol num 0 dy 1 0) w4 (hJ _ _ _ hJs ht4) hl4 hpre)
            refine hR.mono ?_
            rintro e W5 (⟨rfl, hJ5, hk5⟩ | ⟨rfl, hJx5⟩)
            · have hx5 := hx4.turn (hk5.same B (.inr rfl) hl4)
              have hp5 := (hk5.same Bp (.inl rfl) hm4).trans hp4
              have hw5 : Below w0.heap.size w0 W5 := (hbw.trans (ht4.below hbw.size hn2)).trans hk5.below
              clear x0 x1 x2 x3 x4 x5 p0 p1 p2 p3 p4 p5 y0 y1 y2 y3 y4 y5
              obtain ⟨x0, x1, x2, x3, x4, x5⟩ := hx5.cells
              obtain ⟨g0, g1, g2, g3⟩ := hx5.froz
              obtain ⟨p0, p1, p2, p3, p4, p5⟩ := cp hp5
              have m0 : max num 0 = num := by omega
              have m1 : wrap64 (num + 1) = num + 1 := by unfold wrap64; omega
              have m2 : wrap64 (vol + 1) = vol + 1 := by unfold wrap64; omega
              gi_wp2
              · have hc : p.per < num + 1 := by assumption
                have e1 : volN p vol (num + 1) = vol + 1 := if_pos hc
                have e2 : numN p (num + 1) = 1 := if_pos hc
                rw [e1, e2] at hi
                replace hi : allI p = _ := hi
                refine ⟨⟨pre ++ [Iss.mk vol num 0 dy 1 0], f, vol + 1, 1, 0, dy, _, scan p (k + 1), by first | rfl | rw [hso], by first | rfl | rw [hso], by first | rfl | rw [hso], by congr 1; omega, hi, hJ _ _ _ hJ5 (((set_turn 1 _).trans (set_turn 0 _)).trans (set_turn 1 _)), ((hx5.set1 _).set0 _).set1 _, ?_, ?_, by omega, by omega, by omega, fun d hd => ?_, rfl⟩, by simp [intOf]; omega⟩
                · exact ((set_other (by simpa using hne)).trans ((set_other (by simpa using hne)).trans (set_other (by simpa using hne)))).trans hp5
                · exact hw5.trans ((((set_turn 1 _).trans (set_turn 0 _)).trans (set_turn 1 _)).below hw5.size hn2)
                · have := scan_at hw.ok (by omega) (by omega) hd; omega
              · have hc : ¬ p.per < num + 1 := by have : num + 1 ≤ p.per := (by assumption); omega
                have e1 : volN p vol (num + 1) = vol := if_neg hc
                have e2 : numN p (num + 1) = num + 1 := if_neg hc
                rw [e1, e2] at hi
                replace hi : allI p = _ := hi
                refine ⟨⟨pre ++ [Iss.mk vol num 0 dy 1 0], f, vol, num + 1, 0, dy, _, scan p (k + 1), by first | rfl | rw [hso], by first | rfl | rw [hso], by first | rfl | rw [hso], by congr 1; omega, hi, hJ _ _ _ hJ5 (set_turn 1 _), hx5.set1 _, ?_, ?_, by omega, by omega, by omega, fun d hd => ?_, rfl⟩, by simp [intOf]; omega⟩
                · exact (set_other (by simpa using hne)).trans hp5
                · exact hw5.trans ((set_turn 1 _).below hw5.size hn2)
                · have := scan_at hw.ok (by omega) (by omega) hd; omega
            · gi_wp2
              refine bodyPost_ret (results_none rfl _ _ _) rfl ?_
              exact ⟨⟨_, rfl⟩, .inr ⟨_, hpre, hJx5⟩⟩
        · have hd1 : decide ((0 : Int) < (p.dbl.length : Int)) = false := decide_eq_false (by omega)
          have hdb : dblB p num dy (scan p (k + 1)) = false := by unfold dblB; rw [show p.dbl = [] from List.length_eq_zero_iff.1 (by omega)]; rfl
          have hi : Hid (allI p = (pre ++ [Iss.mk vol num 0 dy 1 0]) ++ issF p f (volN p vol (num + 1)) (numN p (num + 1)) (scan p (k + 1))) := by show allI p = _; rw [show allI p = _ from hx, issF_one p f vol num dy k hv hdb]; simp
          have hpre : pre ++ [Iss.mk vol num 0 dy 1 0] <+: allI p := ⟨_, Eq.symm hi⟩
          refine wpIn_wide.2 (wp_region_quiet_below (show Tryd.prog.follows .mixedOrders = true from mixed) (by kernel_rfl) ?_)
          repeat (quiet_step (first | exact cM _ _ | exact cC _ _))
          refine wpQuiet_nil ?_
          intro _ hw'
          obtain ⟨⟨dq, osq⟩, hw''⟩ := hw'
          subst hw''
          have hb3 := below_regrown W2 dq osq
          generalize Go.Sort.grow (redrawn W2 dq) osq = W3 at hb3 ⊢
          have hg3 := hg2.mono hb3
          have hlB : B < W2.heap.size := (Array.getElem?_eq_some_iff.1 hx2).1
          have hlP : Bp < W2.heap.size := (Array.getElem?_eq_some_iff.1 (hp2.trans hBp)).1
          have hx3 := hx2.turn (hb3.block B hlB)
          have hp3 := (hb3.block Bp hlP).trans hp2
          have ht3 := ht2.trans (Turn.of_below hb3)
          have hper : p.per ≤ 366 := hw.ok.2.2.1.2
          clear k1 k2 k5 cM cC x0 x1 x2 x3 x4 x5 f0 f1 f2 f3 p0 p1 p2 p3 p4 p5
          obtain ⟨x0, x1, x2, x3, x4, x5⟩ := hx3.cells
          obtain ⟨p0, p1, p2, p3, p4, p5⟩ := cp hp3
          have a4 : ∀ w4, Below W3.heap.size W3 w4 → xB B w4 vol num 0 dy ∧ w4.heap[Bp]? = W.heap[Bp]? ∧ Turn B wr w4 ∧ B < w4.heap.size ∧ Bp < w4.heap.size := fun w4 hb4 =>
            ⟨hx3.turn (hb4.block B (Nat.lt_of_lt_of_le hlB hb3.size)), (hb4.block Bp (Nat.lt_of_lt_of_le hlP hb3.size)).trans hp3, ht3.trans (Turn.of_below hb4), Nat.lt_of_lt_of_le hlB (Nat.le_trans hb3.size hb4.size), Nat.lt_of_lt_of_le hlP (Nat.le_trans hb3.size hb4.size)⟩
          have hn1 := callsIn_wide (n := 1).2 (next_c hg3 (k := k + 1) ⟨by omega, by omega⟩)
          gi_wp2_with (refine ⟨trivial, ?_⟩; gi_at_call 34; refine hn1.mono ?_; clear hn1; rintro e w4 ⟨rfl, hb4⟩; obtain ⟨hx4, hp4, ht4, hl4, hm4⟩ := a4 w4 hb4; obtain ⟨y0, y1, y2, y3, y4, y5⟩ := hx4.cells; obtain ⟨fn, tmps, assign, body, hy, hR⟩ := hY pre (Iss.mk vol num 0 dy 1 0) w4 (hJ _ _ _ hJs ht4) hl4 hpre)
          refine hR.mono ?_
          rintro e W5 (⟨rfl, hJ5, hk5⟩ | ⟨rfl, hJx5⟩)
          · have hx5 := hx4.turn (hk5.same B (.inr rfl) hl4)
            have hp5 := (hk5.same Bp (.inl rfl) hm4).trans hp4
            have hw5 : Below w0.heap.size w0 W5 := (hbw.trans (ht4.below hbw.size hn2)).trans hk5.below
            clear x0 x1 x2 x3 x4 x5 p0 p1 p2 p3 p4 p5 y0 y1 y2 y3 y4 y5
            obtain ⟨x0, x1, x2, x3, x4, x5⟩ := hx5.cells
            obtain ⟨g0, g1, g2, g3⟩ := hx5.froz
            obtain ⟨p0, p1, p2, p3, p4, p5⟩ := cp hp5
            have m0 : max num 0 = num := by omega
            have m1 : wrap64 (num + 1) = num + 1 := by unfold wrap64; omega
            have m2 : wrap64 (vol + 1) = vol + 1 := by unfold wrap64; omega
            gi_wp2
            · have hc : p.per < num + 1 := by assumption
              have e1 : volN p vol (num + 1) = vol + 1 := if_pos hc
              have e2 : numN p (num + 1) = 1 := if_pos hc
              rw [e1, e2] at hi
              replace hi : allI p = _ := hi
              refine ⟨⟨pre ++ [Iss.mk vol num 0 dy 1 0], f, vol + 1, 1, 0, dy, _, scan p (k + 1), by first | rfl | rw [hso], by first | rfl | rw [hso], by first | rfl | rw [hso], by congr 1; omega, hi, hJ _ _ _ hJ5 (((set_turn 1 _).trans (set_turn 0 _)).trans (set_turn 1 _)), ((hx5.set1 _).set0 _).set1 _, ?_, ?_, by omega, by omega, by omega, fun d hd => ?_, rfl⟩, by simp [intOf]; omega⟩
              · exact ((set_other (by simpa using hne)).trans ((set_other (by simpa using hne)).trans (set_other (by simpa using hne)))).trans hp5
              · exact hw5.trans ((((set_turn 1 _).trans (set_turn 0 _)).trans (set_turn 1 _)).below hw5.size hn2)
              · have := scan_at hw.ok (by omega) (by omega) hd; omega
            · have hc : ¬ p.per < num + 1 := by have : num + 1 ≤ p.per := (by assumption); omega
              have e1 : volN p vol (num + 1) = vol := if_neg hc
              have e2 : numN p (num + 1) = num + 1 := if_neg hc
              rw [e1, e2] at hi
              replace hi : allI p = _ := hi
              refine ⟨⟨pre ++ [Iss.mk vol num 0 dy 1 0], f, vol, num + 1, 0, dy, _, scan p (k + 1), by first | rfl | rw [hso], by first | rfl | rw [hso], by first | rfl | rw [hso], by congr 1; omega, hi, hJ _ _ _ hJ5 (set_turn 1 _), hx5.set1 _, ?_, ?_, by omega, by omega, by omega, fun d hd => ?_, rfl⟩, by simp [intOf]; omega⟩
              · exact (set_other (by simpa using hne)).trans hp5
              · exact hw5.trans ((set_turn 1 _).below hw5.size hn2)
              · have := scan_at hw.ok (by omega) (by omega) hd; omega
          · gi_wp2
            refine bodyPost_ret (results_none rfl _ _ _) rfl ?_
            exact ⟨⟨_, rfl⟩, .inr ⟨_, hpre, hJx5⟩⟩
      · clear hx
        gi_wp2
        go_end0
        exact ⟨⟨_, rfl⟩, .inl (fin (issF_vol _ _ _ _ _ (by omega)))⟩

end Go.Proofs.YtfaaceakmfokoaaDoor

set_option maxRecDepth 100000
set_option linter.unusedSimpArgs false
set_option linter.unusedVariables false
namespace Go.Proofs.YtfaaceakmfokoaaDoor
open Go Ab Pl
open Go.RowKit Go.Shelf
attribute [local go_sem] Oper.semAt_some
abbrev issV (x : Iss) : Array Value := #[.int .i64 x.vol, .int .i64 x.num, .int .i64 x.last, .int .i64 x.day, .int .i64 x.st, .int .i64 x.item]
theorem issues_in (pv : Array Value) (hs : pv.size = 6) (w : World) :
    CallsIn Fence.wide 2 Tryd.prog 25 #[.agg pv] w fun e w' => e = .returned (.func (.func 33) #[] #[.pointer (some ⟨w.heap.size, 0, none⟩)]) ∧ w' = w.alloc (.cells pv 24) := by
  refine callsIn_of_wp Tryd.func25 rfl trivial ?_ rfl
  simp only [Tryd.ntmps25, List.size_toArray, List.length_cons, List.length_nil, Nat.reduceAdd, Nat.reduceSub, Array.replicate_succ, Array.replicate_zero, List.push_toArray, List.append_toArray, List.nil_append, List.cons_append]
  gi_wp2
  go_ret
  exact ⟨rfl, rfl⟩
theorem seq_x {p : Pat} {s1 : Value} {a2 : Option Addr} {c2 : Nat} {S : Nat → Nat → Prop} {w0 w1 : World} (h : PW p s1 (.slice a2 p.dbl.length c2) S w0) (hb : Below w0.heap.size w0 w1) {Bp : Nat} (hB : w1.heap[Bp]? = some (.cells (pvP p s1 (.slice a2 p.dbl.length c2)) 24)) :
    SeqX Tryd.prog 33 #[.pointer (some ⟨Bp, 0, none⟩)] (fun x : Iss => #[.agg (issV x)]) w0.heap.size Bp (allI p) w1 := fun l J Jx W hW hs hJ hJx hY h0 =>
  iss1 Fence.wide rfl p s1 a2 c2 S w0 h l (w1.heap.size + 2) Bp J Jx hJ hJx hY W hs (hb.trans (hW.mono hb.size)) ((hW.block Bp (Array.getElem?_eq_some_iff.1 hB).1).trans hB) h0
theorem box1 {W : World} {b : Nat} {v : Value} {t : TypeId} (h : W.heap[b]? = some (.cells #[v] t)) : W.cell? ⟨b, 0, none⟩ = some v ∧ W.frozen? ⟨b, 0, none⟩ = false := by
  simp [World.cell?, World.frozen?, h]
theorem box1_set {W : World} {b : Nat} {v v' : Value} {t : TypeId} (h : W.heap[b]? = some (.cells #[v] t)) : (W.setCell ⟨b, 0, none⟩ v').heap[b]? = some (.cells #[v'] t) := by
  simp [World.setCell, Array.getElem?_modify, h]
theorem box6 {W : World} {b : Nat} {x : Iss} {t : TypeId} (h : W.heap[b]? = some (.cells (issV x) t)) :
    (W.cell? ⟨b, 0, none⟩ = some (.int .i64 x.vol) ∧ W.cell? ⟨b, 1, none⟩ = some (.int .i64 x.num) ∧ W.cell? ⟨b, 2, none⟩ = some (.int .i64 x.last) ∧ W.cell? ⟨b, 3, none⟩ = some (.int .i64 x.day) ∧ W.cell? ⟨b, 4, none⟩ = some (.int .i64 x.st) ∧ W.cell? ⟨b, 5, none⟩ = some (.int .i64 x.item)) ∧
    (W.frozen? ⟨b, 0, none⟩ = false ∧ W.frozen? ⟨b, 1, none⟩ = false ∧ W.frozen? ⟨b, 2, none⟩ = false ∧ W.frozen? ⟨b, 3, none⟩ = false ∧ W.frozen? ⟨b, 4, none⟩ = false ∧ W.frozen? ⟨b, 5, none⟩ = false) := by
  simp [World.cell?, World.frozen?, h]
/-- what lies in the blocks from b on -/
def Lie (b : Nat) (os : List Obj) (W : World) : Prop := ∀ i o, os[i]? = some o → W.heap[b + i]? = some o
theorem Lie.turn {b B : Nat} {os : List Obj} {W W' : World} (h : Lie b os W) (ht : Turn B W W') (hB : b + os.length ≤ B) : Lie b os W' := fun i o hi => by
  have hl : i < os.length := (List.getElem?_eq_some_iff.1 hi).1
  exact (ht.block _ (Array.getElem?_eq_some_iff.1 (h i o hi)).1 (by omega)).trans (h i o hi)
theorem Lie.put {b l : Nat} {os : List Obj} {W : World} {o' : Obj} (h : Lie b os W) (hl : b + os.length ≤ l) : Lie b os (W.putObj l o') := fun i o hi => by
  have := (List.getElem?_eq_some_iff.1 hi).1
  exact (World.putObj_heap_other (by omega)).trans (h i o hi)
theorem Lie.set {b i : Nat} {os : List Obj} {W : World} {v : Value} {j : Nat} {o' : Obj} (h : Lie b os W) (hi : i < os.length) (ho : (W.setCell ⟨b + i, j, none⟩ v).heap[b + i]? = some o') : Lie b (os.set i o') (W.setCell ⟨b + i, j, none⟩ v) := fun k o hk => by
  by_cases e : k = i
  · subst e
    rw [List.getElem?_set_self hi] at hk
    cases hk
    exact ho
  · rw [List.getElem?_set_ne (fun e' => e e'.symm)] at hk
    exact (set_other (by simpa using e)).trans (h k o hk)
theorem put_below {n l : Nat} {W : World} (hn : n ≤ W.heap.size) (hl : n ≤ l) (o : Obj) : Below n W (W.putObj l o) :=
  (Below.refl n W).grown (grownBy_putObj' W l o) hn (fun k e => by cases e; exact hl)
theorem keep_set {n₀ b i : Nat} {K : Nat → Prop} {W : World} {v : Value} (hn : n₀ ≤ b) (hk : ¬ K b) : Keep n₀ K W (W.setCell ⟨b, i, none⟩ v) :=
  ⟨(Below.refl n₀ W).setCell (p := ⟨b, i, none⟩) hn v, fun k h _ => set_other (fun e => hk (by have : k = b := e; exact this ▸ h))⟩
/-- an issue is written, field by field -/
abbrev set6 (W : World) (b : Nat) (y : Iss) : World :=
  (((((W.setCell ⟨b, 0, none⟩ (.int .i64 y.vol)).setCell ⟨b, 1, none⟩ (.int .i64 y.num)).setCell ⟨b, 2, none⟩ (.int .i64 y.last)).setCell ⟨b, 3, none⟩ (.int .i64 y.day)).setCell ⟨b, 4, none⟩ (.int .i64 y.st)).setCell ⟨b, 5, none⟩ (.int .i64 y.item)
theorem set6_at {W : World} {b : Nat} {x : Iss} {t : TypeId} (h : W.heap[b]? = some (.cells (issV x) t)) (y : Iss) : (set6 W b y).heap[b]? = some (.cells (issV y) t) := by
  simp [set6, World.setCell, Array.getElem?_modify, h]
theorem set6_other {W : World} {b k : Nat} (hk : k ≠ b) (y : Iss) : (set6 W b y).heap[k]? = W.heap[k]? := by
  unfold set6
  rw [set_other (by simpa using hk), set_other (by simpa using hk), set_other (by simpa using hk), set_other (by simpa using hk), set_other (by simpa using hk), set_other (by simpa using hk)]
theorem set6_keep {n₀ b : Nat} {K : Nat → Prop} {W : World} (hn : n₀ ≤ b) (hk : ¬ K b) (y : Iss) : Keep n₀ K W (set6 W b y) :=
  (((((keep_set hn hk).trans (keep_set hn hk)).trans (keep_set hn hk)).trans (keep_set hn hk)).trans (keep_set hn hk)).trans (keep_set hn hk)
def allocs (w : World) (os : List Obj) : World := os.foldl World.alloc w
theorem allocs_below : ∀ (os : List Obj) (w : World), Below w.heap.size w (allocs w os)
  | [], w => Below.refl _ _
  | o :: os, w => by
    have h := allocs_below os (w.alloc o)
    exact ((Below.refl _ w).alloc (Nat.le_refl _) o).trans (h.mono (by simp))
theorem allocs_size : ∀ (os : List Obj) (w : World), (allocs w os).heap.size = w.heap.size + os.length
  | [], w => rfl
  | o :: os, w => by
    show (allocs (w.alloc o) os).heap.size = _
    rw [allocs_size os (w.alloc o)]; simp; omega
theorem allocs_get : ∀ (os : List Obj) (w : World) (i : Nat) (o : Obj), os[i]? = some o → (allocs w os).heap[w.heap.size + i]? = some o
  | o' :: os, w, 0, o, h => by
    cases h
    have hb := allocs_below os (w.alloc o')
    show (allocs (w.alloc o') os).heap[w.heap.size]? = _
    rw [hb.block w.heap.size (by simp)]
    exact World.alloc_heap_new w o'
  | o' :: os, w, i + 1, o, h => by
    have := allocs_get os (w.alloc o') i o h
    rw [World.size_alloc] at this
    show (allocs (w.alloc o') os).heap[w.heap.size + (i + 1)]? = _
    rw [show w.heap.size + (i + 1) = w.heap.size + 1 + i by omega]
    exact this

end Go.Proofs.YtfaaceakmfokoaaDoor

set_option maxRecDepth 100000
set_option linter.unusedSimpArgs false
set_option linter.unusedVariables false
namespace Go.Proofs.YtfaaceakmfokoaaDoor
open Go Ab Pl
open Go.RowKit Go.Shelf
attribute [local go_sem] Oper.semAt_some
set_option maxHeartbeats 4000000 in
theorem Until_c {p : Pat} {s1 : Value} {a2 : Option Addr} {c2 : Nat} {S : Nat → Nat → Prop} {w : World} (h : PW p s1 (.slice a2 p.dbl.length c2) S w) (day : Int) :
    CallsIn Fence.wide 3 Tryd.prog 19 #[.agg (pvP p s1 (.slice a2 p.dbl.length c2)), .int .i64 day] w fun e W' => e = .returned (.int .i64 (untilR p day)) ∧ Below w.heap.size w W' := by
  refine callsIn_of_wp_marks Tryd.func19 rfl trivial ?_ rfl
  simp only [Tryd.ntmps19, List.size_toArray, List.length_cons, List.length_nil, Nat.reduceAdd, Nat.reduceSub, Array.replicate_succ, Array.replicate_zero, List.push_toArray, List.append_toArray, List.nil_append, List.cons_append]
  gi_wp2_with (refine ⟨trivial, ?_⟩; gi_at_call 25; refine (issues_in _ rfl _).mono ?_; rintro e w' ⟨rfl, rfl⟩)
  have ha := allocs_get [.cells (pvP p s1 (.slice a2 p.dbl.length c2)) 24, .cells #[.int .i64 day] 3, .cells #[.int .i64 0] 3, .cells (pvP p s1 (.slice a2 p.dbl.length c2)) 24] w
  have hb1 := allocs_below [.cells (pvP p s1 (.slice a2 p.dbl.length c2)) 24, .cells #[.int .i64 day] 3, .cells #[.int .i64 0] 3, .cells (pvP p s1 (.slice a2 p.dbl.length c2)) 24] w
  have hs1 := allocs_size [.cells (pvP p s1 (.slice a2 p.dbl.length c2)) 24, .cells #[.int .i64 day] 3, .cells #[.int .i64 0] 3, .cells (pvP p s1 (.slice a2 p.dbl.length c2)) 24] w
  change Code.wpIn _ _ _ _ _ _ (allocs w [.cells (pvP p s1 (.slice a2 p.dbl.length c2)) 24, .cells #[.int .i64 day] 3, .cells #[.int .i64 0] 3, .cells (pvP p s1 (.slice a2 p.dbl.length c2)) 24])
  generalize allocs w [.cells (pvP p s1 (.slice a2 p.dbl.length c2)) 24, .cells #[.int .i64 day] 3, .cells #[.int .i64 0] 3, .cells (pvP p s1 (.slice a2 p.dbl.length c2)) 24] = w1 at ha hb1 hs1 ⊢
  replace hs1 : w1.heap.size = w.heap.size + 4 := hs1
  have hp1 : w1.heap[w.heap.size + 3]? = some (.cells (pvP p s1 (.slice a2 p.dbl.length c2)) 24) := ha 3 _ rfl
  have hl1 : Lie (w.heap.size + 1) [.cells #[.int .i64 day] 3, .cells #[.int .i64 0] 3] w1 := fun i o hi => by
    have := (List.getElem?_eq_some_iff.1 hi).1
    rw [show w.heap.size + 1 + i = w.heap.size + (i + 1) by omega]
    exact ha (i + 1) o (by match i, hi with | 0, hi => exact hi | 1, hi => exact hi | i + 2, hi => exact absurd this (by simp))
  refine range_X (gf := 33) (lb := #[.pointer (some ⟨w.heap.size + 3, 0, none⟩)]) (encs := fun x : Iss => #[.agg (issV x)]) (xs := allI p) (n₀ := w.heap.size) (Bp := w.heap.size + 3) rfl (enters_of Tryd.func33 (by kernel_rfl) rfl) (fun _ => rfl) (by omega) (by omega) (seq_x h hb1 hp1)
    (fun pre W => Lie (w.heap.size + 1) [.cells #[.int .i64 day] 3, .cells #[.int .i64 (pre.length : Int)] 3] W ∧ (∀ x ∈ pre, x.day ≤ day) ∧ Below w.heap.size w W)
    (fun c pre W => c = .exit 0 ∧ (∃ (pre' : List Iss) (x : Iss), pre = pre' ++ [x] ∧ (∀ y ∈ pre', y.day ≤ day) ∧ day < x.day ∧ Lie (w.heap.size + 1) [.cells #[.int .i64 day] 3, .cells #[.int .i64 (pre'.length : Int)] 3] W) ∧ Below w.heap.size w W)
    (fun x a' W => ∃ bx, w1.heap.size + 2 < bx ∧ W.heap[bx]? = some (.cells (issV x) 30) ∧ a' = { tmps := #[.agg (pvP p s1 (.slice a2 p.dbl.length c2)), .int .i64 day, .pointer (some ⟨w.heap.size, 0, none⟩), .pointer (some ⟨w.heap.size + 1, 0, none⟩), .int .i64 0, .pointer (some ⟨w.heap.size + 1 + 1, 0, none⟩), .pointer (some ⟨bx, 0, none⟩),
      .agg (pvP p s1 (.slice a2 p.dbl.length c2)), .func (.func 33) #[] #[.pointer (some ⟨w.heap.size + 1 + 1 + 1, 0, none⟩)], .agg (issV x), undef, undef, undef, undef, undef, undef, undef], defers := [] })
    (fun s A A' hi ht => ⟨hi.1.turn ht (by simp; omega), hi.2.1, hi.2.2.trans (ht.below hi.2.2.size (by omega))⟩)
    (fun c s A A' ⟨hc, ⟨pre', x, e1, e2, e3, hl⟩, hb⟩ ht => ⟨hc, ⟨pre', x, e1, e2, e3, hl.turn ht (by simp; omega)⟩, hb.trans (ht.below hb.size (by omega))⟩)
    (fun s A o hi => ⟨hi.1.put (by simp; omega), hi.2.1, hi.2.2.trans (put_below hi.2.2.size (by omega) o)⟩)
    (fun c s A o ⟨hc, ⟨pre', x, e1, e2, e3, hl⟩, hb⟩ => ⟨hc, ⟨pre', x, e1, e2, e3, hl.put (by simp; omega)⟩, hb.trans (put_below hb.size (by omega) o)⟩)
    (fun x a' A o ⟨bx, h1, h2, h3⟩ => ⟨bx, h1, (World.putObj_heap_other (by omega)).trans h2, h3⟩)
    ⟨hl1, by simp, hb1⟩ ?assign ?body ?done ?stop
  case assign =>
    intro pre x W K hi hsz hK
    gi_wp2
    exact hK _ _ ⟨(Below.refl _ W).alloc hi.2.2.size _, fun k _ hk => Below.heap_alloc W _ k hk⟩ ⟨hi.1.turn (B := w1.heap.size + 2) (Turn.alloc _) (by simp; omega), hi.2.1, hi.2.2.trans ((Below.refl _ W).alloc hi.2.2.size _)⟩ ⟨W.heap.size, hsz, World.alloc_heap_new W _, rfl⟩
  case body =>
    rintro pre x a' W ⟨hl, hnn, hb⟩ ⟨bx, hbx, hcx, rfl⟩ hsz hpre
    have cn : W.cell? ⟨w.heap.size + 1, 0, none⟩ = some (.int .i64 day) := (box1 (hl 0 _ rfl)).1
    have ck : W.cell? ⟨w.heap.size + 1 + 1, 0, none⟩ = some (.int .i64 (pre.length : Int)) := (box1 (hl 1 _ rfl)).1
    have fk : W.frozen? ⟨w.heap.size + 1 + 1, 0, none⟩ = false := (box1 (hl 1 _ rfl)).2
    obtain ⟨⟨x0, x1, x2, x3, x4, x5⟩, _⟩ := box6 hcx
    have h5 : pre.length + 1 ≤ 5000 := by have := hpre.length_le; have := allI_len p; simp at *; omega
    have m1 : wrap64 ((pre.length : Int) + 1) = (pre.length : Int) + 1 := by unfold wrap64; omega
    by_cases hkn : day < x.day
    · gi_wp2
      exact ⟨Keep.refl _, rfl, ⟨pre, x, rfl, hnn, hkn, hl⟩, hb⟩
    · gi_wp2
      have hk : Keep w.heap.size (KX (w.heap.size + 4) (w.heap.size + 3)) W (W.setCell ⟨w.heap.size + 1 + 1, 0, none⟩ (.int .i64 ((pre.length : Int) + 1))) := keep_set (by omega) (by unfold KX; omega)
      refine ⟨hk, ?_, fun y hy => ?_, hb.trans hk.below⟩
      · have := hl.set (i := 1) (j := 0) (v := .int .i64 ((pre.length : Int) + 1)) (by simp) (box1_set (hl 1 _ rfl))
        simpa using this
      · rcases List.mem_append.1 hy with hy | hy
        · exact hnn y hy
        · simp at hy; subst hy; omega
  case done =>
    rintro W ⟨hl, hnn, hb⟩ hD
    have ck : W.cell? ⟨w.heap.size + 1 + 1, 0, none⟩ = some (.int .i64 ((allI p).length : Int)) := (box1 (hl 1 _ rfl)).1
    gi_wp2
    refine ⟨by simp, .inl ⟨_, _, rfl, run_takeDeferred hD, ?_⟩⟩
    exact ⟨_, results_tmp rfl _ _ _, by rw [until_all hnn]; rfl, hb.trans (put_below hb.size (by omega) _)⟩
  case stop =>
    rintro c pre W hpre ⟨rfl, ⟨pre', x, rfl, e2, e3, hl⟩, hb⟩ hD
    have ck : W.cell? ⟨w.heap.size + 1 + 1, 0, none⟩ = some (.int .i64 (pre'.length : Int)) := (box1 (hl 1 _ rfl)).1
    gi_wp2
    refine ⟨by simp, .inl ⟨_, _, rfl, run_takeDeferred hD, ?_⟩⟩
    exact ⟨_, results_tmp rfl _ _ _, by rw [until_cut hpre e2 e3]; rfl, hb.trans (put_below hb.size (by omega) _)⟩

end Go.Proofs.YtfaaceakmfokoaaDoor

set_option maxRecDepth 100000
set_option linter.unusedSimpArgs false
set_option linter.unusedVariables false
namespace Go.Proofs.YtfaaceakmfokoaaDoor
open Go Ab Pl
open Go.RowKit
theorem rep_iss {w : World} {S : Nat → Nat → Prop} {x : Iss} (h : IssSm x) : Rep w S (encIss x) (.agg (issV x)) := by
  unfold IssSm at h
  rw [encIss_eq]
  refine .agg _ _ rfl (by simp [D.flat]) fun i c hc => ?_
  match i, hc with
  | 0, hc => simp at hc; subst hc; exact .int _ _ (by simp; omega)
  | 1, hc => simp at hc; subst hc; exact .int _ _ (by simp; omega)
  | 2, hc => simp at hc; subst hc; exact .int _ _ (by simp; omega)
  | 3, hc => simp at hc; subst hc; exact .int _ _ (by simp; omega)
  | 4, hc => simp at hc; subst hc; exact .int _ _ (by simp; omega)
  | 5, hc => simp at hc; subst hc; exact .int _ _ (by simp; omega)
  | i + 6, hc => simp at hc
theorem pat_open {w : World} {S : Nat → Nat → Prop} {p : Pat} {v : Value} (h : Rep w S (encPat p) v) : ∃ s1 a2 c2, v = .agg (pvP p s1 (.slice a2 p.dbl.length c2)) := by
  rw [encPat_eq] at h
  cases h with
  | agg cs vs hl hf h =>
    obtain ⟨l⟩ := vs
    match l, hl with
    | [a, b, c, d, e, f], _ =>
      have h0 := h 0 _ rfl; have h1 := h 1 _ rfl; have h2 := h 2 _ rfl; have h3 := h 3 _ rfl; have h5 := h 5 _ rfl
      simp at h0 h1 h2 h3 h5
      obtain ⟨a2, c2, rfl⟩ := rep_len h5
      cases h0; cases h1; cases h2; cases h3
      exact ⟨e, a2, c2, rfl⟩
theorem pattern_Until (p : Pat) (day : Int) (hp : PatOk p) : ACalls E.P 19 [encPat p, .int .i64 day] (.d (.int .i64 (untilR p day))) := by
  refine ⟨⟨_, Tryd.func19, by kernel_rfl, rfl⟩, fun w S vs hG hS hs hr => ?_⟩
  obtain ⟨l⟩ := vs
  match l, hs with
  | [v0, v1], _ =>
    have r0 := hr 0 _ rfl; have r1 := hr 1 _ rfl
    simp at r0 r1
    obtain ⟨s1, a2, c2, rfl⟩ := pat_open r0
    cases r1 with
    | int _ _ h1 =>
      refine (callsIn_wide.1 (Until_c ⟨hp, hG, hS, r0⟩ day)).mono ?_
      rintro e w' ⟨rfl, hb⟩
      have := until_rng p day
      exact ⟨_, rfl, hb, .int _ _ (by simp; omega)⟩

end Go.Proofs.YtfaaceakmfokoaaDoor

set_option maxRecDepth 100000
set_option linter.unusedSimpArgs false
set_option linter.unusedVariables false
namespace Go.Proofs.YtfaaceakmfokoaaDoor
open Go Ab Pl
open Go.RowKit Go.Shelf
attribute [local go_sem] Oper.semAt_some
set_option maxHeartbeats 4000000 in
theorem Nth_c {p : Pat} {s1 : Value} {a2 : Option Addr} {c2 : Nat} {S : Nat → Nat → Prop} {w : World} (h : PW p s1 (.slice a2 p.dbl.length c2) S w) (n : Int) (hn : -9223372036854775808 ≤ n ∧ n ≤ 9223372036854775807) :
    CallsIn Fence.wide 3 Tryd.prog 12 #[.agg (pvP p s1 (.slice a2 p.dbl.length c2)), .int .i64 n] w fun e W' => e = .returned (.tuple #[.agg (issV (nthR p n).1), .int .i64 (nthR p n).2]) ∧ Below w.heap.size w W' := by
  refine callsIn_of_wp_marks Tryd.func12 rfl trivial ?_ rfl
  simp only [Tryd.ntmps12, List.size_toArray, List.length_cons, List.length_nil, Nat.reduceAdd, Nat.reduceSub, Array.replicate_succ, Array.replicate_zero, List.push_toArray, List.append_toArray, List.nil_append, List.cons_append]
  gi_wp2_with (refine ⟨trivial, ?_⟩; gi_at_call 25; refine (issues_in _ rfl _).mono ?_; rintro e w' ⟨rfl, rfl⟩)
  have ha := allocs_get [.cells (pvP p s1 (.slice a2 p.dbl.length c2)) 24, .cells #[.int .i64 n] 3, .cells (issV zIss) 30, .cells #[.int .i64 0] 27, .cells #[.int .i64 0] 3, .cells (pvP p s1 (.slice a2 p.dbl.length c2)) 24] w
  have hb1 := allocs_below [.cells (pvP p s1 (.slice a2 p.dbl.length c2)) 24, .cells #[.int .i64 n] 3, .cells (issV zIss) 30, .cells #[.int .i64 0] 27, .cells #[.int .i64 0] 3, .cells (pvP p s1 (.slice a2 p.dbl.length c2)) 24] w
  have hs1 := allocs_size [.cells (pvP p s1 (.slice a2 p.dbl.length c2)) 24, .cells #[.int .i64 n] 3, .cells (issV zIss) 30, .cells #[.int .i64 0] 27, .cells #[.int .i64 0] 3, .cells (pvP p s1 (.slice a2 p.dbl.length c2)) 24] w
  change Code.wpIn _ _ _ _ _ _ (allocs w [.cells (pvP p s1 (.slice a2 p.dbl.length c2)) 24, .cells #[.int .i64 n] 3, .cells (issV zIss) 30, .cells #[.int .i64 0] 27, .cells #[.int .i64 0] 3, .cells (pvP p s1 (.slice a2 p.dbl.length c2)) 24])
  generalize allocs w [.cells (pvP p s1 (.slice a2 p.dbl.length c2)) 24, .cells #[.int .i64 n] 3, .cells (issV zIss) 30, .cells #[.int .i64 0] 27, .cells #[.int .i64 0] 3, .cells (pvP p s1 (.slice a2 p.dbl.length c2)) 24] = w1 at ha hb1 hs1 ⊢
  replace hs1 : w1.heap.size = w.heap.size + 6 := hs1
  have hp1 : w1.heap[w.heap.size + 5]? = some (.cells (pvP p s1 (.slice a2 p.dbl.length c2)) 24) := ha 5 _ rfl
  have hl1 : Lie (w.heap.size + 1) [.cells #[.int .i64 n] 3, .cells (issV zIss) 30, .cells #[.int .i64 0] 27, .cells #[.int .i64 0] 3] w1 := fun i o hi => by
    have := (List.getElem?_eq_some_iff.1 hi).1
    rw [show w.heap.size + 1 + i = w.heap.size + (i + 1) by omega]
    exact ha (i + 1) o (by match i, hi with | 0, hi => exact hi | 1, hi => exact hi | 2, hi => exact hi | 3, hi => exact hi | i + 4, hi => exact absurd this (by simp))
  refine range_X (gf := 33) (lb := #[.pointer (some ⟨w.heap.size + 5, 0, none⟩)]) (encs := fun x : Iss => #[.agg (issV x)]) (xs := allI p) (n₀ := w.heap.size) (Bp := w.heap.size + 5) rfl (enters_of Tryd.func33 (by kernel_rfl) rfl) (fun _ => rfl) (by omega) (by omega) (seq_x h hb1 hp1)
    (fun pre W => Lie (w.heap.size + 1) [.cells #[.int .i64 n] 3, .cells (issV zIss) 30, .cells #[.int .i64 0] 27, .cells #[.int .i64 (pre.length : Int)] 3] W ∧ ¬ (0 ≤ n ∧ n < (pre.length : Int)) ∧ Below w.heap.size w W)
    (fun c pre W => c = .ret ∧ (∃ (pre' : List Iss) (x : Iss), pre = pre' ++ [x] ∧ n = (pre'.length : Int) ∧ Lie (w.heap.size + 2) [.cells (issV x) 30, .cells #[.int .i64 0] 27] W) ∧ Below w.heap.size w W)
    (fun x a' W => ∃ bx, w1.heap.size + 2 < bx ∧ W.heap[bx]? = some (.cells (issV x) 30) ∧ a' = { tmps := #[.agg (pvP p s1 (.slice a2 p.dbl.length c2)), .int .i64 n, .pointer (some ⟨w.heap.size, 0, none⟩), .pointer (some ⟨w.heap.size + 1, 0, none⟩), .pointer (some ⟨w.heap.size + 1 + 1, 0, none⟩), .pointer (some ⟨w.heap.size + 1 + 1 + 1, 0, none⟩), .pointer (some ⟨w.heap.size + 1 + 1 + 1 + 1, 0, none⟩), .pointer (some ⟨bx, 0, none⟩),
      .agg (pvP p s1 (.slice a2 p.dbl.length c2)), .func (.func 33) #[] #[.pointer (some ⟨w.heap.size + 1 + 1 + 1 + 1 + 1, 0, none⟩)], .agg (issV x), undef, undef, undef, undef, undef, undef, undef], defers := [] })
    (fun s A A' hi ht => ⟨hi.1.turn ht (by simp; omega), hi.2.1, hi.2.2.trans (ht.below hi.2.2.size (by omega))⟩)
    (fun c s A A' ⟨hc, ⟨pre', x, e1, e2, hl⟩, hb⟩ ht => ⟨hc, ⟨pre', x, e1, e2, hl.turn ht (by simp; omega)⟩, hb.trans (ht.below hb.size (by omega))⟩)
    (fun s A o hi => ⟨hi.1.put (by simp; omega), hi.2.1, hi.2.2.trans (put_below hi.2.2.size (by omega) o)⟩)
    (fun c s A o ⟨hc, ⟨pre', x, e1, e2, hl⟩, hb⟩ => ⟨hc, ⟨pre', x, e1, e2, hl.put (by simp; omega)⟩, hb.trans (put_below hb.size (by omega) o)⟩)
    (fun x a' A o ⟨bx, h1, h2, h3⟩ => ⟨bx, h1, (World.putObj_heap_other (by omega)).trans h2, h3⟩)
    ⟨hl1, by simp, hb1⟩ ?assign ?body ?done ?stop
  case assign =>
    intro pre x W K hi hsz hK
    gi_wp2
    exact hK _ _ ⟨(Below.refl _ W).alloc hi.2.2.size _, fun k _ hk => Below.heap_alloc W _ k hk⟩ ⟨hi.1.turn (B := w1.heap.size + 2) (Turn.alloc _) (by simp; omega), hi.2.1, hi.2.2.trans ((Below.refl _ W).alloc hi.2.2.size _)⟩ ⟨W.heap.size, hsz, World.alloc_heap_new W _, rfl⟩
  case body =>
    rintro pre x a' W ⟨hl, hnn, hb⟩ ⟨bx, hbx, hcx, rfl⟩ hsz hpre
    have cn : W.cell? ⟨w.heap.size + 1, 0, none⟩ = some (.int .i64 n) := (box1 (hl 0 _ rfl)).1
    have ck : W.cell? ⟨w.heap.size + 1 + 1 + 1 + 1, 0, none⟩ = some (.int .i64 (pre.length : Int)) := (box1 (hl 3 _ rfl)).1
    have fk : W.frozen? ⟨w.heap.size + 1 + 1 + 1 + 1, 0, none⟩ = false := (box1 (hl 3 _ rfl)).2
    obtain ⟨⟨x0, x1, x2, x3, x4, x5⟩, _⟩ := box6 hcx
    have b6 := box6 (b := w.heap.size + 1 + 1) (hl 1 _ rfl)
    obtain ⟨⟨z0, z1, z2, z3, z4, z5⟩, f0, f1, f2, f3, f4, f5⟩ := b6
    have ce : W.cell? ⟨w.heap.size + 1 + 1 + 1, 0, none⟩ = some (.int .i64 0) := (box1 (hl 2 _ rfl)).1
    have fe : W.frozen? ⟨w.heap.size + 1 + 1 + 1, 0, none⟩ = false := (box1 (hl 2 _ rfl)).2
    by_cases hkn : (pre.length : Int) = n
    · gi_wp2
      have hk : Keep w.heap.size (KX w1.heap.size (w.heap.size + 5)) W ((set6 W (w.heap.size + 1 + 1) x).setCell ⟨w.heap.size + 1 + 1 + 1, 0, none⟩ (.int .i64 0)) :=
        (set6_keep (by omega) (by unfold KX; omega) x).trans (keep_set (by omega) (by unfold KX; omega))
      refine ⟨hk, rfl, ⟨pre, x, rfl, hkn.symm, fun i o hi => ?_⟩, hb.trans hk.below⟩
      match i, hi with
      | 0, hi =>
        cases hi
        exact (set_other (by simp)).trans (set6_at (b := w.heap.size + 1 + 1) (hl 1 _ rfl) x)
      | 1, hi =>
        cases hi
        exact box1_set ((set6_other (by omega) x).trans (hl 2 _ rfl))
      | i + 2, hi => simp at hi
    · have h5 : pre.length + 1 ≤ 5000 := by have := hpre.length_le; have := allI_len p; simp at *; omega
      have m1 : wrap64 ((pre.length : Int) + 1) = (pre.length : Int) + 1 := by unfold wrap64; omega
      gi_wp2
      have hk : Keep w.heap.size (KX w1.heap.size (w.heap.size + 5)) W (W.setCell ⟨w.heap.size + 1 + 1 + 1 + 1, 0, none⟩ (.int .i64 ((pre.length : Int) + 1))) := keep_set (by omega) (by unfold KX; omega)
      refine ⟨hk, ?_, by simp; omega, hb.trans hk.below⟩
      have := hl.set (i := 3) (j := 0) (v := .int .i64 ((pre.length : Int) + 1)) (by simp) (box1_set (hl 3 _ rfl))
      simpa using this
  case done =>
    rintro W ⟨hl, hnn, hb⟩ hD
    obtain ⟨⟨z0, z1, z2, z3, z4, z5⟩, f0, f1, f2, f3, f4, f5⟩ := box6 (b := w.heap.size + 1 + 1) (hl 1 _ rfl)
    have ce : W.cell? ⟨w.heap.size + 1 + 1 + 1, 0, none⟩ = some (.int .i64 0) := (box1 (hl 2 _ rfl)).1
    have fe : W.frozen? ⟨w.heap.size + 1 + 1 + 1, 0, none⟩ = false := (box1 (hl 2 _ rfl)).2
    gi_wp2
    obtain ⟨V, hV⟩ : ∃ V, (set6 W (w.heap.size + 1 + 1) zIss).setCell ⟨w.heap.size + 1 + 1 + 1, 0, none⟩ (.int .i64 2) = V := ⟨_, rfl⟩
    have h6 : V.heap[w.heap.size + 1 + 1]? = some (.cells (issV zIss) 30) := by rw [← hV]; exact (set_other (by simp)).trans (set6_at (b := w.heap.size + 1 + 1) (hl 1 _ rfl) zIss)
    have he : V.heap[w.heap.size + 1 + 1 + 1]? = some (.cells #[.int .i64 2] 27) := by rw [← hV]; exact box1_set ((set6_other (by omega) zIss).trans (hl 2 _ rfl))
    have hD' : V.heap[w1.heap.size]? = some (.deferred (some [])) := by rw [← hV]; exact (set_other (by simp; omega)).trans ((set6_other (by omega) zIss).trans hD)
    have hbV : Below w.heap.size w V := by
      rw [← hV]; exact hb.trans ((set6_keep (K := fun _ => False) (by omega) (fun h => h) zIss).trans (keep_set (by omega) (fun h => h))).below
    change bodyPostM _ _ _ _ _ _ _ ((set6 W (w.heap.size + 1 + 1) zIss).setCell ⟨w.heap.size + 1 + 1 + 1, 0, none⟩ (.int .i64 2))
    rw [hV]
    refine ⟨by simp, .inl ⟨_, _, rfl, run_takeDeferred hD', ?_⟩⟩
    obtain ⟨⟨y0, y1, y2, y3, y4, y5⟩, _⟩ := box6 (x := zIss) (W := V.putObj w1.heap.size (.deferred none)) ((World.putObj_heap_other (by omega)).trans h6)
    have ye := (box1 (W := V.putObj w1.heap.size (.deferred none)) ((World.putObj_heap_other (by omega)).trans he)).1
    refine ⟨.tuple #[.agg (issV zIss), .int .i64 2], ?_, by rw [nth_miss hnn], hbV.trans (put_below hbV.size (by omega) _)⟩
    simp [results, Tryd.f12, go_sem, y0, y1, y2, y3, y4, y5, ye]
  case stop =>
    rintro c pre W hpre ⟨rfl, ⟨pre', x, rfl, rfl, hl⟩, hb⟩ hD
    gi_wp2
    refine ⟨by simp, .inl ⟨_, _, rfl, run_takeDeferred hD, ?_⟩⟩
    obtain ⟨⟨y0, y1, y2, y3, y4, y5⟩, _⟩ := box6 (b := w.heap.size + 1 + 1) (x := x) (W := W.putObj w1.heap.size (.deferred none)) ((World.putObj_heap_other (by omega)).trans (hl 0 _ rfl))
    have ye := (box1 (b := w.heap.size + 1 + 1 + 1) (W := W.putObj w1.heap.size (.deferred none)) ((World.putObj_heap_other (by omega)).trans (hl 1 _ rfl))).1
    refine ⟨.tuple #[.agg (issV x), .int .i64 0], ?_, by rw [nth_hit hpre], hb.trans (put_below hb.size (by omega) _)⟩
    simp [results, Tryd.f12, go_sem, y0, y1, y2, y3, y4, y5, ye]

end Go.Proofs.YtfaaceakmfokoaaDoor

set_option maxRecDepth 100000
set_option linter.unusedSimpArgs false
set_option linter.unusedVariables false
namespace Go.Proofs.YtfaaceakmfokoaaDoor
open Go Ab Pl
open Go.RowKit
theorem pattern_Nth (p : Pat) (n : Int) (hp : PatOk p) : ACalls E.P 12 [encPat p, .int .i64 n] (.tup [encIss (nthR p n).1, .int .i64 (nthR p n).2]) := by
  refine ⟨⟨_, Tryd.func12, by kernel_rfl, rfl⟩, fun w S vs hG hS hs hr => ?_⟩
  obtain ⟨l⟩ := vs
  match l, hs with
  | [v0, v1], _ =>
    have r0 := hr 0 _ rfl; have r1 := hr 1 _ rfl
    simp at r0 r1
    obtain ⟨s1, a2, c2, rfl⟩ := pat_open r0
    cases r1 with
    | int _ _ h1 =>
      refine (callsIn_wide.1 (Nth_c ⟨hp, hG, hS, r0⟩ n (by simpa using h1))).mono ?_
      rintro e w' ⟨rfl, hb⟩
      have hsm := nth_sm hp n
      refine ⟨_, rfl, hb, _, rfl, rfl, fun i d hi => ?_⟩
      match i, hi with
      | 0, hi => simp at hi; subst hi; exact rep_iss hsm.1
      | 1, hi => simp at hi; subst hi; exact .int _ _ (by simp; omega)
      | i + 2, hi => simp at hi

end Go.Proofs.YtfaaceakmfokoaaDoor
