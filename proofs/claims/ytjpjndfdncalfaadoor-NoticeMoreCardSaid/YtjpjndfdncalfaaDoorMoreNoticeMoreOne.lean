/-
  What the functions compute that the statement reaches: contracts, and the plain laws between them. Conditions stand at each theorem.
-/
import Derived.Test.YtjpjndfdncalfaaDoorWalkSix
set_option linter.unusedVariables false
set_option linter.unusedSimpArgs false
/- Notices: sorted; all; more. -/
namespace Pl
open Go Ab
set_option linter.unusedVariables false
theorem dueN_srt (c : Circ) (a : Int) : Srt (dueN c a) := (stabM_srt _).1
theorem dueN_sp (c : Circ) (a : Int) : SP (dueL c a) (dueN c a) := (stabM_srt _).2
/-- Two neighbours of a sorted list. -/
theorem srt_two {l : List Note} (h : Srt l) {i j : Nat} {x y : Note} (hx : l[i]? = some x) (hy : l[j]? = some y) (hij : i < j) :
    ¬ (y.patron < x.patron ∨ (x.patron = y.patron ∧ (y.kind < x.kind ∨ (x.kind = y.kind ∧ y.item < x.item)))) := by
  obtain ⟨hi, rfl⟩ := List.getElem?_eq_some_iff.1 hx
  obtain ⟨hj, rfl⟩ := List.getElem?_eq_some_iff.1 hy
  have h2 := List.pairwise_iff_getElem.1 h i j hi hj hij
  intro hn
  rw [Bool.eq_false_iff] at h2
  exact h2 ((ltN_iff _ _).2 (by omega))

def kin (k : Int) (l : List Note) : Nat := l.countP (fun n => decide (n.kind = k))
theorem noCF_kin : ∀ (l : List Note) (c : Cnt), (∀ n ∈ l, 1 ≤ n.kind ∧ n.kind ≤ 4) → noCF c l = ⟨c.c0, c.c1 + kin 1 l, c.c2 + kin 2 l, c.c3 + kin 3 l, c.c4 + kin 4 l⟩
  | [], c, _ => by simp [noCF, kin]
  | x :: l, c, h => by
    have hx := h x List.mem_cons_self
    rw [noCF, noCF_kin l _ (fun n hn => h n (List.mem_cons_of_mem _ hn))]
    rcases (by omega : x.kind = 1 ∨ x.kind = 2 ∨ x.kind = 3 ∨ x.kind = 4) with e | e | e | e <;> simp [bump, kin, e, List.countP_cons] <;> omega
theorem kin_app (k : Int) (a b : List Note) : kin k (a ++ b) = kin k a + kin k b := List.countP_append ..
theorem kin_perm {a b : List Note} (h : a.Perm b) (k : Int) : kin k a = kin k b := h.countP_eq _
def rcN (l : List Loan) : Nat := l.countP (fun x => x.rcl)
def ltC (t : Int) (l : List Loan) : Nat := l.countP (fun x => decide (x.due < t))
def rdN (l : List Hld) : Nat := l.countP (fun x => decide (x.st = 3))
theorem rcN_cons (x : Loan) (l : List Loan) : rcN (x :: l) = rcN l + if x.rcl = true then 1 else 0 := by unfold rcN; rw [List.countP_cons]
theorem ltC_cons (t : Int) (x : Loan) (l : List Loan) : ltC t (x :: l) = ltC t l + if x.due < t then 1 else 0 := by unfold ltC; rw [List.countP_cons]; simp
theorem rdN_cons (x : Hld) (l : List Hld) : rdN (x :: l) = rdN l + if x.st = 3 then 1 else 0 := by unfold rdN; rw [List.countP_cons]; simp
theorem kin_loan (x : Loan) (t a : Int) (hd : isDay x.due = true) (ht : isDay t = true) :
    kin 4 (loanN x t a) = (if x.rcl = true then 1 else 0) ∧ kin 2 (loanN x t a) = (if x.due < t then 1 else 0) ∧ kin 3 (loanN x t a) = 0 ∧
    kin 1 (loanN x t a) + (if x.due < t then 1 else 0) ≤ 1 ∧ (a < 0 → kin 1 (loanN x t a) = 0) ∧ (∀ n ∈ loanN x t a, 1 ≤ n.kind ∧ n.kind ≤ 4) := by
  have hw : IntKind.i64.wrap (x.due - t) = x.due - t := by
    simp only [isDay, Bool.and_eq_true, decide_eq_true_iff] at hd ht
    exact wrap_i64 (by omega) (by omega)
  unfold loanN
  rw [hw]
  by_cases h1 : x.rcl = true
  · rw [if_pos h1, if_pos h1]
    by_cases h2 : x.due < t
    · rw [if_pos h2, if_pos h2]; simp [kin]
    · rw [if_neg h2, if_neg h2]
      by_cases h3 : x.due - t ≤ a
      · rw [if_pos h3]; simp [kin]; omega
      · rw [if_neg h3]; simp [kin]
  · rw [if_neg h1, if_neg h1]
    by_cases h2 : x.due < t
    · rw [if_pos h2, if_pos h2]; simp [kin]
    · rw [if_neg h2, if_neg h2]
      by_cases h3 : x.due - t ≤ a
      · rw [if_pos h3]; simp [kin]; omega
      · rw [if_neg h3]; simp [kin]
theorem kin_loans (t a : Int) (ht : isDay t = true) : ∀ l : List Loan, (∀ n ∈ l, isDay n.due = true) →
    kin 4 (lnsN l t a) = rcN l ∧ kin 2 (lnsN l t a) = ltC t l ∧ kin 3 (lnsN l t a) = 0 ∧ kin 1 (lnsN l t a) + ltC t l ≤ l.length ∧ (a < 0 → kin 1 (lnsN l t a) = 0) ∧ (∀ n ∈ lnsN l t a, 1 ≤ n.kind ∧ n.kind ≤ 4)
  | [], _ => by simp [lnsN, kin, rcN, ltC]
  | x :: l, h => by
    obtain ⟨h1, h2, h3, h4, h5, h6⟩ := kin_loans t a ht l (fun n hn => h n (List.mem_cons_of_mem _ hn))
    obtain ⟨k1, k2, k3, k4, k5, k6⟩ := kin_loan x t a (h x List.mem_cons_self) ht
    have e : lnsN (x :: l) t a = loanN x t a ++ lnsN l t a := by simp [lnsN]
    rw [e, kin_app, kin_app, kin_app, kin_app, rcN_cons, ltC_cons, k1, k2, h1, h2, h3, k3]
    refine ⟨by omega, by omega, rfl, ?_, fun ha => by rw [h5 ha, k5 ha], fun n hn => ?_⟩
    · rw [List.length_cons]; omega
    · rcases List.mem_append.1 hn with hn | hn
      · exact k6 n hn
      · exact h6 n hn
theorem kin_holds : ∀ l : List Hld, kin 4 (l.flatMap hldN) = 0 ∧ kin 2 (l.flatMap hldN) = 0 ∧ kin 3 (l.flatMap hldN) = rdN l ∧ kin 1 (l.flatMap hldN) = 0 ∧ (∀ n ∈ l.flatMap hldN, 1 ≤ n.kind ∧ n.kind ≤ 4)
  | [] => by simp [kin, rdN]
  | x :: l => by
    obtain ⟨h1, h2, h3, h4, h6⟩ := kin_holds l
    rw [List.flatMap_cons, kin_app, kin_app, kin_app, kin_app, rdN_cons, h1, h2, h3, h4]
    by_cases h : x.st = 3
    · rw [hldN_y h, if_pos h]
      refine ⟨by simp [kin], by simp [kin], by simp [kin]; omega, by simp [kin], fun n hn => ?_⟩
      rcases List.mem_append.1 hn with hn | hn
      · simp at hn; subst hn; simp
      · exact h6 n hn
    · rw [hldN_n h, if_neg h]
      refine ⟨by simp [kin], by simp [kin], by simp [kin], by simp [kin], fun n hn => h6 n (by simpa using hn)⟩
theorem noCN_due {c : Circ} (hP : RigP c) (a : Int) : ∃ s : Nat, noCN (dueN c a) = ⟨0, (s : Int), (ltC c.today c.loans : Int), (rdN c.holds : Int), (rcN c.loans : Int)⟩ ∧ s + ltC c.today c.loans ≤ c.loans.length ∧ (a < 0 → s = 0) := by
  obtain ⟨h1, h2, h3, h4, h5, h6⟩ := kin_loans c.today a hP.day c.loans hP.due
  obtain ⟨k1, k2, k3, k4, k6⟩ := kin_holds c.holds
  have hp := (dueN_sp c a).perm
  have hk : ∀ n ∈ dueN c a, 1 ≤ n.kind ∧ n.kind ≤ 4 := fun n hn => by
    rcases List.mem_append.1 (hp.mem_iff.1 hn) with hn | hn
    · exact h6 n hn
    · exact k6 n hn
  refine ⟨kin 1 (lnsN c.loans c.today a), ?_, h4, h5⟩
  rw [noCN, noCF_kin _ _ hk, kin_perm hp, kin_perm hp, kin_perm hp, kin_perm hp, dueL, kin_app, kin_app, kin_app, kin_app, h1, h2, h3, k1, k2, k3, k4]
  simp
end Pl

/- Notices: recalled, late and ready loans counted; looking further ahead; the notices patron by patron. -/
namespace Pl
open Go Ab
set_option linter.unusedVariables false
def raF (t : Int) : Int × Int → List Loan → Int × Int
  | p, [] => p
  | p, x :: l => raF t (if x.rcl = true then p.1 + 1 else p.1, if x.due < t then p.2 + 1 else p.2) l
theorem raF_eq (t : Int) : ∀ (l : List Loan) (p : Int × Int), raF t p l = (p.1 + rcN l, p.2 + ltC t l)
  | [], p => by simp [raF, rcN, ltC]
  | x :: l, p => by
    rw [raF, raF_eq t l, rcN_cons, ltC_cons]
    refine Prod.ext ?_ ?_
    · dsimp only; split <;> omega
    · dsimp only; split <;> omega
def rdF : Int → List Hld → Int
  | u, [] => u
  | u, x :: l => rdF (if x.st = 3 then u + 1 else u) l
theorem rdF_eq : ∀ (l : List Hld) (u : Int), rdF u l = u + rdN l
  | [], u => by simp [rdF, rdN]
  | x :: l, u => by rw [rdF, rdF_eq l, rdN_cons]; split <;> omega

/-! Looking further ahead. -/
theorem loanN_sub {x : Loan} {t a m : Int} (h : a ≤ m) : (∀ n ∈ loanN x t a, n ∈ loanN x t m) ∧ (loanN x t a).length ≤ (loanN x t m).length := by
  unfold loanN
  by_cases h2 : x.due < t
  · rw [if_pos h2, if_pos h2]; exact ⟨fun n hn => hn, Nat.le_refl _⟩
  · rw [if_neg h2, if_neg h2]
    by_cases h3 : IntKind.i64.wrap (x.due - t) ≤ a
    · rw [if_pos h3, if_pos (show IntKind.i64.wrap (x.due - t) ≤ m by omega)]; exact ⟨fun n hn => hn, Nat.le_refl _⟩
    · rw [if_neg h3, List.append_nil]
      exact ⟨fun n hn => List.mem_append_left _ hn, by rw [List.length_append]; omega⟩
theorem lnsN_sub {t a m : Int} (h : a ≤ m) : ∀ l : List Loan, (∀ n ∈ lnsN l t a, n ∈ lnsN l t m) ∧ (lnsN l t a).length ≤ (lnsN l t m).length
  | [] => by simp [lnsN]
  | x :: l => by
    have h1 := lnsN_sub (t := t) h l
    have h2 := loanN_sub (x := x) (t := t) h
    simp only [lnsN, List.flatMap_cons] at h1 ⊢
    refine ⟨fun n hn => ?_, by rw [List.length_append, List.length_append]; omega⟩
    rcases List.mem_append.1 hn with hn | hn
    · exact List.mem_append_left _ (h2.1 n hn)
    · exact List.mem_append_right _ (h1.1 n hn)
theorem due_more {c : Circ} {a m : Int} (h : a ≤ m) : (∀ n ∈ dueN c a, n ∈ dueN c m) ∧ (dueN c a).length ≤ (dueN c m).length := by
  have h1 := lnsN_sub (t := c.today) h c.loans
  refine ⟨fun n hn => ?_, ?_⟩
  · have h2 := (dueN_sp c a).mem.1 hn
    refine (dueN_sp c m).mem.2 ?_
    rcases List.mem_append.1 h2 with h2 | h2
    · exact List.mem_append_left _ (h1.1 n h2)
    · exact List.mem_append_right _ h2
  · rw [(dueN_sp c a).len, (dueN_sp c m).len, dueL, dueL, List.length_append, List.length_append]; omega
def anF (x : Note) : Bool → List Note → Bool
  | f, [] => f
  | f, y :: l => anF x (if f = true then true else decide (x = y)) l
theorem anF_true (x : Note) : ∀ l : List Note, anF x true l = true
  | [] => rfl
  | y :: l => by rw [anF, if_pos rfl, anF_true x l]
theorem anF_mem {x : Note} : ∀ {l : List Note}, x ∈ l → anF x false l = true
  | y :: l, h => by
    rw [anF, if_neg (by simp)]
    by_cases e : x = y
    · rw [decide_eq_true e]; exact anF_true x l
    · rw [decide_eq_false e]
      rcases List.mem_cons.1 h with h | h
      · exact absurd h e
      · exact anF_mem h

/-! Patron by patron. -/
def PS (l : List Note) : Prop := l.Pairwise (fun x y => x.patron ≤ y.patron)
theorem Srt.ps {l : List Note} (h : Srt l) : PS l := by
  refine List.Pairwise.imp (fun {x y} hxy => ?_) h
  rw [Bool.eq_false_iff] at hxy
  rcases Int.lt_or_le y.patron x.patron with hl | hl
  · exact absurd ((ltN_iff _ _).2 (.inl hl)) hxy
  · exact hl
theorem grp {q p : Int} (hqp : q < p) : ∀ l : List Note, PS l → (∀ n ∈ l, ¬ (q < n.patron ∧ n.patron < p)) →
    l.filter (fun n => decide (n.patron ≤ q)) ++ l.filter (fun n => decide (n.patron = p)) = l.filter (fun n => decide (n.patron ≤ p))
  | [], _, _ => rfl
  | x :: l, hs, hn => by
    obtain ⟨h1, h2⟩ := List.pairwise_cons.1 hs
    have ih := grp hqp l h2 (fun n h => hn n (List.mem_cons_of_mem _ h))
    have hx := hn x List.mem_cons_self
    by_cases c1 : x.patron ≤ q
    · have c2 : ¬ x.patron = p := by omega
      have c3 : x.patron ≤ p := by omega
      simp only [List.filter_cons, c1, c2, c3, decide_true, decide_false, if_true, List.cons_append, Bool.false_eq_true, if_false]
      rw [ih]
    · have hf : l.filter (fun n => decide (n.patron ≤ q)) = [] := by
        rw [List.filter_eq_nil_iff]
        intro n h
        have := h1 n h
        simp; omega
      rw [hf, List.nil_append] at ih
      have hf2 : (x :: l).filter (fun n => decide (n.patron ≤ q)) = [] := by rw [List.filter_cons, hf]; simp [c1]
      rw [hf2, List.nil_append]
      by_cases c2 : x.patron = p
      · simp only [List.filter_cons]
        rw [if_pos (by simp [c2]), if_pos (by simp; omega), ih]
      · simp only [List.filter_cons]
        rw [if_neg (by simp [c2]), if_neg (by simp; omega), ih]
def outK (l : List Note) (k : Nat) : List Note := if k = 0 then [] else l.filter (fun n => decide (n.patron ≤ (l.getD (k - 1) zn).patron))
theorem outK_len (l : List Note) (k : Nat) : (outK l k).length ≤ l.length := by
  unfold outK; split
  · simp
  · exact List.length_filter_le _ _
theorem outK_S {l : List Note} {k : Nat} {x : Note} (hx : l[k]? = some x) : outK l (k + 1) = l.filter (fun n => decide (n.patron ≤ x.patron)) := by
  unfold outK
  rw [if_neg (by omega), Nat.add_sub_cancel, List.getD_eq_getElem?_getD, hx]; rfl
theorem ps_at {l : List Note} (h : PS l) {i j : Nat} {x y : Note} (hx : l[i]? = some x) (hy : l[j]? = some y) (hij : i < j) : x.patron ≤ y.patron := by
  obtain ⟨hi, rfl⟩ := List.getElem?_eq_some_iff.1 hx
  obtain ⟨hj, rfl⟩ := List.getElem?_eq_some_iff.1 hy
  exact List.pairwise_iff_getElem.1 h i j hi hj hij
theorem out_same {l : List Note} {k p : Nat} {x y : Note} (hk : k = p + 1) (hx : l[p]? = some x) (hy : l[k]? = some y) (e : y.patron = x.patron) : outK l (k + 1) = outK l k := by
  rw [outK_S hy]; subst hk; rw [outK_S hx, e]
theorem out_new {l : List Note} (h : PS l) {k p : Nat} {x y : Note} (hk : k = p + 1) (hx : l[p]? = some x) (hy : l[k]? = some y) (e : ¬ y.patron = x.patron) : outK l k ++ forN l y.patron = outK l (k + 1) := by
  have hle := ps_at h hx hy (by omega)
  rw [outK_S hy]; subst hk; rw [outK_S hx, forN_eq]
  refine grp (by omega) l h (fun n hn hb => ?_)
  obtain ⟨i, hi, rfl⟩ := List.getElem_of_mem hn
  rcases Nat.lt_or_ge p i with hpi | hpi
  · rcases Nat.lt_or_ge (p + 1) i with hq | hq
    · have := ps_at h hy (List.getElem?_eq_getElem hi) hq; omega
    · obtain rfl : i = p + 1 := by omega
      rw [List.getElem?_eq_getElem hi] at hy
      obtain rfl := Option.some.inj hy
      omega
  · rcases Nat.lt_or_ge i p with hq | hq
    · have := ps_at h (List.getElem?_eq_getElem hi) hx hq; omega
    · obtain rfl : i = p := by omega
      rw [List.getElem?_eq_getElem hi] at hx
      obtain rfl := Option.some.inj hx
      omega
theorem out_first {l : List Note} (h : PS l) {y : Note} (hy : l[0]? = some y) : outK l 0 ++ forN l y.patron = outK l (0 + 1) := by
  rw [outK_S hy, forN_eq]
  unfold outK
  rw [if_pos rfl, List.nil_append]
  refine List.filter_congr fun n hn => ?_
  obtain ⟨i, hi, rfl⟩ := List.getElem_of_mem hn
  have : y.patron ≤ (l[i]).patron := by
    rcases Nat.eq_zero_or_pos i with e | e
    · subst e
      rw [List.getElem?_eq_getElem hi] at hy
      obtain rfl := Option.some.inj hy
      exact Int.le_refl _
    · exact ps_at h hy (List.getElem?_eq_getElem hi) e
  exact decide_eq_decide.2 (by omega)
theorem out_all {l : List Note} (h : PS l) : outK l l.length = l := by
  unfold outK
  split
  · rename_i e; exact (List.eq_nil_of_length_eq_zero e).symm
  · rename_i e
    rw [List.filter_eq_self]
    intro n hn
    obtain ⟨i, hi, rfl⟩ := List.getElem_of_mem hn
    have hl : l[l.length - 1]? = some (l[l.length - 1]'(by omega)) := List.getElem?_eq_getElem (by omega)
    rw [List.getD_eq_getElem?_getD, hl]
    simp only [Option.getD_some, decide_eq_true_iff]
    rcases Nat.lt_or_ge i (l.length - 1) with hq | hq
    · exact ps_at h (List.getElem?_eq_getElem hi) hl hq
    · have : i = l.length - 1 := by omega
      subst this; exact Int.le_refl _
end Pl
namespace Pl
@[simp] theorem outK_zero (l : List Note) : outK l 0 = [] := if_pos rfl
end Pl

set_option maxRecDepth 100000
set_option linter.unusedSimpArgs false
set_option linter.unusedVariables false
namespace Go.Proofs.YtjpjndfdncalfaaDoor
open Go Ab Pl
theorem ref03_Is (n : Int) : ACalls E.P 21 [.int .i64 n] (.d (.bool (isDay n))) := by
  refine ACalls.intro E_ok Tryd.func21 rfl rfl Tryd.ntmps21 Tryd.results21 (Nat.le_of_ble_eq_true rfl) fun hok base S0 w0 => ?_
  -- region 0
  refine AWp.rseq E_ok [0, 2] fun K hK => ?_
  simp
  repeat refine ⟨by first | omega | assumption | (simp only [maxLen]; omega) | (intros; omega) | decide, ?_⟩
  refine hK _ ?_
  clear hK K
  -- region 1
  refine AWp.rseq E_ok [0, 2] fun K hK => ?_
  simp
  repeat refine ⟨by first | omega | assumption | (simp only [maxLen]; omega) | (intros; omega) | decide, ?_⟩
  refine hK _ ?_
  clear hK K
  refine AWp.ret ?_
  repeat first | refine thenN ?_ | refine thenX ?_ | refine thenR ?_ | refine blockN ?_ | refine blockR ?_ | refine blockX ?_ | refine blockM rfl ?_
  simp [RetOk, RV, isDay]
end Go.Proofs.YtjpjndfdncalfaaDoor

set_option maxRecDepth 100000
set_option linter.unusedSimpArgs false
set_option linter.unusedVariables false
namespace Go.Proofs.YtjpjndfdncalfaaDoor
open Go Ab Pl
theorem ref35_Right (c : Circ) : ACalls E.P 10 [encCirc c] (.d (.bool (rigC c))) := by
  refine ACalls.intro E_ok Tryd.func10 rfl rfl Tryd.ntmps10 Tryd.results10 (Nat.le_of_ble_eq_true rfl) fun hok base S0 w0 => ?_
  -- region 0
  refine AWp.rseq E_ok [0, 1, 2, 3, 4, 20, 25, 35, 40, 50] fun K hK => ?_
  simp [encCirc_eq, encLoans_eq, encLoan_eq, encHlds_eq, encHld_eq]
  repeat refine ⟨by first | omega | assumption | (simp only [maxLen]; omega) | (intros; omega) | decide, ?_⟩
  refine hK _ ?_
  clear hK K
  refine AWp.seq ?_
  -- region 1
  refine AWp.rseq E_ok [0, 1, 2, 3, 4, 20, 25, 35, 40, 50] fun K hK => ?_
  simp [encCirc_eq, encLoans_eq, encLoan_eq, encHlds_eq, encHld_eq]
  repeat refine ⟨by first | omega | assumption | (simp only [maxLen]; omega) | (intros; omega) | decide, ?_⟩
  refine meet.of (ref03_Is c.today) ?_
  simp [encCirc_eq, encLoans_eq, encLoan_eq, encHlds_eq, encHld_eq]
  repeat refine ⟨by first | omega | assumption | (simp only [maxLen]; omega) | (intros; omega) | decide, ?_⟩
  refine hK _ ?_
  clear hK K
  refine AWp.cond rfl (fun h20 => ?_) (fun h20 => ?_)
  · try simp at h20
    have hb : rigC c = false := rigC_a (by rcases h20 with (h | h) | h <;> first | exact .inl (by omega) | exact .inr (.inl (by omega)) | exact .inr (.inr (by simpa using h)))
    -- region 2
    refine AWp.rseq E_ok [0, 1, 2, 3, 4, 20, 25, 35, 40, 50] fun K hK => ?_
    simp [encCirc_eq, encLoans_eq, encLoan_eq, encHlds_eq, encHld_eq]
    repeat refine ⟨by first | omega | assumption | (simp only [maxLen]; omega) | (intros; omega) | decide, ?_⟩
    refine hK _ ?_
    clear hK K
    refine AWp.ret ?_
    repeat first | refine thenN ?_ | refine thenX ?_ | refine thenR ?_ | refine blockN ?_ | refine blockR ?_ | refine blockX ?_ | refine blockM rfl ?_
    simp [RetOk, RV, hb]
  · try simp at h20
    have hr : (c.loans.length ≤ 60 ∧ c.holds.length ≤ 60) ∧ isDay c.today = true := ⟨by omega, h20.2⟩
    refine AWp.skip ?_
    repeat first | refine thenN ?_ | refine thenX ?_ | refine thenR ?_ | refine blockN ?_ | refine blockR ?_ | refine blockX ?_ | refine blockM rfl ?_
    refine AWp.seq ?_
    -- region 3
    refine AWp.rseq E_ok [0, 1, 2, 3, 4, 20, 25, 35, 40, 50] fun K hK => ?_
    simp [encCirc_eq, encLoans_eq, encLoan_eq, encHlds_eq, encHld_eq]
    repeat refine ⟨by first | omega | assumption | (simp only [maxLen]; omega) | (intros; omega) | decide, ?_⟩
    refine hK _ ?_
    clear hK K
    refine AWp.block ?_
    refine AWp.range (l := c.loans) (F := rlF) (tot := rlF () c.loans) (fun k y => match y with | () => True) (fun k y => match y with | () => [(0, T.val (D.agg [D.int IntKind.i64 c.today, encItms c.items, encPatrs c.patrons, (D.agg [D.int IntKind.i64 zLoan.item, D.int IntKind.i64 zLoan.patron, D.int IntKind.i64 zLoan.out, D.int IntKind.i64 zLoan.due, D.int IntKind.i64 zLoan.ren, D.bool zLoan.rcl]).slice (List.map encLoan c.loans), (D.agg [D.int IntKind.i64 zHld.id, D.int IntKind.i64 zHld.patron, D.int IntKind.i64 zHld.rcd, D.int IntKind.i64 zHld.item, D.int IntKind.i64 zHld.pick, D.int IntKind.i64 zHld.placed, D.int IntKind.i64 zHld.st, D.int IntKind.i64 zHld.got, D.int IntKind.i64 zHld.til, D.int IntKind.i64 zHld.asleep, D.int IntKind.i64 zHld.rank]).slice (List.map encHld c.holds), encCharges c.charges, encRules c.rules, D.int IntKind.i64 c.cals.c0.week, encInts c.cals.c0.closed, D.int IntKind.i64 c.cals.c1.week, encInts c.cals.c1.closed, D.int IntKind.i64 c.cals.c2.week, encInts c.cals.c2.closed, D.int IntKind.i64 c.cals.c3.week, encInts c.cals.c3.closed, encMoves c.moves, D.int IntKind.i64 c.nh, D.int IntKind.i64 c.nc, D.bool c.loc])), (1, T.box [C.d (D.int IntKind.i64 c.today), C.d (encItms c.items), C.d (encPatrs c.patrons), C.d ((D.agg [D.int IntKind.i64 zLoan.item, D.int IntKind.i64 zLoan.patron, D.int IntKind.i64 zLoan.out, D.int IntKind.i64 zLoan.due, D.int IntKind.i64 zLoan.ren, D.bool zLoan.rcl]).slice (List.map encLoan c.loans)), C.d ((D.agg [D.int IntKind.i64 zHld.id, D.int IntKind.i64 zHld.patron, D.int IntKind.i64 zHld.rcd, D.int IntKind.i64 zHld.item, D.int IntKind.i64 zHld.pick, D.int IntKind.i64 zHld.placed, D.int IntKind.i64 zHld.st, D.int IntKind.i64 zHld.got, D.int IntKind.i64 zHld.til, D.int IntKind.i64 zHld.asleep, D.int IntKind.i64 zHld.rank]).slice (List.map encHld c.holds)), C.d (encCharges c.charges), C.d (encRules c.rules), C.d (D.int IntKind.i64 c.cals.c0.week), C.d (encInts c.cals.c0.closed), C.d (D.int IntKind.i64 c.cals.c1.week), C.d (encInts c.cals.c1.closed), C.d (D.int IntKind.i64 c.cals.c2.week), C.d (encInts c.cals.c2.closed), C.d (D.int IntKind.i64 c.cals.c3.week), C.d (encInts c.cals.c3.closed), C.d (encMoves c.moves), C.d (D.int IntKind.i64 c.nh), C.d (D.int IntKind.i64 c.nc), C.d (D.bool c.loc)]), (3, T.val (.int .i64 k))]) () ?_ rfl ?_ ?_
    · simp [Weak, TW, encCirc_eq, encLoans_eq, encLoan_eq, encHlds_eq, encHld_eq]
    · first | exact trivial | (simp; omega) | simp
    rintro k ⟨⟩ hk hs hi
    try simp only at hi
    refine AWp.seq ?_
    -- region 4
    refine AWp.rseq E_ok [0, 1, 2, 3, 4, 20, 25, 35, 40, 50] fun K hK => ?_
    simp [encCirc_eq, encLoans_eq, encLoan_eq, encHlds_eq, encHld_eq]
    repeat refine ⟨by first | omega | assumption | (simp only [maxLen]; omega) | (intros; omega) | decide, ?_⟩
    refine hK _ ?_
    clear hK K
    refine AWp.cond rfl (fun h25 => ?_) (fun h25 => ?_)
    · try simp at h25
      obtain ⟨x, hx, hxx, hd⟩ := at_indexG (l := c.loans) h25
      rw [hd] at hs
      refine AWp.skip ?_
      repeat first | refine thenN ?_ | refine thenX ?_ | refine thenR ?_ | refine blockN ?_ | refine blockR ?_ | refine blockX ?_ | refine blockM rfl ?_
      refine AWp.seq ?_
      refine AWp.block ?_
      -- region 6
      refine AWp.rseq E_ok [0, 1, 2, 3, 4, 20, 25, 35, 40, 50] fun K hK => ?_
      simp [encCirc_eq, encLoans_eq, encLoan_eq, encHlds_eq, encHld_eq, h25, hx, hxx]
      repeat refine ⟨by first | omega | assumption | (simp only [maxLen]; omega) | (intros; omega) | decide, ?_⟩
      refine meet.of (ref03_Is x.due) ?_
      simp [encCirc_eq, encLoans_eq, encLoan_eq, encHlds_eq, encHld_eq, h25, hx, hxx]
      repeat refine ⟨by first | omega | assumption | (simp only [maxLen]; omega) | (intros; omega) | decide, ?_⟩
      refine hK _ ?_
      clear hK K
      refine AWp.cond rfl (fun h35 => ?_) (fun h35 => ?_)
      · try simp at h35
        rw [rlF, if_neg (by simpa using h35)] at hs
        have hb : rigC c = false := rigC_l hs.symm
        -- region 7
        refine AWp.rseq E_ok [0, 1, 2, 3, 4, 20, 25, 35, 40, 50] fun K hK => ?_
        simp [encCirc_eq, encLoans_eq, encLoan_eq, encHlds_eq, encHld_eq, h25, hx, hxx]
        repeat refine ⟨by first | omega | assumption | (simp only [maxLen]; omega) | (intros; omega) | decide, ?_⟩
        refine hK _ ?_
        clear hK K
        refine AWp.ret ?_
        repeat first | refine thenN ?_ | refine thenX ?_ | refine thenR ?_ | refine blockN ?_ | refine blockR ?_ | refine blockX ?_ | refine blockM rfl ?_
        simp [RetOk, RV, hb]
      · try simp at h35
        rw [rlF, if_pos (by simpa using h35)] at hs
        refine AWp.skip ?_
        repeat first | refine thenN ?_ | refine thenX ?_ | refine thenR ?_ | refine blockN ?_ | refine blockR ?_ | refine blockX ?_ | refine blockM rfl ?_
        -- region 5
        refine AWp.rend E_ok [0, 1, 2, 3, 4, 20, 25, 35, 40, 50] fun K hK => ?_
        simp [encCirc_eq, encLoans_eq, encLoan_eq, encHlds_eq, encHld_eq, h25, hx, hxx]
        repeat refine ⟨by first | omega | assumption | (simp only [maxLen]; omega) | (intros; omega) | decide, ?_⟩
        refine hK _ ?_
        clear hK K
        repeat first | refine thenN ?_ | refine thenX ?_ | refine thenR ?_ | refine blockN ?_ | refine blockR ?_ | refine blockX ?_ | refine blockM rfl ?_
        have hw : IntKind.i64.wrap ((k : Int) + 1) = (k : Int) + 1 := by rw [wrap_i64] <;> omega
        skip
        refine ⟨_, h25, hs, ?_, ?_⟩
        · first | exact trivial | (simp; omega) | simp
        · simp [Weak, TW, hw, encCirc_eq, encLoans_eq, encLoan_eq, encHlds_eq, encHld_eq]
    · try simp at h25
      obtain rfl : k = c.loans.length := by omega
      rw [List.drop_length] at hs
      simp only [rlF] at hs
      have hL := hs.symm
      refine AWp.exit ?_
      repeat first | refine thenN ?_ | refine thenX ?_ | refine thenR ?_ | refine blockN ?_ | refine blockR ?_ | refine blockX ?_ | refine blockM rfl ?_
      refine AWp.seq ?_
      -- region 8
      refine AWp.rseq E_ok [0, 1, 2, 3, 4, 20, 25, 35, 40, 50] fun K hK => ?_
      simp [encCirc_eq, encLoans_eq, encLoan_eq, encHlds_eq, encHld_eq, h25]
      repeat refine ⟨by first | omega | assumption | (simp only [maxLen]; omega) | (intros; omega) | decide, ?_⟩
      refine hK _ ?_
      clear hK K
      refine AWp.block ?_
      refine AWp.range (l := c.holds) (F := rhF) (tot := rhF () c.holds) (fun k y => match y with | () => True) (fun k y => match y with | () => [(0, T.val (D.agg [D.int IntKind.i64 c.today, encItms c.items, encPatrs c.patrons, (D.agg [D.int IntKind.i64 zLoan.item, D.int IntKind.i64 zLoan.patron, D.int IntKind.i64 zLoan.out, D.int IntKind.i64 zLoan.due, D.int IntKind.i64 zLoan.ren, D.bool zLoan.rcl]).slice (List.map encLoan c.loans), (D.agg [D.int IntKind.i64 zHld.id, D.int IntKind.i64 zHld.patron, D.int IntKind.i64 zHld.rcd, D.int IntKind.i64 zHld.item, D.int IntKind.i64 zHld.pick, D.int IntKind.i64 zHld.placed, D.int IntKind.i64 zHld.st, D.int IntKind.i64 zHld.got, D.int IntKind.i64 zHld.til, D.int IntKind.i64 zHld.asleep, D.int IntKind.i64 zHld.rank]).slice (List.map encHld c.holds), encCharges c.charges, encRules c.rules, D.int IntKind.i64 c.cals.c0.week, encInts c.cals.c0.closed, D.int IntKind.i64 c.cals.c1.week, encInts c.cals.c1.closed, D.int IntKind.i64 c.cals.c2.week, encInts c.cals.c2.closed, D.int IntKind.i64 c.cals.c3.week, encInts c.cals.c3.closed, encMoves c.moves, D.int IntKind.i64 c.nh, D.int IntKind.i64 c.nc, D.bool c.loc])), (1, T.box [C.d (D.int IntKind.i64 c.today), C.d (encItms c.items), C.d (encPatrs c.patrons), C.d ((D.agg [D.int IntKind.i64 zLoan.item, D.int IntKind.i64 zLoan.patron, D.int IntKind.i64 zLoan.out, D.int IntKind.i64 zLoan.due, D.int IntKind.i64 zLoan.ren, D.bool zLoan.rcl]).slice (List.map encLoan c.loans)), C.d ((D.agg [D.int IntKind.i64 zHld.id, D.int IntKind.i64 zHld.patron, D.int IntKind.i64 zHld.rcd, D.int IntKind.i64 zHld.item, D.int IntKind.i64 zHld.pick, D.int IntKind.i64 zHld.placed, D.int IntKind.i64 zHld.st, D.int IntKind.i64 zHld.got, D.int IntKind.i64 zHld.til, D.int IntKind.i64 zHld.asleep, D.int IntKind.i64 zHld.rank]).slice (List.map encHld c.holds)), C.d (encCharges c.charges), C.d (encRules c.rules), C.d (D.int IntKind.i64 c.cals.c0.week), C.d (encInts c.cals.c0.closed), C.d (D.int IntKind.i64 c.cals.c1.week), C.d (encInts c.cals.c1.closed), C.d (D.int IntKind.i64 c.cals.c2.week), C.d (encInts c.cals.c2.closed), C.d (D.int IntKind.i64 c.cals.c3.week), C.d (encInts c.cals.c3.closed), C.d (encMoves c.moves), C.d (D.int IntKind.i64 c.nh), C.d (D.int IntKind.i64 c.nc), C.d (D.bool c.loc)]), (4, T.val (.int .i64 k))]) () ?_ rfl ?_ ?_
      · simp [Weak, TW, encCirc_eq, encLoans_eq, encLoan_eq, encHlds_eq, encHld_eq]
      · first | exact trivial | (simp; omega) | simp
      rintro k ⟨⟩ hk hs hi
      try simp only at hi
      refine AWp.seq ?_
      -- region 9
      refine AWp.rseq E_ok [0, 1, 2, 3, 4, 20, 25, 35, 40, 50] fun K hK => ?_
      simp [encCirc_eq, encLoans_eq, encLoan_eq, encHlds_eq, encHld_eq, h25]
      repeat refine ⟨by first | omega | assumption | (simp only [maxLen]; omega) | (intros; omega) | decide, ?_⟩
      refine hK _ ?_
      clear hK K
      refine AWp.cond rfl (fun h40 => ?_) (fun h40 => ?_)
      · try simp at h40
        obtain ⟨x, hx, hxx, hd⟩ := at_indexG (l := c.holds) h40
        rw [hd] at hs
        refine AWp.skip ?_
        repeat first | refine thenN ?_ | refine thenX ?_ | refine thenR ?_ | refine blockN ?_ | refine blockR ?_ | refine blockX ?_ | refine blockM rfl ?_
        refine AWp.seq ?_
        refine AWp.block ?_
        -- region 11
        refine AWp.rseq E_ok [0, 1, 2, 3, 4, 20, 25, 35, 40, 50] fun K hK => ?_
        simp [encCirc_eq, encLoans_eq, encLoan_eq, encHlds_eq, encHld_eq, h25, h40, hx, hxx]
        repeat refine ⟨by first | omega | assumption | (simp only [maxLen]; omega) | (intros; omega) | decide, ?_⟩
        refine meet.of (ref03_Is x.til) ?_
        simp [encCirc_eq, encLoans_eq, encLoan_eq, encHlds_eq, encHld_eq, h25, h40, hx, hxx]
        repeat refine ⟨by first | omega | assumption | (simp only [maxLen]; omega) | (intros; omega) | decide, ?_⟩
        refine hK _ ?_
        clear hK K
        refine AWp.cond rfl (fun h50 => ?_) (fun h50 => ?_)
        · try simp at h50
          rw [rhF, if_neg (by simpa using h50)] at hs
          have hb : rigC c = false := rigC_h hs.symm
          -- region 12
          refine AWp.rseq E_ok [0, 1, 2, 3, 4, 20, 25, 35, 40, 50] fun K hK => ?_
          simp [encCirc_eq, encLoans_eq, encLoan_eq, encHlds_eq, encHld_eq, h25, h40, hx, hxx]
          repeat refine ⟨by first | omega | assumption | (simp only [maxLen]; omega) | (intros; omega) | decide, ?_⟩
          refine hK _ ?_
          clear hK K
          refine AWp.ret ?_
          repeat first | refine thenN ?_ | refine thenX ?_ | refine thenR ?_ | refine blockN ?_ | refine blockR ?_ | refine blockX ?_ | refine blockM rfl ?_
          simp [RetOk, RV, hb]
        · try simp at h50
          rw [rhF, if_pos (by simpa using h50)] at hs
          refine AWp.skip ?_
          repeat first | refine thenN ?_ | refine thenX ?_ | refine thenR ?_ | refine blockN ?_ | refine blockR ?_ | refine blockX ?_ | refine blockM rfl ?_
          -- region 10
          refine AWp.rend E_ok [0, 1, 2, 3, 4, 20, 25, 35, 40, 50] fun K hK => ?_
          simp [encCirc_eq, encLoans_eq, encLoan_eq, encHlds_eq, encHld_eq, h25, h40, hx, hxx]
          repeat refine ⟨by first | omega | assumption | (simp only [maxLen]; omega) | (intros; omega) | decide, ?_⟩
          refine hK _ ?_
          clear hK K
          repeat first | refine thenN ?_ | refine thenX ?_ | refine thenR ?_ | refine blockN ?_ | refine blockR ?_ | refine blockX ?_ | refine blockM rfl ?_
          have hw : IntKind.i64.wrap ((k : Int) + 1) = (k : Int) + 1 := by rw [wrap_i64] <;> omega
          skip
          refine ⟨_, h40, hs, ?_, ?_⟩
          · first | exact trivial | (simp; omega) | simp
          · simp [Weak, TW, hw, encCirc_eq, encLoans_eq, encLoan_eq, encHlds_eq, encHld_eq]
      · try simp at h40
        obtain rfl : k = c.holds.length := by omega
        rw [List.drop_length] at hs
        simp only [rhF] at hs
        have hb : rigC c = true := rigC_t hr.1.1 hr.1.2 hr.2 hL hs.symm
        refine AWp.exit ?_
        repeat first | refine thenN ?_ | refine thenX ?_ | refine thenR ?_ | refine blockN ?_ | refine blockR ?_ | refine blockX ?_ | refine blockM rfl ?_
        -- region 13
        refine AWp.rseq E_ok [0, 1, 2, 3, 4, 20, 25, 35, 40, 50] fun K hK => ?_
        simp [encCirc_eq, encLoans_eq, encLoan_eq, encHlds_eq, encHld_eq, h25, h40]
        repeat refine ⟨by first | omega | assumption | (simp only [maxLen]; omega) | (intros; omega) | decide, ?_⟩
        refine hK _ ?_
        clear hK K
        refine AWp.ret ?_
        repeat first | refine thenN ?_ | refine thenX ?_ | refine thenR ?_ | refine blockN ?_ | refine blockR ?_ | refine blockX ?_ | refine blockM rfl ?_
        simp [RetOk, RV, hb]
end Go.Proofs.YtjpjndfdncalfaaDoor

set_option maxRecDepth 100000
set_option linter.unusedSimpArgs false
set_option linter.unusedVariables false
namespace Go.Proofs.YtjpjndfdncalfaaDoor
open Go Ab Pl
theorem ref35_notice (k p i d : Int) : ACalls E.P 28 [.int .i64 k, .int .i64 p, .int .i64 i, .int .i64 d] (.d (encNote ⟨k, p, i, d⟩)) := by
  refine ACalls.intro E_ok Tryd.func28 rfl rfl Tryd.ntmps28 Tryd.results28 (Nat.le_of_ble_eq_true rfl) fun hok base S0 w0 => ?_
  -- region 0
  refine AWp.rseq E_ok [0, 1, 2, 3, 8] fun K hK => ?_
  simp [encNote_eq]
  repeat refine ⟨by first | omega | assumption | (simp only [maxLen]; omega) | (intros; omega) | decide, ?_⟩
  refine hK _ ?_
  clear hK K
  -- region 1
  refine AWp.rseq E_ok [0, 1, 2, 3, 8] fun K hK => ?_
  simp [encNote_eq]
  repeat refine ⟨by first | omega | assumption | (simp only [maxLen]; omega) | (intros; omega) | decide, ?_⟩
  refine hK _ ?_
  clear hK K
  refine AWp.ret ?_
  repeat first | refine thenN ?_ | refine thenX ?_ | refine thenR ?_ | refine blockN ?_ | refine blockR ?_ | refine blockX ?_ | refine blockM rfl ?_
  simp [RetOk, RV, encNote_eq]
end Go.Proofs.YtjpjndfdncalfaaDoor

set_option maxRecDepth 100000
set_option linter.unusedSimpArgs false
set_option linter.unusedVariables false
namespace Go.Proofs.YtjpjndfdncalfaaDoor
open Go Ab Pl
theorem ref35_Before (a b : Note) : ACalls E.P 38 [encNote a, encNote b] (.d (.bool (ltN a b))) := by
  refine ACalls.intro E_ok Tryd.func38 rfl rfl Tryd.ntmps38 Tryd.results38 (Nat.le_of_ble_eq_true rfl) fun hok base S0 w0 => ?_
  -- region 0
  refine AWp.rseq E_ok [0, 1, 2, 3, 4, 9, 19] fun K hK => ?_
  simp [encNote_eq]
  repeat refine ⟨by first | omega | assumption | (simp only [maxLen]; omega) | (intros; omega) | decide, ?_⟩
  refine hK _ ?_
  clear hK K
  refine AWp.seq ?_
  -- region 1
  refine AWp.rseq E_ok [0, 1, 2, 3, 4, 9, 19] fun K hK => ?_
  simp [encNote_eq]
  repeat refine ⟨by first | omega | assumption | (simp only [maxLen]; omega) | (intros; omega) | decide, ?_⟩
  refine hK _ ?_
  clear hK K
  refine AWp.cond rfl (fun h9 => ?_) (fun h9 => ?_)
  · try simp at h9
    have hb := ltN_d1 (a := a) (b := b) h9
    -- region 2
    refine AWp.rseq E_ok [0, 1, 2, 3, 4, 9, 19] fun K hK => ?_
    simp [encNote_eq, h9]
    repeat refine ⟨by first | omega | assumption | (simp only [maxLen]; omega) | (intros; omega) | decide, ?_⟩
    refine hK _ ?_
    clear hK K
    refine AWp.ret ?_
    repeat first | refine thenN ?_ | refine thenX ?_ | refine thenR ?_ | refine blockN ?_ | refine blockR ?_ | refine blockX ?_ | refine blockM rfl ?_
    simp [RetOk, RV, hb]
  · try simp at h9
    refine AWp.skip ?_
    repeat first | refine thenN ?_ | refine thenX ?_ | refine thenR ?_ | refine blockN ?_ | refine blockR ?_ | refine blockX ?_ | refine blockM rfl ?_
    refine AWp.seq ?_
    -- region 3
    refine AWp.rseq E_ok [0, 1, 2, 3, 4, 9, 19] fun K hK => ?_
    simp [encNote_eq, h9]
    repeat refine ⟨by first | omega | assumption | (simp only [maxLen]; omega) | (intros; omega) | decide, ?_⟩
    refine hK _ ?_
    clear hK K
    refine AWp.cond rfl (fun h19 => ?_) (fun h19 => ?_)
    · try simp at h19
      have hb := ltN_d2 (a := a) (b := b) (by omega) h19
      -- region 4
      refine AWp.rseq E_ok [0, 1, 2, 3, 4, 9, 19] fun K hK => ?_
      simp [encNote_eq, h9, h19]
      repeat refine ⟨by first | omega | assumption | (simp only [maxLen]; omega) | (intros; omega) | decide, ?_⟩
      refine hK _ ?_
      clear hK K
      refine AWp.ret ?_
      repeat first | refine thenN ?_ | refine thenX ?_ | refine thenR ?_ | refine blockN ?_ | refine blockR ?_ | refine blockX ?_ | refine blockM rfl ?_
      simp [RetOk, RV, hb]
    · try simp at h19
      have hb := ltN_d3 (a := a) (b := b) (by omega) (by omega)
      refine AWp.skip ?_
      repeat first | refine thenN ?_ | refine thenX ?_ | refine thenR ?_ | refine blockN ?_ | refine blockR ?_ | refine blockX ?_ | refine blockM rfl ?_
      -- region 5
      refine AWp.rseq E_ok [0, 1, 2, 3, 4, 9, 19] fun K hK => ?_
      simp [encNote_eq, h9, h19]
      repeat refine ⟨by first | omega | assumption | (simp only [maxLen]; omega) | (intros; omega) | decide, ?_⟩
      refine hK _ ?_
      clear hK K
      refine AWp.ret ?_
      repeat first | refine thenN ?_ | refine thenX ?_ | refine thenR ?_ | refine blockN ?_ | refine blockR ?_ | refine blockX ?_ | refine blockM rfl ?_
      simp [RetOk, RV, hb]
end Go.Proofs.YtjpjndfdncalfaaDoor

set_option maxRecDepth 100000
set_option linter.unusedSimpArgs false
set_option linter.unusedVariables false
namespace Go.Proofs.YtjpjndfdncalfaaDoor
open Go Ab Pl
@[simp] noncomputable def zt27x1 : D := (D.agg [D.int IntKind.i64 (0 : Int), D.int IntKind.i64 (0 : Int), D.int IntKind.i64 (0 : Int), D.int IntKind.i64 (0 : Int)])
@[simp] noncomputable def zt27x2 (n : Note) : D := (D.agg [D.int IntKind.i64 n.kind, D.int IntKind.i64 n.patron, D.int IntKind.i64 n.item, D.int IntKind.i64 n.day])
@[simp] noncomputable def zt27x3 (n : Note) : List C := [C.d (D.int IntKind.i64 n.kind), C.d (D.int IntKind.i64 n.patron), C.d (D.int IntKind.i64 n.item), C.d (D.int IntKind.i64 n.day)]
set_option maxHeartbeats 4000000 in
theorem ref35_Put (l : List Note) (n : Note) (hl : l.length ≤ 1000000) : ACalls E.P 27 [encNotes l, encNote n] (.own (encNote zn) (noteL (putN l n))) := by
  refine ACalls.intro E_ok Tryd.func27 rfl rfl Tryd.ntmps27 Tryd.results27 (Nat.le_of_ble_eq_true rfl) fun hok base S0 w0 => ?_
  -- region 0
  refine AWp.rseq E_ok [0, 1, 3, 4, 5, 6, 19] fun K hK => ?_
  simp [encNotes_map, encNote_eq, zn]
  repeat refine ⟨by first | omega | assumption | (simp only [maxLen]; omega) | (intros; omega) | decide, ?_⟩
  refine hK _ ?_
  clear hK K
  -- region 1
  refine AWp.rseq E_ok [0, 1, 3, 4, 5, 6, 19] fun K hK => ?_
  simp [encNotes_map, encNote_eq, zn]
  repeat refine ⟨by first | omega | assumption | (simp only [maxLen]; omega) | (intros; omega) | decide, ?_⟩
  refine hK _ ?_
  clear hK K
  refine AWp.seq ?_
  refine AWp.block ?_
  refine AWp.loop (ι := { k : Nat // k ≤ l.length ∧ putK l n k = putK l n l.length }) (fun x => match x with | ⟨k, hk, heq⟩ => [(0, T.val ((D.agg [D.int IntKind.i64 0, D.int IntKind.i64 0, D.int IntKind.i64 0, D.int IntKind.i64 0]).slice (List.map encNote l))), (1, T.val (zt27x2 n)), (3, T.box (zt27x3 n)), (5, T.val (.int .i64 (k : Int)))]) (fun x => match x with | ⟨k, hk, heq⟩ => k) ⟨l.length, Nat.le_refl _, rfl⟩ ?_ ?_
  · simp [Weak, TW, encNotes_map, encNote_eq, zn]
  rintro ⟨k, hk, heq⟩
  simp only
  try simp only at hk
  try simp only at heq
  refine AWp.seq ?_
  rcases Nat.eq_zero_or_pos k with hk0 | hk0
  · skip
    skip
    -- region 2, every order
    refine AWp.rseqS E_ok mixed [0, 1, 3, 4, 5, 6, 19] (n := 11) (l := #[false, false, false, false, false, false, false, false, false, false, false]) rfl (by kernel_rfl) fun K hK => ?_
    suffices hnext : K [(0, T.val ((zt27x1).slice (List.map encNote l))), (1, T.val (zt27x2 n)), (3, T.box (zt27x3 n)), (4, T.junk), (5, T.val (D.int IntKind.i64 (0 : Int))), (6, T.junk), (19, T.val (D.bool false))] by
      refine contS.cut 0 #[true, true, true, true, true, true, true, true, true, true, true] [(0, T.val ((zt27x1).slice (List.map encNote l))), (1, T.val (zt27x2 n)), (3, T.box (zt27x3 n)), (5, T.val (D.int IntKind.i64 (0 : Int))), (19, T.val (D.bool false))] ?_ fun h_3_8_9_ => ?_
      · skip
        refine coreS.nil (by kernel_rfl) ?_
        simpa [encNotes_map, encNote_eq, zn] using hnext
      refine contS.cut 2 #[true, true, true, true, true, true, true, true, true, false, false] [(0, T.val ((zt27x1).slice (List.map encNote l))), (1, T.val (zt27x2 n)), (3, T.box (zt27x3 n)), (5, T.val (D.int IntKind.i64 (0 : Int))), (11, T.val (D.bool false)), (12, T.opt [false] (T.val (zt27x2 n))), (17, T.opt [false] (T.val (D.agg (List.take 4 ((Option.map encNote l[(IntKind.i64.wrap (-1 : Int)).toNat]?).getD (zt27x1)).cells))))] ?_ fun h_3_8 => ?_
      · skip
        refine coreS.step E_ok [9] (by kernel_rfl) (by simp) ?_
        refine anyS.cons rfl ?_ ?_
        · skip
          simp [encNotes_map, encNote_eq, zn, hk0]
          repeat refine ⟨by first | omega | assumption | (simp only [maxLen]; omega) | (intros; omega) | decide, ?_⟩
          refine meet.ofG (fun hz => by first | exact ref35_Before n y | exact (absurd hz (by simp) : ACalls E.P _ _ (.d (.bool false)))) ?_
          simp [encNotes_map, encNote_eq, zn, hk0]
          repeat refine ⟨by first | omega | assumption | (simp only [maxLen]; omega) | (intros; omega) | decide, ?_⟩
          refine contS.now (f' := 1) (l' := #[true, true, true, true, true, true, true, true, true, true, false]) ?_ rfl (by kernel_rfl)
          refine coreS.dry E_ok (by kernel_rfl) 10 rfl rfl (by kernel_rfl) (by kernel_rfl) ?_
          simp [encNotes_map, encNote_eq, zn, hk0]
          repeat refine ⟨by first | omega | assumption | (simp only [maxLen]; omega) | (intros; omega) | decide, ?_⟩
          exact contS.mk (by simp [Weak, TW, T.plain, encNotes_map, encNote_eq, zn]) h_3_8_9_ (by kernel_rfl)
        exact anyS.nil
      refine contS.cut 3 #[true, true, true, true, true, true, true, true, false, false, false] [(0, T.val ((zt27x1).slice (List.map encNote l))), (1, T.val (zt27x2 n)), (3, T.box (zt27x3 n)), (5, T.val (D.int IntKind.i64 (0 : Int))), (11, T.val (D.bool false)), (12, T.opt [false] (T.val (zt27x2 n))), (16, T.opt [false] (T.val (D.ref ((Option.map encNote l[(IntKind.i64.wrap (-1 : Int)).toNat]?).getD (zt27x1)).cells)))] ?_ fun h_3 => ?_
      · skip
        refine coreS.step E_ok [8] (by kernel_rfl) (by simp) ?_
        refine anyS.cons rfl ?_ ?_
        · skip
          simp [encNotes_map, encNote_eq, zn, hk0]
          repeat refine ⟨by first | omega | assumption | (simp only [maxLen]; omega) | (intros; omega) | decide, ?_⟩
          exact contS.mk (by simp [Weak, TW, T.plain, encNotes_map, encNote_eq, zn]) h_3_8 (by kernel_rfl)
        exact anyS.nil
      refine contS.cut 3 #[true, true, true, false, true, true, true, true, true, false, false] [(0, T.val ((zt27x1).slice (List.map encNote l))), (1, T.val (zt27x2 n)), (3, T.box (zt27x3 n)), (5, T.val (D.int IntKind.i64 (0 : Int))), (11, T.val (D.bool false)), (17, T.opt [false] (T.val (D.agg (List.take 4 ((Option.map encNote l[(IntKind.i64.wrap (-1 : Int)).toNat]?).getD (zt27x1)).cells))))] ?_ fun h_8 => ?_
      · skip
        refine coreS.step E_ok [3] (by kernel_rfl) (by simp) ?_
        refine anyS.cons rfl ?_ ?_
        · skip
          simp [encNotes_map, encNote_eq, zn, hk0]
          repeat refine ⟨by first | omega | assumption | (simp only [maxLen]; omega) | (intros; omega) | decide, ?_⟩
          exact contS.mk (by simp [Weak, TW, T.plain, encNotes_map, encNote_eq, zn]) h_3_8 (by kernel_rfl)
        exact anyS.nil
      refine contS.cut 4 #[true, true, true, false, true, true, true, true, false, false, false] [(0, T.val ((zt27x1).slice (List.map encNote l))), (1, T.val (zt27x2 n)), (3, T.box (zt27x3 n)), (5, T.val (D.int IntKind.i64 (0 : Int))), (11, T.val (D.bool false)), (16, T.opt [false] (T.val (D.ref ((Option.map encNote l[(IntKind.i64.wrap (-1 : Int)).toNat]?).getD (zt27x1)).cells)))] ?_ fun h_ => ?_
      · skip
        refine coreS.step E_ok [3, 8] (by kernel_rfl) (by simp) ?_
        refine anyS.cons rfl ?_ ?_
        · skip
          simp [encNotes_map, encNote_eq, zn, hk0]
          repeat refine ⟨by first | omega | assumption | (simp only [maxLen]; omega) | (intros; omega) | decide, ?_⟩
          exact contS.mk (by simp [Weak, TW, T.plain, encNotes_map, encNote_eq, zn]) h_3 (by kernel_rfl)
        refine anyS.cons rfl ?_ ?_
        · skip
          simp [encNotes_map, encNote_eq, zn, hk0]
          repeat refine ⟨by first | omega | assumption | (simp only [maxLen]; omega) | (intros; omega) | decide, ?_⟩
          exact contS.mk (by simp [Weak, TW, T.plain, encNotes_map, encNote_eq, zn]) h_8 (by kernel_rfl)
        exact anyS.nil
      refine contS.now (f' := 11) (l' := #[false, false, false, false, false, false, false, false, false, false, false]) ?_ rfl (by kernel_rfl)
      refine coreS.dry E_ok (by kernel_rfl) 0 rfl rfl (by kernel_rfl) (by kernel_rfl) ?_
      simp [encNotes_map, encNote_eq, zn, hk0]
      repeat refine ⟨by first | omega | assumption | (simp only [maxLen]; omega) | (intros; omega) | decide, ?_⟩
      refine contS.now (f' := 10) (l' := #[true, false, false, false, false, false, false, false, false, false, false]) ?_ rfl (by kernel_rfl)
      refine coreS.dry E_ok (by kernel_rfl) 1 rfl rfl (by kernel_rfl) (by kernel_rfl) ?_
      simp [encNotes_map, encNote_eq, zn, hk0]
      repeat refine ⟨by first | omega | assumption | (simp only [maxLen]; omega) | (intros; omega) | decide, ?_⟩
      refine contS.now (f' := 9) (l' := #[true, true, false, false, false, false, false, false, false, false, false]) ?_ rfl (by kernel_rfl)
      refine coreS.dry E_ok (by kernel_rfl) 2 rfl rfl (by kernel_rfl) (by kernel_rfl) ?_
      simp [encNotes_map, encNote_eq, zn, hk0]
      repeat refine ⟨by first | omega | assumption | (simp only [maxLen]; omega) | (intros; omega) | decide, ?_⟩
      refine contS.now (f' := 8) (l' := #[true, true, true, false, false, false, false, false, false, false, false]) ?_ rfl (by kernel_rfl)
      refine coreS.dry E_ok (by kernel_rfl) 4 rfl rfl (by kernel_rfl) (by kernel_rfl) ?_
      simp [encNotes_map, encNote_eq, zn, hk0]
      repeat refine ⟨by first | omega | assumption | (simp only [maxLen]; omega) | (intros; omega) | decide, ?_⟩
      refine contS.now (f' := 7) (l' := #[true, true, true, false, true, false, false, false, false, false, false]) ?_ rfl (by kernel_rfl)
      refine coreS.dry E_ok (by kernel_rfl) 5 rfl rfl (by kernel_rfl) (by kernel_rfl) ?_
      simp [encNotes_map, encNote_eq, zn, hk0]
      repeat refine ⟨by first | omega | assumption | (simp only [maxLen]; omega) | (intros; omega) | decide, ?_⟩
      refine contS.now (f' := 6) (l' := #[true, true, true, false, true, true, false, false, false, false, false]) ?_ rfl (by kernel_rfl)
      refine coreS.dry E_ok (by kernel_rfl) 6 rfl rfl (by kernel_rfl) (by kernel_rfl) ?_
      simp [encNotes_map, encNote_eq, zn, hk0]
      repeat refine ⟨by first | omega | assumption | (simp only [maxLen]; omega) | (intros; omega) | decide, ?_⟩
      refine contS.now (f' := 5) (l' := #[true, true, true, false, true, true, true, false, false, false, false]) ?_ rfl (by kernel_rfl)
      refine coreS.dry E_ok (by kernel_rfl) 7 rfl rfl (by kernel_rfl) (by kernel_rfl) ?_
      simp [encNotes_map, encNote_eq, zn, hk0]
      repeat refine ⟨by first | omega | assumption | (simp only [maxLen]; omega) | (intros; omega) | decide, ?_⟩
      exact contS.mk (by simp [Weak, TW, T.plain, encNotes_map, encNote_eq, zn]) h_ (by kernel_rfl)
    refine hK _ ?_
    clear hK K
    refine AWp.cond rfl (fun h19 => ?_) (fun h19 => ?_)
    · exact absurd h19 (by simp)
    · try simp at h19
      have hfin : putN l n = l.take k ++ n :: l.drop k := by rw [putN_at, ← heq]; first | rw [putK_no (p := p) (by omega) hy (by simpa using h19)] | (rw [hk0]; rfl)
      refine AWp.exit ?_
      repeat first | refine thenN ?_ | refine thenX ?_ | refine thenR ?_ | refine blockN ?_ | refine blockR ?_ | refine blockX ?_ | refine blockM rfl ?_
      -- region 4
      refine AWp.rseq E_ok [0, 1, 3, 4, 5, 6, 19] fun K hK => ?_
      simp [encNotes_map, encNote_eq, zn, hk0]
      repeat refine ⟨by first | omega | assumption | (simp only [maxLen]; omega) | (intros; omega) | decide, ?_⟩
      refine hK _ ?_
      clear hK K
      -- region 5
      refine AWp.rseq E_ok [0, 1, 3, 4, 5, 6, 19] fun K hK => ?_
      simp [encNotes_map, encNote_eq, zn, hk0]
      repeat refine ⟨by first | omega | assumption | (simp only [maxLen]; omega) | (intros; omega) | decide, ?_⟩
      refine hK _ ?_
      clear hK K
      -- region 6
      refine AWp.rseq E_ok [0, 1, 3, 4, 5, 6, 19] fun K hK => ?_
      simp [encNotes_map, encNote_eq, zn, hk0]
      repeat refine ⟨by first | omega | assumption | (simp only [maxLen]; omega) | (intros; omega) | decide, ?_⟩
      refine hK _ ?_
      clear hK K
      refine AWp.ret ?_
      repeat first | refine thenN ?_ | refine thenX ?_ | refine thenR ?_ | refine blockN ?_ | refine blockR ?_ | refine blockX ?_ | refine blockM rfl ?_
      first | (simp [RetOk, hfin, noteL_map, encNote_eq, zn]; done) | simp [RetOk, hfin, noteL_map, encNote_eq, zn, hk0]
  · skip
    obtain ⟨p, hp⟩ : ∃ z, z = k - 1 := ⟨_, rfl⟩
    obtain ⟨y, hy⟩ : ∃ y, l[p]? = some y := ⟨_, List.getElem?_eq_getElem (by omega)⟩
    have ey : (l.map encNote)[p]? = some (.agg [.int .i64 y.kind, .int .i64 y.patron, .int .i64 y.item, .int .i64 y.day]) := by simp [hy, encNote_eq]
    have wj : IntKind.i64.wrap ((k : Int) - 1) = (p : Int) := by rw [wrap_i64 (by omega) (by omega)]; omega
    -- region 2, every order
    refine AWp.rseqS E_ok mixed [0, 1, 3, 4, 5, 6, 19] (n := 11) (l := #[false, false, false, false, false, false, false, false, false, false, false]) rfl (by kernel_rfl) fun K hK => ?_
    suffices hnext : K [(0, T.val ((zt27x1).slice (List.map encNote l))), (1, T.val (zt27x2 n)), (3, T.box (zt27x3 n)), (4, T.junk), (5, T.val (D.int IntKind.i64 ↑k)), (6, T.junk), (19, T.val (D.bool (ltN n y)))] by
      refine contS.cut 0 #[true, true, true, true, true, true, true, true, true, true, true] [(0, T.val ((zt27x1).slice (List.map encNote l))), (1, T.val (zt27x2 n)), (3, T.box (zt27x3 n)), (5, T.val (D.int IntKind.i64 ↑k)), (19, T.val (D.bool (ltN n y)))] ?_ fun h_3_8_9_ => ?_
      · skip
        refine coreS.nil (by kernel_rfl) ?_
        simpa [encNotes_map, encNote_eq, zn] using hnext
      refine contS.cut 2 #[true, true, true, true, true, true, true, true, true, false, false] [(0, T.val ((zt27x1).slice (List.map encNote l))), (1, T.val (zt27x2 n)), (3, T.box (zt27x3 n)), (5, T.val (D.int IntKind.i64 ↑k)), (11, T.val (D.bool true)), (12, T.opt [true] (T.val (zt27x2 n))), (17, T.opt [true] (T.val (D.agg [D.int IntKind.i64 y.kind, D.int IntKind.i64 y.patron, D.int IntKind.i64 y.item, D.int IntKind.i64 y.day])))] ?_ fun h_3_8 => ?_
      · skip
        refine coreS.step E_ok [9] (by kernel_rfl) (by simp) ?_
        refine anyS.cons rfl ?_ ?_
        · skip
          simp [encNotes_map, encNote_eq, zn, hk0, ey, wj]
          repeat refine ⟨by first | omega | assumption | (simp only [maxLen]; omega) | (intros; omega) | decide, ?_⟩
          refine meet.ofG (fun hz => by first | exact ref35_Before n y | exact (absurd hz (by simp) : ACalls E.P _ _ (.d (.bool false)))) ?_
          simp [encNotes_map, encNote_eq, zn, hk0, ey, wj]
          repeat refine ⟨by first | omega | assumption | (simp only [maxLen]; omega) | (intros; omega) | decide, ?_⟩
          refine contS.now (f' := 1) (l' := #[true, true, true, true, true, true, true, true, true, true, false]) ?_ rfl (by kernel_rfl)
          refine coreS.dry E_ok (by kernel_rfl) 10 rfl rfl (by kernel_rfl) (by kernel_rfl) ?_
          simp [encNotes_map, encNote_eq, zn, hk0, ey, wj]
          repeat refine ⟨by first | omega | assumption | (simp only [maxLen]; omega) | (intros; omega) | decide, ?_⟩
          exact contS.mk (by simp [Weak, TW, T.plain, encNotes_map, encNote_eq, zn]) h_3_8_9_ (by kernel_rfl)
        exact anyS.nil
      refine contS.cut 3 #[true, true, true, true, true, true, true, true, false, false, false] [(0, T.val ((zt27x1).slice (List.map encNote l))), (1, T.val (zt27x2 n)), (3, T.box (zt27x3 n)), (5, T.val (D.int IntKind.i64 ↑k)), (11, T.val (D.bool true)), (12, T.opt [true] (T.val (zt27x2 n))), (16, T.opt [true] (T.val (D.ref [D.int IntKind.i64 y.kind, D.int IntKind.i64 y.patron, D.int IntKind.i64 y.item, D.int IntKind.i64 y.day])))] ?_ fun h_3 => ?_
      · skip
        refine coreS.step E_ok [8] (by kernel_rfl) (by simp) ?_
        refine anyS.cons rfl ?_ ?_
        · skip
          simp [encNotes_map, encNote_eq, zn, hk0, ey, wj]
          repeat refine ⟨by first | omega | assumption | (simp only [maxLen]; omega) | (intros; omega) | decide, ?_⟩
          exact contS.mk (by simp [Weak, TW, T.plain, encNotes_map, encNote_eq, zn]) h_3_8 (by kernel_rfl)
        exact anyS.nil
      refine contS.cut 3 #[true, true, true, false, true, true, true, true, true, false, false] [(0, T.val ((zt27x1).slice (List.map encNote l))), (1, T.val (zt27x2 n)), (3, T.box (zt27x3 n)), (5, T.val (D.int IntKind.i64 ↑k)), (11, T.val (D.bool true)), (17, T.opt [true] (T.val (D.agg [D.int IntKind.i64 y.kind, D.int IntKind.i64 y.patron, D.int IntKind.i64 y.item, D.int IntKind.i64 y.day])))] ?_ fun h_8 => ?_
      · skip
        refine coreS.step E_ok [3] (by kernel_rfl) (by simp) ?_
        refine anyS.cons rfl ?_ ?_
        · skip
          simp [encNotes_map, encNote_eq, zn, hk0, ey, wj]
          repeat refine ⟨by first | omega | assumption | (simp only [maxLen]; omega) | (intros; omega) | decide, ?_⟩
          exact contS.mk (by simp [Weak, TW, T.plain, encNotes_map, encNote_eq, zn]) h_3_8 (by kernel_rfl)
        exact anyS.nil
      refine contS.cut 4 #[true, true, true, false, true, true, true, true, false, false, false] [(0, T.val ((zt27x1).slice (List.map encNote l))), (1, T.val (zt27x2 n)), (3, T.box (zt27x3 n)), (5, T.val (D.int IntKind.i64 ↑k)), (11, T.val (D.bool true)), (16, T.opt [true] (T.val (D.ref [D.int IntKind.i64 y.kind, D.int IntKind.i64 y.patron, D.int IntKind.i64 y.item, D.int IntKind.i64 y.day])))] ?_ fun h_ => ?_
      · skip
        refine coreS.step E_ok [3, 8] (by kernel_rfl) (by simp) ?_
        refine anyS.cons rfl ?_ ?_
        · skip
          simp [encNotes_map, encNote_eq, zn, hk0, ey, wj]
          repeat refine ⟨by first | omega | assumption | (simp only [maxLen]; omega) | (intros; omega) | decide, ?_⟩
          exact contS.mk (by simp [Weak, TW, T.plain, encNotes_map, encNote_eq, zn]) h_3 (by kernel_rfl)
        refine anyS.cons rfl ?_ ?_
        · skip
          simp [encNotes_map, encNote_eq, zn, hk0, ey, wj]
          repeat refine ⟨by first | omega | assumption | (simp only [maxLen]; omega) | (intros; omega) | decide, ?_⟩
          exact contS.mk (by simp [Weak, TW, T.plain, encNotes_map, encNote_eq, zn]) h_8 (by kernel_rfl)
        exact anyS.nil
      refine contS.now (f' := 11) (l' := #[false, false, false, false, false, false, false, false, false, false, false]) ?_ rfl (by kernel_rfl)
      refine coreS.dry E_ok (by kernel_rfl) 0 rfl rfl (by kernel_rfl) (by kernel_rfl) ?_
      simp [encNotes_map, encNote_eq, zn, hk0, ey, wj]
      repeat refine ⟨by first | omega | assumption | (simp only [maxLen]; omega) | (intros; omega) | decide, ?_⟩
      refine contS.now (f' := 10) (l' := #[true, false, false, false, false, false, false, false, false, false, false]) ?_ rfl (by kernel_rfl)
      refine coreS.dry E_ok (by kernel_rfl) 1 rfl rfl (by kernel_rfl) (by kernel_rfl) ?_
      simp [encNotes_map, encNote_eq, zn, hk0, ey, wj]
      repeat refine ⟨by first | omega | assumption | (simp only [maxLen]; omega) | (intros; omega) | decide, ?_⟩
      refine contS.now (f' := 9) (l' := #[true, true, false, false, false, false, false, false, false, false, false]) ?_ rfl (by kernel_rfl)
      refine coreS.dry E_ok (by kernel_rfl) 2 rfl rfl (by kernel_rfl) (by kernel_rfl) ?_
      simp [encNotes_map, encNote_eq, zn, hk0, ey, wj]
      repeat refine ⟨by first | omega | assumption | (simp only [maxLen]; omega) | (intros; omega) | decide, ?_⟩
      refine contS.now (f' := 8) (l' := #[true, true, true, false, false, false, false, false, false, false, false]) ?_ rfl (by kernel_rfl)
      refine coreS.dry E_ok (by kernel_rfl) 4 rfl rfl (by kernel_rfl) (by kernel_rfl) ?_
      simp [encNotes_map, encNote_eq, zn, hk0, ey, wj]
      repeat refine ⟨by first | omega | assumption | (simp only [maxLen]; omega) | (intros; omega) | decide, ?_⟩
      refine contS.now (f' := 7) (l' := #[true, true, true, false, true, false, false, false, false, false, false]) ?_ rfl (by kernel_rfl)
      refine coreS.dry E_ok (by kernel_rfl) 5 rfl rfl (by kernel_rfl) (by kernel_rfl) ?_
      simp [encNotes_map, encNote_eq, zn, hk0, ey, wj]
      repeat refine ⟨by first | omega | assumption | (simp only [maxLen]; omega) | (intros; omega) | decide, ?_⟩
      refine contS.now (f' := 6) (l' := #[true, true, true, false, true, true, false, false, false, false, false]) ?_ rfl (by kernel_rfl)
      refine coreS.dry E_ok (by kernel_rfl) 6 rfl rfl (by kernel_rfl) (by kernel_rfl) ?_
      simp [encNotes_map, encNote_eq, zn, hk0, ey, wj]
      repeat refine ⟨by first | omega | assumption | (simp only [maxLen]; omega) | (intros; omega) | decide, ?_⟩
      refine contS.now (f' := 5) (l' := #[true, true, true, false, true, true, true, false, false, false, false]) ?_ rfl (by kernel_rfl)
      refine coreS.dry E_ok (by kernel_rfl) 7 rfl rfl (by kernel_rfl) (by kernel_rfl) ?_
      simp [encNotes_map, encNote_eq, zn, hk0, ey, wj]
      repeat refine ⟨by first | omega | assumption | (simp only [maxLen]; omega) | (intros; omega) | decide, ?_⟩
      exact contS.mk (by simp [Weak, TW, T.plain, encNotes_map, encNote_eq, zn]) h_ (by kernel_rfl)
    refine hK _ ?_
    clear hK K
    refine AWp.cond rfl (fun h19 => ?_) (fun h19 => ?_)
    · try simp at h19
      have hgo := putK_go (l := l) (n := n) (k := k) (p := p) (by omega) hy h19
      refine AWp.skip ?_
      repeat first | refine thenN ?_ | refine thenX ?_ | refine thenR ?_ | refine blockN ?_ | refine blockR ?_ | refine blockX ?_ | refine blockM rfl ?_
      refine AWp.block ?_
      -- region 3
      refine AWp.rend E_ok [0, 1, 3, 4, 5, 6, 19] fun K hK => ?_
      simp [encNotes_map, encNote_eq, zn, hk0, ey, wj]
      repeat refine ⟨by first | omega | assumption | (simp only [maxLen]; omega) | (intros; omega) | decide, ?_⟩
      refine hK _ ?_
      clear hK K
      repeat first | refine thenN ?_ | refine thenX ?_ | refine thenR ?_ | refine blockN ?_ | refine blockR ?_ | refine blockX ?_ | refine blockM rfl ?_
      refine ⟨⟨p, by omega, by rw [← hgo]; exact heq⟩, ?_, by dsimp only; omega⟩
      try dsimp only
      simp [Weak, TW, wj]
    · try simp at h19
      have hfin : putN l n = l.take k ++ n :: l.drop k := by rw [putN_at, ← heq]; first | rw [putK_no (p := p) (by omega) hy (by simpa using h19)] | (rw [hk0]; rfl)
      refine AWp.exit ?_
      repeat first | refine thenN ?_ | refine thenX ?_ | refine thenR ?_ | refine blockN ?_ | refine blockR ?_ | refine blockX ?_ | refine blockM rfl ?_
      -- region 4
      refine AWp.rseq E_ok [0, 1, 3, 4, 5, 6, 19] fun K hK => ?_
      simp [encNotes_map, encNote_eq, zn, hk0, ey, wj]
      repeat refine ⟨by first | omega | assumption | (simp only [maxLen]; omega) | (intros; omega) | decide, ?_⟩
      refine hK _ ?_
      clear hK K
      -- region 5
      refine AWp.rseq E_ok [0, 1, 3, 4, 5, 6, 19] fun K hK => ?_
      simp [encNotes_map, encNote_eq, zn, hk0, ey, wj]
      repeat refine ⟨by first | omega | assumption | (simp only [maxLen]; omega) | (intros; omega) | decide, ?_⟩
      refine hK _ ?_
      clear hK K
      -- region 6
      refine AWp.rseq E_ok [0, 1, 3, 4, 5, 6, 19] fun K hK => ?_
      simp [encNotes_map, encNote_eq, zn, hk0, ey, wj]
      repeat refine ⟨by first | omega | assumption | (simp only [maxLen]; omega) | (intros; omega) | decide, ?_⟩
      refine hK _ ?_
      clear hK K
      refine AWp.ret ?_
      repeat first | refine thenN ?_ | refine thenX ?_ | refine thenR ?_ | refine blockN ?_ | refine blockR ?_ | refine blockX ?_ | refine blockM rfl ?_
      first | (simp [RetOk, hfin, noteL_map, encNote_eq, zn]; done) | simp [RetOk, hfin, noteL_map, encNote_eq, zn, hk0]
end Go.Proofs.YtjpjndfdncalfaaDoor

set_option maxRecDepth 100000
set_option linter.unusedSimpArgs false
set_option linter.unusedVariables false
namespace Go.Proofs.YtjpjndfdncalfaaDoor
open Go Ab Pl
@[simp] noncomputable def zt13x1 (c : Circ) : List C := [C.d (D.int IntKind.i64 c.today), C.d (encItms c.items), C.d (encPatrs c.patrons), C.d ((D.agg [D.int IntKind.i64 zLoan.item, D.int IntKind.i64 zLoan.patron, D.int IntKind.i64 zLoan.out, D.int IntKind.i64 zLoan.due, D.int IntKind.i64 zLoan.ren, D.bool zLoan.rcl]).slice (List.map encLoan c.loans)), C.d ((D.agg [D.int IntKind.i64 zHld.id, D.int IntKind.i64 zHld.patron, D.int IntKind.i64 zHld.rcd, D.int IntKind.i64 zHld.item, D.int IntKind.i64 zHld.pick, D.int IntKind.i64 zHld.placed, D.int IntKind.i64 zHld.st, D.int IntKind.i64 zHld.got, D.int IntKind.i64 zHld.til, D.int IntKind.i64 zHld.asleep, D.int IntKind.i64 zHld.rank]).slice (List.map encHld c.holds)), C.d (encCharges c.charges), C.d (encRules c.rules), C.d (D.int IntKind.i64 c.cals.c0.week), C.d (encInts c.cals.c0.closed), C.d (D.int IntKind.i64 c.cals.c1.week), C.d (encInts c.cals.c1.closed), C.d (D.int IntKind.i64 c.cals.c2.week), C.d (encInts c.cals.c2.closed), C.d (D.int IntKind.i64 c.cals.c3.week), C.d (encInts c.cals.c3.closed), C.d (encMoves c.moves), C.d (D.int IntKind.i64 c.nh), C.d (D.int IntKind.i64 c.nc), C.d (D.bool c.loc)]
@[simp] noncomputable def zt13x2 (c : Circ) : D := (D.agg [D.int IntKind.i64 c.today, encItms c.items, encPatrs c.patrons, (D.agg [D.int IntKind.i64 zLoan.item, D.int IntKind.i64 zLoan.patron, D.int IntKind.i64 zLoan.out, D.int IntKind.i64 zLoan.due, D.int IntKind.i64 zLoan.ren, D.bool zLoan.rcl]).slice (List.map encLoan c.loans), (D.agg [D.int IntKind.i64 zHld.id, D.int IntKind.i64 zHld.patron, D.int IntKind.i64 zHld.rcd, D.int IntKind.i64 zHld.item, D.int IntKind.i64 zHld.pick, D.int IntKind.i64 zHld.placed, D.int IntKind.i64 zHld.st, D.int IntKind.i64 zHld.got, D.int IntKind.i64 zHld.til, D.int IntKind.i64 zHld.asleep, D.int IntKind.i64 zHld.rank]).slice (List.map encHld c.holds), encCharges c.charges, encRules c.rules, D.int IntKind.i64 c.cals.c0.week, encInts c.cals.c0.closed, D.int IntKind.i64 c.cals.c1.week, encInts c.cals.c1.closed, D.int IntKind.i64 c.cals.c2.week, encInts c.cals.c2.closed, D.int IntKind.i64 c.cals.c3.week, encInts c.cals.c3.closed, encMoves c.moves, D.int IntKind.i64 c.nh, D.int IntKind.i64 c.nc, D.bool c.loc])
theorem ref35_Due (c : Circ) (a : Int) (h1 : c.loans.length ≤ 60) (h2 : c.holds.length ≤ 60) : ACalls E.P 13 [encCirc c, .int .i64 a] (.own (encNote zn) (noteL (dueN c a))) := by
  refine ACalls.intro E_ok Tryd.func13 rfl rfl Tryd.ntmps13 Tryd.results13 (Nat.le_of_ble_eq_true rfl) fun hok base S0 w0 => ?_
  -- region 0
  refine AWp.rseq E_ok [0, 1, 2, 4, 5, 6, 7, 8, 9, 15, 24, 38, 54, 68, 78] fun K hK => ?_
  simp [encCirc_eq, encLoans_eq, encLoan_eq, encHlds_eq, encHld_eq, encNotes_eq, encNote_eq, zn]
  repeat refine ⟨by first | omega | assumption | (simp only [maxLen]; omega) | (intros; omega) | decide, ?_⟩
  refine hK _ ?_
  clear hK K
  -- region 1
  refine AWp.rseq E_ok [0, 1, 2, 4, 5, 6, 7, 8, 9, 15, 24, 38, 54, 68, 78] fun K hK => ?_
  simp [encCirc_eq, encLoans_eq, encLoan_eq, encHlds_eq, encHld_eq, encNotes_eq, encNote_eq, zn]
  repeat refine ⟨by first | omega | assumption | (simp only [maxLen]; omega) | (intros; omega) | decide, ?_⟩
  refine hK _ ?_
  clear hK K
  refine AWp.seq ?_
  -- region 2
  refine AWp.rseq E_ok [0, 1, 2, 4, 5, 6, 7, 8, 9, 15, 24, 38, 54, 68, 78] fun K hK => ?_
  simp [encCirc_eq, encLoans_eq, encLoan_eq, encHlds_eq, encHld_eq, encNotes_eq, encNote_eq, zn]
  repeat refine ⟨by first | omega | assumption | (simp only [maxLen]; omega) | (intros; omega) | decide, ?_⟩
  refine hK _ ?_
  clear hK K
  refine AWp.block ?_
  refine AWp.range (l := c.loans) (F := lnP c.today a) (tot := lnP c.today a [] c.loans) (fun k y => match y with | o => o.length ≤ 2 * k) (fun k y => match y with | o => [(0, T.val (zt13x2 c)), (1, T.val (D.int IntKind.i64 a)), (2, T.box (zt13x1 c)), (5, T.own true (encNote zn) (noteL o)), (6, T.val (.int .i64 k))]) ([]) ?_ rfl ?_ ?_
  · simp [Weak, TW, encCirc_eq, encLoans_eq, encLoan_eq, encHlds_eq, encHld_eq, encNotes_eq, encNote_eq, zn]
  · simp
  rintro k o hk hs hi
  try simp only at hi
  refine AWp.seq ?_
  -- region 3
  refine AWp.rseq E_ok [0, 1, 2, 4, 5, 6, 7, 8, 9, 15, 24, 38, 54, 68, 78] fun K hK => ?_
  simp [encCirc_eq, encLoans_eq, encLoan_eq, encHlds_eq, encHld_eq, encNotes_eq, encNote_eq, zn]
  repeat refine ⟨by first | omega | assumption | (simp only [maxLen]; omega) | (intros; omega) | decide, ?_⟩
  refine hK _ ?_
  clear hK K
  refine AWp.cond rfl (fun h15 => ?_) (fun h15 => ?_)
  · try simp at h15
    obtain ⟨x, hx, hxx, hd⟩ := at_indexG (l := c.loans) h15
    rw [hd] at hs
    obtain ⟨o1, ho1⟩ : ∃ z, z = (if x.rcl = true then putN o ⟨4, x.patron, x.item, x.due⟩ else o) := ⟨_, rfl⟩
    have ho1n : o1.length ≤ o.length + 1 := by rw [ho1]; split <;> simp [putN_len]
    rw [lnP, loanP, ← ho1] at hs
    refine AWp.skip ?_
    repeat first | refine thenN ?_ | refine thenX ?_ | refine thenR ?_ | refine blockN ?_ | refine blockR ?_ | refine blockX ?_ | refine blockM rfl ?_
    refine AWp.seq ?_
    refine AWp.block ?_
    -- region 5
    refine AWp.rseq E_ok [0, 1, 2, 4, 5, 6, 7, 8, 9, 15, 24, 38, 54, 68, 78] fun K hK => ?_
    simp [encCirc_eq, encLoans_eq, encLoan_eq, encHlds_eq, encHld_eq, encNotes_eq, encNote_eq, zn, h15, hx, hxx]
    repeat refine ⟨by first | omega | assumption | (simp only [maxLen]; omega) | (intros; omega) | decide, ?_⟩
    refine hK _ ?_
    clear hK K
    refine AWp.join (ι := Unit) (fun _ => [(0, T.val (zt13x2 c)), (1, T.val (D.int IntKind.i64 a)), (2, T.box (zt13x1 c)), (5, T.own true (encNote zn) (noteL o1)), (6, T.val (D.int IntKind.i64 ↑k)), (7, T.box [C.d (D.int IntKind.i64 x.item), C.d (D.int IntKind.i64 x.patron), C.d (D.int IntKind.i64 x.out), C.d (D.int IntKind.i64 x.due), C.d (D.int IntKind.i64 x.ren), C.d (D.bool x.rcl)])]) ?_ ?_
    · skip
      -- region 6
      refine AWp.rseq E_ok [0, 1, 2, 4, 5, 6, 7, 8, 9, 15, 24, 38, 54, 68, 78] fun K hK => ?_
      simp [encCirc_eq, encLoans_eq, encLoan_eq, encHlds_eq, encHld_eq, encNotes_eq, encNote_eq, zn, h15, hx, hxx]
      repeat refine ⟨by first | omega | assumption | (simp only [maxLen]; omega) | (intros; omega) | decide, ?_⟩
      refine hK _ ?_
      clear hK K
      refine AWp.cond rfl (fun h24 => ?_) (fun h24 => ?_)
      · try simp at h24
        have e1 : putN o ⟨4, x.patron, x.item, x.due⟩ = o1 := by rw [ho1, if_pos h24]
        -- region 7
        refine AWp.rend E_ok [0, 1, 2, 4, 5, 6, 7, 8, 9, 15, 24, 38, 54, 68, 78] fun K hK => ?_
        simp [encCirc_eq, encLoans_eq, encLoan_eq, encHlds_eq, encHld_eq, encNotes_eq, encNote_eq, zn, h15, hx, hxx, e1]
        repeat refine ⟨by first | omega | assumption | (simp only [maxLen]; omega) | (intros; omega) | decide, ?_⟩
        refine meet.of (ref35_notice 4 x.patron x.item x.due) ?_
        simp [encCirc_eq, encLoans_eq, encLoan_eq, encHlds_eq, encHld_eq, encNotes_eq, encNote_eq, zn, h15, hx, hxx, e1]
        repeat refine ⟨by first | omega | assumption | (simp only [maxLen]; omega) | (intros; omega) | decide, ?_⟩
        refine meet.of (ref35_Put o ⟨4, x.patron, x.item, x.due⟩ (by omega)) ?_
        simp [encCirc_eq, encLoans_eq, encLoan_eq, encHlds_eq, encHld_eq, encNotes_eq, encNote_eq, zn, h15, hx, hxx, e1]
        repeat refine ⟨by first | omega | assumption | (simp only [maxLen]; omega) | (intros; omega) | decide, ?_⟩
        refine hK _ ?_
        clear hK K
        repeat first | refine thenN ?_ | refine thenX ?_ | refine thenR ?_ | refine blockN ?_ | refine blockR ?_ | refine blockX ?_ | refine blockM rfl ?_
        refine ⟨(), ?_⟩
        simp [Weak, TW, encCirc_eq, encLoans_eq, encLoan_eq, encHlds_eq, encHld_eq, encNotes_eq, encNote_eq, zn, h15, hx, hxx, e1]
      · try simp at h24
        have e1 : o1 = o := by rw [ho1, if_neg (by simpa using h24)]
        refine AWp.skip ?_
        repeat first | refine thenN ?_ | refine thenX ?_ | refine thenR ?_ | refine blockN ?_ | refine blockR ?_ | refine blockX ?_ | refine blockM rfl ?_
        refine ⟨(), ?_⟩
        simp [Weak, TW, encCirc_eq, encLoans_eq, encLoan_eq, encHlds_eq, encHld_eq, encNotes_eq, encNote_eq, zn, h15, hx, hxx, e1]
    rintro ⟨⟩
    try simp only
    -- region 8
    refine AWp.rseq E_ok [0, 1, 2, 4, 5, 6, 7, 8, 9, 15, 24, 38, 54, 68, 78] fun K hK => ?_
    simp [encCirc_eq, encLoans_eq, encLoan_eq, encHlds_eq, encHld_eq, encNotes_eq, encNote_eq, zn, h15, hx, hxx]
    repeat refine ⟨by first | omega | assumption | (simp only [maxLen]; omega) | (intros; omega) | decide, ?_⟩
    refine hK _ ?_
    clear hK K
    refine AWp.cond rfl (fun h38 => ?_) (fun h38 => ?_)
    · try simp at h38
      rw [if_pos h38] at hs
      have hpl := putN_len o1 ⟨2, x.patron, x.item, x.due⟩
      -- region 9
      refine AWp.rend E_ok [0, 1, 2, 4, 5, 6, 7, 8, 9, 15, 24, 38, 54, 68, 78] fun K hK => ?_
      simp [encCirc_eq, encLoans_eq, encLoan_eq, encHlds_eq, encHld_eq, encNotes_eq, encNote_eq, zn, h15, hx, hxx]
      repeat refine ⟨by first | omega | assumption | (simp only [maxLen]; omega) | (intros; omega) | decide, ?_⟩
      refine meet.of (ref35_notice 2 x.patron x.item x.due) ?_
      simp [encCirc_eq, encLoans_eq, encLoan_eq, encHlds_eq, encHld_eq, encNotes_eq, encNote_eq, zn, h15, hx, hxx]
      repeat refine ⟨by first | omega | assumption | (simp only [maxLen]; omega) | (intros; omega) | decide, ?_⟩
      refine meet.of (ref35_Put o1 ⟨2, x.patron, x.item, x.due⟩ (by omega)) ?_
      simp [encCirc_eq, encLoans_eq, encLoan_eq, encHlds_eq, encHld_eq, encNotes_eq, encNote_eq, zn, h15, hx, hxx]
      repeat refine ⟨by first | omega | assumption | (simp only [maxLen]; omega) | (intros; omega) | decide, ?_⟩
      refine hK _ ?_
      clear hK K
      repeat first | refine thenN ?_ | refine thenX ?_ | refine thenR ?_ | refine blockN ?_ | refine blockR ?_ | refine blockX ?_ | refine blockM rfl ?_
      -- region 4
      refine AWp.rend E_ok [0, 1, 2, 4, 5, 6, 7, 8, 9, 15, 24, 38, 54, 68, 78] fun K hK => ?_
      simp [encCirc_eq, encLoans_eq, encLoan_eq, encHlds_eq, encHld_eq, encNotes_eq, encNote_eq, zn, h15, hx, hxx]
      repeat refine ⟨by first | omega | assumption | (simp only [maxLen]; omega) | (intros; omega) | decide, ?_⟩
      refine hK _ ?_
      clear hK K
      repeat first | refine thenN ?_ | refine thenX ?_ | refine thenR ?_ | refine blockN ?_ | refine blockR ?_ | refine blockX ?_ | refine blockM rfl ?_
      have hw : IntKind.i64.wrap ((k : Int) + 1) = (k : Int) + 1 := by rw [wrap_i64] <;> omega
      skip
      refine ⟨_, h15, hs, ?_, ?_⟩
      · omega
      · simp [Weak, TW, hw, encCirc_eq, encLoans_eq, encLoan_eq, encHlds_eq, encHld_eq, encNotes_eq, encNote_eq, zn]
    · try simp at h38
      rw [if_neg (by omega)] at hs
      -- region 10
      refine AWp.rseq E_ok [0, 1, 2, 4, 5, 6, 7, 8, 9, 15, 24, 38, 54, 68, 78] fun K hK => ?_
      simp [encCirc_eq, encLoans_eq, encLoan_eq, encHlds_eq, encHld_eq, encNotes_eq, encNote_eq, zn, h15, hx, hxx]
      repeat refine ⟨by first | omega | assumption | (simp only [maxLen]; omega) | (intros; omega) | decide, ?_⟩
      refine hK _ ?_
      clear hK K
      refine AWp.cond rfl (fun h54 => ?_) (fun h54 => ?_)
      · try simp at h54
        rw [if_pos h54] at hs
        have hpl := putN_len o1 ⟨1, x.patron, x.item, x.due⟩
        -- region 11
        refine AWp.rend E_ok [0, 1, 2, 4, 5, 6, 7, 8, 9, 15, 24, 38, 54, 68, 78] fun K hK => ?_
        simp [encCirc_eq, encLoans_eq, encLoan_eq, encHlds_eq, encHld_eq, encNotes_eq, encNote_eq, zn, h15, hx, hxx]
        repeat refine ⟨by first | omega | assumption | (simp only [maxLen]; omega) | (intros; omega) | decide, ?_⟩
        refine meet.of (ref35_notice 1 x.patron x.item x.due) ?_
        simp [encCirc_eq, encLoans_eq, encLoan_eq, encHlds_eq, encHld_eq, encNotes_eq, encNote_eq, zn, h15, hx, hxx]
        repeat refine ⟨by first | omega | assumption | (simp only [maxLen]; omega) | (intros; omega) | decide, ?_⟩
        refine meet.of (ref35_Put o1 ⟨1, x.patron, x.item, x.due⟩ (by omega)) ?_
        simp [encCirc_eq, encLoans_eq, encLoan_eq, encHlds_eq, encHld_eq, encNotes_eq, encNote_eq, zn, h15, hx, hxx]
        repeat refine ⟨by first | omega | assumption | (simp only [maxLen]; omega) | (intros; omega) | decide, ?_⟩
        refine hK _ ?_
        clear hK K
        repeat first | refine thenN ?_ | refine thenX ?_ | refine thenR ?_ | refine blockN ?_ | refine blockR ?_ | refine blockX ?_ | refine blockM rfl ?_
        -- region 4
        refine AWp.rend E_ok [0, 1, 2, 4, 5, 6, 7, 8, 9, 15, 24, 38, 54, 68, 78] fun K hK => ?_
        simp [encCirc_eq, encLoans_eq, encLoan_eq, encHlds_eq, encHld_eq, encNotes_eq, encNote_eq, zn, h15, hx, hxx]
        repeat refine ⟨by first | omega | assumption | (simp only [maxLen]; omega) | (intros; omega) | decide, ?_⟩
        refine hK _ ?_
        clear hK K
        repeat first | refine thenN ?_ | refine thenX ?_ | refine thenR ?_ | refine blockN ?_ | refine blockR ?_ | refine blockX ?_ | refine blockM rfl ?_
        have hw : IntKind.i64.wrap ((k : Int) + 1) = (k : Int) + 1 := by rw [wrap_i64] <;> omega
        skip
        refine ⟨_, h15, hs, ?_, ?_⟩
        · omega
        · simp [Weak, TW, hw, encCirc_eq, encLoans_eq, encLoan_eq, encHlds_eq, encHld_eq, encNotes_eq, encNote_eq, zn]
      · try simp at h54
        rw [if_neg (by omega)] at hs
        refine AWp.skip ?_
        repeat first | refine thenN ?_ | refine thenX ?_ | refine thenR ?_ | refine blockN ?_ | refine blockR ?_ | refine blockX ?_ | refine blockM rfl ?_
        -- region 4
        refine AWp.rend E_ok [0, 1, 2, 4, 5, 6, 7, 8, 9, 15, 24, 38, 54, 68, 78] fun K hK => ?_
        simp [encCirc_eq, encLoans_eq, encLoan_eq, encHlds_eq, encHld_eq, encNotes_eq, encNote_eq, zn, h15, hx, hxx]
        repeat refine ⟨by first | omega | assumption | (simp only [maxLen]; omega) | (intros; omega) | decide, ?_⟩
        refine hK _ ?_
        clear hK K
        repeat first | refine thenN ?_ | refine thenX ?_ | refine thenR ?_ | refine blockN ?_ | refine blockR ?_ | refine blockX ?_ | refine blockM rfl ?_
        have hw : IntKind.i64.wrap ((k : Int) + 1) = (k : Int) + 1 := by rw [wrap_i64] <;> omega
        skip
        refine ⟨_, h15, hs, ?_, ?_⟩
        · omega
        · simp [Weak, TW, hw, encCirc_eq, encLoans_eq, encLoan_eq, encHlds_eq, encHld_eq, encNotes_eq, encNote_eq, zn]
  · try simp at h15
    obtain rfl : k = c.loans.length := by omega
    rw [List.drop_length] at hs
    simp only [lnP] at hs
    have hlo := hs
    refine AWp.exit ?_
    repeat first | refine thenN ?_ | refine thenX ?_ | refine thenR ?_ | refine blockN ?_ | refine blockR ?_ | refine blockX ?_ | refine blockM rfl ?_
    refine AWp.seq ?_
    -- region 12
    refine AWp.rseq E_ok [0, 1, 2, 4, 5, 6, 7, 8, 9, 15, 24, 38, 54, 68, 78] fun K hK => ?_
    simp [encCirc_eq, encLoans_eq, encLoan_eq, encHlds_eq, encHld_eq, encNotes_eq, encNote_eq, zn, h15]
    repeat refine ⟨by first | omega | assumption | (simp only [maxLen]; omega) | (intros; omega) | decide, ?_⟩
    refine hK _ ?_
    clear hK K
    refine AWp.block ?_
    refine AWp.range (l := c.holds) (F := hlP) (tot := hlP o c.holds) (fun k y => match y with | u => u.length ≤ 120 + k) (fun k y => match y with | u => [(0, T.val (zt13x2 c)), (1, T.val (D.int IntKind.i64 a)), (2, T.box (zt13x1 c)), (5, T.own true (encNote zn) (noteL u)), (8, T.val (.int .i64 k))]) (o) ?_ rfl ?_ ?_
    · simp [Weak, TW, encCirc_eq, encLoans_eq, encLoan_eq, encHlds_eq, encHld_eq, encNotes_eq, encNote_eq, zn]
    · omega
    rintro k u hk hs hi
    try simp only at hi
    refine AWp.seq ?_
    -- region 13
    refine AWp.rseq E_ok [0, 1, 2, 4, 5, 6, 7, 8, 9, 15, 24, 38, 54, 68, 78] fun K hK => ?_
    simp [encCirc_eq, encLoans_eq, encLoan_eq, encHlds_eq, encHld_eq, encNotes_eq, encNote_eq, zn, h15]
    repeat refine ⟨by first | omega | assumption | (simp only [maxLen]; omega) | (intros; omega) | decide, ?_⟩
    refine hK _ ?_
    clear hK K
    refine AWp.cond rfl (fun h68 => ?_) (fun h68 => ?_)
    · try simp at h68
      obtain ⟨x, hx, hxx, hd⟩ := at_indexG (l := c.holds) h68
      rw [hd] at hs
      rw [hlP, hldP] at hs
      refine AWp.skip ?_
      repeat first | refine thenN ?_ | refine thenX ?_ | refine thenR ?_ | refine blockN ?_ | refine blockR ?_ | refine blockX ?_ | refine blockM rfl ?_
      refine AWp.seq ?_
      refine AWp.block ?_
      -- region 15
      refine AWp.rseq E_ok [0, 1, 2, 4, 5, 6, 7, 8, 9, 15, 24, 38, 54, 68, 78] fun K hK => ?_
      simp [encCirc_eq, encLoans_eq, encLoan_eq, encHlds_eq, encHld_eq, encNotes_eq, encNote_eq, zn, h15, h68, hx, hxx]
      repeat refine ⟨by first | omega | assumption | (simp only [maxLen]; omega) | (intros; omega) | decide, ?_⟩
      refine hK _ ?_
      clear hK K
      -- region 16
      refine AWp.rseq E_ok [0, 1, 2, 4, 5, 6, 7, 8, 9, 15, 24, 38, 54, 68, 78] fun K hK => ?_
      simp [encCirc_eq, encLoans_eq, encLoan_eq, encHlds_eq, encHld_eq, encNotes_eq, encNote_eq, zn, h15, h68, hx, hxx]
      repeat refine ⟨by first | omega | assumption | (simp only [maxLen]; omega) | (intros; omega) | decide, ?_⟩
      refine hK _ ?_
      clear hK K
      refine AWp.cond rfl (fun h78 => ?_) (fun h78 => ?_)
      · try simp at h78
        rw [if_pos h78] at hs
        have hpl := putN_len u ⟨3, x.patron, x.got, x.til⟩
        -- region 17
        refine AWp.rend E_ok [0, 1, 2, 4, 5, 6, 7, 8, 9, 15, 24, 38, 54, 68, 78] fun K hK => ?_
        simp [encCirc_eq, encLoans_eq, encLoan_eq, encHlds_eq, encHld_eq, encNotes_eq, encNote_eq, zn, h15, h68, hx, hxx]
        repeat refine ⟨by first | omega | assumption | (simp only [maxLen]; omega) | (intros; omega) | decide, ?_⟩
        refine meet.of (ref35_notice 3 x.patron x.got x.til) ?_
        simp [encCirc_eq, encLoans_eq, encLoan_eq, encHlds_eq, encHld_eq, encNotes_eq, encNote_eq, zn, h15, h68, hx, hxx]
        repeat refine ⟨by first | omega | assumption | (simp only [maxLen]; omega) | (intros; omega) | decide, ?_⟩
        refine meet.of (ref35_Put u ⟨3, x.patron, x.got, x.til⟩ (by omega)) ?_
        simp [encCirc_eq, encLoans_eq, encLoan_eq, encHlds_eq, encHld_eq, encNotes_eq, encNote_eq, zn, h15, h68, hx, hxx]
        repeat refine ⟨by first | omega | assumption | (simp only [maxLen]; omega) | (intros; omega) | decide, ?_⟩
        refine hK _ ?_
        clear hK K
        repeat first | refine thenN ?_ | refine thenX ?_ | refine thenR ?_ | refine blockN ?_ | refine blockR ?_ | refine blockX ?_ | refine blockM rfl ?_
        -- region 14
        refine AWp.rend E_ok [0, 1, 2, 4, 5, 6, 7, 8, 9, 15, 24, 38, 54, 68, 78] fun K hK => ?_
        simp [encCirc_eq, encLoans_eq, encLoan_eq, encHlds_eq, encHld_eq, encNotes_eq, encNote_eq, zn, h15, h68, hx, hxx]
        repeat refine ⟨by first | omega | assumption | (simp only [maxLen]; omega) | (intros; omega) | decide, ?_⟩
        refine hK _ ?_
        clear hK K
        repeat first | refine thenN ?_ | refine thenX ?_ | refine thenR ?_ | refine blockN ?_ | refine blockR ?_ | refine blockX ?_ | refine blockM rfl ?_
        have hw : IntKind.i64.wrap ((k : Int) + 1) = (k : Int) + 1 := by rw [wrap_i64] <;> omega
        skip
        refine ⟨_, h68, hs, ?_, ?_⟩
        · omega
        · simp [Weak, TW, hw, encCirc_eq, encLoans_eq, encLoan_eq, encHlds_eq, encHld_eq, encNotes_eq, encNote_eq, zn]
      · try simp at h78
        rw [if_neg h78] at hs
        refine AWp.skip ?_
        repeat first | refine thenN ?_ | refine thenX ?_ | refine thenR ?_ | refine blockN ?_ | refine blockR ?_ | refine blockX ?_ | refine blockM rfl ?_
        -- region 14
        refine AWp.rend E_ok [0, 1, 2, 4, 5, 6, 7, 8, 9, 15, 24, 38, 54, 68, 78] fun K hK => ?_
        simp [encCirc_eq, encLoans_eq, encLoan_eq, encHlds_eq, encHld_eq, encNotes_eq, encNote_eq, zn, h15, h68, hx, hxx]
        repeat refine ⟨by first | omega | assumption | (simp only [maxLen]; omega) | (intros; omega) | decide, ?_⟩
        refine hK _ ?_
        clear hK K
        repeat first | refine thenN ?_ | refine thenX ?_ | refine thenR ?_ | refine blockN ?_ | refine blockR ?_ | refine blockX ?_ | refine blockM rfl ?_
        have hw : IntKind.i64.wrap ((k : Int) + 1) = (k : Int) + 1 := by rw [wrap_i64] <;> omega
        skip
        refine ⟨_, h68, hs, ?_, ?_⟩
        · omega
        · simp [Weak, TW, hw, encCirc_eq, encLoans_eq, encLoan_eq, encHlds_eq, encHld_eq, encNotes_eq, encNote_eq, zn]
    · try simp at h68
      obtain rfl : k = c.holds.length := by omega
      rw [List.drop_length] at hs
      simp only [hlP] at hs
      have hfin : u = dueN c a := by rw [← dueP_eq, ← hlo, hs]
      refine AWp.exit ?_
      repeat first | refine thenN ?_ | refine thenX ?_ | refine thenR ?_ | refine blockN ?_ | refine blockR ?_ | refine blockX ?_ | refine blockM rfl ?_
      -- region 18
      refine AWp.rseq E_ok [0, 1, 2, 4, 5, 6, 7, 8, 9, 15, 24, 38, 54, 68, 78] fun K hK => ?_
      simp [encCirc_eq, encLoans_eq, encLoan_eq, encHlds_eq, encHld_eq, encNotes_eq, encNote_eq, zn, h15, h68]
      repeat refine ⟨by first | omega | assumption | (simp only [maxLen]; omega) | (intros; omega) | decide, ?_⟩
      refine hK _ ?_
      clear hK K
      refine AWp.ret ?_
      repeat first | refine thenN ?_ | refine thenX ?_ | refine thenR ?_ | refine blockN ?_ | refine blockR ?_ | refine blockX ?_ | refine blockM rfl ?_
      simp [RetOk, ← hfin, encNote_eq, zn]
end Go.Proofs.YtjpjndfdncalfaaDoor

set_option maxRecDepth 100000
set_option linter.unusedSimpArgs false
set_option linter.unusedVariables false
namespace Go.Proofs.YtjpjndfdncalfaaDoor
open Go Ab Pl
theorem notice_For (l : List Note) (p : Int) (hl : l.length ≤ 1000000) : ACalls E.P 18 [encNotes l, .int .i64 p] (.own (encNote zn) (noteL (forN l p))) := by
  refine ACalls.intro E_ok Tryd.func18 rfl rfl Tryd.ntmps18 Tryd.results18 (Nat.le_of_ble_eq_true rfl) fun hok base S0 w0 => ?_
  -- region 0
  refine AWp.rseq E_ok [0, 1, 4, 5, 7, 8, 9, 10, 11, 17] fun K hK => ?_
  simp [encNotes_map, encNote_eq, zn]
  repeat refine ⟨by first | omega | assumption | (simp only [maxLen]; omega) | (intros; omega) | decide, ?_⟩
  refine hK _ ?_
  clear hK K
  -- region 1
  refine AWp.rseq E_ok [0, 1, 4, 5, 7, 8, 9, 10, 11, 17] fun K hK => ?_
  simp [encNotes_map, encNote_eq, zn]
  repeat refine ⟨by first | omega | assumption | (simp only [maxLen]; omega) | (intros; omega) | decide, ?_⟩
  refine hK _ ?_
  clear hK K
  refine AWp.seq ?_
  -- region 2
  refine AWp.rseq E_ok [0, 1, 4, 5, 7, 8, 9, 10, 11, 17] fun K hK => ?_
  simp [encNotes_map, encNote_eq, zn]
  repeat refine ⟨by first | omega | assumption | (simp only [maxLen]; omega) | (intros; omega) | decide, ?_⟩
  refine hK _ ?_
  clear hK K
  refine AWp.block ?_
  refine AWp.range (l := l) (F := forF p) (tot := forF p [] l) (fun k y => match y with | o => o.length ≤ k) (fun k y => match y with | o => [(0, T.val ((D.agg [D.int IntKind.i64 0, D.int IntKind.i64 0, D.int IntKind.i64 0, D.int IntKind.i64 0]).slice (List.map encNote l))), (1, T.val (D.int IntKind.i64 p)), (5, T.own true (encNote zn) (o.map encNote)), (8, T.val ((D.agg [D.int IntKind.i64 0, D.int IntKind.i64 0, D.int IntKind.i64 0, D.int IntKind.i64 0]).slice (List.map encNote l))), (9, T.val (D.int IntKind.i64 ↑l.length)), (10, T.val (.int .i64 k))]) ([]) ?_ rfl ?_ ?_
  · simp [Weak, TW, encNotes_map, encNote_eq, zn]
  · first | exact trivial | (simp; omega) | simp
  rintro k o hk hs hi
  try simp only at hi
  -- region 3
  refine AWp.rseq E_ok [0, 1, 4, 5, 7, 8, 9, 10, 11, 17] fun K hK => ?_
  simp [encNotes_map, encNote_eq, zn]
  repeat refine ⟨by first | omega | assumption | (simp only [maxLen]; omega) | (intros; omega) | decide, ?_⟩
  refine hK _ ?_
  clear hK K
  refine AWp.seq ?_
  refine AWp.cond rfl (fun h11 => ?_) (fun h11 => ?_)
  · try simp at h11
    obtain ⟨x, hx, hxx, hd⟩ := at_indexG (l := l) h11
    rw [hd] at hs
    refine AWp.skip ?_
    repeat first | refine thenN ?_ | refine thenX ?_ | refine thenR ?_ | refine blockN ?_ | refine blockR ?_ | refine blockX ?_ | refine blockM rfl ?_
    refine AWp.seq ?_
    refine AWp.block ?_
    -- region 4
    refine AWp.rseq E_ok [0, 1, 4, 5, 7, 8, 9, 10, 11, 17] fun K hK => ?_
    simp [encNotes_map, encNote_eq, zn, h11, hx, hxx]
    repeat refine ⟨by first | omega | assumption | (simp only [maxLen]; omega) | (intros; omega) | decide, ?_⟩
    refine hK _ ?_
    clear hK K
    -- region 5
    refine AWp.rseq E_ok [0, 1, 4, 5, 7, 8, 9, 10, 11, 17] fun K hK => ?_
    simp [encNotes_map, encNote_eq, zn, h11, hx, hxx]
    repeat refine ⟨by first | omega | assumption | (simp only [maxLen]; omega) | (intros; omega) | decide, ?_⟩
    refine hK _ ?_
    clear hK K
    refine AWp.cond rfl (fun h17 => ?_) (fun h17 => ?_)
    · try simp at h17
      subst h17
      rw [forF, if_pos rfl] at hs
      -- region 6
      refine AWp.rend E_ok [0, 1, 4, 5, 7, 8, 9, 10, 11, 17] fun K hK => ?_
      simp [encNotes_map, encNote_eq, zn, h11, hx, hxx]
      repeat refine ⟨by first | omega | assumption | (simp only [maxLen]; omega) | (intros; omega) | decide, ?_⟩
      refine hK _ ?_
      clear hK K
      repeat first | refine thenN ?_ | refine thenX ?_ | refine thenR ?_ | refine blockN ?_ | refine blockR ?_ | refine blockX ?_ | refine blockM rfl ?_
      -- region 7
      refine AWp.rend E_ok [0, 1, 4, 5, 7, 8, 9, 10, 11, 17] fun K hK => ?_
      simp [encNotes_map, encNote_eq, zn, h11, hx, hxx]
      repeat refine ⟨by first | omega | assumption | (simp only [maxLen]; omega) | (intros; omega) | decide, ?_⟩
      refine hK _ ?_
      clear hK K
      repeat first | refine thenN ?_ | refine thenX ?_ | refine thenR ?_ | refine blockN ?_ | refine blockR ?_ | refine blockX ?_ | refine blockM rfl ?_
      have hw : IntKind.i64.wrap ((k : Int) + 1) = (k : Int) + 1 := by rw [wrap_i64] <;> omega
      skip
      refine ⟨_, h11, hs, ?_, ?_⟩
      · first | exact trivial | (simp; omega) | simp
      · simp [Weak, TW, hw, encNotes_map, encNote_eq, zn]
    · try simp at h17
      rw [forF, if_neg h17] at hs
      refine AWp.skip ?_
      repeat first | refine thenN ?_ | refine thenX ?_ | refine thenR ?_ | refine blockN ?_ | refine blockR ?_ | refine blockX ?_ | refine blockM rfl ?_
      -- region 7
      refine AWp.rend E_ok [0, 1, 4, 5, 7, 8, 9, 10, 11, 17] fun K hK => ?_
      simp [encNotes_map, encNote_eq, zn, h11, hx, hxx]
      repeat refine ⟨by first | omega | assumption | (simp only [maxLen]; omega) | (intros; omega) | decide, ?_⟩
      refine hK _ ?_
      clear hK K
      repeat first | refine thenN ?_ | refine thenX ?_ | refine thenR ?_ | refine blockN ?_ | refine blockR ?_ | refine blockX ?_ | refine blockM rfl ?_
      have hw : IntKind.i64.wrap ((k : Int) + 1) = (k : Int) + 1 := by rw [wrap_i64] <;> omega
      skip
      refine ⟨_, h11, hs, ?_, ?_⟩
      · first | exact trivial | (simp; omega) | simp
      · simp [Weak, TW, hw, encNotes_map, encNote_eq, zn]
  · try simp at h11
    obtain rfl : k = l.length := by omega
    simp [forF] at hs
    refine AWp.exit ?_
    repeat first | refine thenN ?_ | refine thenX ?_ | refine thenR ?_ | refine blockN ?_ | refine blockR ?_ | refine blockX ?_ | refine blockM rfl ?_
    -- region 8
    refine AWp.rseq E_ok [0, 1, 4, 5, 7, 8, 9, 10, 11, 17] fun K hK => ?_
    simp [encNotes_map, encNote_eq, zn, h11]
    repeat refine ⟨by first | omega | assumption | (simp only [maxLen]; omega) | (intros; omega) | decide, ?_⟩
    refine hK _ ?_
    clear hK K
    refine AWp.ret ?_
    repeat first | refine thenN ?_ | refine thenX ?_ | refine thenR ?_ | refine blockN ?_ | refine blockR ?_ | refine blockX ?_ | refine blockM rfl ?_
    simp [RetOk, forN, ← hs, noteL_map, encNote_eq, zn]
end Go.Proofs.YtjpjndfdncalfaaDoor

set_option maxRecDepth 100000
set_option linter.unusedSimpArgs false
set_option linter.unusedVariables false
namespace Go.Proofs.YtjpjndfdncalfaaDoor
open Go Ab Pl
theorem ref35_For (l : List Note) (p : Int) (hl : l.length ≤ 1000000) : ACalls E.P 19 [encNotes l, .int .i64 p] (.own (encNote zn) (noteL (forN l p))) := by
  refine ACalls.intro E_ok Tryd.func19 rfl rfl Tryd.ntmps19 Tryd.results19 (Nat.le_of_ble_eq_true rfl) fun hok base S0 w0 => ?_
  -- region 0
  refine AWp.rseq E_ok [0, 1, 4, 5, 6, 11, 20] fun K hK => ?_
  simp [encNotes_map, encNote_eq, zn]
  repeat refine ⟨by first | omega | assumption | (simp only [maxLen]; omega) | (intros; omega) | decide, ?_⟩
  refine hK _ ?_
  clear hK K
  -- region 1
  refine AWp.rseq E_ok [0, 1, 4, 5, 6, 11, 20] fun K hK => ?_
  simp [encNotes_map, encNote_eq, zn]
  repeat refine ⟨by first | omega | assumption | (simp only [maxLen]; omega) | (intros; omega) | decide, ?_⟩
  refine hK _ ?_
  clear hK K
  refine AWp.seq ?_
  -- region 2
  refine AWp.rseq E_ok [0, 1, 4, 5, 6, 11, 20] fun K hK => ?_
  simp [encNotes_map, encNote_eq, zn]
  repeat refine ⟨by first | omega | assumption | (simp only [maxLen]; omega) | (intros; omega) | decide, ?_⟩
  refine hK _ ?_
  clear hK K
  refine AWp.block ?_
  refine AWp.range (l := l) (F := forF p) (tot := forF p [] l) (fun k y => match y with | o => o.length ≤ k) (fun k y => match y with | o => [(0, T.val ((D.agg [D.int IntKind.i64 0, D.int IntKind.i64 0, D.int IntKind.i64 0, D.int IntKind.i64 0]).slice (List.map encNote l))), (1, T.val (D.int IntKind.i64 p)), (5, T.own true (encNote zn) (o.map encNote)), (6, T.val (.int .i64 k))]) ([]) ?_ rfl ?_ ?_
  · simp [Weak, TW, encNotes_map, encNote_eq, zn]
  · first | exact trivial | (simp; omega) | simp
  rintro k o hk hs hi
  try simp only at hi
  refine AWp.seq ?_
  -- region 3
  refine AWp.rseq E_ok [0, 1, 4, 5, 6, 11, 20] fun K hK => ?_
  simp [encNotes_map, encNote_eq, zn]
  repeat refine ⟨by first | omega | assumption | (simp only [maxLen]; omega) | (intros; omega) | decide, ?_⟩
  refine hK _ ?_
  clear hK K
  refine AWp.cond rfl (fun h11 => ?_) (fun h11 => ?_)
  · try simp at h11
    obtain ⟨x, hx, hxx, hd⟩ := at_indexG (l := l) h11
    rw [hd] at hs
    refine AWp.skip ?_
    repeat first | refine thenN ?_ | refine thenX ?_ | refine thenR ?_ | refine blockN ?_ | refine blockR ?_ | refine blockX ?_ | refine blockM rfl ?_
    refine AWp.seq ?_
    refine AWp.block ?_
    -- region 5
    refine AWp.rseq E_ok [0, 1, 4, 5, 6, 11, 20] fun K hK => ?_
    simp [encNotes_map, encNote_eq, zn, h11, hx, hxx]
    repeat refine ⟨by first | omega | assumption | (simp only [maxLen]; omega) | (intros; omega) | decide, ?_⟩
    refine hK _ ?_
    clear hK K
    refine AWp.cond rfl (fun h20 => ?_) (fun h20 => ?_)
    · try simp at h20
      subst h20
      rw [forF, if_pos rfl] at hs
      -- region 6
      refine AWp.rend E_ok [0, 1, 4, 5, 6, 11, 20] fun K hK => ?_
      simp [encNotes_map, encNote_eq, zn, h11, hx, hxx]
      repeat refine ⟨by first | omega | assumption | (simp only [maxLen]; omega) | (intros; omega) | decide, ?_⟩
      refine hK _ ?_
      clear hK K
      repeat first | refine thenN ?_ | refine thenX ?_ | refine thenR ?_ | refine blockN ?_ | refine blockR ?_ | refine blockX ?_ | refine blockM rfl ?_
      -- region 4
      refine AWp.rend E_ok [0, 1, 4, 5, 6, 11, 20] fun K hK => ?_
      simp [encNotes_map, encNote_eq, zn, h11, hx, hxx]
      repeat refine ⟨by first | omega | assumption | (simp only [maxLen]; omega) | (intros; omega) | decide, ?_⟩
      refine hK _ ?_
      clear hK K
      repeat first | refine thenN ?_ | refine thenX ?_ | refine thenR ?_ | refine blockN ?_ | refine blockR ?_ | refine blockX ?_ | refine blockM rfl ?_
      have hw : IntKind.i64.wrap ((k : Int) + 1) = (k : Int) + 1 := by rw [wrap_i64] <;> omega
      skip
      refine ⟨_, h11, hs, ?_, ?_⟩
      · first | exact trivial | (simp; omega) | simp
      · simp [Weak, TW, hw, encNotes_map, encNote_eq, zn]
    · try simp at h20
      rw [forF, if_neg h20] at hs
      refine AWp.skip ?_
      repeat first | refine thenN ?_ | refine thenX ?_ | refine thenR ?_ | refine blockN ?_ | refine blockR ?_ | refine blockX ?_ | refine blockM rfl ?_
      -- region 4
      refine AWp.rend E_ok [0, 1, 4, 5, 6, 11, 20] fun K hK => ?_
      simp [encNotes_map, encNote_eq, zn, h11, hx, hxx]
      repeat refine ⟨by first | omega | assumption | (simp only [maxLen]; omega) | (intros; omega) | decide, ?_⟩
      refine hK _ ?_
      clear hK K
      repeat first | refine thenN ?_ | refine thenX ?_ | refine thenR ?_ | refine blockN ?_ | refine blockR ?_ | refine blockX ?_ | refine blockM rfl ?_
      have hw : IntKind.i64.wrap ((k : Int) + 1) = (k : Int) + 1 := by rw [wrap_i64] <;> omega
      skip
      refine ⟨_, h11, hs, ?_, ?_⟩
      · first | exact trivial | (simp; omega) | simp
      · simp [Weak, TW, hw, encNotes_map, encNote_eq, zn]
  · try simp at h11
    obtain rfl : k = l.length := by omega
    simp [forF] at hs
    refine AWp.exit ?_
    repeat first | refine thenN ?_ | refine thenX ?_ | refine thenR ?_ | refine blockN ?_ | refine blockR ?_ | refine blockX ?_ | refine blockM rfl ?_
    -- region 7
    refine AWp.rseq E_ok [0, 1, 4, 5, 6, 11, 20] fun K hK => ?_
    simp [encNotes_map, encNote_eq, zn, h11]
    repeat refine ⟨by first | omega | assumption | (simp only [maxLen]; omega) | (intros; omega) | decide, ?_⟩
    refine hK _ ?_
    clear hK K
    refine AWp.ret ?_
    repeat first | refine thenN ?_ | refine thenX ?_ | refine thenR ?_ | refine blockN ?_ | refine blockR ?_ | refine blockX ?_ | refine blockM rfl ?_
    simp [RetOk, forN, ← hs, noteL_map, encNote_eq, zn]
end Go.Proofs.YtjpjndfdncalfaaDoor

set_option maxRecDepth 100000
set_option linter.unusedSimpArgs false
set_option linter.unusedVariables false
namespace Go.Proofs.YtjpjndfdncalfaaDoor
open Go Ab Pl
theorem notice_Due_d (c : Circ) (a : Int) (h1 : c.loans.length ≤ 60) (h2 : c.holds.length ≤ 60) : ACalls E.P 12 [encCirc c, .int .i64 a] (.d (encNotes (dueN c a))) := (notice_Due c a h1 h2).datum
theorem ref35_Due_d (c : Circ) (a : Int) (h1 : c.loans.length ≤ 60) (h2 : c.holds.length ≤ 60) : ACalls E.P 13 [encCirc c, .int .i64 a] (.d (encNotes (dueN c a))) := (ref35_Due c a h1 h2).datum
theorem notice_For_d (l : List Note) (p : Int) (hl : l.length ≤ 1000000) : ACalls E.P 18 [encNotes l, .int .i64 p] (.d (encNotes (forN l p))) := (notice_For l p hl).datum
theorem ref35_For_d (l : List Note) (p : Int) (hl : l.length ≤ 1000000) : ACalls E.P 19 [encNotes l, .int .i64 p] (.d (encNotes (forN l p))) := (ref35_For l p hl).datum

end Go.Proofs.YtjpjndfdncalfaaDoor
