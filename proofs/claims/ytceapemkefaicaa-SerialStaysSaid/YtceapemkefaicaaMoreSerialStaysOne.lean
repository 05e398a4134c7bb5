/-
  What the functions compute that the statement reaches: contracts, and the plain laws between them. Conditions stand at each theorem.
-/
import Derived.Test.YtceapemkefaicaaWalkSix
set_option linter.unusedVariables false
set_option linter.unusedSimpArgs false
/- Serials: how long things are. -/
namespace Pl
open Go Ab
set_option linter.unusedVariables false
set_option linter.unusedSimpArgs false
theorem small_ok {s : Ser} (h : smallS s = true) : s.iss.length ≤ 140 ∧ s.pat.skip.length ≤ 20 ∧ s.pat.dbl.length ≤ 20 := by
  unfold smallS at h; simp at h; omega
def LenS (s : Ser) : Prop := s.pat.skip.length ≤ 100000 ∧ s.pat.dbl.length ≤ 100000 ∧ s.iss.length ≤ 100000
theorem len_z : LenS zSer := by unfold LenS; decide
theorem len_new (r : Int) {p : Pat} (h : (0 : Nat) ≤ 140 ∧ p.skip.length ≤ 20 ∧ p.dbl.length ≤ 20) : LenS (newR r p).1 := by
  unfold newR
  split
  · exact len_z
  · split
    · exact len_z
    · unfold LenS; simp; omega
theorem len_exp {s : Ser} (d : Int) (h : s.iss.length ≤ 140 ∧ s.pat.skip.length ≤ 20 ∧ s.pat.dbl.length ≤ 20) : LenS (expR s d).1 := by
  have := list_len s.pat s.next (untilR s.pat d - s.next)
  unfold expR
  split
  · unfold LenS; simp only; omega
  · split
    · exact len_z
    · unfold LenS; simp only [List.length_append]; omega
theorem len_rec {s : Ser} (v n it : Int) (h : s.iss.length ≤ 140 ∧ s.pat.skip.length ≤ 20 ∧ s.pat.dbl.length ≤ 20) : LenS (recR s v n it).1 := by
  unfold recR
  split
  · exact len_z
  · split
    · exact len_z
    · split
      · exact len_z
      · unfold LenS; simp only [List.length_set]; omega
theorem len_miss {s : Ser} (v n : Int) (h : s.iss.length ≤ 140 ∧ s.pat.skip.length ≤ 20 ∧ s.pat.dbl.length ≤ 20) : LenS (missR s v n).1 := by
  unfold missR
  split
  · exact len_z
  · split
    · exact len_z
    · unfold LenS; simp only [List.length_set]; omega
theorem len_claim {s : Ser} (d w : Int) (h : s.iss.length ≤ 140 ∧ s.pat.skip.length ≤ 20 ∧ s.pat.dbl.length ≤ 20) : LenS (claimR s d w).1 := by
  unfold claimR LenS; simp only [List.length_map]; omega
theorem len_claim2 {s : Ser} (d w : Int) (h : s.iss.length ≤ 140 ∧ s.pat.skip.length ≤ 20 ∧ s.pat.dbl.length ≤ 20) : (claimR s d w).2.length ≤ 100000 := by
  have := lateIx_len d w s.iss 0
  unfold claimR; simp only; omega
theorem len_bind {s : Ser} (v it : Int) (h : s.iss.length ≤ 140 ∧ s.pat.skip.length ≤ 20 ∧ s.pat.dbl.length ≤ 20) : LenS (bindR s v it).1 := by
  unfold bindR
  split
  · exact len_z
  · split
    · exact len_z
    · split
      · exact len_z
      · unfold LenS; simp only [List.length_map]; omega
theorem SerOk.free {s : Ser} (h : SerOk s) {x : Iss} (hx : x ∈ s.iss) (hs : x.st = 1 ∨ x.st = 3) : x.item = 0 := by
  obtain ⟨i, hi⟩ := List.getElem?_of_mem hx
  have := h.iss hi; omega
theorem iss_rec {s : Ser} (v n it : Int) (h : s.iss.length ≤ 1000) : (recR s v n it).1.iss.length ≤ 1000 := by
  unfold recR
  split
  · exact Nat.zero_le _
  · split
    · exact Nat.zero_le _
    · split
      · exact Nat.zero_le _
      · simp only [List.length_set]; exact h
theorem iss_miss {s : Ser} (v n : Int) (h : s.iss.length ≤ 1000) : (missR s v n).1.iss.length ≤ 1000 := by
  unfold missR
  split
  · exact Nat.zero_le _
  · split
    · exact Nat.zero_le _
    · simp only [List.length_set]; exact h
theorem iss_bind {s : Ser} (v it : Int) (h : s.iss.length ≤ 1000) : (bindR s v it).1.iss.length ≤ 1000 := by
  unfold bindR
  split
  · exact Nat.zero_le _
  · split
    · exact Nat.zero_le _
    · split
      · exact Nat.zero_le _
      · simp only [List.length_map]; exact h
theorem iss_claim {s : Ser} (d w : Int) (h : s.iss.length ≤ 1000) : (claimR s d w).1.iss.length ≤ 1000 := by
  unfold claimR; simp only [List.length_map]; exact h
theorem claim_again (s : Ser) (d w : Int) : (claimR (claimR s d w).1 d w).2 = [] := late_none _ _
/-- a loop that finds no fault -/
def trU {α : Type} : Unit → List α → Bool
  | _, [] => true
  | _, _ :: l => trU () l
def FndC (v n : Int) (x : Iss) : Prop := (x.vol = v ∧ (x.num = n ∨ x.num ≤ n ∧ n ≤ x.last)) ∧ (x.st = 2 ∨ x.st = 4)
instance (v n : Int) (x : Iss) : Decidable (FndC v n x) := by unfold FndC; infer_instance
def fndB (v n : Int) : Bool → List Iss → Bool
  | b, [] => b
  | b, x :: l => fndB v n (b || decide (FndC v n x)) l
theorem fndB_true (v n : Int) : ∀ l : List Iss, fndB v n true l = true
  | [] => rfl
  | x :: l => by unfold fndB; rw [Bool.true_or]; exact fndB_true v n l
theorem fndB_mem {v n : Int} : ∀ {l : List Iss} (b : Bool) {y : Iss}, y ∈ l → FndC v n y → fndB v n b l = true
  | x :: l, b, y, hy, hf => by
    unfold fndB
    rcases List.mem_cons.1 hy with rfl | hy
    · rw [decide_eq_true hf, Bool.or_true]; exact fndB_true v n l
    · exact fndB_mem _ hy hf
theorem held_fnd {s : Ser} (h : SerOk s) {v n : Int} (hv : heldB s.iss s.pat.per v = true) (h1 : 1 ≤ n) (h2 : n ≤ s.pat.per) : fndB v n false s.iss = true := by
  obtain ⟨y, hy, hn, hs⟩ := held_num h hv h1 h2
  exact fndB_mem false hy ⟨hn, hs⟩
theorem gap_len : ∀ (l : List Iss) (i : Int), (gapF i l).length ≤ l.length
  | [], _ => by simp [gapF]
  | x :: l, i => by
    have := gap_len l (i + 1)
    unfold gapF
    split
    · simp only [List.length_cons]; omega
    · simp only [List.length_cons]; omega
theorem len_gaps {s : Ser} (h : SerOk s) : (gapsR s).length ≤ 100000 := by have := gap_len s.iss 0; have := h.len; unfold gapsR; omega
theorem addS_len (o : List Spn) (v : Int) : (addS o v).length ≤ o.length + 1 := by
  unfold addS
  split
  · split
    · simp <;> omega
    · simp
  · simp
theorem hld_len (l : List Iss) (per : Int) : ∀ (r : List Iss) (i : Nat) (o : List Spn), (hldF l per (i, o) r).length ≤ o.length + r.length
  | [], i, o => by simp [hldF]
  | x :: r, i, o => by
    rw [hldF_go]
    split
    · have := hld_len l per r (i + 1) o; simp only [List.length_cons]; omega
    · have := hld_len l per r (i + 1) (addS o x.vol); have := addS_len o x.vol; simp only [List.length_cons]; omega
theorem len_held {s : Ser} (h : SerOk s) : (heldR s).length ≤ 100000 := by have h1 := hld_len s.iss s.pat.per s.iss 0 []; have h2 := h.len; unfold heldR; rw [List.length_nil] at h1; omega
end Pl

set_option maxRecDepth 100000
set_option linter.unusedSimpArgs false
set_option linter.unusedVariables false
namespace Go.Proofs.Ytceapemkefaicaa
open Go Ab Pl
theorem ref37_Small (s : Ser) : ACalls E.P 14 [encSer s] (.d (.bool (smallS s))) := by
  refine ACalls.intro E_ok Try.func14 rfl rfl Try.ntmps14 Try.results14 (Nat.le_of_ble_eq_true rfl) fun hok base S0 w0 => ?_
  -- region 0
  refine AWp.rseq E_ok [0, 1, 2] fun K hK => ?_
  simp [encSer_eq, encIsss_eq, encInts_eq]
  repeat refine ⟨by first | omega | assumption | (simp only [maxLen]; omega) | (intros; omega) | decide, ?_⟩
  refine hK _ ?_
  clear hK K
  -- region 1
  refine AWp.rseq E_ok [0, 1, 2] fun K hK => ?_
  simp [encSer_eq, encIsss_eq, encInts_eq]
  repeat refine ⟨by first | omega | assumption | (simp only [maxLen]; omega) | (intros; omega) | decide, ?_⟩
  refine hK _ ?_
  clear hK K
  refine AWp.ret ?_
  repeat first | refine thenN ?_ | refine thenX ?_ | refine thenR ?_ | refine blockN ?_ | refine blockR ?_ | refine blockX ?_ | refine blockM rfl ?_
  simp [RetOk, RV, smallS]; rw [Bool.eq_iff_iff]; simp; omega
end Go.Proofs.Ytceapemkefaicaa
